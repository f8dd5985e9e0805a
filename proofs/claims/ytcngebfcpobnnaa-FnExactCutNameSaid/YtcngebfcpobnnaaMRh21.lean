/- Several texts in one: what the claim's last text rests on. No conditions. -/
import Derived.Test.YtcngebfcpobnnaaMRh18
import Derived.Test.YtcngebfcpobnnaaMRh20
import Derived.Test.YtcngebfcpobnnaaMRh19
import Derived.Test.YtcngebfcpobnnaaMRh7
import Derived.Test.YtcngebfcpobnnaaMRh8
import Derived.Test.YtcngebfcpobnnaaMRh9
import Derived.Test.YtcngebfcpobnnaaMRh5
import Derived.Test.YtcngebfcpobnnaaMRh15
section
namespace Go.Proofs.Ytcngebfcpobnnaa.Rx
set_option linter.unusedVariables false
set_option linter.unusedSimpArgs false
open Go.RowKit Go.Proofs.Ytcngebfcpobnnaa.PQ Go.Proofs.YtcngebfcpobnnaaW.PrintWords Go.Proofs.YtcngebfcpobnnaaW.PrintLast Go.Proofs.Ytcngebfcpobnnaa.Pre Go.Proofs.Ytcngebfcpobnnaa.CmpL Go.Proofs.Ytcngebfcpobnnaa.Com Go.Proofs.Ytcngebfcpobnnaa.Sml Go.Proofs.Ytcngebfcpobnnaa.SrE
/-- A list without its element number k. -/
def but (l : List ByteArray) (k : Nat) : List ByteArray := l.take k ++ l.drop (k + 1)
theorem but_sub (l : List ByteArray) (k : Nat) : (but l k).Sublist l := by
 unfold but
 conv => rhs; rw [← List.take_append_drop k l]
 refine List.Sublist.append (List.Sublist.refl _) ?_
 rw [← List.drop_drop]
 exact List.drop_sublist _ _
theorem but_names {l : List ByteArray} (h : Names l) (k : Nat) : Names (but l k) := ⟨h.rise.sublist (but_sub l k), fun n hn => h.each n ((but_sub l k).subset hn)⟩
/-- Where a text stands first. -/
def at_ (l : List ByteArray) (s : ByteArray) (k : Nat) : Prop := ∃ h : k < l.length, l[k] = s ∧ ∀ j, ∀ hj : j < k, l[j]'(by omega) ≠ s
theorem at_or (l : List ByteArray) (s : ByteArray) : s ∉ l ∨ ∃ k, at_ l s k := by
 by_cases h : s ∈ l
 ·
  right
  obtain ⟨i, hi, e⟩ := List.getElem_of_mem h
  have key : ∀ m i, i ≤ m → (∃ h : i < l.length, l[i] = s) → ∃ k, at_ l s k := by
   intro m
   induction m with
   | zero =>
    rintro i hi ⟨h, e⟩
    exact ⟨i, h, e, fun j hj => by omega⟩
   | succ m ih =>
    rintro i hi ⟨h, e⟩
    by_cases hx : ∃ j, ∃ hj : j < i, l[j]'(by omega) = s
    ·
     obtain ⟨j, hj, e2⟩ := hx
     exact ih j (by omega) ⟨by omega, e2⟩
    ·
     exact ⟨i, h, e, fun j hj e2 => hx ⟨j, hj, e2⟩⟩
  exact key i i (Nat.le_refl _) ⟨hi, e⟩
 ·
  exact .inl h
theorem at_uniq {l : List ByteArray} {s : ByteArray} {k k' : Nat} (h : at_ l s k) (h' : at_ l s k') : k = k' := by
 obtain ⟨h1, h2, h3⟩ := h
 obtain ⟨g1, g2, g3⟩ := h'
 rcases Nat.lt_trichotomy k k' with h | h | h
 ·
  exact absurd h2 (g3 k h)
 ·
  exact h
 ·
  exact absurd g2 (h3 k' h)
theorem index_hit {l : List ByteArray} {s : ByteArray} {k : Nat} (hl : l.length ≤ 1048576) (h : at_ l s k) : Evt (fun n => slices_Index_string_string.f n l s) (k : Int) := by
 obtain ⟨h1, h2, h3⟩ := h
 have key : ∀ (m i : Nat), i + m = k → Evt (fun n => slices_Index_string_string.l0 n l s (l.length : Int) (i : Int)) (k : Int) := by
  intro m
  induction m with
  | zero =>
   intro i hi
   obtain rfl : i = k := by omega
   refine Evt.step (fun n => slices_Index_string_string.l0.eq_2 _ _ _ _ n) (Evt.pos (by omega) (Evt.pos (by omega) (Evt.pos (by omega) ?_)))
   rw [rd_str l i h1]
   exact Evt.pos (by rw [h2]) (Evt.const _)
  | succ m ih =>
   intro i hi
   refine Evt.step (fun n => slices_Index_string_string.l0.eq_2 _ _ _ _ n) (Evt.pos (by omega) (Evt.pos (by omega) (Evt.pos (by omega) ?_)))
   rw [rd_str l i (by omega), w64 (n := (i : Int) + 1) (by omega) (by omega)]
   exact Evt.neg (fun e => h3 i (by omega) (Byt.toList_inj e).symm) (ih (i + 1) (by omega))
 exact key k 0 (by omega)
theorem index_miss {l : List ByteArray} {s : ByteArray} (hl : l.length ≤ 1048576) (h : s ∉ l) : Evt (fun n => slices_Index_string_string.f n l s) (-1) := by
 have key : ∀ (m i : Nat), i + m = l.length → Evt (fun n => slices_Index_string_string.l0 n l s (l.length : Int) (i : Int)) (-1) := by
  intro m
  induction m with
  | zero =>
   intro i hi
   exact Evt.step (fun n => slices_Index_string_string.l0.eq_2 _ _ _ _ n) (Evt.neg (by omega) (Evt.const _))
  | succ m ih =>
   intro i hi
   refine Evt.step (fun n => slices_Index_string_string.l0.eq_2 _ _ _ _ n) (Evt.pos (by omega) (Evt.pos (by omega) (Evt.pos (by omega) ?_)))
   rw [rd_str l i (by omega), w64 (n := (i : Int) + 1) (by omega) (by omega)]
   exact Evt.neg (fun e => h (by rw [Byt.toList_inj e]; exact List.getElem_mem _)) (ih (i + 1) (by omega))
 exact key l.length 0 (by omega)
theorem index_any (l : List ByteArray) (s : ByteArray) (hl : l.length ≤ 1048576) : ∃ i : Int, Evt (fun n => slices_Index_string_string.f n l s) i := by
 rcases at_or l s with h | ⟨k, h⟩
 ·
  exact ⟨_, index_miss hl h⟩
 ·
  exact ⟨_, index_hit hl h⟩
theorem ansRad_self {L : List ByteArray} (h : Names L) (h40 : L.length ≤ 40) : ansRad L = (tree L, true) := by
 have := tells_self h h40
 exact Prod.ext this.2 this.1
theorem tree_inj {L L' : List ByteArray} (h : Names L) (h' : Names L') (e : tree L = tree L') : L = L' := by
 have h1 := (tree_facts h).1
 have h2 := (tree_facts h').1
 rw [e] at h1
 exact h1.symm.trans h2
def Cut (r : List Eg) (s : ByteArray) (T : List Eg) : Prop := ∃ L k, Names L ∧ L.length ≤ 40 ∧ tree L = r ∧ at_ L s k ∧ T = tree (but L k)
theorem cut_uniq {r : List Eg} {s : ByteArray} {T T' : List Eg} (h : Cut r s T) (h' : Cut r s T') : T = T' := by
 obtain ⟨L, k, h1, _, h3, h4, rfl⟩ := h
 obtain ⟨L', k', g1, _, g3, g4, rfl⟩ := h'
 obtain rfl := tree_inj h1 g1 (h3.trans g3.symm)
 rw [at_uniq h4 g4]
open Classical in
/-- What CutName answers. -/
noncomputable def ansCut (r : List Eg) (s : ByteArray) : List Eg × Bool := if h : ∃ T, Cut r s T then (h.choose, true) else ([], false)
theorem ansCut_yes {r : List Eg} {s : ByteArray} {T : List Eg} (h : Cut r s T) : ansCut r s = (T, true) := by
 unfold ansCut
 rw [dif_pos ⟨T, h⟩, cut_uniq (Exists.choose_spec (⟨T, h⟩ : ∃ T, Cut r s T)) h]
theorem ansCut_no {r : List Eg} {s : ByteArray} (h : ∀ T, ¬ Cut r s T) : ansCut r s = ([], false) := by
 unfold ansCut
 rw [dif_neg (fun ⟨T, hT⟩ => h T hT)]
theorem ansCut_out {L : List ByteArray} {s : ByteArray} (h : Names L) (hn : s ∉ L) : ansCut (tree L) s = ([], false) := ansCut_no fun T ⟨L', k, h1, _, h3, ⟨h4, h5, _⟩, _⟩ => by
 obtain rfl := tree_inj h1 h h3
 exact hn (h5 ▸ List.getElem_mem h4)
theorem ansCut_bad {r : List Eg} {s : ByteArray} (h : ¬ ∃ L, Names L ∧ L.length ≤ 40 ∧ tree L = r) : ansCut r s = ([], false) := ansCut_no fun T ⟨L, _, h1, h2, h3, _⟩ => h ⟨L, h1, h2, h3⟩
theorem ansCut_len (r : List Eg) (s : ByteArray) : (ansCut r s).1.length ≤ 81 := by
 by_cases h : ∃ T, Cut r s T
 ·
  obtain ⟨T, hT⟩ := h
  rw [ansCut_yes hT]
  obtain ⟨L, k, h1, h2, _, _, rfl⟩ := hT
  exact (tree_short (but_names h1 k) (by have := (but_sub L k).length_le; omega)).2
 ·
  rw [ansCut_no (fun T hT => h ⟨T, hT⟩)]
  exact Nat.zero_le _
theorem tree_or (r : List Eg) (hm : r.length ≤ 1048576) (hz : ∀ e ∈ r, e.f0.size ≤ 1048576) : (∃ L, Names L ∧ L.length ≤ 40 ∧ tree L = r ∧ Evt (fun k => impl_namesOf.f k r) (L, true) ∧ Evt (fun k => spec_l13Good.f k r) (L, true)) ∨
  (∃ x, x.length ≤ 81 ∧ Evt (fun k => impl_namesOf.f k r) (x, false) ∧ Evt (fun k => spec_l13Good.f k r) ([], false) ∧ ¬ ∃ L, Names L ∧ L.length ≤ 40 ∧ tree L = r) := by
 rcases both r hm hz with h | ⟨x, hx, h1, h2⟩
 ·
  exact .inl h
 ·
  refine .inr ⟨x, hx, h1, h2, ?_⟩
  rintro ⟨L, q1, q2, q3⟩
  have := impl_names q1 q2
  rw [q3] at this
  have e := Evt.uniq this h1
  cases e
theorem specCut_ev (r : List Eg) (s : ByteArray) (hm : r.length ≤ 1048576) (hz : ∀ e ∈ r, e.f0.size ≤ 1048576) : Evt (fun k => spec_CutName.f k r s) (ansCut r s) := by
 unfold spec_CutName.f
 rcases tree_or r hm hz with ⟨L, hL, h40, ht, _, h2⟩ | ⟨x, _, _, h2, hno⟩
 ·
  refine Evt.bind h2 (Evt.pos rfl ?_)
  rcases at_or L s with hn | ⟨k, hk⟩
  ·
   rw [← ht, ansCut_out hL hn]
   have key : ∀ (m i : Nat), i + m = L.length → Evt (fun n => spec_CutName.l0 n s L L (L.length : Int) (i : Int)) ([], false) := by
    intro m
    induction m with
    | zero =>
     intro i hi
     exact Evt.step (fun n => spec_CutName.l0.eq_2 _ _ _ _ _ n) (Evt.neg (by omega) (Evt.const _))
    | succ m ih =>
     intro i hi
     refine Evt.step (fun n => spec_CutName.l0.eq_2 _ _ _ _ _ n) (Evt.pos (by omega) (Evt.pos (by omega) (Evt.pos (by omega) ?_)))
     rw [rd_str L i (by omega), w64 (n := (i : Int) + 1) (by omega) (by omega)]
     exact Evt.neg (fun e => hn (by rw [← Byt.toList_inj e]; exact List.getElem_mem _)) (ih (i + 1) (by omega))
   exact key L.length 0 (by omega)
  ·
   rw [ansCut_yes ⟨L, k, hL, h40, ht, hk, rfl⟩]
   obtain ⟨h1, h2, h3⟩ := hk
   have key : ∀ (m i : Nat), i + m = k → Evt (fun n => spec_CutName.l0 n s L L (L.length : Int) (i : Int)) (tree (but L k), true) := by
    intro m
    induction m with
    | zero =>
     intro i hi
     obtain rfl : i = k := by omega
     refine Evt.step (fun n => spec_CutName.l0.eq_2 _ _ _ _ _ n) (Evt.pos (by omega) (Evt.pos (by omega) (Evt.pos (by omega) ?_)))
     rw [rd_str L i h1, w64 (n := (i : Int) + 1) (by omega) (by omega)]
     refine Evt.pos (by rw [h2]) (Evt.bsome (Evt.pos (by omega) (Evt.bsome (Evt.pos (by simp; omega) (Evt.bsome (Evt.pos (by omega) (Evt.pos (by omega) (Evt.bsome (Evt.pos (by simp; omega) ?_)))))))))
     have e : ([] : List ByteArray) ++ L.take ((i : Int)).toNat ++ L.drop (((i : Int) + 1)).toNat = but L i := by
      rw [show ((i : Int) + 1).toNat = i + 1 by omega, Int.toNat_natCast]
      rfl
     rw [e]
     exact Evt.bind (spec_tree (but_names hL i) (by have := (but_sub L i).length_le; omega)) (Evt.const _)
    | succ m ih =>
     intro i hi
     refine Evt.step (fun n => spec_CutName.l0.eq_2 _ _ _ _ _ n) (Evt.pos (by omega) (Evt.pos (by omega) (Evt.pos (by omega) ?_)))
     rw [rd_str L i (by omega), w64 (n := (i : Int) + 1) (by omega) (by omega)]
     exact Evt.neg (fun e => h3 i (by omega) (Byt.toList_inj e)) (ih (i + 1) (by omega))
   exact key k 0 (by omega)
 ·
  rw [ansCut_bad hno]
  exact Evt.bind h2 (Evt.neg (by simp) (Evt.const _))
end Go.Proofs.Ytcngebfcpobnnaa.Rx
end

section
namespace Go.Proofs.Ytcngebfcpobnnaa.CutW
set_option linter.unusedVariables false
set_option linter.unusedSimpArgs false
open Go.RowKit Go.Sort Go.Lib Go.Proofs.Ytcngebfcpobnnaa.PQ Go.Proofs.YtcngebfcpobnnaaW.PrintWords Go.Proofs.YtcngebfcpobnnaaW.PrintLast Go.Proofs.YtcngebfcpobnnaaW.PrintMore Go.Proofs.Ytcngebfcpobnnaa.Pre Go.Proofs.Ytcngebfcpobnnaa.Sml Go.Proofs.Ytcngebfcpobnnaa.SrE Go.Proofs.Ytcngebfcpobnnaa.Rx
theorem delete_calls (xs : List ByteArray) (k : Nat) (v : Value) (W : World) (base : Nat) (ok : Nat → Prop) (h : Kd.string.R 9 W base ok v xs) (hx : xs.length ≤ 1048576) (hk : k < xs.length) :
  Calls Try.prog 60 #[v, .int .i64 (k : Int), .int .i64 ((k + 1 : Nat) : Int)] W fun e w' => ∃ A n c, e = .returned (.slice A n c) ∧ HasL w' A n c (but xs k) ∧ W.grownBy w' v.ownBlock := by
 obtain ⟨g, cg, rfl, gb, gl, cells, HG⟩ := Kd.R_form h (by omega)
 obtain ⟨hH, hgl, hgb⟩ := R_holds (enc := Value.string) h
 obtain ⟨A', c', e', hl', _⟩ := Kd.R_reads h
 injection e' with e1 e2 e3
 have hcg : cg ≤ 9223372036854775807 := by
  obtain ⟨_, h2 | ⟨g', cap', cur, e4, _, _, _, hcap, _⟩⟩ := Kd.own_of_R (enc := Value.string) h
  ·
   cases h2.1
  ·
   injection e4 with _ _ e5
   rw [e5]
   exact hcap
 have hH2 : Holds encStr W g 0 (xs.map (fun x : ByteArray => x.toList)).toArray := by
  intro j hj
  have hj2 : j < xs.length := by simpa using hj
  obtain ⟨h1, h2⟩ := hH j (by simpa using hj2)
  refine ⟨?_, h2⟩
  rw [h1, getElem!_pos _ j (by simpa using hj2), getElem!_pos _ j hj]
  simp only [List.getElem_toArray, List.getElem_map]
  show some (Value.string xs[j]) = some (Value.string ⟨(xs[j].toList).toArray⟩)
  rw [ByteArray.toList_eq]
 have HT := Try.slices_Delete_string_f60 g 0 cg k (k + 1) (xs.map (fun x : ByteArray => x.toList)) W hH2 (by simp; omega) hcg (by omega) (by simp; omega)
 rw [show (xs.map (fun x : ByteArray => x.toList)).length = xs.length from by simp] at HT
 refine HT.mono ?_
 rintro e w' ⟨rfl, q, rfl⟩
 have e1 : (xs.map (fun x : ByteArray => x.toList)).take k ++ (xs.map (fun x : ByteArray => x.toList)).drop (k + 1) ++ List.replicate (k + 1 - k) [] = (but xs k ++ [(⟨#[]⟩ : ByteArray)]).map (fun x : ByteArray => x.toList) := by
  unfold but
  rw [Nat.add_sub_cancel_left, List.map_append, List.map_append, List.map_take, List.map_drop, List.map_singleton, ByteArray.toList_eq]
  rfl
 have hbl : (but xs k).length = xs.length - 1 := by
  unfold but
  rw [List.length_append, List.length_take, List.length_drop]
  omega
 rw [e1, put_texts]
 refine ⟨_, _, _, rfl, ⟨by omega, by omega, Kd.C_of_reads (d := ByteArray.empty) ⟨by omega, by omega, fun hn => ⟨⟨g, 0, none⟩, rfl, fun j hj => ?_⟩⟩⟩, ?_⟩
 ·
  have hh := holds_putRow Value.string (Sort.ahead W q) g 0 xs.toArray (but xs k ++ [(⟨#[]⟩ : ByteArray)]).toArray (holds_ahead Value.string W q g 0 _ hH) (by simp; omega)
  have hj2 : j < (but xs k).length := by omega
  have hj3 : j < (but xs k ++ [(⟨#[]⟩ : ByteArray)]).toArray.size := by simp; omega
  rw [Rws.add_plain', (hh j hj3).1, getElem!_pos _ j hj3]
  simp only [List.getElem_toArray]
  rw [List.getElem_append_left hj2, List.getD_eq_getElem?_getD, List.getElem?_eq_getElem hj2]
  rfl
 ·
  have h1 := sort_grown (enc := Value.string) (W := W) (g := g) q #[] (but xs k ++ [(⟨#[]⟩ : ByteArray)])
  unfold sortWorld at h1
  rw [grow_empty] at h1
  exact h1
theorem radix_tree (A : Option Addr) (c : Nat) {l : List ByteArray} (hN : Names l) (h40 : l.length ≤ 40) (w : World) (hr : Kd.C Kd.string w A l.length l) :
  Calls Try.prog 14 #[.slice A l.length c] w fun e w' => ∃ v : Value, e = .returned (.tuple #[.agg #[v], .bool true]) ∧ Kd.R k64 64 w' w.heap.size (fun _ => True) v (tree l) ∧ Below w.heap.size w w' := by
 have := Rad.radix_calls A c l w hr ⟨by omega, fun s hs => by have := hN.size s hs; omega⟩
 rw [ansRad_self hN h40] at this
 exact this
set_option maxHeartbeats 2000000 in
set_option maxRecDepth 100000 in
theorem cut_calls (A : Option Addr) (c : Nat) (r : List Eg) (s : ByteArray) (w : World) (hr : Kd.C k64 w A r.length r) (hc : r.length ≤ c) (hm : r.length ≤ 1048576) (hz : ∀ x ∈ r, x.f0.size ≤ 1048576) :
  Calls Try.prog 34 #[.agg #[.slice A r.length c], .string s] w fun e w' => ∃ v : Value, e = .returned (.tuple #[.agg #[v], .bool (ansCut r s).2]) ∧ Kd.R k64 64 w' w.heap.size (fun _ => True) v (ansCut r s).1 ∧ Below w.heap.size w w' := by
 have HC := aM hr
 have HCC := aM hc
 have HM := aM hm
 have HB0 : Aside0 (Below w.heap.size w ((w.alloc (.cells #[.slice A r.length c] 26)).alloc (.cells #[.slice none 0 0] 26))) := ⟨below_alloc (below_alloc (Below.refl _ _) _) _⟩
 have HSZ : Aside0 (w.heap.size ≤ ((w.alloc (.cells #[.slice A r.length c] 26)).alloc (.cells #[.slice none 0 0] 26)).heap.size) := ⟨by simp; omega⟩
 have HS0 : Aside0 (w.heap.size + 2 ≤ ((w.alloc (.cells #[.slice A r.length c] 26)).alloc (.cells #[.slice none 0 0] 26)).heap.size) := ⟨by simp⟩
 have HR0 : Aside0 (((w.alloc (.cells #[.slice A r.length c] 26)).alloc (.cells #[.slice none 0 0] 26)).heap[w.heap.size + 1]? = some (.cells #[.slice none 0 0] 26 (0, 0))) := ⟨by
  show ((w.heap.push _).push _)[w.heap.size + 1]? = _
  rw [Array.getElem?_push, if_pos (by simp)]⟩
 rcases tree_or r hm hz with ⟨L, hL, h40, ht, h1, _⟩ | ⟨x, hx, h1, _, hno⟩
 ·
  obtain ⟨kg, hkg⟩ := h1.ex
  have EG := aM hkg
  rcases at_or L s with hn | ⟨k, hk⟩
  ·
   obtain ⟨ki, hki⟩ := (index_miss (by omega) hn).ex
   have EI := aM hki
   rw [← ht, ansCut_out hL hn, ht]
   clear hr hc hm hz h1 hkg hki hn hL h40 ht
   go_enter Try.func34, Try.ntmps34
   go_upto_region 3 with (first | (go_at_call 54; go_loud ((with_reducible refine (impl_namesOf.calls kg A c r L true _ (Kd.C_below HC.out HB0.out) HCC.out EG.out).mono ?_); rintro e w2 ⟨v2, rfl, ho, hb⟩; obtain ⟨A2, c2, e2, hl2, hC2⟩ := Kd.R_reads ho; subst e2; have HO2 := aM ho; have HL2 := aM hl2; have HC2 := aM hC2; have HR2 := aM ((hb.block (w.heap.size + 1) (by have := HS0.out; omega)).trans HR0.out); have HB2 := aM (below_then HB0.out HSZ.out hb); have HS2 := aM (Nat.le_trans HS0.out hb.size); clear ho hb hl2 hC2)) | (go_at_call 59; go_loud ((with_reducible refine (slices_Index_string_string.calls ki A2 c2 L s (-1) _ HC2.out HL2.out EI.out).mono ?_); rintro e w3 ⟨rfl, hd⟩; have HO3 := aM (Kd.R_below HO2.out hd.below); have HR3 := aM ((hd.below.block (w.heap.size + 1) (by have := HS2.out; omega)).trans HR2.out); have HB3 := aM (below_step HB2.out hd.below); have HS3 := aM (Nat.le_trans HS2.out hd.below.size); clear hd)))
   have cr : w3.cell? ⟨w.heap.size + 1, 0, none⟩ = some (.slice none 0 0) := (blk_cell HR3.out 0).trans rfl
   have fr : w3.frozen? ⟨w.heap.size + 1, 0, none⟩ = false := blk_frozen HR3.out 0
   go_wp2
   refine bodyPost_ret (results_ct rfl _ _ (w.heap.size + 1) 26 #[.slice none 0 0] (0, 0) _ rfl (blk_put HR3.out 0 _ rfl) Try.underlying26 rfl (by kernel_rfl)) rfl ?_
   exact ⟨_, rfl, Kd.R_nil _ _ _ _ _, HB3.out.setCell (p := ⟨w.heap.size + 1, 0, none⟩) (Nat.le_succ _) _⟩
  ·
   obtain ⟨ki, hki⟩ := (index_hit (by omega) hk).ex
   have EI := aM hki
   have HK := aM hk.1
   have hk1 := hk.1
   have HL := aM h40
   rw [ansCut_yes ⟨L, k, hL, h40, ht, hk, rfl⟩]
   have HNB := aM (but_names hL k)
   have HBL : Aside0 ((but L k).length ≤ 40) := ⟨by have := (but_sub L k).length_le; omega⟩
   have hneg : decide ((k : Int) < 0) = false := decide_eq_false (by omega)
   have hw1 : wrap64 ((k : Int) + 1) = ((k + 1 : Nat) : Int) := by rw [w64 (by omega) (by omega)]; omega
   have HW1 := aM hw1
   clear hr hc hm hz h1 hkg hki hk hk1 hL h40 ht hw1
   go_enter Try.func34, Try.ntmps34
   go_upto_region 5 with (first | (go_at_call 54; go_loud ((with_reducible refine (impl_namesOf.calls kg A c r L true _ (Kd.C_below HC.out HB0.out) HCC.out EG.out).mono ?_); rintro e w2 ⟨v2, rfl, ho, hb⟩; obtain ⟨A2, c2, e2, hl2, hC2⟩ := Kd.R_reads ho; subst e2; have HO2 := aM ho; have HL2 := aM hl2; have HC2 := aM hC2; have HR2 := aM ((hb.block (w.heap.size + 1) (by have := HS0.out; omega)).trans HR0.out); have HB2 := aM (below_then HB0.out HSZ.out hb); have HS2 := aM (Nat.le_trans HS0.out hb.size); clear ho hb hl2 hC2)) | (go_at_call 59; go_loud ((with_reducible refine (slices_Index_string_string.calls ki A2 c2 L s (k : Int) _ HC2.out HL2.out EI.out).mono ?_); rintro e w3 ⟨rfl, hd⟩; have HO3 := aM (Kd.R_below HO2.out hd.below); have HR3 := aM ((hd.below.block (w.heap.size + 1) (by have := HS2.out; omega)).trans HR2.out); have HB3 := aM (below_step HB2.out hd.below); have HS3 := aM (Nat.le_trans HS2.out hd.below.size); clear hd)))
   have cr : w3.cell? ⟨w.heap.size + 1, 0, none⟩ = some (.slice none 0 0) := (blk_cell HR3.out 0).trans rfl
   have fr : w3.frozen? ⟨w.heap.size + 1, 0, none⟩ = false := blk_frozen HR3.out 0
   go_wp2_with (first | (go_at_call 60; go_loud (rw [HW1.out]; (with_reducible refine (delete_calls L k _ _ _ _ HO3.out (by have := HL.out; omega) HK.out).mono ?_); rintro e w4 ⟨A4, n4, c4, rfl, hh, hg⟩; obtain ⟨hn4, hl4, hC4⟩ := hh; subst hn4; have HC4 := aM hC4; have HR4 := aM ((hg.block (w.heap.size + 1) (by have := HS3.out; omega) (fun e => by have h1 := Kd.R_base HO3.out _ e.symm; have := HS0.out; omega)).trans HR3.out); have HB4 := aM (HB3.out.grown hg (by have := HS3.out; omega) (fun k hk => by have h1 := Kd.R_base HO3.out _ hk; have := HS0.out; omega)); have HS4 := aM (Nat.le_trans HS3.out hg.size); clear hl4 hC4 hg)) | (go_at_call 14; go_loud ((with_reducible refine (radix_tree A4 c4 HNB.out HBL.out _ HC4.out).mono ?_); rintro e w5 ⟨v5, rfl, ho, hb⟩; obtain ⟨A5, c5, e5⟩ := Kd.R_slice ho; subst e5; have HO5 := aM ho; have HR5 := aM ((hb.block (w.heap.size + 1) (by have := HS4.out; omega)).trans HR4.out); have HB5 := aM (below_step HB4.out hb); have cr5 : w5.cell? ⟨w.heap.size + 1, 0, none⟩ = some (.slice none 0 0) := (blk_cell HR5.out 0).trans rfl; have fr5 : w5.frozen? ⟨w.heap.size + 1, 0, none⟩ = false := blk_frozen HR5.out 0; clear ho hb)))
   refine bodyPost_ret (results_ct rfl _ _ (w.heap.size + 1) 26 #[.slice A5 (tree (but L k)).length c5] (0, 0) _ rfl (blk_put HR5.out 0 _ rfl) Try.underlying26 rfl (by kernel_rfl)) rfl ?_
   refine ⟨_, rfl, ?_, HB5.out.setCell (p := ⟨w.heap.size + 1, 0, none⟩) (Nat.le_succ _) _⟩
   have h1 := Kd.R_far (p := ⟨w.heap.size + 1, 0, none⟩) (Kd.R_bound HO5.out) (fun k hk => by have h1 := hk.2.1; have := HS4.out; show k ≠ w.heap.size + 1; omega) (.slice A5 (tree (but L k)).length c5)
   exact Kd.R_mono (Kd.R_lower h1 (by have := HS4.out; omega)) (fun _ _ => trivial)
 ·
  obtain ⟨kg, hkg⟩ := h1.ex
  have EG := aM hkg
  obtain ⟨i, hi⟩ := index_any x s (by omega)
  obtain ⟨ki, hki⟩ := hi.ex
  have EI := aM hki
  rw [ansCut_bad hno]
  clear hr hc hm hz h1 hkg hki hno hx hi
  go_enter Try.func34, Try.ntmps34
  go_upto_region 3 with (first | (go_at_call 54; go_loud ((with_reducible refine (impl_namesOf.calls kg A c r x false _ (Kd.C_below HC.out HB0.out) HCC.out EG.out).mono ?_); rintro e w2 ⟨v2, rfl, ho, hb⟩; obtain ⟨A2, c2, e2, hl2, hC2⟩ := Kd.R_reads ho; subst e2; have HO2 := aM ho; have HL2 := aM hl2; have HC2 := aM hC2; have HR2 := aM ((hb.block (w.heap.size + 1) (by have := HS0.out; omega)).trans HR0.out); have HB2 := aM (below_then HB0.out HSZ.out hb); have HS2 := aM (Nat.le_trans HS0.out hb.size); clear ho hb hl2 hC2)) | (go_at_call 59; go_loud ((with_reducible refine (slices_Index_string_string.calls ki A2 c2 x s i _ HC2.out HL2.out EI.out).mono ?_); rintro e w3 ⟨rfl, hd⟩; have HO3 := aM (Kd.R_below HO2.out hd.below); have HR3 := aM ((hd.below.block (w.heap.size + 1) (by have := HS2.out; omega)).trans HR2.out); have HB3 := aM (below_step HB2.out hd.below); have HS3 := aM (Nat.le_trans HS2.out hd.below.size); clear hd)))
  have cr : w3.cell? ⟨w.heap.size + 1, 0, none⟩ = some (.slice none 0 0) := (blk_cell HR3.out 0).trans rfl
  have fr : w3.frozen? ⟨w.heap.size + 1, 0, none⟩ = false := blk_frozen HR3.out 0
  go_wp2
  refine bodyPost_ret (results_ct rfl _ _ (w.heap.size + 1) 26 #[.slice none 0 0] (0, 0) _ rfl (blk_put HR3.out 0 _ rfl) Try.underlying26 rfl (by kernel_rfl)) rfl ?_
  exact ⟨_, rfl, Kd.R_nil _ _ _ _ _, HB3.out.setCell (p := ⟨w.heap.size + 1, 0, none⟩) (Nat.le_succ _) _⟩
end Go.Proofs.Ytcngebfcpobnnaa.CutW
end

section
namespace Go.Proofs.Ytcngebfcpobnnaa.PQ
open Go.RowKit Go.Proofs.YtcngebfcpobnnaaW.PrintWords Go.Proofs.YtcngebfcpobnnaaW.PrintLast Go.Proofs.YtcngebfcpobnnaaW.PrintMore
attribute [local go_sem] max2_int min2_int max_two min_two max_three min_three max_four min_four
set_option linter.unusedVariables false
set_option linter.unusedSimpArgs false
noncomputable def impl_CutName.f (l0_0 : List (S64)) (a1 : ByteArray) : Option (List (S64) × Bool) := open Classical in if l0_0.length ≤ 1048576 ∧ ∀ e ∈ l0_0, e.f0.size ≤ 1048576 then some (Rx.ansCut l0_0 a1) else none
theorem impl_CutName.calls (A0_0 : Option Addr) (c0_0 : Nat) (l0_0 : List (S64)) (a1 : ByteArray) (r1 : List (S64)) (r2 : Bool) (w : World) (hr0_0 : Kd.C k64 w A0_0 l0_0.length l0_0) (hc0_0 : l0_0.length ≤ c0_0) (h : impl_CutName.f l0_0 a1 = some (r1, r2)) :
  Calls Try.prog 34 #[.agg #[.slice A0_0 l0_0.length c0_0], .string a1] w fun e w' => ∃ v0_ : Value, e = .returned (.tuple #[.agg #[v0_], .bool r2]) ∧ Kd.R k64 64 w' w.heap.size (fun _ => True) v0_ r1 ∧ Below w.heap.size w w' := by
 unfold impl_CutName.f at h
 split at h
 ·
  rename_i hs
  have h1 := Option.some.inj h
  have := CutW.cut_calls A0_0 c0_0 l0_0 a1 w hr0_0 hc0_0 hs.1 hs.2
  rw [h1] at this
  exact this
 ·
  cases h

mutual
noncomputable def laws_FnExactCutName.j0 : Nat → ByteArray → Bool → Bool → Bool → List (S80) → List (S64) → List (S64) → List (S64) → Option (Bool)
 | 0, _, _, _, _, _, _, _, _ => none
 | k + 1, x1, x7, x10, x47, x756000, x765000, x769000, x774000 => if x47 = true then (some false) else ((laws_toRadix.f k x756000).bind fun t775 => ((laws_eqRadix.f k x769000 t775).bind fun t778 => (if t778 = true then ((laws_markRadix.f k x769000 1).bind fun bt779 => (if bt779.1 < 0 then (laws_FnExactCutName.j1 k x1 x7 true x756000 x765000 x774000) else ((laws_eqRadix.f k x774000 x765000).bind fun t781 => (if t781 = true then (laws_FnExactCutName.j1 k x1 x7 (x10 != x7) x756000 x765000 x774000) else (laws_FnExactCutName.j1 k x1 x7 true x756000 x765000 x774000))))) else (some false))))
noncomputable def laws_FnExactCutName.j1 : Nat → ByteArray → Bool → Bool → List (S80) → List (S64) → List (S64) → Option (Bool)
 | 0, _, _, _, _, _, _ => none
 | k + 1, x1, x7, x68, x756000, x765000, x774000 => if x68 = true then (some false) else ((laws_markRadix.f k x774000 1).bind fun bt782 => ((laws_heldRadix.f k bt782.2 1).bind fun t784 => (if t784 < 0 then (some false) else (if t784 = bt782.1 then ((laws_toRadix.f k x756000).bind fun t785 => ((impl_CutName.f t785 x1).bind fun bt788 => ((laws_eqRadix.f k bt788.1 x765000).bind fun t793 => (if t793 = true then (laws_FnExactCutName.j2 k bt782.1 (bt788.2 != x7) bt782.2) else (laws_FnExactCutName.j2 k bt782.1 true bt782.2))))) else (some false)))))
noncomputable def laws_FnExactCutName.j2 : Nat → Int → Bool → List (S64) → Option (Bool)
 | 0, _, _, _ => none
 | k + 1, x12, x95, x774000 => if x95 = true then (some false) else ((laws_heldRadix.f k x774000 1).bind fun t794 => (if t794 < 0 then (some false) else (if t794 = x12 then (some true) else (some false))))
end
noncomputable def laws_FnExactCutName.f (k : Nat) (l0_0 : List (S80)) (a1 : ByteArray) : Option (Bool) := if (a1.size : Int) > 1048576 then (some true) else ((laws_szRadix.f k l0_0 1048576).bind fun t756 => (if t756 < 0 then (some true) else ((laws_toRadix.f k l0_0).bind fun t757 => ((spec_CutName.f k t757 a1).bind fun bt760 => ((laws_toRadix.f k l0_0).bind fun t765 => ((impl_CutName.f t765 a1).bind fun bt769 => ((laws_eqRadix.f k bt769.1 bt760.1).bind fun t774 => (if t774 = true then (laws_FnExactCutName.j0 k a1 bt760.2 bt769.2 (bt769.2 != bt760.2) l0_0 bt760.1 t765 bt769.1) else (laws_FnExactCutName.j0 k a1 bt760.2 bt769.2 true l0_0 bt760.1 t765 bt769.1)))))))))
set_option maxHeartbeats 8000000 in
set_option maxRecDepth 100000 in
theorem laws_FnExactCutName.calls (k : Nat) (A0_0 : Option Addr) (c0_0 : Nat) (l0_0 : List (S80)) (a1 : ByteArray) (r : Bool) (w : World) (hr0_0 : Kd.C k80 w A0_0 l0_0.length l0_0) (hc0_0 : l0_0.length ≤ c0_0) (h : laws_FnExactCutName.f k l0_0 a1 = some r) :
  Calls Try.prog 9 #[.agg #[.slice A0_0 l0_0.length c0_0], .string a1] w fun e w' => e = .returned (.bool r) ∧ Below w.heap.size w w' := by
 have hu36 := Try.underlying36
 have hu26 := Try.underlying26
 have HR0_0 := aM hr0_0
 have HC0_0 := aM hc0_0
 clear hr0_0 hc0_0
 have HB := aM (Below.refl w.heap.size w)
 have H : (if (a1.size : Int) > 1048576 then (some true) else ((laws_szRadix.f k l0_0 1048576).bind fun t756 => (if t756 < 0 then (some true) else ((laws_toRadix.f k l0_0).bind fun t757 => ((spec_CutName.f k t757 a1).bind fun bt760 => ((laws_toRadix.f k l0_0).bind fun t765 => ((impl_CutName.f t765 a1).bind fun bt769 => ((laws_eqRadix.f k bt769.1 bt760.1).bind fun t774 => (if t774 = true then (laws_FnExactCutName.j0 k a1 bt760.2 bt769.2 (bt769.2 != bt760.2) l0_0 bt760.1 t765 bt769.1) else (laws_FnExactCutName.j0 k a1 bt760.2 bt769.2 true l0_0 bt760.1 t765 bt769.1)))))))))) = some r := h
 clear h
 by_cases c3 : (a1.size : Int) > 1048576
 ·
  rw [if_pos c3] at H
  have c3b0 : decide (1048576 < (a1.size : Int)) = true := decide_eq_true c3
  have c3b1 : decide (1048576 < a1.size) = true := decide_eq_true (by omega)
  clear c3
  obtain rfl := Option.some.inj H
  go_enter Try.func9, Try.ntmps9
  go_wp2_with (first | ((with_reducible refine gate_dst (N := 2) rfl ?_); refine box_event ?hg (N := 2) ?hd (cs := #[.slice A0_0 l0_0.length c0_0]) (t := 36) ?hr ?_; (case hd => rfl); (case hg => rfl); (case hr => first | (go_simp; done) | (go_simp; rfl)); intro gb755 hg w4 hbox hb; have n0_ := aM (below_step (by repeat (first | (with_reducible first | exact HB.out | apply below_alloc | apply pw_below_drewN | apply below_drew1) | exact HB.out)) hb); have n1_ := aM (hbox); have n2_ := aM ((by rw [hg]; exact (below_size (by repeat (first | (with_reducible first | exact HB.out | apply below_alloc | apply pw_below_drewN | apply below_drew1) | exact HB.out))) : w.heap.size ≤ gb755)); have n3_ := aM ((by rw [hg]; exact (below_size (by repeat (first | (with_reducible first | exact HB.out | apply below_alloc | apply pw_below_drewN | apply below_drew1) | exact HB.out))) : w.heap.size ≤ gb755)); clear HB; have HB := n0_; have BK755 := n1_; have GW755 := n2_; have GE755 := n3_; clear n0_ n1_ n2_ n3_; clear hb hbox hg))
  go_ret
  exact ⟨by first | rfl | (simp [errW_none, errW_some] <;> rfl) | (simp [*, errW_none, errW_some] <;> rfl), by repeat (first | (with_reducible first | exact HB.out | apply below_alloc | apply pw_below_drewN | apply below_drew1 | refine below_set ?_ GE755.out) | exact HB.out)⟩
 ·
  rw [if_neg c3] at H
  have c3b0 : decide (1048576 < (a1.size : Int)) = false := decide_eq_false c3
  have c3b1 : decide (1048576 < a1.size) = false := decide_eq_false (by omega)
  clear c3
  replace H := Option.bind_eq_some_iff.mp H
  obtain ⟨t756, A50, H⟩ := H
  replace H : (if t756 < 0 then (some true) else ((laws_toRadix.f k l0_0).bind fun t757 => ((spec_CutName.f k t757 a1).bind fun bt760 => ((laws_toRadix.f k l0_0).bind fun t765 => ((impl_CutName.f t765 a1).bind fun bt769 => ((laws_eqRadix.f k bt769.1 bt760.1).bind fun t774 => (if t774 = true then (laws_FnExactCutName.j0 k a1 bt760.2 bt769.2 (bt769.2 != bt760.2) l0_0 bt760.1 t765 bt769.1) else (laws_FnExactCutName.j0 k a1 bt760.2 bt769.2 true l0_0 bt760.1 t765 bt769.1)))))))) = some r := H
  have A5 := aM A50
  clear A50
  by_cases c6 : t756 < 0
  ·
   rw [if_pos c6] at H
   have c6b0 : decide (t756 < 0) = true := decide_eq_true c6
   clear c6
   obtain rfl := Option.some.inj H
   go_enter Try.func9, Try.ntmps9
   go_wp2_with (first | ((with_reducible refine gate_dst (N := 2) rfl ?_); refine box_event ?hg (N := 2) ?hd (cs := #[.slice A0_0 l0_0.length c0_0]) (t := 36) ?hr ?_; (case hd => rfl); (case hg => rfl); (case hr => first | (go_simp; done) | (go_simp; rfl)); intro gb755 hg w7 hbox hb; have n0_ := aM (below_step (by repeat (first | (with_reducible first | exact HB.out | apply below_alloc | apply pw_below_drewN | apply below_drew1) | exact HB.out)) hb); have n1_ := aM (hbox); have n2_ := aM ((by rw [hg]; exact (below_size (by repeat (first | (with_reducible first | exact HB.out | apply below_alloc | apply pw_below_drewN | apply below_drew1) | exact HB.out))) : w.heap.size ≤ gb755)); have n3_ := aM ((by rw [hg]; exact (below_size (by repeat (first | (with_reducible first | exact HB.out | apply below_alloc | apply pw_below_drewN | apply below_drew1) | exact HB.out))) : w.heap.size ≤ gb755)); clear HB; have HB := n0_; have BK755 := n1_; have GW755 := n2_; have GE755 := n3_; clear n0_ n1_ n2_ n3_; clear hb hbox hg; have hcz8_0 : w7.cell? ⟨gb755, 0, none⟩ = some (.slice A0_0 l0_0.length c0_0) := (blk_cell BK755.out 0).trans rfl; have hfz8_0 := blk_frozen BK755.out 0) | ((with_reducible refine gate_callee (f := 20) rfl ?_); refine goesL_ (some 21) rfl rfl Try.func20 (by kernel_rfl) rfl #[.agg #[.slice A0_0 l0_0.length c0_0], .int .i64 1048576] rfl (by (try simp only [List.map_toArray, List.map_cons, List.map_nil]); first | done | rfl | (simp only [List.length_drop, List.length_take]; rfl)) ?_; (with_reducible refine (laws_szRadix.calls k _ _ l0_0 1048576 t756 _ ?side1 ?side2 A5.out).mono ?_); (case side1 => repeat (first | exact (Kd.C_below HR0_0.out HB.out) | (with_reducible refine Kd.C_alloc ?_ _) | (with_reducible refine Kd.C_drewN ?_ _) | (with_reducible refine Kd.C_drew ?_))); (case side2 => exact HC0_0.out); rintro e w9 ⟨rfl, hb⟩; refine ⟨_, rfl, ?_⟩; have n0_ := aM (blk_below (g := gb755) (o := .cells #[.slice A0_0 l0_0.length c0_0] 36 (0, 0)) (by (with_reducible repeat (first | refine blk_drewN ?_ _ | refine blk_drew ?_ | refine blk_alloc ?_ _)); exact BK755.out) hb); have n1_ := aM (below_step (by repeat (first | (with_reducible first | exact HB.out | apply below_alloc | apply pw_below_drewN | apply below_drew1 | refine below_set ?_ GE755.out) | exact HB.out)) hb); clear BK755; clear HB; have BK755 := n0_; have HB := n1_; clear n0_ n1_; (try clear hb); (try clear hb2); (try clear hk); (try clear hi)))
   go_ret
   exact ⟨by first | rfl | (simp [errW_none, errW_some] <;> rfl) | (simp [*, errW_none, errW_some] <;> rfl), by repeat (first | (with_reducible first | exact HB.out | apply below_alloc | apply pw_below_drewN | apply below_drew1 | refine below_set ?_ GE755.out) | exact HB.out)⟩
  ·
   rw [if_neg c6] at H
   have c6b0 : decide (t756 < 0) = false := decide_eq_false c6
   clear c6
   replace H := Option.bind_eq_some_iff.mp H
   obtain ⟨t757, A100, H⟩ := H
   replace H : ((spec_CutName.f k t757 a1).bind fun bt760 => ((laws_toRadix.f k l0_0).bind fun t765 => ((impl_CutName.f t765 a1).bind fun bt769 => ((laws_eqRadix.f k bt769.1 bt760.1).bind fun t774 => (if t774 = true then (laws_FnExactCutName.j0 k a1 bt760.2 bt769.2 (bt769.2 != bt760.2) l0_0 bt760.1 t765 bt769.1) else (laws_FnExactCutName.j0 k a1 bt760.2 bt769.2 true l0_0 bt760.1 t765 bt769.1)))))) = some r := H
   have A10 := aM A100
   clear A100
   replace H := Option.bind_eq_some_iff.mp H
   obtain ⟨⟨t760, t763⟩, A110, H⟩ := H
   replace H : ((laws_toRadix.f k l0_0).bind fun t765 => ((impl_CutName.f t765 a1).bind fun bt769 => ((laws_eqRadix.f k bt769.1 t760).bind fun t774 => (if t774 = true then (laws_FnExactCutName.j0 k a1 t763 bt769.2 (bt769.2 != t763) l0_0 t760 t765 bt769.1) else (laws_FnExactCutName.j0 k a1 t763 bt769.2 true l0_0 t760 t765 bt769.1))))) = some r := H
   have A11 := aM A110
   clear A110
   replace H := Option.bind_eq_some_iff.mp H
   obtain ⟨t765, A120, H⟩ := H
   replace H : ((impl_CutName.f t765 a1).bind fun bt769 => ((laws_eqRadix.f k bt769.1 t760).bind fun t774 => (if t774 = true then (laws_FnExactCutName.j0 k a1 t763 bt769.2 (bt769.2 != t763) l0_0 t760 t765 bt769.1) else (laws_FnExactCutName.j0 k a1 t763 bt769.2 true l0_0 t760 t765 bt769.1)))) = some r := H
   have A12 := aM A120
   clear A120
   replace H := Option.bind_eq_some_iff.mp H
   obtain ⟨⟨t769, t772⟩, A130, H⟩ := H
   replace H : ((laws_eqRadix.f k t769 t760).bind fun t774 => (if t774 = true then (laws_FnExactCutName.j0 k a1 t763 t772 (t772 != t763) l0_0 t760 t765 t769) else (laws_FnExactCutName.j0 k a1 t763 t772 true l0_0 t760 t765 t769))) = some r := H
   have A13 := aM A130
   clear A130
   have HC14 := aM H
   clear H
   go_enter Try.func9, Try.ntmps9
   go_upto_region 10 with (first | ((with_reducible refine gate_dst (N := 2) rfl ?_); refine box_event ?hg (N := 2) ?hd (cs := #[.slice A0_0 l0_0.length c0_0]) (t := 36) ?hr ?_; (case hd => rfl); (case hg => rfl); (case hr => first | (go_simp; done) | (go_simp; rfl)); intro gb755 hg w15 hbox hb; have n0_ := aM (below_step (by repeat (first | (with_reducible first | exact HB.out | apply below_alloc | apply pw_below_drewN | apply below_drew1) | exact HB.out)) hb); have n1_ := aM (hbox); have n2_ := aM ((by rw [hg]; exact (below_size (by repeat (first | (with_reducible first | exact HB.out | apply below_alloc | apply pw_below_drewN | apply below_drew1) | exact HB.out))) : w.heap.size ≤ gb755)); have n3_ := aM ((by rw [hg]; exact (below_size (by repeat (first | (with_reducible first | exact HB.out | apply below_alloc | apply pw_below_drewN | apply below_drew1) | exact HB.out))) : w.heap.size ≤ gb755)); clear HB; have HB := n0_; have BK755 := n1_; have GW755 := n2_; have GE755 := n3_; clear n0_ n1_ n2_ n3_; clear hb hbox hg; have hcz16_0 : w15.cell? ⟨gb755, 0, none⟩ = some (.slice A0_0 l0_0.length c0_0) := (blk_cell BK755.out 0).trans rfl; have hfz16_0 := blk_frozen BK755.out 0) | ((with_reducible refine gate_callee (f := 20) rfl ?_); refine goesL_ (some 21) rfl rfl Try.func20 (by kernel_rfl) rfl #[.agg #[.slice A0_0 l0_0.length c0_0], .int .i64 1048576] rfl (by (try simp only [List.map_toArray, List.map_cons, List.map_nil]); first | done | rfl | (simp only [List.length_drop, List.length_take]; rfl)) ?_; (with_reducible refine (laws_szRadix.calls k _ _ l0_0 1048576 t756 _ ?side1 ?side2 A5.out).mono ?_); (case side1 => repeat (first | exact (Kd.C_below HR0_0.out HB.out) | (with_reducible refine Kd.C_alloc ?_ _) | (with_reducible refine Kd.C_drewN ?_ _) | (with_reducible refine Kd.C_drew ?_))); (case side2 => exact HC0_0.out); rintro e w17 ⟨rfl, hb⟩; refine ⟨_, rfl, ?_⟩; have n0_ := aM (blk_below (g := gb755) (o := .cells #[.slice A0_0 l0_0.length c0_0] 36 (0, 0)) (by (with_reducible repeat (first | refine blk_drewN ?_ _ | refine blk_drew ?_ | refine blk_alloc ?_ _)); exact BK755.out) hb); have n1_ := aM (below_step (by repeat (first | (with_reducible first | exact HB.out | apply below_alloc | apply pw_below_drewN | apply below_drew1 | refine below_set ?_ GE755.out) | exact HB.out)) hb); clear BK755; clear HB; have BK755 := n0_; have HB := n1_; clear n0_ n1_; (try clear hb); (try clear hb2); (try clear hk); (try clear hi); have hcz18_0 : w17.cell? ⟨gb755, 0, none⟩ = some (.slice A0_0 l0_0.length c0_0) := (blk_cell BK755.out 0).trans rfl; have hfz18_0 := blk_frozen BK755.out 0) | ((with_reducible refine gate_callee (f := 22) rfl ?_); refine goesL_ (some 26) rfl rfl Try.func22 (by kernel_rfl) rfl #[.agg #[.slice A0_0 l0_0.length c0_0]] rfl (by (try simp only [List.map_toArray, List.map_cons, List.map_nil]); first | done | rfl | (simp only [List.length_drop, List.length_take]; rfl)) ?_; (with_reducible refine (laws_toRadix.calls k _ _ l0_0 t757 _ ?side1 ?side2 A10.out).mono ?_); (case side1 => repeat (first | exact (Kd.C_below HR0_0.out HB.out) | (with_reducible refine Kd.C_alloc ?_ _) | (with_reducible refine Kd.C_drewN ?_ _) | (with_reducible refine Kd.C_drew ?_))); (case side2 => exact HC0_0.out); rintro e w19 ⟨v758, rfl, ho0, hb⟩; refine ⟨_, rfl, ?_⟩; have n0_ := aM (Kd.R_lower ho0 (below_size (by repeat (first | (with_reducible first | exact HB.out | apply below_alloc | apply pw_below_drewN | apply below_drew1 | refine below_set ?_ GE755.out) | exact HB.out)))); have n1_ := aM (blk_below (g := gb755) (o := .cells #[.slice A0_0 l0_0.length c0_0] 36 (0, 0)) (by (with_reducible repeat (first | refine blk_drewN ?_ _ | refine blk_drew ?_ | refine blk_alloc ?_ _)); exact BK755.out) hb); have n2_ := aM (below_step (by repeat (first | (with_reducible first | exact HB.out | apply below_alloc | apply pw_below_drewN | apply below_drew1 | refine below_set ?_ GE755.out) | exact HB.out)) hb); clear BK755; clear HB; have HO759 := n0_; have BK755 := n1_; have HB := n2_; clear n0_ n1_ n2_; (try clear hb); (try clear hb2); (try clear hk); (try clear hi); (try clear ho0); obtain ⟨Ao20, co20, eo20⟩ := Kd.R_slice HO759.out; subst eo20) | ((with_reducible refine gate_callee (f := 33) rfl ?_); refine goesL_ (some 28) rfl rfl Try.func33 (by kernel_rfl) rfl #[.agg #[.slice Ao20 t757.length co20], .string a1] rfl (by (try simp only [List.map_toArray, List.map_cons, List.map_nil]); first | done | rfl | (simp only [List.length_drop, List.length_take]; rfl)) ?_; (with_reducible refine (spec_CutName.calls k _ _ t757 a1 t760 t763 _ ?side1 ?side2 A11.out).mono ?_); (case side1 => repeat (first | exact (Kd.R_reads' HO759.out).2.2 | (with_reducible refine Kd.C_alloc ?_ _) | (with_reducible refine Kd.C_drewN ?_ _) | (with_reducible refine Kd.C_drew ?_))); (case side2 => exact (Kd.R_reads' HO759.out).2.1); rintro e w21 ⟨v761, rfl, ho0, hb⟩; refine ⟨_, rfl, ?_⟩; have n0_ := aM (Kd.R_elder' (by (with_reducible repeat (first | apply Kd.R_alloc | apply Kd.R_drewN | apply Kd.R_drew)); exact HO759.out) (Kd.R_base ho0) hb); have n1_ := aM (Kd.R_lower (Kd.R_new' ho0 (Kd.R_lt (by (with_reducible repeat (first | apply Kd.R_alloc | apply Kd.R_drewN | apply Kd.R_drew)); exact HO759.out))) (below_size (by repeat (first | (with_reducible first | exact HB.out | apply below_alloc | apply pw_below_drewN | apply below_drew1 | refine below_set ?_ GE755.out) | exact HB.out)))); have n2_ := aM (blk_below (g := gb755) (o := .cells #[.slice A0_0 l0_0.length c0_0] 36 (0, 0)) (by (with_reducible repeat (first | refine blk_drewN ?_ _ | refine blk_drew ?_ | refine blk_alloc ?_ _)); exact BK755.out) hb); have n3_ := aM (below_step (by repeat (first | (with_reducible first | exact HB.out | apply below_alloc | apply pw_below_drewN | apply below_drew1 | refine below_set ?_ GE755.out) | exact HB.out)) hb); clear HO759; clear BK755; clear HB; have HO759 := n0_; have HO762 := n1_; have BK755 := n2_; have HB := n3_; clear n0_ n1_ n2_ n3_; (try clear hb); (try clear hb2); (try clear hk); (try clear hi); (try clear ho0)) | ((with_reducible refine gate_dst (N := 6) rfl ?_); refine box_event ?hg (N := 6) ?hd (cs := #[.slice none 0 0]) (t := 26) ?hr ?_; (case hd => rfl); (case hg => rfl); (case hr => first | (go_simp; done) | (go_simp; rfl)); intro gb764 hg w22 hbox hb; have n0_ := aM (Kd.R_below (by (with_reducible repeat (first | apply Kd.R_alloc | apply Kd.R_drewN | apply Kd.R_drew)); exact HO759.out) hb); have n1_ := aM (Kd.R_below (by (with_reducible repeat (first | apply Kd.R_alloc | apply Kd.R_drewN | apply Kd.R_drew)); exact HO762.out) hb); have n2_ := aM (blk_below (g := gb755) (o := .cells #[.slice A0_0 l0_0.length c0_0] 36 (0, 0)) (by (with_reducible repeat (first | refine blk_drewN ?_ _ | refine blk_drew ?_ | refine blk_alloc ?_ _)); exact BK755.out) hb); have n3_ := aM (below_step (by repeat (first | (with_reducible first | exact HB.out | apply below_alloc | apply pw_below_drewN | apply below_drew1 | refine below_set ?_ GE755.out) | exact HB.out)) hb); have n4_ := aM (hbox); have n5_ := aM ((by rw [hg]; exact (below_size (by repeat (first | (with_reducible first | exact HB.out | apply below_alloc | apply pw_below_drewN | apply below_drew1 | refine below_set ?_ GE755.out) | exact HB.out))) : w.heap.size ≤ gb764)); have n6_ := aM ((by rw [hg]; exact (below_size (by repeat (first | (with_reducible first | exact HB.out | apply below_alloc | apply pw_below_drewN | apply below_drew1 | refine below_set ?_ GE755.out) | exact HB.out))) : w.heap.size ≤ gb764)); have n7_ := aM ((by rw [hg]; exact Nat.ne_of_lt (blk_lt (g := gb755) (o := .cells #[.slice A0_0 l0_0.length c0_0] 36 (0, 0)) (by (with_reducible repeat (first | refine blk_drewN ?_ _ | refine blk_drew ?_ | refine blk_alloc ?_ _)); exact BK755.out)) : gb755 ≠ gb764)); have n8_ := aM ((by rw [hg]; exact Nat.ne_of_gt (blk_lt (g := gb755) (o := .cells #[.slice A0_0 l0_0.length c0_0] 36 (0, 0)) (by (with_reducible repeat (first | refine blk_drewN ?_ _ | refine blk_drew ?_ | refine blk_alloc ?_ _)); exact BK755.out)) : gb764 ≠ gb755)); clear HO759; clear HO762; clear BK755; clear HB; have HO759 := n0_; have HO762 := n1_; have BK755 := n2_; have HB := n3_; have BK764 := n4_; have GW764 := n5_; have GE764 := n6_; have NB755_764 := n7_; have NB764_755 := n8_; clear n0_ n1_ n2_ n3_ n4_ n5_ n6_ n7_ n8_; clear hb hbox hg; obtain ⟨Ao23, co23, eo23⟩ := Kd.R_slice HO762.out; subst eo23; have hnb24 := NB764_755.out; have hnc24 := NB755_764.out; have hcz25_0 : w22.cell? ⟨gb764, 0, none⟩ = some (.slice none 0 0) := (blk_cell BK764.out 0).trans rfl; have hfz25_0 := blk_frozen BK764.out 0; have hcz26_0 : w22.cell? ⟨gb755, 0, none⟩ = some (.slice A0_0 l0_0.length c0_0) := (blk_cell BK755.out 0).trans rfl; have hfz26_0 := blk_frozen BK755.out 0) | ((with_reducible refine gate_callee (f := 22) rfl ?_); refine goesL_ (some 32) rfl rfl Try.func22 (by kernel_rfl) rfl #[.agg #[.slice A0_0 l0_0.length c0_0]] rfl (by (try simp only [List.map_toArray, List.map_cons, List.map_nil]); first | done | rfl | (simp only [List.length_drop, List.length_take]; rfl)) ?_; (with_reducible refine (laws_toRadix.calls k _ _ l0_0 t765 _ ?side1 ?side2 A12.out).mono ?_); (case side1 => exact Kd.C_below HR0_0.out (by repeat (first | (with_reducible first | exact HB.out | apply below_alloc | apply pw_below_drewN | apply below_drew1 | refine below_set ?_ GE755.out | refine below_set ?_ GE764.out) | exact HB.out))); (case side2 => exact HC0_0.out); rintro e w27 ⟨v766, rfl, ho0, hb⟩; refine ⟨_, rfl, ?_⟩; have n0_ := aM (Kd.R_elder' (by (with_reducible repeat (first | apply Kd.R_alloc | apply Kd.R_drewN | apply Kd.R_drew)); exact (Kd.R_mono (Kd.R_far (p := ⟨gb764, 0, none⟩) (Kd.R_types HO759.out BK764.out (by decide)) (fun _ hk => hk.2) (.slice Ao23 t760.length co23)) (fun _ h_ => h_.1))) (Kd.R_base ho0) hb); have n1_ := aM (Kd.R_elder' (by (with_reducible repeat (first | apply Kd.R_alloc | apply Kd.R_drewN | apply Kd.R_drew)); exact (Kd.R_mono (Kd.R_far (p := ⟨gb764, 0, none⟩) (Kd.R_types HO762.out BK764.out (by decide)) (fun _ hk => hk.2) (.slice Ao23 t760.length co23)) (fun _ h_ => h_.1))) (Kd.R_base ho0) hb); have n2_ := aM (Kd.R_lower (Kd.R_new' (Kd.R_new' ho0 (Kd.R_lt (by (with_reducible repeat (first | apply Kd.R_alloc | apply Kd.R_drewN | apply Kd.R_drew)); exact (Kd.R_mono (Kd.R_far (p := ⟨gb764, 0, none⟩) (Kd.R_types HO759.out BK764.out (by decide)) (fun _ hk => hk.2) (.slice Ao23 t760.length co23)) (fun _ h_ => h_.1))))) (Kd.R_lt (by (with_reducible repeat (first | apply Kd.R_alloc | apply Kd.R_drewN | apply Kd.R_drew)); exact (Kd.R_mono (Kd.R_far (p := ⟨gb764, 0, none⟩) (Kd.R_types HO762.out BK764.out (by decide)) (fun _ hk => hk.2) (.slice Ao23 t760.length co23)) (fun _ h_ => h_.1))))) (below_size (by repeat (first | (with_reducible first | exact HB.out | apply below_alloc | apply pw_below_drewN | apply below_drew1 | refine below_set ?_ GE755.out | refine below_set ?_ GE764.out) | exact HB.out)))); have n3_ := aM (blk_below (g := gb755) (o := .cells #[.slice A0_0 l0_0.length c0_0] 36 (0, 0)) (by (with_reducible repeat (first | refine blk_drewN ?_ _ | refine blk_drew ?_ | refine blk_alloc ?_ _)); refine blk_far ?_ NB755_764.out _; (with_reducible repeat (first | refine blk_drewN ?_ _ | refine blk_drew ?_ | refine blk_alloc ?_ _)); exact BK755.out) hb); have n4_ := aM (blk_below (g := gb764) (o := .cells #[.slice Ao23 t760.length co23] 26 (0, 0)) (by (with_reducible repeat (first | refine blk_drewN ?_ _ | refine blk_drew ?_ | refine blk_alloc ?_ _)); refine blk_put (cs := #[.slice none 0 0]) ?_ 0 _ rfl; (with_reducible repeat (first | refine blk_drewN ?_ _ | refine blk_drew ?_ | refine blk_alloc ?_ _)); exact BK764.out) hb); have n5_ := aM (below_step (by repeat (first | (with_reducible first | exact HB.out | apply below_alloc | apply pw_below_drewN | apply below_drew1 | refine below_set ?_ GE755.out | refine below_set ?_ GE764.out) | exact HB.out)) hb); clear HO759; clear HO762; clear BK755; clear BK764; clear HB; have HO759 := n0_; have HO762 := n1_; have HO767 := n2_; have BK755 := n3_; have BK764 := n4_; have HB := n5_; clear n0_ n1_ n2_ n3_ n4_ n5_; (try clear hb); (try clear hb2); (try clear hk); (try clear hi); (try clear ho0)) | ((with_reducible refine gate_dst (N := 8) rfl ?_); refine box_event ?hg (N := 8) ?hd (cs := #[.slice none 0 0]) (t := 26) ?hr ?_; (case hd => rfl); (case hg => rfl); (case hr => first | (go_simp; done) | (go_simp; rfl)); intro gb768 hg w28 hbox hb; have n0_ := aM (Kd.R_below (by (with_reducible repeat (first | apply Kd.R_alloc | apply Kd.R_drewN | apply Kd.R_drew)); exact HO759.out) hb); have n1_ := aM (Kd.R_below (by (with_reducible repeat (first | apply Kd.R_alloc | apply Kd.R_drewN | apply Kd.R_drew)); exact HO762.out) hb); have n2_ := aM (Kd.R_below (by (with_reducible repeat (first | apply Kd.R_alloc | apply Kd.R_drewN | apply Kd.R_drew)); exact HO767.out) hb); have n3_ := aM (blk_below (g := gb755) (o := .cells #[.slice A0_0 l0_0.length c0_0] 36 (0, 0)) (by (with_reducible repeat (first | refine blk_drewN ?_ _ | refine blk_drew ?_ | refine blk_alloc ?_ _)); exact BK755.out) hb); have n4_ := aM (blk_below (g := gb764) (o := .cells #[.slice Ao23 t760.length co23] 26 (0, 0)) (by (with_reducible repeat (first | refine blk_drewN ?_ _ | refine blk_drew ?_ | refine blk_alloc ?_ _)); exact BK764.out) hb); have n5_ := aM (below_step (by repeat (first | (with_reducible first | exact HB.out | apply below_alloc | apply pw_below_drewN | apply below_drew1 | refine below_set ?_ GE755.out | refine below_set ?_ GE764.out) | exact HB.out)) hb); have n6_ := aM (hbox); have n7_ := aM ((by rw [hg]; exact (below_size (by repeat (first | (with_reducible first | exact HB.out | apply below_alloc | apply pw_below_drewN | apply below_drew1 | refine below_set ?_ GE755.out | refine below_set ?_ GE764.out) | exact HB.out))) : w.heap.size ≤ gb768)); have n8_ := aM ((by rw [hg]; exact (below_size (by repeat (first | (with_reducible first | exact HB.out | apply below_alloc | apply pw_below_drewN | apply below_drew1 | refine below_set ?_ GE755.out | refine below_set ?_ GE764.out) | exact HB.out))) : w.heap.size ≤ gb768)); have n9_ := aM ((by rw [hg]; exact Nat.ne_of_lt (blk_lt (g := gb755) (o := .cells #[.slice A0_0 l0_0.length c0_0] 36 (0, 0)) (by (with_reducible repeat (first | refine blk_drewN ?_ _ | refine blk_drew ?_ | refine blk_alloc ?_ _)); exact BK755.out)) : gb755 ≠ gb768)); have n10_ := aM ((by rw [hg]; exact Nat.ne_of_gt (blk_lt (g := gb755) (o := .cells #[.slice A0_0 l0_0.length c0_0] 36 (0, 0)) (by (with_reducible repeat (first | refine blk_drewN ?_ _ | refine blk_drew ?_ | refine blk_alloc ?_ _)); exact BK755.out)) : gb768 ≠ gb755)); have n11_ := aM ((by rw [hg]; exact Nat.ne_of_lt (blk_lt (g := gb764) (o := .cells #[.slice Ao23 t760.length co23] 26 (0, 0)) (by (with_reducible repeat (first | refine blk_drewN ?_ _ | refine blk_drew ?_ | refine blk_alloc ?_ _)); exact BK764.out)) : gb764 ≠ gb768)); have n12_ := aM ((by rw [hg]; exact Nat.ne_of_gt (blk_lt (g := gb764) (o := .cells #[.slice Ao23 t760.length co23] 26 (0, 0)) (by (with_reducible repeat (first | refine blk_drewN ?_ _ | refine blk_drew ?_ | refine blk_alloc ?_ _)); exact BK764.out)) : gb768 ≠ gb764)); clear HO759; clear HO762; clear HO767; clear BK755; clear BK764; clear HB; have HO759 := n0_; have HO762 := n1_; have HO767 := n2_; have BK755 := n3_; have BK764 := n4_; have HB := n5_; have BK768 := n6_; have GW768 := n7_; have GE768 := n8_; have NB755_768 := n9_; have NB768_755 := n10_; have NB764_768 := n11_; have NB768_764 := n12_; clear n0_ n1_ n2_ n3_ n4_ n5_ n6_ n7_ n8_ n9_ n10_ n11_ n12_; clear hb hbox hg; obtain ⟨Ao29, co29, eo29⟩ := Kd.R_slice HO767.out; subst eo29; have hnb30 := NB768_755.out; have hnc30 := NB755_768.out; have hnb31 := NB768_764.out; have hnc31 := NB764_768.out; have hcz32_0 : w28.cell? ⟨gb768, 0, none⟩ = some (.slice none 0 0) := (blk_cell BK768.out 0).trans rfl; have hfz32_0 := blk_frozen BK768.out 0) | ((with_reducible refine gate_callee (f := 34) rfl ?_); refine goesL_ (some 36) rfl rfl Try.func34 (by kernel_rfl) rfl #[.agg #[.slice Ao29 t765.length co29], .string a1] rfl (by (try simp only [List.map_toArray, List.map_cons, List.map_nil]); first | done | rfl | (simp only [List.length_drop, List.length_take]; rfl)) ?_; (with_reducible refine (impl_CutName.calls _ _ t765 a1 t769 t772 _ ?side1 ?side2 A13.out).mono ?_); (case side1 => refine (Kd.R_reads' (e := 64) (base := w.heap.size) (ok := fun k_ => ((True ∧ some k_ ≠ (.slice Ao20 t757.length co20 : Value).ownBlock) ∧ some k_ ≠ (.slice Ao23 t760.length co23 : Value).ownBlock)) (n := t765.length) (c := co29) ?_).2.2; exact (by (with_reducible repeat (first | apply Kd.R_alloc | apply Kd.R_drewN | apply Kd.R_drew)); exact (Kd.R_mono (Kd.R_far (p := ⟨gb768, 0, none⟩) (Kd.R_types HO767.out BK768.out (by decide)) (fun _ hk => hk.2) (.slice Ao29 t765.length co29)) (fun _ h_ => h_.1)))); (case side2 => exact (Kd.R_reads' HO767.out).2.1); rintro e w33 ⟨v770, rfl, ho0, hb⟩; refine ⟨_, rfl, ?_⟩; have n0_ := aM (Kd.R_elder' (by (with_reducible repeat (first | apply Kd.R_alloc | apply Kd.R_drewN | apply Kd.R_drew)); exact (Kd.R_mono (Kd.R_far (p := ⟨gb768, 0, none⟩) (Kd.R_types HO759.out BK768.out (by decide)) (fun _ hk => hk.2) (.slice Ao29 t765.length co29)) (fun _ h_ => h_.1))) (Kd.R_base ho0) hb); have n1_ := aM (Kd.R_elder' (by (with_reducible repeat (first | apply Kd.R_alloc | apply Kd.R_drewN | apply Kd.R_drew)); exact (Kd.R_mono (Kd.R_far (p := ⟨gb768, 0, none⟩) (Kd.R_types HO762.out BK768.out (by decide)) (fun _ hk => hk.2) (.slice Ao29 t765.length co29)) (fun _ h_ => h_.1))) (Kd.R_base ho0) hb); have n2_ := aM (Kd.R_elder' (by (with_reducible repeat (first | apply Kd.R_alloc | apply Kd.R_drewN | apply Kd.R_drew)); exact (Kd.R_mono (Kd.R_far (p := ⟨gb768, 0, none⟩) (Kd.R_types HO767.out BK768.out (by decide)) (fun _ hk => hk.2) (.slice Ao29 t765.length co29)) (fun _ h_ => h_.1))) (Kd.R_base ho0) hb); have n3_ := aM (Kd.R_lower (Kd.R_new' (Kd.R_new' (Kd.R_new' ho0 (Kd.R_lt (by (with_reducible repeat (first | apply Kd.R_alloc | apply Kd.R_drewN | apply Kd.R_drew)); exact (Kd.R_mono (Kd.R_far (p := ⟨gb768, 0, none⟩) (Kd.R_types HO759.out BK768.out (by decide)) (fun _ hk => hk.2) (.slice Ao29 t765.length co29)) (fun _ h_ => h_.1))))) (Kd.R_lt (by (with_reducible repeat (first | apply Kd.R_alloc | apply Kd.R_drewN | apply Kd.R_drew)); exact (Kd.R_mono (Kd.R_far (p := ⟨gb768, 0, none⟩) (Kd.R_types HO762.out BK768.out (by decide)) (fun _ hk => hk.2) (.slice Ao29 t765.length co29)) (fun _ h_ => h_.1))))) (Kd.R_lt (by (with_reducible repeat (first | apply Kd.R_alloc | apply Kd.R_drewN | apply Kd.R_drew)); exact (Kd.R_mono (Kd.R_far (p := ⟨gb768, 0, none⟩) (Kd.R_types HO767.out BK768.out (by decide)) (fun _ hk => hk.2) (.slice Ao29 t765.length co29)) (fun _ h_ => h_.1))))) (below_size (by repeat (first | (with_reducible first | exact HB.out | apply below_alloc | apply pw_below_drewN | apply below_drew1 | refine below_set ?_ GE755.out | refine below_set ?_ GE764.out | refine below_set ?_ GE768.out) | exact HB.out)))); have n4_ := aM (blk_below (g := gb755) (o := .cells #[.slice A0_0 l0_0.length c0_0] 36 (0, 0)) (by (with_reducible repeat (first | refine blk_drewN ?_ _ | refine blk_drew ?_ | refine blk_alloc ?_ _)); refine blk_far ?_ NB755_768.out _; (with_reducible repeat (first | refine blk_drewN ?_ _ | refine blk_drew ?_ | refine blk_alloc ?_ _)); exact BK755.out) hb); have n5_ := aM (blk_below (g := gb764) (o := .cells #[.slice Ao23 t760.length co23] 26 (0, 0)) (by (with_reducible repeat (first | refine blk_drewN ?_ _ | refine blk_drew ?_ | refine blk_alloc ?_ _)); refine blk_far ?_ NB764_768.out _; (with_reducible repeat (first | refine blk_drewN ?_ _ | refine blk_drew ?_ | refine blk_alloc ?_ _)); exact BK764.out) hb); have n6_ := aM (blk_below (g := gb768) (o := .cells #[.slice Ao29 t765.length co29] 26 (0, 0)) (by (with_reducible repeat (first | refine blk_drewN ?_ _ | refine blk_drew ?_ | refine blk_alloc ?_ _)); refine blk_put (cs := #[.slice none 0 0]) ?_ 0 _ rfl; (with_reducible repeat (first | refine blk_drewN ?_ _ | refine blk_drew ?_ | refine blk_alloc ?_ _)); exact BK768.out) hb); have n7_ := aM (below_step (by repeat (first | (with_reducible first | exact HB.out | apply below_alloc | apply pw_below_drewN | apply below_drew1 | refine below_set ?_ GE755.out | refine below_set ?_ GE764.out | refine below_set ?_ GE768.out) | exact HB.out)) hb); clear HO759; clear HO762; clear HO767; clear BK755; clear BK764; clear BK768; clear HB; have HO759 := n0_; have HO762 := n1_; have HO767 := n2_; have HO771 := n3_; have BK755 := n4_; have BK764 := n5_; have BK768 := n6_; have HB := n7_; clear n0_ n1_ n2_ n3_ n4_ n5_ n6_ n7_; (try clear hb); (try clear hb2); (try clear hk); (try clear hi); (try clear ho0)) | ((with_reducible refine gate_dst (N := 9) rfl ?_); refine box_event ?hg (N := 9) ?hd (cs := #[.slice none 0 0]) (t := 26) ?hr ?_; (case hd => rfl); (case hg => rfl); (case hr => first | (go_simp; done) | (go_simp; rfl)); intro gb773 hg w34 hbox hb; have n0_ := aM (Kd.R_below (by (with_reducible repeat (first | apply Kd.R_alloc | apply Kd.R_drewN | apply Kd.R_drew)); exact HO759.out) hb); have n1_ := aM (Kd.R_below (by (with_reducible repeat (first | apply Kd.R_alloc | apply Kd.R_drewN | apply Kd.R_drew)); exact HO762.out) hb); have n2_ := aM (Kd.R_below (by (with_reducible repeat (first | apply Kd.R_alloc | apply Kd.R_drewN | apply Kd.R_drew)); exact HO767.out) hb); have n3_ := aM (Kd.R_below (by (with_reducible repeat (first | apply Kd.R_alloc | apply Kd.R_drewN | apply Kd.R_drew)); exact HO771.out) hb); have n4_ := aM (blk_below (g := gb755) (o := .cells #[.slice A0_0 l0_0.length c0_0] 36 (0, 0)) (by (with_reducible repeat (first | refine blk_drewN ?_ _ | refine blk_drew ?_ | refine blk_alloc ?_ _)); exact BK755.out) hb); have n5_ := aM (blk_below (g := gb764) (o := .cells #[.slice Ao23 t760.length co23] 26 (0, 0)) (by (with_reducible repeat (first | refine blk_drewN ?_ _ | refine blk_drew ?_ | refine blk_alloc ?_ _)); exact BK764.out) hb); have n6_ := aM (blk_below (g := gb768) (o := .cells #[.slice Ao29 t765.length co29] 26 (0, 0)) (by (with_reducible repeat (first | refine blk_drewN ?_ _ | refine blk_drew ?_ | refine blk_alloc ?_ _)); exact BK768.out) hb); have n7_ := aM (below_step (by repeat (first | (with_reducible first | exact HB.out | apply below_alloc | apply pw_below_drewN | apply below_drew1 | refine below_set ?_ GE755.out | refine below_set ?_ GE764.out | refine below_set ?_ GE768.out) | exact HB.out)) hb); have n8_ := aM (hbox); have n9_ := aM ((by rw [hg]; exact (below_size (by repeat (first | (with_reducible first | exact HB.out | apply below_alloc | apply pw_below_drewN | apply below_drew1 | refine below_set ?_ GE755.out | refine below_set ?_ GE764.out | refine below_set ?_ GE768.out) | exact HB.out))) : w.heap.size ≤ gb773)); have n10_ := aM ((by rw [hg]; exact (below_size (by repeat (first | (with_reducible first | exact HB.out | apply below_alloc | apply pw_below_drewN | apply below_drew1 | refine below_set ?_ GE755.out | refine below_set ?_ GE764.out | refine below_set ?_ GE768.out) | exact HB.out))) : w.heap.size ≤ gb773)); have n11_ := aM ((by rw [hg]; exact Nat.ne_of_lt (blk_lt (g := gb755) (o := .cells #[.slice A0_0 l0_0.length c0_0] 36 (0, 0)) (by (with_reducible repeat (first | refine blk_drewN ?_ _ | refine blk_drew ?_ | refine blk_alloc ?_ _)); exact BK755.out)) : gb755 ≠ gb773)); have n12_ := aM ((by rw [hg]; exact Nat.ne_of_gt (blk_lt (g := gb755) (o := .cells #[.slice A0_0 l0_0.length c0_0] 36 (0, 0)) (by (with_reducible repeat (first | refine blk_drewN ?_ _ | refine blk_drew ?_ | refine blk_alloc ?_ _)); exact BK755.out)) : gb773 ≠ gb755)); have n13_ := aM ((by rw [hg]; exact Nat.ne_of_lt (blk_lt (g := gb764) (o := .cells #[.slice Ao23 t760.length co23] 26 (0, 0)) (by (with_reducible repeat (first | refine blk_drewN ?_ _ | refine blk_drew ?_ | refine blk_alloc ?_ _)); exact BK764.out)) : gb764 ≠ gb773)); have n14_ := aM ((by rw [hg]; exact Nat.ne_of_gt (blk_lt (g := gb764) (o := .cells #[.slice Ao23 t760.length co23] 26 (0, 0)) (by (with_reducible repeat (first | refine blk_drewN ?_ _ | refine blk_drew ?_ | refine blk_alloc ?_ _)); exact BK764.out)) : gb773 ≠ gb764)); have n15_ := aM ((by rw [hg]; exact Nat.ne_of_lt (blk_lt (g := gb768) (o := .cells #[.slice Ao29 t765.length co29] 26 (0, 0)) (by (with_reducible repeat (first | refine blk_drewN ?_ _ | refine blk_drew ?_ | refine blk_alloc ?_ _)); exact BK768.out)) : gb768 ≠ gb773)); have n16_ := aM ((by rw [hg]; exact Nat.ne_of_gt (blk_lt (g := gb768) (o := .cells #[.slice Ao29 t765.length co29] 26 (0, 0)) (by (with_reducible repeat (first | refine blk_drewN ?_ _ | refine blk_drew ?_ | refine blk_alloc ?_ _)); exact BK768.out)) : gb773 ≠ gb768)); clear HO759; clear HO762; clear HO767; clear HO771; clear BK755; clear BK764; clear BK768; clear HB; have HO759 := n0_; have HO762 := n1_; have HO767 := n2_; have HO771 := n3_; have BK755 := n4_; have BK764 := n5_; have BK768 := n6_; have HB := n7_; have BK773 := n8_; have GW773 := n9_; have GE773 := n10_; have NB755_773 := n11_; have NB773_755 := n12_; have NB764_773 := n13_; have NB773_764 := n14_; have NB768_773 := n15_; have NB773_768 := n16_; clear n0_ n1_ n2_ n3_ n4_ n5_ n6_ n7_ n8_ n9_ n10_ n11_ n12_ n13_ n14_ n15_ n16_; clear hb hbox hg; obtain ⟨Ao35, co35, eo35⟩ := Kd.R_slice HO771.out; subst eo35; have hnb36 := NB773_755.out; have hnc36 := NB755_773.out; have hnb37 := NB773_764.out; have hnc37 := NB764_773.out; have hnb38 := NB773_768.out; have hnc38 := NB768_773.out; have hcz39_0 : w34.cell? ⟨gb773, 0, none⟩ = some (.slice none 0 0) := (blk_cell BK773.out 0).trans rfl; have hfz39_0 := blk_frozen BK773.out 0))
   (try simp only [Act.put, zSA, zSB, zSC])
   go_cut [47] (fun v47 wc => ∃ (kq : Nat) (x47_13 : Bool), v47 = .bool x47_13 ∧ Aside0 (laws_FnExactCutName.j0 kq a1 t763 t772 x47_13 l0_0 t760 t765 t769 = some r) ∧ Aside0 (kq ≤ k) ∧ Aside0 (Kd.R k64 64 wc w.heap.size (fun k_ => some k_ ≠ ((.slice Ao29 t765.length co29) : Value).ownBlock ∧ some k_ ≠ ((.slice Ao35 t769.length co35) : Value).ownBlock) (.slice Ao23 t760.length co23) t760) ∧ Aside0 (Kd.R k64 64 wc w.heap.size (fun k_ => some k_ ≠ ((.slice Ao23 t760.length co23) : Value).ownBlock ∧ some k_ ≠ ((.slice Ao35 t769.length co35) : Value).ownBlock) (.slice Ao29 t765.length co29) t765) ∧ Aside0 (Kd.R k64 64 wc w.heap.size (fun k_ => some k_ ≠ ((.slice Ao23 t760.length co23) : Value).ownBlock ∧ some k_ ≠ ((.slice Ao29 t765.length co29) : Value).ownBlock) (.slice Ao35 t769.length co35) t769) ∧ Aside0 (wc.heap[gb755]? = some (.cells #[(.slice A0_0 l0_0.length c0_0)] 36 (0, 0))) ∧ Aside0 (wc.heap[gb764]? = some (.cells #[(.slice Ao23 t760.length co23)] 26 (0, 0))) ∧ Aside0 (wc.heap[gb768]? = some (.cells #[(.slice Ao29 t765.length co29)] 26 (0, 0))) ∧ Aside0 (wc.heap[gb773]? = some (.cells #[(.slice Ao35 t769.length co35)] 26 (0, 0))) ∧ Aside0 (Below w.heap.size w wc))
   case first =>
    have H := HC14.out
    clear HC14
    replace H := Option.bind_eq_some_iff.mp H
    obtain ⟨t774, A400, H⟩ := H
    replace H : (if t774 = true then (laws_FnExactCutName.j0 k a1 t763 t772 (t772 != t763) l0_0 t760 t765 t769) else (laws_FnExactCutName.j0 k a1 t763 t772 true l0_0 t760 t765 t769)) = some r := H
    have A40 := aM A400
    clear A400
    by_cases c41 : t774 = true
    ·
     subst c41
     have H1 : (laws_FnExactCutName.j0 k a1 t763 t772 (t772 != t763) l0_0 t760 t765 t769) = some r := by rw [if_pos rfl] at H; exact H
     clear H
     have H := H1
     clear H1
     have H' := aM H
     clear H
     have hnb42 := NB773_755.out
     have hnc42 := NB755_773.out
     have hnb43 := NB773_764.out
     have hnc43 := NB764_773.out
     have hnb44 := NB773_768.out
     have hnc44 := NB768_773.out
     have hcz45_0 : w34.cell? ⟨gb773, 0, none⟩ = some (.slice none 0 0) := (blk_cell BK773.out 0).trans rfl
     have hfz45_0 := blk_frozen BK773.out 0
     have hnb46 := NB764_755.out
     have hnc46 := NB755_764.out
     have hnb47 := NB764_768.out
     have hnc47 := NB768_764.out
     have hcz48_0 : w34.cell? ⟨gb764, 0, none⟩ = some (.slice Ao23 t760.length co23) := (blk_cell BK764.out 0).trans rfl
     have hfz48_0 := blk_frozen BK764.out 0
     go_wp2_with (first | ((with_reducible refine gate_callee (f := 15) rfl ?_); refine goesL_ (some 41) rfl rfl Try.func15 (by kernel_rfl) rfl #[.agg #[.slice Ao35 t769.length co35], .agg #[.slice Ao23 t760.length co23]] rfl (by (try simp only [List.map_toArray, List.map_cons, List.map_nil]); first | done | rfl | (simp only [List.length_drop, List.length_take]; rfl)) ?_; (with_reducible refine (laws_eqRadix.calls k _ _ t769 _ _ t760 true _ ?side1 ?side2 ?side3 ?side4 A40.out).mono ?_); (case side1 => refine (Kd.R_reads' (e := 64) (base := w.heap.size) (ok := fun k_ => (((True ∧ some k_ ≠ (.slice Ao20 t757.length co20 : Value).ownBlock) ∧ some k_ ≠ (.slice Ao23 t760.length co23 : Value).ownBlock) ∧ some k_ ≠ (.slice Ao29 t765.length co29 : Value).ownBlock)) (n := t769.length) (c := co35) ?_).2.2; exact (by (with_reducible repeat (first | apply Kd.R_alloc | apply Kd.R_drewN | apply Kd.R_drew)); exact (Kd.R_mono (Kd.R_far (p := ⟨gb773, 0, none⟩) (Kd.R_types HO771.out BK773.out (by decide)) (fun _ hk => hk.2) (.slice Ao35 t769.length co35)) (fun _ h_ => h_.1)))); (case side2 => exact (Kd.R_reads' HO771.out).2.1); (case side3 => refine (Kd.R_reads' (e := 64) (base := w.heap.size) (ok := fun k_ => (((True ∧ some k_ ≠ (.slice Ao20 t757.length co20 : Value).ownBlock) ∧ some k_ ≠ (.slice Ao29 t765.length co29 : Value).ownBlock) ∧ some k_ ≠ (.slice Ao35 t769.length co35 : Value).ownBlock)) (n := t760.length) (c := co23) ?_).2.2; exact (by (with_reducible repeat (first | apply Kd.R_alloc | apply Kd.R_drewN | apply Kd.R_drew)); exact (Kd.R_mono (Kd.R_far (p := ⟨gb773, 0, none⟩) (Kd.R_types HO762.out BK773.out (by decide)) (fun _ hk => hk.2) (.slice Ao35 t769.length co35)) (fun _ h_ => h_.1)))); (case side4 => exact (Kd.R_reads' HO762.out).2.1); rintro e w49 ⟨rfl, hb⟩; refine ⟨_, rfl, ?_⟩; have n0_ := aM (Kd.R_below (by (with_reducible repeat (first | apply Kd.R_alloc | apply Kd.R_drewN | apply Kd.R_drew)); exact (Kd.R_mono (Kd.R_far (p := ⟨gb773, 0, none⟩) (Kd.R_types HO759.out BK773.out (by decide)) (fun _ hk => hk.2) (.slice Ao35 t769.length co35)) (fun _ h_ => h_.1))) hb); have n1_ := aM (Kd.R_below (by (with_reducible repeat (first | apply Kd.R_alloc | apply Kd.R_drewN | apply Kd.R_drew)); exact (Kd.R_mono (Kd.R_far (p := ⟨gb773, 0, none⟩) (Kd.R_types HO762.out BK773.out (by decide)) (fun _ hk => hk.2) (.slice Ao35 t769.length co35)) (fun _ h_ => h_.1))) hb); have n2_ := aM (Kd.R_below (by (with_reducible repeat (first | apply Kd.R_alloc | apply Kd.R_drewN | apply Kd.R_drew)); exact (Kd.R_mono (Kd.R_far (p := ⟨gb773, 0, none⟩) (Kd.R_types HO767.out BK773.out (by decide)) (fun _ hk => hk.2) (.slice Ao35 t769.length co35)) (fun _ h_ => h_.1))) hb); have n3_ := aM (Kd.R_below (by (with_reducible repeat (first | apply Kd.R_alloc | apply Kd.R_drewN | apply Kd.R_drew)); exact (Kd.R_mono (Kd.R_far (p := ⟨gb773, 0, none⟩) (Kd.R_types HO771.out BK773.out (by decide)) (fun _ hk => hk.2) (.slice Ao35 t769.length co35)) (fun _ h_ => h_.1))) hb); have n4_ := aM (blk_below (g := gb755) (o := .cells #[.slice A0_0 l0_0.length c0_0] 36 (0, 0)) (by (with_reducible repeat (first | refine blk_drewN ?_ _ | refine blk_drew ?_ | refine blk_alloc ?_ _)); refine blk_far ?_ NB755_773.out _; (with_reducible repeat (first | refine blk_drewN ?_ _ | refine blk_drew ?_ | refine blk_alloc ?_ _)); exact BK755.out) hb); have n5_ := aM (blk_below (g := gb764) (o := .cells #[.slice Ao23 t760.length co23] 26 (0, 0)) (by (with_reducible repeat (first | refine blk_drewN ?_ _ | refine blk_drew ?_ | refine blk_alloc ?_ _)); refine blk_far ?_ NB764_773.out _; (with_reducible repeat (first | refine blk_drewN ?_ _ | refine blk_drew ?_ | refine blk_alloc ?_ _)); exact BK764.out) hb); have n6_ := aM (blk_below (g := gb768) (o := .cells #[.slice Ao29 t765.length co29] 26 (0, 0)) (by (with_reducible repeat (first | refine blk_drewN ?_ _ | refine blk_drew ?_ | refine blk_alloc ?_ _)); refine blk_far ?_ NB768_773.out _; (with_reducible repeat (first | refine blk_drewN ?_ _ | refine blk_drew ?_ | refine blk_alloc ?_ _)); exact BK768.out) hb); have n7_ := aM (blk_below (g := gb773) (o := .cells #[.slice Ao35 t769.length co35] 26 (0, 0)) (by (with_reducible repeat (first | refine blk_drewN ?_ _ | refine blk_drew ?_ | refine blk_alloc ?_ _)); refine blk_put (cs := #[.slice none 0 0]) ?_ 0 _ rfl; (with_reducible repeat (first | refine blk_drewN ?_ _ | refine blk_drew ?_ | refine blk_alloc ?_ _)); exact BK773.out) hb); have n8_ := aM (below_step (by repeat (first | (with_reducible first | exact HB.out | apply below_alloc | apply pw_below_drewN | apply below_drew1 | refine below_set ?_ GE755.out | refine below_set ?_ GE764.out | refine below_set ?_ GE768.out | refine below_set ?_ GE773.out) | exact HB.out)) hb); clear HO759; clear HO762; clear HO767; clear HO771; clear BK755; clear BK764; clear BK768; clear BK773; clear HB; have HO759 := n0_; have HO762 := n1_; have HO767 := n2_; have HO771 := n3_; have BK755 := n4_; have BK764 := n5_; have BK768 := n6_; have BK773 := n7_; have HB := n8_; clear n0_ n1_ n2_ n3_ n4_ n5_ n6_ n7_ n8_; (try clear hb); (try clear hb2); (try clear hk); (try clear hi)))
     go_meet
     case rel => exact ⟨_, ((t772 != t763)), (by first | rfl | (simp; done) | (simp [*]; done)), H', ⟨by first | omega | exact Nat.le_refl _⟩, ⟨by (with_reducible repeat (first | apply Kd.R_alloc | apply Kd.R_drewN | apply Kd.R_drew)); exact Kd.R_mono HO762.out (fun _ hk => ⟨hk.1.2, hk.2⟩)⟩, ⟨by (with_reducible repeat (first | apply Kd.R_alloc | apply Kd.R_drewN | apply Kd.R_drew)); exact Kd.R_mono HO767.out (fun _ hk => ⟨hk.1.2, hk.2⟩)⟩, ⟨by (with_reducible repeat (first | apply Kd.R_alloc | apply Kd.R_drewN | apply Kd.R_drew)); exact Kd.R_mono HO771.out (fun _ hk => ⟨hk.1.2, hk.2⟩)⟩, ⟨by (with_reducible repeat (first | refine blk_drewN ?_ _ | refine blk_drew ?_ | refine blk_alloc ?_ _)); exact BK755.out⟩, ⟨by (with_reducible repeat (first | refine blk_drewN ?_ _ | refine blk_drew ?_ | refine blk_alloc ?_ _)); exact BK764.out⟩, ⟨by (with_reducible repeat (first | refine blk_drewN ?_ _ | refine blk_drew ?_ | refine blk_alloc ?_ _)); exact BK768.out⟩, ⟨by (with_reducible repeat (first | refine blk_drewN ?_ _ | refine blk_drew ?_ | refine blk_alloc ?_ _)); exact BK773.out⟩, ⟨by repeat (first | (with_reducible first | exact HB.out | apply below_alloc | apply pw_below_drewN | apply below_drew1 | refine below_set ?_ GE755.out | refine below_set ?_ GE764.out | refine below_set ?_ GE768.out | refine below_set ?_ GE773.out) | exact HB.out)⟩⟩
    ·
     replace c41 := Bool.eq_false_iff.mpr c41
     subst c41
     have H1 : (laws_FnExactCutName.j0 k a1 t763 t772 true l0_0 t760 t765 t769) = some r := by rw [if_neg (show ¬ (false = true) by decide)] at H; exact H
     clear H
     have H := H1
     clear H1
     have H' := aM H
     clear H
     have hnb50 := NB773_755.out
     have hnc50 := NB755_773.out
     have hnb51 := NB773_764.out
     have hnc51 := NB764_773.out
     have hnb52 := NB773_768.out
     have hnc52 := NB768_773.out
     have hcz53_0 : w34.cell? ⟨gb773, 0, none⟩ = some (.slice none 0 0) := (blk_cell BK773.out 0).trans rfl
     have hfz53_0 := blk_frozen BK773.out 0
     have hnb54 := NB764_755.out
     have hnc54 := NB755_764.out
     have hnb55 := NB764_768.out
     have hnc55 := NB768_764.out
     have hcz56_0 : w34.cell? ⟨gb764, 0, none⟩ = some (.slice Ao23 t760.length co23) := (blk_cell BK764.out 0).trans rfl
     have hfz56_0 := blk_frozen BK764.out 0
     go_wp2_with (first | ((with_reducible refine gate_callee (f := 15) rfl ?_); refine goesL_ (some 41) rfl rfl Try.func15 (by kernel_rfl) rfl #[.agg #[.slice Ao35 t769.length co35], .agg #[.slice Ao23 t760.length co23]] rfl (by (try simp only [List.map_toArray, List.map_cons, List.map_nil]); first | done | rfl | (simp only [List.length_drop, List.length_take]; rfl)) ?_; (with_reducible refine (laws_eqRadix.calls k _ _ t769 _ _ t760 false _ ?side1 ?side2 ?side3 ?side4 A40.out).mono ?_); (case side1 => refine (Kd.R_reads' (e := 64) (base := w.heap.size) (ok := fun k_ => (((True ∧ some k_ ≠ (.slice Ao20 t757.length co20 : Value).ownBlock) ∧ some k_ ≠ (.slice Ao23 t760.length co23 : Value).ownBlock) ∧ some k_ ≠ (.slice Ao29 t765.length co29 : Value).ownBlock)) (n := t769.length) (c := co35) ?_).2.2; exact (by (with_reducible repeat (first | apply Kd.R_alloc | apply Kd.R_drewN | apply Kd.R_drew)); exact (Kd.R_mono (Kd.R_far (p := ⟨gb773, 0, none⟩) (Kd.R_types HO771.out BK773.out (by decide)) (fun _ hk => hk.2) (.slice Ao35 t769.length co35)) (fun _ h_ => h_.1)))); (case side2 => exact (Kd.R_reads' HO771.out).2.1); (case side3 => refine (Kd.R_reads' (e := 64) (base := w.heap.size) (ok := fun k_ => (((True ∧ some k_ ≠ (.slice Ao20 t757.length co20 : Value).ownBlock) ∧ some k_ ≠ (.slice Ao29 t765.length co29 : Value).ownBlock) ∧ some k_ ≠ (.slice Ao35 t769.length co35 : Value).ownBlock)) (n := t760.length) (c := co23) ?_).2.2; exact (by (with_reducible repeat (first | apply Kd.R_alloc | apply Kd.R_drewN | apply Kd.R_drew)); exact (Kd.R_mono (Kd.R_far (p := ⟨gb773, 0, none⟩) (Kd.R_types HO762.out BK773.out (by decide)) (fun _ hk => hk.2) (.slice Ao35 t769.length co35)) (fun _ h_ => h_.1)))); (case side4 => exact (Kd.R_reads' HO762.out).2.1); rintro e w57 ⟨rfl, hb⟩; refine ⟨_, rfl, ?_⟩; have n0_ := aM (Kd.R_below (by (with_reducible repeat (first | apply Kd.R_alloc | apply Kd.R_drewN | apply Kd.R_drew)); exact (Kd.R_mono (Kd.R_far (p := ⟨gb773, 0, none⟩) (Kd.R_types HO759.out BK773.out (by decide)) (fun _ hk => hk.2) (.slice Ao35 t769.length co35)) (fun _ h_ => h_.1))) hb); have n1_ := aM (Kd.R_below (by (with_reducible repeat (first | apply Kd.R_alloc | apply Kd.R_drewN | apply Kd.R_drew)); exact (Kd.R_mono (Kd.R_far (p := ⟨gb773, 0, none⟩) (Kd.R_types HO762.out BK773.out (by decide)) (fun _ hk => hk.2) (.slice Ao35 t769.length co35)) (fun _ h_ => h_.1))) hb); have n2_ := aM (Kd.R_below (by (with_reducible repeat (first | apply Kd.R_alloc | apply Kd.R_drewN | apply Kd.R_drew)); exact (Kd.R_mono (Kd.R_far (p := ⟨gb773, 0, none⟩) (Kd.R_types HO767.out BK773.out (by decide)) (fun _ hk => hk.2) (.slice Ao35 t769.length co35)) (fun _ h_ => h_.1))) hb); have n3_ := aM (Kd.R_below (by (with_reducible repeat (first | apply Kd.R_alloc | apply Kd.R_drewN | apply Kd.R_drew)); exact (Kd.R_mono (Kd.R_far (p := ⟨gb773, 0, none⟩) (Kd.R_types HO771.out BK773.out (by decide)) (fun _ hk => hk.2) (.slice Ao35 t769.length co35)) (fun _ h_ => h_.1))) hb); have n4_ := aM (blk_below (g := gb755) (o := .cells #[.slice A0_0 l0_0.length c0_0] 36 (0, 0)) (by (with_reducible repeat (first | refine blk_drewN ?_ _ | refine blk_drew ?_ | refine blk_alloc ?_ _)); refine blk_far ?_ NB755_773.out _; (with_reducible repeat (first | refine blk_drewN ?_ _ | refine blk_drew ?_ | refine blk_alloc ?_ _)); exact BK755.out) hb); have n5_ := aM (blk_below (g := gb764) (o := .cells #[.slice Ao23 t760.length co23] 26 (0, 0)) (by (with_reducible repeat (first | refine blk_drewN ?_ _ | refine blk_drew ?_ | refine blk_alloc ?_ _)); refine blk_far ?_ NB764_773.out _; (with_reducible repeat (first | refine blk_drewN ?_ _ | refine blk_drew ?_ | refine blk_alloc ?_ _)); exact BK764.out) hb); have n6_ := aM (blk_below (g := gb768) (o := .cells #[.slice Ao29 t765.length co29] 26 (0, 0)) (by (with_reducible repeat (first | refine blk_drewN ?_ _ | refine blk_drew ?_ | refine blk_alloc ?_ _)); refine blk_far ?_ NB768_773.out _; (with_reducible repeat (first | refine blk_drewN ?_ _ | refine blk_drew ?_ | refine blk_alloc ?_ _)); exact BK768.out) hb); have n7_ := aM (blk_below (g := gb773) (o := .cells #[.slice Ao35 t769.length co35] 26 (0, 0)) (by (with_reducible repeat (first | refine blk_drewN ?_ _ | refine blk_drew ?_ | refine blk_alloc ?_ _)); refine blk_put (cs := #[.slice none 0 0]) ?_ 0 _ rfl; (with_reducible repeat (first | refine blk_drewN ?_ _ | refine blk_drew ?_ | refine blk_alloc ?_ _)); exact BK773.out) hb); have n8_ := aM (below_step (by repeat (first | (with_reducible first | exact HB.out | apply below_alloc | apply pw_below_drewN | apply below_drew1 | refine below_set ?_ GE755.out | refine below_set ?_ GE764.out | refine below_set ?_ GE768.out | refine below_set ?_ GE773.out) | exact HB.out)) hb); clear HO759; clear HO762; clear HO767; clear HO771; clear BK755; clear BK764; clear BK768; clear BK773; clear HB; have HO759 := n0_; have HO762 := n1_; have HO767 := n2_; have HO771 := n3_; have BK755 := n4_; have BK764 := n5_; have BK768 := n6_; have BK773 := n7_; have HB := n8_; clear n0_ n1_ n2_ n3_ n4_ n5_ n6_ n7_ n8_; (try clear hb); (try clear hb2); (try clear hk); (try clear hi)))
     go_meet
     case rel => exact ⟨_, (true), (by first | rfl | (simp; done) | (simp [*]; done)), H', ⟨by first | omega | exact Nat.le_refl _⟩, ⟨by (with_reducible repeat (first | apply Kd.R_alloc | apply Kd.R_drewN | apply Kd.R_drew)); exact Kd.R_mono HO762.out (fun _ hk => ⟨hk.1.2, hk.2⟩)⟩, ⟨by (with_reducible repeat (first | apply Kd.R_alloc | apply Kd.R_drewN | apply Kd.R_drew)); exact Kd.R_mono HO767.out (fun _ hk => ⟨hk.1.2, hk.2⟩)⟩, ⟨by (with_reducible repeat (first | apply Kd.R_alloc | apply Kd.R_drewN | apply Kd.R_drew)); exact Kd.R_mono HO771.out (fun _ hk => ⟨hk.1.2, hk.2⟩)⟩, ⟨by (with_reducible repeat (first | refine blk_drewN ?_ _ | refine blk_drew ?_ | refine blk_alloc ?_ _)); exact BK755.out⟩, ⟨by (with_reducible repeat (first | refine blk_drewN ?_ _ | refine blk_drew ?_ | refine blk_alloc ?_ _)); exact BK764.out⟩, ⟨by (with_reducible repeat (first | refine blk_drewN ?_ _ | refine blk_drew ?_ | refine blk_alloc ?_ _)); exact BK768.out⟩, ⟨by (with_reducible repeat (first | refine blk_drewN ?_ _ | refine blk_drew ?_ | refine blk_alloc ?_ _)); exact BK773.out⟩, ⟨by repeat (first | (with_reducible first | exact HB.out | apply below_alloc | apply pw_below_drewN | apply below_drew1 | refine below_set ?_ GE755.out | refine below_set ?_ GE764.out | refine below_set ?_ GE768.out | refine below_set ?_ GE773.out) | exact HB.out)⟩⟩
   case rest =>
    clear HC14
    try clear c1
    try clear c2
    try clear p2
    try clear c3
    try clear c3b0
    try clear c3b1
    try clear c4
    try clear c5
    try clear c6
    try clear c6b0
    try clear c9
    try clear c15
    try clear c20
    try clear c22
    try clear c24
    try clear c30
    try clear c31
    try clear c33
    try clear c34
    try clear c36
    try clear c37
    try clear c38
    try clear c41
    try clear c42
    try clear c43
    try clear c44
    try clear c46
    try clear c47
    try clear c50
    try clear c51
    try clear c52
    try clear c54
    try clear c55
    try clear hcz16_0
    try clear hcz18_0
    try clear hcz25_0
    try clear hcz26_0
    try clear hcz32_0
    try clear hcz39_0
    try clear hcz45_0
    try clear hcz48_0
    try clear hcz53_0
    try clear hcz56_0
    try clear hcz8_0
    try clear hfz16_0
    try clear hfz18_0
    try clear hfz25_0
    try clear hfz26_0
    try clear hfz32_0
    try clear hfz39_0
    try clear hfz45_0
    try clear hfz48_0
    try clear hfz53_0
    try clear hfz56_0
    try clear hfz8_0
    obtain ⟨kq, x47_13, rfl, HA, HJ13, HO_765000, HO_769000, HO_774000, BK755, BK764, BK768, BK773, HB⟩ := hcut
    cases kq with
    | zero => exact absurd HA.out (by simp [laws_FnExactCutName.j0])
    | succ kj13 =>
     have H := HA.out
     clear HA
     simp only [laws_FnExactCutName.j0] at H
     by_cases c58 : x47_13 = true
     ·
      subst c58
      have H1 : (some false) = some r := by rw [if_pos rfl] at H; exact H
      clear H
      have H := H1
      clear H1
      obtain rfl := Option.some.inj H
      go_wp2
      go_ret
      exact ⟨by first | rfl | (simp [errW_none, errW_some] <;> rfl) | (simp [*, errW_none, errW_some] <;> rfl), by repeat (first | (with_reducible first | exact HB.out | apply below_alloc | apply pw_below_drewN | apply below_drew1 | refine below_set ?_ GE755.out | refine below_set ?_ GE764.out | refine below_set ?_ GE768.out | refine below_set ?_ GE773.out) | exact HB.out)⟩
     ·
      replace c58 := Bool.eq_false_iff.mpr c58
      subst c58
      have H1 : ((laws_toRadix.f kj13 l0_0).bind fun t775 => ((laws_eqRadix.f kj13 t765 t775).bind fun t778 => (if t778 = true then ((laws_markRadix.f kj13 t765 1).bind fun bt779 => (if bt779.1 < 0 then (laws_FnExactCutName.j1 kj13 a1 t763 true l0_0 t760 t769) else ((laws_eqRadix.f kj13 t769 t760).bind fun t781 => (if t781 = true then (laws_FnExactCutName.j1 kj13 a1 t763 (t772 != t763) l0_0 t760 t769) else (laws_FnExactCutName.j1 kj13 a1 t763 true l0_0 t760 t769))))) else (some false)))) = some r := by rw [if_neg (show ¬ (false = true) by decide)] at H; exact H
      clear H
      have H := H1
      clear H1
      replace H := Option.bind_eq_some_iff.mp H
      obtain ⟨t775, A590, H⟩ := H
      replace H : ((laws_eqRadix.f kj13 t765 t775).bind fun t778 => (if t778 = true then ((laws_markRadix.f kj13 t765 1).bind fun bt779 => (if bt779.1 < 0 then (laws_FnExactCutName.j1 kj13 a1 t763 true l0_0 t760 t769) else ((laws_eqRadix.f kj13 t769 t760).bind fun t781 => (if t781 = true then (laws_FnExactCutName.j1 kj13 a1 t763 (t772 != t763) l0_0 t760 t769) else (laws_FnExactCutName.j1 kj13 a1 t763 true l0_0 t760 t769))))) else (some false))) = some r := H
      have A59 := aM A590
      clear A590
      replace H := Option.bind_eq_some_iff.mp H
      obtain ⟨t778, A600, H⟩ := H
      replace H : (if t778 = true then ((laws_markRadix.f kj13 t765 1).bind fun bt779 => (if bt779.1 < 0 then (laws_FnExactCutName.j1 kj13 a1 t763 true l0_0 t760 t769) else ((laws_eqRadix.f kj13 t769 t760).bind fun t781 => (if t781 = true then (laws_FnExactCutName.j1 kj13 a1 t763 (t772 != t763) l0_0 t760 t769) else (laws_FnExactCutName.j1 kj13 a1 t763 true l0_0 t760 t769))))) else (some false)) = some r := H
      have A60 := aM A600
      clear A600
      by_cases c61 : t778 = true
      ·
       subst c61
       have H1 : ((laws_markRadix.f kj13 t765 1).bind fun bt779 => (if bt779.1 < 0 then (laws_FnExactCutName.j1 kj13 a1 t763 true l0_0 t760 t769) else ((laws_eqRadix.f kj13 t769 t760).bind fun t781 => (if t781 = true then (laws_FnExactCutName.j1 kj13 a1 t763 (t772 != t763) l0_0 t760 t769) else (laws_FnExactCutName.j1 kj13 a1 t763 true l0_0 t760 t769))))) = some r := by rw [if_pos rfl] at H; exact H
       clear H
       have H := H1
       clear H1
       replace H := Option.bind_eq_some_iff.mp H
       obtain ⟨⟨t779, t780⟩, A620, H⟩ := H
       replace H : (if t779 < 0 then (laws_FnExactCutName.j1 kj13 a1 t763 true l0_0 t760 t769) else ((laws_eqRadix.f kj13 t769 t760).bind fun t781 => (if t781 = true then (laws_FnExactCutName.j1 kj13 a1 t763 (t772 != t763) l0_0 t760 t769) else (laws_FnExactCutName.j1 kj13 a1 t763 true l0_0 t760 t769)))) = some r := H
       have A62 := aM A620
       clear A620
       have HC63 := aM H
       clear H
       try go_wp2
       have n0_ := aM (Kd.R_drew HO_765000.out)
       have n1_ := aM (Kd.R_drew HO_769000.out)
       have n2_ := aM (Kd.R_drew HO_774000.out)
       have n3_ := aM (blk_drew BK755.out)
       have n4_ := aM (blk_drew BK764.out)
       have n5_ := aM (blk_drew BK768.out)
       have n6_ := aM (blk_drew BK773.out)
       have n7_ := aM (below_drew1 HB.out)
       clear HO_765000
       clear HO_769000
       clear HO_774000
       clear BK755
       clear BK764
       clear BK768
       clear BK773
       clear HB
       have HO_765000 := n0_
       have HO_769000 := n1_
       have HO_774000 := n2_
       have BK755 := n3_
       have BK764 := n4_
       have BK768 := n5_
       have BK773 := n6_
       have HB := n7_
       clear n0_ n1_ n2_ n3_ n4_ n5_ n6_ n7_
       refine start_ (n := 5) (S := fun w' => w'.cell? ⟨gb768, 0, none⟩ = some (.slice Ao29 t765.length co29) ∧ w'.cell? ⟨gb755, 0, none⟩ = some (.slice A0_0 l0_0.length c0_0)) (ds := []) (bq 5 0) (by kernel_rfl) rfl (by kernel_rfl) ⟨(blk_cell BK768.out 0).trans rfl, (blk_cell BK755.out 0).trans rfl⟩ (fun hHeld => ?_)
       generalize wc.drew = w64 at HO_765000 HO_769000 HO_774000 BK755 BK764 BK768 BK773 HB hHeld ⊢
       refine take_ (i := 0) (N := some 48) (v := ?_) (a' := ?_) (bq 5 1) rfl rfl (by kernel_rfl) (fun _ _ _ h => h) (Or.inl ⟨by rfl, ?_⟩) hHeld ?_ ?_; rotate_left; (rintro w' ⟨s0, s1⟩; go_simp; (with_reducible rfl)); rotate_left; (simp only [Act.put, zSA, zSB, zSC, i64_w, i32_w]; rfl)
       refine take_ (i := 1) (N := some 49) (v := ?_) (a' := ?_) (bq 5 3) rfl rfl (by kernel_rfl) (fun _ _ _ h => h) (Or.inl ⟨by rfl, ?_⟩) hHeld ?_ ?_; rotate_left; (rintro w' ⟨s0, s1⟩; go_simp; (with_reducible rfl)); rotate_left; (simp only [Act.put, zSA, zSB, zSC, i64_w, i32_w]; rfl)
       refine one_ (i := 2) (N := some 50) (bq 5 7) rfl rfl (by kernel_rfl) (by decide) (fun K hK => ?_)
       refine goes_ Try.func22 (by kernel_rfl) rfl #[.agg #[.slice A0_0 l0_0.length c0_0]] (by rfl) rfl rfl (by (try simp only [List.map_toArray, List.map_cons, List.map_nil]); first | done | rfl | (simp only [List.length_drop, List.length_take]; rfl)) ?_
       with_reducible refine (laws_toRadix.calls kj13 _ _ l0_0 t775 _ ?side1 ?side2 A59.out).mono ?_
       (case side1 => repeat (first | exact (Kd.C_below HR0_0.out HB.out) | (with_reducible refine Kd.C_alloc ?_ _) | (with_reducible refine Kd.C_drewN ?_ _) | (with_reducible refine Kd.C_drew ?_)))
       (case side2 => exact HC0_0.out)
       rintro e w65 ⟨v776, rfl, ho0, hb⟩
       refine ⟨_, rfl, ?_⟩
       have n0_ := aM (Kd.R_elder' (by (with_reducible repeat (first | apply Kd.R_alloc | apply Kd.R_drewN | apply Kd.R_drew)); exact HO_765000.out) (Kd.R_base ho0) hb)
       have n1_ := aM (Kd.R_elder' (by (with_reducible repeat (first | apply Kd.R_alloc | apply Kd.R_drewN | apply Kd.R_drew)); exact HO_769000.out) (Kd.R_base ho0) hb)
       have n2_ := aM (Kd.R_elder' (by (with_reducible repeat (first | apply Kd.R_alloc | apply Kd.R_drewN | apply Kd.R_drew)); exact HO_774000.out) (Kd.R_base ho0) hb)
       have n3_ := aM (Kd.R_lower (Kd.R_new' (Kd.R_new' (Kd.R_new' ho0 (Kd.R_lt (by (with_reducible repeat (first | apply Kd.R_alloc | apply Kd.R_drewN | apply Kd.R_drew)); exact HO_765000.out))) (Kd.R_lt (by (with_reducible repeat (first | apply Kd.R_alloc | apply Kd.R_drewN | apply Kd.R_drew)); exact HO_769000.out))) (Kd.R_lt (by (with_reducible repeat (first | apply Kd.R_alloc | apply Kd.R_drewN | apply Kd.R_drew)); exact HO_774000.out))) (below_size (by repeat (first | (with_reducible first | exact HB.out | apply below_alloc | apply pw_below_drewN | apply below_drew1 | refine below_set ?_ GE755.out | refine below_set ?_ GE764.out | refine below_set ?_ GE768.out | refine below_set ?_ GE773.out) | exact HB.out))))
       have n4_ := aM (blk_below (g := gb755) (o := .cells #[.slice A0_0 l0_0.length c0_0] 36 (0, 0)) (by (with_reducible repeat (first | refine blk_drewN ?_ _ | refine blk_drew ?_ | refine blk_alloc ?_ _)); exact BK755.out) hb)
       have n5_ := aM (blk_below (g := gb764) (o := .cells #[.slice Ao23 t760.length co23] 26 (0, 0)) (by (with_reducible repeat (first | refine blk_drewN ?_ _ | refine blk_drew ?_ | refine blk_alloc ?_ _)); exact BK764.out) hb)
       have n6_ := aM (blk_below (g := gb768) (o := .cells #[.slice Ao29 t765.length co29] 26 (0, 0)) (by (with_reducible repeat (first | refine blk_drewN ?_ _ | refine blk_drew ?_ | refine blk_alloc ?_ _)); exact BK768.out) hb)
       have n7_ := aM (blk_below (g := gb773) (o := .cells #[.slice Ao35 t769.length co35] 26 (0, 0)) (by (with_reducible repeat (first | refine blk_drewN ?_ _ | refine blk_drew ?_ | refine blk_alloc ?_ _)); exact BK773.out) hb)
       have n8_ := aM (below_step (by repeat (first | (with_reducible first | exact HB.out | apply below_alloc | apply pw_below_drewN | apply below_drew1 | refine below_set ?_ GE755.out | refine below_set ?_ GE764.out | refine below_set ?_ GE768.out | refine below_set ?_ GE773.out) | exact HB.out)) hb)
       clear HO_765000
       clear HO_769000
       clear HO_774000
       clear BK755
       clear BK764
       clear BK768
       clear BK773
       clear HB
       have HO_765000 := n0_
       have HO_769000 := n1_
       have HO_774000 := n2_
       have HO777 := n3_
       have BK755 := n4_
       have BK764 := n5_
       have BK768 := n6_
       have BK773 := n7_
       have HB := n8_
       clear n0_ n1_ n2_ n3_ n4_ n5_ n6_ n7_ n8_
       (try clear hb)
       (try clear hb2)
       (try clear hk)
       (try clear hi)
       (try clear ho0)
       obtain ⟨Ao66, co66, eo66⟩ := Kd.R_slice HO777.out
       (first | subst eo66 | (injection eo66 with f1_ f2_ f3_; have f4_ := f1_.symm; have f5_ := f3_.symm; clear f1_ f2_ f3_; subst f4_; subst f5_))
       refine hK.out _ _ ⟨(blk_cell BK768.out 0).trans rfl, (blk_cell BK755.out 0).trans rfl⟩ (fun hHeld => ?_)
       clear hK K
       refine norm_ (a' := ?_) ?_ ?_
       rotate_left
       ·
        show Act.put _ (some 50) _ = _
        simp only [Act.put, zSA, zSB, zSC, i64_w, i32_w]
        rfl
       refine one_ (i := 3) (N := some 51) (bq 5 15) rfl rfl (by kernel_rfl) (by decide) (fun K hK => ?_)
       refine goes_ Try.func15 (by kernel_rfl) rfl #[.agg #[.slice Ao29 t765.length co29], .agg #[.slice Ao66 t775.length co66]] (by rfl) rfl rfl (by (try simp only [List.map_toArray, List.map_cons, List.map_nil]); first | done | rfl | (simp only [List.length_drop, List.length_take]; rfl)) ?_
       with_reducible refine (laws_eqRadix.calls kj13 _ _ t765 _ _ t775 true _ ?side1 ?side2 ?side3 ?side4 A60.out).mono ?_
       (case side1 => repeat (first | exact (Kd.R_reads' HO_769000.out).2.2 | (with_reducible refine Kd.C_alloc ?_ _) | (with_reducible refine Kd.C_drewN ?_ _) | (with_reducible refine Kd.C_drew ?_)))
       (case side2 => exact (Kd.R_reads' HO_769000.out).2.1)
       (case side3 => repeat (first | exact (Kd.R_reads' HO777.out).2.2 | (with_reducible refine Kd.C_alloc ?_ _) | (with_reducible refine Kd.C_drewN ?_ _) | (with_reducible refine Kd.C_drew ?_)))
       (case side4 => exact (Kd.R_reads' HO777.out).2.1)
       rintro e w67 ⟨rfl, hb⟩
       refine ⟨_, rfl, ?_⟩
       have n0_ := aM (Kd.R_below (by (with_reducible repeat (first | apply Kd.R_alloc | apply Kd.R_drewN | apply Kd.R_drew)); exact HO_765000.out) hb)
       have n1_ := aM (Kd.R_below (by (with_reducible repeat (first | apply Kd.R_alloc | apply Kd.R_drewN | apply Kd.R_drew)); exact HO_769000.out) hb)
       have n2_ := aM (Kd.R_below (by (with_reducible repeat (first | apply Kd.R_alloc | apply Kd.R_drewN | apply Kd.R_drew)); exact HO_774000.out) hb)
       have n3_ := aM (Kd.R_below (by (with_reducible repeat (first | apply Kd.R_alloc | apply Kd.R_drewN | apply Kd.R_drew)); exact HO777.out) hb)
       have n4_ := aM (blk_below (g := gb755) (o := .cells #[.slice A0_0 l0_0.length c0_0] 36 (0, 0)) (by (with_reducible repeat (first | refine blk_drewN ?_ _ | refine blk_drew ?_ | refine blk_alloc ?_ _)); exact BK755.out) hb)
       have n5_ := aM (blk_below (g := gb764) (o := .cells #[.slice Ao23 t760.length co23] 26 (0, 0)) (by (with_reducible repeat (first | refine blk_drewN ?_ _ | refine blk_drew ?_ | refine blk_alloc ?_ _)); exact BK764.out) hb)
       have n6_ := aM (blk_below (g := gb768) (o := .cells #[.slice Ao29 t765.length co29] 26 (0, 0)) (by (with_reducible repeat (first | refine blk_drewN ?_ _ | refine blk_drew ?_ | refine blk_alloc ?_ _)); exact BK768.out) hb)
       have n7_ := aM (blk_below (g := gb773) (o := .cells #[.slice Ao35 t769.length co35] 26 (0, 0)) (by (with_reducible repeat (first | refine blk_drewN ?_ _ | refine blk_drew ?_ | refine blk_alloc ?_ _)); exact BK773.out) hb)
       have n8_ := aM (below_step (by repeat (first | (with_reducible first | exact HB.out | apply below_alloc | apply pw_below_drewN | apply below_drew1 | refine below_set ?_ GE755.out | refine below_set ?_ GE764.out | refine below_set ?_ GE768.out | refine below_set ?_ GE773.out) | exact HB.out)) hb)
       clear HO_765000
       clear HO_769000
       clear HO_774000
       clear HO777
       clear BK755
       clear BK764
       clear BK768
       clear BK773
       clear HB
       have HO_765000 := n0_
       have HO_769000 := n1_
       have HO_774000 := n2_
       have HO777 := n3_
       have BK755 := n4_
       have BK764 := n5_
       have BK768 := n6_
       have BK773 := n7_
       have HB := n8_
       clear n0_ n1_ n2_ n3_ n4_ n5_ n6_ n7_ n8_
       (try clear hb)
       (try clear hb2)
       (try clear hk)
       (try clear hi)
       refine hK.out _ _ ⟨(blk_cell BK768.out 0).trans rfl, (blk_cell BK755.out 0).trans rfl⟩ (fun hHeld => ?_)
       clear hK K
       refine norm_ (a' := ?_) ?_ ?_
       rotate_left
       ·
        show Act.put _ (some 51) _ = _
        simp only [Act.put, zSA, zSB, zSC, i64_w, i32_w]
        rfl
       refine pure_ (i := 4) (N := some 52) (v := ?_) (a' := ?_) (bq 5 31) rfl rfl (by kernel_rfl) (fun _ _ _ h => h) (Or.inl ⟨by rfl, ?_⟩) ?_ ?_; rotate_left; (intro w'; go_simp; (with_reducible rfl)); rotate_left; (simp only [Act.put, zSA, zSB, zSC, i64_w, i32_w]; rfl)
       refine done_ (by kernel_rfl) ?_
       have hnb68 := NB768_755.out
       have hnc68 := NB755_768.out
       have hnb69 := NB768_764.out
       have hnc69 := NB764_768.out
       have hnb70 := NB768_773.out
       have hnc70 := NB773_768.out
       have hcz71_0 : w67.cell? ⟨gb768, 0, none⟩ = some (.slice Ao29 t765.length co29) := (blk_cell BK768.out 0).trans rfl
       have hfz71_0 := blk_frozen BK768.out 0
       go_upto_region 16 with (first | ((with_reducible refine gate_callee (f := 18) rfl ?_); refine goesL_ (some 55) rfl rfl Try.func18 (by kernel_rfl) rfl #[.agg #[.slice Ao29 t765.length co29], .int .i64 1] rfl (by (try simp only [List.map_toArray, List.map_cons, List.map_nil]); first | done | rfl | (simp only [List.length_drop, List.length_take]; rfl)) ?_; (with_reducible refine (laws_markRadix.calls kj13 (fun k_ => some k_ = (.slice Ao29 t765.length co29 : Value).ownBlock) (.slice Ao29 t765.length co29) t765 1 t779 t780 w _ ?side1 ?side2 A62.out).mono ?_); (case side1 => repeat (first | (with_reducible first | exact HB.out | apply below_alloc | apply pw_below_drewN | apply below_drew1 | refine below_set ?_ GE755.out | refine below_set ?_ GE764.out | refine below_set ?_ GE768.out | refine below_set ?_ GE773.out) | exact HB.out)); (case side2 => exact Kd.R_tight rfl HO_769000.out); rintro e w72 ⟨rfl, hy0, hb, hkp⟩; refine ⟨_, rfl, ?_⟩; have n0_ := aM (Kd.R_mono (ok' := fun k_ => some k_ ≠ (.slice Ao29 t765.length co29 : Value).ownBlock ∧ some k_ ≠ (.slice Ao35 t769.length co35 : Value).ownBlock ∧ some k_ ≠ (.slice Ao66 t775.length co66 : Value).ownBlock) (Kd.R_keptB (HO_765000.out) hkp (fun k_ hk_ hs_ => (hk_.1.1) hs_)) (fun k_ hk_ => ⟨hk_.1.1.1, hk_.1.1.2, hk_.1.2⟩)); have n1_ := aM (Kd.R_reok rfl hy0 (fun k_ e_ => HO_769000.out.1 k_ e_)); have n2_ := aM (Kd.R_mono (ok' := fun k_ => some k_ ≠ (.slice Ao23 t760.length co23 : Value).ownBlock ∧ some k_ ≠ (.slice Ao29 t765.length co29 : Value).ownBlock ∧ some k_ ≠ (.slice Ao66 t775.length co66 : Value).ownBlock) (Kd.R_keptB (HO_774000.out) hkp (fun k_ hk_ hs_ => (hk_.1.2) hs_)) (fun k_ hk_ => ⟨hk_.1.1.1, hk_.1.1.2, hk_.1.2⟩)); have n3_ := aM (blk_kept (by (with_reducible repeat (first | refine blk_drewN ?_ _ | refine blk_drew ?_ | refine blk_alloc ?_ _)); exact BK755.out) hkp (fun hs_ => (fun e_ => (Kd.R_ne HO_769000.out BK755.out (by decide)) e_) hs_)); have n4_ := aM (blk_kept (by (with_reducible repeat (first | refine blk_drewN ?_ _ | refine blk_drew ?_ | refine blk_alloc ?_ _)); exact BK764.out) hkp (fun hs_ => (fun e_ => (Kd.R_ne HO_769000.out BK764.out (by decide)) e_) hs_)); have n5_ := aM (blk_kept (by (with_reducible repeat (first | refine blk_drewN ?_ _ | refine blk_drew ?_ | refine blk_alloc ?_ _)); exact BK768.out) hkp (fun hs_ => (fun e_ => (Kd.R_ne HO_769000.out BK768.out (by decide)) e_) hs_)); have n6_ := aM (blk_kept (by (with_reducible repeat (first | refine blk_drewN ?_ _ | refine blk_drew ?_ | refine blk_alloc ?_ _)); exact BK773.out) hkp (fun hs_ => (fun e_ => (Kd.R_ne HO_769000.out BK773.out (by decide)) e_) hs_)); have n7_ := aM (Kd.R_mono (ok' := fun k_ => some k_ ≠ (.slice Ao23 t760.length co23 : Value).ownBlock ∧ some k_ ≠ (.slice Ao29 t765.length co29 : Value).ownBlock ∧ some k_ ≠ (.slice Ao35 t769.length co35 : Value).ownBlock) (Kd.R_keptB (HO777.out) hkp (fun k_ hk_ hs_ => (hk_.1.2) hs_)) (fun k_ hk_ => ⟨hk_.1.1.1.2, hk_.1.1.2, hk_.1.2⟩)); have n8_ := aM (hb); clear HO_765000; clear HO_769000; clear HO_774000; clear BK755; clear BK764; clear BK768; clear BK773; clear HO777; clear HB; have HO_765000 := n0_; have HO_769000 := n1_; have HO_774000 := n2_; have BK755 := n3_; have BK764 := n4_; have BK768 := n5_; have BK773 := n6_; have HO777 := n7_; have HB := n8_; clear n0_ n1_ n2_ n3_ n4_ n5_ n6_ n7_ n8_; (try clear hb); (try clear hkp); (try clear hy0)))
       (try simp only [Act.put, zSA, zSB, zSC])
       go_cut [68] (fun v68 wc => ∃ (kq : Nat) (x68_62 : Bool), v68 = .bool x68_62 ∧ Aside0 (laws_FnExactCutName.j1 kq a1 t763 x68_62 l0_0 t760 t769 = some r) ∧ Aside0 (kq ≤ kj13) ∧ Aside0 (Kd.R k64 64 wc w.heap.size (fun k_ => some k_ ≠ ((.slice Ao29 t765.length co29) : Value).ownBlock ∧ some k_ ≠ ((.slice Ao35 t769.length co35) : Value).ownBlock) (.slice Ao23 t760.length co23) t760) ∧ Aside0 (Kd.R k64 64 wc w.heap.size (fun k_ => some k_ ≠ ((.slice Ao23 t760.length co23) : Value).ownBlock ∧ some k_ ≠ ((.slice Ao35 t769.length co35) : Value).ownBlock) (.slice Ao29 t765.length co29) t780) ∧ Aside0 (Kd.R k64 64 wc w.heap.size (fun k_ => some k_ ≠ ((.slice Ao23 t760.length co23) : Value).ownBlock ∧ some k_ ≠ ((.slice Ao29 t765.length co29) : Value).ownBlock) (.slice Ao35 t769.length co35) t769) ∧ Aside0 (wc.heap[gb755]? = some (.cells #[(.slice A0_0 l0_0.length c0_0)] 36 (0, 0))) ∧ Aside0 (wc.heap[gb764]? = some (.cells #[(.slice Ao23 t760.length co23)] 26 (0, 0))) ∧ Aside0 (wc.heap[gb768]? = some (.cells #[(.slice Ao29 t765.length co29)] 26 (0, 0))) ∧ Aside0 (wc.heap[gb773]? = some (.cells #[(.slice Ao35 t769.length co35)] 26 (0, 0))) ∧ Aside0 (Below w.heap.size w wc))
       case first =>
        have H := HC63.out
        clear HC63
        by_cases c73 : t779 < 0
        ·
         rw [if_pos c73] at H
         have c73b0 : decide (t779 < 0) = true := decide_eq_true c73
         clear c73
         (first | rw [c73b0] | (simp only [i64_w, i32_w]; rw [c73b0]) | skip)
         have H' := aM H
         clear H
         go_wp2
         go_meet
         case rel => exact ⟨_, (true), (by first | rfl | (simp; done) | (simp [*]; done)), H', ⟨by have := HJ13.out; first | omega | exact Nat.le_refl _⟩, ⟨by (with_reducible repeat (first | apply Kd.R_alloc | apply Kd.R_drewN | apply Kd.R_drew)); exact Kd.R_mono HO_765000.out (fun _ hk => ⟨hk.1, hk.2.1⟩)⟩, ⟨by (with_reducible repeat (first | apply Kd.R_alloc | apply Kd.R_drewN | apply Kd.R_drew)); exact Kd.R_mono HO_769000.out (fun _ hk => ⟨hk.1.1, hk.1.2⟩)⟩, ⟨by (with_reducible repeat (first | apply Kd.R_alloc | apply Kd.R_drewN | apply Kd.R_drew)); exact Kd.R_mono HO_774000.out (fun _ hk => ⟨hk.1, hk.2.1⟩)⟩, ⟨by (with_reducible repeat (first | refine blk_drewN ?_ _ | refine blk_drew ?_ | refine blk_alloc ?_ _)); exact BK755.out⟩, ⟨by (with_reducible repeat (first | refine blk_drewN ?_ _ | refine blk_drew ?_ | refine blk_alloc ?_ _)); exact BK764.out⟩, ⟨by (with_reducible repeat (first | refine blk_drewN ?_ _ | refine blk_drew ?_ | refine blk_alloc ?_ _)); exact BK768.out⟩, ⟨by (with_reducible repeat (first | refine blk_drewN ?_ _ | refine blk_drew ?_ | refine blk_alloc ?_ _)); exact BK773.out⟩, ⟨by repeat (first | (with_reducible first | exact HB.out | apply below_alloc | apply pw_below_drewN | apply below_drew1 | refine below_set ?_ GE755.out | refine below_set ?_ GE764.out | refine below_set ?_ GE768.out | refine below_set ?_ GE773.out) | exact HB.out)⟩⟩
        ·
         rw [if_neg c73] at H
         have c73b0 : decide (t779 < 0) = false := decide_eq_false c73
         clear c73
         (first | rw [c73b0] | (simp only [i64_w, i32_w]; rw [c73b0]) | skip)
         replace H := Option.bind_eq_some_iff.mp H
         obtain ⟨t781, A740, H⟩ := H
         replace H : (if t781 = true then (laws_FnExactCutName.j1 kj13 a1 t763 (t772 != t763) l0_0 t760 t769) else (laws_FnExactCutName.j1 kj13 a1 t763 true l0_0 t760 t769)) = some r := H
         have A74 := aM A740
         clear A740
         by_cases c75 : t781 = true
         ·
          subst c75
          have H1 : (laws_FnExactCutName.j1 kj13 a1 t763 (t772 != t763) l0_0 t760 t769) = some r := by rw [if_pos rfl] at H; exact H
          clear H
          have H := H1
          clear H1
          have H' := aM H
          clear H
          have hnb76 := NB773_755.out
          have hnc76 := NB755_773.out
          have hnb77 := NB773_764.out
          have hnc77 := NB764_773.out
          have hnb78 := NB773_768.out
          have hnc78 := NB768_773.out
          have hcz79_0 : w72.cell? ⟨gb773, 0, none⟩ = some (.slice Ao35 t769.length co35) := (blk_cell BK773.out 0).trans rfl
          have hfz79_0 := blk_frozen BK773.out 0
          have hnb80 := NB764_755.out
          have hnc80 := NB755_764.out
          have hnb81 := NB764_768.out
          have hnc81 := NB768_764.out
          have hcz82_0 : w72.cell? ⟨gb764, 0, none⟩ = some (.slice Ao23 t760.length co23) := (blk_cell BK764.out 0).trans rfl
          have hfz82_0 := blk_frozen BK764.out 0
          go_wp2_with (first | (go_at_call 15; (try simp only [i64_w]); (with_reducible refine (laws_eqRadix.calls kj13 _ _ t769 _ _ t760 true _ ?side1 ?side2 ?side3 ?side4 A74.out).mono ?_); (case side1 => repeat (first | exact (Kd.R_reads' HO_774000.out).2.2 | (with_reducible refine Kd.C_alloc ?_ _) | (with_reducible refine Kd.C_drewN ?_ _) | (with_reducible refine Kd.C_drew ?_))); (case side2 => exact (Kd.R_reads' HO_774000.out).2.1); (case side3 => repeat (first | exact (Kd.R_reads' HO_765000.out).2.2 | (with_reducible refine Kd.C_alloc ?_ _) | (with_reducible refine Kd.C_drewN ?_ _) | (with_reducible refine Kd.C_drew ?_))); (case side4 => exact (Kd.R_reads' HO_765000.out).2.1); rintro e w83 ⟨rfl, hb⟩; have n0_ := aM (Kd.R_below (by (with_reducible repeat (first | apply Kd.R_alloc | apply Kd.R_drewN | apply Kd.R_drew)); exact HO_765000.out) hb); have n1_ := aM (Kd.R_below (by (with_reducible repeat (first | apply Kd.R_alloc | apply Kd.R_drewN | apply Kd.R_drew)); exact HO_769000.out) hb); have n2_ := aM (Kd.R_below (by (with_reducible repeat (first | apply Kd.R_alloc | apply Kd.R_drewN | apply Kd.R_drew)); exact HO_774000.out) hb); have n3_ := aM (Kd.R_below (by (with_reducible repeat (first | apply Kd.R_alloc | apply Kd.R_drewN | apply Kd.R_drew)); exact HO777.out) hb); have n4_ := aM (blk_below (g := gb755) (o := .cells #[.slice A0_0 l0_0.length c0_0] 36 (0, 0)) (by (with_reducible repeat (first | refine blk_drewN ?_ _ | refine blk_drew ?_ | refine blk_alloc ?_ _)); exact BK755.out) hb); have n5_ := aM (blk_below (g := gb764) (o := .cells #[.slice Ao23 t760.length co23] 26 (0, 0)) (by (with_reducible repeat (first | refine blk_drewN ?_ _ | refine blk_drew ?_ | refine blk_alloc ?_ _)); exact BK764.out) hb); have n6_ := aM (blk_below (g := gb768) (o := .cells #[.slice Ao29 t765.length co29] 26 (0, 0)) (by (with_reducible repeat (first | refine blk_drewN ?_ _ | refine blk_drew ?_ | refine blk_alloc ?_ _)); exact BK768.out) hb); have n7_ := aM (blk_below (g := gb773) (o := .cells #[.slice Ao35 t769.length co35] 26 (0, 0)) (by (with_reducible repeat (first | refine blk_drewN ?_ _ | refine blk_drew ?_ | refine blk_alloc ?_ _)); exact BK773.out) hb); have n8_ := aM (below_step (by repeat (first | (with_reducible first | exact HB.out | apply below_alloc | apply pw_below_drewN | apply below_drew1 | refine below_set ?_ GE755.out | refine below_set ?_ GE764.out | refine below_set ?_ GE768.out | refine below_set ?_ GE773.out) | exact HB.out)) hb); clear HO_765000; clear HO_769000; clear HO_774000; clear HO777; clear BK755; clear BK764; clear BK768; clear BK773; clear HB; have HO_765000 := n0_; have HO_769000 := n1_; have HO_774000 := n2_; have HO777 := n3_; have BK755 := n4_; have BK764 := n5_; have BK768 := n6_; have BK773 := n7_; have HB := n8_; clear n0_ n1_ n2_ n3_ n4_ n5_ n6_ n7_ n8_; (try clear hb); (try clear hb2); (try clear hk); (try clear hi)))
          go_meet
          case rel => exact ⟨_, ((t772 != t763)), (by first | rfl | (simp; done) | (simp [*]; done)), H', ⟨by have := HJ13.out; first | omega | exact Nat.le_refl _⟩, ⟨by (with_reducible repeat (first | apply Kd.R_alloc | apply Kd.R_drewN | apply Kd.R_drew)); exact Kd.R_mono HO_765000.out (fun _ hk => ⟨hk.1, hk.2.1⟩)⟩, ⟨by (with_reducible repeat (first | apply Kd.R_alloc | apply Kd.R_drewN | apply Kd.R_drew)); exact Kd.R_mono HO_769000.out (fun _ hk => ⟨hk.1.1, hk.1.2⟩)⟩, ⟨by (with_reducible repeat (first | apply Kd.R_alloc | apply Kd.R_drewN | apply Kd.R_drew)); exact Kd.R_mono HO_774000.out (fun _ hk => ⟨hk.1, hk.2.1⟩)⟩, ⟨by (with_reducible repeat (first | refine blk_drewN ?_ _ | refine blk_drew ?_ | refine blk_alloc ?_ _)); exact BK755.out⟩, ⟨by (with_reducible repeat (first | refine blk_drewN ?_ _ | refine blk_drew ?_ | refine blk_alloc ?_ _)); exact BK764.out⟩, ⟨by (with_reducible repeat (first | refine blk_drewN ?_ _ | refine blk_drew ?_ | refine blk_alloc ?_ _)); exact BK768.out⟩, ⟨by (with_reducible repeat (first | refine blk_drewN ?_ _ | refine blk_drew ?_ | refine blk_alloc ?_ _)); exact BK773.out⟩, ⟨by repeat (first | (with_reducible first | exact HB.out | apply below_alloc | apply pw_below_drewN | apply below_drew1 | refine below_set ?_ GE755.out | refine below_set ?_ GE764.out | refine below_set ?_ GE768.out | refine below_set ?_ GE773.out) | exact HB.out)⟩⟩
         ·
          replace c75 := Bool.eq_false_iff.mpr c75
          subst c75
          have H1 : (laws_FnExactCutName.j1 kj13 a1 t763 true l0_0 t760 t769) = some r := by rw [if_neg (show ¬ (false = true) by decide)] at H; exact H
          clear H
          have H := H1
          clear H1
          have H' := aM H
          clear H
          have hnb84 := NB773_755.out
          have hnc84 := NB755_773.out
          have hnb85 := NB773_764.out
          have hnc85 := NB764_773.out
          have hnb86 := NB773_768.out
          have hnc86 := NB768_773.out
          have hcz87_0 : w72.cell? ⟨gb773, 0, none⟩ = some (.slice Ao35 t769.length co35) := (blk_cell BK773.out 0).trans rfl
          have hfz87_0 := blk_frozen BK773.out 0
          have hnb88 := NB764_755.out
          have hnc88 := NB755_764.out
          have hnb89 := NB764_768.out
          have hnc89 := NB768_764.out
          have hcz90_0 : w72.cell? ⟨gb764, 0, none⟩ = some (.slice Ao23 t760.length co23) := (blk_cell BK764.out 0).trans rfl
          have hfz90_0 := blk_frozen BK764.out 0
          go_wp2_with (first | (go_at_call 15; (try simp only [i64_w]); (with_reducible refine (laws_eqRadix.calls kj13 _ _ t769 _ _ t760 false _ ?side1 ?side2 ?side3 ?side4 A74.out).mono ?_); (case side1 => repeat (first | exact (Kd.R_reads' HO_774000.out).2.2 | (with_reducible refine Kd.C_alloc ?_ _) | (with_reducible refine Kd.C_drewN ?_ _) | (with_reducible refine Kd.C_drew ?_))); (case side2 => exact (Kd.R_reads' HO_774000.out).2.1); (case side3 => repeat (first | exact (Kd.R_reads' HO_765000.out).2.2 | (with_reducible refine Kd.C_alloc ?_ _) | (with_reducible refine Kd.C_drewN ?_ _) | (with_reducible refine Kd.C_drew ?_))); (case side4 => exact (Kd.R_reads' HO_765000.out).2.1); rintro e w91 ⟨rfl, hb⟩; have n0_ := aM (Kd.R_below (by (with_reducible repeat (first | apply Kd.R_alloc | apply Kd.R_drewN | apply Kd.R_drew)); exact HO_765000.out) hb); have n1_ := aM (Kd.R_below (by (with_reducible repeat (first | apply Kd.R_alloc | apply Kd.R_drewN | apply Kd.R_drew)); exact HO_769000.out) hb); have n2_ := aM (Kd.R_below (by (with_reducible repeat (first | apply Kd.R_alloc | apply Kd.R_drewN | apply Kd.R_drew)); exact HO_774000.out) hb); have n3_ := aM (Kd.R_below (by (with_reducible repeat (first | apply Kd.R_alloc | apply Kd.R_drewN | apply Kd.R_drew)); exact HO777.out) hb); have n4_ := aM (blk_below (g := gb755) (o := .cells #[.slice A0_0 l0_0.length c0_0] 36 (0, 0)) (by (with_reducible repeat (first | refine blk_drewN ?_ _ | refine blk_drew ?_ | refine blk_alloc ?_ _)); exact BK755.out) hb); have n5_ := aM (blk_below (g := gb764) (o := .cells #[.slice Ao23 t760.length co23] 26 (0, 0)) (by (with_reducible repeat (first | refine blk_drewN ?_ _ | refine blk_drew ?_ | refine blk_alloc ?_ _)); exact BK764.out) hb); have n6_ := aM (blk_below (g := gb768) (o := .cells #[.slice Ao29 t765.length co29] 26 (0, 0)) (by (with_reducible repeat (first | refine blk_drewN ?_ _ | refine blk_drew ?_ | refine blk_alloc ?_ _)); exact BK768.out) hb); have n7_ := aM (blk_below (g := gb773) (o := .cells #[.slice Ao35 t769.length co35] 26 (0, 0)) (by (with_reducible repeat (first | refine blk_drewN ?_ _ | refine blk_drew ?_ | refine blk_alloc ?_ _)); exact BK773.out) hb); have n8_ := aM (below_step (by repeat (first | (with_reducible first | exact HB.out | apply below_alloc | apply pw_below_drewN | apply below_drew1 | refine below_set ?_ GE755.out | refine below_set ?_ GE764.out | refine below_set ?_ GE768.out | refine below_set ?_ GE773.out) | exact HB.out)) hb); clear HO_765000; clear HO_769000; clear HO_774000; clear HO777; clear BK755; clear BK764; clear BK768; clear BK773; clear HB; have HO_765000 := n0_; have HO_769000 := n1_; have HO_774000 := n2_; have HO777 := n3_; have BK755 := n4_; have BK764 := n5_; have BK768 := n6_; have BK773 := n7_; have HB := n8_; clear n0_ n1_ n2_ n3_ n4_ n5_ n6_ n7_ n8_; (try clear hb); (try clear hb2); (try clear hk); (try clear hi)))
          go_meet
          case rel => exact ⟨_, (true), (by first | rfl | (simp; done) | (simp [*]; done)), H', ⟨by have := HJ13.out; first | omega | exact Nat.le_refl _⟩, ⟨by (with_reducible repeat (first | apply Kd.R_alloc | apply Kd.R_drewN | apply Kd.R_drew)); exact Kd.R_mono HO_765000.out (fun _ hk => ⟨hk.1, hk.2.1⟩)⟩, ⟨by (with_reducible repeat (first | apply Kd.R_alloc | apply Kd.R_drewN | apply Kd.R_drew)); exact Kd.R_mono HO_769000.out (fun _ hk => ⟨hk.1.1, hk.1.2⟩)⟩, ⟨by (with_reducible repeat (first | apply Kd.R_alloc | apply Kd.R_drewN | apply Kd.R_drew)); exact Kd.R_mono HO_774000.out (fun _ hk => ⟨hk.1, hk.2.1⟩)⟩, ⟨by (with_reducible repeat (first | refine blk_drewN ?_ _ | refine blk_drew ?_ | refine blk_alloc ?_ _)); exact BK755.out⟩, ⟨by (with_reducible repeat (first | refine blk_drewN ?_ _ | refine blk_drew ?_ | refine blk_alloc ?_ _)); exact BK764.out⟩, ⟨by (with_reducible repeat (first | refine blk_drewN ?_ _ | refine blk_drew ?_ | refine blk_alloc ?_ _)); exact BK768.out⟩, ⟨by (with_reducible repeat (first | refine blk_drewN ?_ _ | refine blk_drew ?_ | refine blk_alloc ?_ _)); exact BK773.out⟩, ⟨by repeat (first | (with_reducible first | exact HB.out | apply below_alloc | apply pw_below_drewN | apply below_drew1 | refine below_set ?_ GE755.out | refine below_set ?_ GE764.out | refine below_set ?_ GE768.out | refine below_set ?_ GE773.out) | exact HB.out)⟩⟩
       case rest =>
        clear HC63
        try clear c1
        try clear c2
        try clear p2
        try clear c3
        try clear c3b0
        try clear c3b1
        try clear c4
        try clear c5
        try clear c6
        try clear c6b0
        try clear c7
        try clear c8
        try clear c9
        try clear c15
        try clear c18
        try clear c20
        try clear c22
        try clear c24
        try clear c30
        try clear c31
        try clear c33
        try clear c34
        try clear c36
        try clear c37
        try clear c38
        try clear c41
        try clear c42
        try clear c43
        try clear c44
        try clear c46
        try clear c47
        try clear c50
        try clear c51
        try clear c52
        try clear c54
        try clear c55
        try clear c58
        try clear c61
        try clear c68
        try clear c69
        try clear c70
        try clear c73
        try clear c73b0
        try clear c75
        try clear c76
        try clear c77
        try clear c78
        try clear c80
        try clear c81
        try clear c84
        try clear c85
        try clear c86
        try clear c88
        try clear c89
        try clear hcz16_0
        try clear hcz18_0
        try clear hcz25_0
        try clear hcz26_0
        try clear hcz32_0
        try clear hcz39_0
        try clear hcz45_0
        try clear hcz48_0
        try clear hcz53_0
        try clear hcz56_0
        try clear hcz71_0
        try clear hcz79_0
        try clear hcz82_0
        try clear hcz87_0
        try clear hcz8_0
        try clear hcz90_0
        try clear hfz16_0
        try clear hfz18_0
        try clear hfz25_0
        try clear hfz26_0
        try clear hfz32_0
        try clear hfz39_0
        try clear hfz45_0
        try clear hfz48_0
        try clear hfz53_0
        try clear hfz56_0
        try clear hfz71_0
        try clear hfz79_0
        try clear hfz82_0
        try clear hfz87_0
        try clear hfz8_0
        try clear hfz90_0
        try clear p2
        obtain ⟨kq, x68_62, rfl, HA, HJ62, HO_765000, HO_769000, HO_774000, BK755, BK764, BK768, BK773, HB⟩ := hcut
        have hl769000_62 := (Kd.R_reads' HO_769000.out).1
        rw [hl769000_62] at HO_769000
        (try simp only [hl769000_62])
        (try simp only [hl769000_62] at BK755)
        (try simp only [hl769000_62] at BK764)
        (try simp only [hl769000_62] at BK768)
        (try simp only [hl769000_62] at BK773)
        (try simp only [hl769000_62] at HO_765000)
        (try simp only [hl769000_62] at HO_774000)
        cases kq with
        | zero => exact absurd HA.out (by simp [laws_FnExactCutName.j1])
        | succ kj62 =>
         have H := HA.out
         clear HA
         simp only [laws_FnExactCutName.j1] at H
         by_cases c92 : x68_62 = true
         ·
          subst c92
          have H1 : (some false) = some r := by rw [if_pos rfl] at H; exact H
          clear H
          have H := H1
          clear H1
          obtain rfl := Option.some.inj H
          go_wp2
          go_ret
          exact ⟨by first | rfl | (simp [errW_none, errW_some] <;> rfl) | (simp [*, errW_none, errW_some] <;> rfl), by repeat (first | (with_reducible first | exact HB.out | apply below_alloc | apply pw_below_drewN | apply below_drew1 | refine below_set ?_ GE755.out | refine below_set ?_ GE764.out | refine below_set ?_ GE768.out | refine below_set ?_ GE773.out) | exact HB.out)⟩
         ·
          replace c92 := Bool.eq_false_iff.mpr c92
          subst c92
          have H1 : ((laws_markRadix.f kj62 t769 1).bind fun bt782 => ((laws_heldRadix.f kj62 bt782.2 1).bind fun t784 => (if t784 < 0 then (some false) else (if t784 = bt782.1 then ((laws_toRadix.f kj62 l0_0).bind fun t785 => ((impl_CutName.f t785 a1).bind fun bt788 => ((laws_eqRadix.f kj62 bt788.1 t760).bind fun t793 => (if t793 = true then (laws_FnExactCutName.j2 kj62 bt782.1 (bt788.2 != t763) bt782.2) else (laws_FnExactCutName.j2 kj62 bt782.1 true bt782.2))))) else (some false))))) = some r := by rw [if_neg (show ¬ (false = true) by decide)] at H; exact H
          clear H
          have H := H1
          clear H1
          replace H := Option.bind_eq_some_iff.mp H
          obtain ⟨⟨t782, t783⟩, A930, H⟩ := H
          replace H : ((laws_heldRadix.f kj62 t783 1).bind fun t784 => (if t784 < 0 then (some false) else (if t784 = t782 then ((laws_toRadix.f kj62 l0_0).bind fun t785 => ((impl_CutName.f t785 a1).bind fun bt788 => ((laws_eqRadix.f kj62 bt788.1 t760).bind fun t793 => (if t793 = true then (laws_FnExactCutName.j2 kj62 t782 (bt788.2 != t763) t783) else (laws_FnExactCutName.j2 kj62 t782 true t783))))) else (some false)))) = some r := H
          have A93 := aM A930
          clear A930
          replace H := Option.bind_eq_some_iff.mp H
          obtain ⟨t784, A940, H⟩ := H
          replace H : (if t784 < 0 then (some false) else (if t784 = t782 then ((laws_toRadix.f kj62 l0_0).bind fun t785 => ((impl_CutName.f t785 a1).bind fun bt788 => ((laws_eqRadix.f kj62 bt788.1 t760).bind fun t793 => (if t793 = true then (laws_FnExactCutName.j2 kj62 t782 (bt788.2 != t763) t783) else (laws_FnExactCutName.j2 kj62 t782 true t783))))) else (some false))) = some r := H
          have A94 := aM A940
          clear A940
          by_cases c95 : t784 < 0
          ·
           rw [if_pos c95] at H
           have c95b0 : decide (t784 < 0) = true := decide_eq_true c95
           clear c95
           obtain rfl := Option.some.inj H
           have hnb96 := NB773_755.out
           have hnc96 := NB755_773.out
           have hnb97 := NB773_764.out
           have hnc97 := NB764_773.out
           have hnb98 := NB773_768.out
           have hnc98 := NB768_773.out
           have hcz99_0 : wc.cell? ⟨gb773, 0, none⟩ = some (.slice Ao35 t769.length co35) := (blk_cell BK773.out 0).trans rfl
           have hfz99_0 := blk_frozen BK773.out 0
           go_wp2_with (first | ((with_reducible refine gate_callee (f := 18) rfl ?_); refine goesL_ (some 71) rfl rfl Try.func18 (by kernel_rfl) rfl #[.agg #[.slice Ao35 t769.length co35], .int .i64 1] rfl (by (try simp only [List.map_toArray, List.map_cons, List.map_nil]); first | done | rfl | (simp only [List.length_drop, List.length_take]; rfl)) ?_; (with_reducible refine (laws_markRadix.calls kj62 (fun k_ => some k_ = (.slice Ao35 t769.length co35 : Value).ownBlock) (.slice Ao35 t769.length co35) t769 1 t782 t783 w _ ?side1 ?side2 A93.out).mono ?_); (case side1 => repeat (first | (with_reducible first | exact HB.out | apply below_alloc | apply pw_below_drewN | apply below_drew1 | refine below_set ?_ GE755.out | refine below_set ?_ GE764.out | refine below_set ?_ GE768.out | refine below_set ?_ GE773.out) | exact HB.out)); (case side2 => exact Kd.R_tight rfl HO_774000.out); rintro e w100 ⟨rfl, hy0, hb, hkp⟩; refine ⟨_, rfl, ?_⟩; have n0_ := aM (Kd.R_mono (ok' := fun k_ => some k_ ≠ (.slice Ao29 t780.length co29 : Value).ownBlock ∧ some k_ ≠ (.slice Ao35 t769.length co35 : Value).ownBlock) (Kd.R_keptB (HO_765000.out) hkp (fun k_ hk_ hs_ => (hk_.2) hs_)) (fun k_ hk_ => ⟨hk_.1.1, hk_.1.2⟩)); have n1_ := aM (Kd.R_mono (ok' := fun k_ => some k_ ≠ (.slice Ao23 t760.length co23 : Value).ownBlock ∧ some k_ ≠ (.slice Ao35 t769.length co35 : Value).ownBlock) (Kd.R_keptB (HO_769000.out) hkp (fun k_ hk_ hs_ => (hk_.2) hs_)) (fun k_ hk_ => ⟨hk_.1.1, hk_.1.2⟩)); have n2_ := aM (Kd.R_reok rfl hy0 (fun k_ e_ => HO_774000.out.1 k_ e_)); have n3_ := aM (blk_kept (by (with_reducible repeat (first | refine blk_drewN ?_ _ | refine blk_drew ?_ | refine blk_alloc ?_ _)); exact BK755.out) hkp (fun hs_ => (fun e_ => (Kd.R_ne HO_774000.out BK755.out (by decide)) e_) hs_)); have n4_ := aM (blk_kept (by (with_reducible repeat (first | refine blk_drewN ?_ _ | refine blk_drew ?_ | refine blk_alloc ?_ _)); exact BK764.out) hkp (fun hs_ => (fun e_ => (Kd.R_ne HO_774000.out BK764.out (by decide)) e_) hs_)); have n5_ := aM (blk_kept (by (with_reducible repeat (first | refine blk_drewN ?_ _ | refine blk_drew ?_ | refine blk_alloc ?_ _)); exact BK768.out) hkp (fun hs_ => (fun e_ => (Kd.R_ne HO_774000.out BK768.out (by decide)) e_) hs_)); have n6_ := aM (blk_kept (by (with_reducible repeat (first | refine blk_drewN ?_ _ | refine blk_drew ?_ | refine blk_alloc ?_ _)); exact BK773.out) hkp (fun hs_ => (fun e_ => (Kd.R_ne HO_774000.out BK773.out (by decide)) e_) hs_)); have n7_ := aM (hb); clear HO_765000; clear HO_769000; clear HO_774000; clear BK755; clear BK764; clear BK768; clear BK773; clear HB; have HO_765000 := n0_; have HO_769000 := n1_; have HO_774000 := n2_; have BK755 := n3_; have BK764 := n4_; have BK768 := n5_; have BK773 := n6_; have HB := n7_; clear n0_ n1_ n2_ n3_ n4_ n5_ n6_ n7_; (try clear hb); (try clear hkp); (try clear hy0); have hcz101_0 : w100.cell? ⟨gb773, 0, none⟩ = some (.slice Ao35 t769.length co35) := (blk_cell BK773.out 0).trans rfl; have hfz101_0 := blk_frozen BK773.out 0) | ((with_reducible refine gate_callee (f := 19) rfl ?_); refine goesL_ (some 74) rfl rfl Try.func19 (by kernel_rfl) rfl #[.agg #[.slice Ao35 t783.length co35], .int .i64 1] rfl (by (try simp only [List.map_toArray, List.map_cons, List.map_nil]); first | done | (rw [show t783.length = t769.length from (Kd.R_reads' HO_774000.out).1.symm] <;> rfl) | rfl | (simp only [List.length_drop, List.length_take]; rfl)) ?_; (with_reducible refine (laws_heldRadix.calls kj62 _ _ t783 1 t784 _ ?side1 ?side2 A94.out).mono ?_); (case side1 => repeat (first | exact (Kd.R_reads' HO_774000.out).2.2 | (with_reducible refine Kd.C_alloc ?_ _) | (with_reducible refine Kd.C_drewN ?_ _) | (with_reducible refine Kd.C_drew ?_))); (case side2 => rw [show t783.length = t769.length from (Kd.R_reads' HO_774000.out).1.symm]; exact (Kd.R_reads' HO_774000.out).2.1); rintro e w102 ⟨rfl, hb⟩; refine ⟨_, rfl, ?_⟩; have n0_ := aM (Kd.R_below (by (with_reducible repeat (first | apply Kd.R_alloc | apply Kd.R_drewN | apply Kd.R_drew)); exact HO_765000.out) hb); have n1_ := aM (Kd.R_below (by (with_reducible repeat (first | apply Kd.R_alloc | apply Kd.R_drewN | apply Kd.R_drew)); exact HO_769000.out) hb); have n2_ := aM (Kd.R_below (by (with_reducible repeat (first | apply Kd.R_alloc | apply Kd.R_drewN | apply Kd.R_drew)); exact HO_774000.out) hb); have n3_ := aM (blk_below (g := gb755) (o := .cells #[.slice A0_0 l0_0.length c0_0] 36 (0, 0)) (by (with_reducible repeat (first | refine blk_drewN ?_ _ | refine blk_drew ?_ | refine blk_alloc ?_ _)); exact BK755.out) hb); have n4_ := aM (blk_below (g := gb764) (o := .cells #[.slice Ao23 t760.length co23] 26 (0, 0)) (by (with_reducible repeat (first | refine blk_drewN ?_ _ | refine blk_drew ?_ | refine blk_alloc ?_ _)); exact BK764.out) hb); have n5_ := aM (blk_below (g := gb768) (o := .cells #[.slice Ao29 t780.length co29] 26 (0, 0)) (by (with_reducible repeat (first | refine blk_drewN ?_ _ | refine blk_drew ?_ | refine blk_alloc ?_ _)); exact BK768.out) hb); have n6_ := aM (blk_below (g := gb773) (o := .cells #[.slice Ao35 t769.length co35] 26 (0, 0)) (by (with_reducible repeat (first | refine blk_drewN ?_ _ | refine blk_drew ?_ | refine blk_alloc ?_ _)); exact BK773.out) hb); have n7_ := aM (below_step (by repeat (first | (with_reducible first | exact HB.out | apply below_alloc | apply pw_below_drewN | apply below_drew1 | refine below_set ?_ GE755.out | refine below_set ?_ GE764.out | refine below_set ?_ GE768.out | refine below_set ?_ GE773.out) | exact HB.out)) hb); clear HO_765000; clear HO_769000; clear HO_774000; clear BK755; clear BK764; clear BK768; clear BK773; clear HB; have HO_765000 := n0_; have HO_769000 := n1_; have HO_774000 := n2_; have BK755 := n3_; have BK764 := n4_; have BK768 := n5_; have BK773 := n6_; have HB := n7_; clear n0_ n1_ n2_ n3_ n4_ n5_ n6_ n7_; (try clear hb); (try clear hb2); (try clear hk); (try clear hi)))
           go_ret
           exact ⟨by first | rfl | (simp [errW_none, errW_some] <;> rfl) | (simp [*, errW_none, errW_some] <;> rfl), by repeat (first | (with_reducible first | exact HB.out | apply below_alloc | apply pw_below_drewN | apply below_drew1 | refine below_set ?_ GE755.out | refine below_set ?_ GE764.out | refine below_set ?_ GE768.out | refine below_set ?_ GE773.out) | exact HB.out)⟩
          ·
           rw [if_neg c95] at H
           have c95b0 : decide (t784 < 0) = false := decide_eq_false c95
           clear c95
           by_cases c103 : t784 = t782
           ·
            rw [if_pos c103] at H
            have c103b0 : (t784 == t782) = true := beq_iff_eq.mpr c103
            have c103b1 : (t784 != t782) = false := bne_eq_false_iff_eq.mpr c103
            clear c103
            replace H := Option.bind_eq_some_iff.mp H
            obtain ⟨t785, A1040, H⟩ := H
            replace H : ((impl_CutName.f t785 a1).bind fun bt788 => ((laws_eqRadix.f kj62 bt788.1 t760).bind fun t793 => (if t793 = true then (laws_FnExactCutName.j2 kj62 t782 (bt788.2 != t763) t783) else (laws_FnExactCutName.j2 kj62 t782 true t783)))) = some r := H
            have A104 := aM A1040
            clear A1040
            replace H := Option.bind_eq_some_iff.mp H
            obtain ⟨⟨t788, t791⟩, A1050, H⟩ := H
            replace H : ((laws_eqRadix.f kj62 t788 t760).bind fun t793 => (if t793 = true then (laws_FnExactCutName.j2 kj62 t782 (t791 != t763) t783) else (laws_FnExactCutName.j2 kj62 t782 true t783))) = some r := H
            have A105 := aM A1050
            clear A1050
            have HC106 := aM H
            clear H
            have hnb107 := NB773_755.out
            have hnc107 := NB755_773.out
            have hnb108 := NB773_764.out
            have hnc108 := NB764_773.out
            have hnb109 := NB773_768.out
            have hnc109 := NB768_773.out
            have hcz110_0 : wc.cell? ⟨gb773, 0, none⟩ = some (.slice Ao35 t769.length co35) := (blk_cell BK773.out 0).trans rfl
            have hfz110_0 := blk_frozen BK773.out 0
            go_upto_region 27 with (first | ((with_reducible refine gate_callee (f := 18) rfl ?_); refine goesL_ (some 71) rfl rfl Try.func18 (by kernel_rfl) rfl #[.agg #[.slice Ao35 t769.length co35], .int .i64 1] rfl (by (try simp only [List.map_toArray, List.map_cons, List.map_nil]); first | done | rfl | (simp only [List.length_drop, List.length_take]; rfl)) ?_; (with_reducible refine (laws_markRadix.calls kj62 (fun k_ => some k_ = (.slice Ao35 t769.length co35 : Value).ownBlock) (.slice Ao35 t769.length co35) t769 1 t782 t783 w _ ?side1 ?side2 A93.out).mono ?_); (case side1 => repeat (first | (with_reducible first | exact HB.out | apply below_alloc | apply pw_below_drewN | apply below_drew1 | refine below_set ?_ GE755.out | refine below_set ?_ GE764.out | refine below_set ?_ GE768.out | refine below_set ?_ GE773.out) | exact HB.out)); (case side2 => exact Kd.R_tight rfl HO_774000.out); rintro e w111 ⟨rfl, hy0, hb, hkp⟩; refine ⟨_, rfl, ?_⟩; have n0_ := aM (Kd.R_mono (ok' := fun k_ => some k_ ≠ (.slice Ao29 t780.length co29 : Value).ownBlock ∧ some k_ ≠ (.slice Ao35 t769.length co35 : Value).ownBlock) (Kd.R_keptB (HO_765000.out) hkp (fun k_ hk_ hs_ => (hk_.2) hs_)) (fun k_ hk_ => ⟨hk_.1.1, hk_.1.2⟩)); have n1_ := aM (Kd.R_mono (ok' := fun k_ => some k_ ≠ (.slice Ao23 t760.length co23 : Value).ownBlock ∧ some k_ ≠ (.slice Ao35 t769.length co35 : Value).ownBlock) (Kd.R_keptB (HO_769000.out) hkp (fun k_ hk_ hs_ => (hk_.2) hs_)) (fun k_ hk_ => ⟨hk_.1.1, hk_.1.2⟩)); have n2_ := aM (Kd.R_reok rfl hy0 (fun k_ e_ => HO_774000.out.1 k_ e_)); have n3_ := aM (blk_kept (by (with_reducible repeat (first | refine blk_drewN ?_ _ | refine blk_drew ?_ | refine blk_alloc ?_ _)); exact BK755.out) hkp (fun hs_ => (fun e_ => (Kd.R_ne HO_774000.out BK755.out (by decide)) e_) hs_)); have n4_ := aM (blk_kept (by (with_reducible repeat (first | refine blk_drewN ?_ _ | refine blk_drew ?_ | refine blk_alloc ?_ _)); exact BK764.out) hkp (fun hs_ => (fun e_ => (Kd.R_ne HO_774000.out BK764.out (by decide)) e_) hs_)); have n5_ := aM (blk_kept (by (with_reducible repeat (first | refine blk_drewN ?_ _ | refine blk_drew ?_ | refine blk_alloc ?_ _)); exact BK768.out) hkp (fun hs_ => (fun e_ => (Kd.R_ne HO_774000.out BK768.out (by decide)) e_) hs_)); have n6_ := aM (blk_kept (by (with_reducible repeat (first | refine blk_drewN ?_ _ | refine blk_drew ?_ | refine blk_alloc ?_ _)); exact BK773.out) hkp (fun hs_ => (fun e_ => (Kd.R_ne HO_774000.out BK773.out (by decide)) e_) hs_)); have n7_ := aM (hb); clear HO_765000; clear HO_769000; clear HO_774000; clear BK755; clear BK764; clear BK768; clear BK773; clear HB; have HO_765000 := n0_; have HO_769000 := n1_; have HO_774000 := n2_; have BK755 := n3_; have BK764 := n4_; have BK768 := n5_; have BK773 := n6_; have HB := n7_; clear n0_ n1_ n2_ n3_ n4_ n5_ n6_ n7_; (try clear hb); (try clear hkp); (try clear hy0); have hcz112_0 : w111.cell? ⟨gb773, 0, none⟩ = some (.slice Ao35 t769.length co35) := (blk_cell BK773.out 0).trans rfl; have hfz112_0 := blk_frozen BK773.out 0) | ((with_reducible refine gate_callee (f := 19) rfl ?_); refine goesL_ (some 74) rfl rfl Try.func19 (by kernel_rfl) rfl #[.agg #[.slice Ao35 t783.length co35], .int .i64 1] rfl (by (try simp only [List.map_toArray, List.map_cons, List.map_nil]); first | done | (rw [show t783.length = t769.length from (Kd.R_reads' HO_774000.out).1.symm] <;> rfl) | rfl | (simp only [List.length_drop, List.length_take]; rfl)) ?_; (with_reducible refine (laws_heldRadix.calls kj62 _ _ t783 1 t784 _ ?side1 ?side2 A94.out).mono ?_); (case side1 => repeat (first | exact (Kd.R_reads' HO_774000.out).2.2 | (with_reducible refine Kd.C_alloc ?_ _) | (with_reducible refine Kd.C_drewN ?_ _) | (with_reducible refine Kd.C_drew ?_))); (case side2 => rw [show t783.length = t769.length from (Kd.R_reads' HO_774000.out).1.symm]; exact (Kd.R_reads' HO_774000.out).2.1); rintro e w113 ⟨rfl, hb⟩; refine ⟨_, rfl, ?_⟩; have n0_ := aM (Kd.R_below (by (with_reducible repeat (first | apply Kd.R_alloc | apply Kd.R_drewN | apply Kd.R_drew)); exact HO_765000.out) hb); have n1_ := aM (Kd.R_below (by (with_reducible repeat (first | apply Kd.R_alloc | apply Kd.R_drewN | apply Kd.R_drew)); exact HO_769000.out) hb); have n2_ := aM (Kd.R_below (by (with_reducible repeat (first | apply Kd.R_alloc | apply Kd.R_drewN | apply Kd.R_drew)); exact HO_774000.out) hb); have n3_ := aM (blk_below (g := gb755) (o := .cells #[.slice A0_0 l0_0.length c0_0] 36 (0, 0)) (by (with_reducible repeat (first | refine blk_drewN ?_ _ | refine blk_drew ?_ | refine blk_alloc ?_ _)); exact BK755.out) hb); have n4_ := aM (blk_below (g := gb764) (o := .cells #[.slice Ao23 t760.length co23] 26 (0, 0)) (by (with_reducible repeat (first | refine blk_drewN ?_ _ | refine blk_drew ?_ | refine blk_alloc ?_ _)); exact BK764.out) hb); have n5_ := aM (blk_below (g := gb768) (o := .cells #[.slice Ao29 t780.length co29] 26 (0, 0)) (by (with_reducible repeat (first | refine blk_drewN ?_ _ | refine blk_drew ?_ | refine blk_alloc ?_ _)); exact BK768.out) hb); have n6_ := aM (blk_below (g := gb773) (o := .cells #[.slice Ao35 t769.length co35] 26 (0, 0)) (by (with_reducible repeat (first | refine blk_drewN ?_ _ | refine blk_drew ?_ | refine blk_alloc ?_ _)); exact BK773.out) hb); have n7_ := aM (below_step (by repeat (first | (with_reducible first | exact HB.out | apply below_alloc | apply pw_below_drewN | apply below_drew1 | refine below_set ?_ GE755.out | refine below_set ?_ GE764.out | refine below_set ?_ GE768.out | refine below_set ?_ GE773.out) | exact HB.out)) hb); clear HO_765000; clear HO_769000; clear HO_774000; clear BK755; clear BK764; clear BK768; clear BK773; clear HB; have HO_765000 := n0_; have HO_769000 := n1_; have HO_774000 := n2_; have BK755 := n3_; have BK764 := n4_; have BK768 := n5_; have BK773 := n6_; have HB := n7_; clear n0_ n1_ n2_ n3_ n4_ n5_ n6_ n7_; (try clear hb); (try clear hb2); (try clear hk); (try clear hi); have hnb114 := NB755_764.out; have hnc114 := NB764_755.out; have hnb115 := NB755_768.out; have hnc115 := NB768_755.out; have hcz116_0 : w113.cell? ⟨gb755, 0, none⟩ = some (.slice A0_0 l0_0.length c0_0) := (blk_cell BK755.out 0).trans rfl; have hfz116_0 := blk_frozen BK755.out 0) | ((with_reducible refine gate_callee (f := 22) rfl ?_); refine goesL_ (some 82) rfl rfl Try.func22 (by kernel_rfl) rfl #[.agg #[.slice A0_0 l0_0.length c0_0]] rfl (by (try simp only [List.map_toArray, List.map_cons, List.map_nil]); first | done | rfl | (simp only [List.length_drop, List.length_take]; rfl)) ?_; (with_reducible refine (laws_toRadix.calls kj62 _ _ l0_0 t785 _ ?side1 ?side2 A104.out).mono ?_); (case side1 => repeat (first | exact (Kd.C_below HR0_0.out HB.out) | (with_reducible refine Kd.C_alloc ?_ _) | (with_reducible refine Kd.C_drewN ?_ _) | (with_reducible refine Kd.C_drew ?_))); (case side2 => exact HC0_0.out); rintro e w117 ⟨v786, rfl, ho0, hb⟩; refine ⟨_, rfl, ?_⟩; have n0_ := aM (Kd.R_elder' (by (with_reducible repeat (first | apply Kd.R_alloc | apply Kd.R_drewN | apply Kd.R_drew)); exact HO_765000.out) (Kd.R_base ho0) hb); have n1_ := aM (Kd.R_elder' (by (with_reducible repeat (first | apply Kd.R_alloc | apply Kd.R_drewN | apply Kd.R_drew)); exact HO_769000.out) (Kd.R_base ho0) hb); have n2_ := aM (Kd.R_elder' (by (with_reducible repeat (first | apply Kd.R_alloc | apply Kd.R_drewN | apply Kd.R_drew)); exact HO_774000.out) (Kd.R_base ho0) hb); have n3_ := aM (Kd.R_lower (Kd.R_new' (Kd.R_new' (Kd.R_new' ho0 (Kd.R_lt (by (with_reducible repeat (first | apply Kd.R_alloc | apply Kd.R_drewN | apply Kd.R_drew)); exact HO_765000.out))) (Kd.R_lt (by (with_reducible repeat (first | apply Kd.R_alloc | apply Kd.R_drewN | apply Kd.R_drew)); exact HO_769000.out))) (Kd.R_lt (by (with_reducible repeat (first | apply Kd.R_alloc | apply Kd.R_drewN | apply Kd.R_drew)); exact HO_774000.out))) (below_size (by repeat (first | (with_reducible first | exact HB.out | apply below_alloc | apply pw_below_drewN | apply below_drew1 | refine below_set ?_ GE755.out | refine below_set ?_ GE764.out | refine below_set ?_ GE768.out | refine below_set ?_ GE773.out) | exact HB.out)))); have n4_ := aM (blk_below (g := gb755) (o := .cells #[.slice A0_0 l0_0.length c0_0] 36 (0, 0)) (by (with_reducible repeat (first | refine blk_drewN ?_ _ | refine blk_drew ?_ | refine blk_alloc ?_ _)); exact BK755.out) hb); have n5_ := aM (blk_below (g := gb764) (o := .cells #[.slice Ao23 t760.length co23] 26 (0, 0)) (by (with_reducible repeat (first | refine blk_drewN ?_ _ | refine blk_drew ?_ | refine blk_alloc ?_ _)); exact BK764.out) hb); have n6_ := aM (blk_below (g := gb768) (o := .cells #[.slice Ao29 t780.length co29] 26 (0, 0)) (by (with_reducible repeat (first | refine blk_drewN ?_ _ | refine blk_drew ?_ | refine blk_alloc ?_ _)); exact BK768.out) hb); have n7_ := aM (blk_below (g := gb773) (o := .cells #[.slice Ao35 t769.length co35] 26 (0, 0)) (by (with_reducible repeat (first | refine blk_drewN ?_ _ | refine blk_drew ?_ | refine blk_alloc ?_ _)); exact BK773.out) hb); have n8_ := aM (below_step (by repeat (first | (with_reducible first | exact HB.out | apply below_alloc | apply pw_below_drewN | apply below_drew1 | refine below_set ?_ GE755.out | refine below_set ?_ GE764.out | refine below_set ?_ GE768.out | refine below_set ?_ GE773.out) | exact HB.out)) hb); clear HO_765000; clear HO_769000; clear HO_774000; clear BK755; clear BK764; clear BK768; clear BK773; clear HB; have HO_765000 := n0_; have HO_769000 := n1_; have HO_774000 := n2_; have HO787 := n3_; have BK755 := n4_; have BK764 := n5_; have BK768 := n6_; have BK773 := n7_; have HB := n8_; clear n0_ n1_ n2_ n3_ n4_ n5_ n6_ n7_ n8_; (try clear hb); (try clear hb2); (try clear hk); (try clear hi); (try clear ho0); obtain ⟨Ao118, co118, eo118⟩ := Kd.R_slice HO787.out; subst eo118) | ((with_reducible refine gate_callee (f := 34) rfl ?_); refine goesL_ (some 84) rfl rfl Try.func34 (by kernel_rfl) rfl #[.agg #[.slice Ao118 t785.length co118], .string a1] rfl (by (try simp only [List.map_toArray, List.map_cons, List.map_nil]); first | done | rfl | (simp only [List.length_drop, List.length_take]; rfl)) ?_; (with_reducible refine (impl_CutName.calls _ _ t785 a1 t788 t791 _ ?side1 ?side2 A105.out).mono ?_); (case side1 => repeat (first | exact (Kd.R_reads' HO787.out).2.2 | (with_reducible refine Kd.C_alloc ?_ _) | (with_reducible refine Kd.C_drewN ?_ _) | (with_reducible refine Kd.C_drew ?_))); (case side2 => exact (Kd.R_reads' HO787.out).2.1); rintro e w119 ⟨v789, rfl, ho0, hb⟩; refine ⟨_, rfl, ?_⟩; have n0_ := aM (Kd.R_elder' (by (with_reducible repeat (first | apply Kd.R_alloc | apply Kd.R_drewN | apply Kd.R_drew)); exact HO_765000.out) (Kd.R_base ho0) hb); have n1_ := aM (Kd.R_elder' (by (with_reducible repeat (first | apply Kd.R_alloc | apply Kd.R_drewN | apply Kd.R_drew)); exact HO_769000.out) (Kd.R_base ho0) hb); have n2_ := aM (Kd.R_elder' (by (with_reducible repeat (first | apply Kd.R_alloc | apply Kd.R_drewN | apply Kd.R_drew)); exact HO_774000.out) (Kd.R_base ho0) hb); have n3_ := aM (Kd.R_elder' (by (with_reducible repeat (first | apply Kd.R_alloc | apply Kd.R_drewN | apply Kd.R_drew)); exact HO787.out) (Kd.R_base ho0) hb); have n4_ := aM (Kd.R_lower (Kd.R_new' (Kd.R_new' (Kd.R_new' (Kd.R_new' ho0 (Kd.R_lt (by (with_reducible repeat (first | apply Kd.R_alloc | apply Kd.R_drewN | apply Kd.R_drew)); exact HO_765000.out))) (Kd.R_lt (by (with_reducible repeat (first | apply Kd.R_alloc | apply Kd.R_drewN | apply Kd.R_drew)); exact HO_769000.out))) (Kd.R_lt (by (with_reducible repeat (first | apply Kd.R_alloc | apply Kd.R_drewN | apply Kd.R_drew)); exact HO_774000.out))) (Kd.R_lt (by (with_reducible repeat (first | apply Kd.R_alloc | apply Kd.R_drewN | apply Kd.R_drew)); exact HO787.out))) (below_size (by repeat (first | (with_reducible first | exact HB.out | apply below_alloc | apply pw_below_drewN | apply below_drew1 | refine below_set ?_ GE755.out | refine below_set ?_ GE764.out | refine below_set ?_ GE768.out | refine below_set ?_ GE773.out) | exact HB.out)))); have n5_ := aM (blk_below (g := gb755) (o := .cells #[.slice A0_0 l0_0.length c0_0] 36 (0, 0)) (by (with_reducible repeat (first | refine blk_drewN ?_ _ | refine blk_drew ?_ | refine blk_alloc ?_ _)); exact BK755.out) hb); have n6_ := aM (blk_below (g := gb764) (o := .cells #[.slice Ao23 t760.length co23] 26 (0, 0)) (by (with_reducible repeat (first | refine blk_drewN ?_ _ | refine blk_drew ?_ | refine blk_alloc ?_ _)); exact BK764.out) hb); have n7_ := aM (blk_below (g := gb768) (o := .cells #[.slice Ao29 t780.length co29] 26 (0, 0)) (by (with_reducible repeat (first | refine blk_drewN ?_ _ | refine blk_drew ?_ | refine blk_alloc ?_ _)); exact BK768.out) hb); have n8_ := aM (blk_below (g := gb773) (o := .cells #[.slice Ao35 t769.length co35] 26 (0, 0)) (by (with_reducible repeat (first | refine blk_drewN ?_ _ | refine blk_drew ?_ | refine blk_alloc ?_ _)); exact BK773.out) hb); have n9_ := aM (below_step (by repeat (first | (with_reducible first | exact HB.out | apply below_alloc | apply pw_below_drewN | apply below_drew1 | refine below_set ?_ GE755.out | refine below_set ?_ GE764.out | refine below_set ?_ GE768.out | refine below_set ?_ GE773.out) | exact HB.out)) hb); clear HO_765000; clear HO_769000; clear HO_774000; clear HO787; clear BK755; clear BK764; clear BK768; clear BK773; clear HB; have HO_765000 := n0_; have HO_769000 := n1_; have HO_774000 := n2_; have HO787 := n3_; have HO790 := n4_; have BK755 := n5_; have BK764 := n6_; have BK768 := n7_; have BK773 := n8_; have HB := n9_; clear n0_ n1_ n2_ n3_ n4_ n5_ n6_ n7_ n8_ n9_; (try clear hb); (try clear hb2); (try clear hk); (try clear hi); (try clear ho0)) | ((with_reducible refine gate_dst (N := 14) rfl ?_); refine box_event ?hg (N := 14) ?hd (cs := #[.slice none 0 0]) (t := 26) ?hr ?_; (case hd => rfl); (case hg => rfl); (case hr => first | (go_simp; done) | (go_simp; rfl)); intro gb792 hg w120 hbox hb; have n0_ := aM (Kd.R_below (by (with_reducible repeat (first | apply Kd.R_alloc | apply Kd.R_drewN | apply Kd.R_drew)); exact HO_765000.out) hb); have n1_ := aM (Kd.R_below (by (with_reducible repeat (first | apply Kd.R_alloc | apply Kd.R_drewN | apply Kd.R_drew)); exact HO_769000.out) hb); have n2_ := aM (Kd.R_below (by (with_reducible repeat (first | apply Kd.R_alloc | apply Kd.R_drewN | apply Kd.R_drew)); exact HO_774000.out) hb); have n3_ := aM (Kd.R_below (by (with_reducible repeat (first | apply Kd.R_alloc | apply Kd.R_drewN | apply Kd.R_drew)); exact HO787.out) hb); have n4_ := aM (Kd.R_below (by (with_reducible repeat (first | apply Kd.R_alloc | apply Kd.R_drewN | apply Kd.R_drew)); exact HO790.out) hb); have n5_ := aM (blk_below (g := gb755) (o := .cells #[.slice A0_0 l0_0.length c0_0] 36 (0, 0)) (by (with_reducible repeat (first | refine blk_drewN ?_ _ | refine blk_drew ?_ | refine blk_alloc ?_ _)); exact BK755.out) hb); have n6_ := aM (blk_below (g := gb764) (o := .cells #[.slice Ao23 t760.length co23] 26 (0, 0)) (by (with_reducible repeat (first | refine blk_drewN ?_ _ | refine blk_drew ?_ | refine blk_alloc ?_ _)); exact BK764.out) hb); have n7_ := aM (blk_below (g := gb768) (o := .cells #[.slice Ao29 t780.length co29] 26 (0, 0)) (by (with_reducible repeat (first | refine blk_drewN ?_ _ | refine blk_drew ?_ | refine blk_alloc ?_ _)); exact BK768.out) hb); have n8_ := aM (blk_below (g := gb773) (o := .cells #[.slice Ao35 t769.length co35] 26 (0, 0)) (by (with_reducible repeat (first | refine blk_drewN ?_ _ | refine blk_drew ?_ | refine blk_alloc ?_ _)); exact BK773.out) hb); have n9_ := aM (below_step (by repeat (first | (with_reducible first | exact HB.out | apply below_alloc | apply pw_below_drewN | apply below_drew1 | refine below_set ?_ GE755.out | refine below_set ?_ GE764.out | refine below_set ?_ GE768.out | refine below_set ?_ GE773.out) | exact HB.out)) hb); have n10_ := aM (hbox); have n11_ := aM ((by rw [hg]; exact (below_size (by repeat (first | (with_reducible first | exact HB.out | apply below_alloc | apply pw_below_drewN | apply below_drew1 | refine below_set ?_ GE755.out | refine below_set ?_ GE764.out | refine below_set ?_ GE768.out | refine below_set ?_ GE773.out) | exact HB.out))) : w.heap.size ≤ gb792)); have n12_ := aM ((by rw [hg]; exact (below_size (by repeat (first | (with_reducible first | exact HB.out | apply below_alloc | apply pw_below_drewN | apply below_drew1 | refine below_set ?_ GE755.out | refine below_set ?_ GE764.out | refine below_set ?_ GE768.out | refine below_set ?_ GE773.out) | exact HB.out))) : w.heap.size ≤ gb792)); have n13_ := aM ((by rw [hg]; exact Nat.ne_of_lt (blk_lt (g := gb755) (o := .cells #[.slice A0_0 l0_0.length c0_0] 36 (0, 0)) (by (with_reducible repeat (first | refine blk_drewN ?_ _ | refine blk_drew ?_ | refine blk_alloc ?_ _)); exact BK755.out)) : gb755 ≠ gb792)); have n14_ := aM ((by rw [hg]; exact Nat.ne_of_gt (blk_lt (g := gb755) (o := .cells #[.slice A0_0 l0_0.length c0_0] 36 (0, 0)) (by (with_reducible repeat (first | refine blk_drewN ?_ _ | refine blk_drew ?_ | refine blk_alloc ?_ _)); exact BK755.out)) : gb792 ≠ gb755)); have n15_ := aM ((by rw [hg]; exact Nat.ne_of_lt (blk_lt (g := gb764) (o := .cells #[.slice Ao23 t760.length co23] 26 (0, 0)) (by (with_reducible repeat (first | refine blk_drewN ?_ _ | refine blk_drew ?_ | refine blk_alloc ?_ _)); exact BK764.out)) : gb764 ≠ gb792)); have n16_ := aM ((by rw [hg]; exact Nat.ne_of_gt (blk_lt (g := gb764) (o := .cells #[.slice Ao23 t760.length co23] 26 (0, 0)) (by (with_reducible repeat (first | refine blk_drewN ?_ _ | refine blk_drew ?_ | refine blk_alloc ?_ _)); exact BK764.out)) : gb792 ≠ gb764)); have n17_ := aM ((by rw [hg]; exact Nat.ne_of_lt (blk_lt (g := gb768) (o := .cells #[.slice Ao29 t780.length co29] 26 (0, 0)) (by (with_reducible repeat (first | refine blk_drewN ?_ _ | refine blk_drew ?_ | refine blk_alloc ?_ _)); exact BK768.out)) : gb768 ≠ gb792)); have n18_ := aM ((by rw [hg]; exact Nat.ne_of_gt (blk_lt (g := gb768) (o := .cells #[.slice Ao29 t780.length co29] 26 (0, 0)) (by (with_reducible repeat (first | refine blk_drewN ?_ _ | refine blk_drew ?_ | refine blk_alloc ?_ _)); exact BK768.out)) : gb792 ≠ gb768)); have n19_ := aM ((by rw [hg]; exact Nat.ne_of_lt (blk_lt (g := gb773) (o := .cells #[.slice Ao35 t769.length co35] 26 (0, 0)) (by (with_reducible repeat (first | refine blk_drewN ?_ _ | refine blk_drew ?_ | refine blk_alloc ?_ _)); exact BK773.out)) : gb773 ≠ gb792)); have n20_ := aM ((by rw [hg]; exact Nat.ne_of_gt (blk_lt (g := gb773) (o := .cells #[.slice Ao35 t769.length co35] 26 (0, 0)) (by (with_reducible repeat (first | refine blk_drewN ?_ _ | refine blk_drew ?_ | refine blk_alloc ?_ _)); exact BK773.out)) : gb792 ≠ gb773)); clear HO_765000; clear HO_769000; clear HO_774000; clear HO787; clear HO790; clear BK755; clear BK764; clear BK768; clear BK773; clear HB; have HO_765000 := n0_; have HO_769000 := n1_; have HO_774000 := n2_; have HO787 := n3_; have HO790 := n4_; have BK755 := n5_; have BK764 := n6_; have BK768 := n7_; have BK773 := n8_; have HB := n9_; have BK792 := n10_; have GW792 := n11_; have GE792 := n12_; have NB755_792 := n13_; have NB792_755 := n14_; have NB764_792 := n15_; have NB792_764 := n16_; have NB768_792 := n17_; have NB792_768 := n18_; have NB773_792 := n19_; have NB792_773 := n20_; clear n0_ n1_ n2_ n3_ n4_ n5_ n6_ n7_ n8_ n9_ n10_ n11_ n12_ n13_ n14_ n15_ n16_ n17_ n18_ n19_ n20_; clear hb hbox hg; obtain ⟨Ao121, co121, eo121⟩ := Kd.R_slice HO790.out; subst eo121; have hnb122 := NB792_755.out; have hnc122 := NB755_792.out; have hnb123 := NB792_764.out; have hnc123 := NB764_792.out; have hnb124 := NB792_768.out; have hnc124 := NB768_792.out; have hnb125 := NB792_773.out; have hnc125 := NB773_792.out; have hcz126_0 : w120.cell? ⟨gb792, 0, none⟩ = some (.slice none 0 0) := (blk_cell BK792.out 0).trans rfl; have hfz126_0 := blk_frozen BK792.out 0))
            (try simp only [Act.put, zSA, zSB, zSC])
            go_cut [95] (fun v95 wc => ∃ (kq : Nat) (x95_105 : Bool), v95 = .bool x95_105 ∧ Aside0 (laws_FnExactCutName.j2 kq t782 x95_105 t783 = some r) ∧ Aside0 (kq ≤ kj62) ∧ Aside0 (Kd.R k64 64 wc w.heap.size (fun k_ => some k_ ≠ ((.slice Ao29 t780.length co29) : Value).ownBlock ∧ some k_ ≠ ((.slice Ao35 t769.length co35) : Value).ownBlock ∧ some k_ ≠ ((.slice Ao121 t788.length co121) : Value).ownBlock) (.slice Ao23 t760.length co23) t760) ∧ Aside0 (Kd.R k64 64 wc w.heap.size (fun k_ => some k_ ≠ ((.slice Ao23 t760.length co23) : Value).ownBlock ∧ some k_ ≠ ((.slice Ao35 t769.length co35) : Value).ownBlock ∧ some k_ ≠ ((.slice Ao121 t788.length co121) : Value).ownBlock) (.slice Ao29 t780.length co29) t780) ∧ Aside0 (Kd.R k64 64 wc w.heap.size (fun k_ => some k_ ≠ ((.slice Ao23 t760.length co23) : Value).ownBlock ∧ some k_ ≠ ((.slice Ao29 t780.length co29) : Value).ownBlock ∧ some k_ ≠ ((.slice Ao121 t788.length co121) : Value).ownBlock) (.slice Ao35 t769.length co35) t783) ∧ Aside0 (Kd.R k64 64 wc w.heap.size (fun k_ => some k_ ≠ ((.slice Ao23 t760.length co23) : Value).ownBlock ∧ some k_ ≠ ((.slice Ao29 t780.length co29) : Value).ownBlock ∧ some k_ ≠ ((.slice Ao35 t769.length co35) : Value).ownBlock) (.slice Ao121 t788.length co121) t788) ∧ Aside0 (wc.heap[gb755]? = some (.cells #[(.slice A0_0 l0_0.length c0_0)] 36 (0, 0))) ∧ Aside0 (wc.heap[gb764]? = some (.cells #[(.slice Ao23 t760.length co23)] 26 (0, 0))) ∧ Aside0 (wc.heap[gb768]? = some (.cells #[(.slice Ao29 t780.length co29)] 26 (0, 0))) ∧ Aside0 (wc.heap[gb773]? = some (.cells #[(.slice Ao35 t769.length co35)] 26 (0, 0))) ∧ Aside0 (wc.heap[gb792]? = some (.cells #[(.slice Ao121 t788.length co121)] 26 (0, 0))) ∧ Aside0 (Below w.heap.size w wc))
            case first =>
             have H := HC106.out
             clear HC106
             replace H := Option.bind_eq_some_iff.mp H
             obtain ⟨t793, A1270, H⟩ := H
             replace H : (if t793 = true then (laws_FnExactCutName.j2 kj62 t782 (t791 != t763) t783) else (laws_FnExactCutName.j2 kj62 t782 true t783)) = some r := H
             have A127 := aM A1270
             clear A1270
             by_cases c128 : t793 = true
             ·
              subst c128
              have H1 : (laws_FnExactCutName.j2 kj62 t782 (t791 != t763) t783) = some r := by rw [if_pos rfl] at H; exact H
              clear H
              have H := H1
              clear H1
              have H' := aM H
              clear H
              have hnb129 := NB792_755.out
              have hnc129 := NB755_792.out
              have hnb130 := NB792_764.out
              have hnc130 := NB764_792.out
              have hnb131 := NB792_768.out
              have hnc131 := NB768_792.out
              have hnb132 := NB792_773.out
              have hnc132 := NB773_792.out
              have hcz133_0 : w120.cell? ⟨gb792, 0, none⟩ = some (.slice none 0 0) := (blk_cell BK792.out 0).trans rfl
              have hfz133_0 := blk_frozen BK792.out 0
              have hnb134 := NB764_755.out
              have hnc134 := NB755_764.out
              have hnb135 := NB764_768.out
              have hnc135 := NB768_764.out
              have hnb136 := NB764_773.out
              have hnc136 := NB773_764.out
              have hcz137_0 : w120.cell? ⟨gb764, 0, none⟩ = some (.slice Ao23 t760.length co23) := (blk_cell BK764.out 0).trans rfl
              have hfz137_0 := blk_frozen BK764.out 0
              go_wp2_with (first | ((with_reducible refine gate_callee (f := 15) rfl ?_); refine goesL_ (some 89) rfl rfl Try.func15 (by kernel_rfl) rfl #[.agg #[.slice Ao121 t788.length co121], .agg #[.slice Ao23 t760.length co23]] rfl (by (try simp only [List.map_toArray, List.map_cons, List.map_nil]); first | done | rfl | (simp only [List.length_drop, List.length_take]; rfl)) ?_; (with_reducible refine (laws_eqRadix.calls kj62 _ _ t788 _ _ t760 true _ ?side1 ?side2 ?side3 ?side4 A127.out).mono ?_); (case side1 => refine (Kd.R_reads' (e := 64) (base := w.heap.size) (ok := fun k_ => ((((True ∧ some k_ ≠ (.slice Ao23 t760.length co23 : Value).ownBlock) ∧ some k_ ≠ (.slice Ao29 t780.length co29 : Value).ownBlock) ∧ some k_ ≠ (.slice Ao35 t769.length co35 : Value).ownBlock) ∧ some k_ ≠ (.slice Ao118 t785.length co118 : Value).ownBlock)) (n := t788.length) (c := co121) ?_).2.2; exact (by (with_reducible repeat (first | apply Kd.R_alloc | apply Kd.R_drewN | apply Kd.R_drew)); exact (Kd.R_mono (Kd.R_far (p := ⟨gb792, 0, none⟩) (Kd.R_types HO790.out BK792.out (by decide)) (fun _ hk => hk.2) (.slice Ao121 t788.length co121)) (fun _ h_ => h_.1)))); (case side2 => exact (Kd.R_reads' HO790.out).2.1); (case side3 => refine (Kd.R_reads' (e := 64) (base := w.heap.size) (ok := fun k_ => (((some k_ ≠ (.slice Ao29 t780.length co29 : Value).ownBlock ∧ some k_ ≠ (.slice Ao35 t769.length co35 : Value).ownBlock) ∧ some k_ ≠ (.slice Ao118 t785.length co118 : Value).ownBlock) ∧ some k_ ≠ (.slice Ao121 t788.length co121 : Value).ownBlock)) (n := t760.length) (c := co23) ?_).2.2; exact (by (with_reducible repeat (first | apply Kd.R_alloc | apply Kd.R_drewN | apply Kd.R_drew)); exact (Kd.R_mono (Kd.R_far (p := ⟨gb792, 0, none⟩) (Kd.R_types HO_765000.out BK792.out (by decide)) (fun _ hk => hk.2) (.slice Ao121 t788.length co121)) (fun _ h_ => h_.1)))); (case side4 => exact (Kd.R_reads' HO_765000.out).2.1); rintro e w138 ⟨rfl, hb⟩; refine ⟨_, rfl, ?_⟩; have n0_ := aM (Kd.R_below (by (with_reducible repeat (first | apply Kd.R_alloc | apply Kd.R_drewN | apply Kd.R_drew)); exact (Kd.R_mono (Kd.R_far (p := ⟨gb792, 0, none⟩) (Kd.R_types HO_765000.out BK792.out (by decide)) (fun _ hk => hk.2) (.slice Ao121 t788.length co121)) (fun _ h_ => h_.1))) hb); have n1_ := aM (Kd.R_below (by (with_reducible repeat (first | apply Kd.R_alloc | apply Kd.R_drewN | apply Kd.R_drew)); exact (Kd.R_mono (Kd.R_far (p := ⟨gb792, 0, none⟩) (Kd.R_types HO_769000.out BK792.out (by decide)) (fun _ hk => hk.2) (.slice Ao121 t788.length co121)) (fun _ h_ => h_.1))) hb); have n2_ := aM (Kd.R_below (by (with_reducible repeat (first | apply Kd.R_alloc | apply Kd.R_drewN | apply Kd.R_drew)); exact (Kd.R_mono (Kd.R_far (p := ⟨gb792, 0, none⟩) (Kd.R_types HO_774000.out BK792.out (by decide)) (fun _ hk => hk.2) (.slice Ao121 t788.length co121)) (fun _ h_ => h_.1))) hb); have n3_ := aM (Kd.R_below (by (with_reducible repeat (first | apply Kd.R_alloc | apply Kd.R_drewN | apply Kd.R_drew)); exact (Kd.R_mono (Kd.R_far (p := ⟨gb792, 0, none⟩) (Kd.R_types HO787.out BK792.out (by decide)) (fun _ hk => hk.2) (.slice Ao121 t788.length co121)) (fun _ h_ => h_.1))) hb); have n4_ := aM (Kd.R_below (by (with_reducible repeat (first | apply Kd.R_alloc | apply Kd.R_drewN | apply Kd.R_drew)); exact (Kd.R_mono (Kd.R_far (p := ⟨gb792, 0, none⟩) (Kd.R_types HO790.out BK792.out (by decide)) (fun _ hk => hk.2) (.slice Ao121 t788.length co121)) (fun _ h_ => h_.1))) hb); have n5_ := aM (blk_below (g := gb755) (o := .cells #[.slice A0_0 l0_0.length c0_0] 36 (0, 0)) (by (with_reducible repeat (first | refine blk_drewN ?_ _ | refine blk_drew ?_ | refine blk_alloc ?_ _)); refine blk_far ?_ NB755_792.out _; (with_reducible repeat (first | refine blk_drewN ?_ _ | refine blk_drew ?_ | refine blk_alloc ?_ _)); exact BK755.out) hb); have n6_ := aM (blk_below (g := gb764) (o := .cells #[.slice Ao23 t760.length co23] 26 (0, 0)) (by (with_reducible repeat (first | refine blk_drewN ?_ _ | refine blk_drew ?_ | refine blk_alloc ?_ _)); refine blk_far ?_ NB764_792.out _; (with_reducible repeat (first | refine blk_drewN ?_ _ | refine blk_drew ?_ | refine blk_alloc ?_ _)); exact BK764.out) hb); have n7_ := aM (blk_below (g := gb768) (o := .cells #[.slice Ao29 t780.length co29] 26 (0, 0)) (by (with_reducible repeat (first | refine blk_drewN ?_ _ | refine blk_drew ?_ | refine blk_alloc ?_ _)); refine blk_far ?_ NB768_792.out _; (with_reducible repeat (first | refine blk_drewN ?_ _ | refine blk_drew ?_ | refine blk_alloc ?_ _)); exact BK768.out) hb); have n8_ := aM (blk_below (g := gb773) (o := .cells #[.slice Ao35 t769.length co35] 26 (0, 0)) (by (with_reducible repeat (first | refine blk_drewN ?_ _ | refine blk_drew ?_ | refine blk_alloc ?_ _)); refine blk_far ?_ NB773_792.out _; (with_reducible repeat (first | refine blk_drewN ?_ _ | refine blk_drew ?_ | refine blk_alloc ?_ _)); exact BK773.out) hb); have n9_ := aM (blk_below (g := gb792) (o := .cells #[.slice Ao121 t788.length co121] 26 (0, 0)) (by (with_reducible repeat (first | refine blk_drewN ?_ _ | refine blk_drew ?_ | refine blk_alloc ?_ _)); refine blk_put (cs := #[.slice none 0 0]) ?_ 0 _ rfl; (with_reducible repeat (first | refine blk_drewN ?_ _ | refine blk_drew ?_ | refine blk_alloc ?_ _)); exact BK792.out) hb); have n10_ := aM (below_step (by repeat (first | (with_reducible first | exact HB.out | apply below_alloc | apply pw_below_drewN | apply below_drew1 | refine below_set ?_ GE755.out | refine below_set ?_ GE764.out | refine below_set ?_ GE768.out | refine below_set ?_ GE773.out | refine below_set ?_ GE792.out) | exact HB.out)) hb); clear HO_765000; clear HO_769000; clear HO_774000; clear HO787; clear HO790; clear BK755; clear BK764; clear BK768; clear BK773; clear BK792; clear HB; have HO_765000 := n0_; have HO_769000 := n1_; have HO_774000 := n2_; have HO787 := n3_; have HO790 := n4_; have BK755 := n5_; have BK764 := n6_; have BK768 := n7_; have BK773 := n8_; have BK792 := n9_; have HB := n10_; clear n0_ n1_ n2_ n3_ n4_ n5_ n6_ n7_ n8_ n9_ n10_; (try clear hb); (try clear hb2); (try clear hk); (try clear hi)))
              go_meet
              case rel => exact ⟨_, ((t791 != t763)), (by first | rfl | (simp; done) | (simp [*]; done)), H', ⟨by have := HJ13.out; have := HJ62.out; first | omega | exact Nat.le_refl _⟩, ⟨by (try simp only [hl769000_62]); (with_reducible repeat (first | apply Kd.R_alloc | apply Kd.R_drewN | apply Kd.R_drew)); exact Kd.R_mono HO_765000.out (fun _ hk => ⟨hk.1.1.1, ⟨hk.1.1.2, hk.2⟩⟩)⟩, ⟨by (try simp only [hl769000_62]); (with_reducible repeat (first | apply Kd.R_alloc | apply Kd.R_drewN | apply Kd.R_drew)); exact Kd.R_mono HO_769000.out (fun _ hk => ⟨hk.1.1.1, ⟨hk.1.1.2, hk.2⟩⟩)⟩, ⟨by (try simp only [hl769000_62]); (with_reducible repeat (first | apply Kd.R_alloc | apply Kd.R_drewN | apply Kd.R_drew)); exact Kd.R_mono HO_774000.out (fun _ hk => ⟨hk.1.1.1, ⟨hk.1.1.2, hk.2⟩⟩)⟩, ⟨by (try simp only [hl769000_62]); (with_reducible repeat (first | apply Kd.R_alloc | apply Kd.R_drewN | apply Kd.R_drew)); exact Kd.R_mono HO790.out (fun _ hk => ⟨hk.1.1.1.2, ⟨hk.1.1.2, hk.1.2⟩⟩)⟩, ⟨by (try simp only [hl769000_62]); (with_reducible repeat (first | refine blk_drewN ?_ _ | refine blk_drew ?_ | refine blk_alloc ?_ _)); exact BK755.out⟩, ⟨by (try simp only [hl769000_62]); (with_reducible repeat (first | refine blk_drewN ?_ _ | refine blk_drew ?_ | refine blk_alloc ?_ _)); exact BK764.out⟩, ⟨by (try simp only [hl769000_62]); (with_reducible repeat (first | refine blk_drewN ?_ _ | refine blk_drew ?_ | refine blk_alloc ?_ _)); exact BK768.out⟩, ⟨by (try simp only [hl769000_62]); (with_reducible repeat (first | refine blk_drewN ?_ _ | refine blk_drew ?_ | refine blk_alloc ?_ _)); exact BK773.out⟩, ⟨by (try simp only [hl769000_62]); (with_reducible repeat (first | refine blk_drewN ?_ _ | refine blk_drew ?_ | refine blk_alloc ?_ _)); exact BK792.out⟩, ⟨by repeat (first | (with_reducible first | exact HB.out | apply below_alloc | apply pw_below_drewN | apply below_drew1 | refine below_set ?_ GE755.out | refine below_set ?_ GE764.out | refine below_set ?_ GE768.out | refine below_set ?_ GE773.out | refine below_set ?_ GE792.out) | exact HB.out)⟩⟩
             ·
              replace c128 := Bool.eq_false_iff.mpr c128
              subst c128
              have H1 : (laws_FnExactCutName.j2 kj62 t782 true t783) = some r := by rw [if_neg (show ¬ (false = true) by decide)] at H; exact H
              clear H
              have H := H1
              clear H1
              have H' := aM H
              clear H
              have hnb139 := NB792_755.out
              have hnc139 := NB755_792.out
              have hnb140 := NB792_764.out
              have hnc140 := NB764_792.out
              have hnb141 := NB792_768.out
              have hnc141 := NB768_792.out
              have hnb142 := NB792_773.out
              have hnc142 := NB773_792.out
              have hcz143_0 : w120.cell? ⟨gb792, 0, none⟩ = some (.slice none 0 0) := (blk_cell BK792.out 0).trans rfl
              have hfz143_0 := blk_frozen BK792.out 0
              have hnb144 := NB764_755.out
              have hnc144 := NB755_764.out
              have hnb145 := NB764_768.out
              have hnc145 := NB768_764.out
              have hnb146 := NB764_773.out
              have hnc146 := NB773_764.out
              have hcz147_0 : w120.cell? ⟨gb764, 0, none⟩ = some (.slice Ao23 t760.length co23) := (blk_cell BK764.out 0).trans rfl
              have hfz147_0 := blk_frozen BK764.out 0
              go_wp2_with (first | ((with_reducible refine gate_callee (f := 15) rfl ?_); refine goesL_ (some 89) rfl rfl Try.func15 (by kernel_rfl) rfl #[.agg #[.slice Ao121 t788.length co121], .agg #[.slice Ao23 t760.length co23]] rfl (by (try simp only [List.map_toArray, List.map_cons, List.map_nil]); first | done | rfl | (simp only [List.length_drop, List.length_take]; rfl)) ?_; (with_reducible refine (laws_eqRadix.calls kj62 _ _ t788 _ _ t760 false _ ?side1 ?side2 ?side3 ?side4 A127.out).mono ?_); (case side1 => refine (Kd.R_reads' (e := 64) (base := w.heap.size) (ok := fun k_ => ((((True ∧ some k_ ≠ (.slice Ao23 t760.length co23 : Value).ownBlock) ∧ some k_ ≠ (.slice Ao29 t780.length co29 : Value).ownBlock) ∧ some k_ ≠ (.slice Ao35 t769.length co35 : Value).ownBlock) ∧ some k_ ≠ (.slice Ao118 t785.length co118 : Value).ownBlock)) (n := t788.length) (c := co121) ?_).2.2; exact (by (with_reducible repeat (first | apply Kd.R_alloc | apply Kd.R_drewN | apply Kd.R_drew)); exact (Kd.R_mono (Kd.R_far (p := ⟨gb792, 0, none⟩) (Kd.R_types HO790.out BK792.out (by decide)) (fun _ hk => hk.2) (.slice Ao121 t788.length co121)) (fun _ h_ => h_.1)))); (case side2 => exact (Kd.R_reads' HO790.out).2.1); (case side3 => refine (Kd.R_reads' (e := 64) (base := w.heap.size) (ok := fun k_ => (((some k_ ≠ (.slice Ao29 t780.length co29 : Value).ownBlock ∧ some k_ ≠ (.slice Ao35 t769.length co35 : Value).ownBlock) ∧ some k_ ≠ (.slice Ao118 t785.length co118 : Value).ownBlock) ∧ some k_ ≠ (.slice Ao121 t788.length co121 : Value).ownBlock)) (n := t760.length) (c := co23) ?_).2.2; exact (by (with_reducible repeat (first | apply Kd.R_alloc | apply Kd.R_drewN | apply Kd.R_drew)); exact (Kd.R_mono (Kd.R_far (p := ⟨gb792, 0, none⟩) (Kd.R_types HO_765000.out BK792.out (by decide)) (fun _ hk => hk.2) (.slice Ao121 t788.length co121)) (fun _ h_ => h_.1)))); (case side4 => exact (Kd.R_reads' HO_765000.out).2.1); rintro e w148 ⟨rfl, hb⟩; refine ⟨_, rfl, ?_⟩; have n0_ := aM (Kd.R_below (by (with_reducible repeat (first | apply Kd.R_alloc | apply Kd.R_drewN | apply Kd.R_drew)); exact (Kd.R_mono (Kd.R_far (p := ⟨gb792, 0, none⟩) (Kd.R_types HO_765000.out BK792.out (by decide)) (fun _ hk => hk.2) (.slice Ao121 t788.length co121)) (fun _ h_ => h_.1))) hb); have n1_ := aM (Kd.R_below (by (with_reducible repeat (first | apply Kd.R_alloc | apply Kd.R_drewN | apply Kd.R_drew)); exact (Kd.R_mono (Kd.R_far (p := ⟨gb792, 0, none⟩) (Kd.R_types HO_769000.out BK792.out (by decide)) (fun _ hk => hk.2) (.slice Ao121 t788.length co121)) (fun _ h_ => h_.1))) hb); have n2_ := aM (Kd.R_below (by (with_reducible repeat (first | apply Kd.R_alloc | apply Kd.R_drewN | apply Kd.R_drew)); exact (Kd.R_mono (Kd.R_far (p := ⟨gb792, 0, none⟩) (Kd.R_types HO_774000.out BK792.out (by decide)) (fun _ hk => hk.2) (.slice Ao121 t788.length co121)) (fun _ h_ => h_.1))) hb); have n3_ := aM (Kd.R_below (by (with_reducible repeat (first | apply Kd.R_alloc | apply Kd.R_drewN | apply Kd.R_drew)); exact (Kd.R_mono (Kd.R_far (p := ⟨gb792, 0, none⟩) (Kd.R_types HO787.out BK792.out (by decide)) (fun _ hk => hk.2) (.slice Ao121 t788.length co121)) (fun _ h_ => h_.1))) hb); have n4_ := aM (Kd.R_below (by (with_reducible repeat (first | apply Kd.R_alloc | apply Kd.R_drewN | apply Kd.R_drew)); exact (Kd.R_mono (Kd.R_far (p := ⟨gb792, 0, none⟩) (Kd.R_types HO790.out BK792.out (by decide)) (fun _ hk => hk.2) (.slice Ao121 t788.length co121)) (fun _ h_ => h_.1))) hb); have n5_ := aM (blk_below (g := gb755) (o := .cells #[.slice A0_0 l0_0.length c0_0] 36 (0, 0)) (by (with_reducible repeat (first | refine blk_drewN ?_ _ | refine blk_drew ?_ | refine blk_alloc ?_ _)); refine blk_far ?_ NB755_792.out _; (with_reducible repeat (first | refine blk_drewN ?_ _ | refine blk_drew ?_ | refine blk_alloc ?_ _)); exact BK755.out) hb); have n6_ := aM (blk_below (g := gb764) (o := .cells #[.slice Ao23 t760.length co23] 26 (0, 0)) (by (with_reducible repeat (first | refine blk_drewN ?_ _ | refine blk_drew ?_ | refine blk_alloc ?_ _)); refine blk_far ?_ NB764_792.out _; (with_reducible repeat (first | refine blk_drewN ?_ _ | refine blk_drew ?_ | refine blk_alloc ?_ _)); exact BK764.out) hb); have n7_ := aM (blk_below (g := gb768) (o := .cells #[.slice Ao29 t780.length co29] 26 (0, 0)) (by (with_reducible repeat (first | refine blk_drewN ?_ _ | refine blk_drew ?_ | refine blk_alloc ?_ _)); refine blk_far ?_ NB768_792.out _; (with_reducible repeat (first | refine blk_drewN ?_ _ | refine blk_drew ?_ | refine blk_alloc ?_ _)); exact BK768.out) hb); have n8_ := aM (blk_below (g := gb773) (o := .cells #[.slice Ao35 t769.length co35] 26 (0, 0)) (by (with_reducible repeat (first | refine blk_drewN ?_ _ | refine blk_drew ?_ | refine blk_alloc ?_ _)); refine blk_far ?_ NB773_792.out _; (with_reducible repeat (first | refine blk_drewN ?_ _ | refine blk_drew ?_ | refine blk_alloc ?_ _)); exact BK773.out) hb); have n9_ := aM (blk_below (g := gb792) (o := .cells #[.slice Ao121 t788.length co121] 26 (0, 0)) (by (with_reducible repeat (first | refine blk_drewN ?_ _ | refine blk_drew ?_ | refine blk_alloc ?_ _)); refine blk_put (cs := #[.slice none 0 0]) ?_ 0 _ rfl; (with_reducible repeat (first | refine blk_drewN ?_ _ | refine blk_drew ?_ | refine blk_alloc ?_ _)); exact BK792.out) hb); have n10_ := aM (below_step (by repeat (first | (with_reducible first | exact HB.out | apply below_alloc | apply pw_below_drewN | apply below_drew1 | refine below_set ?_ GE755.out | refine below_set ?_ GE764.out | refine below_set ?_ GE768.out | refine below_set ?_ GE773.out | refine below_set ?_ GE792.out) | exact HB.out)) hb); clear HO_765000; clear HO_769000; clear HO_774000; clear HO787; clear HO790; clear BK755; clear BK764; clear BK768; clear BK773; clear BK792; clear HB; have HO_765000 := n0_; have HO_769000 := n1_; have HO_774000 := n2_; have HO787 := n3_; have HO790 := n4_; have BK755 := n5_; have BK764 := n6_; have BK768 := n7_; have BK773 := n8_; have BK792 := n9_; have HB := n10_; clear n0_ n1_ n2_ n3_ n4_ n5_ n6_ n7_ n8_ n9_ n10_; (try clear hb); (try clear hb2); (try clear hk); (try clear hi)))
              go_meet
              case rel => exact ⟨_, (true), (by first | rfl | (simp; done) | (simp [*]; done)), H', ⟨by have := HJ13.out; have := HJ62.out; first | omega | exact Nat.le_refl _⟩, ⟨by (try simp only [hl769000_62]); (with_reducible repeat (first | apply Kd.R_alloc | apply Kd.R_drewN | apply Kd.R_drew)); exact Kd.R_mono HO_765000.out (fun _ hk => ⟨hk.1.1.1, ⟨hk.1.1.2, hk.2⟩⟩)⟩, ⟨by (try simp only [hl769000_62]); (with_reducible repeat (first | apply Kd.R_alloc | apply Kd.R_drewN | apply Kd.R_drew)); exact Kd.R_mono HO_769000.out (fun _ hk => ⟨hk.1.1.1, ⟨hk.1.1.2, hk.2⟩⟩)⟩, ⟨by (try simp only [hl769000_62]); (with_reducible repeat (first | apply Kd.R_alloc | apply Kd.R_drewN | apply Kd.R_drew)); exact Kd.R_mono HO_774000.out (fun _ hk => ⟨hk.1.1.1, ⟨hk.1.1.2, hk.2⟩⟩)⟩, ⟨by (try simp only [hl769000_62]); (with_reducible repeat (first | apply Kd.R_alloc | apply Kd.R_drewN | apply Kd.R_drew)); exact Kd.R_mono HO790.out (fun _ hk => ⟨hk.1.1.1.2, ⟨hk.1.1.2, hk.1.2⟩⟩)⟩, ⟨by (try simp only [hl769000_62]); (with_reducible repeat (first | refine blk_drewN ?_ _ | refine blk_drew ?_ | refine blk_alloc ?_ _)); exact BK755.out⟩, ⟨by (try simp only [hl769000_62]); (with_reducible repeat (first | refine blk_drewN ?_ _ | refine blk_drew ?_ | refine blk_alloc ?_ _)); exact BK764.out⟩, ⟨by (try simp only [hl769000_62]); (with_reducible repeat (first | refine blk_drewN ?_ _ | refine blk_drew ?_ | refine blk_alloc ?_ _)); exact BK768.out⟩, ⟨by (try simp only [hl769000_62]); (with_reducible repeat (first | refine blk_drewN ?_ _ | refine blk_drew ?_ | refine blk_alloc ?_ _)); exact BK773.out⟩, ⟨by (try simp only [hl769000_62]); (with_reducible repeat (first | refine blk_drewN ?_ _ | refine blk_drew ?_ | refine blk_alloc ?_ _)); exact BK792.out⟩, ⟨by repeat (first | (with_reducible first | exact HB.out | apply below_alloc | apply pw_below_drewN | apply below_drew1 | refine below_set ?_ GE755.out | refine below_set ?_ GE764.out | refine below_set ?_ GE768.out | refine below_set ?_ GE773.out | refine below_set ?_ GE792.out) | exact HB.out)⟩⟩
            case rest =>
             clear HC106
             try clear c1
             try clear c2
             try clear p2
             try clear c3
             try clear c3b0
             try clear c3b1
             try clear c4
             try clear c5
             try clear c6
             try clear c6b0
             try clear c7
             try clear c8
             try clear c9
             try clear c10
             try clear c11
             try clear c12
             try clear c13
             try clear c14
             try clear c15
             try clear c18
             try clear c19
             try clear c20
             try clear c22
             try clear c24
             try clear c30
             try clear c31
             try clear c33
             try clear c34
             try clear c36
             try clear c37
             try clear c38
             try clear c41
             try clear c42
             try clear c43
             try clear c44
             try clear c46
             try clear c47
             try clear c50
             try clear c51
             try clear c52
             try clear c54
             try clear c55
             try clear c58
             try clear c61
             try clear c68
             try clear c69
             try clear c70
             try clear c73
             try clear c73b0
             try clear c75
             try clear c76
             try clear c77
             try clear c78
             try clear c80
             try clear c81
             try clear c84
             try clear c85
             try clear c86
             try clear c88
             try clear c89
             try clear c92
             try clear c95
             try clear c95b0
             try clear c96
             try clear c97
             try clear c98
             try clear c103
             try clear c103b0
             try clear c103b1
             try clear c107
             try clear c108
             try clear c109
             try clear c114
             try clear c115
             try clear c122
             try clear c123
             try clear c124
             try clear c125
             try clear c128
             try clear c129
             try clear c130
             try clear c131
             try clear c132
             try clear c134
             try clear c135
             try clear c136
             try clear c139
             try clear c140
             try clear c141
             try clear c142
             try clear c144
             try clear c145
             try clear c146
             try clear hcz101_0
             try clear hcz110_0
             try clear hcz112_0
             try clear hcz116_0
             try clear hcz126_0
             try clear hcz133_0
             try clear hcz137_0
             try clear hcz143_0
             try clear hcz147_0
             try clear hcz16_0
             try clear hcz18_0
             try clear hcz25_0
             try clear hcz26_0
             try clear hcz32_0
             try clear hcz39_0
             try clear hcz45_0
             try clear hcz48_0
             try clear hcz53_0
             try clear hcz56_0
             try clear hcz71_0
             try clear hcz79_0
             try clear hcz82_0
             try clear hcz87_0
             try clear hcz8_0
             try clear hcz90_0
             try clear hcz99_0
             try clear hfz101_0
             try clear hfz110_0
             try clear hfz112_0
             try clear hfz116_0
             try clear hfz126_0
             try clear hfz133_0
             try clear hfz137_0
             try clear hfz143_0
             try clear hfz147_0
             try clear hfz16_0
             try clear hfz18_0
             try clear hfz25_0
             try clear hfz26_0
             try clear hfz32_0
             try clear hfz39_0
             try clear hfz45_0
             try clear hfz48_0
             try clear hfz53_0
             try clear hfz56_0
             try clear hfz71_0
             try clear hfz79_0
             try clear hfz82_0
             try clear hfz87_0
             try clear hfz8_0
             try clear hfz90_0
             try clear hfz99_0
             try clear p2
             obtain ⟨kq, x95_105, rfl, HA, HJ105, HO_765000, HO_769000, HO_774000, HO_793000, BK755, BK764, BK768, BK773, BK792, HB⟩ := hcut
             have hl774000_105 := (Kd.R_reads' HO_774000.out).1
             rw [hl774000_105] at HO_774000
             (try simp only [hl774000_105])
             (try simp only [hl774000_105] at BK755)
             (try simp only [hl774000_105] at BK764)
             (try simp only [hl774000_105] at BK768)
             (try simp only [hl774000_105] at BK773)
             (try simp only [hl774000_105] at BK792)
             (try simp only [hl774000_105] at HO_765000)
             (try simp only [hl774000_105] at HO_769000)
             (try simp only [hl774000_105] at HO_793000)
             cases kq with
             | zero => exact absurd HA.out (by simp [laws_FnExactCutName.j2])
             | succ kj105 =>
              have H := HA.out
              clear HA
              simp only [laws_FnExactCutName.j2] at H
              by_cases c149 : x95_105 = true
              ·
               subst c149
               have H1 : (some false) = some r := by rw [if_pos rfl] at H; exact H
               clear H
               have H := H1
               clear H1
               obtain rfl := Option.some.inj H
               go_wp2
               go_ret
               exact ⟨by first | rfl | (simp [errW_none, errW_some] <;> rfl) | (simp [*, errW_none, errW_some] <;> rfl), by repeat (first | (with_reducible first | exact HB.out | apply below_alloc | apply pw_below_drewN | apply below_drew1 | refine below_set ?_ GE755.out | refine below_set ?_ GE764.out | refine below_set ?_ GE768.out | refine below_set ?_ GE773.out | refine below_set ?_ GE792.out) | exact HB.out)⟩
              ·
               replace c149 := Bool.eq_false_iff.mpr c149
               subst c149
               have H1 : ((laws_heldRadix.f kj105 t783 1).bind fun t794 => (if t794 < 0 then (some false) else (if t794 = t782 then (some true) else (some false)))) = some r := by rw [if_neg (show ¬ (false = true) by decide)] at H; exact H
               clear H
               have H := H1
               clear H1
               replace H := Option.bind_eq_some_iff.mp H
               obtain ⟨t794, A1500, H⟩ := H
               replace H : (if t794 < 0 then (some false) else (if t794 = t782 then (some true) else (some false))) = some r := H
               have A150 := aM A1500
               clear A1500
               by_cases c151 : t794 < 0
               ·
                rw [if_pos c151] at H
                have c151b0 : decide (t794 < 0) = true := decide_eq_true c151
                clear c151
                obtain rfl := Option.some.inj H
                have hnb152 := NB773_755.out
                have hnc152 := NB755_773.out
                have hnb153 := NB773_764.out
                have hnc153 := NB764_773.out
                have hnb154 := NB773_768.out
                have hnc154 := NB768_773.out
                have hnb155 := NB773_792.out
                have hnc155 := NB792_773.out
                have hcz156_0 : wc.cell? ⟨gb773, 0, none⟩ = some (.slice Ao35 t783.length co35) := (blk_cell BK773.out 0).trans rfl
                have hfz156_0 := blk_frozen BK773.out 0
                go_wp2_with (first | ((with_reducible refine gate_callee (f := 19) rfl ?_); refine goesL_ (some 98) rfl rfl Try.func19 (by kernel_rfl) rfl #[.agg #[.slice Ao35 t783.length co35], .int .i64 1] rfl (by (try simp only [List.map_toArray, List.map_cons, List.map_nil]); first | done | rfl | (simp only [List.length_drop, List.length_take]; rfl)) ?_; (with_reducible refine (laws_heldRadix.calls kj105 _ _ t783 1 t794 _ ?side1 ?side2 A150.out).mono ?_); (case side1 => repeat (first | exact (Kd.R_reads' HO_774000.out).2.2 | (with_reducible refine Kd.C_alloc ?_ _) | (with_reducible refine Kd.C_drewN ?_ _) | (with_reducible refine Kd.C_drew ?_))); (case side2 => exact (Kd.R_reads' HO_774000.out).2.1); rintro e w157 ⟨rfl, hb⟩; refine ⟨_, rfl, ?_⟩; have n0_ := aM (Kd.R_below (by (with_reducible repeat (first | apply Kd.R_alloc | apply Kd.R_drewN | apply Kd.R_drew)); exact HO_765000.out) hb); have n1_ := aM (Kd.R_below (by (with_reducible repeat (first | apply Kd.R_alloc | apply Kd.R_drewN | apply Kd.R_drew)); exact HO_769000.out) hb); have n2_ := aM (Kd.R_below (by (with_reducible repeat (first | apply Kd.R_alloc | apply Kd.R_drewN | apply Kd.R_drew)); exact HO_774000.out) hb); have n3_ := aM (Kd.R_below (by (with_reducible repeat (first | apply Kd.R_alloc | apply Kd.R_drewN | apply Kd.R_drew)); exact HO_793000.out) hb); have n4_ := aM (blk_below (g := gb755) (o := .cells #[.slice A0_0 l0_0.length c0_0] 36 (0, 0)) (by (with_reducible repeat (first | refine blk_drewN ?_ _ | refine blk_drew ?_ | refine blk_alloc ?_ _)); exact BK755.out) hb); have n5_ := aM (blk_below (g := gb764) (o := .cells #[.slice Ao23 t760.length co23] 26 (0, 0)) (by (with_reducible repeat (first | refine blk_drewN ?_ _ | refine blk_drew ?_ | refine blk_alloc ?_ _)); exact BK764.out) hb); have n6_ := aM (blk_below (g := gb768) (o := .cells #[.slice Ao29 t780.length co29] 26 (0, 0)) (by (with_reducible repeat (first | refine blk_drewN ?_ _ | refine blk_drew ?_ | refine blk_alloc ?_ _)); exact BK768.out) hb); have n7_ := aM (blk_below (g := gb773) (o := .cells #[.slice Ao35 t783.length co35] 26 (0, 0)) (by (with_reducible repeat (first | refine blk_drewN ?_ _ | refine blk_drew ?_ | refine blk_alloc ?_ _)); exact BK773.out) hb); have n8_ := aM (blk_below (g := gb792) (o := .cells #[.slice Ao121 t788.length co121] 26 (0, 0)) (by (with_reducible repeat (first | refine blk_drewN ?_ _ | refine blk_drew ?_ | refine blk_alloc ?_ _)); exact BK792.out) hb); have n9_ := aM (below_step (by repeat (first | (with_reducible first | exact HB.out | apply below_alloc | apply pw_below_drewN | apply below_drew1 | refine below_set ?_ GE755.out | refine below_set ?_ GE764.out | refine below_set ?_ GE768.out | refine below_set ?_ GE773.out | refine below_set ?_ GE792.out) | exact HB.out)) hb); clear HO_765000; clear HO_769000; clear HO_774000; clear HO_793000; clear BK755; clear BK764; clear BK768; clear BK773; clear BK792; clear HB; have HO_765000 := n0_; have HO_769000 := n1_; have HO_774000 := n2_; have HO_793000 := n3_; have BK755 := n4_; have BK764 := n5_; have BK768 := n6_; have BK773 := n7_; have BK792 := n8_; have HB := n9_; clear n0_ n1_ n2_ n3_ n4_ n5_ n6_ n7_ n8_ n9_; (try clear hb); (try clear hb2); (try clear hk); (try clear hi)))
                go_ret
                exact ⟨by first | rfl | (simp [errW_none, errW_some] <;> rfl) | (simp [*, errW_none, errW_some] <;> rfl), by repeat (first | (with_reducible first | exact HB.out | apply below_alloc | apply pw_below_drewN | apply below_drew1 | refine below_set ?_ GE755.out | refine below_set ?_ GE764.out | refine below_set ?_ GE768.out | refine below_set ?_ GE773.out | refine below_set ?_ GE792.out) | exact HB.out)⟩
               ·
                rw [if_neg c151] at H
                have c151b0 : decide (t794 < 0) = false := decide_eq_false c151
                clear c151
                by_cases c158 : t794 = t782
                ·
                 rw [if_pos c158] at H
                 have c158b0 : (t794 == t782) = true := beq_iff_eq.mpr c158
                 have c158b1 : (t794 != t782) = false := bne_eq_false_iff_eq.mpr c158
                 clear c158
                 obtain rfl := Option.some.inj H
                 have hnb159 := NB773_755.out
                 have hnc159 := NB755_773.out
                 have hnb160 := NB773_764.out
                 have hnc160 := NB764_773.out
                 have hnb161 := NB773_768.out
                 have hnc161 := NB768_773.out
                 have hnb162 := NB773_792.out
                 have hnc162 := NB792_773.out
                 have hcz163_0 : wc.cell? ⟨gb773, 0, none⟩ = some (.slice Ao35 t783.length co35) := (blk_cell BK773.out 0).trans rfl
                 have hfz163_0 := blk_frozen BK773.out 0
                 go_wp2_with (first | ((with_reducible refine gate_callee (f := 19) rfl ?_); refine goesL_ (some 98) rfl rfl Try.func19 (by kernel_rfl) rfl #[.agg #[.slice Ao35 t783.length co35], .int .i64 1] rfl (by (try simp only [List.map_toArray, List.map_cons, List.map_nil]); first | done | rfl | (simp only [List.length_drop, List.length_take]; rfl)) ?_; (with_reducible refine (laws_heldRadix.calls kj105 _ _ t783 1 t794 _ ?side1 ?side2 A150.out).mono ?_); (case side1 => repeat (first | exact (Kd.R_reads' HO_774000.out).2.2 | (with_reducible refine Kd.C_alloc ?_ _) | (with_reducible refine Kd.C_drewN ?_ _) | (with_reducible refine Kd.C_drew ?_))); (case side2 => exact (Kd.R_reads' HO_774000.out).2.1); rintro e w164 ⟨rfl, hb⟩; refine ⟨_, rfl, ?_⟩; have n0_ := aM (Kd.R_below (by (with_reducible repeat (first | apply Kd.R_alloc | apply Kd.R_drewN | apply Kd.R_drew)); exact HO_765000.out) hb); have n1_ := aM (Kd.R_below (by (with_reducible repeat (first | apply Kd.R_alloc | apply Kd.R_drewN | apply Kd.R_drew)); exact HO_769000.out) hb); have n2_ := aM (Kd.R_below (by (with_reducible repeat (first | apply Kd.R_alloc | apply Kd.R_drewN | apply Kd.R_drew)); exact HO_774000.out) hb); have n3_ := aM (Kd.R_below (by (with_reducible repeat (first | apply Kd.R_alloc | apply Kd.R_drewN | apply Kd.R_drew)); exact HO_793000.out) hb); have n4_ := aM (blk_below (g := gb755) (o := .cells #[.slice A0_0 l0_0.length c0_0] 36 (0, 0)) (by (with_reducible repeat (first | refine blk_drewN ?_ _ | refine blk_drew ?_ | refine blk_alloc ?_ _)); exact BK755.out) hb); have n5_ := aM (blk_below (g := gb764) (o := .cells #[.slice Ao23 t760.length co23] 26 (0, 0)) (by (with_reducible repeat (first | refine blk_drewN ?_ _ | refine blk_drew ?_ | refine blk_alloc ?_ _)); exact BK764.out) hb); have n6_ := aM (blk_below (g := gb768) (o := .cells #[.slice Ao29 t780.length co29] 26 (0, 0)) (by (with_reducible repeat (first | refine blk_drewN ?_ _ | refine blk_drew ?_ | refine blk_alloc ?_ _)); exact BK768.out) hb); have n7_ := aM (blk_below (g := gb773) (o := .cells #[.slice Ao35 t783.length co35] 26 (0, 0)) (by (with_reducible repeat (first | refine blk_drewN ?_ _ | refine blk_drew ?_ | refine blk_alloc ?_ _)); exact BK773.out) hb); have n8_ := aM (blk_below (g := gb792) (o := .cells #[.slice Ao121 t788.length co121] 26 (0, 0)) (by (with_reducible repeat (first | refine blk_drewN ?_ _ | refine blk_drew ?_ | refine blk_alloc ?_ _)); exact BK792.out) hb); have n9_ := aM (below_step (by repeat (first | (with_reducible first | exact HB.out | apply below_alloc | apply pw_below_drewN | apply below_drew1 | refine below_set ?_ GE755.out | refine below_set ?_ GE764.out | refine below_set ?_ GE768.out | refine below_set ?_ GE773.out | refine below_set ?_ GE792.out) | exact HB.out)) hb); clear HO_765000; clear HO_769000; clear HO_774000; clear HO_793000; clear BK755; clear BK764; clear BK768; clear BK773; clear BK792; clear HB; have HO_765000 := n0_; have HO_769000 := n1_; have HO_774000 := n2_; have HO_793000 := n3_; have BK755 := n4_; have BK764 := n5_; have BK768 := n6_; have BK773 := n7_; have BK792 := n8_; have HB := n9_; clear n0_ n1_ n2_ n3_ n4_ n5_ n6_ n7_ n8_ n9_; (try clear hb); (try clear hb2); (try clear hk); (try clear hi)))
                 go_ret
                 exact ⟨by first | rfl | (simp [errW_none, errW_some] <;> rfl) | (simp [*, errW_none, errW_some] <;> rfl), by repeat (first | (with_reducible first | exact HB.out | apply below_alloc | apply pw_below_drewN | apply below_drew1 | refine below_set ?_ GE755.out | refine below_set ?_ GE764.out | refine below_set ?_ GE768.out | refine below_set ?_ GE773.out | refine below_set ?_ GE792.out) | exact HB.out)⟩
                ·
                 rw [if_neg c158] at H
                 have c158b0 : (t794 == t782) = false := beq_eq_false_iff_ne.mpr c158
                 have c158b1 : (t794 != t782) = true := bne_iff_ne.mpr c158
                 obtain rfl := Option.some.inj H
                 have hnb165 := NB773_755.out
                 have hnc165 := NB755_773.out
                 have hnb166 := NB773_764.out
                 have hnc166 := NB764_773.out
                 have hnb167 := NB773_768.out
                 have hnc167 := NB768_773.out
                 have hnb168 := NB773_792.out
                 have hnc168 := NB792_773.out
                 have hcz169_0 : wc.cell? ⟨gb773, 0, none⟩ = some (.slice Ao35 t783.length co35) := (blk_cell BK773.out 0).trans rfl
                 have hfz169_0 := blk_frozen BK773.out 0
                 go_wp2_with (first | ((with_reducible refine gate_callee (f := 19) rfl ?_); refine goesL_ (some 98) rfl rfl Try.func19 (by kernel_rfl) rfl #[.agg #[.slice Ao35 t783.length co35], .int .i64 1] rfl (by (try simp only [List.map_toArray, List.map_cons, List.map_nil]); first | done | rfl | (simp only [List.length_drop, List.length_take]; rfl)) ?_; (with_reducible refine (laws_heldRadix.calls kj105 _ _ t783 1 t794 _ ?side1 ?side2 A150.out).mono ?_); (case side1 => repeat (first | exact (Kd.R_reads' HO_774000.out).2.2 | (with_reducible refine Kd.C_alloc ?_ _) | (with_reducible refine Kd.C_drewN ?_ _) | (with_reducible refine Kd.C_drew ?_))); (case side2 => exact (Kd.R_reads' HO_774000.out).2.1); rintro e w170 ⟨rfl, hb⟩; refine ⟨_, rfl, ?_⟩; have n0_ := aM (Kd.R_below (by (with_reducible repeat (first | apply Kd.R_alloc | apply Kd.R_drewN | apply Kd.R_drew)); exact HO_765000.out) hb); have n1_ := aM (Kd.R_below (by (with_reducible repeat (first | apply Kd.R_alloc | apply Kd.R_drewN | apply Kd.R_drew)); exact HO_769000.out) hb); have n2_ := aM (Kd.R_below (by (with_reducible repeat (first | apply Kd.R_alloc | apply Kd.R_drewN | apply Kd.R_drew)); exact HO_774000.out) hb); have n3_ := aM (Kd.R_below (by (with_reducible repeat (first | apply Kd.R_alloc | apply Kd.R_drewN | apply Kd.R_drew)); exact HO_793000.out) hb); have n4_ := aM (blk_below (g := gb755) (o := .cells #[.slice A0_0 l0_0.length c0_0] 36 (0, 0)) (by (with_reducible repeat (first | refine blk_drewN ?_ _ | refine blk_drew ?_ | refine blk_alloc ?_ _)); exact BK755.out) hb); have n5_ := aM (blk_below (g := gb764) (o := .cells #[.slice Ao23 t760.length co23] 26 (0, 0)) (by (with_reducible repeat (first | refine blk_drewN ?_ _ | refine blk_drew ?_ | refine blk_alloc ?_ _)); exact BK764.out) hb); have n6_ := aM (blk_below (g := gb768) (o := .cells #[.slice Ao29 t780.length co29] 26 (0, 0)) (by (with_reducible repeat (first | refine blk_drewN ?_ _ | refine blk_drew ?_ | refine blk_alloc ?_ _)); exact BK768.out) hb); have n7_ := aM (blk_below (g := gb773) (o := .cells #[.slice Ao35 t783.length co35] 26 (0, 0)) (by (with_reducible repeat (first | refine blk_drewN ?_ _ | refine blk_drew ?_ | refine blk_alloc ?_ _)); exact BK773.out) hb); have n8_ := aM (blk_below (g := gb792) (o := .cells #[.slice Ao121 t788.length co121] 26 (0, 0)) (by (with_reducible repeat (first | refine blk_drewN ?_ _ | refine blk_drew ?_ | refine blk_alloc ?_ _)); exact BK792.out) hb); have n9_ := aM (below_step (by repeat (first | (with_reducible first | exact HB.out | apply below_alloc | apply pw_below_drewN | apply below_drew1 | refine below_set ?_ GE755.out | refine below_set ?_ GE764.out | refine below_set ?_ GE768.out | refine below_set ?_ GE773.out | refine below_set ?_ GE792.out) | exact HB.out)) hb); clear HO_765000; clear HO_769000; clear HO_774000; clear HO_793000; clear BK755; clear BK764; clear BK768; clear BK773; clear BK792; clear HB; have HO_765000 := n0_; have HO_769000 := n1_; have HO_774000 := n2_; have HO_793000 := n3_; have BK755 := n4_; have BK764 := n5_; have BK768 := n6_; have BK773 := n7_; have BK792 := n8_; have HB := n9_; clear n0_ n1_ n2_ n3_ n4_ n5_ n6_ n7_ n8_ n9_; (try clear hb); (try clear hb2); (try clear hk); (try clear hi)))
                 go_ret
                 exact ⟨by first | rfl | (simp [errW_none, errW_some] <;> rfl) | (simp [*, errW_none, errW_some] <;> rfl), by repeat (first | (with_reducible first | exact HB.out | apply below_alloc | apply pw_below_drewN | apply below_drew1 | refine below_set ?_ GE755.out | refine below_set ?_ GE764.out | refine below_set ?_ GE768.out | refine below_set ?_ GE773.out | refine below_set ?_ GE792.out) | exact HB.out)⟩
           ·
            rw [if_neg c103] at H
            have c103b0 : (t784 == t782) = false := beq_eq_false_iff_ne.mpr c103
            have c103b1 : (t784 != t782) = true := bne_iff_ne.mpr c103
            obtain rfl := Option.some.inj H
            have hnb171 := NB773_755.out
            have hnc171 := NB755_773.out
            have hnb172 := NB773_764.out
            have hnc172 := NB764_773.out
            have hnb173 := NB773_768.out
            have hnc173 := NB768_773.out
            have hcz174_0 : wc.cell? ⟨gb773, 0, none⟩ = some (.slice Ao35 t769.length co35) := (blk_cell BK773.out 0).trans rfl
            have hfz174_0 := blk_frozen BK773.out 0
            go_wp2_with (first | ((with_reducible refine gate_callee (f := 18) rfl ?_); refine goesL_ (some 71) rfl rfl Try.func18 (by kernel_rfl) rfl #[.agg #[.slice Ao35 t769.length co35], .int .i64 1] rfl (by (try simp only [List.map_toArray, List.map_cons, List.map_nil]); first | done | rfl | (simp only [List.length_drop, List.length_take]; rfl)) ?_; (with_reducible refine (laws_markRadix.calls kj62 (fun k_ => some k_ = (.slice Ao35 t769.length co35 : Value).ownBlock) (.slice Ao35 t769.length co35) t769 1 t782 t783 w _ ?side1 ?side2 A93.out).mono ?_); (case side1 => repeat (first | (with_reducible first | exact HB.out | apply below_alloc | apply pw_below_drewN | apply below_drew1 | refine below_set ?_ GE755.out | refine below_set ?_ GE764.out | refine below_set ?_ GE768.out | refine below_set ?_ GE773.out) | exact HB.out)); (case side2 => exact Kd.R_tight rfl HO_774000.out); rintro e w175 ⟨rfl, hy0, hb, hkp⟩; refine ⟨_, rfl, ?_⟩; have n0_ := aM (Kd.R_mono (ok' := fun k_ => some k_ ≠ (.slice Ao29 t780.length co29 : Value).ownBlock ∧ some k_ ≠ (.slice Ao35 t769.length co35 : Value).ownBlock) (Kd.R_keptB (HO_765000.out) hkp (fun k_ hk_ hs_ => (hk_.2) hs_)) (fun k_ hk_ => ⟨hk_.1.1, hk_.1.2⟩)); have n1_ := aM (Kd.R_mono (ok' := fun k_ => some k_ ≠ (.slice Ao23 t760.length co23 : Value).ownBlock ∧ some k_ ≠ (.slice Ao35 t769.length co35 : Value).ownBlock) (Kd.R_keptB (HO_769000.out) hkp (fun k_ hk_ hs_ => (hk_.2) hs_)) (fun k_ hk_ => ⟨hk_.1.1, hk_.1.2⟩)); have n2_ := aM (Kd.R_reok rfl hy0 (fun k_ e_ => HO_774000.out.1 k_ e_)); have n3_ := aM (blk_kept (by (with_reducible repeat (first | refine blk_drewN ?_ _ | refine blk_drew ?_ | refine blk_alloc ?_ _)); exact BK755.out) hkp (fun hs_ => (fun e_ => (Kd.R_ne HO_774000.out BK755.out (by decide)) e_) hs_)); have n4_ := aM (blk_kept (by (with_reducible repeat (first | refine blk_drewN ?_ _ | refine blk_drew ?_ | refine blk_alloc ?_ _)); exact BK764.out) hkp (fun hs_ => (fun e_ => (Kd.R_ne HO_774000.out BK764.out (by decide)) e_) hs_)); have n5_ := aM (blk_kept (by (with_reducible repeat (first | refine blk_drewN ?_ _ | refine blk_drew ?_ | refine blk_alloc ?_ _)); exact BK768.out) hkp (fun hs_ => (fun e_ => (Kd.R_ne HO_774000.out BK768.out (by decide)) e_) hs_)); have n6_ := aM (blk_kept (by (with_reducible repeat (first | refine blk_drewN ?_ _ | refine blk_drew ?_ | refine blk_alloc ?_ _)); exact BK773.out) hkp (fun hs_ => (fun e_ => (Kd.R_ne HO_774000.out BK773.out (by decide)) e_) hs_)); have n7_ := aM (hb); clear HO_765000; clear HO_769000; clear HO_774000; clear BK755; clear BK764; clear BK768; clear BK773; clear HB; have HO_765000 := n0_; have HO_769000 := n1_; have HO_774000 := n2_; have BK755 := n3_; have BK764 := n4_; have BK768 := n5_; have BK773 := n6_; have HB := n7_; clear n0_ n1_ n2_ n3_ n4_ n5_ n6_ n7_; (try clear hb); (try clear hkp); (try clear hy0); have hcz176_0 : w175.cell? ⟨gb773, 0, none⟩ = some (.slice Ao35 t769.length co35) := (blk_cell BK773.out 0).trans rfl; have hfz176_0 := blk_frozen BK773.out 0) | ((with_reducible refine gate_callee (f := 19) rfl ?_); refine goesL_ (some 74) rfl rfl Try.func19 (by kernel_rfl) rfl #[.agg #[.slice Ao35 t783.length co35], .int .i64 1] rfl (by (try simp only [List.map_toArray, List.map_cons, List.map_nil]); first | done | (rw [show t783.length = t769.length from (Kd.R_reads' HO_774000.out).1.symm] <;> rfl) | rfl | (simp only [List.length_drop, List.length_take]; rfl)) ?_; (with_reducible refine (laws_heldRadix.calls kj62 _ _ t783 1 t784 _ ?side1 ?side2 A94.out).mono ?_); (case side1 => repeat (first | exact (Kd.R_reads' HO_774000.out).2.2 | (with_reducible refine Kd.C_alloc ?_ _) | (with_reducible refine Kd.C_drewN ?_ _) | (with_reducible refine Kd.C_drew ?_))); (case side2 => rw [show t783.length = t769.length from (Kd.R_reads' HO_774000.out).1.symm]; exact (Kd.R_reads' HO_774000.out).2.1); rintro e w177 ⟨rfl, hb⟩; refine ⟨_, rfl, ?_⟩; have n0_ := aM (Kd.R_below (by (with_reducible repeat (first | apply Kd.R_alloc | apply Kd.R_drewN | apply Kd.R_drew)); exact HO_765000.out) hb); have n1_ := aM (Kd.R_below (by (with_reducible repeat (first | apply Kd.R_alloc | apply Kd.R_drewN | apply Kd.R_drew)); exact HO_769000.out) hb); have n2_ := aM (Kd.R_below (by (with_reducible repeat (first | apply Kd.R_alloc | apply Kd.R_drewN | apply Kd.R_drew)); exact HO_774000.out) hb); have n3_ := aM (blk_below (g := gb755) (o := .cells #[.slice A0_0 l0_0.length c0_0] 36 (0, 0)) (by (with_reducible repeat (first | refine blk_drewN ?_ _ | refine blk_drew ?_ | refine blk_alloc ?_ _)); exact BK755.out) hb); have n4_ := aM (blk_below (g := gb764) (o := .cells #[.slice Ao23 t760.length co23] 26 (0, 0)) (by (with_reducible repeat (first | refine blk_drewN ?_ _ | refine blk_drew ?_ | refine blk_alloc ?_ _)); exact BK764.out) hb); have n5_ := aM (blk_below (g := gb768) (o := .cells #[.slice Ao29 t780.length co29] 26 (0, 0)) (by (with_reducible repeat (first | refine blk_drewN ?_ _ | refine blk_drew ?_ | refine blk_alloc ?_ _)); exact BK768.out) hb); have n6_ := aM (blk_below (g := gb773) (o := .cells #[.slice Ao35 t769.length co35] 26 (0, 0)) (by (with_reducible repeat (first | refine blk_drewN ?_ _ | refine blk_drew ?_ | refine blk_alloc ?_ _)); exact BK773.out) hb); have n7_ := aM (below_step (by repeat (first | (with_reducible first | exact HB.out | apply below_alloc | apply pw_below_drewN | apply below_drew1 | refine below_set ?_ GE755.out | refine below_set ?_ GE764.out | refine below_set ?_ GE768.out | refine below_set ?_ GE773.out) | exact HB.out)) hb); clear HO_765000; clear HO_769000; clear HO_774000; clear BK755; clear BK764; clear BK768; clear BK773; clear HB; have HO_765000 := n0_; have HO_769000 := n1_; have HO_774000 := n2_; have BK755 := n3_; have BK764 := n4_; have BK768 := n5_; have BK773 := n6_; have HB := n7_; clear n0_ n1_ n2_ n3_ n4_ n5_ n6_ n7_; (try clear hb); (try clear hb2); (try clear hk); (try clear hi)))
            go_ret
            exact ⟨by first | rfl | (simp [errW_none, errW_some] <;> rfl) | (simp [*, errW_none, errW_some] <;> rfl), by repeat (first | (with_reducible first | exact HB.out | apply below_alloc | apply pw_below_drewN | apply below_drew1 | refine below_set ?_ GE755.out | refine below_set ?_ GE764.out | refine below_set ?_ GE768.out | refine below_set ?_ GE773.out) | exact HB.out)⟩
      ·
       replace c61 := Bool.eq_false_iff.mpr c61
       subst c61
       have H1 : (some false) = some r := by rw [if_neg (show ¬ (false = true) by decide)] at H; exact H
       clear H
       have H := H1
       clear H1
       obtain rfl := Option.some.inj H
       try go_wp2
       have n0_ := aM (Kd.R_drew HO_765000.out)
       have n1_ := aM (Kd.R_drew HO_769000.out)
       have n2_ := aM (Kd.R_drew HO_774000.out)
       have n3_ := aM (blk_drew BK755.out)
       have n4_ := aM (blk_drew BK764.out)
       have n5_ := aM (blk_drew BK768.out)
       have n6_ := aM (blk_drew BK773.out)
       have n7_ := aM (below_drew1 HB.out)
       clear HO_765000
       clear HO_769000
       clear HO_774000
       clear BK755
       clear BK764
       clear BK768
       clear BK773
       clear HB
       have HO_765000 := n0_
       have HO_769000 := n1_
       have HO_774000 := n2_
       have BK755 := n3_
       have BK764 := n4_
       have BK768 := n5_
       have BK773 := n6_
       have HB := n7_
       clear n0_ n1_ n2_ n3_ n4_ n5_ n6_ n7_
       refine start_ (n := 5) (S := fun w' => w'.cell? ⟨gb768, 0, none⟩ = some (.slice Ao29 t765.length co29) ∧ w'.cell? ⟨gb755, 0, none⟩ = some (.slice A0_0 l0_0.length c0_0)) (ds := []) (bq 5 0) (by kernel_rfl) rfl (by kernel_rfl) ⟨(blk_cell BK768.out 0).trans rfl, (blk_cell BK755.out 0).trans rfl⟩ (fun hHeld => ?_)
       generalize wc.drew = w178 at HO_765000 HO_769000 HO_774000 BK755 BK764 BK768 BK773 HB hHeld ⊢
       refine take_ (i := 0) (N := some 48) (v := ?_) (a' := ?_) (bq 5 1) rfl rfl (by kernel_rfl) (fun _ _ _ h => h) (Or.inl ⟨by rfl, ?_⟩) hHeld ?_ ?_; rotate_left; (rintro w' ⟨s0, s1⟩; go_simp; (with_reducible rfl)); rotate_left; (simp only [Act.put, zSA, zSB, zSC, i64_w, i32_w]; rfl)
       refine take_ (i := 1) (N := some 49) (v := ?_) (a' := ?_) (bq 5 3) rfl rfl (by kernel_rfl) (fun _ _ _ h => h) (Or.inl ⟨by rfl, ?_⟩) hHeld ?_ ?_; rotate_left; (rintro w' ⟨s0, s1⟩; go_simp; (with_reducible rfl)); rotate_left; (simp only [Act.put, zSA, zSB, zSC, i64_w, i32_w]; rfl)
       refine one_ (i := 2) (N := some 50) (bq 5 7) rfl rfl (by kernel_rfl) (by decide) (fun K hK => ?_)
       refine goes_ Try.func22 (by kernel_rfl) rfl #[.agg #[.slice A0_0 l0_0.length c0_0]] (by rfl) rfl rfl (by (try simp only [List.map_toArray, List.map_cons, List.map_nil]); first | done | rfl | (simp only [List.length_drop, List.length_take]; rfl)) ?_
       with_reducible refine (laws_toRadix.calls kj13 _ _ l0_0 t775 _ ?side1 ?side2 A59.out).mono ?_
       (case side1 => repeat (first | exact (Kd.C_below HR0_0.out HB.out) | (with_reducible refine Kd.C_alloc ?_ _) | (with_reducible refine Kd.C_drewN ?_ _) | (with_reducible refine Kd.C_drew ?_)))
       (case side2 => exact HC0_0.out)
       rintro e w179 ⟨v776, rfl, ho0, hb⟩
       refine ⟨_, rfl, ?_⟩
       have n0_ := aM (Kd.R_elder' (by (with_reducible repeat (first | apply Kd.R_alloc | apply Kd.R_drewN | apply Kd.R_drew)); exact HO_765000.out) (Kd.R_base ho0) hb)
       have n1_ := aM (Kd.R_elder' (by (with_reducible repeat (first | apply Kd.R_alloc | apply Kd.R_drewN | apply Kd.R_drew)); exact HO_769000.out) (Kd.R_base ho0) hb)
       have n2_ := aM (Kd.R_elder' (by (with_reducible repeat (first | apply Kd.R_alloc | apply Kd.R_drewN | apply Kd.R_drew)); exact HO_774000.out) (Kd.R_base ho0) hb)
       have n3_ := aM (Kd.R_lower (Kd.R_new' (Kd.R_new' (Kd.R_new' ho0 (Kd.R_lt (by (with_reducible repeat (first | apply Kd.R_alloc | apply Kd.R_drewN | apply Kd.R_drew)); exact HO_765000.out))) (Kd.R_lt (by (with_reducible repeat (first | apply Kd.R_alloc | apply Kd.R_drewN | apply Kd.R_drew)); exact HO_769000.out))) (Kd.R_lt (by (with_reducible repeat (first | apply Kd.R_alloc | apply Kd.R_drewN | apply Kd.R_drew)); exact HO_774000.out))) (below_size (by repeat (first | (with_reducible first | exact HB.out | apply below_alloc | apply pw_below_drewN | apply below_drew1 | refine below_set ?_ GE755.out | refine below_set ?_ GE764.out | refine below_set ?_ GE768.out | refine below_set ?_ GE773.out) | exact HB.out))))
       have n4_ := aM (blk_below (g := gb755) (o := .cells #[.slice A0_0 l0_0.length c0_0] 36 (0, 0)) (by (with_reducible repeat (first | refine blk_drewN ?_ _ | refine blk_drew ?_ | refine blk_alloc ?_ _)); exact BK755.out) hb)
       have n5_ := aM (blk_below (g := gb764) (o := .cells #[.slice Ao23 t760.length co23] 26 (0, 0)) (by (with_reducible repeat (first | refine blk_drewN ?_ _ | refine blk_drew ?_ | refine blk_alloc ?_ _)); exact BK764.out) hb)
       have n6_ := aM (blk_below (g := gb768) (o := .cells #[.slice Ao29 t765.length co29] 26 (0, 0)) (by (with_reducible repeat (first | refine blk_drewN ?_ _ | refine blk_drew ?_ | refine blk_alloc ?_ _)); exact BK768.out) hb)
       have n7_ := aM (blk_below (g := gb773) (o := .cells #[.slice Ao35 t769.length co35] 26 (0, 0)) (by (with_reducible repeat (first | refine blk_drewN ?_ _ | refine blk_drew ?_ | refine blk_alloc ?_ _)); exact BK773.out) hb)
       have n8_ := aM (below_step (by repeat (first | (with_reducible first | exact HB.out | apply below_alloc | apply pw_below_drewN | apply below_drew1 | refine below_set ?_ GE755.out | refine below_set ?_ GE764.out | refine below_set ?_ GE768.out | refine below_set ?_ GE773.out) | exact HB.out)) hb)
       clear HO_765000
       clear HO_769000
       clear HO_774000
       clear BK755
       clear BK764
       clear BK768
       clear BK773
       clear HB
       have HO_765000 := n0_
       have HO_769000 := n1_
       have HO_774000 := n2_
       have HO777 := n3_
       have BK755 := n4_
       have BK764 := n5_
       have BK768 := n6_
       have BK773 := n7_
       have HB := n8_
       clear n0_ n1_ n2_ n3_ n4_ n5_ n6_ n7_ n8_
       (try clear hb)
       (try clear hb2)
       (try clear hk)
       (try clear hi)
       (try clear ho0)
       obtain ⟨Ao180, co180, eo180⟩ := Kd.R_slice HO777.out
       (first | subst eo180 | (injection eo180 with f1_ f2_ f3_; have f4_ := f1_.symm; have f5_ := f3_.symm; clear f1_ f2_ f3_; subst f4_; subst f5_))
       refine hK.out _ _ ⟨(blk_cell BK768.out 0).trans rfl, (blk_cell BK755.out 0).trans rfl⟩ (fun hHeld => ?_)
       clear hK K
       refine norm_ (a' := ?_) ?_ ?_
       rotate_left
       ·
        show Act.put _ (some 50) _ = _
        simp only [Act.put, zSA, zSB, zSC, i64_w, i32_w]
        rfl
       refine one_ (i := 3) (N := some 51) (bq 5 15) rfl rfl (by kernel_rfl) (by decide) (fun K hK => ?_)
       refine goes_ Try.func15 (by kernel_rfl) rfl #[.agg #[.slice Ao29 t765.length co29], .agg #[.slice Ao180 t775.length co180]] (by rfl) rfl rfl (by (try simp only [List.map_toArray, List.map_cons, List.map_nil]); first | done | rfl | (simp only [List.length_drop, List.length_take]; rfl)) ?_
       with_reducible refine (laws_eqRadix.calls kj13 _ _ t765 _ _ t775 false _ ?side1 ?side2 ?side3 ?side4 A60.out).mono ?_
       (case side1 => repeat (first | exact (Kd.R_reads' HO_769000.out).2.2 | (with_reducible refine Kd.C_alloc ?_ _) | (with_reducible refine Kd.C_drewN ?_ _) | (with_reducible refine Kd.C_drew ?_)))
       (case side2 => exact (Kd.R_reads' HO_769000.out).2.1)
       (case side3 => repeat (first | exact (Kd.R_reads' HO777.out).2.2 | (with_reducible refine Kd.C_alloc ?_ _) | (with_reducible refine Kd.C_drewN ?_ _) | (with_reducible refine Kd.C_drew ?_)))
       (case side4 => exact (Kd.R_reads' HO777.out).2.1)
       rintro e w181 ⟨rfl, hb⟩
       refine ⟨_, rfl, ?_⟩
       have n0_ := aM (Kd.R_below (by (with_reducible repeat (first | apply Kd.R_alloc | apply Kd.R_drewN | apply Kd.R_drew)); exact HO_765000.out) hb)
       have n1_ := aM (Kd.R_below (by (with_reducible repeat (first | apply Kd.R_alloc | apply Kd.R_drewN | apply Kd.R_drew)); exact HO_769000.out) hb)
       have n2_ := aM (Kd.R_below (by (with_reducible repeat (first | apply Kd.R_alloc | apply Kd.R_drewN | apply Kd.R_drew)); exact HO_774000.out) hb)
       have n3_ := aM (Kd.R_below (by (with_reducible repeat (first | apply Kd.R_alloc | apply Kd.R_drewN | apply Kd.R_drew)); exact HO777.out) hb)
       have n4_ := aM (blk_below (g := gb755) (o := .cells #[.slice A0_0 l0_0.length c0_0] 36 (0, 0)) (by (with_reducible repeat (first | refine blk_drewN ?_ _ | refine blk_drew ?_ | refine blk_alloc ?_ _)); exact BK755.out) hb)
       have n5_ := aM (blk_below (g := gb764) (o := .cells #[.slice Ao23 t760.length co23] 26 (0, 0)) (by (with_reducible repeat (first | refine blk_drewN ?_ _ | refine blk_drew ?_ | refine blk_alloc ?_ _)); exact BK764.out) hb)
       have n6_ := aM (blk_below (g := gb768) (o := .cells #[.slice Ao29 t765.length co29] 26 (0, 0)) (by (with_reducible repeat (first | refine blk_drewN ?_ _ | refine blk_drew ?_ | refine blk_alloc ?_ _)); exact BK768.out) hb)
       have n7_ := aM (blk_below (g := gb773) (o := .cells #[.slice Ao35 t769.length co35] 26 (0, 0)) (by (with_reducible repeat (first | refine blk_drewN ?_ _ | refine blk_drew ?_ | refine blk_alloc ?_ _)); exact BK773.out) hb)
       have n8_ := aM (below_step (by repeat (first | (with_reducible first | exact HB.out | apply below_alloc | apply pw_below_drewN | apply below_drew1 | refine below_set ?_ GE755.out | refine below_set ?_ GE764.out | refine below_set ?_ GE768.out | refine below_set ?_ GE773.out) | exact HB.out)) hb)
       clear HO_765000
       clear HO_769000
       clear HO_774000
       clear HO777
       clear BK755
       clear BK764
       clear BK768
       clear BK773
       clear HB
       have HO_765000 := n0_
       have HO_769000 := n1_
       have HO_774000 := n2_
       have HO777 := n3_
       have BK755 := n4_
       have BK764 := n5_
       have BK768 := n6_
       have BK773 := n7_
       have HB := n8_
       clear n0_ n1_ n2_ n3_ n4_ n5_ n6_ n7_ n8_
       (try clear hb)
       (try clear hb2)
       (try clear hk)
       (try clear hi)
       refine hK.out _ _ ⟨(blk_cell BK768.out 0).trans rfl, (blk_cell BK755.out 0).trans rfl⟩ (fun hHeld => ?_)
       clear hK K
       refine norm_ (a' := ?_) ?_ ?_
       rotate_left
       ·
        show Act.put _ (some 51) _ = _
        simp only [Act.put, zSA, zSB, zSC, i64_w, i32_w]
        rfl
       refine pure_ (i := 4) (N := some 52) (v := ?_) (a' := ?_) (bq 5 31) rfl rfl (by kernel_rfl) (fun _ _ _ h => h) (Or.inl ⟨by rfl, ?_⟩) ?_ ?_; rotate_left; (intro w'; go_simp; (with_reducible rfl)); rotate_left; (simp only [Act.put, zSA, zSB, zSC, i64_w, i32_w]; rfl)
       refine done_ (by kernel_rfl) ?_
       try go_wp2
       go_ret
       exact ⟨by first | rfl | (simp [errW_none, errW_some] <;> rfl) | (simp [*, errW_none, errW_some] <;> rfl), by repeat (first | (with_reducible first | exact HB.out | apply below_alloc | apply pw_below_drewN | apply below_drew1 | refine below_set ?_ GE755.out | refine below_set ?_ GE764.out | refine below_set ?_ GE768.out | refine below_set ?_ GE773.out) | exact HB.out)⟩

/-- THE ONE PURE STATEMENT of laws_FnExactCutName. -/
def laws_FnExactCutName.Pure : Prop := ∀ (l0_0 : List (S80)) (a1 : ByteArray), (l0_0.length ≤ maxLen ∧ ∀ x_ ∈ l0_0, (x_.f0.size ≤ maxLen ∧ (True ∧ (Lit.int .i64 x_.f2).wf = true))) → a1.size ≤ maxLen → ∃ k, laws_FnExactCutName.f k l0_0 a1 = some true
theorem laws_FnExactCutName.walk (P : laws_FnExactCutName.Pure) (A0_0 : Option Addr) (c0_0 : Nat) (l0_0 : List (S80)) (a1 : ByteArray) (w : World) (hr0_0 : Kd.C k80 w A0_0 l0_0.length l0_0) (hc0_0 : l0_0.length ≤ c0_0) (w0_0 : (l0_0.length ≤ maxLen ∧ ∀ x_ ∈ l0_0, (x_.f0.size ≤ maxLen ∧ (True ∧ (Lit.int .i64 x_.f2).wf = true)))) (w1 : a1.size ≤ maxLen) :
  Calls Try.prog 9 #[.agg #[.slice A0_0 l0_0.length c0_0], .string a1] w fun e w' => e = .returned (.bool true) ∧ Below w.heap.size w w' := by
 obtain ⟨k, h⟩ := P l0_0 a1 w0_0 w1
 refine (laws_FnExactCutName.calls k _ _ l0_0 a1 true w hr0_0 hc0_0 h).mono ?_
 rintro e w' ⟨rfl, hd⟩
 exact ⟨rfl, hd⟩

end Go.Proofs.Ytcngebfcpobnnaa.PQ
end

section
namespace Go.Proofs.Ytcngebfcpobnnaa.Pure
open Go.RowKit Go.Proofs.Ytcngebfcpobnnaa.PQ Go.Proofs.YtcngebfcpobnnaaW.PrintWords Go.Proofs.YtcngebfcpobnnaaW.PrintLast Go.Proofs.Ytcngebfcpobnnaa.Pre Go.Proofs.Ytcngebfcpobnnaa.Rx
theorem FnExactCutName : laws_FnExactCutName.Pure := by
 intro l a hw hwa
 refine Evt.ex (r := true) ?_
 obtain ⟨t, ht, h2⟩ := RxL.sz_ev l hw.1 (fun x hx => (hw.2 x hx).1)
 unfold laws_FnExactCutName.f
 by_cases hbig : (a.size : Int) > 1048576
 ·
  exact Evt.pos hbig (Evt.const _)
 refine Evt.neg hbig (Evt.bind ht ?_)
 by_cases hc : t < 0
 ·
  exact Evt.pos hc (Evt.const _)
 ·
  refine Evt.neg hc ?_
  have hs := h2 (by omega)
  have hto := RxL.to_ev l hs.1
  have hm : (l.map RxL.cvE).length ≤ 1048576 := by rw [List.length_map]; exact hs.1
  have hz : ∀ e ∈ l.map RxL.cvE, e.f0.size ≤ 1048576 := by
   intro e he
   obtain ⟨x, hx, rfl⟩ := List.mem_map.1 he
   exact hs.2 x hx
  generalize l.map RxL.cvE = r at hto hm hz
  have hS := specCut_ev r a hm hz
  have hI : impl_CutName.f r a = some (ansCut r a) := if_pos ⟨hm, hz⟩
  have h81 := ansCut_len r a
  generalize ansCut r a = R at hS hI h81
  obtain ⟨N, b⟩ := R
  have h81 : N.length ≤ 81 := h81
  have heq := RxL.eq_ev N (by omega)
  have heqr := RxL.eq_ev r hm
  have hmk := RxL.mark_ev r 1 (by omega) hm
  have hmr := RxL.mark_ev N 1 (by omega) (by omega)
  have hhr := RxL.held_ev N.length 1 (by omega) (by omega)
  refine Evt.bind hto (Evt.bind hS (Evt.bind hto ?_))
  rw [hI]
  refine Evt.bsome (Evt.bind heq (Evt.pos rfl ?_))
  refine Evt.step (fun k => laws_FnExactCutName.j0.eq_2 _ _ _ _ _ _ _ _ k) (Evt.neg (by simp) (Evt.bind hto (Evt.bind heqr (Evt.pos rfl (Evt.bind hmk (Evt.neg (by simp; omega) (Evt.bind heq (Evt.pos rfl ?_))))))))
  refine Evt.step (fun k => laws_FnExactCutName.j1.eq_2 _ _ _ _ _ _ k) (Evt.neg (by simp) (Evt.bind hmr (Evt.bind hhr (Evt.neg (by omega) (Evt.pos rfl ?_)))))
  refine Evt.bind hto ?_
  rw [hI]
  refine Evt.bsome (Evt.bind heq (Evt.pos rfl ?_))
  exact Evt.step (fun k => laws_FnExactCutName.j2.eq_2 _ _ _ k) (Evt.neg (by simp) (Evt.bind hhr (Evt.neg (by omega) (Evt.pos rfl (Evt.const _)))))
end Go.Proofs.Ytcngebfcpobnnaa.Pure
end

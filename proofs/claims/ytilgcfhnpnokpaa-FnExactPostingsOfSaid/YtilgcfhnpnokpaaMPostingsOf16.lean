/- Several texts in one: what the claim's last text rests on. No conditions. -/
import Derived.Test.YtilgcfhnpnokpaaMPostingsOf15
import Derived.Lib.BufferMore
import Derived.Test.YtilgcfhnpnokpaaMPostingsOf14
import Derived.Test.YtilgcfhnpnokpaaMPostingsOf6
import Derived.Test.YtilgcfhnpnokpaaMPostingsOf11
import Derived.Test.YtilgcfhnpnokpaaMPostingsOf5
section
/- A word's postings, by hand: impl.entryOf, (*impl.Words).postings. No conditions. -/
namespace Go.Proofs.Ytilgcfhnpnokpaa.PostW
set_option linter.unusedVariables false
set_option linter.unusedSimpArgs false
open Go.RowKit Go.Proofs.Ytilgcfhnpnokpaa.PQ Go.Proofs.YtilgcfhnpnokpaaW.PrintWords Go.Proofs.YtilgcfhnpnokpaaW.PrintLast Go.Proofs.YtilgcfhnpnokpaaW.PrintMore Go.Proofs.Ytilgcfhnpnokpaa.Pre Go.Proofs.Ytilgcfhnpnokpaa.Posts Go.Proofs.Ytilgcfhnpnokpaa.GoodW Go.Proofs.Ytilgcfhnpnokpaa.CmpL Go.Proofs.Ytilgcfhnpnokpaa.EntW

theorem entryOf_calls (A : Option Addr) (c : Nat) (l : List En) (t : ByteArray) (w : World) (hr : Kd.C k124 w A l.length l) (hc : l.length ≤ c) (hl : l.length ≤ 1048576) (hs : Rise l) :
    Calls Try.prog 113 #[.slice A l.length c, .string t] w fun e w' => ∃ i : Nat, At l t i ∧ e = .returned (.tuple #[.int .i64 (i : Int), .bool (isAt l t i)]) ∧ Below w.heap.size w w' := by
  have HC := Aside0.mk (search_calls A c l t w hr hc hl hs)
  clear hr hc hl hs
  go_enter Try.func113, Try.ntmps113
  go_wp2_with (first | (go_at_call 119; go_loud ((with_reducible refine HC.out.mono ?_); rintro e w2 ⟨i, HA, rfl, hb⟩; have HA2 := Aside0.mk HA; have HB2 := Aside0.mk hb; clear HA hb)))
  go_ret2
  exact ⟨i, HA2.out, rfl, HB2.out⟩
/-- The postings of a word. -/
def posts (l : List En) (t : ByteArray) : List Po := match l.find? (fun e => decide (e.f0 = t)) with | some e => e.f1 | none => []
theorem at_yes (l : List En) (hs : Rise l) (t : ByteArray) (i : Nat) (h : i < l.length) (he : l[i].f0 = t) : posts l t = l[i].f1 := by
  have hf : l.find? (fun e => decide (e.f0 = t)) = some l[i] := by
    rw [List.find?_eq_some_iff_getElem]
    refine ⟨decide_eq_true he, i, h, rfl, fun j hj => ?_⟩
    have hlt := hs j i h hj
    have hne : ¬ l[j].f0 = t := fun e2 => by
      rw [e2, he, ltS_irrefl] at hlt
      cases hlt
    simpa using hne
  unfold posts
  rw [hf]
theorem at_no (l : List En) (hs : Rise l) (t : ByteArray) (i : Nat) (hA : At l t i) (he : isAt l t i = false) : posts l t = [] := by
  have hf : l.find? (fun e => decide (e.f0 = t)) = none := by
    rw [List.find?_eq_none]
    intro x hx
    obtain ⟨j, hj, rfl⟩ := List.getElem_of_mem hx
    intro e
    have e := of_decide_eq_true e
    rcases Nat.lt_trichotomy j i with h | h | h
    · have := hA.2.1 j hj h
      rw [e, ltS_irrefl] at this
      cases this
    · subst h
      exact of_decide_eq_false he ⟨hj, e⟩
    · have h1 := hA.2.2 i (by omega) (Nat.le_refl _)
      have h2 := hs i j hj h
      rw [e] at h2
      rw [h1] at h2
      cases h2
  unfold posts
  rw [hf]
set_option maxRecDepth 100000 in
set_option maxHeartbeats 1000000 in
theorem postings_calls (A : Option Addr) (c : Nat) (l : List En) (t : ByteArray) (w : World) (b : Nat) (hcl : ∀ w', Below w.heap.size w w' → w'.cell? ⟨b, 1, none⟩ = some (.slice A l.length c)) (hr : Kd.C k124 w A l.length l) (hc : l.length ≤ c) (hl : l.length ≤ 1048576) (hs : Rise l) (hne : ∀ e ∈ l, 0 < e.f1.length) :
    Calls Try.prog 95 #[.pointer (some ⟨b, 0, none⟩), .string t] w fun e w' => ∃ A' c', e = .returned (.slice A' (posts l t).length c') ∧ (posts l t).length ≤ c' ∧ Kd.C k81 w A' (posts l t).length (posts l t) ∧ ((A' = none ∧ c' = 0) ∨ 0 < (posts l t).length) ∧ Below w.heap.size w w' := by
  have HCL := Aside0.mk hcl
  have HR := Aside0.mk hr
  have HC := Aside0.mk hc
  have HL := Aside0.mk hl
  have HS := Aside0.mk hs
  have h0 := hcl w (Below.refl _ _)
  clear hcl hr hc hl hs
  go_enter Try.func95, Try.ntmps95
  go_upto_region 2 with (first | (go_at_call 113; go_loud ((with_reducible refine (entryOf_calls A c l t _ HR.out HC.out HL.out HS.out).mono ?_); rintro e w2 ⟨i, HA, rfl, hb⟩; have HA2 := Aside0.mk HA; have HB2 := Aside0.mk hb; have h1 := HCL.out w2 HB2.out; clear HA hb)))
  by_cases hy : isAt l t i = true
  · have hi : i < l.length := (of_decide_eq_true hy).1
    have he : l[i].f0 = t := (of_decide_eq_true hy).2
    have p1 : (0 : Int) ≤ (i : Int) := by omega
    have q1 : (i : Int) < (l.length : Int) := by omega
    obtain ⟨ad, A1, c1, rfl, hx0, hx1, hl1, hC1⟩ := at_T124 HR.out (i : Int) p1 q1
    replace hx1 := (HB2.out.cell (World.block_lt_of_cell? w _ hx1)).trans hx1
    rw [Int.toNat_natCast] at hx1
    rw [rd_en l i hi] at hx1 hl1 hC1
    obtain ⟨x, hxe⟩ : ∃ x, x = l[i] := ⟨_, rfl⟩
    rw [← hxe] at hx1 hl1 hC1
    have HP := Aside0.mk ((at_yes l HS.out t i hi he).trans (by rw [hxe] : l[i].f1 = x.f1))
    have HNE := Aside0.mk (hne x (by rw [hxe]; exact List.getElem_mem hi))
    have HC1 := Aside0.mk hC1
    have HL1 := Aside0.mk hl1
    clear hx0 hl1 hC1 he hxe hi
    replace p1 := eq_true p1
    replace q1 := eq_true q1
    go_wp2
    go_ret
    rw [HP.out]
    exact ⟨A1, c1, rfl, HL1.out, HC1.out, .inr HNE.out, HB2.out⟩
  · have hy := Bool.eq_false_iff.2 hy
    have HP := Aside0.mk (at_no l HS.out t i HA2.out hy)
    go_wp2
    go_ret
    rw [HP.out]
    exact ⟨none, 0, rfl, Nat.zero_le _, Kd.C_nil _ _, .inl ⟨rfl, rfl⟩, HB2.out⟩
/-- The cells of postings. -/
def flatP (l : List Po) : List Value := l.flatMap (fun x => [.int .i64 x.f0, .int .i64 x.f1])
theorem flatP_len (l : List Po) : (flatP l).length = l.length * 2 := by
  unfold flatP
  induction l with
  | nil => rfl
  | cons a l ih =>
    rw [List.flatMap_cons, List.length_append, ih, List.length_cons]
    simp
    omega
theorem flatP_at (l : List Po) : ∀ (j : Nat) (u : Value), (flatP l)[j]? = some u → ∃ (h : j / 2 < l.length), u = if j % 2 = 0 then .int .i64 (l[j / 2]).f0 else .int .i64 (l[j / 2]).f1 := by
  induction l with
  | nil => intro j u h; simp [flatP] at h
  | cons a l ih =>
    intro j u h
    have e : flatP (a :: l) = [.int .i64 a.f0, .int .i64 a.f1] ++ flatP l := by unfold flatP; rw [List.flatMap_cons]
    rw [e] at h
    match j with
    | 0 => exact ⟨by simp, by simpa using h.symm⟩
    | 1 => exact ⟨by simp, by simpa using h.symm⟩
    | j + 2 =>
      have h2 : (flatP l)[j]? = some u := by simpa using h
      obtain ⟨h3, h4⟩ := ih j u h2
      have e1 : (j + 2) / 2 = j / 2 + 1 := by omega
      have e2 : (j + 2) % 2 = j % 2 := by omega
      refine ⟨by rw [e1, List.length_cons]; omega, ?_⟩
      rw [h4, e2]
      simp only [e1, List.getElem_cons_succ]
theorem flatP_reps (w : World) (base : Nat) (ok : Nat → Prop) (l : List Po) : Reps (k81.M w base ok) 2 l (flatP l) := by
  refine ⟨flatP_len l, fun j p hp => ?_⟩
  have key : ∀ (l : List Po) (j : Nat), l[j]? = some p → ((flatP l).drop (j * 2)).take 2 = [.int .i64 p.f0, .int .i64 p.f1] := by
    intro l
    induction l with
    | nil => intro j h; simp at h
    | cons a l ih =>
      intro j h
      have e : flatP (a :: l) = [.int .i64 a.f0, .int .i64 a.f1] ++ flatP l := by unfold flatP; rw [List.flatMap_cons]
      match j with
      | 0 =>
        have : a = p := by simpa using h
        subst this
        rw [e]
        simp
      | j + 1 =>
        rw [e, show (j + 1) * 2 = j * 2 + 2 by omega]
        simpa using ih j (by simpa using h)
  rw [key l j hp]
  exact k81_mkM w base ok p
theorem flatP_cells {w : World} {ad : Addr} {l : List Po} (h : Kd.C k81 w (some ad) l.length l) : ∀ j u, (flatP l)[j]? = some u → w.cell? (ad.add j) = some u := by
  intro j u hj
  obtain ⟨h1, rfl⟩ := flatP_at l j u hj
  obtain ⟨ad2, e, hx0, hx1⟩ := at_T81 h ((j / 2 : Nat) : Int) (by omega) (by omega)
  obtain rfl := Option.some.inj e
  rw [Int.toNat_natCast, rd_get l _ h1] at hx0 hx1
  by_cases h0 : j % 2 = 0
  · rw [if_pos h0]
    rw [show j / 2 * 2 = j by omega] at hx0
    exact hx0
  · rw [if_neg h0]
    rw [← add_field _ _ 1 (by omega), show j / 2 * 2 + 1 = j by omega] at hx1
    exact hx1
theorem one_flat (l : List Po) (u : Value) (hu : u ∈ flatP l) : u.oneCell' = true := by
  unfold flatP at hu
  rw [List.mem_flatMap] at hu
  obtain ⟨x, _, hx⟩ := hu
  simp at hx
  rcases hx with rfl | rfl <;> rfl
set_option maxRecDepth 100000 in
set_option maxHeartbeats 1000000 in
theorem clone_calls (A : Option Addr) (c : Nat) (l : List Po) (w : World) (hr : Kd.C k81 w A l.length l) (hc : l.length ≤ c) (hl : l.length ≤ 1048576) (hn : (A = none ∧ c = 0) ∨ 0 < l.length) :
    Calls Try.prog 94 #[.slice A l.length c] w fun e w' => ∃ v0_ : Value, e = .returned v0_ ∧ Kd.R k81 81 w' w.heap.size (fun _ => True) v0_ l ∧ Below w.heap.size w w' := by
  rcases hn with ⟨rfl, rfl⟩ | hn
  · have e0 : l = [] := List.eq_nil_of_length_eq_zero (by omega)
    subst e0
    have hE := Lib.run_eql_slice_nil_nil (P := Try.prog) w 0 0 Try.underlying30
    go_enter Try.func94, Try.ntmps94
    go_wp2
    go_ret
    exact ⟨_, rfl, Kd.R_nil _ _ _ _ _, Below.refl _ _⟩
  · obtain ⟨ad, hA⟩ : ∃ ad, A = some ad := by
      obtain ⟨ad, e, _⟩ := at_T81 hr 0 (by omega) (by omega)
      exact ⟨ad, e⟩
    subst hA
    have HF := Aside0.mk (flatP_cells hr)
    have HL := Aside0.mk hl
    have HN := Aside0.mk hn
    have HBA := Aside0.mk (below_alloc (Below.refl w.heap.size w) (.cells #[] 81))
    clear hr hc hl hn
    go_enter Try.func94, Try.ntmps94
    have hE := Lib.run_eql_slice_some_nil (P := Try.prog) w ad l.length c Try.underlying30
    obtain ⟨i0, hi0, hz0, hs0, hb0⟩ : ∃ i, Try.prog.info? 81 = some i ∧ i.zero = some (.agg #[.int .i64 0, .int .i64 0]) ∧ i.size = 2 ∧ i.bytes = 16 := by
      have h := info81
      cases hq : Try.prog.info? 81 with
      | none => rw [hq] at h; simp at h
      | some i => rw [hq] at h; simp at h; exact ⟨i, rfl, h.1, h.2.1, h.2.2⟩
    go_wp2_with (first | (at_builtin; go_loud (refine wpList_append_grows (P := Try.prog) _ rfl (.tmp 5) (.tmp 6) 30 rfl 81 i0 (.agg #[.int .i64 0, .int .i64 0]) 2 16 Try.underlying30 hi0 hz0 hs0 hb0 rfl (by decide) (some ⟨w.heap.size, 0, none⟩) 0 0 [] rfl (fun h => by cases h) rfl (fun b _ j u hj => by simp at hj) ad l.length c (flatP l) rfl (flatP_len l) (fun j u hj => ?hC) (fun u hu => ?h1) (by have := HN.out; omega) (by have := HL.out; unfold maxLen; omega) (by have := HL.out; omega) ?_; (case hC => exact (HBA.out.cell (World.block_lt_of_cell? w _ (HF.out j u hj))).trans (HF.out j u hj)); (case h1 => exact one_flat l u hu); intro v' w' ho hg; rw [Nat.zero_add, List.nil_append] at ho; have HO := Aside0.mk ho; have HG := Aside0.mk hg; clear ho hg)))
    go_ret
    refine ⟨v', rfl, ⟨fun _ _ => trivial, flatP l, own_weaken HO.out (by simp), flatP_reps _ _ _ l⟩, HBA.out.grown HG.out (by simp) (fun k hk => by cases hk)⟩
theorem rise_of_good {x : Int} {l : List En} (h : goodW x l = true) : Rise l := by
  have hadj : ∀ i (hi : i + 1 < l.length), ltS (l[i]'(by omega)).f0 l[i + 1].f0 = true := by
    intro i hi
    unfold goodW at h
    rw [Bool.and_eq_true, List.all_eq_true] at h
    have he := h.2 (i + 1) (by rw [List.mem_range'_1]; omega)
    unfold entOK at he
    simp only [Bool.and_eq_true, Bool.or_eq_true] at he
    obtain ⟨⟨⟨_, h1⟩, _⟩, _⟩ := he
    rcases h1 with h1 | h1
    · exact absurd (of_decide_eq_true h1) (by omega)
    · rw [show (((i + 1 : Nat) : Int) - 1) = (i : Int) by omega, rd_en l i (by omega), rd_en l (i + 1) hi] at h1
      exact h1
  intro i j hj hij
  induction j with
  | zero => omega
  | succ j ih =>
    rcases Nat.lt_or_ge i j with h1 | h1
    · exact ltS_trans (ih (by omega) h1) (hadj j hj)
    · obtain rfl : i = j := by omega
      exact hadj i hj
theorem ne_of_good {x : Int} {l : List En} (h : goodW x l = true) : ∀ e ∈ l, 0 < e.f1.length := by
  intro e hm
  obtain ⟨i, hi, rfl⟩ := List.getElem_of_mem hm
  unfold goodW at h
  rw [Bool.and_eq_true, List.all_eq_true] at h
  have he := h.2 i (by rw [List.mem_range'_1]; omega)
  unfold entOK at he
  simp only [Bool.and_eq_true, rd_en l i hi] at he
  obtain ⟨⟨_, h1⟩, _⟩ := he
  have h2 : ¬ l[i].f1.length = 0 := by simpa using h1
  omega
theorem small_posts {l : List En} (h : Small l) (t : ByteArray) : (posts l t).length ≤ 1048576 := by
  unfold posts
  cases hf : l.find? (fun e => decide (e.f0 = t)) with
  | none => simp
  | some e => exact (h.2 e (List.mem_of_find?_eq_some hf)).2
/-- What PostingsOf answers. -/
def postsOf (x : Int) (l : List En) (t : ByteArray) : List Po × Bool := if goodW x l = true ∧ isW t = true then (posts l t, true) else ([], false)
set_option maxRecDepth 100000 in
set_option maxHeartbeats 1000000 in
theorem calls (x : Int) (A : Option Addr) (c : Nat) (l : List En) (t : ByteArray) (w : World) (hr : Kd.C k124 w A l.length l) (hc : l.length ≤ c) (hl : Small l) (ht : t.size ≤ 1048576) :
    Calls Try.prog 54 #[.agg #[.int .i64 x, .slice A l.length c], .string t] w fun e w' => ∃ v0_ : Value, e = .returned (.tuple #[v0_, .bool (postsOf x l t).2]) ∧ Kd.R k81 81 w' w.heap.size (fun _ => True) v0_ (postsOf x l t).1 ∧ Below w.heap.size w w' := by
  have HR := Aside0.mk hr
  have HC := Aside0.mk hc
  have HL := Aside0.mk hl
  have HL1 := Aside0.mk hl.1
  obtain ⟨kg, hg⟩ := (impl_ev x l hl).ex
  obtain ⟨kw, hw⟩ := (isWord_ev t ht).ex
  have HG := Aside0.mk hg
  have HW := Aside0.mk hw
  have hx0 : ∀ w', Below (w.alloc (.cells #[.int .i64 x, .slice A l.length c] 67)).heap.size (w.alloc (.cells #[.int .i64 x, .slice A l.length c] 67)) w' → w'.cell? ⟨w.heap.size, 0, none⟩ = some (.int .i64 x) ∧ w'.cell? ⟨w.heap.size, 1, none⟩ = some (.slice A l.length c) := fun w' hb => ⟨(hb.cell (by simp)).trans (by simp), (hb.cell (by simp)).trans (by simp)⟩
  have HX := Aside0.mk hx0
  have HB0 := Aside0.mk (below_alloc (Below.refl w.heap.size w) (.cells #[.int .i64 x, .slice A l.length c] 67))
  have HSZ : Aside0 (w.heap.size ≤ (w.alloc (.cells #[.int .i64 x, .slice A l.length c] 67)).heap.size) := ⟨by simp⟩
  clear hg hw hx0 hr hc hl ht
  obtain ⟨bg, hbg⟩ : ∃ b, b = goodW x l := ⟨_, rfl⟩
  obtain ⟨bw, hbw⟩ : ∃ b, b = isW t := ⟨_, rfl⟩
  rw [← hbg] at HG
  rw [← hbw] at HW
  unfold postsOf
  rw [← hbg, ← hbw]
  cases bg with
  | false =>
    clear hbg hbw
    rw [if_neg (by simp)]
    go_enter Try.func54, Try.ntmps54
    go_wp2_with (first | (go_at_call 49; go_loud ((with_reducible refine (impl_GoodWords.calls kg x A c l _ _ (Kd.C_alloc HR.out _) HC.out HG.out).mono ?_); rintro e w2 ⟨rfl, hb⟩; have HB2 := Aside0.mk (below_then HB0.out HSZ.out hb); clear hb)))
    go_ret2
    exact ⟨_, rfl, Kd.R_nil _ _ _ _ _, HB2.out⟩
  | true =>
    cases bw with
    | false =>
      clear hbg hbw
      rw [if_neg (by simp)]
      go_enter Try.func54, Try.ntmps54
      go_wp2_with (first | (go_at_call 49; go_loud ((with_reducible refine (impl_GoodWords.calls kg x A c l _ _ (Kd.C_alloc HR.out _) HC.out HG.out).mono ?_); rintro e w2 ⟨rfl, hb⟩; have HB2 := Aside0.mk (below_then HB0.out HSZ.out hb); clear hb)) | (go_at_call 89; go_loud ((with_reducible refine (impl_isWord.calls kw t _ _ HW.out).mono ?_); rintro e w3 ⟨rfl, hd⟩; have HB3 := Aside0.mk (below_step HB2.out hd.below); clear hd)))
      go_ret2
      exact ⟨_, rfl, Kd.R_nil _ _ _ _ _, HB3.out⟩
    | true =>
      have HRI := Aside0.mk (rise_of_good hbg.symm)
      have HNE := Aside0.mk (ne_of_good hbg.symm)
      rw [if_pos ⟨rfl, rfl⟩]
      clear hbg hbw
      go_enter Try.func54, Try.ntmps54
      go_wp2_with (first | (go_at_call 49; go_loud ((with_reducible refine (impl_GoodWords.calls kg x A c l _ _ (Kd.C_alloc HR.out _) HC.out HG.out).mono ?_); rintro e w2 ⟨rfl, hb⟩; have HA2 := Aside0.mk hb; have HB2 := Aside0.mk (below_then HB0.out HSZ.out hb); clear hb)) | (go_at_call 89; go_loud ((with_reducible refine (impl_isWord.calls kw t _ _ HW.out).mono ?_); rintro e w3 ⟨rfl, hd⟩; have HA3 := Aside0.mk (below_step HA2.out hd.below); have HB3 := Aside0.mk (below_step HB2.out hd.below); clear hd)) | (go_at_call 95; go_loud ((with_reducible refine (postings_calls A c l t _ w.heap.size (fun w' hb => (HX.out w' (below_step HA3.out hb)).2) (Kd.C_below HR.out HB3.out) HC.out HL1.out HRI.out HNE.out).mono ?_); rintro e w4 ⟨Ap, cp, rfl, hcp, hC4, hnil, hb⟩; have HB4 := Aside0.mk (below_step HB3.out hb); have HC4 := Aside0.mk (Kd.C_below hC4 hb); have HP4 := Aside0.mk hcp; have HN4 := Aside0.mk hnil; clear hb hC4 hcp hnil)) | (go_at_call 94; go_loud ((with_reducible refine (clone_calls Ap cp (posts l t) _ HC4.out HP4.out (small_posts HL.out t) HN4.out).mono ?_); rintro e w5 ⟨v0, rfl, ho, hb⟩; have HO5 := Aside0.mk (Kd.R_lower ho (below_size HB4.out)); have HB5 := Aside0.mk (below_step HB4.out hb); clear ho hb)))
      go_ret2
      exact ⟨v0, rfl, HO5.out, HB5.out⟩
end Go.Proofs.Ytilgcfhnpnokpaa.PostW
end

section
/- The law FnExactPostingsOf, walked by hand: it returns true. No conditions. -/
namespace Go.Proofs.Ytilgcfhnpnokpaa.LwPo
set_option linter.unusedVariables false
set_option linter.unusedSimpArgs false
open Go.RowKit Go.Proofs.Ytilgcfhnpnokpaa.PQ Go.Proofs.YtilgcfhnpnokpaaW.PrintWords Go.Proofs.YtilgcfhnpnokpaaW.PrintLast Go.Proofs.YtilgcfhnpnokpaaW.PrintMore Go.Proofs.Ytilgcfhnpnokpaa.Pre Go.Proofs.Ytilgcfhnpnokpaa.Posts Go.Proofs.Ytilgcfhnpnokpaa.GoodW Go.Proofs.Ytilgcfhnpnokpaa.EntT Go.Proofs.Ytilgcfhnpnokpaa.PostW Go.Proofs.Ytilgcfhnpnokpaa.Shp

theorem spec_posts (l : List En) (hl : Small l) (x : Int) (t : ByteArray) : Evt (fun k => spec_l10Postings.f k x l t) (posts l t) := by
  have hl1 := hl.1
  unfold spec_l10Postings.f
  have key : ∀ (n i : Nat), i + n = l.length → Evt (fun k => spec_l10Postings.l0 k t l (l.length : Int) (i : Int)) (posts (l.drop i) t) := by
    intro n
    induction n with
    | zero =>
      intro i hi
      refine Evt.step (fun k => spec_l10Postings.l0.eq_2 _ _ _ _ k) (Evt.neg (by omega) ((Evt.const _).eq ?_))
      rw [List.drop_of_length_le (by omega)]
      rfl
    | succ n ih =>
      intro i hi
      have hlt : i < l.length := by omega
      refine Evt.step (fun k => spec_l10Postings.l0.eq_2 _ _ _ _ k) (Evt.pos (by omega) (Evt.pos (by omega) (Evt.pos (by omega) ?_)))
      rw [rd_en l i hlt, w64 (n := (i : Int) + 1) (by omega) (by omega), List.drop_eq_getElem_cons hlt]
      by_cases he : l[i].f0 = t
      · refine Evt.pos (by rw [he]) (Evt.bsome (Evt.pos ?_ ((Evt.const _).eq ?_)))
        · have := (hl.2 _ (List.getElem_mem hlt)).2
          simp
          omega
        · unfold posts
          have h_ : (l[i] :: l.drop (i + 1)).find? (fun e => decide (e.f0 = t)) = some l[i] := List.find?_cons_of_pos (decide_eq_true he)
          rw [h_]
          rfl
      · refine Evt.neg (fun e => he (Byt.toList_inj e)) ((ih (i + 1) (by omega)).eq ?_)
        unfold posts
        have h_ : (l[i] :: l.drop (i + 1)).find? (fun e => decide (e.f0 = t)) = (l.drop (i + 1)).find? (fun e => decide (e.f0 = t)) := List.find?_cons_of_neg (by simpa using he)
        rw [h_]
  exact key l.length 0 (by omega)
theorem spec_of (x : Int) (l : List En) (hl : Small l) (t : ByteArray) (ht : t.size ≤ 1048576) : Evt (fun k => spec_PostingsOf.f k x l t) (postsOf x l t) := by
  unfold spec_PostingsOf.f postsOf
  refine Evt.bind (GoodW.spec_ev x l hl) ?_
  by_cases hg : goodW x l = true
  · refine Evt.pos hg (Evt.bind (l10Word_ev t ht) ?_)
    by_cases hw : isW t = true
    · rw [if_pos ⟨hg, hw⟩]
      exact Evt.pos hw (Evt.bind (spec_posts l hl x t) (Evt.const _))
    · rw [if_neg (fun h => hw h.2)]
      exact Evt.neg hw (Evt.const _)
  · rw [if_neg (fun h => hg h.1)]
    exact Evt.neg hg (Evt.const _)
theorem postsOf_len (x : Int) (l : List En) (hl : Small l) (t : ByteArray) : (postsOf x l t).1.length ≤ 1048576 := by
  unfold postsOf
  split
  · exact small_posts hl t
  · simp
theorem R_in {α : Type} {d : Kd α} {e : Nat} {W : World} {base : Nat} {v : Value} {xs : List α} (h : d.R e W base (fun _ => True) v xs) : d.R e W base (fun k => base ≤ k ∧ k < W.heap.size) v xs := Kd.R_mono (Kd.R_bound h) (fun k hk => ⟨hk.2.1, hk.2.2.1⟩)
theorem R_mk {α : Type} {d : Kd α} {e : Nat} {W W' : World} {base : Nat} {v : Value} {xs : List α} {S : Nat → Prop} (h : d.R e W base (fun _ => True) v xs) (hm : Mk S W W') (hS : ∀ k, S k → k < base) : d.R e W' base (fun _ => True) v xs :=
  Kd.R_mono (Kd.R_move (Kd.R_bound h) (fun k hk => hm.2.1.2 k hk.2.2.1 (fun hs => by have := hS k hs; omega))) (fun _ _ => trivial)
theorem under2 {B b0 : Nat} {w0 A W W' : World} {S : Nat → Prop} (h : Below B A W) (hB : B ≤ W.heap.size) (hk : Kept W W' S) (h1 : Below b0 w0 W) (h2 : Below b0 w0 W') (hS : ∀ k, S k → B ≤ k) : Below B A W' :=
  ⟨h2.os.trans (h1.os.symm.trans h.os), h2.tape.trans (h1.tape.symm.trans h.tape), h2.output.trans (h1.output.symm.trans h.output), Nat.le_trans h.size hk.1, fun k hk2 => (hk.2 k (by omega) (fun hs => by have := hS k hs; omega)).trans (h.block k hk2)⟩
theorem reads_q {W : World} {base : Nat} {ok : Nat → Prop} {Ag : Option Addr} {n cg : Nat} {q : List Po} (h : Kd.R k81 81 W base ok (.slice Ag n cg) q) : n = q.length ∧ Kd.C k81 W Ag q.length q := ⟨(Kd.R_reads' h).1, (Kd.R_reads' h).2.2⟩
theorem cells8 {x : Int} {Ax : Option Addr} {n cx : Nat} {w4 W8 w' : World} (h : W8 = w4.alloc (.cells #[.int .i64 x, .slice Ax n cx] 67)) (hb : Below W8.heap.size W8 w') : w'.cell? ⟨w4.heap.size, 0, none⟩ = some (.int .i64 x) ∧ w'.cell? ⟨w4.heap.size, 1, none⟩ = some (.slice Ax n cx) := by
  subst h
  exact ⟨(hb.cell (by simp)).trans (by simp), (hb.cell (by simp)).trans (by simp)⟩
set_option maxRecDepth 100000 in
set_option maxHeartbeats 8000000 in
theorem calls (x : Int) (A : Option Addr) (c : Nat) (l : List El) (t : ByteArray) (w : World) (hr : Kd.C k147 w A l.length l) (hc : l.length ≤ c) (hw : l.length ≤ 9223372036854775807 ∧ ∀ e ∈ l, e.f0.size ≤ 9223372036854775807 ∧ e.f1.length ≤ 9223372036854775807) (ht : t.size ≤ 9223372036854775807) :
    Calls Try.prog 14 #[.agg #[.int .i64 x, .slice A l.length c], .string t] w fun e w' => e = .returned (.bool true) ∧ Below w.heap.size w w' := by
  have HR := Aside0.mk hr
  have HC := Aside0.mk hc
  obtain ⟨W0, hW0⟩ : ∃ W0, W0 = w.alloc (.cells #[.int .i64 x, .slice A l.length c] 62) := ⟨_, rfl⟩
  have HX : Aside0 (∀ w', Below W0.heap.size W0 w' → w'.cell? ⟨w.heap.size, 0, none⟩ = some (.int .i64 x) ∧ w'.cell? ⟨w.heap.size, 1, none⟩ = some (.slice A l.length c)) := ⟨fun w' hb => by subst hW0; exact ⟨(hb.cell (by simp)).trans (by simp), (hb.cell (by simp)).trans (by simp)⟩⟩
  have HB0 : Aside0 (Below w.heap.size w W0) := ⟨by subst hW0; exact below_alloc (Below.refl w.heap.size w) _⟩
  have HSZ : Aside0 (w.heap.size ≤ W0.heap.size) := ⟨by subst hW0; simp⟩
  have HLT0 : Aside0 (w.heap.size < W0.heap.size) := ⟨by subst hW0; simp⟩
  have HCW0 : Aside0 (W0.cell? ⟨w.heap.size, 0, none⟩ = some (.int .i64 x) ∧ W0.cell? ⟨w.heap.size, 1, none⟩ = some (.slice A l.length c)) := ⟨HX.out W0 (Below.refl _ _)⟩
  by_cases hbig : t.size > 1048576
  · have hbb : decide ((1048576 : Int) < (t.size : Int)) = true := decide_eq_true (by omega)
    clear hr hc hw ht hbig
    go_enter Try.func14, Try.ntmps14
    go_wp2
    rw [← hW0]
    go_ret
    exact ⟨rfl, HB0.out⟩
  · have hbb : decide ((1048576 : Int) < (t.size : Int)) = false := decide_eq_false (by omega)
    obtain ⟨r, hev, hsm⟩ := sz_ev x l hw.1 hw.2 1048576 (by omega) (by omega)
    obtain ⟨k0, hk0⟩ := hev.ex
    have E0 := Aside0.mk hk0
    by_cases hneg : r < 0
    · have hnb : decide (r < 0) = true := decide_eq_true hneg
      clear hr hc hw ht hbig hsm hk0 hev
      go_enter Try.func14, Try.ntmps14
      go_wp2_with (first | (go_at_call 46; go_loud (rw [← hW0]; (with_reducible refine (laws_szWords.calls k0 x A c l 1048576 r _ (Kd.C_below HR.out HB0.out) HC.out E0.out).mono ?_); rintro e w1 ⟨rfl, hb⟩; have HA1 := Aside0.mk hb; clear hb; obtain ⟨hc0, hc1⟩ := HX.out w1 HA1.out)))
      go_ret
      exact ⟨rfl, below_then HB0.out HSZ.out HA1.out⟩
    · have hnb : decide (r < 0) = false := decide_eq_false hneg
      have hs := hsm (by omega)
      have hsl := map_small l hs
      obtain ⟨le, hle⟩ : ∃ le, le = l.map cvE := ⟨_, rfl⟩
      rw [← hle] at hsl
      obtain ⟨k1, hk1⟩ := (to_ev x l hs.1 (fun x hx => (hs.2 x hx).2)).ex
      rw [← hle] at hk1
      obtain ⟨k2, hk2⟩ := (spec_of x le hsl t (by omega)).ex
      have hpl := postsOf_len x le hsl t
      obtain ⟨p, hp⟩ : ∃ p, p = (postsOf x le t).1 := ⟨_, rfl⟩
      obtain ⟨b, hb⟩ : ∃ b, b = (postsOf x le t).2 := ⟨_, rfl⟩
      have hpb : postsOf x le t = (p, b) := by rw [hp, hb]
      have hk2 : spec_PostingsOf.f k2 x le t = some (p, b) := hk2.trans (by rw [hpb])
      rw [← hp] at hpl
      obtain ⟨k3, hk3⟩ := (eqP_ev p hpl).ex
      obtain ⟨k4, hk4⟩ := (EntT.eq_ev x le hsl).ex
      obtain ⟨k5, hk5⟩ := (mark_ev p hpl).ex
      obtain ⟨k6, hk6⟩ := (held_ev p.length hpl).ex
      obtain ⟨q, hq⟩ : ∃ q, q = (List.range p.length).map mk := ⟨_, rfl⟩
      rw [← hq] at hk5 hk6
      have hql : q.length = p.length := by rw [hq]; simp
      have E1 := Aside0.mk hk1
      have E2 := Aside0.mk hk2
      have E3 := Aside0.mk hk3
      have E4 := Aside0.mk hk4
      have EP := Aside0.mk hpb
      have ES := Aside0.mk hsl
      have EQ := Aside0.mk hql
      have ET : Aside0 (t.size ≤ 1048576) := ⟨by omega⟩
      obtain ⟨z, hz⟩ : ∃ z : Int, z = ((2 * p.length + 1 : Nat) : Int) := ⟨_, rfl⟩
      rw [← hz] at hk5 hk6
      have E5 := Aside0.mk hk5
      have E6 := Aside0.mk hk6
      have hzb : decide (z < 0) = false := decide_eq_false (by omega)
      clear hz
      clear hr hc hw ht hbig hsm hk0 hev hs hsl hle hk1 hk2 hpl hp hb hpb hk3 hk4 hk5 hk6 hq hql hneg
      go_enter Try.func14, Try.ntmps14
      go_upto_region 8 with (first | (go_at_call 46; go_loud (rw [← hW0]; (with_reducible refine (laws_szWords.calls k0 x A c l 1048576 r _ (Kd.C_below HR.out HB0.out) HC.out E0.out).mono ?_); rintro e w1 ⟨rfl, hb⟩; have HA1 := Aside0.mk hb; clear hb; obtain ⟨hc0, hc1⟩ := HX.out w1 HA1.out)) | (go_at_call 48; go_loud ((with_reducible refine (laws_toWords.calls k1 x A c l x le _ (Kd.C_below HR.out (below_then HB0.out HSZ.out HA1.out)) HC.out E1.out).mono ?_); rintro e w2 ⟨v2, rfl, ho, hb⟩; have HA2 := Aside0.mk (below_step HA1.out hb); obtain ⟨A2, c2, rfl, hl2, hC2⟩ := Kd.S_reads ho; have HC2 := Aside0.mk hC2; have HL2 := Aside0.mk hl2; clear ho hb hC2 hl2 hc0 hc1; obtain ⟨hc0, hc1⟩ := HX.out w2 HA2.out)) | (go_at_call 53; go_loud ((with_reducible refine (spec_PostingsOf.calls k2 x A2 c2 le t p b _ HC2.out HL2.out E2.out).mono ?_); rintro e w3 ⟨v3, rfl, ho, hb⟩; have HA3 := Aside0.mk (below_step HA2.out hb); obtain ⟨As, cs, rfl, hls, hCs⟩ := Kd.R_reads ho; have HCS := Aside0.mk hCs; have HLS := Aside0.mk hls; clear ho hb hCs hls hc0 hc1; obtain ⟨hc0, hc1⟩ := HX.out w3 HA3.out)))
      go_upto_region 12 with (first | (go_at_call 48; go_loud ((with_reducible refine (laws_toWords.calls k1 x A c l x le _ (Kd.C_below HR.out (below_then HB0.out HSZ.out HA3.out)) HC.out E1.out).mono ?_); rintro e w4 ⟨v4, rfl, ho, hb⟩; have HA4 := Aside0.mk (below_step HA3.out hb); have HS4 := Aside0.mk hb; obtain ⟨Ax, cx, rfl, hlx, hCx⟩ := Kd.S_reads ho; have HLX := Aside0.mk hlx; have HX4 := Aside0.mk (R_in (Kd.S_R ho)); obtain ⟨W8, hW8⟩ : ∃ W8, W8 = (w4.alloc (.cells #[.int .i64 x, .slice Ax le.length cx] 67)) := ⟨_, rfl⟩; have HXC : Aside0 (∀ w', Below W8.heap.size W8 w' → w'.cell? ⟨w4.heap.size, 0, none⟩ = some (.int .i64 x) ∧ w'.cell? ⟨w4.heap.size, 1, none⟩ = some (.slice Ax le.length cx)) := ⟨fun w' hb => cells8 hW8 hb⟩; have HA48 : Aside0 (Below w4.heap.size w4 W8) := ⟨hW8 ▸ below_alloc (Below.refl _ _) _⟩; have HAW := Aside0.mk (below_step HA4.out HA48.out); have HSW := Aside0.mk (below_step HS4.out HA48.out); have HXW := Aside0.mk (Kd.R_below HX4.out HA48.out); clear ho hb hCx hlx hc0 hc1)) | (go_at_call 54; go_loud (rw [← hW8]; have hcal := PostW.calls x Ax cx le t W8 (Kd.R_reads' HXW.out).2.2 HLX.out ES.out ET.out; rw [EP.out] at hcal; (with_reducible refine (hcal).mono ?_); rintro e w5 ⟨vg, rfl, ho, hb⟩; have HG5 := Aside0.mk ho; have H85 := Aside0.mk hb; have HA5 := Aside0.mk (below_step HAW.out hb); have HS5 := Aside0.mk (below_step HSW.out hb); have HX5 := Aside0.mk (Kd.R_below HXW.out hb); obtain ⟨Ag, cg, rfl, hlg, hCg⟩ := Kd.R_reads ho; have HLG := Aside0.mk hlg; clear ho hb hCg hlg hcal)) | (go_at_call 23; go_loud ((with_reducible refine (laws_eqPostingS.calls k3 Ag cg p As cs p true _ (Kd.R_reads' HG5.out).2.2 HLG.out (Kd.C_below HCS.out HS5.out) HLS.out E3.out).mono ?_); rintro e w6 ⟨rfl, hb⟩; have HA6 := Aside0.mk (below_step HA5.out hb); have HS6 := Aside0.mk (below_step HS5.out hb); have H86 := Aside0.mk (below_step H85.out hb); have HX6 := Aside0.mk (Kd.R_below HX5.out hb); have HG6 := Aside0.mk (Kd.R_below HG5.out hb); clear hb)))
      refine start_ (n := 5) (S := fun w' => w'.cell? ⟨w4.heap.size, 0, none⟩ = some (.int .i64 x) ∧ w'.cell? ⟨w4.heap.size, 1, none⟩ = some (.slice Ax le.length cx) ∧ w'.cell? ⟨w.heap.size, 0, none⟩ = some (.int .i64 x) ∧ w'.cell? ⟨w.heap.size, 1, none⟩ = some (.slice A l.length c)) (ds := []) #[false, false, false, false, false] (by kernel_rfl) rfl rfl ⟨(HXC.out w6.drew H86.out.drew).1, (HXC.out w6.drew H86.out.drew).2, (HX.out w6.drew HA6.out.drew).1, (HX.out w6.drew HA6.out.drew).2⟩ (fun hHeld => ?_)
      refine take_ (i := 0) (N := some 48) (v := ?_) (a' := ?_) #[true, false, false, false, false] rfl rfl (by kernel_rfl) (fun _ _ _ h => h) (Or.inl ⟨by rfl, ?_⟩) hHeld ?_ ?_
      rotate_left
      · rintro w' ⟨s0, s1, s2, s3⟩
        go_simp
        with_reducible rfl
      rotate_left
      · simp only [Act.put, List.setIfInBounds_toArray, List.set_cons_zero, List.set_cons_succ, i64_w, i32_w]
        rfl
      refine take_ (i := 1) (N := some 49) (v := ?_) (a' := ?_) #[true, true, false, false, false] rfl rfl (by kernel_rfl) (fun _ _ _ h => h) (Or.inl ⟨by rfl, ?_⟩) hHeld ?_ ?_
      rotate_left
      · rintro w' ⟨s0, s1, s2, s3⟩
        go_simp
        with_reducible rfl
      rotate_left
      · simp only [Act.put, List.setIfInBounds_toArray, List.set_cons_zero, List.set_cons_succ, i64_w, i32_w]
        rfl
      refine one_ (i := 2) (N := some 50) #[true, true, true, false, false] rfl rfl (by kernel_rfl) (by decide) (fun K hK => ?_)
      refine goes_ Try.func48 (by kernel_rfl) rfl #[.agg #[.int .i64 x, .slice A l.length c]] (by rfl) rfl rfl (by simp only [List.map_toArray, List.map_cons, List.map_nil]; rfl) ?_
      with_reducible refine (laws_toWords.calls k1 x A c l x le _ (Kd.C_below HR.out (below_then HB0.out HSZ.out HA6.out.drew)) HC.out E1.out).mono ?_
      rintro e w7 ⟨v7, rfl, ho, hb⟩
      refine ⟨_, rfl, ?_⟩
      have HA7 := Aside0.mk (below_step HA6.out.drew hb)
      have H87 := Aside0.mk (below_step H86.out.drew hb)
      have HS7 := Aside0.mk (below_step HS6.out.drew hb)
      have HG7 := Aside0.mk (Kd.R_below (Kd.R_drew HG6.out) hb)
      have HX7 := Aside0.mk (Kd.R_below (Kd.R_drew HX6.out) hb)
      obtain ⟨A7, c7, rfl, hl7, hC7⟩ := Kd.S_reads ho
      have HC7 := Aside0.mk hC7
      have HL7 := Aside0.mk hl7
      clear ho hb hC7 hl7
      refine hK.out _ _ ⟨(HXC.out w7 H87.out).1, (HXC.out w7 H87.out).2, (HX.out w7 HA7.out).1, (HX.out w7 HA7.out).2⟩ (fun hHeld => ?_)
      clear hK K
      refine norm_ (a' := ?_) ?_ ?_
      rotate_left
      · show Act.put _ (some 50) _ = _
        simp only [Act.put, List.setIfInBounds_toArray, List.set_cons_zero, List.set_cons_succ, i64_w, i32_w]
        rfl
      refine one_ (i := 3) (N := some 51) #[true, true, true, true, false] rfl rfl (by kernel_rfl) (by decide) (fun K hK => ?_)
      refine goes_ Try.func50 (by kernel_rfl) rfl #[.agg #[.int .i64 x, .slice Ax le.length cx], .agg #[.int .i64 x, .slice A7 le.length c7]] (by rfl) rfl rfl (by simp only [List.map_toArray, List.map_cons, List.map_nil]; rfl) ?_
      with_reducible refine (laws_eqWords.calls k4 x Ax cx le x A7 c7 le true _ (Kd.R_reads' HX7.out).2.2 HLX.out HC7.out HL7.out E4.out).mono ?_
      rintro e w8 ⟨rfl, hb⟩
      refine ⟨_, rfl, ?_⟩
      have HA8 := Aside0.mk (below_step HA7.out hb)
      have H88 := Aside0.mk (below_step H87.out hb)
      have HS8 := Aside0.mk (below_step HS7.out hb)
      have HG8 := Aside0.mk (Kd.R_below HG7.out hb)
      have HX8 := Aside0.mk (Kd.R_below HX7.out hb)
      clear hb
      refine hK.out _ _ ⟨(HXC.out w8 H88.out).1, (HXC.out w8 H88.out).2, (HX.out w8 HA8.out).1, (HX.out w8 HA8.out).2⟩ (fun hHeld => ?_)
      clear hK K
      refine norm_ (a' := ?_) ?_ ?_
      rotate_left
      · show Act.put _ (some 51) _ = _
        simp only [Act.put, List.setIfInBounds_toArray, List.set_cons_zero, List.set_cons_succ, i64_w, i32_w]
        rfl
      refine pure_ (i := 4) (N := some 52) (v := ?_) (a' := ?_) #[true, true, true, true, true] rfl rfl (by kernel_rfl) (fun _ _ _ h => h) (Or.inl ⟨by rfl, ?_⟩) ?_ ?_
      rotate_left
      · intro w'
        go_simp
        with_reducible rfl
      rotate_left
      · simp only [Act.put, List.setIfInBounds_toArray, List.set_cons_zero, List.set_cons_succ, i64_w, i32_w]
        rfl
      refine done_ (by kernel_rfl) ?_
      obtain ⟨hd0, hd1⟩ := HXC.out w8 H88.out
      go_upto_region 26 with (first | (go_at_call 55; go_loud (have hcal := MkE.mkW_calls w3.heap.size _ x _ le 1 w8 HX8.out ES.out (by decide); rw [show ((1 : Nat) : Int) = 1 from rfl] at hcal; (with_reducible refine (hcal).mono ?_); rintro e w9 ⟨⟨r9, hr9, rfl⟩, hm⟩; have HA9 := Aside0.mk (hm.under HA8.out (below_size HA8.out) (fun k hk => Nat.le_trans (below_size HA3.out) hk.1)); have HS9 := Aside0.mk (hm.under HS8.out (below_size HS8.out) (fun k hk => hk.1)); have HG9 := Aside0.mk (R_mk HG8.out hm (fun k hk => Nat.lt_of_lt_of_le hk.2 (below_size HA48.out))); have hr9b : decide (r9 < 0) = false := decide_eq_false (by omega); clear hm hr9 hcal hd0 hd1)) | (go_at_call 23; go_loud ((with_reducible refine (laws_eqPostingS.calls k3 Ag cg p As cs p true _ (Kd.R_reads' HG9.out).2.2 HLG.out (Kd.C_below HCS.out HS9.out) HLS.out E3.out).mono ?_); rintro e w10 ⟨rfl, hb⟩; have HA10 := Aside0.mk (below_step HA9.out hb); have HS10 := Aside0.mk (below_step HS9.out hb); have HG10 := Aside0.mk (Kd.R_below HG9.out hb); clear hb)) | (go_at_call 36; go_loud ((with_reducible refine (laws_markPostingS.calls k5 (fun k_ => some k_ = (Value.slice Ag p.length cg).ownBlock) (.slice Ag p.length cg) p 1 z q w _ (below_then HB0.out HSZ.out HA10.out) (Kd.R_tight rfl (Kd.R_lower HG10.out (Nat.le_trans HSZ.out (below_size HAW.out)))) E5.out).mono ?_); rintro e w11 ⟨rfl, hy, hb, hkp⟩; have HA11 := Aside0.mk (under2 HA10.out (below_size HA10.out) hkp (below_then HB0.out HSZ.out HA10.out) hb (fun k hk => Nat.le_trans (below_size HAW.out) (Kd.R_base HG10.out k hk.symm))); have HS11 := Aside0.mk (under2 HS10.out (below_size HS10.out) hkp (below_then HB0.out HSZ.out HA10.out) hb (fun k hk => Nat.le_trans (below_size HSW.out) (Kd.R_base HG10.out k hk.symm))); have HQ11 := Aside0.mk (Kd.R_mono (ok' := fun _ => True) hy (fun _ _ => trivial)); clear hy hb hkp)) | (go_at_call 37; go_loud (have hcal := laws_heldPostingS.calls k6 Ag cg q 1 z w11 (reads_q HQ11.out).2 (by rw [EQ.out]; exact HLG.out) E6.out; rw [EQ.out] at hcal; (with_reducible refine (hcal).mono ?_); rintro e w12 ⟨rfl, hd⟩; have HA12 := Aside0.mk (below_step HA11.out hd.below); have HS12 := Aside0.mk (below_step HS11.out hd.below); have HQ12 := Aside0.mk (Kd.R_below HQ11.out hd.below); clear hd hcal)))
      obtain ⟨hc0, hc1⟩ := HX.out w12 HA12.out
      go_wp2_with (first | (go_at_call 48; go_loud ((with_reducible refine (laws_toWords.calls k1 x A c l x le _ (Kd.C_below HR.out (below_then HB0.out HSZ.out HA12.out)) HC.out E1.out).mono ?_); rintro e w13 ⟨v13, rfl, ho, hb⟩; have HA13 := Aside0.mk (below_step HA12.out hb); have HS13 := Aside0.mk (below_step HS12.out hb); have HQ13 := Aside0.mk (Kd.R_below HQ12.out hb); obtain ⟨A13, c13, rfl, hl13, hC13⟩ := Kd.S_reads ho; have HC13 := Aside0.mk hC13; have HL13 := Aside0.mk hl13; clear ho hb hC13 hl13 hc0 hc1)) | (go_at_call 54; go_loud (have hcal := PostW.calls x A13 c13 le t w13 HC13.out HL13.out ES.out ET.out; rw [EP.out] at hcal; (with_reducible refine (hcal).mono ?_); rintro e w14 ⟨vh, rfl, ho, hb⟩; have HA14 := Aside0.mk (below_step HA13.out hb); have HS14 := Aside0.mk (below_step HS13.out hb); have HQ14 := Aside0.mk (Kd.R_below HQ13.out hb); obtain ⟨Ah, ch, rfl, hlh, hCh⟩ := Kd.R_reads ho; have HCH := Aside0.mk hCh; have HLH := Aside0.mk hlh; clear ho hb hCh hlh hcal)) | (go_at_call 23; go_loud ((with_reducible refine (laws_eqPostingS.calls k3 Ah ch p As cs p true _ HCH.out HLH.out (Kd.C_below HCS.out HS14.out) HLS.out E3.out).mono ?_); rintro e w15 ⟨rfl, hb⟩; have HA15 := Aside0.mk (below_step HA14.out hb); have HS15 := Aside0.mk (below_step HS14.out hb); have HQ15 := Aside0.mk (Kd.R_below HQ14.out hb); clear hb)) | (go_at_call 37; go_loud (have hcal := laws_heldPostingS.calls k6 Ag cg q 1 z w15 (reads_q HQ15.out).2 (by rw [EQ.out]; exact HLG.out) E6.out; rw [EQ.out] at hcal; (with_reducible refine (hcal).mono ?_); rintro e w16 ⟨rfl, hd⟩; have HA16 := Aside0.mk (below_step HA15.out hd.below); clear hd hcal)))
      go_ret
      exact ⟨rfl, below_then HB0.out HSZ.out HA16.out⟩
end Go.Proofs.Ytilgcfhnpnokpaa.LwPo
end

section
-- Written by a program of this session (pprint.py) out of the translation's print; Lean checks it.
namespace Go.Proofs.Ytilgcfhnpnokpaa.PQ
open Go.RowKit Go.Proofs.YtilgcfhnpnokpaaW.PrintWords Go.Proofs.YtilgcfhnpnokpaaW.PrintLast Go.Proofs.YtilgcfhnpnokpaaW.PrintMore
attribute [local go_sem] max2_int min2_int max_two min_two max_three min_three max_four min_four   -- for this text's walks alone
set_option linter.unusedVariables false
set_option linter.unusedSimpArgs false

--OWNPART laws_FnExactPostingsOf
/-! ### laws_FnExactPostingsOf: function 14, by hand -/
--IMPORT LwPo
def laws_FnExactPostingsOf.Pure : Prop := True
theorem laws_FnExactPostingsOf.walk (P : laws_FnExactPostingsOf.Pure) (a0_0 : Int) (A0_1 : Option Addr) (c0_1 : Nat) (l0_1 : List (S147)) (a1 : ByteArray) (w : World) (w0_0 : (Lit.int .i64 a0_0).wf = true) (hr0_1 : Kd.C k147 w A0_1 l0_1.length l0_1) (hc0_1 : l0_1.length ≤ c0_1) (w0_1 : (l0_1.length ≤ maxLen ∧ ∀ x_ ∈ l0_1, (x_.f0.size ≤ maxLen ∧ (x_.f1.length ≤ maxLen ∧ ∀ xx_ ∈ x_.f1, ((Lit.int .i64 xx_.f0).wf = true ∧ (Lit.int .i64 xx_.f1).wf = true))))) (w1 : a1.size ≤ maxLen) :
    Calls Try.prog 14 #[.agg #[.int .i64 a0_0, .slice A0_1 l0_1.length c0_1], .string a1] w fun e w' => e = .returned (.bool true) ∧ Below w.heap.size w w' :=
  LwPo.calls a0_0 A0_1 c0_1 l0_1 a1 w hr0_1 hc0_1 ⟨w0_1.1, fun e he => ⟨(w0_1.2 e he).1, (w0_1.2 e he).2.1⟩⟩ w1

end Go.Proofs.Ytilgcfhnpnokpaa.PQ
end

section
/- The law FnExactPostingsOf: nothing is left beside its walk. No conditions. -/
namespace Go.Proofs.Ytilgcfhnpnokpaa.Pure
open Go.Proofs.Ytilgcfhnpnokpaa.PQ
theorem FnExactPostingsOf : laws_FnExactPostingsOf.Pure := trivial
end Go.Proofs.Ytilgcfhnpnokpaa.Pure
end

/- Several texts in one: what the claim's last text rests on. No conditions. -/
import Derived.Test.YtaomjndfjmfelaaMWo13
import Derived.Lib.BufferMore
import Derived.Test.YtaomjndfjmfelaaMWo5
import Derived.Test.YtaomjndfjmfelaaMWo12
import Derived.Test.YtaomjndfjmfelaaMWo10
import Derived.Test.YtaomjndfjmfelaaMWo9
import Derived.Test.YtaomjndfjmfelaaMWo3
import Derived.Test.YtaomjndfjmfelaaMWo6
section
namespace Go.Proofs.Ytaomjndfjmfelaa.PostW
set_option linter.unusedVariables false
set_option linter.unusedSimpArgs false
open Go.RowKit Go.Proofs.Ytaomjndfjmfelaa.PQ Go.Proofs.YtaomjndfjmfelaaW.PrintWords Go.Proofs.YtaomjndfjmfelaaW.PrintLast Go.Proofs.YtaomjndfjmfelaaW.PrintMore Go.Proofs.Ytaomjndfjmfelaa.Pre Go.Proofs.Ytaomjndfjmfelaa.Posts Go.Proofs.Ytaomjndfjmfelaa.GoodW Go.Proofs.Ytaomjndfjmfelaa.CmpL Go.Proofs.Ytaomjndfjmfelaa.EntW
theorem entryOf_calls (A : Option Addr) (c : Nat) (l : List En) (t : ByteArray) (w : World) (hr : Kd.C k102 w A l.length l) (hc : l.length ≤ c) (hl : l.length ≤ 1048576) (hs : Rise l) :
  Calls Try.prog 81 #[.slice A l.length c, .string t] w fun e w' => ∃ i : Nat, At l t i ∧ e = .returned (.tuple #[.int .i64 (i : Int), .bool (isAt l t i)]) ∧ Below w.heap.size w w' := by
 have HC := aM (search_calls A c l t w hr hc hl hs)
 clear hr hc hl hs
 go_enter Try.func81, Try.ntmps81
 go_wp2_with (first | (go_at_call 127; go_loud ((with_reducible refine HC.out.mono ?_); rintro e w2 ⟨i, HA, rfl, hb⟩; have HA2 := aM HA; have HB2 := aM hb; clear HA hb)))
 go_ret2
 exact ⟨i, HA2.out, rfl, HB2.out⟩
/-- The postings of a word. -/
def posts (l : List En) (t : ByteArray) : List Po := match l.find? (fun e => decide (e.f0 = t)) with | some e => e.f1 | none => []
theorem at_yes (l : List En) (hs : Rise l) (t : ByteArray) (i : Nat) (h : i < l.length) (he : l[i].f0 = t) : posts l t = l[i].f1 := by
 have hf : l.find? (fun e => decide (e.f0 = t)) = some l[i] := by
  rw [List.find?_eq_some_iff_getElem]
  refine ⟨decide_eq_true he, i, h, rfl, fun j hj => ?_⟩
  have hlt := hs j i h hj
  have hne : ¬ l[j].f0 = t := fun e2 => by
   rw [e2, he, ltS_irrefl] at hlt
   cases hlt
  simpa using hne
 unfold posts
 rw [hf]
theorem at_no (l : List En) (hs : Rise l) (t : ByteArray) (i : Nat) (hA : At l t i) (he : isAt l t i = false) : posts l t = [] := by
 have hf : l.find? (fun e => decide (e.f0 = t)) = none := by
  rw [List.find?_eq_none]
  intro x hx
  obtain ⟨j, hj, rfl⟩ := List.getElem_of_mem hx
  intro e
  have e := of_decide_eq_true e
  rcases Nat.lt_trichotomy j i with h | h | h
  ·have := hA.2.1 j hj h
   rw [e, ltS_irrefl] at this
   cases this
  ·subst h
   exact of_decide_eq_false he ⟨hj, e⟩
  ·have h1 := hA.2.2 i (by omega) (Nat.le_refl _)
   have h2 := hs i j hj h
   rw [e] at h2
   rw [h1] at h2
   cases h2
 unfold posts
 rw [hf]
set_option maxRecDepth 100000 in
set_option maxHeartbeats 1000000 in
theorem postings_at (w0 : World) (A : Option Addr) (c : Nat) (l : List En) (t : ByteArray) (w : World) (b : Nat) (hcl : ∀ w', Below w.heap.size w w' → w'.cell? ⟨b, 1, none⟩ = some (.slice A l.length c)) (hw0 : Below w0.heap.size w0 w) (hr : Kd.C k102 w0 A l.length l) (hc : l.length ≤ c) (hl : l.length ≤ 1048576) (hs : Rise l) (hne : ∀ e ∈ l, 0 < e.f1.length) :
  Calls Try.prog 93 #[.pointer (some ⟨b, 0, none⟩), .string t] w fun e w' => ∃ A' c', e = .returned (.slice A' (posts l t).length c') ∧ (posts l t).length ≤ c' ∧ Kd.C k56 w0 A' (posts l t).length (posts l t) ∧ ((A' = none ∧ c' = 0) ∨ 0 < (posts l t).length) ∧ Below w.heap.size w w' := by
 have HCL := aM hcl
 have HR := aM hr
 have HW0 := aM hw0
 have HC := aM hc
 have HL := aM hl
 have HS := aM hs
 have h0 := hcl w (Below.refl _ _)
 clear hcl hr hc hl hs hw0
 go_enter Try.func93, Try.ntmps93
 go_upto_region 2 with (first | (go_at_call 81; go_loud ((with_reducible refine (entryOf_calls A c l t _ (Kd.C_below HR.out HW0.out) HC.out HL.out HS.out).mono ?_); rintro e w2 ⟨i, HA, rfl, hb⟩; have HA2 := aM HA; have HB2 := aM hb; have h1 := HCL.out w2 HB2.out; clear HA hb)))
 by_cases hy : isAt l t i = true
 ·have hi : i < l.length := (of_decide_eq_true hy).1
  have he : l[i].f0 = t := (of_decide_eq_true hy).2
  have p1 : (0 : Int) ≤ (i : Int) := by omega
  have q1 : (i : Int) < (l.length : Int) := by omega
  obtain ⟨ad, A1, c1, rfl, hx0, hx1, hl1, hC1⟩ := at_T102 HR.out (i : Int) p1 q1
  replace hx1 := ((below_step HW0.out HB2.out).cell (World.block_lt_of_cell? w0 _ hx1)).trans hx1
  rw [Int.toNat_natCast] at hx1
  rw [rd_en l i hi] at hx1 hl1 hC1
  obtain ⟨x, hxe⟩ : ∃ x, x = l[i] := ⟨_, rfl⟩
  rw [← hxe] at hx1 hl1 hC1
  have HP := aM ((at_yes l HS.out t i hi he).trans (by rw [hxe] : l[i].f1 = x.f1))
  have HNE := aM (hne x (by rw [hxe]; exact List.getElem_mem hi))
  have HC1 := aM hC1
  have HL1 := aM hl1
  clear hx0 hl1 hC1 he hxe hi
  replace p1 := eq_true p1
  replace q1 := eq_true q1
  go_wp2
  go_ret
  rw [HP.out]
  exact ⟨A1, c1, rfl, HL1.out, HC1.out, .inr HNE.out, HB2.out⟩
 ·have hy := Bool.eq_false_iff.2 hy
  have HP := aM (at_no l HS.out t i HA2.out hy)
  go_wp2
  go_ret
  rw [HP.out]
  exact ⟨none, 0, rfl, Nat.zero_le _, Kd.C_nil _ _, .inl ⟨rfl, rfl⟩, HB2.out⟩
theorem postings_calls (A : Option Addr) (c : Nat) (l : List En) (t : ByteArray) (w : World) (b : Nat) (hcl : ∀ w', Below w.heap.size w w' → w'.cell? ⟨b, 1, none⟩ = some (.slice A l.length c)) (hr : Kd.C k102 w A l.length l) (hc : l.length ≤ c) (hl : l.length ≤ 1048576) (hs : Rise l) (hne : ∀ e ∈ l, 0 < e.f1.length) :
  Calls Try.prog 93 #[.pointer (some ⟨b, 0, none⟩), .string t] w fun e w' => ∃ A' c', e = .returned (.slice A' (posts l t).length c') ∧ (posts l t).length ≤ c' ∧ Kd.C k56 w A' (posts l t).length (posts l t) ∧ ((A' = none ∧ c' = 0) ∨ 0 < (posts l t).length) ∧ Below w.heap.size w w' :=
 postings_at w A c l t w b hcl (Below.refl _ _) hr hc hl hs hne
/-- The cells of postings. -/
def flatP (l : List Po) : List Value := l.flatMap (fun x => [.int .i64 x.f0, .int .i64 x.f1])
theorem flatP_len (l : List Po) : (flatP l).length = l.length * 2 := by
 unfold flatP
 induction l with
 | nil => rfl
 | cons a l ih =>
  rw [List.flatMap_cons, List.length_append, ih, List.length_cons]
  simp
  omega
theorem flatP_at (l : List Po) : ∀ (j : Nat) (u : Value), (flatP l)[j]? = some u → ∃ (h : j / 2 < l.length), u = if j % 2 = 0 then .int .i64 (l[j / 2]).f0 else .int .i64 (l[j / 2]).f1 := by
 induction l with
 | nil => intro j u h; simp [flatP] at h
 | cons a l ih =>
  intro j u h
  have e : flatP (a :: l) = [.int .i64 a.f0, .int .i64 a.f1] ++ flatP l := by unfold flatP; rw [List.flatMap_cons]
  rw [e] at h
  match j with
  | 0 => exact ⟨by simp, by simpa using h.symm⟩
  | 1 => exact ⟨by simp, by simpa using h.symm⟩
  | j + 2 =>
   have h2 : (flatP l)[j]? = some u := by simpa using h
   obtain ⟨h3, h4⟩ := ih j u h2
   have e1 : (j + 2) / 2 = j / 2 + 1 := by omega
   have e2 : (j + 2) % 2 = j % 2 := by omega
   refine ⟨by rw [e1, List.length_cons]; omega, ?_⟩
   rw [h4, e2]
   simp only [e1, List.getElem_cons_succ]
theorem flatP_reps (w : World) (base : Nat) (ok : Nat → Prop) (l : List Po) : Reps (k56.M w base ok) 2 l (flatP l) := by
 refine ⟨flatP_len l, fun j p hp => ?_⟩
 have key : ∀ (l : List Po) (j : Nat), l[j]? = some p → ((flatP l).drop (j * 2)).take 2 = [.int .i64 p.f0, .int .i64 p.f1] := by
  intro l
  induction l with
  | nil => intro j h; simp at h
  | cons a l ih =>
   intro j h
   have e : flatP (a :: l) = [.int .i64 a.f0, .int .i64 a.f1] ++ flatP l := by unfold flatP; rw [List.flatMap_cons]
   match j with
   | 0 =>
    have : a = p := by simpa using h
    subst this
    rw [e]
    simp
   | j + 1 =>
    rw [e, show (j + 1) * 2 = j * 2 + 2 by omega]
    simpa using ih j (by simpa using h)
 rw [key l j hp]
 exact k56_mkM w base ok p
theorem flatP_cells {w : World} {ad : Addr} {l : List Po} (h : Kd.C k56 w (some ad) l.length l) : ∀ j u, (flatP l)[j]? = some u → w.cell? (ad.add j) = some u := by
 intro j u hj
 obtain ⟨h1, rfl⟩ := flatP_at l j u hj
 obtain ⟨ad2, e, hx0, hx1⟩ := at_T56 h ((j / 2 : Nat) : Int) (by omega) (by omega)
 obtain rfl := Option.some.inj e
 rw [Int.toNat_natCast, rd_get l _ h1] at hx0 hx1
 by_cases h0 : j % 2 = 0
 ·rw [if_pos h0]
  rw [show j / 2 * 2 = j by omega] at hx0
  exact hx0
 ·rw [if_neg h0]
  rw [← add_field _ _ 1 (by omega), show j / 2 * 2 + 1 = j by omega] at hx1
  exact hx1
theorem one_flat (l : List Po) (u : Value) (hu : u ∈ flatP l) : u.oneCell' = true := by
 unfold flatP at hu
 rw [List.mem_flatMap] at hu
 obtain ⟨x, _, hx⟩ := hu
 simp at hx
 rcases hx with rfl | rfl <;> rfl
set_option maxRecDepth 100000 in
set_option maxHeartbeats 1000000 in
theorem clone_calls (A : Option Addr) (c : Nat) (l : List Po) (w : World) (hr : Kd.C k56 w A l.length l) (hc : l.length ≤ c) (hl : l.length ≤ 1048576) (hn : (A = none ∧ c = 0) ∨ 0 < l.length) :
  Calls Try.prog 92 #[.slice A l.length c] w fun e w' => ∃ v0_ : Value, e = .returned v0_ ∧ Kd.R k56 56 w' w.heap.size (fun _ => True) v0_ l ∧ Below w.heap.size w w' := by
 rcases hn with ⟨rfl, rfl⟩ | hn
 ·have e0 : l = [] := List.eq_nil_of_length_eq_zero (by omega)
  subst e0
  have hE := Lib.run_eql_slice_nil_nil (P := Try.prog) w 0 0 Try.underlying52
  go_enter Try.func92, Try.ntmps92
  go_wp2
  go_ret
  exact ⟨_, rfl, Kd.R_nil _ _ _ _ _, Below.refl _ _⟩
 ·obtain ⟨ad, hA⟩ : ∃ ad, A = some ad := by
   obtain ⟨ad, e, _⟩ := at_T56 hr 0 (by omega) (by omega)
   exact ⟨ad, e⟩
  subst hA
  have HF := aM (flatP_cells hr)
  have HL := aM hl
  have HN := aM hn
  have HBA := aM (below_alloc (Below.refl w.heap.size w) (.cells #[] 56))
  clear hr hc hl hn
  go_enter Try.func92, Try.ntmps92
  have hE := Lib.run_eql_slice_some_nil (P := Try.prog) w ad l.length c Try.underlying52
  obtain ⟨i0, hi0, hz0, hs0, hb0⟩ : ∃ i, Try.prog.info? 56 = some i ∧ i.zero = some (.agg #[.int .i64 0, .int .i64 0]) ∧ i.size = 2 ∧ i.bytes = 16 := by
   have h := info56
   cases hq : Try.prog.info? 56 with
   | none => rw [hq] at h; simp at h
   | some i => rw [hq] at h; simp at h; exact ⟨i, rfl, h.1, h.2.1, h.2.2⟩
  go_wp2_with (first | (at_builtin; go_loud (refine wpList_append_grows (P := Try.prog) _ rfl (.tmp 5) (.tmp 6) 52 rfl 56 i0 (.agg #[.int .i64 0, .int .i64 0]) 2 16 Try.underlying52 hi0 hz0 hs0 hb0 rfl (by decide) (some ⟨w.heap.size, 0, none⟩) 0 0 [] rfl (fun h => by cases h) rfl (fun b _ j u hj => by simp at hj) ad l.length c (flatP l) rfl (flatP_len l) (fun j u hj => ?hC) (fun u hu => ?h1) (by have := HN.out; omega) (by have := HL.out; unfold maxLen; omega) (by have := HL.out; omega) ?_; (case hC => exact (HBA.out.cell (World.block_lt_of_cell? w _ (HF.out j u hj))).trans (HF.out j u hj)); (case h1 => exact one_flat l u hu); intro v' w' ho hg; rw [Nat.zero_add, List.nil_append] at ho; have HO := aM ho; have HG := aM hg; clear ho hg)))
  go_ret
  refine ⟨v', rfl, ⟨fun _ _ => trivial, flatP l, own_weaken HO.out (by simp), flatP_reps _ _ _ l⟩, HBA.out.grown HG.out (by simp) (fun k hk => by cases hk)⟩
theorem rise_of_good {x : Int} {l : List En} (h : goodW x l = true) : Rise l := by
 have hadj : ∀ i (hi : i + 1 < l.length), ltS (l[i]'(by omega)).f0 l[i + 1].f0 = true := by
  intro i hi
  unfold goodW at h
  rw [Bool.and_eq_true, List.all_eq_true] at h
  have he := h.2 (i + 1) (by rw [List.mem_range'_1]; omega)
  unfold entOK at he
  simp only [Bool.and_eq_true, Bool.or_eq_true] at he
  obtain ⟨⟨⟨_, h1⟩, _⟩, _⟩ := he
  rcases h1 with h1 | h1
  ·exact absurd (of_decide_eq_true h1) (by omega)
  ·rw [show (((i + 1 : Nat) : Int) - 1) = (i : Int) by omega, rd_en l i (by omega), rd_en l (i + 1) hi] at h1
   exact h1
 intro i j hj hij
 induction j with
 | zero => omega
 | succ j ih =>
  rcases Nat.lt_or_ge i j with h1 | h1
  ·exact ltS_trans (ih (by omega) h1) (hadj j hj)
  ·obtain rfl : i = j := by omega
   exact hadj i hj
theorem ne_of_good {x : Int} {l : List En} (h : goodW x l = true) : ∀ e ∈ l, 0 < e.f1.length := by
 intro e hm
 obtain ⟨i, hi, rfl⟩ := List.getElem_of_mem hm
 unfold goodW at h
 rw [Bool.and_eq_true, List.all_eq_true] at h
 have he := h.2 i (by rw [List.mem_range'_1]; omega)
 unfold entOK at he
 simp only [Bool.and_eq_true, rd_en l i hi] at he
 obtain ⟨⟨_, h1⟩, _⟩ := he
 have h2 : ¬ l[i].f1.length = 0 := by simpa using h1
 omega
theorem small_posts {l : List En} (h : Small l) (t : ByteArray) : (posts l t).length ≤ 1048576 := by
 unfold posts
 cases hf : l.find? (fun e => decide (e.f0 = t)) with
 | none => simp
 | some e => exact (h.2 e (List.mem_of_find?_eq_some hf)).2
end Go.Proofs.Ytaomjndfjmfelaa.PostW
end

section
namespace Go.Proofs.Ytaomjndfjmfelaa.Cou
set_option linter.unusedVariables false
set_option linter.unusedSimpArgs false
open Go.RowKit Go.Proofs.Ytaomjndfjmfelaa.PQ Go.Proofs.YtaomjndfjmfelaaW.PrintWords Go.Proofs.YtaomjndfjmfelaaW.PrintLast Go.Proofs.YtaomjndfjmfelaaW.PrintMore Go.Proofs.Ytaomjndfjmfelaa.Pre Go.Proofs.Ytaomjndfjmfelaa.EntW Go.Proofs.Ytaomjndfjmfelaa.Posts Go.Proofs.Ytaomjndfjmfelaa.GoodW Go.Proofs.Ytaomjndfjmfelaa.PostW Go.Proofs.Ytaomjndfjmfelaa.Raw Go.Proofs.Ytaomjndfjmfelaa.CmpL
/-- Where a word stands among entries, or would. -/
def idx (l : List En) (t : ByteArray) : Nat := (l.takeWhile (fun e => ltS e.f0 t)).length
theorem idx_at (t : ByteArray) : ∀ (l : List En) (k : Nat), k ≤ l.length → (∀ j (h : j < l.length), j < k → ltS l[j].f0 t = true) → (∀ h : k < l.length, ltS l[k].f0 t = false) → idx l t = k
 | [], k, hk, _, _ => by
  have : k = 0 := by simpa using hk
  subst this
  rfl
 | a :: l, 0, _, _, h2 => by
  have h : ltS a.f0 t = false := h2 (by simp)
  unfold idx
  rw [List.takeWhile_cons, if_neg (by rw [h]; decide)]
  rfl
 | a :: l, k + 1, hk, h1, h2 => by
  have h : ltS a.f0 t = true := h1 0 (by simp) (by omega)
  have ih := idx_at t l k (by simpa using hk) (fun j hj hjk => h1 (j + 1) (by simpa using hj) (by omega)) (fun hj => h2 (by simpa using hj))
  unfold idx at ih ⊢
  rw [List.takeWhile_cons, if_pos h, List.length_cons, ih]
theorem new_size (w : World) (o : Obj) : (w.alloc o).heap.size = w.heap.size + 1 := by
 show (w.heap.push o).size = _
 simp
def bump (ps : List Po) (i : Int) : List Po := if (ps.getD (ps.length - 1) ⟨0, 0⟩).f0 = i then ps.set (ps.length - 1) ⟨(ps.getD (ps.length - 1) ⟨0, 0⟩).f0, wrap64 ((ps.getD (ps.length - 1) ⟨0, 0⟩).f1 + 1)⟩ else ps ++ [⟨i, 1⟩]
def cnt (l : List En) (t : ByteArray) (i : Int) : List En := if idx l t < l.length ∧ (l.getD (idx l t) ⟨t, []⟩).f0 = t then l.set (idx l t) ⟨t, bump (l.getD (idx l t) ⟨t, []⟩).f1 i⟩ else l.take (idx l t) ++ ⟨t, [⟨i, 1⟩]⟩ :: l.drop (idx l t)
theorem below_of {b0 : Nat} {w0 A B : World} (h1 : Below b0 w0 A) (h2 : Below b0 w0 B) (hs : A.heap.size ≤ B.heap.size) (hk : ∀ k, k < A.heap.size → B.heap[k]? = A.heap[k]?) : Below A.heap.size A B :=
 ⟨h2.os.trans h1.os.symm, h2.tape.trans h1.tape.symm, h2.output.trans h1.output.symm, hs, hk⟩
abbrev nilV : Value := .slice none 0 0
theorem nil_own (k : Nat) : some k ≠ nilV.ownBlock := by simp [Value.ownBlock]
theorem v_new {u v : Value} {n m : Nat} (h : v.ownBlock = u.ownBlock ∨ ∃ b, v.ownBlock = some b ∧ n ≤ b) (hu : ∀ q, u.ownBlock = some q → m ≤ q) (hmn : m ≤ n) : ∀ q, v.ownBlock = some q → m ≤ q := by
 intro q hq
 rcases h with h | ⟨b, hb, hn⟩
 ·exact hu q (h ▸ hq)
 ·rw [hb] at hq
  injection hq with hq
  omega
theorem new_w2 {b : Nat} {w0 w w1 w2 : World} {v1 : Value} {O : Obj} (hB : Below b w0 w) (hB2 : Below b w0 w2) (hg1 : w.grownBy w1 nilV.ownBlock) (hat1 : v1.ownBlock = nilV.ownBlock ∨ ∃ b, v1.ownBlock = some b ∧ w.heap.size ≤ b) (hg2 : (w1.alloc O).grownBy w2 v1.ownBlock) : Below w.heap.size w w2 := by
 have h1 := v_new hat1 (fun q hq => absurd hq.symm (nil_own q)) (Nat.le_refl _)
 have hs1 := hg1.size
 have hs2 := hg2.size
 rw [new_size] at hs2
 refine below_of hB hB2 (by omega) (fun k hk => ?_)
 have e1 := hg1.block k hk (nil_own k)
 have e2 := hg2.block k (by rw [new_size]; omega) (fun e => by have := h1 k e.symm; omega)
 rw [e2, ← e1]
 exact (below_alloc (Below.refl w1.heap.size w1) O).block k (by omega)
theorem H_cell2 {α : Type} {d : Kd α} {e g n cap i : Nat} {w : World} {base : Nat} {ok oki : Nat → Prop} {xs : List α} {c : List Value} (h : Kd.H d e w base ok (.slice (some ⟨g, 0, none⟩) n cap) xs (i : Int) oki c) (hi : i < n) (hs : d.sz = 2) (j : Nat) (u : Value) (hu : c[j]? = some u) : w.cell? ⟨g, i * 2 + j, none⟩ = some u ∧ w.frozen? ⟨g, i * 2 + j, none⟩ = false := by
 obtain ⟨rows, hl, hraw, hcl, _, hcc, _⟩ := Kd.H_raw h (by omega) (by omega)
 have h1 := hcc j u hu
 rw [Int.toNat_natCast, hs] at h1
 obtain ⟨_, _, _, _, hfr⟩ := Kd.R_elem hraw [] (i : Int) (by omega) (by omega)
 have h2 := hfr j
 rw [Int.toNat_natCast] at h2
 have e : i * (Kd.raw d.sz).sz + j = i * 2 + j := by
  show i * d.sz + j = i * 2 + j
  rw [hs]
 rw [e] at h2
 exact ⟨h1, h2⟩
theorem H_put2 {α : Type} {d : Kd α} {e g n cap i : Nat} {w : World} {base : Nat} {ok oki : Nat → Prop} {xs : List α} {a b : Value} (h : Kd.H d e w base ok (.slice (some ⟨g, 0, none⟩) n cap) xs (i : Int) oki [a, b]) (hi : i < n) (hs : d.sz = 2) (v : Value) (hv : v.oneCell' = true) :
  Kd.H d e (w.setCell ⟨g, i * 2 + 1, none⟩ v) base ok (.slice (some ⟨g, 0, none⟩) n cap) xs (i : Int) oki [a, v] ∧ w.grownBy (w.setCell ⟨g, i * 2 + 1, none⟩ v) (some g) := by
 have h1 := Kd.H_seg (seg := [v]) (j := 1) h (by omega) (by omega) (by rw [hs]; exact Nat.le_refl _) (fun q hq => by rw [List.mem_singleton.1 hq]; exact hv)
 rw [Int.toNat_natCast, hs] at h1
 exact h1
theorem H_ne {α : Type} {d : Kd α} {e g n cap : Nat} {i : Int} {w : World} {base : Nat} {ok oki : Nat → Prop} {xs : List α} {c : List Value} (h : Kd.H d e w base ok (.slice (some ⟨g, 0, none⟩) n cap) xs i oki c) : ∀ k, oki k → k ≠ g := by
 intro k hk he
 subst he
 obtain ⟨_, f, hR⟩ := h
 exact (hR.1 k (by simp [Value.ownBlock])).2 hk
/-- A row with one more, made anew. -/
theorem new_done (P0 : Nat → Prop) (l : List En) (t : ByteArray) (i : Int) (w0 w w1 w2 w3 : World) (k : Nat) (rows : List (List Value)) (okj : Nat → Nat → Prop) (v1 v2 v3 : Value) (hk : k ≤ l.length) (hB : Below w0.heap.size w0 w) (hown : Own k102 w w0.heap.size okj l rows) (hok : ∀ j q, okj j q → P0 q ∧ q < w.heap.size)
  (ho1 : (Kd.raw 2).R 102 w1 w0.heap.size (fun _ => True) v1 ([] ++ rows.take k)) (hg1 : w.grownBy w1 nilV.ownBlock) (hat1 : v1.ownBlock = nilV.ownBlock ∨ ∃ b, v1.ownBlock = some b ∧ w.heap.size ≤ b) (hB1 : Below w0.heap.size w0 w1)
  (hg2 : (w1.alloc (.cells #[.int .i64 i, .int .i64 1] 56)).grownBy w2 v1.ownBlock) (hat2 : v2.ownBlock = v1.ownBlock ∨ ∃ b, v2.ownBlock = some b ∧ (w1.alloc (.cells #[.int .i64 i, .int .i64 1] 56)).heap.size ≤ b) (ho2 : (Kd.raw 2).R 102 w2 w0.heap.size (fun _ => True) v2 (([] ++ rows.take k) ++ [[.string t, .slice (some ⟨w1.heap.size, 0, none⟩) 1 1]]))
  (hg3 : w2.grownBy w3 v2.ownBlock) (hat3 : v3.ownBlock = v2.ownBlock ∨ ∃ b, v3.ownBlock = some b ∧ w2.heap.size ≤ b) (ho3 : (Kd.raw 2).R 102 w3 w0.heap.size (fun _ => True) v3 ((([] ++ rows.take k) ++ [[.string t, .slice (some ⟨w1.heap.size, 0, none⟩) 1 1]]) ++ rows.drop k)) (hB3 : Below w0.heap.size w0 w3) :
  Kd.S k102 102 w3 w0.heap.size (fun q => P0 q ∨ w.heap.size ≤ q) v3 (l.take k ++ ⟨t, [⟨i, 1⟩]⟩ :: l.drop k) ∧ Kept w w3 P0 := by
 have n1 := v_new hat1 (fun q hq => absurd hq.symm (nil_own q)) (Nat.le_refl _)
 have hs1 := hg1.size
 have hs2 := hg2.size
 have hs3 := hg3.size
 rw [new_size] at hs2 hat2
 have n2 := v_new hat2 n1 (by omega)
 have n3 := v_new hat3 n2 (by omega)
 have l1 := Kd.R_lt ho1
 have d1 : ∀ q, v1.ownBlock = some q → q ≠ w1.heap.size := fun q hq => by have := l1 q hq; omega
 have d2 : ∀ q, v2.ownBlock = some q → q ≠ w1.heap.size := fun q hq => by
  rcases hat2 with h | ⟨b, hb, hn⟩
  ·exact d1 q (h ▸ hq)
  ·rw [hb] at hq
   injection hq with hq
   omega
 have d3 : ∀ q, v3.ownBlock = some q → q ≠ w1.heap.size := fun q hq => by
  rcases hat3 with h | ⟨b, hb, hn⟩
  ·exact d2 q (h ▸ hq)
  ·rw [hb] at hq
   injection hq with hq
   omega
 have same : ∀ q, q < w.heap.size → w3.heap[q]? = w.heap[q]? := fun q hq => by
  have e1 := hg1.block q hq (nil_own q)
  have e2 := hg2.block q (by rw [new_size]; omega) (fun e => by have := n1 q e.symm; omega)
  have e3 := hg3.block q (by omega) (fun e => by have := n2 q e.symm; omega)
  rw [e3, e2, ← e1]
  exact (below_alloc (Below.refl w1.heap.size w1) _).block q (by omega)
 have lit : w3.heap[w1.heap.size]? = some (.cells #[.int .i64 i, .int .i64 1] 56 (0, 0)) := by
  have e2 := hg2.block w1.heap.size (by rw [new_size]; omega) (fun e => d1 _ e.symm rfl)
  have e3 := hg3.block w1.heap.size (by omega) (fun e => d2 _ e.symm rfl)
  rw [e3, e2]
  show (w1.heap.push _)[w1.heap.size]? = _
  simp
 have hx : Kd.M k102 w3 w0.heap.size (fun q => q = w1.heap.size) (⟨t, [⟨i, 1⟩]⟩ : En) [.string t, .slice (some ⟨w1.heap.size, 0, none⟩) 1 1] := by
  refine k102_mkM _ _ _ (⟨t, [⟨i, 1⟩]⟩ : En) ⟨fun q hq => ?_, [.int .i64 i, .int .i64 1], ⟨rfl, .inr ⟨w1.heap.size, 1, _, rfl, hB1.size, lit, Nat.le_refl _, by simp [maxLen], rfl, rfl⟩⟩, ?_⟩
  ·have : w1.heap.size = q := by simpa [Value.ownBlock] using hq
   exact this.symm
  ·have := flatP_reps w3 w0.heap.size (fun k_ => k_ = w1.heap.size ∧ some k_ ≠ (Value.slice (some ⟨w1.heap.size, 0, none⟩) 1 1).ownBlock) ([⟨i, 1⟩] : List Po)
   exact this
 have hO3 := (hown.move (w1 := w3) (fun j q hq hlt => same q hlt)).insert k hk hx (fun j q hq e => by have := (hok j q hq).2; omega)
 refine ⟨S_close (okv := fun _ => True) (rows := rows.take k ++ [.string t, .slice (some ⟨w1.heap.size, 0, none⟩) 1 1] :: rows.drop k) (by have h := ho3; rw [List.nil_append, List.append_assoc] at h; exact h) hO3 (fun j q hq => ?_) (fun q hq => .inr (n3 q hq)), by omega, fun q hq _ => same q hq⟩
 by_cases h1 : j < k
 ·simp only [if_pos h1] at hq
  have h2 := hok j q hq
  exact ⟨.inl h2.1, fun e => by have := n3 q e.symm; omega⟩
 ·simp only [if_neg h1] at hq
  by_cases h2 : j = k
  ·rw [if_pos h2] at hq
   exact ⟨.inr (by omega), fun e => d3 q e.symm hq⟩
  ·rw [if_neg h2] at hq
   have h3 := hok (j - 1) q hq
   exact ⟨.inl h3.1, fun e => by have := n3 q e.symm; omega⟩
set_option maxRecDepth 100000 in
set_option maxHeartbeats 4000000 in
theorem count_calls (P0 : Nat → Prop) (u : Value) (l : List En) (t : ByteArray) (i : Int) (w0 w : World) (hB : Below w0.heap.size w0 w) (ho : Kd.S k102 102 w w0.heap.size P0 u l) (hl : l.length ≤ 1048575) (hne : ∀ e ∈ l, 0 < e.f1.length ∧ e.f1.length ≤ 1048575) :
  Calls Try.prog 80 #[u, .string t, .int .i64 i] w fun e w' => ∃ v, e = .returned v ∧ Kd.S k102 102 w' w0.heap.size (fun k => P0 k ∨ w.heap.size ≤ k) v (cnt l t i) ∧ Below w0.heap.size w0 w' ∧ Kept w w' P0 := by
 obtain ⟨A, c, e1⟩ := Kd.S_slice ho
 subst e1
 have hrd := Kd.S_reads' ho
 obtain ⟨rows, okj, hraw, hown, hok0, hov⟩ := S_open (Kd.S_bound ho)
 have hok : ∀ j q, okj j q → P0 q ∧ q < w.heap.size := fun j q hq => ⟨(hok0 j q hq).1.1, (hok0 j q hq).1.2.2.1⟩
 have HC := aM hrd.2.2
 have HCL := aM hrd.2.1
 have HCR := aM (show Kd.C (Kd.raw 2) w A rows.length rows from (Kd.R_reads' hraw).2.2)
 have HRL := aM hown.len
 have HO := aM ho
 have HB := aM hB
 have HOWN := aM hown
 have HOK := aM hok
 have HOV := aM hov
 have HLL := aM hl
 have HNE := aM hne
 obtain ⟨ti, hi0, _, hsz0, _⟩ := info_parts info102
 have HI := aM hi0
 have HISZ := aM hsz0
 have hll : (l.length : Int) ≤ 1048575 := by omega
 clear hB ho hl hne hrd hraw hown hok hok0 hov hi0 hsz0
 go_enter Try.func80, Try.ntmps80
 go_wp2
 go_loopg [7] l.length (fun kq v7 w' => ∃ k : Nat, v7 = .int .i64 (k : Int) ∧ k ≤ l.length ∧ kq = l.length - k ∧ w' = w ∧ Aside0 (∀ j (h : j < l.length), j < k → ltS l[j].f0 t = true))
 case atStart => exact ⟨0, rfl, Nat.zero_le _, rfl, rfl, ⟨fun j _ h => absurd h (Nat.not_lt_zero _)⟩⟩
 case round =>
  obtain ⟨k, rfl, hk, hkq, hww, HF⟩ := hrel
  obtain rfl : w = wr := hww.symm
  clear hww
  have HKQ := aM hkq
  clear hkq
  by_cases hlt : k < l.length
  ·obtain ⟨ad, A1, c1, ead, hs0, hs1, hc1, hC1⟩ := at_T102 HC.out (k : Int) (by omega) (by omega)
   have HLT := aM hlt
   have hrd : rd_T102 l (k : Int) = l[k]'HLT.out := rd_en l k hlt
   rw [Int.toNat_natCast, hrd] at hs0 hs1
   rw [hrd] at hc1 hC1
   obtain ⟨x, hx⟩ : ∃ x, x = l[k]'HLT.out := ⟨_, rfl⟩
   rw [← hx] at hs0 hs1 hc1 hC1
   have HX := aM hx
   have hlt2 : (k : Int) < (l.length : Int) := by omega
   by_cases hle : ltS x.f0 t = true
   ·have hle2 : Op.bytesLess x.f0.toList t.toList = true := hle
    subst ead
    clear hrd hc1 hC1 hlt hk hle hx
    go_wp2
    go_roundg (l.length - (k + 1))
    case measure => have := HKQ.out; have := HLT.out; omega
    case rel =>
     refine ⟨k + 1, by go_num, HLT.out, rfl, rfl, ⟨fun j hj hjk => ?_⟩⟩
     by_cases h : j < k
     ·exact HF.out j hj h
     ·obtain rfl : j = k := by omega
      rw [← HX.out]
      exact hle2
   ·have hle2 : Op.bytesLess x.f0.toList t.toList = false := by rw [← Bool.not_eq_true]; exact hle
    have HIX : Aside0 (idx l t = k) := ⟨idx_at t l k (Nat.le_of_lt hlt) HF.out (fun _ => by rw [← HX.out]; exact hle2)⟩
    have hkl : ((k : Int) == (l.length : Int)) = false := by rw [beq_eq_false_iff_ne]; omega
    by_cases heq : x.f0 = t
    ·have hne1 : (x.f0.toList == t.toList) = true := by rw [heq]; exact beq_self_eq_true _
     have hne2 : (x.f0.toList != t.toList) = false := by rw [bne_eq_false_iff_eq, heq]
     have HNX := aM (HNE.out x (by rw [HX.out]; exact List.getElem_mem _))
     have HXN : Aside0 (x.f1.length ≤ 1048575) := ⟨HNX.out.2⟩
     obtain ⟨g, cap, hu, hgb, hgl, _⟩ := Kd.S_form HO.out (by omega)
     injection hu with hA _ hcap
     subst hA
     subst hcap
     injection ead with ead
     subst ead
     obtain ⟨oki, ce, hcl, hM, hcc, hok2, hH⟩ := Kd.S_lend HO.out z102 (k : Int) (by omega) (by omega)
     rw [Int.toNat_natCast, show l.getD k z102 = x by rw [HX.out, List.getD_eq_getElem?_getD, List.getElem?_eq_getElem HLT.out]; rfl] at hM
     obtain ⟨v1, hv1, hV1⟩ := k102_openM hM
     subst hv1
     obtain ⟨g2, c2, hvv, hg2b, hg2l, _⟩ := Kd.R_form hV1 HNX.out.1
     subst hvv
     obtain ⟨m, hm⟩ : ∃ m, x.f1.length = m + 1 := ⟨x.f1.length - 1, by have := HNX.out.1; omega⟩
     rw [hm] at hV1 hH hcc
     have HM := aM hm
     obtain ⟨OKI, hOKI⟩ : ∃ OKI : Nat → Prop, OKI = (fun q => oki q ∨ (P0 q ∨ w.heap.size ≤ q) ∧ w.heap.size ≤ q) := ⟨_, rfl⟩
     have HH : Aside0 (Kd.H k102 102 w w0.heap.size (fun q => P0 q ∨ w.heap.size ≤ q) (.slice (some ⟨g, 0, none⟩) l.length c) l (k : Int) OKI [.string x.f0, .slice (some ⟨g2, 0, none⟩) (m + 1) c2]) := ⟨by rw [hOKI]; exact Kd.H_widen (Kd.H_mono hH (fun q hq => .inl hq))⟩
     have HV : Aside0 (Kd.R k56 56 w w0.heap.size OKI (.slice (some ⟨g2, 0, none⟩) (m + 1) c2) x.f1) := ⟨Kd.R_mono hV1 (fun q hq => by rw [hOKI]; exact .inl hq)⟩
     have HFR : Aside0 (∀ q, w.heap.size ≤ q → OKI q) := ⟨fun q hq => by rw [hOKI]; exact .inr ⟨.inr hq, hq⟩⟩
     have HP2 : Aside0 (P0 g2) := ⟨(hok2 g2 (hV1.1 g2 (by simp [Value.ownBlock]))).1⟩
     have HPG : Aside0 (P0 g) := ⟨(Kd.S_R HO.out).1 g (by simp [Value.ownBlock])⟩
     have HGL : Aside0 (g < w.heap.size ∧ g2 < w.heap.size ∧ w0.heap.size ≤ g ∧ w0.heap.size ≤ g2) := ⟨⟨hgl, hg2l, hgb, hg2b⟩⟩
     obtain ⟨ce2, hcl2, hM2, hcc2, hfr2⟩ := Kd.R_elem hV1 z56 (m : Int) (by omega) (by omega)
     have hlm : m < x.f1.length := by omega
     have HLM := aM hlm
     rw [Int.toNat_natCast, show x.f1.getD m z56 = x.f1[m]'HLM.out by rw [List.getD_eq_getElem?_getD, List.getElem?_eq_getElem HLM.out]; rfl] at hM2
     obtain ⟨y, hy⟩ : ∃ y, y = x.f1[m]'HLM.out := ⟨_, rfl⟩
     rw [← hy] at hM2
     have HY := aM hy
     have hce2 := k56_openM hM2
     subst hce2
     rw [Int.toNat_natCast] at hcc2 hfr2
     have hp0 : w.cell? ⟨g2, m * 2, none⟩ = some (.int .i64 y.f0) := hcc2 0 _ rfl
     have hp1 : w.cell? ⟨g2, m * 2 + 1, none⟩ = some (.int .i64 y.f1) := hcc2 1 _ rfl
     have hfp : w.frozen? ⟨g2, m * 2 + 1, none⟩ = false := hfr2 1
     have HCC := aM hcc2
     have hq0 : w.cell? ⟨g, k * 2, none⟩ = some (.string x.f0) := (H_cell2 HH.out HLT.out rfl 0 _ rfl).1
     have hq1 : w.cell? ⟨g, k * 2 + 1, none⟩ = some (.slice (some ⟨g2, 0, none⟩) (m + 1) c2) := (H_cell2 HH.out HLT.out rfl 1 _ rfl).1
     have HSET : Aside0 (∀ ps, cnt l t i = l.set k ⟨x.f0, ps⟩ ↔ cnt l t i = l.set k ⟨t, ps⟩) := ⟨fun ps => by rw [heq]⟩
     have HCN : Aside0 (cnt l t i = l.set k ⟨x.f0, bump x.f1 i⟩) := ⟨by
      have e : l.getD k ⟨t, []⟩ = x := by rw [HX.out, List.getD_eq_getElem?_getD, List.getElem?_eq_getElem HLT.out]; rfl
      unfold cnt
      rw [HIX.out, e, if_pos ⟨HLT.out, heq⟩, heq]⟩
     have HBU : Aside0 (bump x.f1 i = if y.f0 = i then x.f1.set m ⟨y.f0, wrap64 (y.f1 + 1)⟩ else x.f1 ++ [⟨i, 1⟩]) := ⟨by
      have e : x.f1.getD (x.f1.length - 1) ⟨0, 0⟩ = y := by rw [HY.out, show x.f1.length - 1 = m by omega, List.getD_eq_getElem?_getD, List.getElem?_eq_getElem HLM.out]; rfl
      unfold bump
      rw [e, show x.f1.length - 1 = m by omega]⟩
     have hm3 : (m : Int) < ((m + 1 : Nat) : Int) := Int.ofNat_lt.2 (Nat.lt_succ_self m)
     have hm4 : (m : Int) ≤ 1048575 := by have h1 := HXN.out; have h2 := HLM.out; clear hm3; omega
     have hmz : (0 : Int) ≤ (m : Int) := Int.natCast_nonneg m
     have hw64 : wrap64 (m : Int) = (m : Int) := by rw [w64 (by omega) (by omega)]
     by_cases hyi : y.f0 = i
     ·have hyb : (y.f0 == i) = true := by rw [hyi]; exact beq_self_eq_true _
      have hseg := Kd.R_seg (d := k56) (okp := fun _ => False) HV.out (m : Int) hmz hm3 (c := [.int .i64 y.f0, .int .i64 y.f1]) (seg := [.int .i64 (wrap64 (y.f1 + 1))]) (j := 1) rfl (fun j u hu => by rw [Int.toNat_natCast]; exact HCC.out j u hu) (Nat.le_refl _) (x' := (⟨y.f0, wrap64 (y.f1 + 1)⟩ : Po)) (k56_mkM _ _ _ _) (fun _ h => h.elim)
      rw [Int.toNat_natCast] at hseg
      have HS1 := aM (show Kd.R k56 56 (w.setCell ⟨g2, m * 2 + 1, none⟩ (.int .i64 (wrap64 (y.f1 + 1)))) w0.heap.size OKI (.slice (some ⟨g2, 0, none⟩) (m + 1) c2) (x.f1.set m ⟨y.f0, wrap64 (y.f1 + 1)⟩) from hseg.1)
      have HG1 := aM (show w.grownBy (w.setCell ⟨g2, m * 2 + 1, none⟩ (.int .i64 (wrap64 (y.f1 + 1)))) (some g2) from hseg.2)
      have HH1 := aM (Kd.H_grown HH.out HG1.out (fun q hq => HV.out.1 q (by injection hq with hq; rw [← hq]; simp [Value.ownBlock])))
      have HB1 := aM (show Below w0.heap.size w0 (w.setCell ⟨g2, m * 2 + 1, none⟩ (.int .i64 (wrap64 (y.f1 + 1)))) from below_set HB.out HGL.out.2.2.2)
      rw [if_pos hyi] at HBU
      clear hseg hgb hgl hcl hM hcc hok2 hH hV1 hg2b hg2l hOKI hcl2 hM2 hcc2 hfr2 hlm hy hm3 hyi heq hle hlt hk hrd hc1 hC1 hx hs0 hs1
      go_wp2
      go_ret
      have hS := Kd.H_back HH1.out (x' := (⟨x.f0, bump x.f1 i⟩ : En)) (okp := OKI) (k102_mkM _ _ _ (⟨x.f0, bump x.f1 i⟩ : En) (by rw [HBU.out]; exact HS1.out)) (fun _ hq => hq)
      rw [Int.toNat_natCast, ← HCN.out] at hS
      exact ⟨_, rfl, hS, HB1.out, HG1.out.size, fun q hq hn => HG1.out.block q hq (fun e => hn (by injection e with e; rw [e]; exact HP2.out))⟩
     ·have hyb : (y.f0 == i) = false := by rw [beq_eq_false_iff_ne]; exact hyi
      rw [if_neg hyi] at HBU
      clear hgb hgl hcl hM hcc hok2 hH hV1 hg2b hg2l hOKI hcl2 hM2 hcc2 hfr2 hlm hy hm3 hyi heq hle hlt hk hrd hc1 hC1 hx hs0 hs1
      go_wp2_with (((with_reducible refine gate_builtin (b := .append) (xs := #[.tmp 93, .tmp 96]) rfl ?_); at_builtin; go_loud (refine Kd.R_append k56 (w0 := w0) (W := w) w0.heap.size rfl (.tmp 93) (.tmp 96) 52 56 (.agg #[.int .i64 0, .int .i64 0]) 16 rfl Try.underlying52 info56 rfl (by decide) (by omega) (.slice (some ⟨g2, 0, none⟩) (m + 1) c2) x.f1 (⟨i, 1⟩ : Po) [.int .i64 i, .int .i64 1] OKI (fun _ => False) rfl rfl (k56_mkM _ _ _ _) (fun _ h => h.elim) HFR.out HV.out HB.out HB.out.size (by have := HXN.out; omega) ?_; intro v4 w4 ho4 hb4 hg4 hat4; obtain ⟨A4, c4, e4⟩ := Kd.R_slice ho4; obtain ⟨n4, hn4⟩ : ∃ n4, n4 = (x.f1 ++ [(⟨i, 1⟩ : Po)]).length := ⟨_, rfl⟩; rw [← hn4] at e4; subst e4; clear hn4; have HO4 := aM ho4; have HB4 := aM hb4; have HG4 := aM hg4; clear ho4 hb4 hg4 hat4; have HH4 := aM (Kd.H_grown HH.out HG4.out (fun q hq => HV.out.1 q hq)); obtain ⟨hcl4, hfr4⟩ := H_cell2 HH4.out HLT.out rfl 1 _ rfl)))
      go_ret
      obtain ⟨hh5, hg5⟩ := H_put2 HH4.out HLT.out rfl (.slice A4 n4 c4) rfl
      have hv5 := Kd.R_far (p := ⟨g, k * 2 + 1, none⟩) HO4.out (H_ne HH4.out) (.slice A4 n4 c4)
      have hS := Kd.H_back hh5 (x' := (⟨x.f0, bump x.f1 i⟩ : En)) (okp := OKI) (k102_mkM _ _ _ (⟨x.f0, bump x.f1 i⟩ : En) (by rw [HBU.out]; exact hv5)) (fun _ hq => hq)
      rw [Int.toNat_natCast, ← HCN.out] at hS
      have hb5 : Below w0.heap.size w0 (w4.setCell ⟨g, k * 2 + 1, none⟩ (.slice A4 n4 c4)) := below_set HB4.out HGL.out.2.2.1
      refine ⟨_, rfl, hS, hb5, Nat.le_trans HG4.out.size hg5.size, fun q hq hn => ?_⟩
      have e1 := HG4.out.block q hq (fun e => hn (by have : q = g2 := (by simpa [Value.ownBlock] using e); rw [this]; exact HP2.out))
      have e2 := hg5.block q (Nat.lt_of_lt_of_le hq HG4.out.size) (fun e => hn (by injection e with e; rw [e]; exact HPG.out))
      rw [e2, e1]
    ·have hne1 : (x.f0.toList == t.toList) = false := by rw [beq_eq_false_iff_ne]; exact fun h => heq (Byt.toList_inj h)
     have hne2 : (x.f0.toList != t.toList) = true := by rw [bne_iff_ne]; exact fun h => heq (Byt.toList_inj h)
     have hkle : k ≤ l.length := Nat.le_of_lt hlt
     have HKL := aM hkle
     have HNO : Aside0 (¬ (k < l.length ∧ (l.getD k ⟨t, []⟩).f0 = t)) := ⟨fun h => heq (by rw [HX.out]; have h2 := h.2; rw [List.getD_eq_getElem?_getD, List.getElem?_eq_getElem HLT.out] at h2; exact h2)⟩
     subst ead
     clear hrd hc1 hC1 hle hx
     have hcut1 := cut_to (P := Try.prog) 31 102 .i64 Try.underlying31 HI.out (some ad) l.length c ((k : Nat) : Int) (by omega) (by omega) HCL.out
     rw [Int.toNat_natCast] at hcut1
     have hcut2 := cut_from (P := Try.prog) 31 102 .i64 Try.underlying31 HI.out 2 HISZ.out (some ad) l.length c ((k : Nat) : Int) (by omega) (by omega)
     rw [Int.toNat_natCast] at hcut2
     obtain ⟨A3, hA3⟩ : ∃ A3, A3 = (if c = k then (some ad) else Option.map (·.add (k * 2)) (some ad)) := ⟨_, rfl⟩
     obtain ⟨c3, hc3⟩ : ∃ c3, c3 = c - k := ⟨_, rfl⟩
     rw [← hA3, ← hc3] at hcut2
     have HT1 : Aside0 (Kd.C (Kd.raw 2) w (some ad) k (rows.take k)) := ⟨by have h1 := Kd.C_take (m := k) HCR.out (by rw [HRL.out]; omega); rw [List.length_take, HRL.out, Nat.min_eq_left (by omega)] at h1; exact h1⟩
     have HT3 : Aside0 (Kd.C (Kd.raw 2) w A3 (l.length - k) (rows.drop k)) := ⟨by have h1 := Kd.C_drop (m := k) (c := c) HCR.out (by rw [HRL.out]; omega) (by rw [HRL.out]; exact HCL.out); rw [List.length_drop, HRL.out] at h1; rw [hA3]; exact h1⟩
     clear hA3 hc3
     go_upto_region 7 with (((with_reducible refine gate_builtin (b := .append) (xs := #[.tmp 38, .tmp 41]) rfl ?_); at_builtin; go_loud (refine Kd.R_append_rows (Kd.raw 2) (w0 := w0) w0.heap.size rfl (.tmp 38) (.tmp 41) 31 102 (.agg #[(.string ⟨#[]⟩), (.slice none 0 0)]) 40 rfl Try.underlying31 info102 rfl (by decide) (by omega) (.slice none 0 0) ([] : List (List Value)) (rows.take k) (some ad) k c (fun _ => True) (fun _ => False) rfl rfl (Kd.R_nil _ _ _ _ _) HT1.out (fun _ _ h => h) (fun _ h => h.elim) (fun _ _ => trivial) HB.out HB.out.size (by have := HLL.out; simp; omega) ?_; intro v1 w1 ho1 hb1 hg1 hat1; have HO1 := aM ho1; have HB1 := aM hb1; have HG1 := aM hg1; have HAT1 := aM hat1; clear ho1 hb1 hg1 hat1)))
     go_upto_region 8 with (((with_reducible refine gate_builtin (b := .append) (xs := #[.tmp 43, .tmp 49]) rfl ?_); at_builtin; go_loud (refine Kd.R_append (Kd.raw 2) (w0 := w0) (W := w1.alloc (.cells #[.int .i64 i, .int .i64 1] 56)) w0.heap.size rfl (.tmp 43) (.tmp 49) 31 102 (.agg #[(.string ⟨#[]⟩), (.slice none 0 0)]) 40 rfl Try.underlying31 info102 rfl (by decide) (by omega) v1 ([] ++ rows.take k) [.string t, .slice (some ⟨w1.heap.size, 0, none⟩) 1 1] [.string t, .slice (some ⟨w1.heap.size, 0, none⟩) 1 1] (fun _ => True) (fun _ => False) rfl (by rw [new_size]; rfl) ⟨rfl, rfl, by simp [Value.oneCell']⟩ (fun _ h => h.elim) (fun _ _ => trivial) (Kd.R_alloc HO1.out _) (below_alloc HB1.out _) (below_alloc HB1.out _).size (by have := HLL.out; simp; omega) ?_; intro v2 w2 ho2 hb2 hg2 hat2; have HO2 := aM ho2; have HB2 := aM hb2; have HG2 := aM hg2; have HAT2 := aM hat2; clear ho2 hb2 hg2 hat2)))
     have HBW2 := aM (new_w2 HB.out HB2.out HG1.out HAT1.out HG2.out)
     go_wp2_with (((with_reducible refine gate_builtin (b := .append) (xs := #[.tmp 51, .tmp 54]) rfl ?_); at_builtin; go_loud (refine Kd.R_append_rows (Kd.raw 2) (w0 := w0) w0.heap.size rfl (.tmp 51) (.tmp 54) 31 102 (.agg #[(.string ⟨#[]⟩), (.slice none 0 0)]) 40 rfl Try.underlying31 info102 rfl (by decide) (by omega) v2 (([] ++ rows.take k) ++ [[.string t, .slice (some ⟨w1.heap.size, 0, none⟩) 1 1]]) (rows.drop k) A3 (l.length - k) c3 (fun _ => True) (fun _ => False) rfl rfl HO2.out (Kd.C_below HT3.out HBW2.out) (fun _ _ h => h) (fun _ h => h.elim) (fun _ _ => trivial) HB2.out HB2.out.size (by have := HLL.out; have := HRL.out; simp; omega) ?_; intro v3 w3 ho3 hb3 hg3 hat3; have HO3 := aM ho3; have HB3 := aM hb3; have HG3 := aM hg3; have HAT3 := aM hat3; clear ho3 hb3 hg3 hat3)))
     go_ret
     obtain ⟨hS, hK⟩ := new_done P0 l t i w0 w w1 w2 w3 k rows okj v1 v2 v3 HKL.out HB.out HOWN.out HOK.out HO1.out HG1.out HAT1.out HB1.out HG2.out HAT2.out HO2.out HG3.out HAT3.out HO3.out HB3.out
     refine ⟨_, rfl, ?_, HB3.out, hK⟩
     have hcn : cnt l t i = l.take k ++ ⟨t, [⟨i, 1⟩]⟩ :: l.drop k := by
      unfold cnt
      rw [HIX.out, if_neg HNO.out]
     rw [hcn]
     exact hS
  ·obtain rfl : k = l.length := by omega
   have HIX : Aside0 (idx l t = l.length) := ⟨idx_at t l l.length (Nat.le_refl _) HF.out (fun h => absurd h (Nat.lt_irrefl _))⟩
   have HKL : Aside0 (l.length ≤ l.length) := ⟨Nat.le_refl _⟩
   have HNO : Aside0 (¬ (l.length < l.length ∧ (l.getD l.length ⟨t, []⟩).f0 = t)) := ⟨fun h => Nat.lt_irrefl _ h.1⟩
   clear hk hlt
   have hcut1 := cut_to (P := Try.prog) 31 102 .i64 Try.underlying31 HI.out A l.length c ((l.length : Nat) : Int) (by omega) (by omega) HCL.out
   rw [Int.toNat_natCast] at hcut1
   have hcut2 := cut_from (P := Try.prog) 31 102 .i64 Try.underlying31 HI.out 2 HISZ.out A l.length c ((l.length : Nat) : Int) (by omega) (by omega)
   rw [Int.toNat_natCast] at hcut2
   obtain ⟨A3, hA3⟩ : ∃ A3, A3 = (if c = l.length then A else Option.map (·.add (l.length * 2)) A) := ⟨_, rfl⟩
   obtain ⟨c3, hc3⟩ : ∃ c3, c3 = c - l.length := ⟨_, rfl⟩
   rw [← hA3, ← hc3] at hcut2
   have HT1 : Aside0 (Kd.C (Kd.raw 2) w A l.length (rows.take l.length)) := ⟨by have h1 := Kd.C_take (m := l.length) HCR.out (by rw [HRL.out]; omega); rw [List.length_take, HRL.out, Nat.min_eq_left (by omega)] at h1; exact h1⟩
   have HT3 : Aside0 (Kd.C (Kd.raw 2) w A3 0 (rows.drop l.length)) := ⟨by have h1 := Kd.C_drop (m := l.length) (c := c) HCR.out (by rw [HRL.out]; omega) (by rw [HRL.out]; exact HCL.out); rw [List.length_drop, HRL.out, Nat.sub_self] at h1; rw [hA3]; exact h1⟩
   clear hA3 hc3
   go_upto_region 7 with (((with_reducible refine gate_builtin (b := .append) (xs := #[.tmp 38, .tmp 41]) rfl ?_); at_builtin; go_loud (refine Kd.R_append_rows (Kd.raw 2) (w0 := w0) w0.heap.size rfl (.tmp 38) (.tmp 41) 31 102 (.agg #[(.string ⟨#[]⟩), (.slice none 0 0)]) 40 rfl Try.underlying31 info102 rfl (by decide) (by omega) (.slice none 0 0) ([] : List (List Value)) (rows.take l.length) A l.length c (fun _ => True) (fun _ => False) rfl rfl (Kd.R_nil _ _ _ _ _) HT1.out (fun _ _ h => h) (fun _ h => h.elim) (fun _ _ => trivial) HB.out HB.out.size (by have := HLL.out; simp; omega) ?_; intro v1 w1 ho1 hb1 hg1 hat1; have HO1 := aM ho1; have HB1 := aM hb1; have HG1 := aM hg1; have HAT1 := aM hat1; clear ho1 hb1 hg1 hat1)))
   go_upto_region 8 with (((with_reducible refine gate_builtin (b := .append) (xs := #[.tmp 43, .tmp 49]) rfl ?_); at_builtin; go_loud (refine Kd.R_append (Kd.raw 2) (w0 := w0) (W := w1.alloc (.cells #[.int .i64 i, .int .i64 1] 56)) w0.heap.size rfl (.tmp 43) (.tmp 49) 31 102 (.agg #[(.string ⟨#[]⟩), (.slice none 0 0)]) 40 rfl Try.underlying31 info102 rfl (by decide) (by omega) v1 ([] ++ rows.take l.length) [.string t, .slice (some ⟨w1.heap.size, 0, none⟩) 1 1] [.string t, .slice (some ⟨w1.heap.size, 0, none⟩) 1 1] (fun _ => True) (fun _ => False) rfl (by rw [new_size]; rfl) ⟨rfl, rfl, by simp [Value.oneCell']⟩ (fun _ h => h.elim) (fun _ _ => trivial) (Kd.R_alloc HO1.out _) (below_alloc HB1.out _) (below_alloc HB1.out _).size (by have := HLL.out; simp; omega) ?_; intro v2 w2 ho2 hb2 hg2 hat2; have HO2 := aM ho2; have HB2 := aM hb2; have HG2 := aM hg2; have HAT2 := aM hat2; clear ho2 hb2 hg2 hat2)))
   have HBW2 := aM (new_w2 HB.out HB2.out HG1.out HAT1.out HG2.out)
   go_wp2_with (((with_reducible refine gate_builtin (b := .append) (xs := #[.tmp 51, .tmp 54]) rfl ?_); at_builtin; go_loud (refine Kd.R_append_rows (Kd.raw 2) (w0 := w0) w0.heap.size rfl (.tmp 51) (.tmp 54) 31 102 (.agg #[(.string ⟨#[]⟩), (.slice none 0 0)]) 40 rfl Try.underlying31 info102 rfl (by decide) (by omega) v2 (([] ++ rows.take l.length) ++ [[.string t, .slice (some ⟨w1.heap.size, 0, none⟩) 1 1]]) (rows.drop l.length) A3 0 c3 (fun _ => True) (fun _ => False) rfl rfl HO2.out (Kd.C_below HT3.out HBW2.out) (fun _ _ h => h) (fun _ h => h.elim) (fun _ _ => trivial) HB2.out HB2.out.size (by have := HLL.out; have := HRL.out; simp; omega) ?_; intro v3 w3 ho3 hb3 hg3 hat3; have HO3 := aM ho3; have HB3 := aM hb3; have HG3 := aM hg3; have HAT3 := aM hat3; clear ho3 hb3 hg3 hat3)))
   go_ret
   obtain ⟨hS, hK⟩ := new_done P0 l t i w0 w w1 w2 w3 l.length rows okj v1 v2 v3 HKL.out HB.out HOWN.out HOK.out HO1.out HG1.out HAT1.out HB1.out HG2.out HAT2.out HO2.out HG3.out HAT3.out HO3.out HB3.out
   refine ⟨_, rfl, ?_, HB3.out, hK⟩
   have hcn : cnt l t i = l.take l.length ++ ⟨t, [⟨i, 1⟩]⟩ :: l.drop l.length := by
    unfold cnt
    rw [HIX.out, if_neg HNO.out]
   rw [hcn]
   exact hS
/-- What lies beside such a row: by types. -/
theorem not_typed {W : World} {base g t : Nat} {cells : Array Value} {l : List Nat} (hb : W.heap[g]? = some (.cells cells t (0, 0))) (ht : ∀ q, q ∈ l → q ≠ t) : ¬ (True ∧ base ≤ g ∧ g < W.heap.size ∧ ∃ q, q ∈ l ∧ ∃ cells, W.heap[g]? = some (.cells cells q (0, 0))) := by
 rintro ⟨_, _, _, q, hq, c2, h2⟩
 rw [hb] at h2
 injection h2 with h2
 injection h2 with _ h2
 exact ht q hq h2.symm
theorem R_beside {α : Type} {d : Kd α} {e : Nat} {W W2 : World} {base b2 : Nat} {v : Value} {xs : List α} {l : List Nat} (h : d.R e W base (fun _ => True) v xs) (hk : Kept W W2 (fun k => True ∧ b2 ≤ k ∧ k < W.heap.size ∧ ∃ q, q ∈ l ∧ ∃ cells, W.heap[k]? = some (.cells cells q (0, 0)))) (ht : ∀ q, q ∈ e :: d.E → ∀ q', q' ∈ l → q' ≠ q) : d.R e W2 base (fun _ => True) v xs :=
 Kd.R_mono (Kd.R_kept (Kd.R_bound h) hk (fun k h1 h2 => by
  obtain ⟨_, _, _, q, hq, c1, hc1⟩ := h1
  exact not_typed hc1 (fun q' hq' => ht q hq q' hq') h2)) (fun _ _ => trivial)
end Go.Proofs.Ytaomjndfjmfelaa.Cou
end

section
namespace Go.Proofs.Ytaomjndfjmfelaa.Idx
set_option linter.unusedVariables false
set_option linter.unusedSimpArgs false
open Go.RowKit Go.Proofs.Ytaomjndfjmfelaa.PQ Go.Proofs.YtaomjndfjmfelaaW.PrintWords Go.Proofs.YtaomjndfjmfelaaW.PrintLast Go.Proofs.YtaomjndfjmfelaaW.PrintMore Go.Proofs.Ytaomjndfjmfelaa.Pre Go.Proofs.Ytaomjndfjmfelaa.EntW Go.Proofs.Ytaomjndfjmfelaa.Posts Go.Proofs.Ytaomjndfjmfelaa.GoodW Go.Proofs.Ytaomjndfjmfelaa.PostW Go.Proofs.Ytaomjndfjmfelaa.CmpL Go.Proofs.Ytaomjndfjmfelaa.WordsW Go.Proofs.Ytaomjndfjmfelaa.Cou
/-- How often a text is told of. -/
def tmP (ps : List Po) (j : Int) : Int := match ps.find? (fun p => decide (p.f0 = j)) with | some p => p.f1 | none => 0
def tm (l : List En) (t : ByteArray) (j : Int) : Int := tmP (posts l t) j
structure PsOK (i : Int) (ps : List Po) : Prop where
 rise : ps.Pairwise (fun a b => a.f0 < b.f0)
 each : ∀ p ∈ ps, 0 ≤ p.f0 ∧ p.f0 ≤ i ∧ 1 ≤ p.f1 ∧ p.f1 ≤ 100
theorem PsOK.next {i : Int} {ps : List Po} (h : PsOK i ps) : PsOK (i + 1) ps := ⟨h.rise, fun p hp => by have := h.each p hp; omega⟩
theorem ok_of (most : Int) : ∀ (ps : List Po) (last : Int), ps.Pairwise (fun a b => a.f0 < b.f0) → (∀ p ∈ ps, last < p.f0 ∧ p.f0 ≤ most ∧ 1 ≤ p.f1 ∧ p.f1 ≤ 100) → okFrom most last ps = true
 | [], _, _, _ => rfl
 | a :: ps, last, h1, h2 => by
  have h1 := List.pairwise_cons.1 h1
  simp only [okFrom, Bool.and_eq_true, decide_eq_true_eq]
  refine ⟨h2 a List.mem_cons_self, ok_of most ps a.f0 h1.2 (fun p hp => ?_)⟩
  have h3 := h2 p (List.mem_cons_of_mem _ hp)
  exact ⟨h1.1 p hp, h3.2⟩
theorem tmP_none {ps : List Po} {j : Int} (h : ∀ q ∈ ps, q.f0 ≠ j) : tmP ps j = 0 := by
 have : ps.find? (fun p => decide (p.f0 = j)) = none := by
  rw [List.find?_eq_none]
  intro x hx e
  exact h x hx (of_decide_eq_true e)
 unfold tmP
 rw [this]
theorem tmP_app {qs : List Po} {p : Po} {j : Int} (hq : ∀ q ∈ qs, q.f0 < p.f0) : tmP (qs ++ [p]) j = if p.f0 = j then p.f1 else tmP qs j := by
 unfold tmP
 rw [List.find?_append]
 by_cases e : p.f0 = j
 ·have : qs.find? (fun p => decide (p.f0 = j)) = none := by
   rw [List.find?_eq_none]
   intro x hx e2
   have := hq x hx
   have := of_decide_eq_true e2
   omega
  rw [this, if_pos e]
  have h2 : [p].find? (fun p => decide (p.f0 = j)) = some p := List.find?_cons_of_pos (decide_eq_true e)
  rw [h2]
  rfl
 ·have h2 : [p].find? (fun p => decide (p.f0 = j)) = none := by
   rw [List.find?_eq_none]
   intro x hx e2
   rw [List.mem_singleton.1 hx] at e2
   exact e (of_decide_eq_true e2)
  rw [h2, if_neg e, Option.or_none]
theorem last_of {α : Type} : ∀ {l : List α}, l ≠ [] → ∃ q p, l = q ++ [p]
 | [], h => absurd rfl h
 | a :: l, _ => ⟨(a :: l).dropLast, (a :: l).getLast (by simp), (List.dropLast_concat_getLast (by simp)).symm⟩
theorem bump_ok {i : Int} {ps : List Po} (h : PsOK i ps) (h0 : 0 ≤ i) (hne : ps ≠ []) (hlt : tmP ps i < 100) : PsOK i (bump ps i) ∧ bump ps i ≠ [] ∧ ∀ j, tmP (bump ps i) j = tmP ps j + if j = i then 1 else 0 := by
 obtain ⟨qs, p, rfl⟩ := last_of hne
 have hr := List.pairwise_append.1 h.rise
 have hq : ∀ q ∈ qs, q.f0 < p.f0 := fun q hq => hr.2.2 q hq p (by simp)
 have hp := h.each p (by simp)
 have e1 : (qs ++ [p]).getD ((qs ++ [p]).length - 1) ⟨0, 0⟩ = p := by
  rw [List.length_append, List.getD_eq_getElem?_getD]
  simp
 have e2 : ∀ x : Po, (qs ++ [p]).set ((qs ++ [p]).length - 1) x = qs ++ [x] := fun x => by
  rw [List.length_append, List.set_append_right _ _ (by simp)]
  simp
 unfold bump
 rw [e1, e2]
 by_cases hpi : p.f0 = i
 ·rw [if_pos hpi]
  rw [tmP_app hq, if_pos hpi] at hlt
  rw [w64 (n := p.f1 + 1) (by omega) (by omega)]
  refine ⟨⟨List.pairwise_append.2 ⟨hr.1, List.pairwise_singleton _ _, fun a ha b hb => ?_⟩, fun q hq' => ?_⟩, by simp, fun j => ?_⟩
  ·rw [List.mem_singleton.1 hb]
   exact hq a ha
  ·rcases List.mem_append.1 hq' with hq' | hq'
   ·exact h.each q (List.mem_append_left _ hq')
   ·rw [List.mem_singleton.1 hq']
    exact ⟨hp.1, hp.2.1, by dsimp only; omega, by dsimp only; omega⟩
  ·rw [tmP_app hq, tmP_app (p := ⟨p.f0, p.f1 + 1⟩) hq]
   show (if p.f0 = j then p.f1 + 1 else _) = _
   by_cases e : j = i
   ·rw [if_pos (by omega), if_pos (by omega), if_pos e]
   ·rw [if_neg (by omega), if_neg (by omega), if_neg e, Int.add_zero]
 ·rw [if_neg hpi]
  have hlt2 : ∀ q ∈ qs ++ [p], q.f0 < i := fun q hq' => by
   rcases List.mem_append.1 hq' with hq' | hq'
   ·have := hq q hq'
    omega
   ·rw [List.mem_singleton.1 hq']
    omega
  refine ⟨⟨List.pairwise_append.2 ⟨h.rise, List.pairwise_singleton _ _, fun a ha b hb => ?_⟩, fun q hq' => ?_⟩, by simp, fun j => ?_⟩
  ·rw [List.mem_singleton.1 hb]
   exact hlt2 a ha
  ·rcases List.mem_append.1 hq' with hq' | hq'
   ·exact h.each q hq'
   ·rw [List.mem_singleton.1 hq']
    exact ⟨h0, Int.le_refl _, by dsimp only; omega, by dsimp only; omega⟩
  ·rw [tmP_app (p := ⟨i, 1⟩) hlt2]
   show (if i = j then 1 else _) = _
   by_cases e : j = i
   ·subst e
    rw [if_pos rfl, if_pos rfl, tmP_none (fun q hq => by have := hlt2 q hq; omega)]
    rfl
   ·rw [if_neg (by omega), if_neg e, Int.add_zero]

/-- Entries that are good so far. -/
structure Inv (i : Int) (l : List En) : Prop where
 rise : l.Pairwise (fun a b => ltS a.f0 b.f0 = true)
 each : ∀ e ∈ l, isW e.f0 = true ∧ e.f1 ≠ [] ∧ PsOK i e.f1
theorem Inv.nil (i : Int) : Inv i [] := ⟨List.Pairwise.nil, fun _ h => by cases h⟩
theorem Inv.next {i : Int} {l : List En} (h : Inv i l) : Inv (i + 1) l := ⟨h.rise, fun e he => by obtain ⟨h1, h2, h3⟩ := h.each e he; exact ⟨h1, h2, h3.next⟩⟩
theorem posts_mid {A B : List En} {e : En} {t : ByteArray} (hA : e.f0 = t → ∀ a ∈ A, a.f0 ≠ t) : posts (A ++ e :: B) t = if e.f0 = t then e.f1 else posts (A ++ B) t := by
 unfold posts
 rw [List.find?_append, List.find?_append]
 by_cases h : e.f0 = t
 ·have h1 : A.find? (fun e => decide (e.f0 = t)) = none := by
   rw [List.find?_eq_none]
   intro x hx e2
   exact hA h x hx (of_decide_eq_true e2)
  have h2 : (e :: B).find? (fun e => decide (e.f0 = t)) = some e := List.find?_cons_of_pos (decide_eq_true h)
  rw [h1, h2, if_pos h]
  rfl
 ·have h2 : (e :: B).find? (fun e => decide (e.f0 = t)) = B.find? (fun e => decide (e.f0 = t)) := List.find?_cons_of_neg (by simpa using h)
  rw [h2, if_neg h]
theorem posts_out {l : List En} {t : ByteArray} (h : ∀ e ∈ l, e.f0 ≠ t) : posts l t = [] := by
 have : l.find? (fun e => decide (e.f0 = t)) = none := by
  rw [List.find?_eq_none]
  intro x hx e
  exact h x hx (of_decide_eq_true e)
 unfold posts
 rw [this]
theorem tw_all {α : Type} (p : α → Bool) : ∀ (l : List α), ∀ x ∈ l.takeWhile p, p x = true
 | [], x, h => by cases h
 | a :: l, x, h => by
  rw [List.takeWhile_cons] at h
  split at h
  ·rename_i hp
   rcases List.mem_cons.1 h with rfl | h
   ·exact hp
   ·exact tw_all p l x h
  ·cases h
theorem tw_cut {α : Type} (p : α → Bool) : ∀ l : List α, l.take (l.takeWhile p).length = l.takeWhile p ∧ l.drop (l.takeWhile p).length = l.dropWhile p
 | [] => by simp
 | a :: l => by
  have ih := tw_cut p l
  by_cases h : p a = true
  ·simp [h, ih]
  ·simp [h]
theorem tmP_one (i j : Int) : tmP [⟨i, 1⟩] j = if j = i then 1 else 0 := by
 have := tmP_app (qs := []) (p := ⟨i, 1⟩) (j := j) (fun q hq => by cases hq)
 rw [List.nil_append] at this
 rw [this]
 show (if i = j then (1 : Int) else tmP [] j) = _
 by_cases e : j = i
 ·rw [if_pos e.symm, if_pos e]
 ·rw [if_neg (fun h => e h.symm), if_neg e]
  rfl
theorem psOK_one {i : Int} (h0 : 0 ≤ i) : PsOK i [⟨i, 1⟩] := ⟨List.pairwise_singleton _ _, fun p hp => by
 rw [List.mem_singleton.1 hp]
 exact ⟨h0, Int.le_refl _, by dsimp only; omega, by dsimp only; omega⟩⟩
theorem set_mid {α : Type} (A : List α) (b : α) (B : List α) (y : α) : (A ++ b :: B).set A.length y = A ++ y :: B := by
 rw [List.set_append_right _ _ (Nat.le_refl _), Nat.sub_self]
 rfl
theorem cnt_inv {i : Int} {l : List En} {t : ByteArray} (h : Inv i l) (ht : isW t = true) (h0 : 0 ≤ i) (hlt : tm l t i < 100) :
  Inv i (cnt l t i) ∧ ∀ t' j, tm (cnt l t i) t' j = tm l t' j + if t' = t ∧ j = i then 1 else 0 := by
 obtain ⟨c1, c2⟩ := tw_cut (fun e : En => ltS e.f0 t) l
 have c3 : l.takeWhile (fun e : En => ltS e.f0 t) ++ l.dropWhile (fun e : En => ltS e.f0 t) = l := List.takeWhile_append_dropWhile
 have hA := tw_all (fun e : En => ltS e.f0 t) l
 have hhd := List.head?_dropWhile_not (fun e : En => ltS e.f0 t) l
 have hidx : idx l t = (l.takeWhile (fun e : En => ltS e.f0 t)).length := rfl
 rw [← hidx] at c1 c2
 generalize l.takeWhile (fun e : En => ltS e.f0 t) = A at *
 generalize l.dropWhile (fun e : En => ltS e.f0 t) = B at *
 have hAn : ∀ a ∈ A, a.f0 ≠ t := fun a ha e => by
  have := hA a ha
  rw [e, ltS_irrefl] at this
  cases this
 have hr := h.rise
 have he := h.each
 have ins : (∀ b ∈ B, ltS t b.f0 = true) → Inv i (A ++ ⟨t, [⟨i, 1⟩]⟩ :: B) ∧ ∀ t' j, tm (A ++ ⟨t, [⟨i, 1⟩]⟩ :: B) t' j = tm l t' j + if t' = t ∧ j = i then 1 else 0 := fun hB => by
  rw [← c3] at hr he
  have hr2 := List.pairwise_append.1 hr
  refine ⟨⟨List.pairwise_append.2 ⟨hr2.1, List.pairwise_cons.2 ⟨hB, hr2.2.1⟩, fun a ha b hb => ?_⟩, fun e he' => ?_⟩, fun t' j => ?_⟩
  ·rcases List.mem_cons.1 hb with rfl | hb
   ·exact hA a ha
   ·exact hr2.2.2 a ha b hb
  ·rcases List.mem_append.1 he' with he' | he'
   ·exact he e (List.mem_append_left _ he')
   ·rcases List.mem_cons.1 he' with rfl | he'
    ·exact ⟨ht, by simp, psOK_one h0⟩
    ·exact he e (List.mem_append_right _ he')
  ·unfold tm
   rw [posts_mid (e := ⟨t, [⟨i, 1⟩]⟩) (fun e a ha => by rw [← e]; exact hAn a ha), c3]
   by_cases e : t = t'
   ·subst e
    rw [if_pos rfl, tmP_one]
    have : posts l t = [] := posts_out (fun e he e2 => by
     rw [← c3] at he
     rcases List.mem_append.1 he with he | he
     ·exact hAn e he e2
     ·have := hB e he
      rw [e2, ltS_irrefl] at this
      cases this)
    rw [this]
    show _ = 0 + _
    simp
   ·rw [if_neg e, if_neg (fun h => e h.1.symm), Int.add_zero]
 cases B with
 | nil =>
  have hn : ¬ (idx l t < l.length ∧ (l.getD (idx l t) ⟨t, []⟩).f0 = t) := fun h2 => by
   have := congrArg List.length c2
   rw [List.length_drop] at this
   have h3 : ([] : List En).length = 0 := rfl
   omega
  unfold cnt
  rw [if_neg hn, c1, c2]
  exact ins (fun b hb => by cases hb)
 | cons b B =>
  have hb0 : ltS b.f0 t = false := by simpa using hhd
  have hlen : idx l t < l.length := by
   have := congrArg List.length c2
   rw [List.length_drop, List.length_cons] at this
   omega
  have hget : l.getD (idx l t) ⟨t, []⟩ = b := by
   have h2 : (l.drop (idx l t))[0]? = some b := by rw [c2]; rfl
   rw [List.getElem?_drop, Nat.add_zero] at h2
   rw [List.getD_eq_getElem?_getD, h2]
   rfl
  by_cases hbt : b.f0 = t
  ·have hset : l.set (idx l t) ⟨t, bump b.f1 i⟩ = A ++ ⟨t, bump b.f1 i⟩ :: B := by
    have e := set_mid A b B ⟨t, bump b.f1 i⟩
    rw [c3] at e
    rw [hidx]
    exact e
   have hpb : posts l t = b.f1 := by
    rw [← c3, posts_mid (fun _ => hAn), if_pos hbt]
   unfold cnt
   rw [hget, if_pos ⟨hlen, hbt⟩, hset]
   rw [← c3] at hr he
   obtain ⟨g1, g2, g3⟩ := he b (by simp)
   have hlt2 : tmP b.f1 i < 100 := by rw [← hpb]; exact hlt
   obtain ⟨k1, k2, k3⟩ := bump_ok g3 h0 g2 hlt2
   have hr2 := List.pairwise_append.1 hr
   have hr3 := List.pairwise_cons.1 hr2.2.1
   refine ⟨⟨List.pairwise_append.2 ⟨hr2.1, List.pairwise_cons.2 ⟨fun a ha => ?_, hr3.2⟩, fun a ha c hc => ?_⟩, fun e he' => ?_⟩, fun t' j => ?_⟩
   ·show ltS t a.f0 = true
    rw [← hbt]
    exact hr3.1 a ha
   ·rcases List.mem_cons.1 hc with rfl | hc
    ·exact hA a ha
    ·exact hr2.2.2 a ha c (List.mem_cons_of_mem _ hc)
   ·rcases List.mem_append.1 he' with he' | he'
    ·exact he e (List.mem_append_left _ he')
    ·rcases List.mem_cons.1 he' with rfl | he'
     ·exact ⟨ht, k2, k1⟩
     ·exact he e (List.mem_append_right _ (List.mem_cons_of_mem _ he'))
   ·unfold tm
    rw [posts_mid (e := ⟨t, bump b.f1 i⟩) (fun e a ha => by rw [← e]; exact hAn a ha)]
    by_cases e : t = t'
    ·subst e
     rw [if_pos rfl, hpb, k3]
     by_cases e2 : j = i
     ·rw [if_pos e2, if_pos ⟨rfl, e2⟩]
     ·rw [if_neg e2, if_neg (fun h => e2 h.2)]
    ·rw [if_neg e, if_neg (fun h => e h.1.symm), Int.add_zero]
     rw [← c3, posts_mid (fun e2 => absurd (hbt.symm.trans e2) e), if_neg (fun e2 => e (hbt.symm.trans e2))]
  ·unfold cnt
   rw [hget, if_neg (fun h => hbt h.2), c1, c2]
   refine ins (fun a ha => ?_)
   have hb1 : ltS t b.f0 = true := by
    cases h2 : ltS t b.f0 with
    | true => rfl
    | false => exact absurd (ltS_tri hb0 h2) hbt
   rw [← c3] at hr
   have hr2 := List.pairwise_append.1 hr
   have hr3 := List.pairwise_cons.1 hr2.2.1
   rcases List.mem_cons.1 ha with rfl | ha
   ·exact hb1
   ·exact ltS_trans hb1 (hr3.1 a ha)
/-- How often a word stands among words. -/
def times (ws : List ByteArray) (t : ByteArray) : Nat := ws.countP (fun x => decide (x = t))
theorem text_inv {i : Int} (h0 : 0 ≤ i) : ∀ (ws : List ByteArray) (l : List En), Inv i l → (∀ t ∈ ws, isW t = true) → (∀ t, tm l t i + (ws.length : Int) ≤ 100) →
  Inv i (ws.foldl (fun l t => cnt l t i) l) ∧ ∀ t' j, tm (ws.foldl (fun l t => cnt l t i) l) t' j = tm l t' j + if j = i then (times ws t' : Int) else 0
 | [], l, h, _, _ => ⟨h, fun t' j => by simp [times]⟩
 | t :: ws, l, h, hw, hl => by
  have h1 := hl t
  rw [List.length_cons] at h1
  obtain ⟨a1, a2⟩ := cnt_inv h (hw t List.mem_cons_self) h0 (by omega)
  obtain ⟨b1, b2⟩ := text_inv h0 ws (cnt l t i) a1 (fun x hx => hw x (List.mem_cons_of_mem _ hx)) (fun x => by
   have h2 := hl x
   rw [List.length_cons] at h2
   rw [a2]
   split <;> omega)
  refine ⟨b1, fun t' j => ?_⟩
  rw [List.foldl_cons, b2, a2]
  unfold times
  rw [List.countP_cons]
  by_cases e : j = i
  ·rw [if_pos e, if_pos e]
   by_cases e2 : t = t'
   ·rw [if_pos ⟨e2.symm, e⟩, if_pos (decide_eq_true e2)]
    omega
   ·rw [if_neg (fun h => e2 h.1.symm), if_neg (fun h => e2 (of_decide_eq_true h))]
    omega
  ·rw [if_neg e, if_neg e, if_neg (fun h => e h.2), Int.add_zero]
/-- The entries of the first texts. -/
def idxTo (ts : List ByteArray) : Nat → List En
 | 0 => []
 | k + 1 => (wordsOf (ts.getD k ByteArray.empty)).foldl (fun l t => cnt l t (k : Int)) (idxTo ts k)
theorem tm_next {i : Int} {l : List En} (h : Inv i l) (t : ByteArray) {j : Int} (hj : i < j) : tm l t j = 0 := by
 refine tmP_none (fun q hq e => ?_)
 unfold posts at hq
 split at hq
 ·rename_i e1 he
  have := ((h.each _ (List.mem_of_find?_eq_some he)).2.2.each q hq).2.1
  omega
 ·cases hq
theorem idx_inv (ts : List ByteArray) (hw : ∀ s ∈ ts, (wordsOf s).length ≤ 100 ∧ ∀ t ∈ wordsOf s, isW t = true) : ∀ k, k ≤ ts.length → Inv ((k : Int) - 1) (idxTo ts k) ∧ ∀ t (j : Nat), tm (idxTo ts k) t (j : Int) = if j < k then (times (wordsOf (ts.getD j ByteArray.empty)) t : Int) else 0
 | 0, _ => ⟨Inv.nil _, fun t j => by rw [if_neg (by omega)]; rfl⟩
 | k + 1, hk => by
  obtain ⟨h1, h2⟩ := idx_inv ts hw k (by omega)
  have h3 : Inv (k : Int) (idxTo ts k) := by
   have := h1.next
   rw [show (k : Int) - 1 + 1 = (k : Int) by omega] at this
   exact this
  have hg : ts.getD k ByteArray.empty = ts[k] := by rw [List.getD_eq_getElem?_getD, List.getElem?_eq_getElem (by omega)]; rfl
  have hwk := hw ts[k] (List.getElem_mem _)
  obtain ⟨h4, h5⟩ := text_inv (i := (k : Int)) (by omega) (wordsOf (ts.getD k ByteArray.empty)) (idxTo ts k) h3 (by rw [hg]; exact hwk.2) (fun t => by
   rw [tm_next h1 t (by omega), hg]
   have := hwk.1
   omega)
  rw [show (((k + 1 : Nat) : Int) - 1) = (k : Int) by omega]
  refine ⟨h4, fun t j => ?_⟩
  show tm ((wordsOf (ts.getD k ByteArray.empty)).foldl (fun l t => cnt l t (k : Int)) (idxTo ts k)) t (j : Int) = _
  rw [h5, h2]
  by_cases e : j = k
  ·subst e
   rw [if_neg (by omega), if_pos rfl, if_pos (by omega)]
   omega
  ·rw [if_neg (by omega : ¬ (j : Int) = (k : Int))]
   by_cases e2 : j < k
   ·rw [if_pos e2, if_pos (by omega)]
    omega
   ·rw [if_neg e2, if_neg (by omega)]
    rfl
theorem small_small (c : Int) (h : small c ≠ 0) : small (small c) = small c := by
 unfold small at *
 split
 ·rename_i h1
  split
  ·omega
  ·split
   ·rfl
   ·omega
 ·rename_i h1
  split
  ·rfl
  ·rename_i h2
   rw [if_neg h1, if_neg h2] at h
   exact absurd rfl h
theorem words_are (s : ByteArray) : ∀ x ∈ wordsOf s, isW x = true := by
 intro x hx
 obtain ⟨h1, h2, h3, h4⟩ := step_inv s s.size (Nat.le_refl _)
 have h4 : ∀ c ∈ (stepW s s.size).2, 0 ≤ c ∧ c < 256 := h4
 have h5 := flat_flush (stepW s s.size).1 (stepW s s.size).2 h4
 rw [h1] at h5
 have hsz : 1 ≤ x.size ∧ x.size ≤ 20 := by
  unfold wordsOf flushO at hx
  split at hx
  ·rename_i hp
   rw [List.mem_append, List.mem_singleton] at hx
   rcases hx with hx | rfl
   ·exact h2 x hx
   ·rw [str_size]
    exact ⟨hp, h3⟩
  ·exact h2 x hx
 unfold isW
 rw [Bool.and_eq_true, decide_eq_true_eq, List.all_eq_true]
 refine ⟨hsz, fun c hc => ?_⟩
 have hm : c ∈ (wordsOf s).flatMap bytesOf := List.mem_flatMap.2 ⟨x, hx, hc⟩
 unfold wordsOf at hm
 rw [h5, List.mem_filter] at hm
 obtain ⟨b, _, rfl⟩ := List.mem_map.1 hm.1
 have hb : small b ≠ 0 := of_decide_eq_true hm.2
 unfold okB
 exact decide_eq_true ⟨by rw [small_small b hb]; exact hb, small_small b hb⟩
theorem half (s : ByteArray) : ∀ i, 2 * (stepW s i).1.length + (stepW s i).2.length ≤ i
 | 0 => by simp [stepW]
 | i + 1 => by
  have ih := half s i
  unfold stepW
  generalize stepW s i = p at *
  generalize small (bt s (i : Int)) = c
  have hf : 2 * (flushO p.1 p.2).length ≤ 2 * p.1.length + p.2.length + 1 := by
   unfold flushO
   split
   ·rw [List.length_append, List.length_singleton]
    omega
   ·omega
  have hf2 : p.2.length = 20 → 2 * (flushO p.1 p.2).length + 1 ≤ i + 1 := fun h => by
   unfold flushO
   rw [if_pos (by omega), List.length_append, List.length_singleton]
   omega
  unfold stepC stepO
  by_cases hc : c = 0
  ·rw [if_pos hc, if_pos (.inl hc)]
   show 2 * (flushO p.1 p.2).length + 0 ≤ i + 1
   omega
  ·rw [if_neg hc]
   by_cases h20 : p.2.length = 20
   ·rw [if_pos (.inr h20)]
    exact hf2 h20
   ·rw [if_neg (fun h => h.elim hc h20)]
    show 2 * p.1.length + (p.2 ++ [c]).length ≤ i + 1
    rw [List.length_append, List.length_singleton]
    omega
theorem words_100 (s : ByteArray) (h : s.size ≤ 200) : (wordsOf s).length ≤ 100 := by
 have := half s s.size
 unfold wordsOf flushO
 split
 ·rw [List.length_append, List.length_singleton]
  omega
 ·omega
theorem good_of {x : Int} {l : List En} (h : Inv (x - 1) l) (hx : 0 ≤ x ∧ x ≤ 40) (hl : l.length ≤ 200) : goodW x l = true := by
 unfold goodW
 rw [Bool.and_eq_true, Bool.and_eq_true, decide_eq_true_eq, decide_eq_true_eq, List.all_eq_true]
 refine ⟨⟨hx, hl⟩, fun i hi => ?_⟩
 obtain ⟨_, hi⟩ := List.mem_range'.1 hi
 have hi : i < l.length := by omega
 obtain ⟨h1, h2, h3⟩ := h.each _ (List.getElem_mem hi)
 unfold entOK
 rw [rd_en l i hi, w64 (n := x - 1) (by omega) (by omega)]
 simp only [Bool.and_eq_true, Bool.or_eq_true, decide_eq_true_eq, Bool.not_eq_true', decide_eq_false_iff_not]
 refine ⟨⟨⟨h1, ?_⟩, fun e => h2 (List.eq_nil_of_length_eq_zero e)⟩, ok_of _ _ _ h3.rise (fun p hp => by have := h3.each p hp; omega)⟩
 by_cases h0 : i = 0
 ·exact .inl h0
 ·right
  rw [show (i : Int) - 1 = ((i - 1 : Nat) : Int) by omega, rd_en l (i - 1) (by omega)]
  exact List.pairwise_iff_getElem.1 h.rise (i - 1) i (by omega) hi (by omega)
/-- What IndexOf answers. -/
def ansIdx (ts : List ByteArray) : Int × List En × Bool := if ts.length ≤ 40 ∧ (∀ s ∈ ts, s.size ≤ 200) ∧ (idxTo ts ts.length).length ≤ 200 then ((ts.length : Int), idxTo ts ts.length, true) else (0, [], false)
end Go.Proofs.Ytaomjndfjmfelaa.Idx
end

section
namespace Go.Proofs.Ytaomjndfjmfelaa.PQ
open Go.RowKit Go.Proofs.YtaomjndfjmfelaaW.PrintWords Go.Proofs.YtaomjndfjmfelaaW.PrintLast Go.Proofs.YtaomjndfjmfelaaW.PrintMore
attribute [local go_sem] max2_int min2_int max_two min_two max_three min_three max_four min_four
set_option linter.unusedVariables false
set_option linter.unusedSimpArgs false
def spec_l10Count.f (l0 : List (S102)) (a1 : ByteArray) (a2 : Int) : Option (List (S102)) := if l0.length ≤ 1048575 ∧ ∀ e ∈ l0, 0 < e.f1.length ∧ e.f1.length ≤ 1048575 then some (Cou.cnt l0 a1 a2) else none
theorem spec_l10Count.calls (P0_ : Nat → Prop) (u9000_ : Value) (l0 : List (S102)) (a1 : ByteArray) (a2 : Int) (r : List (S102)) (w0 w : World) (hB : Below w0.heap.size w0 w) (ho0 : Kd.S k102 102 w w0.heap.size P0_ u9000_ l0) (h : spec_l10Count.f l0 a1 a2 = some r) :
  Calls Try.prog 80 #[u9000_, .string a1, .int .i64 a2] w fun e w' => ∃ v0_ : Value, e = .returned (v0_) ∧ Kd.S k102 102 w' w0.heap.size (fun k_ => (P0_ k_ ∨ w.heap.size ≤ k_)) v0_ r ∧ Below w0.heap.size w0 w' ∧ Kept w w' (fun k_ => P0_ k_) := by
 unfold spec_l10Count.f at h
 split at h
 ·rename_i hs
  obtain rfl := Option.some.inj h
  exact Cou.count_calls P0_ u9000_ l0 a1 a2 w0 w hB ho0 hs.1 hs.2
 ·cases h

mutual
def spec_IndexOf.l0 : Nat → List ByteArray → Int → Int → Int → List (S102) → Option (Int × (List (S102)) × Bool)
 | 0, _, _, _, _, _ => none
 | k + 1, x16, x17, x18, x328000, x328001 => if x18 < x17 then (if 0 ≤ x18 then (if x18 < (x16.length : Int) then (if ((rdOf ByteArray.empty x16 x18).size : Int) > 200 then (some (0, ([] : List (S102)), false)) else ((spec_l10In.f k (rdOf ByteArray.empty x16 x18)).bind fun t330 => (spec_IndexOf.l1 k x18 x16 x17 x18 t330 (t330.length : Int) 0 x328000 x328001))) else (none)) else (none)) else ((spec_GoodWords.f k x328000 x328001).bind fun t328 => (if t328 = true then (some (x328000, x328001, true)) else (some (0, ([] : List (S102)), false))))
def spec_IndexOf.l1 : Nat → Int → List ByteArray → Int → Int → List ByteArray → Int → Int → Int → List (S102) → Option (Int × (List (S102)) × Bool)
 | 0, _, _, _, _, _, _, _, _, _ => none
 | k + 1, x5, x16, x17, x18, x28, x29, x30, x328000, x328001 => if x30 < x29 then (if 0 ≤ x30 then (if x30 < (x28.length : Int) then ((spec_l10Count.f x328001 (rdOf ByteArray.empty x28 x30) x5).bind fun t334 => (spec_IndexOf.l1 k x5 x16 x17 x18 x28 x29 (wrap64 (x30 + 1)) x328000 t334)) else (none)) else (none)) else (spec_IndexOf.l0 k x16 x17 (wrap64 (x18 + 1)) x328000 x328001)
end
def spec_IndexOf.f (k : Nat) (l0 : List ByteArray) : Option (Int × (List (S102)) × Bool) := if (l0.length : Int) > 40 then (some (0, ([] : List (S102)), false)) else (spec_IndexOf.l0 k l0 (l0.length : Int) 0 (l0.length : Int) ([] : List (S102)))
set_option maxHeartbeats 8000000 in
set_option maxRecDepth 100000 in
theorem spec_IndexOf.calls (k : Nat) (A0 : Option Addr) (c0 : Nat) (l0 : List ByteArray) (r1 : Int) (r2 : List (S102)) (r3 : Bool) (w : World) (hr0 : Kd.C Kd.string w A0 l0.length l0) (hc0 : l0.length ≤ c0) (h : spec_IndexOf.f k l0 = some (r1, r2, r3)) :
  Calls Try.prog 32 #[.slice A0 l0.length c0] w fun e w' => ∃ v1_ : Value, e = .returned (.tuple #[.agg #[.int .i64 r1, v1_], .bool r3]) ∧ Kd.S k102 102 w' w.heap.size (fun _ => True) v1_ r2 ∧ Below w.heap.size w w' := by
 have hu33 := Try.underlying33
 have HR0 := aM hr0
 have HC0 := aM hc0
 clear hr0 hc0
 have HB := aM (Below.refl w.heap.size w)
 have H : (if (l0.length : Int) > 40 then (some (0, ([] : List (S102)), false)) else (spec_IndexOf.l0 k l0 (l0.length : Int) 0 (l0.length : Int) ([] : List (S102)))) = some (r1, r2, r3) := h
 clear h
 by_cases c2 : (l0.length : Int) > 40
 ·rw [if_pos c2] at H
  have c2b0 : decide (40 < (l0.length : Int)) = true := decide_eq_true c2
  have c2b1 : decide (40 < l0.length) = true := decide_eq_true (by omega)
  clear c2
  simp only [Option.some.injEq, Prod.mk.injEq] at H
  obtain ⟨rfl, rfl, rfl⟩ := H
  go_enter Try.func32, Try.ntmps32
  go_wp2_with (first | ((with_reducible refine gate_dst (N := 2) rfl ?_); refine box_event ?hg (N := 2) ?hd (cs := #[.int .i64 0, .slice none 0 0]) (t := 33) ?hr ?_; (case hd => rfl); (case hg => rfl); (case hr => first | (go_simp; done) | (go_simp; rfl)); intro gb326 hg w3 hbox hb; have n0_ := aM (below_step (by repeat (first | (with_reducible first | exact HB.out | apply below_alloc | apply pw_below_drewN | apply below_drew1) | exact HB.out)) hb); have n1_ := aM (hbox); have n2_ := aM ((by rw [hg]; exact (below_size (by repeat (first | (with_reducible first | exact HB.out | apply below_alloc | apply pw_below_drewN | apply below_drew1) | exact HB.out))) : w.heap.size ≤ gb326)); have n3_ := aM ((by rw [hg]; exact (below_size (by repeat (first | (with_reducible first | exact HB.out | apply below_alloc | apply pw_below_drewN | apply below_drew1) | exact HB.out))) : w.heap.size ≤ gb326)); clear HB; have HB := n0_; have BK326 := n1_; have GW326 := n2_; have GE326 := n3_; clear n0_ n1_ n2_ n3_; clear hb hbox hg; have hcz4_0 : w3.cell? ⟨gb326, 0, none⟩ = some (.int .i64 0) := (blk_cell BK326.out 0).trans rfl; have hcz4_1 : w3.cell? ⟨gb326, 1, none⟩ = some (.slice none 0 0) := (blk_cell BK326.out 1).trans rfl; have hfz4_0 := blk_frozen BK326.out 0; have hfz4_1 := blk_frozen BK326.out 1))
  refine bodyPost_ret (results_ct rfl _ _ gb326 33 #[.int .i64 0, .slice none 0 0] (0, 0) _ rfl (by (with_reducible repeat (first | refine blk_drewN ?_ _ | refine blk_drew ?_ | refine blk_alloc ?_ _)); refine blk_put (cs := #[.int .i64 0, .slice none 0 0]) ?_ 1 _ rfl; (with_reducible repeat (first | refine blk_drewN ?_ _ | refine blk_drew ?_ | refine blk_alloc ?_ _)); refine blk_put (cs := #[.int .i64 0, .slice none 0 0]) ?_ 0 _ rfl; (with_reducible repeat (first | refine blk_drewN ?_ _ | refine blk_drew ?_ | refine blk_alloc ?_ _)); exact BK326.out) Try.underlying33 rfl (by kernel_rfl)) rfl ?_
  exact ⟨_, eR, by first | exact Kd.S_nil _ _ _ _ _ | exact Kd.N_nil _ _ _ _ _ | exact Kd.V_nil _ _ _ _ _ | exact Kd.Q_nil _ _ _ _ _ | exact Kd.R_nil _ _ _ _ _, by repeat (first | (with_reducible first | exact HB.out | apply below_alloc | apply pw_below_drewN | apply below_drew1 | refine below_set ?_ GE326.out) | exact HB.out)⟩
 ·rw [if_neg c2] at H
  have c2b0 : decide (40 < (l0.length : Int)) = false := decide_eq_false c2
  have c2b1 : decide (40 < l0.length) = false := decide_eq_false (by omega)
  clear c2
  have H' := aM H
  clear H
  go_enter Try.func32, Try.ntmps32
  go_wp2_with (first | ((with_reducible refine gate_dst (N := 2) rfl ?_); refine box_event ?hg (N := 2) ?hd (cs := #[.int .i64 0, .slice none 0 0]) (t := 33) ?hr ?_; (case hd => rfl); (case hg => rfl); (case hr => first | (go_simp; done) | (go_simp; rfl)); intro gb326 hg w5 hbox hb; have n0_ := aM (below_step (by repeat (first | (with_reducible first | exact HB.out | apply below_alloc | apply pw_below_drewN | apply below_drew1) | exact HB.out)) hb); have n1_ := aM (hbox); have n2_ := aM ((by rw [hg]; exact (below_size (by repeat (first | (with_reducible first | exact HB.out | apply below_alloc | apply pw_below_drewN | apply below_drew1) | exact HB.out))) : w.heap.size ≤ gb326)); have n3_ := aM ((by rw [hg]; exact (below_size (by repeat (first | (with_reducible first | exact HB.out | apply below_alloc | apply pw_below_drewN | apply below_drew1) | exact HB.out))) : w.heap.size ≤ gb326)); clear HB; have HB := n0_; have BK326 := n1_; have GW326 := n2_; have GE326 := n3_; clear n0_ n1_ n2_ n3_; clear hb hbox hg) | ((with_reducible refine gate_dst (N := 4) rfl ?_); refine box_event ?hg (N := 4) ?hd (cs := #[.int .i64 0, .slice none 0 0]) (t := 33) ?hr ?_; (case hd => rfl); (case hg => rfl); (case hr => first | (go_simp; done) | (go_simp; rfl)); intro gb327 hg w6 hbox hb; have n0_ := aM (blk_below (g := gb326) (o := .cells #[.int .i64 0, .slice none 0 0] 33 (0, 0)) (by (with_reducible repeat (first | refine blk_drewN ?_ _ | refine blk_drew ?_ | refine blk_alloc ?_ _)); exact BK326.out) hb); have n1_ := aM (below_step (by repeat (first | (with_reducible first | exact HB.out | apply below_alloc | apply pw_below_drewN | apply below_drew1 | refine below_set ?_ GE326.out) | exact HB.out)) hb); have n2_ := aM (hbox); have n3_ := aM ((by rw [hg]; exact (below_size (by repeat (first | (with_reducible first | exact HB.out | apply below_alloc | apply pw_below_drewN | apply below_drew1 | refine below_set ?_ GE326.out) | exact HB.out))) : w.heap.size ≤ gb327)); have n4_ := aM ((by rw [hg]; exact (below_size (by repeat (first | (with_reducible first | exact HB.out | apply below_alloc | apply pw_below_drewN | apply below_drew1 | refine below_set ?_ GE326.out) | exact HB.out))) : w.heap.size ≤ gb327)); have n5_ := aM ((by rw [hg]; exact Nat.ne_of_lt (blk_lt (g := gb326) (o := .cells #[.int .i64 0, .slice none 0 0] 33 (0, 0)) (by (with_reducible repeat (first | refine blk_drewN ?_ _ | refine blk_drew ?_ | refine blk_alloc ?_ _)); exact BK326.out)) : gb326 ≠ gb327)); have n6_ := aM ((by rw [hg]; exact Nat.ne_of_gt (blk_lt (g := gb326) (o := .cells #[.int .i64 0, .slice none 0 0] 33 (0, 0)) (by (with_reducible repeat (first | refine blk_drewN ?_ _ | refine blk_drew ?_ | refine blk_alloc ?_ _)); exact BK326.out)) : gb327 ≠ gb326)); clear BK326; clear HB; have BK326 := n0_; have HB := n1_; have BK327 := n2_; have GW327 := n3_; have GE327 := n4_; have NB326_327 := n5_; have NB327_326 := n6_; clear n0_ n1_ n2_ n3_ n4_ n5_ n6_; clear hb hbox hg; have hnb7 := NB327_326.out; have hnc7 := NB326_327.out; have hcz8_0 : w6.cell? ⟨gb327, 0, none⟩ = some (.int .i64 0) := (blk_cell BK327.out 0).trans rfl; have hcz8_1 : w6.cell? ⟨gb327, 1, none⟩ = some (.slice none 0 0) := (blk_cell BK327.out 1).trans rfl; have hfz8_0 := blk_frozen BK327.out 0; have hfz8_1 := blk_frozen BK327.out 1))
  go_loopg [18] k (fun kq v18 w' => ∃ (x18_1 : Int) (x327000_1 : Int) (x328001_1 : List (S102)) (u328001 : Value), v18 = .int .i64 x18_1 ∧ Aside0 (spec_IndexOf.l0 kq l0 (l0.length : Int) x18_1 (l0.length : Int) x328001_1 = some (r1, r2, r3)) ∧ Aside0 (kq ≤ k) ∧ Aside0 (Kd.S k102 102 w' w.heap.size (fun _ => True) u328001 x328001_1) ∧ Aside0 (w'.heap[gb326]? = some (.cells #[.int .i64 x327000_1, (.slice none 0 0)] 33 (0, 0))) ∧ Aside0 (w'.heap[gb327]? = some (.cells #[.int .i64 (l0.length : Int), u328001] 33 (0, 0))) ∧ Aside0 (Below w.heap.size w w'))
  case atStart => exact ⟨(0), (0), (([] : List (S102))), (.slice none 0 0), (by first | rfl | (simp; done) | (simp [*]; done)), H', ⟨Nat.le_refl _⟩, ⟨by first | exact Kd.S_nil _ _ _ _ _ | exact Kd.N_nil _ _ _ _ _ | exact Kd.V_nil _ _ _ _ _ | exact Kd.Q_nil _ _ _ _ _ | exact Kd.R_nil _ _ _ _ _⟩, ⟨by (with_reducible repeat (first | refine blk_drewN ?_ _ | refine blk_drew ?_ | refine blk_alloc ?_ _)); refine blk_far ?_ NB326_327.out _; (with_reducible repeat (first | refine blk_drewN ?_ _ | refine blk_drew ?_ | refine blk_alloc ?_ _)); refine blk_far ?_ NB326_327.out _; (with_reducible repeat (first | refine blk_drewN ?_ _ | refine blk_drew ?_ | refine blk_alloc ?_ _)); exact BK326.out⟩, ⟨by (with_reducible repeat (first | refine blk_drewN ?_ _ | refine blk_drew ?_ | refine blk_alloc ?_ _)); refine blk_put (cs := #[.int .i64 (l0.length : Int), .slice none 0 0]) ?_ 1 _ rfl; (with_reducible repeat (first | refine blk_drewN ?_ _ | refine blk_drew ?_ | refine blk_alloc ?_ _)); refine blk_put (cs := #[.int .i64 0, .slice none 0 0]) ?_ 0 _ rfl; (with_reducible repeat (first | refine blk_drewN ?_ _ | refine blk_drew ?_ | refine blk_alloc ?_ _)); exact BK327.out⟩, ⟨by repeat (first | (with_reducible first | exact HB.out | apply below_alloc | apply pw_below_drewN | apply below_drew1 | refine below_set ?_ GE326.out | refine below_set ?_ GE327.out) | exact HB.out)⟩⟩
  case round =>
   clear H'
   try clear c2
   try clear c2b0
   try clear c2b1
   try clear p2
   try clear c3
   try clear c7
   try clear hcz4_0
   try clear hcz4_1
   try clear hcz8_0
   try clear hcz8_1
   try clear hfz4_0
   try clear hfz4_1
   try clear hfz8_0
   try clear hfz8_1
   obtain ⟨x18_1, x327000_1, x328001_1, u328001, rfl, HA, HK1, HO_328001, BK326, BK327, HB⟩ := hrel
   cases gk with
   | zero => exact absurd HA.out (by simp [spec_IndexOf.l0])
   | succ k1 =>
    have H := HA.out
    clear HA
    simp only [spec_IndexOf.l0] at H
    by_cases c9 : x18_1 < (l0.length : Int)
    ·rw [if_pos c9] at H
     have c9b0 : decide (x18_1 < (l0.length : Int)) = true := decide_eq_true c9
     clear c9
     by_cases c10 : 0 ≤ x18_1
     ·rw [if_pos c10] at H
      have c10b0 : decide (0 ≤ x18_1) = true := decide_eq_true c10
      clear c10
      by_cases c11 : x18_1 < (l0.length : Int)
      ·rw [if_pos c11] at H
       have c11b0 : decide (x18_1 < (l0.length : Int)) = true := decide_eq_true c11
       clear c11
       by_cases c12 : ((rdOf ByteArray.empty l0 x18_1).size : Int) > 200
       ·rw [if_pos c12] at H
        have c12b0 : decide (200 < ((rdOf ByteArray.empty l0 x18_1).size : Int)) = true := decide_eq_true c12
        have c12b1 : decide (200 < (rdOf ByteArray.empty l0 x18_1).size) = true := decide_eq_true (by omega)
        clear c12
        simp only [Option.some.injEq, Prod.mk.injEq] at H
        obtain ⟨rfl, rfl, rfl⟩ := H
        have p329 : 0 ≤ (x18_1 : Int) := dT
        have q329 : x18_1 < (l0.length : Int) := dT
        obtain ⟨ad329, e329, hx329_0⟩ := Kd.at_string HR0.out x18_1 p329 q329
        cases e329
        replace hx329_0 := (HB.out.cell (World.block_lt_of_cell? w _ hx329_0)).trans hx329_0
        replace p329 := eq_true p329
        replace q329 := eq_true q329
        have hnb13 := NB326_327.out
        have hnc13 := NB327_326.out
        have hcz14_0 : wr.cell? ⟨gb326, 0, none⟩ = some (.int .i64 x327000_1) := (blk_cell BK326.out 0).trans rfl
        have hcz14_1 : wr.cell? ⟨gb326, 1, none⟩ = some (.slice none 0 0) := (blk_cell BK326.out 1).trans rfl
        have hfz14_0 := blk_frozen BK326.out 0
        have hfz14_1 := blk_frozen BK326.out 1
        go_wp2
        refine bodyPost_ret (results_ct rfl _ _ gb326 33 #[.int .i64 0, .slice none 0 0] (0, 0) _ rfl (by (with_reducible repeat (first | refine blk_drewN ?_ _ | refine blk_drew ?_ | refine blk_alloc ?_ _)); refine blk_put (cs := #[.int .i64 0, .slice none 0 0]) ?_ 1 _ rfl; (with_reducible repeat (first | refine blk_drewN ?_ _ | refine blk_drew ?_ | refine blk_alloc ?_ _)); refine blk_put (cs := #[.int .i64 x327000_1, .slice none 0 0]) ?_ 0 _ rfl; (with_reducible repeat (first | refine blk_drewN ?_ _ | refine blk_drew ?_ | refine blk_alloc ?_ _)); exact BK326.out) Try.underlying33 rfl (by kernel_rfl)) rfl ?_
        exact ⟨_, eR, by first | exact Kd.S_nil _ _ _ _ _ | exact Kd.N_nil _ _ _ _ _ | exact Kd.V_nil _ _ _ _ _ | exact Kd.Q_nil _ _ _ _ _ | exact Kd.R_nil _ _ _ _ _, by repeat (first | (with_reducible first | exact HB.out | apply below_alloc | apply pw_below_drewN | apply below_drew1 | refine below_set ?_ GE326.out | refine below_set ?_ GE327.out) | exact HB.out)⟩
       ·rw [if_neg c12] at H
        have c12b0 : decide (200 < ((rdOf ByteArray.empty l0 x18_1).size : Int)) = false := decide_eq_false c12
        have c12b1 : decide (200 < (rdOf ByteArray.empty l0 x18_1).size) = false := decide_eq_false (by omega)
        clear c12
        replace H := Option.bind_eq_some_iff.mp H
        obtain ⟨t330, A150, H⟩ := H
        replace H : (spec_IndexOf.l1 k1 x18_1 l0 (l0.length : Int) x18_1 t330 (t330.length : Int) 0 (l0.length : Int) x328001_1) = some (r1, r2, r3) := H
        have A15 := aM A150
        clear A150
        have H' := aM H
        clear H
        have p329 : 0 ≤ (x18_1 : Int) := dT
        have q329 : x18_1 < (l0.length : Int) := dT
        obtain ⟨ad329, e329, hx329_0⟩ := Kd.at_string HR0.out x18_1 p329 q329
        cases e329
        replace hx329_0 := (HB.out.cell (World.block_lt_of_cell? w _ hx329_0)).trans hx329_0
        replace p329 := eq_true p329
        replace q329 := eq_true q329
        go_wp2_with (first | ((with_reducible refine gate_callee (f := 79) rfl ?_); refine gL 28 Try.func79 #[.string (rdOf ByteArray.empty l0 x18_1)] ?_; (with_reducible refine (spec_l10In.calls k1 (rdOf ByteArray.empty l0 x18_1) t330 _ A15.out).mono ?_); rintro e w16 ⟨v331, rfl, ho0, hb⟩; refine ⟨_, rfl, ?_⟩; have n0_ := aM (Kd.S_below (by (with_reducible repeat (first | apply Kd.S_alloc | apply Kd.S_drewN | apply Kd.S_drew)); exact HO_328001.out) hb); have n1_ := aM (Kd.R_lower ho0 (below_size (by repeat (first | (with_reducible first | exact HB.out | apply below_alloc | apply pw_below_drewN | apply below_drew1 | refine below_set ?_ GE326.out | refine below_set ?_ GE327.out) | exact HB.out)))); have n2_ := aM (blk_below (g := gb326) (o := .cells #[.int .i64 x327000_1, .slice none 0 0] 33 (0, 0)) (by (with_reducible repeat (first | refine blk_drewN ?_ _ | refine blk_drew ?_ | refine blk_alloc ?_ _)); exact BK326.out) hb); have n3_ := aM (blk_below (g := gb327) (o := .cells #[.int .i64 (l0.length : Int), u328001] 33 (0, 0)) (by (with_reducible repeat (first | refine blk_drewN ?_ _ | refine blk_drew ?_ | refine blk_alloc ?_ _)); exact BK327.out) hb); have n4_ := aM (below_step (by repeat (first | (with_reducible first | exact HB.out | apply below_alloc | apply pw_below_drewN | apply below_drew1 | refine below_set ?_ GE326.out | refine below_set ?_ GE327.out) | exact HB.out)) hb); clear HO_328001; clear BK326; clear BK327; clear HB; have HO_328001 := n0_; have HO332 := n1_; have BK326 := n2_; have BK327 := n3_; have HB := n4_; clear n0_ n1_ n2_ n3_ n4_; (try clear hb); (try clear hb2); (try clear hk); (try clear hi); (try clear ho0); obtain ⟨Ao17, co17, eo17⟩ := Kd.R_slice HO332.out; subst eo17))
        go_loopg [30] k1 (fun kq v30 w' => ∃ (x30_2 : Int) (x328001_2 : List (S102)) (u328001 : Value), v30 = .int .i64 x30_2 ∧ Aside0 (spec_IndexOf.l1 kq x18_1 l0 (l0.length : Int) x18_1 t330 (t330.length : Int) x30_2 (l0.length : Int) x328001_2 = some (r1, r2, r3)) ∧ Aside0 (kq ≤ k1) ∧ Aside0 (Kd.R Kd.string 9 w' w.heap.size (fun _ => True) (.slice Ao17 t330.length co17) t330) ∧ Aside0 (Kd.S k102 102 w' w.heap.size (fun _ => True) u328001 x328001_2) ∧ Aside0 (w'.heap[gb326]? = some (.cells #[.int .i64 x327000_1, (.slice none 0 0)] 33 (0, 0))) ∧ Aside0 (w'.heap[gb327]? = some (.cells #[.int .i64 (l0.length : Int), u328001] 33 (0, 0))) ∧ Aside0 (Below w.heap.size w w'))
        case atStart => exact ⟨(0), (x328001_1), (u328001), (by first | rfl | (simp; done) | (simp [*]; done)), H', ⟨Nat.le_refl _⟩, ⟨by (with_reducible repeat (first | apply Kd.R_alloc | apply Kd.R_drewN | apply Kd.R_drew)); exact HO332.out⟩, ⟨by (with_reducible repeat (first | apply Kd.S_alloc | apply Kd.S_drewN | apply Kd.S_drew)); exact HO_328001.out⟩, ⟨by (with_reducible repeat (first | refine blk_drewN ?_ _ | refine blk_drew ?_ | refine blk_alloc ?_ _)); exact BK326.out⟩, ⟨by (with_reducible repeat (first | refine blk_drewN ?_ _ | refine blk_drew ?_ | refine blk_alloc ?_ _)); exact BK327.out⟩, ⟨by repeat (first | (with_reducible first | exact HB.out | apply below_alloc | apply pw_below_drewN | apply below_drew1 | refine below_set ?_ GE326.out | refine below_set ?_ GE327.out) | exact HB.out)⟩⟩
        case round =>
         clear H'
         try clear c1
         try clear c2
         try clear c2b0
         try clear c2b1
         try clear p2
         try clear c3
         try clear p3
         try clear q3
         try clear hx3
         try clear c7
         try clear c9
         try clear c9b0
         try clear c10
         try clear c10b0
         try clear c11
         try clear c11b0
         try clear c12
         try clear c12b0
         try clear c12b1
         try clear c13
         try clear hcz14_0
         try clear hcz14_1
         try clear hcz4_0
         try clear hcz4_1
         try clear hcz8_0
         try clear hcz8_1
         try clear hfz14_0
         try clear hfz14_1
         try clear hfz4_0
         try clear hfz4_1
         try clear hfz8_0
         try clear hfz8_1
         try clear hx329_0
         try clear p2
         try clear p329
         try clear q329
         obtain ⟨x30_2, x328001_2, u328001, rfl, HA, HK2, HO_28, HO_328001, BK326, BK327, HB⟩ := hrel
         cases gk with
         | zero => exact absurd HA.out (by simp [spec_IndexOf.l1])
         | succ k2 =>
          have H := HA.out
          clear HA
          simp only [spec_IndexOf.l1] at H
          by_cases c18 : x30_2 < (t330.length : Int)
          ·rw [if_pos c18] at H
           have c18b0 : decide (x30_2 < (t330.length : Int)) = true := decide_eq_true c18
           clear c18
           by_cases c19 : 0 ≤ x30_2
           ·rw [if_pos c19] at H
            have c19b0 : decide (0 ≤ x30_2) = true := decide_eq_true c19
            clear c19
            by_cases c20 : x30_2 < (t330.length : Int)
            ·rw [if_pos c20] at H
             have c20b0 : decide (x30_2 < (t330.length : Int)) = true := decide_eq_true c20
             clear c20
             replace H := Option.bind_eq_some_iff.mp H
             obtain ⟨t334, A210, H⟩ := H
             replace H : (spec_IndexOf.l1 k2 x18_1 l0 (l0.length : Int) x18_1 t330 (t330.length : Int) (wrap64 (x30_2 + 1)) (l0.length : Int) t334) = some (r1, r2, r3) := H
             have A21 := aM A210
             clear A210
             have H' := aM H
             clear H
             have p333 : 0 ≤ (x30_2 : Int) := dT
             have q333 : x30_2 < (t330.length : Int) := dT
             obtain ⟨ad333, e333, hx333_0⟩ := Kd.at_string (Kd.R_reads' HO_28.out).2.2 x30_2 p333 q333
             cases e333
             replace p333 := eq_true p333
             replace q333 := eq_true q333
             have hnb22 := NB327_326.out
             have hnc22 := NB326_327.out
             have hcz23_0 : wr.cell? ⟨gb327, 0, none⟩ = some (.int .i64 (l0.length : Int)) := (blk_cell BK327.out 0).trans rfl
             have hcz23_1 : wr.cell? ⟨gb327, 1, none⟩ = some (u328001) := (blk_cell BK327.out 1).trans rfl
             have hfz23_0 := blk_frozen BK327.out 0
             have hfz23_1 := blk_frozen BK327.out 1
             obtain ⟨Ao24, co24, eo24⟩ := Kd.S_slice HO_328001.out
             subst eo24
             go_wp2_with (first | ((with_reducible refine gate_callee (f := 80) rfl ?_); refine gL 38 Try.func80 #[.slice Ao24 x328001_2.length co24, .string (rdOf ByteArray.empty t330 x30_2), .int .i64 x18_1] ?_; (with_reducible refine (spec_l10Count.calls _ _ x328001_2 (rdOf ByteArray.empty t330 x30_2) x18_1 t334 w _ HB.out (Kd.S_bound HO_328001.out) A21.out).mono ?_); rintro e w25 ⟨v335, rfl, ho0, hb, hk_⟩; refine ⟨_, rfl, ?_⟩; have n0_ := aM (Go.Proofs.Ytaomjndfjmfelaa.Cou.R_beside HO_28.out hk_ (by decide)); have n1_ := aM (Kd.S_mono ho0 (fun _ _ => trivial)); have n2_ := aM (Kd.S_mono ho0 (fun _ _ => trivial)); have n3_ := aM ((hk_.2 _ (blk_lt BK326.out) (Go.Proofs.Ytaomjndfjmfelaa.Cou.not_typed BK326.out (by decide))).trans BK326.out); have n4_ := aM ((hk_.2 _ (blk_lt BK327.out) (Go.Proofs.Ytaomjndfjmfelaa.Cou.not_typed BK327.out (by decide))).trans BK327.out); have n5_ := aM (hb); clear hk_; clear HO_28; clear HO_328001; clear BK326; clear BK327; clear HB; have HO_28 := n0_; have HO_328001 := n1_; have HO336 := n2_; have BK326 := n3_; have BK327 := n4_; have HB := n5_; clear n0_ n1_ n2_ n3_ n4_ n5_; (try clear hb); (try clear hb2); (try clear hk); (try clear hi); (try clear ho0); obtain ⟨Ao26, co26, eo26⟩ := Kd.S_slice HO336.out; subst eo26; have hcz27_0 : w25.cell? ⟨gb327, 0, none⟩ = some (.int .i64 (l0.length : Int)) := (blk_cell BK327.out 0).trans rfl; have hcz27_1 : w25.cell? ⟨gb327, 1, none⟩ = some (.slice Ao24 x328001_2.length co24) := (blk_cell BK327.out 1).trans rfl; have hfz27_0 := blk_frozen BK327.out 0; have hfz27_1 := blk_frozen BK327.out 1))
             go_roundg k2
             case measure => have := HK1.out; have := HK2.out; omega
             case rel => exact ⟨(wrap64 (x30_2 + 1)), (t334), (.slice Ao26 t334.length co26), (by first | rfl | (simp; done) | (simp [*]; done)), H', ⟨by have := HK1.out; have := HK2.out; omega⟩, ⟨by (with_reducible repeat (first | apply Kd.R_alloc | apply Kd.R_drewN | apply Kd.R_drew)); exact Kd.R_mono (Kd.R_far (p := ⟨gb327, 1, none⟩) (Kd.R_types HO_28.out BK327.out (by decide)) (fun _ hk => hk.2) (.slice Ao26 t334.length co26)) (fun _ hk => trivial)⟩, ⟨by (with_reducible repeat (first | apply Kd.S_alloc | apply Kd.S_drewN | apply Kd.S_drew)); exact Kd.S_mono (Kd.S_far (p := ⟨gb327, 1, none⟩) (Kd.S_types HO336.out BK327.out (by decide)) (fun _ hk => hk.2) (.slice Ao26 t334.length co26)) (fun _ hk => trivial)⟩, ⟨by (with_reducible repeat (first | refine blk_drewN ?_ _ | refine blk_drew ?_ | refine blk_alloc ?_ _)); refine blk_far ?_ NB326_327.out _; (with_reducible repeat (first | refine blk_drewN ?_ _ | refine blk_drew ?_ | refine blk_alloc ?_ _)); exact BK326.out⟩, ⟨by (with_reducible repeat (first | refine blk_drewN ?_ _ | refine blk_drew ?_ | refine blk_alloc ?_ _)); refine blk_put (cs := #[.int .i64 (l0.length : Int), .slice Ao24 x328001_2.length co24]) ?_ 1 _ rfl; (with_reducible repeat (first | refine blk_drewN ?_ _ | refine blk_drew ?_ | refine blk_alloc ?_ _)); exact BK327.out⟩, ⟨by repeat (first | (with_reducible first | exact HB.out | apply below_alloc | apply pw_below_drewN | apply below_drew1 | refine below_set ?_ GE326.out | refine below_set ?_ GE327.out) | exact HB.out)⟩⟩
            ·rw [if_neg c20] at H
             exact absurd H (by simp)
           ·rw [if_neg c19] at H
            exact absurd H (by simp)
          ·rw [if_neg c18] at H
           have c18b0 : decide (x30_2 < (t330.length : Int)) = false := decide_eq_false c18
           clear c18
           have H' := aM H
           clear H
           go_wp2
           go_roundg k2
           case measure => have := HK1.out; have := HK2.out; omega
           case rel => exact ⟨(wrap64 (x18_1 + 1)), (x327000_1), (x328001_2), (u328001), (by first | rfl | (simp; done) | (simp [*]; done)), H', ⟨by have := HK1.out; have := HK2.out; omega⟩, ⟨by (with_reducible repeat (first | apply Kd.S_alloc | apply Kd.S_drewN | apply Kd.S_drew)); exact HO_328001.out⟩, ⟨by (with_reducible repeat (first | refine blk_drewN ?_ _ | refine blk_drew ?_ | refine blk_alloc ?_ _)); exact BK326.out⟩, ⟨by (with_reducible repeat (first | refine blk_drewN ?_ _ | refine blk_drew ?_ | refine blk_alloc ?_ _)); exact BK327.out⟩, ⟨by repeat (first | (with_reducible first | exact HB.out | apply below_alloc | apply pw_below_drewN | apply below_drew1 | refine below_set ?_ GE326.out | refine below_set ?_ GE327.out) | exact HB.out)⟩⟩
      ·rw [if_neg c11] at H
       exact absurd H (by simp)
     ·rw [if_neg c10] at H
      exact absurd H (by simp)
    ·rw [if_neg c9] at H
     have c9b0 : decide (x18_1 < (l0.length : Int)) = false := decide_eq_false c9
     clear c9
     replace H := Option.bind_eq_some_iff.mp H
     obtain ⟨t328, A280, H⟩ := H
     replace H : (if t328 = true then (some ((l0.length : Int), x328001_1, true)) else (some (0, ([] : List (S102)), false))) = some (r1, r2, r3) := H
     have A28 := aM A280
     clear A280
     by_cases c29 : t328 = true
     ·subst c29
      have H1 : (some ((l0.length : Int), x328001_1, true)) = some (r1, r2, r3) := by rw [if_pos rfl] at H; exact H
      clear H
      have H := H1
      clear H1
      simp only [Option.some.injEq, Prod.mk.injEq] at H
      obtain ⟨rfl, rfl, rfl⟩ := H
      have hnb30 := NB327_326.out
      have hnc30 := NB326_327.out
      have hcz31_0 : wr.cell? ⟨gb327, 0, none⟩ = some (.int .i64 (l0.length : Int)) := (blk_cell BK327.out 0).trans rfl
      have hcz31_1 : wr.cell? ⟨gb327, 1, none⟩ = some (u328001) := (blk_cell BK327.out 1).trans rfl
      have hfz31_0 := blk_frozen BK327.out 0
      have hfz31_1 := blk_frozen BK327.out 1
      obtain ⟨Ao32, co32, eo32⟩ := Kd.S_slice HO_328001.out
      subst eo32
      go_wp2_with (first | ((with_reducible refine gate_callee (f := 44) rfl ?_); refine gL 43 Try.func44 #[.agg #[.int .i64 (l0.length : Int), .slice Ao32 x328001_1.length co32]] ?_; (with_reducible refine (spec_GoodWords.calls k1 (l0.length : Int) _ _ x328001_1 true _ ?side1 ?side2 A28.out).mono ?_); (case side1 => repeat (first | exact (Kd.S_reads' HO_328001.out).2.2 | (with_reducible refine Kd.C_alloc ?_ _) | (with_reducible refine Kd.C_drewN ?_ _) | (with_reducible refine Kd.C_drew ?_))); (case side2 => exact (Kd.S_reads' HO_328001.out).2.1); rintro e w33 ⟨rfl, hb⟩; refine ⟨_, rfl, ?_⟩; have n0_ := aM (Kd.S_below (by (with_reducible repeat (first | apply Kd.S_alloc | apply Kd.S_drewN | apply Kd.S_drew)); exact HO_328001.out) hb); have n1_ := aM (blk_below (g := gb326) (o := .cells #[.int .i64 x327000_1, .slice none 0 0] 33 (0, 0)) (by (with_reducible repeat (first | refine blk_drewN ?_ _ | refine blk_drew ?_ | refine blk_alloc ?_ _)); exact BK326.out) hb); have n2_ := aM (blk_below (g := gb327) (o := .cells #[.int .i64 (l0.length : Int), .slice Ao32 x328001_1.length co32] 33 (0, 0)) (by (with_reducible repeat (first | refine blk_drewN ?_ _ | refine blk_drew ?_ | refine blk_alloc ?_ _)); exact BK327.out) hb); have n3_ := aM (below_step (by repeat (first | (with_reducible first | exact HB.out | apply below_alloc | apply pw_below_drewN | apply below_drew1 | refine below_set ?_ GE326.out | refine below_set ?_ GE327.out) | exact HB.out)) hb); clear HO_328001; clear BK326; clear BK327; clear HB; have HO_328001 := n0_; have BK326 := n1_; have BK327 := n2_; have HB := n3_; clear n0_ n1_ n2_ n3_; (try clear hb); (try clear hb2); (try clear hk); (try clear hi); have hcz34_0 : w33.cell? ⟨gb327, 0, none⟩ = some (.int .i64 (l0.length : Int)) := (blk_cell BK327.out 0).trans rfl; have hcz34_1 : w33.cell? ⟨gb327, 1, none⟩ = some (.slice Ao32 x328001_1.length co32) := (blk_cell BK327.out 1).trans rfl; have hfz34_0 := blk_frozen BK327.out 0; have hfz34_1 := blk_frozen BK327.out 1; have hcz35_0 : w33.cell? ⟨gb326, 0, none⟩ = some (.int .i64 x327000_1) := (blk_cell BK326.out 0).trans rfl; have hcz35_1 : w33.cell? ⟨gb326, 1, none⟩ = some (.slice none 0 0) := (blk_cell BK326.out 1).trans rfl; have hfz35_0 := blk_frozen BK326.out 0; have hfz35_1 := blk_frozen BK326.out 1))
      refine bodyPost_ret (results_ct rfl _ _ gb326 33 #[.int .i64 (l0.length : Int), .slice Ao32 x328001_1.length co32] (0, 0) _ rfl (by (with_reducible repeat (first | refine blk_drewN ?_ _ | refine blk_drew ?_ | refine blk_alloc ?_ _)); refine blk_put (cs := #[.int .i64 (l0.length : Int), .slice none 0 0]) ?_ 1 _ rfl; (with_reducible repeat (first | refine blk_drewN ?_ _ | refine blk_drew ?_ | refine blk_alloc ?_ _)); refine blk_put (cs := #[.int .i64 x327000_1, .slice none 0 0]) ?_ 0 _ rfl; (with_reducible repeat (first | refine blk_drewN ?_ _ | refine blk_drew ?_ | refine blk_alloc ?_ _)); exact BK326.out) Try.underlying33 rfl (by kernel_rfl)) rfl ?_
      exact ⟨_, eR, by (with_reducible repeat (first | apply Kd.S_alloc | apply Kd.S_drewN | apply Kd.S_drew)); exact Kd.S_mono (Kd.S_far (p := ⟨gb326, 1, none⟩) (Kd.S_far (p := ⟨gb326, 0, none⟩) (Kd.S_types HO_328001.out BK326.out (by decide)) (fun _ hk => hk.2) (.int .i64 (l0.length : Int))) (fun _ hk => hk.2) (.slice Ao32 x328001_1.length co32)) (fun _ hk => trivial), by repeat (first | (with_reducible first | exact HB.out | apply below_alloc | apply pw_below_drewN | apply below_drew1 | refine below_set ?_ GE326.out | refine below_set ?_ GE327.out) | exact HB.out)⟩
     ·replace c29 := Bool.eq_false_iff.mpr c29
      subst c29
      have H1 : (some (0, ([] : List (S102)), false)) = some (r1, r2, r3) := by rw [if_neg (show ¬ (false = true) by decide)] at H; exact H
      clear H
      have H := H1
      clear H1
      simp only [Option.some.injEq, Prod.mk.injEq] at H
      obtain ⟨rfl, rfl, rfl⟩ := H
      have hnb36 := NB327_326.out
      have hnc36 := NB326_327.out
      have hcz37_0 : wr.cell? ⟨gb327, 0, none⟩ = some (.int .i64 (l0.length : Int)) := (blk_cell BK327.out 0).trans rfl
      have hcz37_1 : wr.cell? ⟨gb327, 1, none⟩ = some (u328001) := (blk_cell BK327.out 1).trans rfl
      have hfz37_0 := blk_frozen BK327.out 0
      have hfz37_1 := blk_frozen BK327.out 1
      obtain ⟨Ao38, co38, eo38⟩ := Kd.S_slice HO_328001.out
      subst eo38
      go_wp2_with (first | ((with_reducible refine gate_callee (f := 44) rfl ?_); refine gL 43 Try.func44 #[.agg #[.int .i64 (l0.length : Int), .slice Ao38 x328001_1.length co38]] ?_; (with_reducible refine (spec_GoodWords.calls k1 (l0.length : Int) _ _ x328001_1 false _ ?side1 ?side2 A28.out).mono ?_); (case side1 => repeat (first | exact (Kd.S_reads' HO_328001.out).2.2 | (with_reducible refine Kd.C_alloc ?_ _) | (with_reducible refine Kd.C_drewN ?_ _) | (with_reducible refine Kd.C_drew ?_))); (case side2 => exact (Kd.S_reads' HO_328001.out).2.1); rintro e w39 ⟨rfl, hb⟩; refine ⟨_, rfl, ?_⟩; have n0_ := aM (Kd.S_below (by (with_reducible repeat (first | apply Kd.S_alloc | apply Kd.S_drewN | apply Kd.S_drew)); exact HO_328001.out) hb); have n1_ := aM (blk_below (g := gb326) (o := .cells #[.int .i64 x327000_1, .slice none 0 0] 33 (0, 0)) (by (with_reducible repeat (first | refine blk_drewN ?_ _ | refine blk_drew ?_ | refine blk_alloc ?_ _)); exact BK326.out) hb); have n2_ := aM (blk_below (g := gb327) (o := .cells #[.int .i64 (l0.length : Int), .slice Ao38 x328001_1.length co38] 33 (0, 0)) (by (with_reducible repeat (first | refine blk_drewN ?_ _ | refine blk_drew ?_ | refine blk_alloc ?_ _)); exact BK327.out) hb); have n3_ := aM (below_step (by repeat (first | (with_reducible first | exact HB.out | apply below_alloc | apply pw_below_drewN | apply below_drew1 | refine below_set ?_ GE326.out | refine below_set ?_ GE327.out) | exact HB.out)) hb); clear HO_328001; clear BK326; clear BK327; clear HB; have HO_328001 := n0_; have BK326 := n1_; have BK327 := n2_; have HB := n3_; clear n0_ n1_ n2_ n3_; (try clear hb); (try clear hb2); (try clear hk); (try clear hi); have hcz40_0 : w39.cell? ⟨gb326, 0, none⟩ = some (.int .i64 x327000_1) := (blk_cell BK326.out 0).trans rfl; have hcz40_1 : w39.cell? ⟨gb326, 1, none⟩ = some (.slice none 0 0) := (blk_cell BK326.out 1).trans rfl; have hfz40_0 := blk_frozen BK326.out 0; have hfz40_1 := blk_frozen BK326.out 1))
      refine bodyPost_ret (results_ct rfl _ _ gb326 33 #[.int .i64 0, .slice none 0 0] (0, 0) _ rfl (by (with_reducible repeat (first | refine blk_drewN ?_ _ | refine blk_drew ?_ | refine blk_alloc ?_ _)); refine blk_put (cs := #[.int .i64 0, .slice none 0 0]) ?_ 1 _ rfl; (with_reducible repeat (first | refine blk_drewN ?_ _ | refine blk_drew ?_ | refine blk_alloc ?_ _)); refine blk_put (cs := #[.int .i64 x327000_1, .slice none 0 0]) ?_ 0 _ rfl; (with_reducible repeat (first | refine blk_drewN ?_ _ | refine blk_drew ?_ | refine blk_alloc ?_ _)); exact BK326.out) Try.underlying33 rfl (by kernel_rfl)) rfl ?_
      exact ⟨_, eR, by first | exact Kd.S_nil _ _ _ _ _ | exact Kd.N_nil _ _ _ _ _ | exact Kd.V_nil _ _ _ _ _ | exact Kd.Q_nil _ _ _ _ _ | exact Kd.R_nil _ _ _ _ _, by repeat (first | (with_reducible first | exact HB.out | apply below_alloc | apply pw_below_drewN | apply below_drew1 | refine below_set ?_ GE326.out | refine below_set ?_ GE327.out) | exact HB.out)⟩

end Go.Proofs.Ytaomjndfjmfelaa.PQ
end

section
namespace Go.Proofs.Ytaomjndfjmfelaa.Ask
set_option linter.unusedVariables false
set_option linter.unusedSimpArgs false
open Go.RowKit Go.Proofs.Ytaomjndfjmfelaa.PQ Go.Proofs.YtaomjndfjmfelaaW.PrintWords Go.Proofs.YtaomjndfjmfelaaW.PrintLast Go.Proofs.YtaomjndfjmfelaaW.PrintMore Go.Proofs.Ytaomjndfjmfelaa.Pre Go.Proofs.Ytaomjndfjmfelaa.Posts Go.Proofs.Ytaomjndfjmfelaa.GoodW
def notW (s : ByteArray) : Bool := !isW s
theorem lit_calls (s : ByteArray) (w : World) (hs : s.size ≤ 1048576) : Calls Try.prog 152 #[.string s] w fun e w' => e = .returned (.bool (notW s)) ∧ Below w.heap.size w w' := by
 obtain ⟨k, hk⟩ := (isWord_ev s hs).ex
 have E := aM hk
 obtain ⟨b, hb⟩ : ∃ b, b = isW s := ⟨_, rfl⟩
 unfold notW
 rw [← hb] at E ⊢
 clear hk hb
 go_enter Try.func152, Try.ntmps152
 go_wp2_with (first | (go_at_call 89; go_loud ((with_reducible refine (impl_isWord.calls k s b _ E.out).mono ?_); rintro e w2 ⟨rfl, hd⟩; have HB2 := aM hd.below; clear hd)))
 go_ret
 exact ⟨rfl, HB2.out⟩
theorem str_at {w : World} {A : Option Addr} {xs : List ByteArray} (h : Kd.C Kd.string w A xs.length xs) (i : Nat) (hi : i < xs.length) : ∃ ad, A = some ad ∧ w.cell? (ad.add i) = some (.string xs[i]) := by
 obtain ⟨ad, c, e, _, hK, hc0⟩ := Kd.C_get h ByteArray.empty (i : Int) (by omega) (by omega)
 rw [Int.toNat_natCast, List.getD_eq_getElem?_getD, List.getElem?_eq_getElem hi] at hK
 rw [Int.toNat_natCast] at hc0
 have hk : c = [.string xs[i]] := hK
 subst hk
 refine ⟨ad, e, ?_⟩
 have h1 := hc0 0 _ rfl
 rw [show Kd.string.sz = 1 from rfl, Nat.mul_one, Nat.add_zero] at h1
 exact h1
def SmallS (l : List ByteArray) : Prop := l.length ≤ 1048576 ∧ ∀ s ∈ l, s.size ≤ 1048576
set_option maxHeartbeats 1000000 in
theorem index_calls (A : Option Addr) (c : Nat) (l : List ByteArray) (w : World) (hr : Kd.C Kd.string w A l.length l) (hl : SmallS l) :
  Calls Try.prog 165 #[.slice A l.length c, .func (.func 152) #[] #[]] w fun e w' => ∃ r : Int, e = .returned (.int .i64 r) ∧ decide ((0 : Int) ≤ r) = l.any notW ∧ Below w.heap.size w w' := by
 have HR := aM hr
 have HL := aM hl
 have HL1 := aM hl.1
 clear hr hl
 go_enter Try.func165, Try.ntmps165
 go_wp2
 go_loopg [8] l.length (fun kq v8 w' => ∃ i : Nat, v8 = .int .i64 (i : Int) ∧ i ≤ l.length ∧ kq = l.length - i ∧ Aside0 ((l.take i).any notW = false) ∧ Aside0 (Below w.heap.size w w'))
 case atStart => exact ⟨0, rfl, by omega, by omega, ⟨by simp⟩, ⟨Below.refl _ _⟩⟩
 case round =>
  obtain ⟨i, rfl, hi, hk, HE, HB⟩ := hrel
  by_cases hlt : i < l.length
  ·have HI := aM hlt
   have p1 : (0 : Int) ≤ (i : Int) := by omega
   have q1 : (i : Int) < (l.length : Int) := by omega
   obtain ⟨ad, rfl, hx0⟩ := str_at HR.out i hlt
   replace hx0 := (HB.out.cell (World.block_lt_of_cell? w _ hx0)).trans hx0
   obtain ⟨x, hxe⟩ : ∃ x, x = l[i] := ⟨_, rfl⟩
   rw [← hxe] at hx0
   have HX : Aside0 (x.size ≤ 1048576) := ⟨by rw [hxe]; exact HL.out.2 _ (List.getElem_mem hlt)⟩
   have HT : Aside0 ((l.take (i + 1)).any notW = notW x) := ⟨by rw [List.take_succ_eq_append_getElem hlt, List.any_append, HE.out, ← hxe]; simp⟩
   have HM : Aside0 (notW x = true → l.any notW = true) := ⟨fun h => List.any_eq_true.2 ⟨x, by rw [hxe]; exact List.getElem_mem hlt, h⟩⟩
   clear hxe
   obtain ⟨b, hb⟩ : ∃ b, b = notW x := ⟨_, rfl⟩
   have HBB := aM hb
   clear hb
   cases b with
   | true =>
    go_wp2_with (first | (go_at_call 152; go_loud ((with_reducible refine (lit_calls x _ HX.out).mono ?_); rintro e w2 ⟨rfl, hb⟩; rw [← HBB.out]; have HB2 := aM (below_step HB.out hb); clear hb)))
    go_ret
    exact ⟨_, rfl, by rw [HM.out HBB.out.symm]; simp, HB2.out⟩
   | false =>
    go_wp2_with (first | (go_at_call 152; go_loud ((with_reducible refine (lit_calls x _ HX.out).mono ?_); rintro e w2 ⟨rfl, hb⟩; rw [← HBB.out]; have HB2 := aM (below_step HB.out hb); clear hb)))
    go_roundg (l.length - (i + 1))
    case measure => have := HI.out; omega
    case rel => exact ⟨i + 1, by have := HL1.out; have := HI.out; first | go_num | (rw [w64 (by omega) (by omega)]; go_num), by have := HI.out; omega, by omega, ⟨HT.out.trans HBB.out.symm⟩, HB2⟩
  ·obtain rfl : i = l.length := by omega
   go_wp2
   go_ret
   exact ⟨-1, rfl, by rw [show l.any notW = false from by have h_ := HE.out; rwa [List.take_length] at h_]; rfl, HB.out⟩
theorem contains_calls (A : Option Addr) (c : Nat) (l : List ByteArray) (w : World) (hr : Kd.C Kd.string w A l.length l) (hl : SmallS l) :
  Calls Try.prog 151 #[.slice A l.length c, .func (.func 152) #[] #[]] w fun e w' => e = .returned (.bool (l.any notW)) ∧ Below w.heap.size w w' := by
 have HR := aM hr
 have HL := aM hl
 clear hr hl
 go_enter Try.func151, Try.ntmps151
 go_wp2_with (first | (go_at_call 165; go_loud ((with_reducible refine (index_calls A c l _ HR.out HL.out).mono ?_); rintro e w2 ⟨r, rfl, hr2, hb⟩; have HB2 := aM hb; clear hb)))
 go_ret
 exact ⟨rfl, HB2.out⟩
/-- Words may be asked for. -/
def asked (x : Int) (l : List En) (ws : List ByteArray) (most : Int) : Bool := goodW x l && decide ((ws.length : Int) ≤ most) && !ws.any notW
set_option maxRecDepth 100000 in
set_option maxHeartbeats 1000000 in
theorem calls (x : Int) (A : Option Addr) (c : Nat) (l : List En) (B : Option Addr) (d : Nat) (ws : List ByteArray) (most : Int) (w : World) (hr : Kd.C k102 w A l.length l) (hc : l.length ≤ c) (hl : Small l) (hs : Kd.C Kd.string w B ws.length ws) (hsl : SmallS ws) :
  Calls Try.prog 122 #[.agg #[.int .i64 x, .slice A l.length c], .slice B ws.length d, .int .i64 most] w fun e w' => e = .returned (.bool (asked x l ws most)) ∧ Below w.heap.size w w' := by
 have HR := aM hr
 have HC := aM hc
 have HS := aM hs
 have HSL := aM hsl
 obtain ⟨kg, hg⟩ := (impl_ev x l hl).ex
 obtain ⟨bg, hbg⟩ : ∃ b, b = goodW x l := ⟨_, rfl⟩
 obtain ⟨bw, hbw⟩ : ∃ b, b = ws.any notW := ⟨_, rfl⟩
 rw [← hbg] at hg
 have HG := aM hg
 have HBW := aM hbw
 have HB0 := aM (below_alloc (Below.refl w.heap.size w) (.cells #[.int .i64 x, .slice A l.length c] 33))
 have HSZ : Aside0 (w.heap.size ≤ (w.alloc (.cells #[.int .i64 x, .slice A l.length c] 33)).heap.size) := ⟨by simp⟩
 unfold asked
 rw [← hbg, ← hbw]
 clear hg hr hc hl hs hsl hbg hbw
 cases bg with
 | false =>
  go_enter Try.func122, Try.ntmps122
  go_wp2_with (first | (go_at_call 38; go_loud ((with_reducible refine (impl_GoodWords.calls kg x A c l _ _ (Kd.C_alloc HR.out _) HC.out HG.out).mono ?_); rintro e w2 ⟨rfl, hb⟩; have HB2 := aM (below_then HB0.out HSZ.out hb); clear hb)))
  go_ret
  exact ⟨rfl, HB2.out⟩
 | true =>
  by_cases hm : (ws.length : Int) ≤ most
  ·have hmb : decide ((ws.length : Int) ≤ most) = true := decide_eq_true hm
   rw [hmb]
   have HMB := aM hmb
   clear hm
   go_enter Try.func122, Try.ntmps122
   go_wp2_with (first | (go_at_call 38; go_loud ((with_reducible refine (impl_GoodWords.calls kg x A c l _ _ (Kd.C_alloc HR.out _) HC.out HG.out).mono ?_); rintro e w2 ⟨rfl, hb⟩; have HB2 := aM (below_then HB0.out HSZ.out hb); clear hb)) | (go_at_call 151; go_loud ((with_reducible refine (contains_calls B d ws _ (Kd.C_below HS.out HB2.out) HSL.out).mono ?_); rintro e w3 ⟨rfl, hb⟩; rw [← HBW.out]; have HB3 := aM (below_step HB2.out hb); clear hb)))
   go_ret
   exact ⟨by simp, HB3.out⟩
  ·have hmb : decide ((ws.length : Int) ≤ most) = false := decide_eq_false hm
   rw [hmb]
   clear hm
   go_enter Try.func122, Try.ntmps122
   go_wp2_with (first | (go_at_call 38; go_loud ((with_reducible refine (impl_GoodWords.calls kg x A c l _ _ (Kd.C_alloc HR.out _) HC.out HG.out).mono ?_); rintro e w2 ⟨rfl, hb⟩; have HB2 := aM (below_then HB0.out HSZ.out hb); clear hb)))
   go_ret
   exact ⟨by simp, HB2.out⟩
end Go.Proofs.Ytaomjndfjmfelaa.Ask
end

section
namespace Go.Proofs.Ytaomjndfjmfelaa.Cnt
set_option linter.unusedVariables false
set_option linter.unusedSimpArgs false
open Go.RowKit Go.Proofs.Ytaomjndfjmfelaa.PQ Go.Proofs.YtaomjndfjmfelaaW.PrintWords Go.Proofs.YtaomjndfjmfelaaW.PrintLast Go.Proofs.YtaomjndfjmfelaaW.PrintMore Go.Proofs.Ytaomjndfjmfelaa.Pre Go.Proofs.Ytaomjndfjmfelaa.Posts Go.Proofs.Ytaomjndfjmfelaa.GoodW Go.Proofs.Ytaomjndfjmfelaa.EntW Go.Proofs.Ytaomjndfjmfelaa.PostW Go.Proofs.Ytaomjndfjmfelaa.Ask
/-- One more at a place. -/
def inc (o : List Int) (k : Int) : List Int := o.set k.toNat (wrap64 (o.getD k.toNat 0 + 1))
def incAll (o : List Int) (ps : List Po) : List Int := ps.foldl (fun o p => inc o p.f0) o
def marks (x : Int) (l : List En) (ws : List ByteArray) : List Int := ws.foldl (fun o t => incAll o (posts l t)) (List.replicate x.toNat 0)
theorem inc_len (o : List Int) (k : Int) : (inc o k).length = o.length := by unfold inc; simp
theorem incAll_len (ps : List Po) : ∀ o : List Int, (incAll o ps).length = o.length := by
 induction ps with
 | nil => intro o; rfl
 | cons p ps ih =>
  intro o
  show (incAll (inc o p.f0) ps).length = o.length
  rw [ih, inc_len]
theorem incAll_succ (o : List Int) (ps : List Po) (i : Nat) (h : i < ps.length) : incAll o (ps.take (i + 1)) = inc (incAll o (ps.take i)) ps[i].f0 := by
 unfold incAll
 rw [List.take_succ_eq_append_getElem h, List.foldl_append]
 rfl
theorem marks_succ (x : Int) (l : List En) (ws : List ByteArray) (i : Nat) (h : i < ws.length) : marks x l (ws.take (i + 1)) = incAll (marks x l (ws.take i)) (posts l ws[i]) := by
 unfold marks
 rw [List.take_succ_eq_append_getElem h, List.foldl_append]
 rfl
theorem marks_len (x : Int) (l : List En) (ws : List ByteArray) : (marks x l ws).length = x.toNat := by
 unfold marks
 have key : ∀ (ws : List ByteArray) (o : List Int), (ws.foldl (fun o t => incAll o (posts l t)) o).length = o.length := by
  intro ws
  induction ws with
  | nil => intro o; rfl
  | cons t ws ih =>
   intro o
   rw [List.foldl_cons, ih, incAll_len]
 rw [key]
 simp
/-- All texts of postings are there. -/
theorem okFrom_all (most : Int) : ∀ (ps : List Po) (last : Int), -1 ≤ last → okFrom most last ps = true → ∀ p ∈ ps, 0 ≤ p.f0 ∧ p.f0 ≤ most := by
 intro ps
 induction ps with
 | nil => intro last _ _ p hp; cases hp
 | cons a ps ih =>
  intro last h0 hk p hp
  simp only [okFrom, Bool.and_eq_true, decide_eq_true_eq] at hk
  obtain ⟨⟨h1, h2, _⟩, h5⟩ := hk
  rcases List.mem_cons.1 hp with rfl | hp
  ·exact ⟨by omega, h2⟩
  ·exact ih a.f0 (by omega) h5 p hp
theorem posts_ok {x : Int} {l : List En} (h : goodW x l = true) (t : ByteArray) : ∀ p ∈ posts l t, 0 ≤ p.f0 ∧ p.f0 < x := by
 have hx : 0 ≤ x ∧ x ≤ 40 := by
  unfold goodW at h
  rw [Bool.and_eq_true, Bool.and_eq_true] at h
  exact of_decide_eq_true h.1.1
 intro p hp
 unfold posts at hp
 cases hf : l.find? (fun e => decide (e.f0 = t)) with
 | none => rw [hf] at hp; cases hp
 | some e =>
  rw [hf] at hp
  obtain ⟨i, hi, rfl⟩ := List.getElem_of_mem (List.mem_of_find?_eq_some hf)
  unfold goodW at h
  rw [Bool.and_eq_true, List.all_eq_true] at h
  have he := h.2 i (by rw [List.mem_range'_1]; omega)
  unfold entOK at he
  simp only [Bool.and_eq_true, rd_en l i hi] at he
  have h4 := he.2
  rw [w64 (by omega) (by omega)] at h4
  have := okFrom_all (x - 1) _ (-1) (by omega) h4 p hp
  omega
set_option maxRecDepth 100000 in
set_option maxHeartbeats 4000000 in
theorem calls (x : Int) (A : Option Addr) (c : Nat) (l : List En) (B : Option Addr) (d : Nat) (ws : List ByteArray) (b : Nat) (w : World) (hcl : ∀ w', Below w.heap.size w w' → w'.cell? ⟨b, 0, none⟩ = some (.int .i64 x) ∧ w'.cell? ⟨b, 1, none⟩ = some (.slice A l.length c)) (hr : Kd.C k102 w A l.length l) (hc : l.length ≤ c) (hl : Small l) (hg : goodW x l = true) (hs : Kd.C Kd.string w B ws.length ws) (hsl : SmallS ws) :
  Calls Try.prog 123 #[.pointer (some ⟨b, 0, none⟩), .slice B ws.length d] w fun e w' => ∃ v0_ : Value, e = .returned v0_ ∧ Kd.R (Kd.int .i64) 3 w' w.heap.size (fun _ => True) v0_ (marks x l ws) ∧ Below w.heap.size w w' := by
 have hx : 0 ≤ x ∧ x ≤ 40 := by
  have h := hg
  unfold goodW at h
  rw [Bool.and_eq_true, Bool.and_eq_true] at h
  exact of_decide_eq_true h.1.1
 obtain ⟨n, hn⟩ : ∃ n : Nat, x = (n : Int) := ⟨x.toNat, by omega⟩
 subst hn
 have HCL := aM hcl
 have HR := aM hr
 have HC := aM hc
 have HL := aM hl
 have HL1 := aM hl.1
 have HS := aM hs
 have HSL := aM hsl
 have HSL1 := aM hsl.1
 have HRI := aM (rise_of_good hg)
 have HNE := aM (ne_of_good hg)
 have HPO := aM (fun t => posts_ok hg t)
 have HN : Aside0 (n ≤ 40) := ⟨by omega⟩
 have HB := aM (Below.refl w.heap.size w)
 obtain ⟨h0, h1⟩ := hcl w (Below.refl _ _)
 clear hcl hr hc hl hs hsl hg hx
 go_enter Try.func123, Try.ntmps123
 have hnn : n ≤ 40 := HN.out
 go_upto_region 2 with (first | ((with_reducible refine gate_dst (N := 14) rfl ?_); go_loud (refine Kd.R_make (Kd.int .i64) _ 3 rfl (N := 14) rfl 28 _ _ rfl (n : Int) rfl rfl Try.underlying28 (.int .i64 0) 8 info3 rfl (by decide) (by omega) 0 (ok := fun _ => True) (okp := fun _ => True) rfl (fun _ hk => hk) trivial (by omega) (by omega) (Below.refl _ _) (Nat.le_refl _) ?_; intro v5 w4 ho5 hb hg_ hnew_; clear hg_ hnew_; rw [Int.toNat_natCast] at ho5; obtain ⟨A5, c5, e5, hl5, hC5⟩ := Kd.R_reads ho5; rw [List.length_replicate] at e5; subst e5; clear hl5 hC5; have HO4 := aM ho5; have HB4 := aM hb; clear ho5 hb)))
 clear hnn
 go_wp2
 go_loopg [17] ws.length (fun kq v17 w' => ∃ i : Nat, v17 = .int .i64 (i : Int) ∧ i ≤ ws.length ∧ kq = ws.length - i ∧ Aside0 (Kd.R (Kd.int .i64) 3 w' w.heap.size (fun _ => True) (.slice A5 n c5) (marks (n : Int) l (ws.take i))) ∧ Aside0 (Below w.heap.size w w'))
 case atStart => exact ⟨0, rfl, by omega, by omega, HO4, HB4⟩
 case round =>
  obtain ⟨i, rfl, hi, hk, HO, HBr⟩ := hrel
  by_cases hlt : i < ws.length
  ·have HI := aM hlt
   have p1 : (0 : Int) ≤ (i : Int) := by omega
   have q1 : (i : Int) < (ws.length : Int) := by omega
   obtain ⟨ad, rfl, hx0⟩ := str_at HS.out i hlt
   replace hx0 := (HBr.out.cell (World.block_lt_of_cell? w _ hx0)).trans hx0
   obtain ⟨t, ht⟩ : ∃ t, t = ws[i] := ⟨_, rfl⟩
   rw [← ht] at hx0
   have HT := aM (show marks (n : Int) l (ws.take (i + 1)) = incAll (marks (n : Int) l (ws.take i)) (posts l t) by rw [marks_succ _ _ _ _ hlt, ht])
   obtain ⟨o, ho⟩ : ∃ o, o = marks (n : Int) l (ws.take i) := ⟨_, rfl⟩
   have HOL : Aside0 (o.length = n) := ⟨by rw [ho, marks_len]; omega⟩
   rw [← ho] at HO HT
   clear ht ho
   go_wp2_with (first | (go_at_call 93; go_loud ((with_reducible refine (postings_at w A c l t _ b (fun w' hb => (HCL.out w' (below_step HBr.out hb)).2) HBr.out HR.out HC.out HL1.out HRI.out HNE.out).mono ?_); rintro e w5 ⟨Ap, cp, rfl, hcp, hC5, hnil, hb⟩; have HB5 := aM (below_step HBr.out hb); have HCP := aM hC5; have HO5 := aM (Kd.R_below HO.out hb); clear hb hC5 hcp hnil)))
   obtain ⟨ps, hps⟩ : ∃ ps, ps = posts l t := ⟨_, rfl⟩
   rw [← hps]
   have HPS : Aside0 (∀ p ∈ ps, 0 ≤ p.f0 ∧ p.f0 < (n : Int)) := ⟨by rw [hps]; exact HPO.out t⟩
   have HPL : Aside0 (ps.length ≤ 1048576) := ⟨by rw [hps]; exact small_posts HL.out t⟩
   rw [← hps] at HT HCP
   clear hps
   go_loopg [25] ps.length (fun kq v25 w' => ∃ j : Nat, v25 = .int .i64 (j : Int) ∧ j ≤ ps.length ∧ kq = ps.length - j ∧ Aside0 (Kd.R (Kd.int .i64) 3 w' w.heap.size (fun _ => True) (.slice A5 n c5) (incAll o (ps.take j))) ∧ Aside0 (Below w.heap.size w w'))
   case atStart => exact ⟨0, rfl, by omega, by omega, HO5, HB5⟩
   case round =>
    obtain ⟨j, rfl, hj, hk2, HOj, HBj⟩ := hrel
    by_cases hjt : j < ps.length
    ·have HJ := aM hjt
     have p2 : (0 : Int) ≤ (j : Int) := by omega
     have q2 : (j : Int) < (ps.length : Int) := by omega
     obtain ⟨ad2, rfl, hy0, hy1⟩ := at_T56 HCP.out (j : Int) p2 q2
     replace hy0 := (HBj.out.cell (World.block_lt_of_cell? w _ hy0)).trans hy0
     replace hy1 := (HBj.out.cell (World.block_lt_of_cell? w _ hy1)).trans hy1
     rw [Int.toNat_natCast, rd_get ps j hjt] at hy0 hy1
     obtain ⟨y, hy⟩ : ∃ y, y = ps[j] := ⟨_, rfl⟩
     rw [← hy] at hy0 hy1
     have HY := aM (HPS.out y (by rw [hy]; exact List.getElem_mem hjt))
     have HNX := aM (show incAll o (ps.take (j + 1)) = inc (incAll o (ps.take j)) y.f0 by rw [incAll_succ _ _ _ hjt, hy])
     clear hy
     obtain ⟨oj, hoj⟩ : ∃ oj, oj = incAll o (ps.take j) := ⟨_, rfl⟩
     have HOJL : Aside0 (oj.length = n) := ⟨by rw [hoj, incAll_len, HOL.out]⟩
     rw [← hoj] at HOj HNX
     clear hoj
     obtain ⟨g, cg, eg, gb, gl, cells, HG⟩ := Kd.R_form HOj.out (by have := HY.out; have := HOJL.out; omega)
     rw [HOJL.out] at eg
     injection eg with e1 e2 e3
     subst e1 e3
     have HR2 := aM (Kd.R_alloc HOj.out (.cells #[.int .i64 y.f0, .int .i64 y.f1] 56))
     obtain ⟨hz, hf⟩ := Kd.R_celln 0 HR2.out y.f0 HY.out.1 (by have := HY.out; have := HOJL.out; omega)
     have HP := aM (Kd.R_putn HR2.out y.f0 (wrap64 (oj.getD y.f0.toNat 0 + 1)))
     have GB := aM gb
     have hlb := HY.out.1
     have hub := HY.out.2
     clear HG gl gb
     go_wp2
     go_roundg (ps.length - (j + 1))
     case measure => have := HJ.out; omega
     case rel => exact ⟨j + 1, by have := HPL.out; have := HJ.out; first | go_num | (rw [w64 (by omega) (by omega)]; go_num), by have := HJ.out; omega, by omega, ⟨by rw [HNX.out]; exact HP.out⟩, ⟨below_set (below_alloc HBj.out _) GB.out⟩⟩
    ·obtain rfl : j = ps.length := by omega
     rw [List.take_length] at HOj
     rw [← HT.out] at HOj
     go_wp2
     go_roundg (ws.length - (i + 1))
     case measure => have := HI.out; omega
     case rel => exact ⟨i + 1, by have := HSL1.out; have := HI.out; first | go_num | (rw [w64 (by omega) (by omega)]; go_num), by have := HI.out; omega, by omega, HOj, HBj⟩
  ·obtain rfl : i = ws.length := by omega
   rw [List.take_length] at HO
   go_wp2
   go_ret
   exact ⟨_, rfl, HO.out, HBr.out⟩
end Go.Proofs.Ytaomjndfjmfelaa.Cnt
end

section
namespace Go.Proofs.Ytaomjndfjmfelaa.ByD
set_option linter.unusedVariables false
open Go.RowKit Go.Proofs.Ytaomjndfjmfelaa.PQ Go.Proofs.YtaomjndfjmfelaaW.PrintWords Go.Proofs.YtaomjndfjmfelaaW.PrintLast Go.Proofs.YtaomjndfjmfelaaW.PrintMore Go.Proofs.Ytaomjndfjmfelaa.Pre Go.Proofs.Ytaomjndfjmfelaa.GoodW Go.Proofs.Ytaomjndfjmfelaa.Ask
/-- The places, up to one, whose numbers are as asked. -/
def keepTo (p : Int → Bool) (ms : List Int) (i : Nat) : List Int := ((List.range i).filter (fun j => p (ms.getD j 0))).map (fun (j : Nat) => (j : Int))
def keep (p : Int → Bool) (ms : List Int) : List Int := keepTo p ms ms.length
theorem keepTo_all (p : Int → Bool) (ms : List Int) : keepTo p ms ms.length = keep p ms := rfl
theorem keepTo_succ (p : Int → Bool) (ms : List Int) (i : Nat) : keepTo p ms (i + 1) = keepTo p ms i ++ (if p (ms.getD i 0) = true then [(i : Int)] else []) := by
 unfold keepTo
 rw [List.range_succ, List.filter_append, List.map_append]
 congr 1
 by_cases h : p (ms.getD i 0) = true
 ·rw [if_pos h]
  have e : List.filter (fun j => p (ms.getD j 0)) [i] = [i] := List.filter_cons_of_pos (p := fun j => p (ms.getD j 0)) h
  rw [e]
  rfl
 ·rw [if_neg h]
  have e : List.filter (fun j => p (ms.getD j 0)) [i] = [] := List.filter_cons_of_neg (p := fun j => p (ms.getD j 0)) h
  rw [e]
  rfl
theorem keepTo_len (p : Int → Bool) (ms : List Int) (i : Nat) : (keepTo p ms i).length ≤ i := by
 unfold keepTo
 rw [List.length_map]
 exact Nat.le_trans (List.length_filter_le _ _) (by simp)
theorem asked_good {x : Int} {l : List En} {ws : List ByteArray} {m : Int} (h : asked x l ws m = true) : goodW x l = true := by
 unfold asked at h
 rw [Bool.and_eq_true, Bool.and_eq_true] at h
 exact h.1.1
theorem good_range {x : Int} {l : List En} (h : goodW x l = true) : 0 ≤ x ∧ x ≤ 40 := by
 unfold goodW at h
 rw [Bool.and_eq_true, Bool.and_eq_true] at h
 exact of_decide_eq_true h.1.1
theorem R_in' {α : Type} {d : Kd α} {e : Nat} {W : World} {base : Nat} {v : Value} {xs : List α} (h : d.R e W base (fun _ => True) v xs) : d.R e W base (fun k => base ≤ k ∧ k < W.heap.size) v xs := Kd.R_mono (Kd.R_bound h) (fun k hk => ⟨hk.2.1, hk.2.2.1⟩)
theorem R_beside {α : Type} {d : Kd α} {e : Nat} {W w4 : World} {base a b : Nat} {u v : Value} {xs : List α} (h : d.R e W base (fun k => a < k ∧ k < b) u xs) (hg : W.grownBy w4 v.ownBlock) (hv : ∀ k, v.ownBlock = some k → k = a ∨ b ≤ k) : d.R e w4 base (fun k => a < k ∧ k < b) u xs :=
 Kd.R_step h (fun k hk hlt => hg.block k hlt (fun e => by have := hv k e.symm; omega))
theorem W0_beside {W0 W w4 : World} {base a b : Nat} {v : Value} (h : Below W0.heap.size W0 W) (hg : W.grownBy w4 v.ownBlock) (hb : ∀ k, v.ownBlock = some k → base ≤ k) (hv : ∀ k, v.ownBlock = some k → k = a ∨ b ≤ k) (ha : W0.heap.size ≤ a) (hbb : W0.heap.size ≤ b) : Below W0.heap.size W0 w4 :=
 h.grown hg h.size (fun k hk => by have := hv k hk; omega)
theorem sz_alloc (w : World) (o : Obj) : w.heap.size < (w.alloc o).heap.size := by simp
theorem at_new (w : World) (o : Obj) : (w.alloc o).heap[w.heap.size]? = some o := by
 show (w.heap.push o)[w.heap.size]? = some o
 simp
theorem empty_row (base : Nat) (w1 w2 : World) (hb : Below (w1.alloc (.cells #[] 3)).heap.size (w1.alloc (.cells #[] 3)) w2) (hle : base ≤ w1.heap.size) : (Kd.int .i64).R 3 w2 base (fun k => k = w1.heap.size ∨ w2.heap.size ≤ k) (.slice (some ⟨w1.heap.size, 0, none⟩) 0 0) [] := by
 have hblk : w2.heap[w1.heap.size]? = some (.cells #[] 3 (0, 0)) := (hb.block _ (by simp)).trans (at_new w1 _)
 refine ⟨fun k hk => .inl ?_, [], ?_, Reps.none _ _⟩
 ·have : w1.heap.size = k := by simpa [Value.ownBlock] using hk
  exact this.symm
 ·exact ⟨by simp, .inr ⟨w1.heap.size, 0, #[], rfl, hle, hblk, Nat.le_refl _, by decide, by simp, by simp⟩⟩
end Go.Proofs.Ytaomjndfjmfelaa.ByD
end

section
namespace Go.Proofs.Ytaomjndfjmfelaa.ByNot
set_option linter.unusedVariables false
set_option linter.unusedSimpArgs false
open Go.RowKit Go.Proofs.Ytaomjndfjmfelaa.PQ Go.Proofs.YtaomjndfjmfelaaW.PrintWords Go.Proofs.YtaomjndfjmfelaaW.PrintLast Go.Proofs.YtaomjndfjmfelaaW.PrintMore Go.Proofs.Ytaomjndfjmfelaa.Pre Go.Proofs.Ytaomjndfjmfelaa.Posts Go.Proofs.Ytaomjndfjmfelaa.GoodW Go.Proofs.Ytaomjndfjmfelaa.EntW Go.Proofs.Ytaomjndfjmfelaa.PostW Go.Proofs.Ytaomjndfjmfelaa.Ask Go.Proofs.Ytaomjndfjmfelaa.Cnt Go.Proofs.Ytaomjndfjmfelaa.ByD
def pred (ws : List ByteArray) (n : Int) : Bool := (n == 0)
theorem lit_calls (ws : List ByteArray) (n : Int) (w : World) : Calls Try.prog 78 #[.int .i64 n] w fun e w' => e = .returned (.bool (pred ws n)) ∧ Below w.heap.size w w' := by
 unfold pred
 go_enter Try.func78, Try.ntmps78
 go_wp2
 go_ret
 exact ⟨by first | rfl | simp, Below.refl _ _⟩
set_option maxRecDepth 100000 in
set_option maxHeartbeats 4000000 in
theorem by_calls (x : Int) (A : Option Addr) (c : Nat) (l : List En) (B : Option Addr) (d : Nat) (ws : List ByteArray) (w : World) (hr : Kd.C k102 w A l.length l) (hc : l.length ≤ c) (hl : Small l) (hs : Kd.C Kd.string w B ws.length ws) (hsl : SmallS ws) :
  Calls Try.prog 72 #[.agg #[.int .i64 x, .slice A l.length c], .slice B ws.length d, .func (.func 78) #[] #[]] w fun e w' => ∃ v0_ : Value, e = .returned (.tuple #[v0_, .bool (asked x l ws 20)]) ∧ Kd.R (Kd.int .i64) 3 w' w.heap.size (fun _ => True) v0_ (if asked x l ws 20 = true then keep (pred ws) (marks x l ws) else []) ∧ Below w.heap.size w w' := by
 have HR := aM hr
 have HC := aM hc
 have HL := aM hl
 have HS := aM hs
 have HSL := aM hsl
 obtain ⟨W0, hW0⟩ : ∃ W0, W0 = w.alloc (.cells #[.int .i64 x, .slice A l.length c] 33) := ⟨_, rfl⟩
 have HX : Aside0 (∀ w', Below W0.heap.size W0 w' → w'.cell? ⟨w.heap.size, 0, none⟩ = some (.int .i64 x) ∧ w'.cell? ⟨w.heap.size, 1, none⟩ = some (.slice A l.length c)) := ⟨fun w' hb => by subst hW0; exact ⟨(hb.cell (by simp)).trans (by simp), (hb.cell (by simp)).trans (by simp)⟩⟩
 have HB0 : Aside0 (Below w.heap.size w W0) := ⟨by subst hW0; exact below_alloc (Below.refl w.heap.size w) _⟩
 have HSZ : Aside0 (w.heap.size ≤ W0.heap.size) := ⟨by subst hW0; simp⟩
 obtain ⟨b, hb⟩ : ∃ b, b = asked x l ws 20 := ⟨_, rfl⟩
 have HBA := aM hb
 rw [← hb]
 clear hr hc hl hs hsl hb
 cases b with
 | false =>
  rw [if_neg (by simp)]
  go_enter Try.func72, Try.ntmps72
  go_wp2_with (first | (go_at_call 122; go_loud (rw [← hW0]; (with_reducible refine (Ask.calls x A c l B d ws 20 _ (Kd.C_below HR.out HB0.out) HC.out HL.out (Kd.C_below HS.out HB0.out) HSL.out).mono ?_); rintro e w1 ⟨rfl, hb⟩; rw [← HBA.out]; have HA1 := aM hb; clear hb)))
  go_ret2
  exact ⟨_, rfl, Kd.R_nil _ _ _ _ _, below_then HB0.out HSZ.out HA1.out⟩
 | true =>
  rw [if_pos rfl]
  have HGW := aM (asked_good HBA.out.symm)
  obtain ⟨ms, hms⟩ : ∃ ms, ms = marks x l ws := ⟨_, rfl⟩
  have HMS := aM hms
  have HML : Aside0 (ms.length ≤ 40) := ⟨by rw [hms, marks_len]; have := good_range HGW.out; omega⟩
  rw [← hms]
  clear hms
  go_enter Try.func72, Try.ntmps72
  go_wp2_with (first | (go_at_call 122; go_loud (rw [← hW0]; (with_reducible refine (Ask.calls x A c l B d ws 20 _ (Kd.C_below HR.out HB0.out) HC.out HL.out (Kd.C_below HS.out HB0.out) HSL.out).mono ?_); rintro e w1 ⟨rfl, hb⟩; rw [← HBA.out]; have HA1 := aM hb; clear hb)) | (go_at_call 123; go_loud ((with_reducible refine (Cnt.calls x A c l B d ws w.heap.size _ (fun w' hb => HX.out w' (below_step (below_alloc HA1.out _) hb)) (Kd.C_below HR.out (below_then HB0.out HSZ.out (below_alloc HA1.out _))) HC.out HL.out HGW.out (Kd.C_below HS.out (below_then HB0.out HSZ.out (below_alloc HA1.out _))) HSL.out).mono ?_); rintro e w2 ⟨vm, rfl, ho, hb⟩; rw [← HMS.out] at ho; obtain ⟨Am, cm, em, _, _⟩ := Kd.R_reads ho; subst em; have HA2 := aM (below_step (below_alloc HA1.out (.cells #[] 3)) hb); have HM2 := aM (R_in' ho); have HO2 := aM (empty_row w.heap.size w1 w2 hb (Nat.le_trans HSZ.out (below_size HA1.out))); have HLT2 := aM (sz_alloc w1 (.cells #[] 3)); have HLE2 := aM hb.size; clear ho hb)))
  go_loopg [8, 19] ms.length (fun kq v8 v19 w' => ∃ (i : Nat) (o : List Int), v19 = .int .i64 (i : Int) ∧ i ≤ ms.length ∧ kq = ms.length - i ∧ Aside0 (o = keepTo (pred ws) ms i) ∧ Aside0 (Kd.R (Kd.int .i64) 3 w' w.heap.size (fun k => k = w1.heap.size ∨ w2.heap.size ≤ k) v8 o) ∧ Aside0 (Kd.R (Kd.int .i64) 3 w' w.heap.size (fun k => w1.heap.size < k ∧ k < w2.heap.size) (.slice Am ms.length cm) ms) ∧ Aside0 (Below W0.heap.size W0 w') ∧ Aside0 (w2.heap.size ≤ w'.heap.size))
  case atStart => exact ⟨0, [], rfl, by omega, by omega, ⟨rfl⟩, HO2, ⟨Kd.R_lower (Kd.R_mono HM2.out (fun k hk => ⟨by have := HLT2.out; omega, hk.2⟩)) (Nat.le_trans HSZ.out (Nat.le_trans (below_size HA1.out) (by have := HLT2.out; omega)))⟩, HA2, ⟨Nat.le_refl _⟩⟩
  case round =>
   obtain ⟨i, o, rfl, hi, hk, HE, HO, HM, HA, HZ⟩ := hrel
   by_cases hlt : i < ms.length
   ·have HI := aM hlt
    have p1 : (0 : Int) ≤ (i : Int) := by omega
    have q1 : (i : Int) < (ms.length : Int) := by omega
    obtain ⟨g, cg, eg, gb, gl, cells, HG⟩ := Kd.R_form HM.out (by omega)
    injection eg with e1 e2 e3
    subst e1 e3
    obtain ⟨hx0, hf0⟩ := Kd.R_celln 0 HM.out (i : Int) p1 (by omega)
    have hrd : rdOf (0 : Int) ms (i : Int) = ms.getD i 0 := by show ms.getD (i : Int).toNat 0 = _; rw [Int.toNat_natCast]
    rw [Int.toNat_natCast, hrd] at hx0
    rw [Int.toNat_natCast] at hf0
    clear hrd
    obtain ⟨y, hy⟩ : ∃ y, y = ms.getD i 0 := ⟨_, rfl⟩
    rw [← hy] at hx0
    have HT := aM (keepTo_succ (pred ws) ms i)
    rw [← hy] at HT
    clear HG gl gb hy
    obtain ⟨A8, c8, e8⟩ := Kd.R_slice HO.out
    subst e8
    obtain ⟨b, hb⟩ : ∃ b, b = pred ws y := ⟨_, rfl⟩
    have HBB := aM hb
    clear hb
    cases b with
    | false =>
     go_wp2_with (first | (go_at_call 78; go_loud ((with_reducible refine (lit_calls ws y _).mono ?_); rintro e w3 ⟨rfl, hb⟩; rw [← HBB.out]; have HA3 := aM (below_step HA.out hb); have HO3 := aM (Kd.R_below HO.out hb); have HM3 := aM (Kd.R_below HM.out hb); have HZ3 := aM (Nat.le_trans HZ.out hb.size); clear hb)))
     go_roundg (ms.length - (i + 1))
     case measure => have := HI.out; omega
     case rel => exact ⟨i + 1, o, by have := HML.out; have := HI.out; first | go_num | (rw [w64 (by omega) (by omega)]; go_num), by have := HI.out; omega, by omega, ⟨by rw [HT.out, ← HBB.out, HE.out]; simp⟩, HO3, HM3, HA3, HZ3⟩
    | true =>
     have HOL : Aside0 (o.length ≤ 40) := ⟨by rw [HE.out]; have := keepTo_len (pred ws) ms i; have := HML.out; have := HI.out; omega⟩
     go_wp2_with (first | (go_at_call 78; go_loud ((with_reducible refine (lit_calls ws y _).mono ?_); rintro e w3 ⟨rfl, hb⟩; rw [← HBB.out]; have HA3 := aM (below_step HA.out hb); have HO3 := aM (Kd.R_below HO.out hb); have HM3 := aM (Kd.R_below HM.out hb); have HZ3 := aM (Nat.le_trans HZ.out hb.size); clear hb)) | ((with_reducible refine gate_builtin (b := .append) (xs := #[.tmp 27, .tmp 29]) rfl ?_); at_builtin; go_loud (refine Kd.R_append (Kd.int .i64) (w0 := W0) w.heap.size rfl (.tmp 27) (.tmp 29) 28 3 (.int .i64 0) 8 rfl Try.underlying28 info3 rfl (by decide) (by omega) _ o (i : Int) [.int .i64 (i : Int)] (fun k => k = w1.heap.size ∨ w2.heap.size ≤ k) (fun _ => False) rfl rfl ?aP (fun _ hk => hk.elim) ?aF ?aO ?aB ?aS ?aL ?_; (case aP => exact rfl); (case aB => exact HA3.out.mono HSZ.out); (case aF => exact (fun k hk => .inr (Nat.le_trans HZ3.out hk))); (case aO => exact HO3.out); (case aS => exact Nat.le_trans HSZ.out (below_size HA3.out)); (case aL => have := HOL.out; omega); intro v4 w4 ho4 hb4 hg4 hat4; have HO4 := aM ho4; have HM4 := aM (R_beside HM3.out hg4 (fun k hk => (HO3.out.1 k hk))); have HA4 := aM (W0_beside HA3.out hg4 (fun k hk => (Kd.R_base HO3.out k hk)) (HO3.out.1) (below_size HA1.out) (Nat.le_trans (below_size HA1.out) (Nat.le_trans (Nat.le_of_lt HLT2.out) HLE2.out))); have HZ4 := aM (Nat.le_trans HZ3.out hg4.size); clear ho4 hb4 hg4 hat4)))
     go_roundg (ms.length - (i + 1))
     case measure => have := HI.out; omega
     case rel => exact ⟨i + 1, o ++ [(i : Int)], by have := HML.out; have := HI.out; first | go_num | (rw [w64 (by omega) (by omega)]; go_num), by have := HI.out; omega, by omega, ⟨by rw [HT.out, ← HBB.out, HE.out]; simp⟩, HO4, HM4, HA4, HZ4⟩
   ·obtain rfl : i = ms.length := by omega
    go_wp2
    go_ret2
    refine ⟨_, rfl, ?_, below_then HB0.out HSZ.out HA.out⟩
    rw [← keepTo_all, ← HE.out]
    exact Kd.R_mono HO.out (fun _ _ => trivial)
end Go.Proofs.Ytaomjndfjmfelaa.ByNot
end

section
namespace Go.Proofs.Ytaomjndfjmfelaa.ByP
set_option linter.unusedVariables false
open Go.RowKit Go.Proofs.Ytaomjndfjmfelaa.PQ Go.Proofs.YtaomjndfjmfelaaW.PrintWords Go.Proofs.YtaomjndfjmfelaaW.PrintLast Go.Proofs.Ytaomjndfjmfelaa.Pre Go.Proofs.Ytaomjndfjmfelaa.Posts Go.Proofs.Ytaomjndfjmfelaa.GoodW Go.Proofs.Ytaomjndfjmfelaa.PostW Go.Proofs.Ytaomjndfjmfelaa.Ask Go.Proofs.Ytaomjndfjmfelaa.Cnt Go.Proofs.Ytaomjndfjmfelaa.ByD
theorem spec_posts (l : List En) (hl : Small l) (x : Int) (t : ByteArray) : Evt (fun k => spec_l10Postings.f k x l t) (posts l t) := by
 have hl1 := hl.1
 unfold spec_l10Postings.f
 have key : ∀ (n i : Nat), i + n = l.length → Evt (fun k => spec_l10Postings.l0 k t l (l.length : Int) (i : Int)) (posts (l.drop i) t) := by
  intro n
  induction n with
  | zero =>
   intro i hi
   refine Evt.step (fun k => spec_l10Postings.l0.eq_2 _ _ _ _ k) (Evt.neg (by omega) ((Evt.const _).eq ?_))
   rw [List.drop_of_length_le (by omega)]
   rfl
  | succ n ih =>
   intro i hi
   have hlt : i < l.length := by omega
   refine Evt.step (fun k => spec_l10Postings.l0.eq_2 _ _ _ _ k) (Evt.pos (by omega) (Evt.pos (by omega) (Evt.pos (by omega) ?_)))
   rw [rd_en l i hlt, w64 (n := (i : Int) + 1) (by omega) (by omega), List.drop_eq_getElem_cons hlt]
   by_cases he : l[i].f0 = t
   ·refine Evt.pos (by rw [he]) (Evt.bsome (Evt.pos ?_ ((Evt.const _).eq ?_)))
    ·have := (hl.2 _ (List.getElem_mem hlt)).2
     simp
     omega
    ·unfold posts
     have h_ : (l[i] :: l.drop (i + 1)).find? (fun e => decide (e.f0 = t)) = some l[i] := List.find?_cons_of_pos (decide_eq_true he)
     rw [h_]
     rfl
   ·refine Evt.neg (fun e => he (Byt.toList_inj e)) ((ih (i + 1) (by omega)).eq ?_)
    unfold posts
    have h_ : (l[i] :: l.drop (i + 1)).find? (fun e => decide (e.f0 = t)) = (l.drop (i + 1)).find? (fun e => decide (e.f0 = t)) := List.find?_cons_of_neg (by simpa using he)
    rw [h_]
 exact key l.length 0 (by omega)
theorem l1_ev (ws : List ByteArray) (x23 x24 x : Int) (l : List En) (ps : List Po) (hps : ps.length ≤ 1048576) (r : List Int × Bool) : ∀ (n j : Nat) (o : List Int), j + n = ps.length → (∀ p ∈ ps, 0 ≤ p.f0 ∧ p.f0 < (o.length : Int)) →
  Evt (fun k => spec_l10Marks.l0 k (incAll o (ps.drop j)) ws x23 (wrap64 (x24 + 1)) x l) r → Evt (fun k => spec_l10Marks.l1 k o ws x23 x24 ps (ps.length : Int) (j : Int) x l) r := by
 intro n
 induction n with
 | zero =>
  intro j o hj hp h
  rw [List.drop_of_length_le (by omega)] at h
  exact Evt.step (fun k => spec_l10Marks.l1.eq_2 _ _ _ _ _ _ _ _ _ k) (Evt.neg (by omega) h)
 | succ n ih =>
  intro j o hj hp h
  have hlt : j < ps.length := by omega
  have hpj := hp _ (List.getElem_mem hlt)
  refine Evt.step (fun k => spec_l10Marks.l1.eq_2 _ _ _ _ _ _ _ _ _ k) (Evt.pos (by omega) (Evt.pos (by omega) (Evt.pos (by omega) ?_)))
  rw [rd_get ps j hlt, w64 (n := (j : Int) + 1) (by omega) (by omega)]
  refine Evt.pos hpj.1 (Evt.pos hpj.2 (ih (j + 1) (inc o ps[j].f0) (by omega) (by rw [inc_len]; exact hp) ?_))
  rw [List.drop_eq_getElem_cons hlt] at h
  exact h
def foldM (l : List En) (ws : List ByteArray) (o : List Int) : List Int := ws.foldl (fun o t => incAll o (posts l t)) o
theorem l0_ev (x : Int) (l : List En) (hl : Small l) (hg : goodW x l = true) (ws : List ByteArray) (hs : SmallS ws) : ∀ (n i : Nat) (o : List Int), i + n = ws.length → (o.length : Int) = x →
  Evt (fun k => spec_l10Marks.l0 k o ws (ws.length : Int) (i : Int) x l) (if (ws.drop i).any notW = true then ([], false) else (foldM l (ws.drop i) o, true)) := by
 intro n
 induction n with
 | zero =>
  intro i o hi ho
  rw [List.drop_of_length_le (by omega)]
  exact Evt.step (fun k => spec_l10Marks.l0.eq_2 _ _ _ _ _ _ k) (Evt.neg (by omega) (Evt.const _))
 | succ n ih =>
  intro i o hi ho
  have hs1 := hs.1
  have hlt : i < ws.length := by omega
  have hrd : rdOf ByteArray.empty ws (i : Int) = ws[i] := by
   show ws.getD (i : Int).toNat ByteArray.empty = _
   rw [Int.toNat_natCast, List.getD_eq_getElem?_getD, List.getElem?_eq_getElem hlt]
   rfl
  refine Evt.step (fun k => spec_l10Marks.l0.eq_2 _ _ _ _ _ _ k) (Evt.pos (by omega) (Evt.pos (by omega) (Evt.pos (by omega) ?_)))
  rw [hrd, List.drop_eq_getElem_cons hlt, List.any_cons]
  refine Evt.bind (l10Word_ev _ (hs.2 _ (List.getElem_mem hlt))) ?_
  by_cases hw : isW ws[i] = true
  ·refine Evt.pos hw (Evt.bind (spec_posts l hl x ws[i]) ?_)
   have e1 : notW ws[i] = false := by unfold notW; rw [hw]; rfl
   rw [e1, Bool.false_or]
   refine l1_ev ws (ws.length : Int) (i : Int) x l (posts l ws[i]) (small_posts hl _) _ (posts l ws[i]).length 0 o (by omega) (fun p hp => ?_) ?_
   ·have := posts_ok hg ws[i] p hp
    omega
   ·rw [List.drop_zero, w64 (n := (i : Int) + 1) (by omega) (by omega)]
    exact ih (i + 1) (incAll o (posts l ws[i])) (by omega) (by rw [incAll_len]; exact ho)
  ·refine Evt.neg hw ((Evt.const _).eq ?_)
   have e1 : notW ws[i] = true := by unfold notW; rw [Bool.eq_false_iff.2 hw]; rfl
   rw [e1, Bool.true_or, if_pos rfl]
theorem marks_ev (x : Int) (l : List En) (hl : Small l) (ws : List ByteArray) (hs : SmallS ws) : Evt (fun k => spec_l10Marks.f k x l ws) (if asked x l ws 20 = true then (marks x l ws, true) else ([], false)) := by
 unfold spec_l10Marks.f asked
 refine Evt.bind (GoodW.spec_ev x l hl) ?_
 by_cases hg : goodW x l = true
 ·have hx := good_range hg
  refine Evt.pos hg (Evt.step (fun k => spec_l10Marks.j0.eq_2 _ _ _ _ k) ?_)
  rw [hg, Bool.true_and]
  by_cases h20 : (ws.length : Int) ≤ 20
  ·refine Evt.neg (by rw [decide_eq_false (by omega)]; simp) (Evt.pos hx.1 (Evt.pos (by omega) ?_))
   rw [decide_eq_true h20, Bool.true_and]
   refine (l0_ev x l hl hg ws hs ws.length 0 _ (by omega) (by rw [List.length_replicate]; omega)).eq ?_
   rw [List.drop_zero]
   by_cases ha : ws.any notW = true
   ·rw [if_pos ha, ha]
    rfl
   ·rw [if_neg ha, Bool.eq_false_iff.2 ha]
    rfl
  ·refine Evt.pos (decide_eq_true (by omega)) ((Evt.const _).eq ?_)
   rw [decide_eq_false h20]
   rfl
 ·refine Evt.neg hg (Evt.step (fun k => spec_l10Marks.j0.eq_2 _ _ _ _ k) (Evt.pos rfl ((Evt.const _).eq ?_)))
  rw [Bool.eq_false_iff.2 hg]
  rfl
end Go.Proofs.Ytaomjndfjmfelaa.ByP
end

section
namespace Go.Proofs.Ytaomjndfjmfelaa.ByNot
set_option linter.unusedVariables false
open Go.RowKit Go.Proofs.Ytaomjndfjmfelaa.PQ Go.Proofs.YtaomjndfjmfelaaW.PrintWords Go.Proofs.YtaomjndfjmfelaaW.PrintLast Go.Proofs.Ytaomjndfjmfelaa.Pre Go.Proofs.Ytaomjndfjmfelaa.Posts Go.Proofs.Ytaomjndfjmfelaa.GoodW Go.Proofs.Ytaomjndfjmfelaa.PostW Go.Proofs.Ytaomjndfjmfelaa.Ask Go.Proofs.Ytaomjndfjmfelaa.Cnt Go.Proofs.Ytaomjndfjmfelaa.ByD Go.Proofs.Ytaomjndfjmfelaa.ByP
theorem loop_ev (ws : List ByteArray) (b : Bool) (ms : List Int) (hm : ms.length ≤ 1048576) : Evt (fun k => spec_Without.l0 k b [] ms (ms.length : Int) 0) (keep (pred ws) ms, b) := by
 have key : ∀ (n i : Nat), i + n = ms.length → Evt (fun k => spec_Without.l0 k b (keepTo (pred ws) ms i) ms (ms.length : Int) (i : Int)) (keep (pred ws) ms, b) := by
  intro n
  induction n with
  | zero =>
   intro i hi
   refine Evt.step (fun k => spec_Without.l0.eq_2 _ _ _ _ _ k) (Evt.neg (by omega) ((Evt.const _).eq ?_))
   rw [show i = ms.length by omega, keepTo_all]
  | succ n ih =>
   intro i hi
   have hlt : i < ms.length := by omega
   have hrd : rd ms (i : Int) = ms[i] := by
    show ms.getD (i : Int).toNat 0 = _
    rw [Int.toNat_natCast, List.getD_eq_getElem?_getD, List.getElem?_eq_getElem hlt]
    rfl
   have hgd : ms.getD i 0 = ms[i] := by
    rw [List.getD_eq_getElem?_getD, List.getElem?_eq_getElem hlt]
    rfl
   have ih := ih (i + 1) (by omega)
   rw [keepTo_succ, hgd] at ih
   have hlen := keepTo_len (pred ws) ms i
   refine Evt.step (fun k => spec_Without.l0.eq_2 _ _ _ _ _ k) (Evt.pos (by omega) (Evt.pos (by omega) (Evt.pos (by omega) ?_)))
   rw [hrd, w64 (n := (i : Int) + 1) (by omega) (by omega)]
   by_cases hc : ms[i] = 0
   ·have hp : pred ws ms[i] = true := beq_iff_eq.2 hc
    rw [if_pos hp] at ih
    exact Evt.pos hc (Evt.pos (by omega) ih)
   ·have hp : pred ws ms[i] = false := beq_eq_false_iff_ne.2 hc
    rw [if_neg (by rw [hp]; simp), List.append_nil] at ih
    exact Evt.neg hc ih
 exact key ms.length 0 (by omega)
/-- What Without answers. -/
def ans (x : Int) (l : List En) (ws : List ByteArray) : List Int × Bool := (if asked x l ws 20 = true then keep (pred ws) (marks x l ws) else [], asked x l ws 20)
theorem spec_of (x : Int) (l : List En) (hl : Small l) (ws : List ByteArray) (hs : SmallS ws) : Evt (fun k => spec_Without.f k x l ws) (ans x l ws) := by
 unfold spec_Without.f ans
 refine Evt.bind (marks_ev x l hl ws hs) ?_
 by_cases ha : asked x l ws 20 = true
 ·have hx := good_range (asked_good ha)
  rw [ha, if_pos rfl, if_pos rfl]
  exact loop_ev ws true (marks x l ws) (by rw [marks_len]; omega)
 ·rw [if_neg ha, if_neg ha, Bool.eq_false_iff.2 ha]
  refine (loop_ev ws false [] (by simp)).eq ?_
  rfl
theorem ans_len (x : Int) (l : List En) (ws : List ByteArray) : (ans x l ws).1.length ≤ 1048576 := by
 unfold ans
 by_cases ha : asked x l ws 20 = true
 ·have hx := good_range (asked_good ha)
  show (if asked x l ws 20 = true then keep (pred ws) (marks x l ws) else []).length ≤ _
  rw [if_pos ha]
  have h := keepTo_len (pred ws) (marks x l ws) (marks x l ws).length
  rw [marks_len] at h
  show (keepTo (pred ws) (marks x l ws) (marks x l ws).length).length ≤ _
  rw [marks_len]
  omega
 ·show (if asked x l ws 20 = true then keep (pred ws) (marks x l ws) else []).length ≤ _
  rw [if_neg ha]
  simp
end Go.Proofs.Ytaomjndfjmfelaa.ByNot
end

section
namespace Go.Proofs.Ytaomjndfjmfelaa.ByAny
set_option linter.unusedVariables false
set_option linter.unusedSimpArgs false
open Go.RowKit Go.Proofs.Ytaomjndfjmfelaa.PQ Go.Proofs.YtaomjndfjmfelaaW.PrintWords Go.Proofs.YtaomjndfjmfelaaW.PrintLast Go.Proofs.YtaomjndfjmfelaaW.PrintMore Go.Proofs.Ytaomjndfjmfelaa.Pre Go.Proofs.Ytaomjndfjmfelaa.Posts Go.Proofs.Ytaomjndfjmfelaa.GoodW Go.Proofs.Ytaomjndfjmfelaa.EntW Go.Proofs.Ytaomjndfjmfelaa.PostW Go.Proofs.Ytaomjndfjmfelaa.Ask Go.Proofs.Ytaomjndfjmfelaa.Cnt Go.Proofs.Ytaomjndfjmfelaa.ByD
def pred (ws : List ByteArray) (n : Int) : Bool := decide (0 < n)
theorem lit_calls (ws : List ByteArray) (n : Int) (w : World) : Calls Try.prog 77 #[.int .i64 n] w fun e w' => e = .returned (.bool (pred ws n)) ∧ Below w.heap.size w w' := by
 unfold pred
 go_enter Try.func77, Try.ntmps77
 go_wp2
 go_ret
 exact ⟨by first | rfl | simp, Below.refl _ _⟩
set_option maxRecDepth 100000 in
set_option maxHeartbeats 4000000 in
theorem by_calls (x : Int) (A : Option Addr) (c : Nat) (l : List En) (B : Option Addr) (d : Nat) (ws : List ByteArray) (w : World) (hr : Kd.C k102 w A l.length l) (hc : l.length ≤ c) (hl : Small l) (hs : Kd.C Kd.string w B ws.length ws) (hsl : SmallS ws) :
  Calls Try.prog 72 #[.agg #[.int .i64 x, .slice A l.length c], .slice B ws.length d, .func (.func 77) #[] #[]] w fun e w' => ∃ v0_ : Value, e = .returned (.tuple #[v0_, .bool (asked x l ws 20)]) ∧ Kd.R (Kd.int .i64) 3 w' w.heap.size (fun _ => True) v0_ (if asked x l ws 20 = true then keep (pred ws) (marks x l ws) else []) ∧ Below w.heap.size w w' := by
 have HR := aM hr
 have HC := aM hc
 have HL := aM hl
 have HS := aM hs
 have HSL := aM hsl
 obtain ⟨W0, hW0⟩ : ∃ W0, W0 = w.alloc (.cells #[.int .i64 x, .slice A l.length c] 33) := ⟨_, rfl⟩
 have HX : Aside0 (∀ w', Below W0.heap.size W0 w' → w'.cell? ⟨w.heap.size, 0, none⟩ = some (.int .i64 x) ∧ w'.cell? ⟨w.heap.size, 1, none⟩ = some (.slice A l.length c)) := ⟨fun w' hb => by subst hW0; exact ⟨(hb.cell (by simp)).trans (by simp), (hb.cell (by simp)).trans (by simp)⟩⟩
 have HB0 : Aside0 (Below w.heap.size w W0) := ⟨by subst hW0; exact below_alloc (Below.refl w.heap.size w) _⟩
 have HSZ : Aside0 (w.heap.size ≤ W0.heap.size) := ⟨by subst hW0; simp⟩
 obtain ⟨b, hb⟩ : ∃ b, b = asked x l ws 20 := ⟨_, rfl⟩
 have HBA := aM hb
 rw [← hb]
 clear hr hc hl hs hsl hb
 cases b with
 | false =>
  rw [if_neg (by simp)]
  go_enter Try.func72, Try.ntmps72
  go_wp2_with (first | (go_at_call 122; go_loud (rw [← hW0]; (with_reducible refine (Ask.calls x A c l B d ws 20 _ (Kd.C_below HR.out HB0.out) HC.out HL.out (Kd.C_below HS.out HB0.out) HSL.out).mono ?_); rintro e w1 ⟨rfl, hb⟩; rw [← HBA.out]; have HA1 := aM hb; clear hb)))
  go_ret2
  exact ⟨_, rfl, Kd.R_nil _ _ _ _ _, below_then HB0.out HSZ.out HA1.out⟩
 | true =>
  rw [if_pos rfl]
  have HGW := aM (asked_good HBA.out.symm)
  obtain ⟨ms, hms⟩ : ∃ ms, ms = marks x l ws := ⟨_, rfl⟩
  have HMS := aM hms
  have HML : Aside0 (ms.length ≤ 40) := ⟨by rw [hms, marks_len]; have := good_range HGW.out; omega⟩
  rw [← hms]
  clear hms
  go_enter Try.func72, Try.ntmps72
  go_wp2_with (first | (go_at_call 122; go_loud (rw [← hW0]; (with_reducible refine (Ask.calls x A c l B d ws 20 _ (Kd.C_below HR.out HB0.out) HC.out HL.out (Kd.C_below HS.out HB0.out) HSL.out).mono ?_); rintro e w1 ⟨rfl, hb⟩; rw [← HBA.out]; have HA1 := aM hb; clear hb)) | (go_at_call 123; go_loud ((with_reducible refine (Cnt.calls x A c l B d ws w.heap.size _ (fun w' hb => HX.out w' (below_step (below_alloc HA1.out _) hb)) (Kd.C_below HR.out (below_then HB0.out HSZ.out (below_alloc HA1.out _))) HC.out HL.out HGW.out (Kd.C_below HS.out (below_then HB0.out HSZ.out (below_alloc HA1.out _))) HSL.out).mono ?_); rintro e w2 ⟨vm, rfl, ho, hb⟩; rw [← HMS.out] at ho; obtain ⟨Am, cm, em, _, _⟩ := Kd.R_reads ho; subst em; have HA2 := aM (below_step (below_alloc HA1.out (.cells #[] 3)) hb); have HM2 := aM (R_in' ho); have HO2 := aM (empty_row w.heap.size w1 w2 hb (Nat.le_trans HSZ.out (below_size HA1.out))); have HLT2 := aM (sz_alloc w1 (.cells #[] 3)); have HLE2 := aM hb.size; clear ho hb)))
  go_loopg [8, 19] ms.length (fun kq v8 v19 w' => ∃ (i : Nat) (o : List Int), v19 = .int .i64 (i : Int) ∧ i ≤ ms.length ∧ kq = ms.length - i ∧ Aside0 (o = keepTo (pred ws) ms i) ∧ Aside0 (Kd.R (Kd.int .i64) 3 w' w.heap.size (fun k => k = w1.heap.size ∨ w2.heap.size ≤ k) v8 o) ∧ Aside0 (Kd.R (Kd.int .i64) 3 w' w.heap.size (fun k => w1.heap.size < k ∧ k < w2.heap.size) (.slice Am ms.length cm) ms) ∧ Aside0 (Below W0.heap.size W0 w') ∧ Aside0 (w2.heap.size ≤ w'.heap.size))
  case atStart => exact ⟨0, [], rfl, by omega, by omega, ⟨rfl⟩, HO2, ⟨Kd.R_lower (Kd.R_mono HM2.out (fun k hk => ⟨by have := HLT2.out; omega, hk.2⟩)) (Nat.le_trans HSZ.out (Nat.le_trans (below_size HA1.out) (by have := HLT2.out; omega)))⟩, HA2, ⟨Nat.le_refl _⟩⟩
  case round =>
   obtain ⟨i, o, rfl, hi, hk, HE, HO, HM, HA, HZ⟩ := hrel
   by_cases hlt : i < ms.length
   ·have HI := aM hlt
    have p1 : (0 : Int) ≤ (i : Int) := by omega
    have q1 : (i : Int) < (ms.length : Int) := by omega
    obtain ⟨g, cg, eg, gb, gl, cells, HG⟩ := Kd.R_form HM.out (by omega)
    injection eg with e1 e2 e3
    subst e1 e3
    obtain ⟨hx0, hf0⟩ := Kd.R_celln 0 HM.out (i : Int) p1 (by omega)
    have hrd : rdOf (0 : Int) ms (i : Int) = ms.getD i 0 := by show ms.getD (i : Int).toNat 0 = _; rw [Int.toNat_natCast]
    rw [Int.toNat_natCast, hrd] at hx0
    rw [Int.toNat_natCast] at hf0
    clear hrd
    obtain ⟨y, hy⟩ : ∃ y, y = ms.getD i 0 := ⟨_, rfl⟩
    rw [← hy] at hx0
    have HT := aM (keepTo_succ (pred ws) ms i)
    rw [← hy] at HT
    clear HG gl gb hy
    obtain ⟨A8, c8, e8⟩ := Kd.R_slice HO.out
    subst e8
    obtain ⟨b, hb⟩ : ∃ b, b = pred ws y := ⟨_, rfl⟩
    have HBB := aM hb
    clear hb
    cases b with
    | false =>
     go_wp2_with (first | (go_at_call 77; go_loud ((with_reducible refine (lit_calls ws y _).mono ?_); rintro e w3 ⟨rfl, hb⟩; rw [← HBB.out]; have HA3 := aM (below_step HA.out hb); have HO3 := aM (Kd.R_below HO.out hb); have HM3 := aM (Kd.R_below HM.out hb); have HZ3 := aM (Nat.le_trans HZ.out hb.size); clear hb)))
     go_roundg (ms.length - (i + 1))
     case measure => have := HI.out; omega
     case rel => exact ⟨i + 1, o, by have := HML.out; have := HI.out; first | go_num | (rw [w64 (by omega) (by omega)]; go_num), by have := HI.out; omega, by omega, ⟨by rw [HT.out, ← HBB.out, HE.out]; simp⟩, HO3, HM3, HA3, HZ3⟩
    | true =>
     have HOL : Aside0 (o.length ≤ 40) := ⟨by rw [HE.out]; have := keepTo_len (pred ws) ms i; have := HML.out; have := HI.out; omega⟩
     go_wp2_with (first | (go_at_call 77; go_loud ((with_reducible refine (lit_calls ws y _).mono ?_); rintro e w3 ⟨rfl, hb⟩; rw [← HBB.out]; have HA3 := aM (below_step HA.out hb); have HO3 := aM (Kd.R_below HO.out hb); have HM3 := aM (Kd.R_below HM.out hb); have HZ3 := aM (Nat.le_trans HZ.out hb.size); clear hb)) | ((with_reducible refine gate_builtin (b := .append) (xs := #[.tmp 27, .tmp 29]) rfl ?_); at_builtin; go_loud (refine Kd.R_append (Kd.int .i64) (w0 := W0) w.heap.size rfl (.tmp 27) (.tmp 29) 28 3 (.int .i64 0) 8 rfl Try.underlying28 info3 rfl (by decide) (by omega) _ o (i : Int) [.int .i64 (i : Int)] (fun k => k = w1.heap.size ∨ w2.heap.size ≤ k) (fun _ => False) rfl rfl ?aP (fun _ hk => hk.elim) ?aF ?aO ?aB ?aS ?aL ?_; (case aP => exact rfl); (case aB => exact HA3.out.mono HSZ.out); (case aF => exact (fun k hk => .inr (Nat.le_trans HZ3.out hk))); (case aO => exact HO3.out); (case aS => exact Nat.le_trans HSZ.out (below_size HA3.out)); (case aL => have := HOL.out; omega); intro v4 w4 ho4 hb4 hg4 hat4; have HO4 := aM ho4; have HM4 := aM (R_beside HM3.out hg4 (fun k hk => (HO3.out.1 k hk))); have HA4 := aM (W0_beside HA3.out hg4 (fun k hk => (Kd.R_base HO3.out k hk)) (HO3.out.1) (below_size HA1.out) (Nat.le_trans (below_size HA1.out) (Nat.le_trans (Nat.le_of_lt HLT2.out) HLE2.out))); have HZ4 := aM (Nat.le_trans HZ3.out hg4.size); clear ho4 hb4 hg4 hat4)))
     go_roundg (ms.length - (i + 1))
     case measure => have := HI.out; omega
     case rel => exact ⟨i + 1, o ++ [(i : Int)], by have := HML.out; have := HI.out; first | go_num | (rw [w64 (by omega) (by omega)]; go_num), by have := HI.out; omega, by omega, ⟨by rw [HT.out, ← HBB.out, HE.out]; simp⟩, HO4, HM4, HA4, HZ4⟩
   ·obtain rfl : i = ms.length := by omega
    go_wp2
    go_ret2
    refine ⟨_, rfl, ?_, below_then HB0.out HSZ.out HA.out⟩
    rw [← keepTo_all, ← HE.out]
    exact Kd.R_mono HO.out (fun _ _ => trivial)
end Go.Proofs.Ytaomjndfjmfelaa.ByAny
end

section
namespace Go.Proofs.Ytaomjndfjmfelaa.ByAny
set_option linter.unusedVariables false
open Go.RowKit Go.Proofs.Ytaomjndfjmfelaa.PQ Go.Proofs.YtaomjndfjmfelaaW.PrintWords Go.Proofs.YtaomjndfjmfelaaW.PrintLast Go.Proofs.Ytaomjndfjmfelaa.Pre Go.Proofs.Ytaomjndfjmfelaa.Posts Go.Proofs.Ytaomjndfjmfelaa.GoodW Go.Proofs.Ytaomjndfjmfelaa.PostW Go.Proofs.Ytaomjndfjmfelaa.Ask Go.Proofs.Ytaomjndfjmfelaa.Cnt Go.Proofs.Ytaomjndfjmfelaa.ByD Go.Proofs.Ytaomjndfjmfelaa.ByP
/-- What WithAny answers. -/
def ans (x : Int) (l : List En) (ws : List ByteArray) : List Int × Bool := (if asked x l ws 20 = true then keep (pred ws) (marks x l ws) else [], asked x l ws 20)
theorem ans_len (x : Int) (l : List En) (ws : List ByteArray) : (ans x l ws).1.length ≤ 1048576 := by
 unfold ans
 by_cases ha : asked x l ws 20 = true
 ·have hx := good_range (asked_good ha)
  show (if asked x l ws 20 = true then keep (pred ws) (marks x l ws) else []).length ≤ _
  rw [if_pos ha]
  have h := keepTo_len (pred ws) (marks x l ws) (marks x l ws).length
  rw [marks_len] at h
  show (keepTo (pred ws) (marks x l ws) (marks x l ws).length).length ≤ _
  rw [marks_len]
  omega
 ·show (if asked x l ws 20 = true then keep (pred ws) (marks x l ws) else []).length ≤ _
  rw [if_neg ha]
  simp
end Go.Proofs.Ytaomjndfjmfelaa.ByAny
end

section
namespace Go.Proofs.Ytaomjndfjmfelaa.ByAll
set_option linter.unusedVariables false
set_option linter.unusedSimpArgs false
open Go.RowKit Go.Proofs.Ytaomjndfjmfelaa.PQ Go.Proofs.YtaomjndfjmfelaaW.PrintWords Go.Proofs.YtaomjndfjmfelaaW.PrintLast Go.Proofs.YtaomjndfjmfelaaW.PrintMore Go.Proofs.Ytaomjndfjmfelaa.Pre Go.Proofs.Ytaomjndfjmfelaa.Posts Go.Proofs.Ytaomjndfjmfelaa.GoodW Go.Proofs.Ytaomjndfjmfelaa.EntW Go.Proofs.Ytaomjndfjmfelaa.PostW Go.Proofs.Ytaomjndfjmfelaa.Ask Go.Proofs.Ytaomjndfjmfelaa.Cnt Go.Proofs.Ytaomjndfjmfelaa.ByD
def pred (ws : List ByteArray) (n : Int) : Bool := (n == (ws.length : Int))
theorem lit_calls (ws : List ByteArray) (B : Option Addr) (d bq : Nat) (n : Int) (w : World) (hcl : w.cell? ⟨bq, 0, none⟩ = some (.slice B ws.length d)) : Calls Try.prog 73 #[.int .i64 n, .pointer (some ⟨bq, 0, none⟩)] w fun e w' => e = .returned (.bool (pred ws n)) ∧ Below w.heap.size w w' := by
 unfold pred
 go_enter Try.func73, Try.ntmps73
 go_wp2
 go_ret
 exact ⟨by first | rfl | simp, Below.refl _ _⟩
set_option maxRecDepth 100000 in
set_option maxHeartbeats 4000000 in
theorem by_calls (x : Int) (A : Option Addr) (c : Nat) (l : List En) (B : Option Addr) (d : Nat) (ws : List ByteArray) (bq : Nat) (w : World) (hcl : ∀ w', Below w.heap.size w w' → w'.cell? ⟨bq, 0, none⟩ = some (.slice B ws.length d)) (hr : Kd.C k102 w A l.length l) (hc : l.length ≤ c) (hl : Small l) (hs : Kd.C Kd.string w B ws.length ws) (hsl : SmallS ws) :
  Calls Try.prog 72 #[.agg #[.int .i64 x, .slice A l.length c], .slice B ws.length d, .func (.func 73) #[] #[.pointer (some ⟨bq, 0, none⟩)]] w fun e w' => ∃ v0_ : Value, e = .returned (.tuple #[v0_, .bool (asked x l ws 20)]) ∧ Kd.R (Kd.int .i64) 3 w' w.heap.size (fun _ => True) v0_ (if asked x l ws 20 = true then keep (pred ws) (marks x l ws) else []) ∧ Below w.heap.size w w' := by
 have HR := aM hr
 have HC := aM hc
 have HL := aM hl
 have HS := aM hs
 have HSL := aM hsl
 have HCL := aM hcl
 clear hcl
 obtain ⟨W0, hW0⟩ : ∃ W0, W0 = w.alloc (.cells #[.int .i64 x, .slice A l.length c] 33) := ⟨_, rfl⟩
 have HX : Aside0 (∀ w', Below W0.heap.size W0 w' → w'.cell? ⟨w.heap.size, 0, none⟩ = some (.int .i64 x) ∧ w'.cell? ⟨w.heap.size, 1, none⟩ = some (.slice A l.length c)) := ⟨fun w' hb => by subst hW0; exact ⟨(hb.cell (by simp)).trans (by simp), (hb.cell (by simp)).trans (by simp)⟩⟩
 have HB0 : Aside0 (Below w.heap.size w W0) := ⟨by subst hW0; exact below_alloc (Below.refl w.heap.size w) _⟩
 have HSZ : Aside0 (w.heap.size ≤ W0.heap.size) := ⟨by subst hW0; simp⟩
 obtain ⟨b, hb⟩ : ∃ b, b = asked x l ws 20 := ⟨_, rfl⟩
 have HBA := aM hb
 rw [← hb]
 clear hr hc hl hs hsl hb
 cases b with
 | false =>
  rw [if_neg (by simp)]
  go_enter Try.func72, Try.ntmps72
  go_wp2_with (first | (go_at_call 122; go_loud (rw [← hW0]; (with_reducible refine (Ask.calls x A c l B d ws 20 _ (Kd.C_below HR.out HB0.out) HC.out HL.out (Kd.C_below HS.out HB0.out) HSL.out).mono ?_); rintro e w1 ⟨rfl, hb⟩; rw [← HBA.out]; have HA1 := aM hb; clear hb)))
  go_ret2
  exact ⟨_, rfl, Kd.R_nil _ _ _ _ _, below_then HB0.out HSZ.out HA1.out⟩
 | true =>
  rw [if_pos rfl]
  have HGW := aM (asked_good HBA.out.symm)
  obtain ⟨ms, hms⟩ : ∃ ms, ms = marks x l ws := ⟨_, rfl⟩
  have HMS := aM hms
  have HML : Aside0 (ms.length ≤ 40) := ⟨by rw [hms, marks_len]; have := good_range HGW.out; omega⟩
  rw [← hms]
  clear hms
  go_enter Try.func72, Try.ntmps72
  go_wp2_with (first | (go_at_call 122; go_loud (rw [← hW0]; (with_reducible refine (Ask.calls x A c l B d ws 20 _ (Kd.C_below HR.out HB0.out) HC.out HL.out (Kd.C_below HS.out HB0.out) HSL.out).mono ?_); rintro e w1 ⟨rfl, hb⟩; rw [← HBA.out]; have HA1 := aM hb; clear hb)) | (go_at_call 123; go_loud ((with_reducible refine (Cnt.calls x A c l B d ws w.heap.size _ (fun w' hb => HX.out w' (below_step (below_alloc HA1.out _) hb)) (Kd.C_below HR.out (below_then HB0.out HSZ.out (below_alloc HA1.out _))) HC.out HL.out HGW.out (Kd.C_below HS.out (below_then HB0.out HSZ.out (below_alloc HA1.out _))) HSL.out).mono ?_); rintro e w2 ⟨vm, rfl, ho, hb⟩; rw [← HMS.out] at ho; obtain ⟨Am, cm, em, _, _⟩ := Kd.R_reads ho; subst em; have HA2 := aM (below_step (below_alloc HA1.out (.cells #[] 3)) hb); have HM2 := aM (R_in' ho); have HO2 := aM (empty_row w.heap.size w1 w2 hb (Nat.le_trans HSZ.out (below_size HA1.out))); have HLT2 := aM (sz_alloc w1 (.cells #[] 3)); have HLE2 := aM hb.size; clear ho hb)))
  go_loopg [8, 19] ms.length (fun kq v8 v19 w' => ∃ (i : Nat) (o : List Int), v19 = .int .i64 (i : Int) ∧ i ≤ ms.length ∧ kq = ms.length - i ∧ Aside0 (o = keepTo (pred ws) ms i) ∧ Aside0 (Kd.R (Kd.int .i64) 3 w' w.heap.size (fun k => k = w1.heap.size ∨ w2.heap.size ≤ k) v8 o) ∧ Aside0 (Kd.R (Kd.int .i64) 3 w' w.heap.size (fun k => w1.heap.size < k ∧ k < w2.heap.size) (.slice Am ms.length cm) ms) ∧ Aside0 (Below W0.heap.size W0 w') ∧ Aside0 (w2.heap.size ≤ w'.heap.size))
  case atStart => exact ⟨0, [], rfl, by omega, by omega, ⟨rfl⟩, HO2, ⟨Kd.R_lower (Kd.R_mono HM2.out (fun k hk => ⟨by have := HLT2.out; omega, hk.2⟩)) (Nat.le_trans HSZ.out (Nat.le_trans (below_size HA1.out) (by have := HLT2.out; omega)))⟩, HA2, ⟨Nat.le_refl _⟩⟩
  case round =>
   obtain ⟨i, o, rfl, hi, hk, HE, HO, HM, HA, HZ⟩ := hrel
   by_cases hlt : i < ms.length
   ·have HI := aM hlt
    have p1 : (0 : Int) ≤ (i : Int) := by omega
    have q1 : (i : Int) < (ms.length : Int) := by omega
    obtain ⟨g, cg, eg, gb, gl, cells, HG⟩ := Kd.R_form HM.out (by omega)
    injection eg with e1 e2 e3
    subst e1 e3
    obtain ⟨hx0, hf0⟩ := Kd.R_celln 0 HM.out (i : Int) p1 (by omega)
    have hrd : rdOf (0 : Int) ms (i : Int) = ms.getD i 0 := by show ms.getD (i : Int).toNat 0 = _; rw [Int.toNat_natCast]
    rw [Int.toNat_natCast, hrd] at hx0
    rw [Int.toNat_natCast] at hf0
    clear hrd
    obtain ⟨y, hy⟩ : ∃ y, y = ms.getD i 0 := ⟨_, rfl⟩
    rw [← hy] at hx0
    have HT := aM (keepTo_succ (pred ws) ms i)
    rw [← hy] at HT
    clear HG gl gb hy
    obtain ⟨A8, c8, e8⟩ := Kd.R_slice HO.out
    subst e8
    obtain ⟨b, hb⟩ : ∃ b, b = pred ws y := ⟨_, rfl⟩
    have HBB := aM hb
    clear hb
    cases b with
    | false =>
     go_wp2_with (first | (go_at_call 73; go_loud ((with_reducible refine (lit_calls ws B d bq y _ (HCL.out _ (below_then HB0.out HSZ.out HA.out))).mono ?_); rintro e w3 ⟨rfl, hb⟩; rw [← HBB.out]; have HA3 := aM (below_step HA.out hb); have HO3 := aM (Kd.R_below HO.out hb); have HM3 := aM (Kd.R_below HM.out hb); have HZ3 := aM (Nat.le_trans HZ.out hb.size); clear hb)))
     go_roundg (ms.length - (i + 1))
     case measure => have := HI.out; omega
     case rel => exact ⟨i + 1, o, by have := HML.out; have := HI.out; first | go_num | (rw [w64 (by omega) (by omega)]; go_num), by have := HI.out; omega, by omega, ⟨by rw [HT.out, ← HBB.out, HE.out]; simp⟩, HO3, HM3, HA3, HZ3⟩
    | true =>
     have HOL : Aside0 (o.length ≤ 40) := ⟨by rw [HE.out]; have := keepTo_len (pred ws) ms i; have := HML.out; have := HI.out; omega⟩
     go_wp2_with (first | (go_at_call 73; go_loud ((with_reducible refine (lit_calls ws B d bq y _ (HCL.out _ (below_then HB0.out HSZ.out HA.out))).mono ?_); rintro e w3 ⟨rfl, hb⟩; rw [← HBB.out]; have HA3 := aM (below_step HA.out hb); have HO3 := aM (Kd.R_below HO.out hb); have HM3 := aM (Kd.R_below HM.out hb); have HZ3 := aM (Nat.le_trans HZ.out hb.size); clear hb)) | ((with_reducible refine gate_builtin (b := .append) (xs := #[.tmp 27, .tmp 29]) rfl ?_); at_builtin; go_loud (refine Kd.R_append (Kd.int .i64) (w0 := W0) w.heap.size rfl (.tmp 27) (.tmp 29) 28 3 (.int .i64 0) 8 rfl Try.underlying28 info3 rfl (by decide) (by omega) _ o (i : Int) [.int .i64 (i : Int)] (fun k => k = w1.heap.size ∨ w2.heap.size ≤ k) (fun _ => False) rfl rfl ?aP (fun _ hk => hk.elim) ?aF ?aO ?aB ?aS ?aL ?_; (case aP => exact rfl); (case aB => exact HA3.out.mono HSZ.out); (case aF => exact (fun k hk => .inr (Nat.le_trans HZ3.out hk))); (case aO => exact HO3.out); (case aS => exact Nat.le_trans HSZ.out (below_size HA3.out)); (case aL => have := HOL.out; omega); intro v4 w4 ho4 hb4 hg4 hat4; have HO4 := aM ho4; have HM4 := aM (R_beside HM3.out hg4 (fun k hk => (HO3.out.1 k hk))); have HA4 := aM (W0_beside HA3.out hg4 (fun k hk => (Kd.R_base HO3.out k hk)) (HO3.out.1) (below_size HA1.out) (Nat.le_trans (below_size HA1.out) (Nat.le_trans (Nat.le_of_lt HLT2.out) HLE2.out))); have HZ4 := aM (Nat.le_trans HZ3.out hg4.size); clear ho4 hb4 hg4 hat4)))
     go_roundg (ms.length - (i + 1))
     case measure => have := HI.out; omega
     case rel => exact ⟨i + 1, o ++ [(i : Int)], by have := HML.out; have := HI.out; first | go_num | (rw [w64 (by omega) (by omega)]; go_num), by have := HI.out; omega, by omega, ⟨by rw [HT.out, ← HBB.out, HE.out]; simp⟩, HO4, HM4, HA4, HZ4⟩
   ·obtain rfl : i = ms.length := by omega
    go_wp2
    go_ret2
    refine ⟨_, rfl, ?_, below_then HB0.out HSZ.out HA.out⟩
    rw [← keepTo_all, ← HE.out]
    exact Kd.R_mono HO.out (fun _ _ => trivial)
end Go.Proofs.Ytaomjndfjmfelaa.ByAll
end

section
namespace Go.Proofs.Ytaomjndfjmfelaa.ByAll
set_option linter.unusedVariables false
open Go.RowKit Go.Proofs.Ytaomjndfjmfelaa.PQ Go.Proofs.YtaomjndfjmfelaaW.PrintWords Go.Proofs.YtaomjndfjmfelaaW.PrintLast Go.Proofs.Ytaomjndfjmfelaa.Pre Go.Proofs.Ytaomjndfjmfelaa.Posts Go.Proofs.Ytaomjndfjmfelaa.GoodW Go.Proofs.Ytaomjndfjmfelaa.PostW Go.Proofs.Ytaomjndfjmfelaa.Ask Go.Proofs.Ytaomjndfjmfelaa.Cnt Go.Proofs.Ytaomjndfjmfelaa.ByD Go.Proofs.Ytaomjndfjmfelaa.ByP
theorem loop_ev (ws : List ByteArray) (b : Bool) (ms : List Int) (hm : ms.length ≤ 1048576) : Evt (fun k => spec_WithAll.l0 k ws b [] ms (ms.length : Int) 0) (keep (pred ws) ms, b) := by
 have key : ∀ (n i : Nat), i + n = ms.length → Evt (fun k => spec_WithAll.l0 k ws b (keepTo (pred ws) ms i) ms (ms.length : Int) (i : Int)) (keep (pred ws) ms, b) := by
  intro n
  induction n with
  | zero =>
   intro i hi
   refine Evt.step (fun k => spec_WithAll.l0.eq_2 _ _ _ _ _ _ k) (Evt.neg (by omega) ((Evt.const _).eq ?_))
   rw [show i = ms.length by omega, keepTo_all]
  | succ n ih =>
   intro i hi
   have hlt : i < ms.length := by omega
   have hrd : rd ms (i : Int) = ms[i] := by
    show ms.getD (i : Int).toNat 0 = _
    rw [Int.toNat_natCast, List.getD_eq_getElem?_getD, List.getElem?_eq_getElem hlt]
    rfl
   have hgd : ms.getD i 0 = ms[i] := by
    rw [List.getD_eq_getElem?_getD, List.getElem?_eq_getElem hlt]
    rfl
   have ih := ih (i + 1) (by omega)
   rw [keepTo_succ, hgd] at ih
   have hlen := keepTo_len (pred ws) ms i
   refine Evt.step (fun k => spec_WithAll.l0.eq_2 _ _ _ _ _ _ k) (Evt.pos (by omega) (Evt.pos (by omega) (Evt.pos (by omega) ?_)))
   rw [hrd, w64 (n := (i : Int) + 1) (by omega) (by omega)]
   by_cases hc : ms[i] = (ws.length : Int)
   ·have hp : pred ws ms[i] = true := beq_iff_eq.2 hc
    rw [if_pos hp] at ih
    exact Evt.pos hc (Evt.pos (by omega) ih)
   ·have hp : pred ws ms[i] = false := beq_eq_false_iff_ne.2 hc
    rw [if_neg (by rw [hp]; simp), List.append_nil] at ih
    exact Evt.neg hc ih
 exact key ms.length 0 (by omega)
/-- What WithAll answers. -/
def ans (x : Int) (l : List En) (ws : List ByteArray) : List Int × Bool := (if asked x l ws 20 = true then keep (pred ws) (marks x l ws) else [], asked x l ws 20)
theorem spec_of (x : Int) (l : List En) (hl : Small l) (ws : List ByteArray) (hs : SmallS ws) : Evt (fun k => spec_WithAll.f k x l ws) (ans x l ws) := by
 unfold spec_WithAll.f ans
 refine Evt.bind (marks_ev x l hl ws hs) ?_
 by_cases ha : asked x l ws 20 = true
 ·have hx := good_range (asked_good ha)
  rw [ha, if_pos rfl, if_pos rfl]
  exact loop_ev ws true (marks x l ws) (by rw [marks_len]; omega)
 ·rw [if_neg ha, if_neg ha, Bool.eq_false_iff.2 ha]
  refine (loop_ev ws false [] (by simp)).eq ?_
  rfl
theorem ans_len (x : Int) (l : List En) (ws : List ByteArray) : (ans x l ws).1.length ≤ 1048576 := by
 unfold ans
 by_cases ha : asked x l ws 20 = true
 ·have hx := good_range (asked_good ha)
  show (if asked x l ws 20 = true then keep (pred ws) (marks x l ws) else []).length ≤ _
  rw [if_pos ha]
  have h := keepTo_len (pred ws) (marks x l ws) (marks x l ws).length
  rw [marks_len] at h
  show (keepTo (pred ws) (marks x l ws) (marks x l ws).length).length ≤ _
  rw [marks_len]
  omega
 ·show (if asked x l ws 20 = true then keep (pred ws) (marks x l ws) else []).length ≤ _
  rw [if_neg ha]
  simp
end Go.Proofs.Ytaomjndfjmfelaa.ByAll
end

section
namespace Go.Proofs.Ytaomjndfjmfelaa.PostW
set_option linter.unusedVariables false
set_option linter.unusedSimpArgs false
open Go.RowKit Go.Proofs.Ytaomjndfjmfelaa.PQ Go.Proofs.YtaomjndfjmfelaaW.PrintWords Go.Proofs.YtaomjndfjmfelaaW.PrintLast Go.Proofs.YtaomjndfjmfelaaW.PrintMore Go.Proofs.Ytaomjndfjmfelaa.Pre Go.Proofs.Ytaomjndfjmfelaa.Posts Go.Proofs.Ytaomjndfjmfelaa.GoodW Go.Proofs.Ytaomjndfjmfelaa.CmpL Go.Proofs.Ytaomjndfjmfelaa.EntW
/-- What PostingsOf answers. -/
def postsOf (x : Int) (l : List En) (t : ByteArray) : List Po × Bool := if goodW x l = true ∧ isW t = true then (posts l t, true) else ([], false)
set_option maxRecDepth 100000 in
set_option maxHeartbeats 1000000 in
theorem calls (x : Int) (A : Option Addr) (c : Nat) (l : List En) (t : ByteArray) (w : World) (hr : Kd.C k102 w A l.length l) (hc : l.length ≤ c) (hl : Small l) (ht : t.size ≤ 1048576) :
  Calls Try.prog 40 #[.agg #[.int .i64 x, .slice A l.length c], .string t] w fun e w' => ∃ v0_ : Value, e = .returned (.tuple #[v0_, .bool (postsOf x l t).2]) ∧ Kd.R k56 56 w' w.heap.size (fun _ => True) v0_ (postsOf x l t).1 ∧ Below w.heap.size w w' := by
 have HR := aM hr
 have HC := aM hc
 have HL := aM hl
 have HL1 := aM hl.1
 obtain ⟨kg, hg⟩ := (impl_ev x l hl).ex
 obtain ⟨kw, hw⟩ := (isWord_ev t ht).ex
 have HG := aM hg
 have HW := aM hw
 have hx0 : ∀ w', Below (w.alloc (.cells #[.int .i64 x, .slice A l.length c] 33)).heap.size (w.alloc (.cells #[.int .i64 x, .slice A l.length c] 33)) w' → w'.cell? ⟨w.heap.size, 0, none⟩ = some (.int .i64 x) ∧ w'.cell? ⟨w.heap.size, 1, none⟩ = some (.slice A l.length c) := fun w' hb => ⟨(hb.cell (by simp)).trans (by simp), (hb.cell (by simp)).trans (by simp)⟩
 have HX := aM hx0
 have HB0 := aM (below_alloc (Below.refl w.heap.size w) (.cells #[.int .i64 x, .slice A l.length c] 33))
 have HSZ : Aside0 (w.heap.size ≤ (w.alloc (.cells #[.int .i64 x, .slice A l.length c] 33)).heap.size) := ⟨by simp⟩
 clear hg hw hx0 hr hc hl ht
 obtain ⟨bg, hbg⟩ : ∃ b, b = goodW x l := ⟨_, rfl⟩
 obtain ⟨bw, hbw⟩ : ∃ b, b = isW t := ⟨_, rfl⟩
 rw [← hbg] at HG
 rw [← hbw] at HW
 unfold postsOf
 rw [← hbg, ← hbw]
 cases bg with
 | false =>
  clear hbg hbw
  rw [if_neg (by simp)]
  go_enter Try.func40, Try.ntmps40
  go_wp2_with (first | (go_at_call 38; go_loud ((with_reducible refine (impl_GoodWords.calls kg x A c l _ _ (Kd.C_alloc HR.out _) HC.out HG.out).mono ?_); rintro e w2 ⟨rfl, hb⟩; have HB2 := aM (below_then HB0.out HSZ.out hb); clear hb)))
  go_ret2
  exact ⟨_, rfl, Kd.R_nil _ _ _ _ _, HB2.out⟩
 | true =>
  cases bw with
  | false =>
   clear hbg hbw
   rw [if_neg (by simp)]
   go_enter Try.func40, Try.ntmps40
   go_wp2_with (first | (go_at_call 38; go_loud ((with_reducible refine (impl_GoodWords.calls kg x A c l _ _ (Kd.C_alloc HR.out _) HC.out HG.out).mono ?_); rintro e w2 ⟨rfl, hb⟩; have HB2 := aM (below_then HB0.out HSZ.out hb); clear hb)) | (go_at_call 89; go_loud ((with_reducible refine (impl_isWord.calls kw t _ _ HW.out).mono ?_); rintro e w3 ⟨rfl, hd⟩; have HB3 := aM (below_step HB2.out hd.below); clear hd)))
   go_ret2
   exact ⟨_, rfl, Kd.R_nil _ _ _ _ _, HB3.out⟩
  | true =>
   have HRI := aM (rise_of_good hbg.symm)
   have HNE := aM (ne_of_good hbg.symm)
   rw [if_pos ⟨rfl, rfl⟩]
   clear hbg hbw
   go_enter Try.func40, Try.ntmps40
   go_wp2_with (first | (go_at_call 38; go_loud ((with_reducible refine (impl_GoodWords.calls kg x A c l _ _ (Kd.C_alloc HR.out _) HC.out HG.out).mono ?_); rintro e w2 ⟨rfl, hb⟩; have HA2 := aM hb; have HB2 := aM (below_then HB0.out HSZ.out hb); clear hb)) | (go_at_call 89; go_loud ((with_reducible refine (impl_isWord.calls kw t _ _ HW.out).mono ?_); rintro e w3 ⟨rfl, hd⟩; have HA3 := aM (below_step HA2.out hd.below); have HB3 := aM (below_step HB2.out hd.below); clear hd)) | (go_at_call 93; go_loud ((with_reducible refine (postings_calls A c l t _ w.heap.size (fun w' hb => (HX.out w' (below_step HA3.out hb)).2) (Kd.C_below HR.out HB3.out) HC.out HL1.out HRI.out HNE.out).mono ?_); rintro e w4 ⟨Ap, cp, rfl, hcp, hC4, hnil, hb⟩; have HB4 := aM (below_step HB3.out hb); have HC4 := aM (Kd.C_below hC4 hb); have HP4 := aM hcp; have HN4 := aM hnil; clear hb hC4 hcp hnil)) | (go_at_call 92; go_loud ((with_reducible refine (clone_calls Ap cp (posts l t) _ HC4.out HP4.out (small_posts HL.out t) HN4.out).mono ?_); rintro e w5 ⟨v0, rfl, ho, hb⟩; have HO5 := aM (Kd.R_lower ho (below_size HB4.out)); have HB5 := aM (below_step HB4.out hb); clear ho hb)))
   go_ret2
   exact ⟨v0, rfl, HO5.out, HB5.out⟩
end Go.Proofs.Ytaomjndfjmfelaa.PostW
end

section
namespace Go.Proofs.Ytaomjndfjmfelaa.PQ
open Go.RowKit Go.Proofs.YtaomjndfjmfelaaW.PrintWords Go.Proofs.YtaomjndfjmfelaaW.PrintLast Go.Proofs.YtaomjndfjmfelaaW.PrintMore
attribute [local go_sem] max2_int min2_int max_two min_two max_three min_three max_four min_four
set_option linter.unusedVariables false
set_option linter.unusedSimpArgs false
def spec_l1Cur_words.j0 : Nat → Bool → List Int → Int → Int → Int → List (S102) → Option (Int × (List (S102)) × Int × Int)
 | 0, _, _, _, _, _, _ => none
 | k + 1, x19, x1000, x1001, x1002, x349000, x349001 => if x19 = true then ((spec_l1Cur_pick.f x1000 x1001 x1002 (x349001.length : Int)).bind fun bt352 => ((spec_l1Cur_pick.f x1000 bt352.2.1 bt352.2.2 3).bind fun bt355 => (if bt355.1 = 0 then (if 0 ≤ bt352.1 then (if bt352.1 < (x349001.length : Int) then (if ((rd_T102 x349001 bt352.1).f0).size + 1 ≤ 9223372036854775807 then (some (x349000, (x349001.set (bt352.1 : Int).toNat (⟨((rd_T102 x349001 bt352.1).f0) ++ (⟨#[90]⟩ : ByteArray), (rd_T102 x349001 bt352.1).f1⟩ : S102)), bt355.2.1, bt355.2.2)) else (none)) else (none)) else (none)) else (if bt355.1 = 1 then (if 0 ≤ bt352.1 then (if bt352.1 < (x349001.length : Int) then ((spec_l1Cur_pick.f x1000 bt355.2.1 bt355.2.2 9).bind fun bt361 => (if 0 < (((rd_T102 x349001 bt352.1).f1).length : Int) then (some (x349000, (x349001.set (bt352.1 : Int).toNat (⟨(rd_T102 x349001 bt352.1).f0, (((rd_T102 x349001 bt352.1).f1).set (0 : Int).toNat (⟨bt361.1, (rd_T56 ((rd_T102 x349001 bt352.1).f1) 0).f1⟩ : S56))⟩ : S102)), bt361.2.1, bt361.2.2)) else (none))) else (none)) else (none)) else (if 0 ≤ bt352.1 then (if bt352.1 < (x349001.length : Int) then (some (x349000, (x349001.set (bt352.1 : Int).toNat (⟨(rd_T102 x349001 bt352.1).f0, ([] : List (S56))⟩ : S102)), bt355.2.1, bt355.2.2)) else (none)) else (none)))))) else (some (x349000, x349001, x1001, x1002))
def spec_l1Cur_words.f (k : Nat) (s0_0 : List Int) (s0_1 : Int) (s0_2 : Int) : Option (Int × (List (S102)) × Int × Int) := (spec_l1Cur_texts.f k s0_0 s0_1 s0_2).bind fun bt338 => ((spec_IndexOf.f k bt338.1).bind fun bt343 => (if (bt343.2.1.length : Int) > 0 then ((spec_l1Cur_one.f s0_0 bt338.2.1 bt338.2.2 20).bind fun bt349 => (spec_l1Cur_words.j0 k bt349.1 s0_0 bt349.2.1 bt349.2.2 bt343.1 bt343.2.1)) else (spec_l1Cur_words.j0 k false s0_0 bt338.2.1 bt338.2.2 bt343.1 bt343.2.1)))
def spec_l1Cur_words.T9 : Bool × List (List Nat × List Nat) := (true, [([], []), ([0], [0]), ([], []), ([1, 2], [1, 2]), ([3], [3]), ([4], [4]), ([], []), ([6], [6]), ([5, 0, 1, 2, 3, 4, 5, 6, 7], [5]), ([8, 0, 1, 2, 3, 4, 5, 6, 7], [8]), ([9, 7, 7, 0, 1, 2, 3, 4, 5, 6, 7], [7, 9])])
def spec_l1Cur_words.B9 : List Nat := [0, 1, 0, 7, 15, 31, 0, 64, 255, 511, 1023]
theorem spec_l1Cur_words.tab9 : rtab .any (opsOf Try.f86 9) = spec_l1Cur_words.T9 := by kernel_rfl
theorem spec_l1Cur_words.bits9 : waitsOk spec_l1Cur_words.T9.2 spec_l1Cur_words.B9 = true := by kernel_rfl
set_option maxHeartbeats 8000000 in
set_option maxRecDepth 100000 in
theorem spec_l1Cur_words.calls (k : Nat) (g : Nat) (s0_0 : List Int) (s0_1 : Int) (s0_2 : Int) (r1 : Int) (r2 : List (S102)) (r3 : Int) (r4 : Int) (w0 w : World) (hI : IsS107 w0 w g s0_0 s0_1 s0_2) (hB : Below w0.heap.size w0 w) (h : spec_l1Cur_words.f k s0_0 s0_1 s0_2 = some (r1, r2, r3, r4)) :
  Calls Try.prog 86 #[.pointer (some ⟨g, 0, none⟩)] w fun e w' => ∃ v1_ : Value, e = .returned (.agg #[.int .i64 r1, v1_]) ∧ Kd.S k102 102 w' w.heap.size (fun _ => True) v1_ r2 ∧ IsS107 w0 w' g s0_0 r3 r4 ∧ Below w0.heap.size w0 w' ∧ KeepBut w w' g none := by
 have hu33 := Try.underlying33
 have HI0 := aM hI
 have HK := aM (KeepBut.refl w g none)
 have HL := aM hB.size
 clear hI
 have HW0 := aM hB.size
 have HB := aM hB
 clear hB
 have H : ((spec_l1Cur_texts.f k s0_0 s0_1 s0_2).bind fun bt338 => ((spec_IndexOf.f k bt338.1).bind fun bt343 => (if (bt343.2.1.length : Int) > 0 then ((spec_l1Cur_one.f s0_0 bt338.2.1 bt338.2.2 20).bind fun bt349 => (spec_l1Cur_words.j0 k bt349.1 s0_0 bt349.2.1 bt349.2.2 bt343.1 bt343.2.1)) else (spec_l1Cur_words.j0 k false s0_0 bt338.2.1 bt338.2.2 bt343.1 bt343.2.1)))) = some (r1, r2, r3, r4) := h
 clear h
 replace H := Option.bind_eq_some_iff.mp H
 obtain ⟨⟨t338, t341, t342⟩, A20, H⟩ := H
 replace H : ((spec_IndexOf.f k t338).bind fun bt343 => (if (bt343.2.1.length : Int) > 0 then ((spec_l1Cur_one.f s0_0 t341 t342 20).bind fun bt349 => (spec_l1Cur_words.j0 k bt349.1 s0_0 bt349.2.1 bt349.2.2 bt343.1 bt343.2.1)) else (spec_l1Cur_words.j0 k false s0_0 t341 t342 bt343.1 bt343.2.1))) = some (r1, r2, r3, r4) := H
 have A2 := aM A20
 clear A20
 replace H := Option.bind_eq_some_iff.mp H
 obtain ⟨⟨t343, t344, t347⟩, A30, H⟩ := H
 replace H : (if (t344.length : Int) > 0 then ((spec_l1Cur_one.f s0_0 t341 t342 20).bind fun bt349 => (spec_l1Cur_words.j0 k bt349.1 s0_0 bt349.2.1 bt349.2.2 t343 t344)) else (spec_l1Cur_words.j0 k false s0_0 t341 t342 t343 t344)) = some (r1, r2, r3, r4) := H
 have A3 := aM A30
 clear A30
 have HC4 := aM H
 clear H
 go_enter Try.func86, Try.ntmps86
 go_upto_region 2 with (first | ((with_reducible refine gate_dst (N := 2) rfl ?_); refine box_event ?hg (N := 2) ?hd (cs := #[.int .i64 0, .slice none 0 0]) (t := 33) ?hr ?_; (case hd => rfl); (case hg => rfl); (case hr => first | (go_simp; done) | (go_simp; rfl)); intro gb337 hg w5 hbox hb; have n0_ := aM (IsS107.below (by repeat (first | (with_reducible first | exact HI0.out | apply IsS107.alloc | apply IsS107.drewN | apply IsS107.drew | apply IsS107.set_1 | apply IsS107.set_2) | exact HI0.out)) hb); have n1_ := aM (KeepBut.trans (by repeat (first | (with_reducible first | exact HK.out | apply KeepBut.set_ | apply keep_drewN | apply keep_drew | apply keep_alloc) | exact HK.out)) (KeepBut.of_below hb g none) (.inl rfl)); have n2_ := aM (below_step (by repeat (first | (with_reducible first | exact HB.out | apply below_alloc | apply pw_below_drewN | apply below_drew1 | refine below_set ?_ (IsS107.ge HI0.out)) | exact HB.out)) hb); have n3_ := aM (hbox); have n4_ := aM ((by rw [hg]; exact (keep_size (w := w) (g := g) (row := none) (by repeat (first | (with_reducible first | exact HK.out | apply KeepBut.set_ | apply keep_drewN | apply keep_drew | apply keep_alloc) | exact HK.out))) : w.heap.size ≤ gb337)); have n5_ := aM ((Nat.le_trans HW0.out (by rw [hg]; exact (keep_size (w := w) (g := g) (row := none) (by repeat (first | (with_reducible first | exact HK.out | apply KeepBut.set_ | apply keep_drewN | apply keep_drew | apply keep_alloc) | exact HK.out))) : w.heap.size ≤ gb337) : w0.heap.size ≤ gb337)); have n6_ := aM ((by rw [hg]; exact Nat.ne_of_lt (IsS107.lt (show IsS107 w0 _ g s0_0 s0_1 s0_2 from by repeat (first | (with_reducible first | exact HI0.out | apply IsS107.alloc | apply IsS107.drewN | apply IsS107.drew | apply IsS107.set_1 | apply IsS107.set_2) | exact HI0.out))) : g ≠ gb337)); have n7_ := aM ((by rw [hg]; exact Nat.ne_of_gt (IsS107.lt (show IsS107 w0 _ g s0_0 s0_1 s0_2 from by repeat (first | (with_reducible first | exact HI0.out | apply IsS107.alloc | apply IsS107.drewN | apply IsS107.drew | apply IsS107.set_1 | apply IsS107.set_2) | exact HI0.out))) : gb337 ≠ g)); clear HI0; clear HK; clear HB; have HI0 := n0_; have HK := n1_; have HB := n2_; have BK337 := n3_; have GW337 := n4_; have GE337 := n5_; have NB0_337 := n6_; have NB337_0 := n7_; clear n0_ n1_ n2_ n3_ n4_ n5_ n6_ n7_; clear hb hbox hg) | ((with_reducible refine gate_callee (f := 84) rfl ?_); refine gL 8 Try.func84 #[.pointer (some ⟨g, 0, none⟩)] ?_; (with_reducible refine (spec_l1Cur_texts.calls k g s0_0 s0_1 s0_2 t338 t341 t342 w0 _ ?side1 ?side2 A2.out).mono ?_); (case side1 => repeat (first | (with_reducible first | exact HI0.out | apply IsS107.alloc | apply IsS107.drewN | apply IsS107.drew | apply IsS107.set_1 | apply IsS107.set_2 | refine IsS107.far ?_ NB0_337.out _) | exact HI0.out)); (case side2 => repeat (first | (with_reducible first | exact HB.out | apply below_alloc | apply pw_below_drewN | apply below_drew1 | refine below_set ?_ (IsS107.ge HI0.out) | refine below_set ?_ GE337.out) | exact HB.out)); rintro e w6 ⟨v339, rfl, ho0, hi, hb, hk⟩; refine ⟨_, rfl, ?_⟩; have n0_ := aM (KeepBut.blk hk (g' := gb337) (o := .cells #[.int .i64 0, .slice none 0 0] 33 (0, 0)) (by (with_reducible repeat (first | refine blk_drewN ?_ _ | refine blk_drew ?_ | refine blk_alloc ?_ _)); exact BK337.out) NB337_0.out (by simp)); have n1_ := aM (Kd.R_lower ho0 (keep_size (w := w) (g := g) (row := none) (by repeat (first | (with_reducible first | exact HK.out | apply KeepBut.set_ | apply keep_drewN | apply keep_drew | apply keep_alloc | refine keep_far ?_ GW337.out _) | exact HK.out)))); have n2_ := aM (KeepBut.trans (by repeat (first | (with_reducible first | exact HK.out | apply KeepBut.set_ | apply keep_drewN | apply keep_drew | apply keep_alloc | refine keep_far ?_ GW337.out _) | exact HK.out)) hk (.inl rfl)); have n3_ := aM (hb); have n4_ := aM (hi); clear BK337; clear HK; clear HB; clear HI0; have BK337 := n0_; have HO340 := n1_; have HK := n2_; have HB := n3_; have HI0 := n4_; clear n0_ n1_ n2_ n3_ n4_; (try clear hb); (try clear hb2); (try clear hk); (try clear hi); (try clear ho0); obtain ⟨Ao7, co7, eo7⟩ := Kd.R_slice HO340.out; subst eo7) | ((with_reducible refine gate_callee (f := 32) rfl ?_); refine gL 9 Try.func32 #[.slice Ao7 t338.length co7] ?_; (with_reducible refine (spec_IndexOf.calls k _ _ t338 t343 t344 t347 _ ?side1 ?side2 A3.out).mono ?_); (case side1 => repeat (first | exact (Kd.R_reads' HO340.out).2.2 | (with_reducible refine Kd.C_alloc ?_ _) | (with_reducible refine Kd.C_drewN ?_ _) | (with_reducible refine Kd.C_drew ?_))); (case side2 => exact (Kd.R_reads' HO340.out).2.1); rintro e w8 ⟨v345, rfl, ho0, hb⟩; refine ⟨_, rfl, ?_⟩; have n0_ := aM (Kd.R_below (by (with_reducible repeat (first | apply Kd.R_alloc | apply Kd.R_drewN | apply Kd.R_drew)); exact HO340.out) hb); have n1_ := aM (Kd.S_lower ho0 (keep_size (w := w) (g := g) (row := none) (by repeat (first | (with_reducible first | exact HK.out | apply KeepBut.set_ | apply keep_drewN | apply keep_drew | apply keep_alloc | refine keep_far ?_ GW337.out _) | exact HK.out)))); have n2_ := aM (IsS107.below (by repeat (first | (with_reducible first | exact HI0.out | apply IsS107.alloc | apply IsS107.drewN | apply IsS107.drew | apply IsS107.set_1 | apply IsS107.set_2 | refine IsS107.far ?_ NB0_337.out _) | exact HI0.out)) hb); have n3_ := aM (blk_below (g := gb337) (o := .cells #[.int .i64 0, .slice none 0 0] 33 (0, 0)) (by (with_reducible repeat (first | refine blk_drewN ?_ _ | refine blk_drew ?_ | refine blk_alloc ?_ _)); exact BK337.out) hb); have n4_ := aM (KeepBut.trans (by repeat (first | (with_reducible first | exact HK.out | apply KeepBut.set_ | apply keep_drewN | apply keep_drew | apply keep_alloc | refine keep_far ?_ GW337.out _) | exact HK.out)) (KeepBut.of_below hb g none) (.inl rfl)); have n5_ := aM (below_step (by repeat (first | (with_reducible first | exact HB.out | apply below_alloc | apply pw_below_drewN | apply below_drew1 | refine below_set ?_ (IsS107.ge HI0.out) | refine below_set ?_ GE337.out) | exact HB.out)) hb); clear HO340; clear HI0; clear BK337; clear HK; clear HB; have HO340 := n0_; have HO346 := n1_; have HI0 := n2_; have BK337 := n3_; have HK := n4_; have HB := n5_; clear n0_ n1_ n2_ n3_ n4_ n5_; (try clear hb); (try clear hb2); (try clear hk); (try clear hi); (try clear ho0)) | ((with_reducible refine gate_dst (N := 3) rfl ?_); refine box_event ?hg (N := 3) ?hd (cs := #[.int .i64 0, .slice none 0 0]) (t := 33) ?hr ?_; (case hd => rfl); (case hg => rfl); (case hr => first | (go_simp; done) | (go_simp; rfl)); intro gb348 hg w9 hbox hb; have n0_ := aM (Kd.R_below (by (with_reducible repeat (first | apply Kd.R_alloc | apply Kd.R_drewN | apply Kd.R_drew)); exact HO340.out) hb); have n1_ := aM (Kd.S_below (by (with_reducible repeat (first | apply Kd.S_alloc | apply Kd.S_drewN | apply Kd.S_drew)); exact HO346.out) hb); have n2_ := aM (IsS107.below (by repeat (first | (with_reducible first | exact HI0.out | apply IsS107.alloc | apply IsS107.drewN | apply IsS107.drew | apply IsS107.set_1 | apply IsS107.set_2 | refine IsS107.far ?_ NB0_337.out _) | exact HI0.out)) hb); have n3_ := aM (blk_below (g := gb337) (o := .cells #[.int .i64 0, .slice none 0 0] 33 (0, 0)) (by (with_reducible repeat (first | refine blk_drewN ?_ _ | refine blk_drew ?_ | refine blk_alloc ?_ _)); exact BK337.out) hb); have n4_ := aM (KeepBut.trans (by repeat (first | (with_reducible first | exact HK.out | apply KeepBut.set_ | apply keep_drewN | apply keep_drew | apply keep_alloc | refine keep_far ?_ GW337.out _) | exact HK.out)) (KeepBut.of_below hb g none) (.inl rfl)); have n5_ := aM (below_step (by repeat (first | (with_reducible first | exact HB.out | apply below_alloc | apply pw_below_drewN | apply below_drew1 | refine below_set ?_ (IsS107.ge HI0.out) | refine below_set ?_ GE337.out) | exact HB.out)) hb); have n6_ := aM (hbox); have n7_ := aM ((by rw [hg]; exact (keep_size (w := w) (g := g) (row := none) (by repeat (first | (with_reducible first | exact HK.out | apply KeepBut.set_ | apply keep_drewN | apply keep_drew | apply keep_alloc | refine keep_far ?_ GW337.out _) | exact HK.out))) : w.heap.size ≤ gb348)); have n8_ := aM ((Nat.le_trans HW0.out (by rw [hg]; exact (keep_size (w := w) (g := g) (row := none) (by repeat (first | (with_reducible first | exact HK.out | apply KeepBut.set_ | apply keep_drewN | apply keep_drew | apply keep_alloc | refine keep_far ?_ GW337.out _) | exact HK.out))) : w.heap.size ≤ gb348) : w0.heap.size ≤ gb348)); have n9_ := aM ((by rw [hg]; exact Nat.ne_of_lt (blk_lt (g := gb337) (o := .cells #[.int .i64 0, .slice none 0 0] 33 (0, 0)) (by (with_reducible repeat (first | refine blk_drewN ?_ _ | refine blk_drew ?_ | refine blk_alloc ?_ _)); exact BK337.out)) : gb337 ≠ gb348)); have n10_ := aM ((by rw [hg]; exact Nat.ne_of_gt (blk_lt (g := gb337) (o := .cells #[.int .i64 0, .slice none 0 0] 33 (0, 0)) (by (with_reducible repeat (first | refine blk_drewN ?_ _ | refine blk_drew ?_ | refine blk_alloc ?_ _)); exact BK337.out)) : gb348 ≠ gb337)); have n11_ := aM ((by rw [hg]; exact Nat.ne_of_lt (IsS107.lt (show IsS107 w0 _ g s0_0 t341 t342 from by repeat (first | (with_reducible first | exact HI0.out | apply IsS107.alloc | apply IsS107.drewN | apply IsS107.drew | apply IsS107.set_1 | apply IsS107.set_2 | refine IsS107.far ?_ NB0_337.out _) | exact HI0.out))) : g ≠ gb348)); have n12_ := aM ((by rw [hg]; exact Nat.ne_of_gt (IsS107.lt (show IsS107 w0 _ g s0_0 t341 t342 from by repeat (first | (with_reducible first | exact HI0.out | apply IsS107.alloc | apply IsS107.drewN | apply IsS107.drew | apply IsS107.set_1 | apply IsS107.set_2 | refine IsS107.far ?_ NB0_337.out _) | exact HI0.out))) : gb348 ≠ g)); clear HO340; clear HO346; clear HI0; clear BK337; clear HK; clear HB; have HO340 := n0_; have HO346 := n1_; have HI0 := n2_; have BK337 := n3_; have HK := n4_; have HB := n5_; have BK348 := n6_; have GW348 := n7_; have GE348 := n8_; have NB337_348 := n9_; have NB348_337 := n10_; have NB0_348 := n11_; have NB348_0 := n12_; clear n0_ n1_ n2_ n3_ n4_ n5_ n6_ n7_ n8_ n9_ n10_ n11_ n12_; clear hb hbox hg; have hnb10 := NB348_337.out; have hnc10 := NB337_348.out; have hnb11 := NB348_0.out; have hnc11 := NB0_348.out; have hcz12_0 : w9.cell? ⟨gb348, 0, none⟩ = some (.int .i64 0) := (blk_cell BK348.out 0).trans rfl; have hcz12_1 : w9.cell? ⟨gb348, 1, none⟩ = some (.slice none 0 0) := (blk_cell BK348.out 1).trans rfl; have hfz12_0 := blk_frozen BK348.out 0; have hfz12_1 := blk_frozen BK348.out 1; obtain ⟨Ao13, co13, eo13⟩ := Kd.S_slice HO346.out; subst eo13))
 (try simp only [Act.put, zSA, zSB, zSC])
 go_cut [19] (fun v19 wc => ∃ (kq : Nat) (x19_3 : Bool) (x1001_3 : Int) (x1002_3 : Int), v19 = .bool x19_3 ∧ Aside0 (spec_l1Cur_words.j0 kq x19_3 s0_0 x1001_3 x1002_3 t343 t344 = some (r1, r2, r3, r4)) ∧ Aside0 (kq ≤ k) ∧ Aside0 (Kd.S k102 102 wc w.heap.size (fun _ => True) (.slice Ao13 t344.length co13) t344) ∧ Aside0 (wc.heap[gb337]? = some (.cells #[.int .i64 0, (.slice none 0 0)] 33 (0, 0))) ∧ Aside0 (wc.heap[gb348]? = some (.cells #[.int .i64 t343, (.slice Ao13 t344.length co13)] 33 (0, 0))) ∧ Aside0 (IsS107 w0 wc g s0_0 x1001_3 x1002_3) ∧ Aside0 (KeepBut w wc g none) ∧ Aside0 (Below w0.heap.size w0 wc))
 case first =>
  have H := HC4.out
  clear HC4
  by_cases c14 : (t344.length : Int) > 0
  ·rw [if_pos c14] at H
   have c14b0 : decide (0 < (t344.length : Int)) = true := decide_eq_true c14
   have c14b1 : decide (0 < t344.length) = true := decide_eq_true (by omega)
   clear c14
   (first | rw [c14b0] | (simp only [i64_w, i32_w]; rw [c14b0]) | skip)
   replace H := Option.bind_eq_some_iff.mp H
   obtain ⟨⟨t349, t350, t351⟩, A150, H⟩ := H
   replace H : (spec_l1Cur_words.j0 k t349 s0_0 t350 t351 t343 t344) = some (r1, r2, r3, r4) := H
   have A15 := aM A150
   clear A150
   have H' := aM H
   clear H
   have hnb16 := NB348_337.out
   have hnc16 := NB337_348.out
   have hnb17 := NB348_0.out
   have hnc17 := NB0_348.out
   have hcz18_0 : w9.cell? ⟨gb348, 0, none⟩ = some (.int .i64 0) := (blk_cell BK348.out 0).trans rfl
   have hcz18_1 : w9.cell? ⟨gb348, 1, none⟩ = some (.slice none 0 0) := (blk_cell BK348.out 1).trans rfl
   have hfz18_0 := blk_frozen BK348.out 0
   have hfz18_1 := blk_frozen BK348.out 1
   go_wp2_with (first | (go_at_call 134; (try simp only [i64_w]); (with_reducible refine (spec_l1Cur_one.calls g s0_0 t341 t342 20 t349 t350 t351 w0 _ ?side1 ?side2 A15.out).mono ?_); (case side1 => repeat (first | (with_reducible first | exact HI0.out | apply IsS107.alloc | apply IsS107.drewN | apply IsS107.drew | apply IsS107.set_1 | apply IsS107.set_2 | refine IsS107.far ?_ NB0_337.out _ | refine IsS107.far ?_ NB0_348.out _) | exact HI0.out)); (case side2 => repeat (first | (with_reducible first | exact HB.out | apply below_alloc | apply pw_below_drewN | apply below_drew1 | refine below_set ?_ (IsS107.ge HI0.out) | refine below_set ?_ GE337.out | refine below_set ?_ GE348.out) | exact HB.out)); rintro e w19 ⟨rfl, hi, hb, hk⟩; have n0_ := aM (KeepBut.blk hk (g' := gb337) (o := .cells #[.int .i64 0, .slice none 0 0] 33 (0, 0)) (by (with_reducible repeat (first | refine blk_drewN ?_ _ | refine blk_drew ?_ | refine blk_alloc ?_ _)); refine blk_far ?_ NB337_348.out _; (with_reducible repeat (first | refine blk_drewN ?_ _ | refine blk_drew ?_ | refine blk_alloc ?_ _)); refine blk_far ?_ NB337_348.out _; (with_reducible repeat (first | refine blk_drewN ?_ _ | refine blk_drew ?_ | refine blk_alloc ?_ _)); exact BK337.out) NB337_0.out (by simp)); have n1_ := aM (Kd.R_mono (Kd.R_keep (IsS107.apart (show IsS107 w0 _ g s0_0 t341 t342 from by repeat (first | (with_reducible first | exact HI0.out | apply IsS107.alloc | apply IsS107.drewN | apply IsS107.drew | apply IsS107.set_1 | apply IsS107.set_2 | refine IsS107.far ?_ NB0_337.out _ | refine IsS107.far ?_ NB0_348.out _) | exact HI0.out)) (by (with_reducible repeat (first | apply Kd.R_alloc | apply Kd.R_drewN | apply Kd.R_drew)); exact (Kd.R_mono (Kd.R_far (p := ⟨gb348, 1, none⟩) (Kd.R_far (p := ⟨gb348, 0, none⟩) (Kd.R_types HO340.out BK348.out (by decide)) (fun _ hk => hk.2) (.int .i64 t343)) (fun _ hk => hk.2) (.slice Ao13 t344.length co13)) (fun _ h_ => h_.1))) (by decide)) hk (fun _ h => h.2)) (fun _ h => h.1)); have n2_ := aM (Kd.S_mono (Kd.S_keep (IsS107.apartS (show IsS107 w0 _ g s0_0 t341 t342 from by repeat (first | (with_reducible first | exact HI0.out | apply IsS107.alloc | apply IsS107.drewN | apply IsS107.drew | apply IsS107.set_1 | apply IsS107.set_2 | refine IsS107.far ?_ NB0_337.out _ | refine IsS107.far ?_ NB0_348.out _) | exact HI0.out)) (by (with_reducible repeat (first | apply Kd.S_alloc | apply Kd.S_drewN | apply Kd.S_drew)); exact (Kd.S_mono (Kd.S_far (p := ⟨gb348, 1, none⟩) (Kd.S_far (p := ⟨gb348, 0, none⟩) (Kd.S_types HO346.out BK348.out (by decide)) (fun _ hk => hk.2) (.int .i64 t343)) (fun _ hk => hk.2) (.slice Ao13 t344.length co13)) (fun _ h_ => h_.1))) (by decide)) hk (fun _ h => h.2)) (fun _ h => h.1)); have n3_ := aM (KeepBut.blk hk (g' := gb348) (o := .cells #[.int .i64 t343, .slice Ao13 t344.length co13] 33 (0, 0)) (by (with_reducible repeat (first | refine blk_drewN ?_ _ | refine blk_drew ?_ | refine blk_alloc ?_ _)); refine blk_put (cs := #[.int .i64 t343, .slice none 0 0]) ?_ 1 _ rfl; (with_reducible repeat (first | refine blk_drewN ?_ _ | refine blk_drew ?_ | refine blk_alloc ?_ _)); refine blk_put (cs := #[.int .i64 0, .slice none 0 0]) ?_ 0 _ rfl; (with_reducible repeat (first | refine blk_drewN ?_ _ | refine blk_drew ?_ | refine blk_alloc ?_ _)); exact BK348.out) NB348_0.out (by simp)); have n4_ := aM (KeepBut.trans (by repeat (first | (with_reducible first | exact HK.out | apply KeepBut.set_ | apply keep_drewN | apply keep_drew | apply keep_alloc | refine keep_far ?_ GW337.out _ | refine keep_far ?_ GW348.out _) | exact HK.out)) hk (.inl rfl)); have n5_ := aM (hb); have n6_ := aM (hi); clear BK337; clear HO340; clear HO346; clear BK348; clear HK; clear HB; clear HI0; have BK337 := n0_; have HO340 := n1_; have HO346 := n2_; have BK348 := n3_; have HK := n4_; have HB := n5_; have HI0 := n6_; clear n0_ n1_ n2_ n3_ n4_ n5_ n6_; (try clear hb); (try clear hb2); (try clear hk); (try clear hi)))
   go_meet
   case rel => exact ⟨_, (t349), (t350), (t351), (by first | rfl | (simp; done) | (simp [*]; done)), H', ⟨by first | omega | exact Nat.le_refl _⟩, ⟨by (with_reducible repeat (first | apply Kd.S_alloc | apply Kd.S_drewN | apply Kd.S_drew)); exact HO346.out⟩, ⟨by (with_reducible repeat (first | refine blk_drewN ?_ _ | refine blk_drew ?_ | refine blk_alloc ?_ _)); exact BK337.out⟩, ⟨by (with_reducible repeat (first | refine blk_drewN ?_ _ | refine blk_drew ?_ | refine blk_alloc ?_ _)); exact BK348.out⟩, ⟨by repeat (first | (with_reducible first | exact HI0.out | apply IsS107.alloc | apply IsS107.drewN | apply IsS107.drew | apply IsS107.set_1 | apply IsS107.set_2 | refine IsS107.far ?_ NB0_337.out _ | refine IsS107.far ?_ NB0_348.out _) | exact HI0.out)⟩, ⟨by repeat (first | (with_reducible first | exact HK.out | apply KeepBut.set_ | apply keep_drewN | apply keep_drew | apply keep_alloc | refine keep_far ?_ GW337.out _ | refine keep_far ?_ GW348.out _) | exact HK.out)⟩, ⟨by repeat (first | (with_reducible first | exact HB.out | apply below_alloc | apply pw_below_drewN | apply below_drew1 | refine below_set ?_ (IsS107.ge HI0.out) | refine below_set ?_ GE337.out | refine below_set ?_ GE348.out) | exact HB.out)⟩⟩
  ·rw [if_neg c14] at H
   have c14b0 : decide (0 < (t344.length : Int)) = false := decide_eq_false c14
   have c14b1 : decide (0 < t344.length) = false := decide_eq_false (by omega)
   clear c14
   (first | rw [c14b0] | (simp only [i64_w, i32_w]; rw [c14b0]) | skip)
   have H' := aM H
   clear H
   have hnb20 := NB348_337.out
   have hnc20 := NB337_348.out
   have hnb21 := NB348_0.out
   have hnc21 := NB0_348.out
   have hcz22_0 : w9.cell? ⟨gb348, 0, none⟩ = some (.int .i64 0) := (blk_cell BK348.out 0).trans rfl
   have hcz22_1 : w9.cell? ⟨gb348, 1, none⟩ = some (.slice none 0 0) := (blk_cell BK348.out 1).trans rfl
   have hfz22_0 := blk_frozen BK348.out 0
   have hfz22_1 := blk_frozen BK348.out 1
   go_wp2
   go_meet
   case rel => exact ⟨_, (false), (t341), (t342), (by first | rfl | (simp; done) | (simp [*]; done)), H', ⟨by first | omega | exact Nat.le_refl _⟩, ⟨by (with_reducible repeat (first | apply Kd.S_alloc | apply Kd.S_drewN | apply Kd.S_drew)); exact Kd.S_mono (Kd.S_far (p := ⟨gb348, 1, none⟩) (Kd.S_far (p := ⟨gb348, 0, none⟩) (Kd.S_types HO346.out BK348.out (by decide)) (fun _ hk => hk.2) (.int .i64 t343)) (fun _ hk => hk.2) (.slice Ao13 t344.length co13)) (fun _ hk => trivial)⟩, ⟨by (with_reducible repeat (first | refine blk_drewN ?_ _ | refine blk_drew ?_ | refine blk_alloc ?_ _)); refine blk_far ?_ NB337_348.out _; (with_reducible repeat (first | refine blk_drewN ?_ _ | refine blk_drew ?_ | refine blk_alloc ?_ _)); refine blk_far ?_ NB337_348.out _; (with_reducible repeat (first | refine blk_drewN ?_ _ | refine blk_drew ?_ | refine blk_alloc ?_ _)); exact BK337.out⟩, ⟨by (with_reducible repeat (first | refine blk_drewN ?_ _ | refine blk_drew ?_ | refine blk_alloc ?_ _)); refine blk_put (cs := #[.int .i64 t343, .slice none 0 0]) ?_ 1 _ rfl; (with_reducible repeat (first | refine blk_drewN ?_ _ | refine blk_drew ?_ | refine blk_alloc ?_ _)); refine blk_put (cs := #[.int .i64 0, .slice none 0 0]) ?_ 0 _ rfl; (with_reducible repeat (first | refine blk_drewN ?_ _ | refine blk_drew ?_ | refine blk_alloc ?_ _)); exact BK348.out⟩, ⟨by repeat (first | (with_reducible first | exact HI0.out | apply IsS107.alloc | apply IsS107.drewN | apply IsS107.drew | apply IsS107.set_1 | apply IsS107.set_2 | refine IsS107.far ?_ NB0_337.out _ | refine IsS107.far ?_ NB0_348.out _) | exact HI0.out)⟩, ⟨by repeat (first | (with_reducible first | exact HK.out | apply KeepBut.set_ | apply keep_drewN | apply keep_drew | apply keep_alloc | refine keep_far ?_ GW337.out _ | refine keep_far ?_ GW348.out _) | exact HK.out)⟩, ⟨by repeat (first | (with_reducible first | exact HB.out | apply below_alloc | apply pw_below_drewN | apply below_drew1 | refine below_set ?_ (IsS107.ge HI0.out) | refine below_set ?_ GE337.out | refine below_set ?_ GE348.out) | exact HB.out)⟩⟩
 case rest =>
  clear HC4
  try clear c1
  try clear c2
  try clear p2
  try clear c3
  try clear c8
  try clear c10
  try clear c11
  try clear c14
  try clear c14b0
  try clear c14b1
  try clear c16
  try clear c17
  try clear c20
  try clear c21
  try clear hcz12_0
  try clear hcz12_1
  try clear hcz18_0
  try clear hcz18_1
  try clear hcz22_0
  try clear hcz22_1
  try clear hfz12_0
  try clear hfz12_1
  try clear hfz18_0
  try clear hfz18_1
  try clear hfz22_0
  try clear hfz22_1
  obtain ⟨kq, x19_3, x1001_3, x1002_3, rfl, HA, HJ3, HO_349001, BK337, BK348, HI0, HK, HB⟩ := hcut
  cases kq with
  | zero => exact absurd HA.out (by simp [spec_l1Cur_words.j0])
  | succ kj3 =>
   have H := HA.out
   clear HA
   simp only [spec_l1Cur_words.j0] at H
   by_cases c23 : x19_3 = true
   ·subst c23
    have H1 : ((spec_l1Cur_pick.f s0_0 x1001_3 x1002_3 (t344.length : Int)).bind fun bt352 => ((spec_l1Cur_pick.f s0_0 bt352.2.1 bt352.2.2 3).bind fun bt355 => (if bt355.1 = 0 then (if 0 ≤ bt352.1 then (if bt352.1 < (t344.length : Int) then (if ((rd_T102 t344 bt352.1).f0).size + 1 ≤ 9223372036854775807 then (some (t343, (t344.set (bt352.1 : Int).toNat (⟨((rd_T102 t344 bt352.1).f0) ++ (⟨#[90]⟩ : ByteArray), (rd_T102 t344 bt352.1).f1⟩ : S102)), bt355.2.1, bt355.2.2)) else (none)) else (none)) else (none)) else (if bt355.1 = 1 then (if 0 ≤ bt352.1 then (if bt352.1 < (t344.length : Int) then ((spec_l1Cur_pick.f s0_0 bt355.2.1 bt355.2.2 9).bind fun bt361 => (if 0 < (((rd_T102 t344 bt352.1).f1).length : Int) then (some (t343, (t344.set (bt352.1 : Int).toNat (⟨(rd_T102 t344 bt352.1).f0, (((rd_T102 t344 bt352.1).f1).set (0 : Int).toNat (⟨bt361.1, (rd_T56 ((rd_T102 t344 bt352.1).f1) 0).f1⟩ : S56))⟩ : S102)), bt361.2.1, bt361.2.2)) else (none))) else (none)) else (none)) else (if 0 ≤ bt352.1 then (if bt352.1 < (t344.length : Int) then (some (t343, (t344.set (bt352.1 : Int).toNat (⟨(rd_T102 t344 bt352.1).f0, ([] : List (S56))⟩ : S102)), bt355.2.1, bt355.2.2)) else (none)) else (none)))))) = some (r1, r2, r3, r4) := by rw [if_pos rfl] at H; exact H
    clear H
    have H := H1
    clear H1
    replace H := Option.bind_eq_some_iff.mp H
    obtain ⟨⟨t352, t353, t354⟩, A240, H⟩ := H
    replace H : ((spec_l1Cur_pick.f s0_0 t353 t354 3).bind fun bt355 => (if bt355.1 = 0 then (if 0 ≤ t352 then (if t352 < (t344.length : Int) then (if ((rd_T102 t344 t352).f0).size + 1 ≤ 9223372036854775807 then (some (t343, (t344.set (t352 : Int).toNat (⟨((rd_T102 t344 t352).f0) ++ (⟨#[90]⟩ : ByteArray), (rd_T102 t344 t352).f1⟩ : S102)), bt355.2.1, bt355.2.2)) else (none)) else (none)) else (none)) else (if bt355.1 = 1 then (if 0 ≤ t352 then (if t352 < (t344.length : Int) then ((spec_l1Cur_pick.f s0_0 bt355.2.1 bt355.2.2 9).bind fun bt361 => (if 0 < (((rd_T102 t344 t352).f1).length : Int) then (some (t343, (t344.set (t352 : Int).toNat (⟨(rd_T102 t344 t352).f0, (((rd_T102 t344 t352).f1).set (0 : Int).toNat (⟨bt361.1, (rd_T56 ((rd_T102 t344 t352).f1) 0).f1⟩ : S56))⟩ : S102)), bt361.2.1, bt361.2.2)) else (none))) else (none)) else (none)) else (if 0 ≤ t352 then (if t352 < (t344.length : Int) then (some (t343, (t344.set (t352 : Int).toNat (⟨(rd_T102 t344 t352).f0, ([] : List (S56))⟩ : S102)), bt355.2.1, bt355.2.2)) else (none)) else (none))))) = some (r1, r2, r3, r4) := H
    have A24 := aM A240
    clear A240
    replace H := Option.bind_eq_some_iff.mp H
    obtain ⟨⟨t355, t356, t357⟩, A250, H⟩ := H
    replace H : (if t355 = 0 then (if 0 ≤ t352 then (if t352 < (t344.length : Int) then (if ((rd_T102 t344 t352).f0).size + 1 ≤ 9223372036854775807 then (some (t343, (t344.set (t352 : Int).toNat (⟨((rd_T102 t344 t352).f0) ++ (⟨#[90]⟩ : ByteArray), (rd_T102 t344 t352).f1⟩ : S102)), t356, t357)) else (none)) else (none)) else (none)) else (if t355 = 1 then (if 0 ≤ t352 then (if t352 < (t344.length : Int) then ((spec_l1Cur_pick.f s0_0 t356 t357 9).bind fun bt361 => (if 0 < (((rd_T102 t344 t352).f1).length : Int) then (some (t343, (t344.set (t352 : Int).toNat (⟨(rd_T102 t344 t352).f0, (((rd_T102 t344 t352).f1).set (0 : Int).toNat (⟨bt361.1, (rd_T56 ((rd_T102 t344 t352).f1) 0).f1⟩ : S56))⟩ : S102)), bt361.2.1, bt361.2.2)) else (none))) else (none)) else (none)) else (if 0 ≤ t352 then (if t352 < (t344.length : Int) then (some (t343, (t344.set (t352 : Int).toNat (⟨(rd_T102 t344 t352).f0, ([] : List (S56))⟩ : S102)), t356, t357)) else (none)) else (none)))) = some (r1, r2, r3, r4) := H
    have A25 := aM A250
    clear A250
    by_cases c26 : t355 = 0
    ·rw [if_pos c26] at H
     have c26b0 : (t355 == 0) = true := beq_iff_eq.mpr c26
     have c26b1 : (t355 != 0) = false := bne_eq_false_iff_eq.mpr c26
     clear c26
     by_cases c27 : 0 ≤ t352
     ·rw [if_pos c27] at H
      have c27b0 : decide (0 ≤ t352) = true := decide_eq_true c27
      clear c27
      by_cases c28 : t352 < (t344.length : Int)
      ·rw [if_pos c28] at H
       have c28b0 : decide (t352 < (t344.length : Int)) = true := decide_eq_true c28
       clear c28
       by_cases c29 : ((rd_T102 t344 t352).f0).size + 1 ≤ 9223372036854775807
       ·rw [if_pos c29] at H
        have c29b0 := eq_true c29
        have c29b1 : decide (((rd_T102 t344 t352).f0).size + 1 ≤ 9223372036854775807) = true := decide_eq_true c29
        try have c29b2 : (9223372036854775807 < ((rd_T102 t344 t352).f0).size + 1) = False := eq_false (Nat.not_lt.2 c29)
        try have c29b3 := c29b2
        try simp only [ByteArray.size_append] at c29b3
        obtain ⟨y359, hy359⟩ : ∃ y_ : List (S102), y_ = (t344.set (t352 : Int).toNat (⟨((rd_T102 t344 t352).f0) ++ (⟨#[90]⟩ : ByteArray), (rd_T102 t344 t352).f1⟩ : S102)) := ⟨_, rfl⟩
        replace H : (some (t343, y359, t356, t357)) = some (r1, r2, r3, r4) := by first | (rw [hy359]; with_reducible exact H) | (have H2_ := (Option.bind_some _ _).symm.trans H; rw [hy359]; with_reducible exact H2_) | (have H2_ := (Option.bind_some _ _).symm.trans H; with_reducible exact H2_) | with_reducible exact H | (rw [hy359]; exact H) | exact H
        have Ny359 := aM hy359
        clear hy359
        simp only [Option.some.injEq, Prod.mk.injEq] at H
        obtain ⟨rfl, rfl, rfl, rfl⟩ := H
        have hnb31 := NB348_337.out
        have hnc31 := NB337_348.out
        have hnb32 := NB348_0.out
        have hnc32 := NB0_348.out
        have hcz33_0 : wc.cell? ⟨gb348, 0, none⟩ = some (.int .i64 t343) := (blk_cell BK348.out 0).trans rfl
        have hcz33_1 : wc.cell? ⟨gb348, 1, none⟩ = some (.slice Ao13 t344.length co13) := (blk_cell BK348.out 1).trans rfl
        have hfz33_0 := blk_frozen BK348.out 0
        have hfz33_1 := blk_frozen BK348.out 1
        go_wp2_with (first | ((with_reducible refine gate_callee (f := 133) rfl ?_); refine gL 24 Try.func133 #[.pointer (some ⟨g, 0, none⟩), .int .i64 (t344.length : Int)] ?_; (with_reducible refine (spec_l1Cur_pick.calls g s0_0 x1001_3 x1002_3 (t344.length : Int) t352 t353 t354 w0 _ ?side1 ?side2 A24.out).mono ?_); (case side1 => repeat (first | (with_reducible first | exact HI0.out | apply IsS107.alloc | apply IsS107.drewN | apply IsS107.drew | apply IsS107.set_1 | apply IsS107.set_2 | refine IsS107.far ?_ NB0_337.out _ | refine IsS107.far ?_ NB0_348.out _) | exact HI0.out)); (case side2 => repeat (first | (with_reducible first | exact HB.out | apply below_alloc | apply pw_below_drewN | apply below_drew1 | refine below_set ?_ (IsS107.ge HI0.out) | refine below_set ?_ GE337.out | refine below_set ?_ GE348.out) | exact HB.out)); rintro e w34 ⟨rfl, hi, hb, hk⟩; refine ⟨_, rfl, ?_⟩; have n0_ := aM (Kd.S_mono (Kd.S_keep (IsS107.apartS (show IsS107 w0 _ g s0_0 x1001_3 x1002_3 from by repeat (first | (with_reducible first | exact HI0.out | apply IsS107.alloc | apply IsS107.drewN | apply IsS107.drew | apply IsS107.set_1 | apply IsS107.set_2 | refine IsS107.far ?_ NB0_337.out _ | refine IsS107.far ?_ NB0_348.out _) | exact HI0.out)) (by (with_reducible repeat (first | apply Kd.S_alloc | apply Kd.S_drewN | apply Kd.S_drew)); exact HO_349001.out) (by decide)) hk (fun _ h => h.2)) (fun _ h => h.1)); have n1_ := aM (KeepBut.blk hk (g' := gb337) (o := .cells #[.int .i64 0, .slice none 0 0] 33 (0, 0)) (by (with_reducible repeat (first | refine blk_drewN ?_ _ | refine blk_drew ?_ | refine blk_alloc ?_ _)); exact BK337.out) NB337_0.out (by simp)); have n2_ := aM (KeepBut.blk hk (g' := gb348) (o := .cells #[.int .i64 t343, .slice Ao13 t344.length co13] 33 (0, 0)) (by (with_reducible repeat (first | refine blk_drewN ?_ _ | refine blk_drew ?_ | refine blk_alloc ?_ _)); exact BK348.out) NB348_0.out (by simp)); have n3_ := aM (KeepBut.trans (by repeat (first | (with_reducible first | exact HK.out | apply KeepBut.set_ | apply keep_drewN | apply keep_drew | apply keep_alloc | refine keep_far ?_ GW337.out _ | refine keep_far ?_ GW348.out _) | exact HK.out)) hk (.inl rfl)); have n4_ := aM (hb); have n5_ := aM (hi); clear HO_349001; clear BK337; clear BK348; clear HK; clear HB; clear HI0; have HO_349001 := n0_; have BK337 := n1_; have BK348 := n2_; have HK := n3_; have HB := n4_; have HI0 := n5_; clear n0_ n1_ n2_ n3_ n4_ n5_; (try clear hb); (try clear hb2); (try clear hk); (try clear hi)) | ((with_reducible refine gate_callee (f := 133) rfl ?_); refine gL 26 Try.func133 #[.pointer (some ⟨g, 0, none⟩), .int .i64 3] ?_; (with_reducible refine (spec_l1Cur_pick.calls g s0_0 t353 t354 3 t355 t356 t357 w0 _ ?side1 ?side2 A25.out).mono ?_); (case side1 => repeat (first | (with_reducible first | exact HI0.out | apply IsS107.alloc | apply IsS107.drewN | apply IsS107.drew | apply IsS107.set_1 | apply IsS107.set_2 | refine IsS107.far ?_ NB0_337.out _ | refine IsS107.far ?_ NB0_348.out _) | exact HI0.out)); (case side2 => repeat (first | (with_reducible first | exact HB.out | apply below_alloc | apply pw_below_drewN | apply below_drew1 | refine below_set ?_ (IsS107.ge HI0.out) | refine below_set ?_ GE337.out | refine below_set ?_ GE348.out) | exact HB.out)); rintro e w35 ⟨rfl, hi, hb, hk⟩; refine ⟨_, rfl, ?_⟩; have n0_ := aM (Kd.S_mono (Kd.S_keep (IsS107.apartS (show IsS107 w0 _ g s0_0 t353 t354 from by repeat (first | (with_reducible first | exact HI0.out | apply IsS107.alloc | apply IsS107.drewN | apply IsS107.drew | apply IsS107.set_1 | apply IsS107.set_2 | refine IsS107.far ?_ NB0_337.out _ | refine IsS107.far ?_ NB0_348.out _) | exact HI0.out)) (by (with_reducible repeat (first | apply Kd.S_alloc | apply Kd.S_drewN | apply Kd.S_drew)); exact HO_349001.out) (by decide)) hk (fun _ h => h.2)) (fun _ h => h.1)); have n1_ := aM (KeepBut.blk hk (g' := gb337) (o := .cells #[.int .i64 0, .slice none 0 0] 33 (0, 0)) (by (with_reducible repeat (first | refine blk_drewN ?_ _ | refine blk_drew ?_ | refine blk_alloc ?_ _)); exact BK337.out) NB337_0.out (by simp)); have n2_ := aM (KeepBut.blk hk (g' := gb348) (o := .cells #[.int .i64 t343, .slice Ao13 t344.length co13] 33 (0, 0)) (by (with_reducible repeat (first | refine blk_drewN ?_ _ | refine blk_drew ?_ | refine blk_alloc ?_ _)); exact BK348.out) NB348_0.out (by simp)); have n3_ := aM (KeepBut.trans (by repeat (first | (with_reducible first | exact HK.out | apply KeepBut.set_ | apply keep_drewN | apply keep_drew | apply keep_alloc | refine keep_far ?_ GW337.out _ | refine keep_far ?_ GW348.out _) | exact HK.out)) hk (.inl rfl)); have n4_ := aM (hb); have n5_ := aM (hi); clear HO_349001; clear BK337; clear BK348; clear HK; clear HB; clear HI0; have HO_349001 := n0_; have BK337 := n1_; have BK348 := n2_; have HK := n3_; have HB := n4_; have HI0 := n5_; clear n0_ n1_ n2_ n3_ n4_ n5_; (try clear hb); (try clear hb2); (try clear hk); (try clear hi); have hcz36_0 : w35.cell? ⟨gb348, 0, none⟩ = some (.int .i64 t343) := (blk_cell BK348.out 0).trans rfl; have hcz36_1 : w35.cell? ⟨gb348, 1, none⟩ = some (.slice Ao13 t344.length co13) := (blk_cell BK348.out 1).trans rfl; have hfz36_0 := blk_frozen BK348.out 0; have hfz36_1 := blk_frozen BK348.out 1; have p358 : 0 ≤ (t352 : Int) := of_decide_eq_true (by first | (with_reducible assumption) | assumption); have q358 : t352 < (t344.length : Int) := of_decide_eq_true (by first | (with_reducible assumption) | assumption); obtain ⟨ad358, A358_1, c358_1, e358, hx358_0, hx358_1, hl358_1, hi358_1⟩ := at_T102 (Kd.S_reads' HO_349001.out).2.2 t352 p358 q358; cases e358; obtain ⟨ce358, hce358, hMe358, hcc358⟩ := Kd.S_get HO_349001.out z102 t352 p358 (by first | exact q358 | exact of_decide_eq_true (by first | (with_reducible assumption) | assumption) | (have e_ := (Kd.S_reads' HO_349001.out).1; omega)); obtain ⟨ve358_1, rfl, ge358_1⟩ := k102_openM hMe358; have hv358_1 := hcc358 1 _ rfl; rw [add_field _ _ 1 (by omega)] at hv358_1; replace hv358_1 := Option.some.inj (hv358_1.symm.trans hx358_1); rw [hv358_1] at ge358_1; have HL358_1 := aM (show Kd.R k56 56 _ _ _ _ ((rd_T102 t344 t352).f1) from ge358_1); clear hv358_1 ge358_1; have HX358_1 := aM hx358_1; clear hcc358 hce358; have HR358_1 := aM hi358_1; have HC358_1 := aM hl358_1; clear hi358_1 hl358_1; replace p358 := eq_true p358; replace q358 := eq_true q358; have p30 : 0 ≤ (t352 : Int) := of_decide_eq_true (by first | (with_reducible assumption) | assumption); have q30 : (t352 : Int) < ((t344.length : Int) : Int) := of_decide_eq_true (by first | (with_reducible assumption) | assumption); obtain ⟨go30, co30, eo30, gb30, gl30, cl30, HG30⟩ := Kd.S_form HO_349001.out (by omega); (first | cases eo30 | (injection eo30 with ea_ en_ ec_; (first | subst ea_ | (injection ea_ with ea_; subst ea_)); subst ec_; clear en_)); have GB30 := aM gb30; have GG30 := aM HG30; clear gb30 gl30 HG30; (first | simp only [add_plain] at hx358_0 | skip); (first | simp only [add_plain] at hx358_1 | skip); obtain ⟨_, ce30, hcl30, hM30, hcc30, hfr30, _, _⟩ := Kd.S_elem HO_349001.out z102 (t352 : Int) p30 q30; obtain ⟨ve30_1, rfl, ge30_1⟩ := k102_openM hM30; have hx30_0 : w35.cell? ⟨go30, (t352 : Int).toNat * 2, none⟩ = some (.string ((rd_T102 t344 t352).f0)) := hcc30 0 _ rfl; have hx30_1 : w35.cell? ⟨go30, (t352 : Int).toNat * 2 + 1, none⟩ = some (ve30_1) := hcc30 1 _ rfl; have hf30_0 : w35.frozen? ⟨go30, (t352 : Int).toNat * 2, none⟩ = false := hfr30 0; have hf30_1 : w35.frozen? ⟨go30, (t352 : Int).toNat * 2 + 1, none⟩ = false := hfr30 1; clear hcl30 hcc30 hfr30 hM30; replace p30 := eq_true p30; replace q30 := eq_true q30; have HX37 := aM (show Kd.S k102 102 w35 w.heap.size (fun k_ => ((fun _ => True)) k_ ∧ ¬ ((fun _ => False)) k_) (.slice (some ⟨go30, 0, none⟩) t344.length co13) t344 from (by (with_reducible repeat (first | apply Kd.S_alloc | apply Kd.S_drewN | apply Kd.S_drew)); exact Kd.S_mono HO_349001.out (fun k_ hk => ⟨trivial, fun e_ => e_⟩))); obtain ⟨oki37, ce37, hcl37, hM37, hcc37, hfr37, hoki37, hH37⟩ := Kd.S_elem HX37.out z102 (t352 : Int) (of_decide_eq_true (by first | (with_reducible assumption) | assumption)) (by have h_ : (t352 : Int) < ((t344.length : Int) : Int) := of_decide_eq_true (by first | (with_reducible assumption) | assumption); first | exact h_ | (have e_ := (Kd.S_reads' HO_349001.out).1; omega) | simpa using h_); obtain ⟨ve37_1, rfl, ge37_1⟩ := k102_openM hM37; have HP37 := Kd.S_seg hH37 (of_decide_eq_true (by first | (with_reducible assumption) | assumption)) (by have h_ : (t352 : Int) < ((t344.length : Int) : Int) := of_decide_eq_true (by first | (with_reducible assumption) | assumption); first | exact h_ | (have e_ := (Kd.S_reads' HO_349001.out).1; omega) | simpa using h_) (seg := [.string (((rd_T102 t344 t352).f0) ++ (⟨#[90]⟩ : ByteArray))]) (j := 0) (show 1 ≤ 2 from by decide) (x' := (⟨((rd_T102 t344 t352).f0) ++ (⟨#[90]⟩ : ByteArray), (rd_T102 t344 t352).f1⟩ : S102)) (k102_mkM _ _ _ (⟨((rd_T102 t344 t352).f0) ++ (⟨#[90]⟩ : ByteArray), (rd_T102 t344 t352).f1⟩ : S102) (Kd.R_mono ge37_1 (fun _ h_ => Or.inl h_))) (fun _ hk => hk) (fun k_ hk_ => hk_.elim); have hx37_0 := hcc37 0 _ rfl; (try simp only [show (k102).sz = 2 from rfl, Nat.mul_one, Nat.add_zero] at hx37_0); have hf37_0 := hfr37 0; (try simp only [show (k102).sz = 2 from rfl, Nat.mul_one, Nat.add_zero] at hf37_0); clear hcl37 hcc37 hfr37 hM37 hoki37 hH37) | ((with_reducible refine gate_store (t := 9) (p := 42) rfl ?_); refine store_event (t := 9) (p := 42) (v := ?vo_w38) (w1 := (w35.setCell ⟨go30, (t352 : Int).toNat * 2, none⟩ (.string (((rd_T102 t344 t352).f0) ++ (⟨#[90]⟩ : ByteArray))))) ?hg ?ho ?hn ?hr ?_; (case ho => rfl); (case hg => rfl); (case hn => rfl); (case hr => first | (go_simp; done) | (go_simp; rfl)); intro w38 hw; have hg : w35.grownBy w38 (some go30) := (by rw [hw]; exact HP37.2); have hp_ : Kd.S k102 102 w38 w.heap.size (fun _ => True) (.slice (some ⟨go30, 0, none⟩) t344.length co13) y359 := (by rw [hw, Ny359.out]; exact HP37.1); clear HP37; have n0_ := aM (hp_); have n1_ := aM (blk_grown (g := gb337) (o := .cells #[.int .i64 0, .slice none 0 0] 33 (0, 0)) (by (with_reducible repeat (first | refine blk_drewN ?_ _ | refine blk_drew ?_ | refine blk_alloc ?_ _)); exact BK337.out) hg (Kd.S_ne HO_349001.out BK337.out (by decide))); have n2_ := aM (blk_grown (g := gb348) (o := .cells #[.int .i64 t343, .slice (some ⟨go30, 0, none⟩) t344.length co13] 33 (0, 0)) (by (with_reducible repeat (first | refine blk_drewN ?_ _ | refine blk_drew ?_ | refine blk_alloc ?_ _)); exact BK348.out) hg (Kd.S_ne HO_349001.out BK348.out (by decide))); have n3_ := aM (IsS107.grown (by repeat (first | (with_reducible first | exact HI0.out | apply IsS107.alloc | apply IsS107.drewN | apply IsS107.drew | apply IsS107.set_1 | apply IsS107.set_2 | refine IsS107.far ?_ NB0_337.out _ | refine IsS107.far ?_ NB0_348.out _) | exact HI0.out)) hg (IsS107.own_neS HI0.out HO_349001.out (by decide))); have n4_ := aM (Kd.R_after (v := (.slice (some ⟨go30, 0, none⟩) t344.length co13)) (v1 := (.slice (some ⟨go30, 0, none⟩) t344.length co13)) (ok := (fun _ => True)) (by (with_reducible repeat (first | apply Kd.R_alloc | apply Kd.R_drewN | apply Kd.R_drew)); exact HL358_1.out) hg (.inl rfl)); have n5_ := aM ((by rw [hw]; exact below_set (HB.out) (Nat.le_trans HL.out GB30.out) : Below w0.heap.size w0 w38)); have n6_ := aM (KeepBut.trans (by repeat (first | (with_reducible first | exact HK.out | apply KeepBut.set_ | apply keep_drewN | apply keep_drew | apply keep_alloc | refine keep_far ?_ GW337.out _ | refine keep_far ?_ GW348.out _) | exact HK.out)) (KeepBut.of_grown hg g) (Kd.S_base2 HO_349001.out)); clear HO_349001; clear BK337; clear BK348; clear HI0; clear HL358_1; clear HB; clear HK; have HO_349001 := n0_; have BK337 := n1_; have BK348 := n2_; have HI0 := n3_; have HL358_1 := n4_; have HB := n5_; have HK := n6_; clear n0_ n1_ n2_ n3_ n4_ n5_ n6_; clear hg hw hp_; have hcz39_0 : w38.cell? ⟨gb348, 0, none⟩ = some (.int .i64 t343) := (blk_cell BK348.out 0).trans rfl; have hcz39_1 : w38.cell? ⟨gb348, 1, none⟩ = some (.slice (some ⟨go30, 0, none⟩) t344.length co13) := (blk_cell BK348.out 1).trans rfl; have hfz39_0 := blk_frozen BK348.out 0; have hfz39_1 := blk_frozen BK348.out 1; have hnb40 := NB337_0.out; have hnc40 := NB0_337.out; have hcz41_0 : w38.cell? ⟨gb337, 0, none⟩ = some (.int .i64 0) := (blk_cell BK337.out 0).trans rfl; have hcz41_1 : w38.cell? ⟨gb337, 1, none⟩ = some (.slice none 0 0) := (blk_cell BK337.out 1).trans rfl; have hfz41_0 := blk_frozen BK337.out 0; have hfz41_1 := blk_frozen BK337.out 1))
        refine bodyPost_ret (results_cell_row rfl _ _ gb337 33 #[.int .i64 t343, .slice (some ⟨go30, 0, none⟩) t344.length co13] (0, 0) _ rfl (by (with_reducible repeat (first | refine blk_drewN ?_ _ | refine blk_drew ?_ | refine blk_alloc ?_ _)); refine blk_put (cs := #[.int .i64 t343, .slice none 0 0]) ?_ 1 _ rfl; (with_reducible repeat (first | refine blk_drewN ?_ _ | refine blk_drew ?_ | refine blk_alloc ?_ _)); refine blk_put (cs := #[.int .i64 0, .slice none 0 0]) ?_ 0 _ rfl; (with_reducible repeat (first | refine blk_drewN ?_ _ | refine blk_drew ?_ | refine blk_alloc ?_ _)); exact BK337.out) Try.underlying33 rfl (by kernel_rfl)) rfl ?_
        exact ⟨_, eR, by (with_reducible repeat (first | apply Kd.S_alloc | apply Kd.S_drewN | apply Kd.S_drew)); exact Kd.S_mono (Kd.S_far (p := ⟨gb337, 1, none⟩) (Kd.S_far (p := ⟨gb337, 0, none⟩) (Kd.S_types HO_349001.out BK337.out (by decide)) (fun _ hk => hk.2) (.int .i64 t343)) (fun _ hk => hk.2) (.slice (some ⟨go30, 0, none⟩) t344.length co13)) (fun _ hk => trivial), by repeat (first | (with_reducible first | exact HI0.out | apply IsS107.alloc | apply IsS107.drewN | apply IsS107.drew | apply IsS107.set_1 | apply IsS107.set_2 | refine IsS107.far ?_ NB0_337.out _ | refine IsS107.far ?_ NB0_348.out _) | exact HI0.out), by repeat (first | (with_reducible first | exact HB.out | apply below_alloc | apply pw_below_drewN | apply below_drew1 | refine below_set ?_ (IsS107.ge HI0.out) | refine below_set ?_ GE337.out | refine below_set ?_ GE348.out) | exact HB.out), by repeat (first | (with_reducible first | exact HK.out | apply KeepBut.set_ | apply keep_drewN | apply keep_drew | apply keep_alloc | refine keep_far ?_ GW337.out _ | refine keep_far ?_ GW348.out _) | exact HK.out)⟩
       ·rw [if_neg c29] at H
        exact absurd H (by simp)
      ·rw [if_neg c28] at H
       exact absurd H (by simp)
     ·rw [if_neg c27] at H
      exact absurd H (by simp)
    ·rw [if_neg c26] at H
     have c26b0 : (t355 == 0) = false := beq_eq_false_iff_ne.mpr c26
     have c26b1 : (t355 != 0) = true := bne_iff_ne.mpr c26
     by_cases c42 : t355 = 1
     ·rw [if_pos c42] at H
      have c42b0 : (t355 == 1) = true := beq_iff_eq.mpr c42
      have c42b1 : (t355 != 1) = false := bne_eq_false_iff_eq.mpr c42
      clear c42
      by_cases c43 : 0 ≤ t352
      ·rw [if_pos c43] at H
       have c43b0 : decide (0 ≤ t352) = true := decide_eq_true c43
       clear c43
       by_cases c44 : t352 < (t344.length : Int)
       ·rw [if_pos c44] at H
        have c44b0 : decide (t352 < (t344.length : Int)) = true := decide_eq_true c44
        clear c44
        replace H := Option.bind_eq_some_iff.mp H
        obtain ⟨⟨t361, t362, t363⟩, A450, H⟩ := H
        replace H : (if 0 < (((rd_T102 t344 t352).f1).length : Int) then (some (t343, (t344.set (t352 : Int).toNat (⟨(rd_T102 t344 t352).f0, (((rd_T102 t344 t352).f1).set (0 : Int).toNat (⟨t361, (rd_T56 ((rd_T102 t344 t352).f1) 0).f1⟩ : S56))⟩ : S102)), t362, t363)) else (none)) = some (r1, r2, r3, r4) := H
        have A45 := aM A450
        clear A450
        by_cases c46 : 0 < (((rd_T102 t344 t352).f1).length : Int)
        ·rw [if_pos c46] at H
         have c46b0 : decide (0 < (((rd_T102 t344 t352).f1).length : Int)) = true := decide_eq_true c46
         have c46b1 : decide (0 < ((rd_T102 t344 t352).f1).length) = true := decide_eq_true (by omega)
         clear c46
         obtain ⟨y364, hy364⟩ : ∃ y_ : List (S56), y_ = (((rd_T102 t344 t352).f1).set (0 : Int).toNat (⟨t361, (rd_T56 ((rd_T102 t344 t352).f1) 0).f1⟩ : S56)) := ⟨_, rfl⟩
         replace H : (some (t343, (t344.set (t352 : Int).toNat (⟨(rd_T102 t344 t352).f0, y364⟩ : S102)), t362, t363)) = some (r1, r2, r3, r4) := by first | (rw [hy364]; with_reducible exact H) | (have H2_ := (Option.bind_some _ _).symm.trans H; rw [hy364]; with_reducible exact H2_) | (have H2_ := (Option.bind_some _ _).symm.trans H; with_reducible exact H2_) | with_reducible exact H | (rw [hy364]; exact H) | exact H
         have Ny364 := aM hy364
         clear hy364
         obtain ⟨y366, hy366⟩ : ∃ y_ : List (S102), y_ = (t344.set (t352 : Int).toNat (⟨(rd_T102 t344 t352).f0, y364⟩ : S102)) := ⟨_, rfl⟩
         replace H : (some (t343, y366, t362, t363)) = some (r1, r2, r3, r4) := by first | (rw [hy366]; with_reducible exact H) | (have H2_ := (Option.bind_some _ _).symm.trans H; rw [hy366]; with_reducible exact H2_) | (have H2_ := (Option.bind_some _ _).symm.trans H; with_reducible exact H2_) | with_reducible exact H | (rw [hy366]; exact H) | exact H
         have Ny366 := aM hy366
         clear hy366
         simp only [Option.some.injEq, Prod.mk.injEq] at H
         obtain ⟨rfl, rfl, rfl, rfl⟩ := H
         have hnb48 := NB348_337.out
         have hnc48 := NB337_348.out
         have hnb49 := NB348_0.out
         have hnc49 := NB0_348.out
         have hcz50_0 : wc.cell? ⟨gb348, 0, none⟩ = some (.int .i64 t343) := (blk_cell BK348.out 0).trans rfl
         have hcz50_1 : wc.cell? ⟨gb348, 1, none⟩ = some (.slice Ao13 t344.length co13) := (blk_cell BK348.out 1).trans rfl
         have hfz50_0 := blk_frozen BK348.out 0
         have hfz50_1 := blk_frozen BK348.out 1
         try go_wp2_with (first | ((with_reducible refine gate_callee (f := 133) rfl ?_); refine gL 24 Try.func133 #[.pointer (some ⟨g, 0, none⟩), .int .i64 (t344.length : Int)] ?_; (with_reducible refine (spec_l1Cur_pick.calls g s0_0 x1001_3 x1002_3 (t344.length : Int) t352 t353 t354 w0 _ ?side1 ?side2 A24.out).mono ?_); (case side1 => repeat (first | (with_reducible first | exact HI0.out | apply IsS107.alloc | apply IsS107.drewN | apply IsS107.drew | apply IsS107.set_1 | apply IsS107.set_2 | refine IsS107.far ?_ NB0_337.out _ | refine IsS107.far ?_ NB0_348.out _) | exact HI0.out)); (case side2 => repeat (first | (with_reducible first | exact HB.out | apply below_alloc | apply pw_below_drewN | apply below_drew1 | refine below_set ?_ (IsS107.ge HI0.out) | refine below_set ?_ GE337.out | refine below_set ?_ GE348.out) | exact HB.out)); rintro e w51 ⟨rfl, hi, hb, hk⟩; refine ⟨_, rfl, ?_⟩; have n0_ := aM (Kd.S_mono (Kd.S_keep (IsS107.apartS (show IsS107 w0 _ g s0_0 x1001_3 x1002_3 from by repeat (first | (with_reducible first | exact HI0.out | apply IsS107.alloc | apply IsS107.drewN | apply IsS107.drew | apply IsS107.set_1 | apply IsS107.set_2 | refine IsS107.far ?_ NB0_337.out _ | refine IsS107.far ?_ NB0_348.out _) | exact HI0.out)) (by (with_reducible repeat (first | apply Kd.S_alloc | apply Kd.S_drewN | apply Kd.S_drew)); exact HO_349001.out) (by decide)) hk (fun _ h => h.2)) (fun _ h => h.1)); have n1_ := aM (KeepBut.blk hk (g' := gb337) (o := .cells #[.int .i64 0, .slice none 0 0] 33 (0, 0)) (by (with_reducible repeat (first | refine blk_drewN ?_ _ | refine blk_drew ?_ | refine blk_alloc ?_ _)); exact BK337.out) NB337_0.out (by simp)); have n2_ := aM (KeepBut.blk hk (g' := gb348) (o := .cells #[.int .i64 t343, .slice Ao13 t344.length co13] 33 (0, 0)) (by (with_reducible repeat (first | refine blk_drewN ?_ _ | refine blk_drew ?_ | refine blk_alloc ?_ _)); exact BK348.out) NB348_0.out (by simp)); have n3_ := aM (KeepBut.trans (by repeat (first | (with_reducible first | exact HK.out | apply KeepBut.set_ | apply keep_drewN | apply keep_drew | apply keep_alloc | refine keep_far ?_ GW337.out _ | refine keep_far ?_ GW348.out _) | exact HK.out)) hk (.inl rfl)); have n4_ := aM (hb); have n5_ := aM (hi); clear HO_349001; clear BK337; clear BK348; clear HK; clear HB; clear HI0; have HO_349001 := n0_; have BK337 := n1_; have BK348 := n2_; have HK := n3_; have HB := n4_; have HI0 := n5_; clear n0_ n1_ n2_ n3_ n4_ n5_; (try clear hb); (try clear hb2); (try clear hk); (try clear hi)) | ((with_reducible refine gate_callee (f := 133) rfl ?_); refine gL 26 Try.func133 #[.pointer (some ⟨g, 0, none⟩), .int .i64 3] ?_; (with_reducible refine (spec_l1Cur_pick.calls g s0_0 t353 t354 3 t355 t356 t357 w0 _ ?side1 ?side2 A25.out).mono ?_); (case side1 => repeat (first | (with_reducible first | exact HI0.out | apply IsS107.alloc | apply IsS107.drewN | apply IsS107.drew | apply IsS107.set_1 | apply IsS107.set_2 | refine IsS107.far ?_ NB0_337.out _ | refine IsS107.far ?_ NB0_348.out _) | exact HI0.out)); (case side2 => repeat (first | (with_reducible first | exact HB.out | apply below_alloc | apply pw_below_drewN | apply below_drew1 | refine below_set ?_ (IsS107.ge HI0.out) | refine below_set ?_ GE337.out | refine below_set ?_ GE348.out) | exact HB.out)); rintro e w52 ⟨rfl, hi, hb, hk⟩; refine ⟨_, rfl, ?_⟩; have n0_ := aM (Kd.S_mono (Kd.S_keep (IsS107.apartS (show IsS107 w0 _ g s0_0 t353 t354 from by repeat (first | (with_reducible first | exact HI0.out | apply IsS107.alloc | apply IsS107.drewN | apply IsS107.drew | apply IsS107.set_1 | apply IsS107.set_2 | refine IsS107.far ?_ NB0_337.out _ | refine IsS107.far ?_ NB0_348.out _) | exact HI0.out)) (by (with_reducible repeat (first | apply Kd.S_alloc | apply Kd.S_drewN | apply Kd.S_drew)); exact HO_349001.out) (by decide)) hk (fun _ h => h.2)) (fun _ h => h.1)); have n1_ := aM (KeepBut.blk hk (g' := gb337) (o := .cells #[.int .i64 0, .slice none 0 0] 33 (0, 0)) (by (with_reducible repeat (first | refine blk_drewN ?_ _ | refine blk_drew ?_ | refine blk_alloc ?_ _)); exact BK337.out) NB337_0.out (by simp)); have n2_ := aM (KeepBut.blk hk (g' := gb348) (o := .cells #[.int .i64 t343, .slice Ao13 t344.length co13] 33 (0, 0)) (by (with_reducible repeat (first | refine blk_drewN ?_ _ | refine blk_drew ?_ | refine blk_alloc ?_ _)); exact BK348.out) NB348_0.out (by simp)); have n3_ := aM (KeepBut.trans (by repeat (first | (with_reducible first | exact HK.out | apply KeepBut.set_ | apply keep_drewN | apply keep_drew | apply keep_alloc | refine keep_far ?_ GW337.out _ | refine keep_far ?_ GW348.out _) | exact HK.out)) hk (.inl rfl)); have n4_ := aM (hb); have n5_ := aM (hi); clear HO_349001; clear BK337; clear BK348; clear HK; clear HB; clear HI0; have HO_349001 := n0_; have BK337 := n1_; have BK348 := n2_; have HK := n3_; have HB := n4_; have HI0 := n5_; clear n0_ n1_ n2_ n3_ n4_ n5_; (try clear hb); (try clear hb2); (try clear hk); (try clear hi)))
         have n0_ := aM (Kd.S_drew HO_349001.out)
         have n1_ := aM (blk_drew BK337.out)
         have n2_ := aM (blk_drew BK348.out)
         have n3_ := aM (IsS107.drew HI0.out)
         have n4_ := aM (keep_drew HK.out)
         have n5_ := aM (below_drew1 HB.out)
         clear HO_349001
         clear BK337
         clear BK348
         clear HI0
         clear HK
         clear HB
         have HO_349001 := n0_
         have BK337 := n1_
         have BK348 := n2_
         have HI0 := n3_
         have HK := n4_
         have HB := n5_
         clear n0_ n1_ n2_ n3_ n4_ n5_
         have p360 : 0 ≤ (t352 : Int) := dT
         have q360 : t352 < (t344.length : Int) := dT
         obtain ⟨ad360, A360_1, c360_1, e360, hx360_0, hx360_1, hl360_1, hi360_1⟩ := at_T102 (Kd.S_reads' HO_349001.out).2.2 t352 p360 q360
         cases e360
         try have hz_hx360_0 := aM hx360_0
         try have hz_hx360_1 := aM hx360_1
         obtain ⟨ce360, hce360, hMe360, hcc360⟩ := Kd.S_get HO_349001.out z102 t352 p360 (by first | exact q360 | exact of_decide_eq_true (by first | (with_reducible assumption) | assumption) | (have e_ := (Kd.S_reads' HO_349001.out).1; omega))
         obtain ⟨ve360_1, rfl, ge360_1⟩ := k102_openM hMe360
         have hv360_1 := hcc360 1 _ rfl
         rw [add_field _ _ 1 (by omega)] at hv360_1
         replace hv360_1 := Option.some.inj (hv360_1.symm.trans hx360_1)
         rw [hv360_1] at ge360_1
         have HL360_1 := aM (show Kd.R k56 56 _ _ _ _ ((rd_T102 t344 t352).f1) from ge360_1)
         clear hv360_1 ge360_1
         have HX360_1 := aM hx360_1
         clear hcc360 hce360
         have HR360_1 := aM hi360_1
         have HC360_1 := aM hl360_1
         clear hi360_1 hl360_1
         replace p360 := eq_true p360
         replace q360 := eq_true q360
         refine start_ (n := 11) (S := fun w' => w'.cell? ⟨gb348, 0, none⟩ = some (.int .i64 t343) ∧ w'.cell? ⟨gb348, 1, none⟩ = some (.slice (some ad360) t344.length co13) ∧ w'.cell? (ad360.add ((t352).toNat * 2)) = some (.string ((rd_T102 t344 t352).f0)) ∧ w'.cell? ⟨(ad360.add ((t352).toNat * 2)).block, (ad360.add ((t352).toNat * 2)).off + 1, none⟩ = some (.slice A360_1 ((rd_T102 t344 t352).f1).length c360_1)) (ds := [10]) (bq 11 0) (by kernel_rfl) rfl (by kernel_rfl) ⟨(blk_cell BK348.out 0).trans rfl, (blk_cell BK348.out 1).trans rfl, hx360_0, hx360_1⟩ (fun hHeld => ?_); refine with_tabW spec_l1Cur_words.tab9 spec_l1Cur_words.bits9 (fun HT_ HW_ => ?_)
         generalize w52.drew = w53 at HO_349001 BK337 BK348 HI0 HK HB HL360_1 HR360_1 HX360_1 hx360_0 hx360_1 hHeld ⊢
         refine pZ 11 1 0 45 HT_ ?_
         refine pZ 11 5 2 47 HT_ ?_
         refine pZ 11 69 6 51 HT_ ?_
         refine tZ4 11 71 1 46 HT_ HW_ hHeld ?_
         refine pZ 11 79 3 48 HT_ ?_
         refine pZ 11 95 4 49 HT_ ?_
         refine tZ4 11 127 5 50 HT_ HW_ hHeld ?_
         refine one_ (i := 7) (N := some 52) (bq 11 255) rfl rfl (one_of HT_.out (by kernel_rfl)) (by decide) (fun K hK => ?_)
         refine gA Try.func133 #[.pointer (some ⟨g, 0, none⟩), .int .i64 9] ?_
         with_reducible refine (spec_l1Cur_pick.calls g s0_0 t356 t357 9 t361 t362 t363 w0 _ ?side1 ?side2 A45.out).mono ?_
         (case side1 => repeat (first | (with_reducible first | exact HI0.out | apply IsS107.alloc | apply IsS107.drewN | apply IsS107.drew | apply IsS107.set_1 | apply IsS107.set_2 | refine IsS107.far ?_ NB0_337.out _ | refine IsS107.far ?_ NB0_348.out _) | exact HI0.out))
         (case side2 => repeat (first | (with_reducible first | exact HB.out | apply below_alloc | apply pw_below_drewN | apply below_drew1 | refine below_set ?_ (IsS107.ge HI0.out) | refine below_set ?_ GE337.out | refine below_set ?_ GE348.out) | exact HB.out))
         rintro e w54 ⟨rfl, hi, hb, hk⟩
         have HS2_ := keep_cell hk (hHeld.2.2.1) (by first | (rw [add_block]; exact Kd.own_blk (IsS107.own_neS HI0.out HO_349001.out (by decide))) | (show (Addr.add _ _).block ≠ _; rw [add_block]; exact Kd.own_blk (IsS107.own_neS HI0.out HO_349001.out (by decide))) | exact Kd.own_blk (IsS107.own_neS HI0.out HO_349001.out (by decide)))
         have HS3_ := keep_cell hk (hHeld.2.2.2) (by first | (rw [add_block]; exact Kd.own_blk (IsS107.own_neS HI0.out HO_349001.out (by decide))) | (show (Addr.add _ _).block ≠ _; rw [add_block]; exact Kd.own_blk (IsS107.own_neS HI0.out HO_349001.out (by decide))) | exact Kd.own_blk (IsS107.own_neS HI0.out HO_349001.out (by decide)))
         refine ⟨_, rfl, ?_⟩
         have n0_ := aM (Kd.S_mono (Kd.S_keep (IsS107.apartS (show IsS107 w0 _ g s0_0 t356 t357 from by repeat (first | (with_reducible first | exact HI0.out | apply IsS107.alloc | apply IsS107.drewN | apply IsS107.drew | apply IsS107.set_1 | apply IsS107.set_2 | refine IsS107.far ?_ NB0_337.out _ | refine IsS107.far ?_ NB0_348.out _) | exact HI0.out)) (by (with_reducible repeat (first | apply Kd.S_alloc | apply Kd.S_drewN | apply Kd.S_drew)); exact HO_349001.out) (by decide)) hk (fun _ h => h.2)) (fun _ h => h.1))
         have n1_ := aM (KeepBut.blk hk (g' := gb337) (o := .cells #[.int .i64 0, .slice none 0 0] 33 (0, 0)) (by (with_reducible repeat (first | refine blk_drewN ?_ _ | refine blk_drew ?_ | refine blk_alloc ?_ _)); exact BK337.out) NB337_0.out (by simp))
         have n2_ := aM (KeepBut.blk hk (g' := gb348) (o := .cells #[.int .i64 t343, .slice (some ad360) t344.length co13] 33 (0, 0)) (by (with_reducible repeat (first | refine blk_drewN ?_ _ | refine blk_drew ?_ | refine blk_alloc ?_ _)); exact BK348.out) NB348_0.out (by simp))
         have n3_ := aM (Kd.R_mono (Kd.R_keep (IsS107.apart (show IsS107 w0 _ g s0_0 t356 t357 from by repeat (first | (with_reducible first | exact HI0.out | apply IsS107.alloc | apply IsS107.drewN | apply IsS107.drew | apply IsS107.set_1 | apply IsS107.set_2 | refine IsS107.far ?_ NB0_337.out _ | refine IsS107.far ?_ NB0_348.out _) | exact HI0.out)) (by (with_reducible repeat (first | apply Kd.R_alloc | apply Kd.R_drewN | apply Kd.R_drew)); exact HL360_1.out) (by decide)) hk (fun _ h => h.2)) (fun _ h => h.1))
         have n4_ := aM (keep_cell hk HX360_1.out (by first | (rw [add_block]; exact Kd.own_blk (IsS107.own_neS HI0.out HO_349001.out (by decide))) | (show (Addr.add _ _).block ≠ _; rw [add_block]; exact Kd.own_blk (IsS107.own_neS HI0.out HO_349001.out (by decide))) | exact Kd.own_blk (IsS107.own_neS HI0.out HO_349001.out (by decide)) | (dsimp only; exact Kd.own_blk (IsS107.own_neS HI0.out HO_349001.out (by decide)))))
         have n5_ := aM (KeepBut.trans (by repeat (first | (with_reducible first | exact HK.out | apply KeepBut.set_ | apply keep_drewN | apply keep_drew | apply keep_alloc | refine keep_far ?_ GW337.out _ | refine keep_far ?_ GW348.out _) | exact HK.out)) hk (.inl rfl))
         have n6_ := aM (hb)
         have n7_ := aM (hi)
         clear HO_349001
         clear BK337
         clear BK348
         clear HL360_1
         clear HX360_1
         clear HK
         clear HB
         clear HI0
         have HO_349001 := n0_
         have BK337 := n1_
         have BK348 := n2_
         have HL360_1 := n3_
         have HX360_1 := n4_
         have HK := n5_
         have HB := n6_
         have HI0 := n7_
         clear n0_ n1_ n2_ n3_ n4_ n5_ n6_ n7_
         (try clear hb)
         (try clear hb2)
         (try clear hk)
         (try clear hi)
         have p47 : 0 ≤ (0 : Int) := (by omega)
         have q47 : (0 : Int) < ((((rd_T102 t344 t352).f1).length : Int) : Int) := dT
         have qi47 : (0 < ((rd_T102 t344 t352).f1).length) = True := eq_true (by omega)
         obtain ⟨go47, co47, eo47, gb47, gl47, cl47, HG47⟩ := Kd.R_form HL360_1.out (by omega)
         (first | cases eo47 | (injection eo47 with ea_ en_ ec_; (first | subst ea_ | (injection ea_ with ea_; subst ea_)); subst ec_; clear en_))
         have GB47 := aM gb47
         have GG47 := aM HG47
         clear gb47 gl47 HG47
         obtain ⟨ce47, hcl47, hM47, hcc47, hfr47⟩ := Kd.R_elem HL360_1.out z56 (0 : Int) p47 q47
         obtain rfl := k56_openM hM47
         have hx47_0 : World.cell? _ ⟨go47, (0 : Int).toNat * 2, none⟩ = some (.int .i64 ((rd_T56 ((rd_T102 t344 t352).f1) 0).f0)) := hcc47 0 _ rfl
         have hx47_1 : World.cell? _ ⟨go47, (0 : Int).toNat * 2 + 1, none⟩ = some (.int .i64 ((rd_T56 ((rd_T102 t344 t352).f1) 0).f1)) := hcc47 1 _ rfl
         have hf47_0 : World.frozen? _ ⟨go47, (0 : Int).toNat * 2, none⟩ = false := hfr47 0
         have hf47_1 : World.frozen? _ ⟨go47, (0 : Int).toNat * 2 + 1, none⟩ = false := hfr47 1
         clear hcl47 hcc47 hfr47 hM47
         (try rw [show ((0 : Int)).toNat = 0 from rfl] at hx47_0)
         (try simp only [Nat.reduceMul, Nat.zero_mul, Nat.zero_add, Nat.reduceAdd] at hx47_0)
         (try rw [show ((0 : Int)).toNat = 0 from rfl] at hf47_0)
         (try simp only [Nat.reduceMul, Nat.zero_mul, Nat.zero_add, Nat.reduceAdd] at hf47_0)
         (try rw [show ((0 : Int)).toNat = 0 from rfl] at hx47_1)
         (try simp only [Nat.reduceMul, Nat.zero_mul, Nat.zero_add, Nat.reduceAdd] at hx47_1)
         (try rw [show ((0 : Int)).toNat = 0 from rfl] at hf47_1)
         (try simp only [Nat.reduceMul, Nat.zero_mul, Nat.zero_add, Nat.reduceAdd] at hf47_1)
         replace p47 := eq_true p47
         replace q47 := eq_true q47
         have hq55 : (t352 : Int) < (t344.length : Int) := (by have h_ : (t352 : Int) < ((t344.length : Int) : Int) := of_decide_eq_true (by first | (with_reducible assumption) | assumption); first | exact h_ | (have e_ := (Kd.S_reads' HO_349001.out).1; omega) | simpa only [List.length_set, List.length_set] using h_)
         obtain ⟨oki55, ce55, hcl55, hM55, hcc55, hok55, hbk55⟩ := Kd.S_borrow HO_349001.out z102 (t352 : Int) (of_decide_eq_true (by first | (with_reducible assumption) | assumption)) hq55
         obtain ⟨ve55_1, rfl, ge55_1⟩ := k102_openM hM55
         have hv55 := hcc55 1 _ rfl
         rw [add_field _ _ 1 (by omega)] at hv55
         replace hv55 := Option.some.inj (hv55.symm.trans HX360_1.out)
         subst hv55
         clear hcc55 hcl55
         replace ge55_1 := (show Kd.R k56 56 _ _ _ _ ((rd_T102 t344 t352).f1) from ge55_1)
         obtain ⟨cf55, hcl55, hN55, hcc55, hfr55⟩ := Kd.R_elem ge55_1 z56 (0 : Int) (by omega) (by have h_ : (0 : Int) < ((((rd_T102 t344 t352).f1).length : Int) : Int) := of_decide_eq_true (by first | (with_reducible assumption) | assumption); first | exact h_ | (have e_ := (Kd.R_reads' HR360_1.out).1; omega) | simpa using h_)
         obtain rfl := k56_openM hN55
         have HP55 := Kd.R_seg ge55_1 (0 : Int) (by omega) (by have h_ : (0 : Int) < ((((rd_T102 t344 t352).f1).length : Int) : Int) := of_decide_eq_true (by first | (with_reducible assumption) | assumption); first | exact h_ | (have e_ := (Kd.R_reads' HR360_1.out).1; omega) | simpa using h_) (seg := [.int .i64 t361]) (j := 0) hcl55 hcc55 (show 1 ≤ 2 from by decide) (x' := (⟨t361, (rd_T56 ((rd_T102 t344 t352).f1) 0).f1⟩ : S56)) (k56_mkM _ _ _ (⟨t361, (rd_T56 ((rd_T102 t344 t352).f1) 0).f1⟩ : S56)) (fun _ hk => hk)
         clear hcl55 hcc55 hfr55 hN55
         have HN0_go47 := aM (show g ≠ go47 from by have h_ := IsS107.own_ne HI0.out HL360_1.out (by decide); intro e_; exact h_ (by rw [e_]; rfl))
         rw [← Ny364.out] at HP55
         have HS55 := hbk55 HP55.2 (fun k_ e_ => by injection e_ with e_; subst e_; exact ge55_1.1 _ rfl) (x' := (⟨(rd_T102 t344 t352).f0, y364⟩ : S102)) (k102_mkM _ _ _ (⟨(rd_T102 t344 t352).f0, y364⟩ : S102) HP55.1)
         rw [← Ny366.out] at HS55
         have HQ55 := aM HS55
         clear HP55 HS55 hbk55 hok55
         refine hK.out _ _ ⟨(blk_cell BK348.out 0).trans rfl, (blk_cell BK348.out 1).trans rfl, HS2_, HS3_⟩ (fun hHeld => ?_)
         clear hK K
         refine nM 52 ?_
         refine pZ 11 511 8 53 HT_ ?_
         refine pZ 11 1023 9 54 HT_ ?_
         refine last_ (i := 10) (N := none) #[true, true, true, true, true, true, true, true, true, true, true] rfl rfl (one_of HT_.out (by kernel_rfl)) (by decide) (fun K hK => ?_)
         refine skip_ (w1 := ?_) (by rfl) rfl ?_ ?_
         rotate_left
         ·go_simp
          rfl
         refine hK.out _ _ ?_
         clear hK K
         refine done_ (done_of HT_.out (by kernel_rfl)) ?_
         have n0_ : Aside0 (Kd.S k102 102 (w54.setCell ⟨go47, 0, none⟩ (.int .i64 t361)) w.heap.size (fun _ => True) (.slice (some ad360) t344.length co13) y366) := ⟨by (with_reducible repeat (first | apply Kd.S_alloc | apply Kd.S_drewN | apply Kd.S_drew)); exact HQ55.out⟩
         have n1_ : Aside0 ((w54.setCell ⟨go47, 0, none⟩ (.int .i64 t361)).heap[gb337]? = some (.cells #[.int .i64 0, .slice none 0 0] 33 (0, 0))) := ⟨by (with_reducible repeat (first | refine blk_drewN ?_ _ | refine blk_drew ?_ | refine blk_alloc ?_ _)); refine blk_far ?_ (by have h_ := Kd.R_ne HL360_1.out BK337.out (by decide); intro e_; exact h_ (by rw [e_]; rfl)) _; (with_reducible repeat (first | refine blk_drewN ?_ _ | refine blk_drew ?_ | refine blk_alloc ?_ _)); exact BK337.out⟩
         have n2_ : Aside0 ((w54.setCell ⟨go47, 0, none⟩ (.int .i64 t361)).heap[gb348]? = some (.cells #[.int .i64 t343, .slice (some ad360) t344.length co13] 33 (0, 0))) := ⟨by (with_reducible repeat (first | refine blk_drewN ?_ _ | refine blk_drew ?_ | refine blk_alloc ?_ _)); refine blk_far ?_ (by have h_ := Kd.R_ne HL360_1.out BK348.out (by decide); intro e_; exact h_ (by rw [e_]; rfl)) _; (with_reducible repeat (first | refine blk_drewN ?_ _ | refine blk_drew ?_ | refine blk_alloc ?_ _)); exact BK348.out⟩
         have n3_ : Aside0 (IsS107 w0 (w54.setCell ⟨go47, 0, none⟩ (.int .i64 t361)) g s0_0 t362 t363) := ⟨by repeat (first | (with_reducible first | exact HI0.out | apply IsS107.alloc | apply IsS107.drewN | apply IsS107.drew | apply IsS107.set_1 | apply IsS107.set_2 | refine IsS107.far ?_ HN0_go47.out _ | refine IsS107.far ?_ NB0_337.out _ | refine IsS107.far ?_ NB0_348.out _) | exact HI0.out)⟩
         have n4_ : Aside0 (KeepBut w (w54.setCell ⟨go47, 0, none⟩ (.int .i64 t361)) g none) := ⟨by repeat (first | (with_reducible first | exact HK.out | apply KeepBut.set_ | apply keep_drewN | apply keep_drew | apply keep_alloc | refine keep_far ?_ GB47.out _ | refine keep_far ?_ GW337.out _ | refine keep_far ?_ GW348.out _) | exact HK.out)⟩
         have n5_ : Aside0 (Below w0.heap.size w0 (w54.setCell ⟨go47, 0, none⟩ (.int .i64 t361))) := ⟨by repeat (first | (with_reducible first | exact HB.out | apply below_alloc | apply pw_below_drewN | apply below_drew1 | refine below_set ?_ (Nat.le_trans HL.out GB47.out) | refine below_set ?_ (IsS107.ge HI0.out) | refine below_set ?_ GE337.out | refine below_set ?_ GE348.out) | exact HB.out)⟩
         (try clear HO_349001)
         (try clear BK337)
         (try clear BK348)
         (try clear HI0)
         (try clear HK)
         (try clear HB)
         generalize (w54.setCell ⟨go47, 0, none⟩ (.int .i64 t361)) = w57 at n0_ n1_ n2_ n3_ n4_ n5_ ⊢
         have HO_349001 := n0_
         have BK337 := n1_
         have BK348 := n2_
         have HI0 := n3_
         have HK := n4_
         have HB := n5_
         clear n0_ n1_ n2_ n3_ n4_ n5_
         have hcz58_0 : w57.cell? ⟨gb348, 0, none⟩ = some (.int .i64 t343) := (blk_cell BK348.out 0).trans rfl
         have hcz58_1 : w57.cell? ⟨gb348, 1, none⟩ = some (.slice (some ad360) t344.length co13) := (blk_cell BK348.out 1).trans rfl
         have hfz58_0 := blk_frozen BK348.out 0
         have hfz58_1 := blk_frozen BK348.out 1
         have hnb59 := NB337_0.out
         have hnc59 := NB0_337.out
         have hcz60_0 : w57.cell? ⟨gb337, 0, none⟩ = some (.int .i64 0) := (blk_cell BK337.out 0).trans rfl
         have hcz60_1 : w57.cell? ⟨gb337, 1, none⟩ = some (.slice none 0 0) := (blk_cell BK337.out 1).trans rfl
         have hfz60_0 := blk_frozen BK337.out 0
         have hfz60_1 := blk_frozen BK337.out 1
         try go_wp2
         refine bodyPost_ret (results_cell_row rfl _ _ gb337 33 #[.int .i64 t343, .slice (some ad360) t344.length co13] (0, 0) _ rfl (by (with_reducible repeat (first | refine blk_drewN ?_ _ | refine blk_drew ?_ | refine blk_alloc ?_ _)); refine blk_put (cs := #[.int .i64 t343, .slice none 0 0]) ?_ 1 _ rfl; (with_reducible repeat (first | refine blk_drewN ?_ _ | refine blk_drew ?_ | refine blk_alloc ?_ _)); refine blk_put (cs := #[.int .i64 0, .slice none 0 0]) ?_ 0 _ rfl; (with_reducible repeat (first | refine blk_drewN ?_ _ | refine blk_drew ?_ | refine blk_alloc ?_ _)); exact BK337.out) Try.underlying33 rfl (by kernel_rfl)) rfl ?_
         exact ⟨_, eR, by (with_reducible repeat (first | apply Kd.S_alloc | apply Kd.S_drewN | apply Kd.S_drew)); exact Kd.S_mono (Kd.S_far (p := ⟨gb337, 1, none⟩) (Kd.S_far (p := ⟨gb337, 0, none⟩) (Kd.S_types HO_349001.out BK337.out (by decide)) (fun _ hk => hk.2) (.int .i64 t343)) (fun _ hk => hk.2) (.slice (some ad360) t344.length co13)) (fun _ hk => trivial), by repeat (first | (with_reducible first | exact HI0.out | apply IsS107.alloc | apply IsS107.drewN | apply IsS107.drew | apply IsS107.set_1 | apply IsS107.set_2 | refine IsS107.far ?_ NB0_337.out _ | refine IsS107.far ?_ NB0_348.out _) | exact HI0.out), by repeat (first | (with_reducible first | exact HB.out | apply below_alloc | apply pw_below_drewN | apply below_drew1 | refine below_set ?_ (IsS107.ge HI0.out) | refine below_set ?_ GE337.out | refine below_set ?_ GE348.out) | exact HB.out), by repeat (first | (with_reducible first | exact HK.out | apply KeepBut.set_ | apply keep_drewN | apply keep_drew | apply keep_alloc | refine keep_far ?_ GW337.out _ | refine keep_far ?_ GW348.out _) | exact HK.out)⟩
        ·rw [if_neg c46] at H
         exact absurd H (by simp)
       ·rw [if_neg c44] at H
        exact absurd H (by simp)
      ·rw [if_neg c43] at H
       exact absurd H (by simp)
     ·rw [if_neg c42] at H
      have c42b0 : (t355 == 1) = false := beq_eq_false_iff_ne.mpr c42
      have c42b1 : (t355 != 1) = true := bne_iff_ne.mpr c42
      by_cases c61 : 0 ≤ t352
      ·rw [if_pos c61] at H
       have c61b0 : decide (0 ≤ t352) = true := decide_eq_true c61
       clear c61
       by_cases c62 : t352 < (t344.length : Int)
       ·rw [if_pos c62] at H
        have c62b0 : decide (t352 < (t344.length : Int)) = true := decide_eq_true c62
        clear c62
        obtain ⟨y367, hy367⟩ : ∃ y_ : List (S102), y_ = (t344.set (t352 : Int).toNat (⟨(rd_T102 t344 t352).f0, ([] : List (S56))⟩ : S102)) := ⟨_, rfl⟩
        replace H : (some (t343, y367, t356, t357)) = some (r1, r2, r3, r4) := by first | (rw [hy367]; with_reducible exact H) | (have H2_ := (Option.bind_some _ _).symm.trans H; rw [hy367]; with_reducible exact H2_) | (have H2_ := (Option.bind_some _ _).symm.trans H; with_reducible exact H2_) | with_reducible exact H | (rw [hy367]; exact H) | exact H
        have Ny367 := aM hy367
        clear hy367
        simp only [Option.some.injEq, Prod.mk.injEq] at H
        obtain ⟨rfl, rfl, rfl, rfl⟩ := H
        have hnb64 := NB348_337.out
        have hnc64 := NB337_348.out
        have hnb65 := NB348_0.out
        have hnc65 := NB0_348.out
        have hcz66_0 : wc.cell? ⟨gb348, 0, none⟩ = some (.int .i64 t343) := (blk_cell BK348.out 0).trans rfl
        have hcz66_1 : wc.cell? ⟨gb348, 1, none⟩ = some (.slice Ao13 t344.length co13) := (blk_cell BK348.out 1).trans rfl
        have hfz66_0 := blk_frozen BK348.out 0
        have hfz66_1 := blk_frozen BK348.out 1
        go_wp2_with (first | ((with_reducible refine gate_callee (f := 133) rfl ?_); refine gL 24 Try.func133 #[.pointer (some ⟨g, 0, none⟩), .int .i64 (t344.length : Int)] ?_; (with_reducible refine (spec_l1Cur_pick.calls g s0_0 x1001_3 x1002_3 (t344.length : Int) t352 t353 t354 w0 _ ?side1 ?side2 A24.out).mono ?_); (case side1 => repeat (first | (with_reducible first | exact HI0.out | apply IsS107.alloc | apply IsS107.drewN | apply IsS107.drew | apply IsS107.set_1 | apply IsS107.set_2 | refine IsS107.far ?_ NB0_337.out _ | refine IsS107.far ?_ NB0_348.out _) | exact HI0.out)); (case side2 => repeat (first | (with_reducible first | exact HB.out | apply below_alloc | apply pw_below_drewN | apply below_drew1 | refine below_set ?_ (IsS107.ge HI0.out) | refine below_set ?_ GE337.out | refine below_set ?_ GE348.out) | exact HB.out)); rintro e w67 ⟨rfl, hi, hb, hk⟩; refine ⟨_, rfl, ?_⟩; have n0_ := aM (Kd.S_mono (Kd.S_keep (IsS107.apartS (show IsS107 w0 _ g s0_0 x1001_3 x1002_3 from by repeat (first | (with_reducible first | exact HI0.out | apply IsS107.alloc | apply IsS107.drewN | apply IsS107.drew | apply IsS107.set_1 | apply IsS107.set_2 | refine IsS107.far ?_ NB0_337.out _ | refine IsS107.far ?_ NB0_348.out _) | exact HI0.out)) (by (with_reducible repeat (first | apply Kd.S_alloc | apply Kd.S_drewN | apply Kd.S_drew)); exact HO_349001.out) (by decide)) hk (fun _ h => h.2)) (fun _ h => h.1)); have n1_ := aM (KeepBut.blk hk (g' := gb337) (o := .cells #[.int .i64 0, .slice none 0 0] 33 (0, 0)) (by (with_reducible repeat (first | refine blk_drewN ?_ _ | refine blk_drew ?_ | refine blk_alloc ?_ _)); exact BK337.out) NB337_0.out (by simp)); have n2_ := aM (KeepBut.blk hk (g' := gb348) (o := .cells #[.int .i64 t343, .slice Ao13 t344.length co13] 33 (0, 0)) (by (with_reducible repeat (first | refine blk_drewN ?_ _ | refine blk_drew ?_ | refine blk_alloc ?_ _)); exact BK348.out) NB348_0.out (by simp)); have n3_ := aM (KeepBut.trans (by repeat (first | (with_reducible first | exact HK.out | apply KeepBut.set_ | apply keep_drewN | apply keep_drew | apply keep_alloc | refine keep_far ?_ GW337.out _ | refine keep_far ?_ GW348.out _) | exact HK.out)) hk (.inl rfl)); have n4_ := aM (hb); have n5_ := aM (hi); clear HO_349001; clear BK337; clear BK348; clear HK; clear HB; clear HI0; have HO_349001 := n0_; have BK337 := n1_; have BK348 := n2_; have HK := n3_; have HB := n4_; have HI0 := n5_; clear n0_ n1_ n2_ n3_ n4_ n5_; (try clear hb); (try clear hb2); (try clear hk); (try clear hi)) | ((with_reducible refine gate_callee (f := 133) rfl ?_); refine gL 26 Try.func133 #[.pointer (some ⟨g, 0, none⟩), .int .i64 3] ?_; (with_reducible refine (spec_l1Cur_pick.calls g s0_0 t353 t354 3 t355 t356 t357 w0 _ ?side1 ?side2 A25.out).mono ?_); (case side1 => repeat (first | (with_reducible first | exact HI0.out | apply IsS107.alloc | apply IsS107.drewN | apply IsS107.drew | apply IsS107.set_1 | apply IsS107.set_2 | refine IsS107.far ?_ NB0_337.out _ | refine IsS107.far ?_ NB0_348.out _) | exact HI0.out)); (case side2 => repeat (first | (with_reducible first | exact HB.out | apply below_alloc | apply pw_below_drewN | apply below_drew1 | refine below_set ?_ (IsS107.ge HI0.out) | refine below_set ?_ GE337.out | refine below_set ?_ GE348.out) | exact HB.out)); rintro e w68 ⟨rfl, hi, hb, hk⟩; refine ⟨_, rfl, ?_⟩; have n0_ := aM (Kd.S_mono (Kd.S_keep (IsS107.apartS (show IsS107 w0 _ g s0_0 t353 t354 from by repeat (first | (with_reducible first | exact HI0.out | apply IsS107.alloc | apply IsS107.drewN | apply IsS107.drew | apply IsS107.set_1 | apply IsS107.set_2 | refine IsS107.far ?_ NB0_337.out _ | refine IsS107.far ?_ NB0_348.out _) | exact HI0.out)) (by (with_reducible repeat (first | apply Kd.S_alloc | apply Kd.S_drewN | apply Kd.S_drew)); exact HO_349001.out) (by decide)) hk (fun _ h => h.2)) (fun _ h => h.1)); have n1_ := aM (KeepBut.blk hk (g' := gb337) (o := .cells #[.int .i64 0, .slice none 0 0] 33 (0, 0)) (by (with_reducible repeat (first | refine blk_drewN ?_ _ | refine blk_drew ?_ | refine blk_alloc ?_ _)); exact BK337.out) NB337_0.out (by simp)); have n2_ := aM (KeepBut.blk hk (g' := gb348) (o := .cells #[.int .i64 t343, .slice Ao13 t344.length co13] 33 (0, 0)) (by (with_reducible repeat (first | refine blk_drewN ?_ _ | refine blk_drew ?_ | refine blk_alloc ?_ _)); exact BK348.out) NB348_0.out (by simp)); have n3_ := aM (KeepBut.trans (by repeat (first | (with_reducible first | exact HK.out | apply KeepBut.set_ | apply keep_drewN | apply keep_drew | apply keep_alloc | refine keep_far ?_ GW337.out _ | refine keep_far ?_ GW348.out _) | exact HK.out)) hk (.inl rfl)); have n4_ := aM (hb); have n5_ := aM (hi); clear HO_349001; clear BK337; clear BK348; clear HK; clear HB; clear HI0; have HO_349001 := n0_; have BK337 := n1_; have BK348 := n2_; have HK := n3_; have HB := n4_; have HI0 := n5_; clear n0_ n1_ n2_ n3_ n4_ n5_; (try clear hb); (try clear hb2); (try clear hk); (try clear hi); have hcz69_0 : w68.cell? ⟨gb348, 0, none⟩ = some (.int .i64 t343) := (blk_cell BK348.out 0).trans rfl; have hcz69_1 : w68.cell? ⟨gb348, 1, none⟩ = some (.slice Ao13 t344.length co13) := (blk_cell BK348.out 1).trans rfl; have hfz69_0 := blk_frozen BK348.out 0; have hfz69_1 := blk_frozen BK348.out 1; have p63 : 0 ≤ (t352 : Int) := of_decide_eq_true (by first | (with_reducible assumption) | assumption); have q63 : (t352 : Int) < ((t344.length : Int) : Int) := of_decide_eq_true (by first | (with_reducible assumption) | assumption); obtain ⟨go63, co63, eo63, gb63, gl63, cl63, HG63⟩ := Kd.S_form HO_349001.out (by omega); (first | cases eo63 | (injection eo63 with ea_ en_ ec_; (first | subst ea_ | (injection ea_ with ea_; subst ea_)); subst ec_; clear en_)); have GB63 := aM gb63; have GG63 := aM HG63; clear gb63 gl63 HG63; obtain ⟨_, ce63, hcl63, hM63, hcc63, hfr63, _, _⟩ := Kd.S_elem HO_349001.out z102 (t352 : Int) p63 q63; obtain ⟨ve63_1, rfl, ge63_1⟩ := k102_openM hM63; have hx63_0 : w68.cell? ⟨go63, (t352 : Int).toNat * 2, none⟩ = some (.string ((rd_T102 t344 t352).f0)) := hcc63 0 _ rfl; have hx63_1 : w68.cell? ⟨go63, (t352 : Int).toNat * 2 + 1, none⟩ = some (ve63_1) := hcc63 1 _ rfl; have hf63_0 : w68.frozen? ⟨go63, (t352 : Int).toNat * 2, none⟩ = false := hfr63 0; have hf63_1 : w68.frozen? ⟨go63, (t352 : Int).toNat * 2 + 1, none⟩ = false := hfr63 1; clear hcl63 hcc63 hfr63 hM63; replace p63 := eq_true p63; replace q63 := eq_true q63; have HX70 := aM (show Kd.S k102 102 w68 w.heap.size (fun k_ => ((fun _ => True)) k_ ∧ ¬ ((fun _ => False)) k_) (.slice (some ⟨go63, 0, none⟩) t344.length co13) t344 from (by (with_reducible repeat (first | apply Kd.S_alloc | apply Kd.S_drewN | apply Kd.S_drew)); exact Kd.S_mono HO_349001.out (fun k_ hk => ⟨trivial, fun e_ => e_⟩))); obtain ⟨oki70, ce70, hcl70, hM70, hcc70, hfr70, hoki70, hH70⟩ := Kd.S_elem HX70.out z102 (t352 : Int) (of_decide_eq_true (by first | (with_reducible assumption) | assumption)) (by have h_ : (t352 : Int) < ((t344.length : Int) : Int) := of_decide_eq_true (by first | (with_reducible assumption) | assumption); first | exact h_ | (have e_ := (Kd.S_reads' HO_349001.out).1; omega) | simpa using h_); obtain ⟨ve70_1, rfl, ge70_1⟩ := k102_openM hM70; have HP70 := Kd.S_seg hH70 (of_decide_eq_true (by first | (with_reducible assumption) | assumption)) (by have h_ : (t352 : Int) < ((t344.length : Int) : Int) := of_decide_eq_true (by first | (with_reducible assumption) | assumption); first | exact h_ | (have e_ := (Kd.S_reads' HO_349001.out).1; omega) | simpa using h_) (seg := [.slice none 0 0]) (j := 1) (show 2 ≤ 2 from by decide) (x' := (⟨(rd_T102 t344 t352).f0, ([] : List (S56))⟩ : S102)) (k102_mkM _ _ _ (⟨(rd_T102 t344 t352).f0, ([] : List (S56))⟩ : S102) (Kd.R_nil _ _ _ _ _)) (fun _ hk => hk) (fun k_ hk_ => hk_.elim); have hx70_1 := hcc70 1 _ rfl; (try simp only [show (k102).sz = 2 from rfl, Nat.mul_one, Nat.add_zero] at hx70_1); have hf70_1 := hfr70 1; (try simp only [show (k102).sz = 2 from rfl, Nat.mul_one, Nat.add_zero] at hf70_1); clear hcl70 hcc70 hfr70 hM70 hoki70 hH70) | ((with_reducible refine gate_store (t := 52) (p := 31) rfl ?_); refine store_event (t := 52) (p := 31) (v := ?vo_w71) (w1 := (w68.setCell ⟨go63, (t352 : Int).toNat * 2 + 1, none⟩ (.slice none 0 0))) ?hg ?ho ?hn ?hr ?_; (case ho => rfl); (case hg => rfl); (case hn => rfl); (case hr => first | (go_simp; done) | (go_simp; rfl)); intro w71 hw; have hg : w68.grownBy w71 (some go63) := (by rw [hw]; exact HP70.2); have hp_ : Kd.S k102 102 w71 w.heap.size (fun _ => True) (.slice (some ⟨go63, 0, none⟩) t344.length co13) y367 := (by rw [hw, Ny367.out]; exact HP70.1); clear HP70; have n0_ := aM (hp_); have n1_ := aM (blk_grown (g := gb337) (o := .cells #[.int .i64 0, .slice none 0 0] 33 (0, 0)) (by (with_reducible repeat (first | refine blk_drewN ?_ _ | refine blk_drew ?_ | refine blk_alloc ?_ _)); exact BK337.out) hg (Kd.S_ne HO_349001.out BK337.out (by decide))); have n2_ := aM (blk_grown (g := gb348) (o := .cells #[.int .i64 t343, .slice (some ⟨go63, 0, none⟩) t344.length co13] 33 (0, 0)) (by (with_reducible repeat (first | refine blk_drewN ?_ _ | refine blk_drew ?_ | refine blk_alloc ?_ _)); exact BK348.out) hg (Kd.S_ne HO_349001.out BK348.out (by decide))); have n3_ := aM (IsS107.grown (by repeat (first | (with_reducible first | exact HI0.out | apply IsS107.alloc | apply IsS107.drewN | apply IsS107.drew | apply IsS107.set_1 | apply IsS107.set_2 | refine IsS107.far ?_ NB0_337.out _ | refine IsS107.far ?_ NB0_348.out _) | exact HI0.out)) hg (IsS107.own_neS HI0.out HO_349001.out (by decide))); have n4_ := aM ((by rw [hw]; exact below_set (HB.out) (Nat.le_trans HL.out GB63.out) : Below w0.heap.size w0 w71)); have n5_ := aM (KeepBut.trans (by repeat (first | (with_reducible first | exact HK.out | apply KeepBut.set_ | apply keep_drewN | apply keep_drew | apply keep_alloc | refine keep_far ?_ GW337.out _ | refine keep_far ?_ GW348.out _) | exact HK.out)) (KeepBut.of_grown hg g) (Kd.S_base2 HO_349001.out)); clear HO_349001; clear BK337; clear BK348; clear HI0; clear HB; clear HK; have HO_349001 := n0_; have BK337 := n1_; have BK348 := n2_; have HI0 := n3_; have HB := n4_; have HK := n5_; clear n0_ n1_ n2_ n3_ n4_ n5_; clear hg hw hp_; have hcz72_0 : w71.cell? ⟨gb348, 0, none⟩ = some (.int .i64 t343) := (blk_cell BK348.out 0).trans rfl; have hcz72_1 : w71.cell? ⟨gb348, 1, none⟩ = some (.slice (some ⟨go63, 0, none⟩) t344.length co13) := (blk_cell BK348.out 1).trans rfl; have hfz72_0 := blk_frozen BK348.out 0; have hfz72_1 := blk_frozen BK348.out 1; have hnb73 := NB337_0.out; have hnc73 := NB0_337.out; have hcz74_0 : w71.cell? ⟨gb337, 0, none⟩ = some (.int .i64 0) := (blk_cell BK337.out 0).trans rfl; have hcz74_1 : w71.cell? ⟨gb337, 1, none⟩ = some (.slice none 0 0) := (blk_cell BK337.out 1).trans rfl; have hfz74_0 := blk_frozen BK337.out 0; have hfz74_1 := blk_frozen BK337.out 1))
        refine bodyPost_ret (results_cell_row rfl _ _ gb337 33 #[.int .i64 t343, .slice (some ⟨go63, 0, none⟩) t344.length co13] (0, 0) _ rfl (by (with_reducible repeat (first | refine blk_drewN ?_ _ | refine blk_drew ?_ | refine blk_alloc ?_ _)); refine blk_put (cs := #[.int .i64 t343, .slice none 0 0]) ?_ 1 _ rfl; (with_reducible repeat (first | refine blk_drewN ?_ _ | refine blk_drew ?_ | refine blk_alloc ?_ _)); refine blk_put (cs := #[.int .i64 0, .slice none 0 0]) ?_ 0 _ rfl; (with_reducible repeat (first | refine blk_drewN ?_ _ | refine blk_drew ?_ | refine blk_alloc ?_ _)); exact BK337.out) Try.underlying33 rfl (by kernel_rfl)) rfl ?_
        exact ⟨_, eR, by (with_reducible repeat (first | apply Kd.S_alloc | apply Kd.S_drewN | apply Kd.S_drew)); exact Kd.S_mono (Kd.S_far (p := ⟨gb337, 1, none⟩) (Kd.S_far (p := ⟨gb337, 0, none⟩) (Kd.S_types HO_349001.out BK337.out (by decide)) (fun _ hk => hk.2) (.int .i64 t343)) (fun _ hk => hk.2) (.slice (some ⟨go63, 0, none⟩) t344.length co13)) (fun _ hk => trivial), by repeat (first | (with_reducible first | exact HI0.out | apply IsS107.alloc | apply IsS107.drewN | apply IsS107.drew | apply IsS107.set_1 | apply IsS107.set_2 | refine IsS107.far ?_ NB0_337.out _ | refine IsS107.far ?_ NB0_348.out _) | exact HI0.out), by repeat (first | (with_reducible first | exact HB.out | apply below_alloc | apply pw_below_drewN | apply below_drew1 | refine below_set ?_ (IsS107.ge HI0.out) | refine below_set ?_ GE337.out | refine below_set ?_ GE348.out) | exact HB.out), by repeat (first | (with_reducible first | exact HK.out | apply KeepBut.set_ | apply keep_drewN | apply keep_drew | apply keep_alloc | refine keep_far ?_ GW337.out _ | refine keep_far ?_ GW348.out _) | exact HK.out)⟩
       ·rw [if_neg c62] at H
        exact absurd H (by simp)
      ·rw [if_neg c61] at H
       exact absurd H (by simp)
   ·replace c23 := Bool.eq_false_iff.mpr c23
    subst c23
    have H1 : (some (t343, t344, x1001_3, x1002_3)) = some (r1, r2, r3, r4) := by rw [if_neg (show ¬ (false = true) by decide)] at H; exact H
    clear H
    have H := H1
    clear H1
    simp only [Option.some.injEq, Prod.mk.injEq] at H
    obtain ⟨rfl, rfl, rfl, rfl⟩ := H
    have hnb75 := NB348_337.out
    have hnc75 := NB337_348.out
    have hnb76 := NB348_0.out
    have hnc76 := NB0_348.out
    have hcz77_0 : wc.cell? ⟨gb348, 0, none⟩ = some (.int .i64 t343) := (blk_cell BK348.out 0).trans rfl
    have hcz77_1 : wc.cell? ⟨gb348, 1, none⟩ = some (.slice Ao13 t344.length co13) := (blk_cell BK348.out 1).trans rfl
    have hfz77_0 := blk_frozen BK348.out 0
    have hfz77_1 := blk_frozen BK348.out 1
    have hnb78 := NB337_0.out
    have hnc78 := NB0_337.out
    have hcz79_0 : wc.cell? ⟨gb337, 0, none⟩ = some (.int .i64 0) := (blk_cell BK337.out 0).trans rfl
    have hcz79_1 : wc.cell? ⟨gb337, 1, none⟩ = some (.slice none 0 0) := (blk_cell BK337.out 1).trans rfl
    have hfz79_0 := blk_frozen BK337.out 0
    have hfz79_1 := blk_frozen BK337.out 1
    go_wp2
    refine bodyPost_ret (results_cell_row rfl _ _ gb337 33 #[.int .i64 t343, .slice Ao13 t344.length co13] (0, 0) _ rfl (by (with_reducible repeat (first | refine blk_drewN ?_ _ | refine blk_drew ?_ | refine blk_alloc ?_ _)); refine blk_put (cs := #[.int .i64 t343, .slice none 0 0]) ?_ 1 _ rfl; (with_reducible repeat (first | refine blk_drewN ?_ _ | refine blk_drew ?_ | refine blk_alloc ?_ _)); refine blk_put (cs := #[.int .i64 0, .slice none 0 0]) ?_ 0 _ rfl; (with_reducible repeat (first | refine blk_drewN ?_ _ | refine blk_drew ?_ | refine blk_alloc ?_ _)); exact BK337.out) Try.underlying33 rfl (by kernel_rfl)) rfl ?_
    exact ⟨_, eR, by (with_reducible repeat (first | apply Kd.S_alloc | apply Kd.S_drewN | apply Kd.S_drew)); exact Kd.S_mono (Kd.S_far (p := ⟨gb337, 1, none⟩) (Kd.S_far (p := ⟨gb337, 0, none⟩) (Kd.S_types HO_349001.out BK337.out (by decide)) (fun _ hk => hk.2) (.int .i64 t343)) (fun _ hk => hk.2) (.slice Ao13 t344.length co13)) (fun _ hk => trivial), by repeat (first | (with_reducible first | exact HI0.out | apply IsS107.alloc | apply IsS107.drewN | apply IsS107.drew | apply IsS107.set_1 | apply IsS107.set_2 | refine IsS107.far ?_ NB0_337.out _ | refine IsS107.far ?_ NB0_348.out _) | exact HI0.out), by repeat (first | (with_reducible first | exact HB.out | apply below_alloc | apply pw_below_drewN | apply below_drew1 | refine below_set ?_ (IsS107.ge HI0.out) | refine below_set ?_ GE337.out | refine below_set ?_ GE348.out) | exact HB.out), by repeat (first | (with_reducible first | exact HK.out | apply KeepBut.set_ | apply keep_drewN | apply keep_drew | apply keep_alloc | refine keep_far ?_ GW337.out _ | refine keep_far ?_ GW348.out _) | exact HK.out)⟩

end Go.Proofs.Ytaomjndfjmfelaa.PQ
end

section
namespace Go.Proofs.Ytaomjndfjmfelaa.Drw
set_option linter.unusedVariables false
set_option linter.unusedSimpArgs false
open Go.RowKit Go.Proofs.Ytaomjndfjmfelaa.PQ Go.Proofs.YtaomjndfjmfelaaW.PrintWords Go.Proofs.YtaomjndfjmfelaaW.PrintLast Go.Proofs.Ytaomjndfjmfelaa.Pre Go.Proofs.Ytaomjndfjmfelaa.Cur Go.Proofs.Ytaomjndfjmfelaa.GoodW Go.Proofs.Ytaomjndfjmfelaa.WordsW Go.Proofs.Ytaomjndfjmfelaa.Posts Go.Proofs.Ytaomjndfjmfelaa.Cou
/-- Entries with few letters and few places. -/
def Fit (b : Nat) (l : List En) : Prop := l.length ≤ b ∧ ∀ e ∈ l, e.f0.size ≤ 21 ∧ 0 < e.f1.length ∧ e.f1.length ≤ b
theorem bump_len (ps : List Po) (i : Int) (h : 0 < ps.length) : 0 < (bump ps i).length ∧ (bump ps i).length ≤ ps.length + 1 := by
 unfold bump
 split
 ·rw [List.length_set]
  omega
 ·rw [List.length_append]
  simp
theorem cnt_fit {b : Nat} {l : List En} {t : ByteArray} (h : Fit b l) (ht : t.size ≤ 20) (i : Int) : Fit (b + 1) (cnt l t i) := by
 unfold cnt
 split
 ·rename_i hk
  refine ⟨by rw [List.length_set]; exact Nat.le_succ_of_le h.1, fun e he => ?_⟩
  rcases List.mem_or_eq_of_mem_set he with h1 | rfl
  ·have := h.2 e h1
   exact ⟨this.1, this.2.1, by omega⟩
  ·obtain ⟨hk1, _⟩ := hk
   have e1 : l.getD (idx l t) ⟨t, []⟩ = l[idx l t]'hk1 := by simp [List.getD_eq_getElem?_getD, hk1]
   have h2 := h.2 _ (List.getElem_mem hk1)
   have h3 := bump_len (l[idx l t]'hk1).f1 i h2.2.1
   rw [e1]
   exact ⟨by show t.size ≤ 21; omega, h3.1, by show (bump _ i).length ≤ b + 1; omega⟩
 ·have hle : idx l t ≤ l.length := by unfold idx; exact (List.takeWhile_prefix _).length_le
  refine ⟨by simp only [List.length_append, List.length_cons, List.length_take, List.length_drop]; have := h.1; omega, fun e he => ?_⟩
  have h2 : e ∈ l ∨ e = ⟨t, [⟨i, 1⟩]⟩ := by
   rcases List.mem_append.1 he with h1 | h1
   ·exact .inl (List.mem_of_mem_take h1)
   ·rcases List.mem_cons.1 h1 with h1 | h1
    ·exact .inr h1
    ·exact .inl (List.mem_of_mem_drop h1)
  rcases h2 with h1 | rfl
  ·have := h.2 e h1
   exact ⟨this.1, this.2.1, by omega⟩
  ·exact ⟨by show t.size ≤ 21; omega, by simp, by simp⟩
theorem fit_small {b : Nat} {l : List En} (h : Fit b l) (hb : b ≤ 1048576) : Small l := ⟨Nat.le_trans h.1 hb, fun e he => by have := h.2 e he; omega⟩
theorem count_ev {b : Nat} {l : List En} {t : ByteArray} (h : Fit b l) (hb : b ≤ 1048575) (i : Int) : spec_l10Count.f l t i = some (cnt l t i) := by
 unfold spec_l10Count.f
 rw [if_pos ⟨Nat.le_trans h.1 hb, fun e he => by have := h.2 e he; omega⟩]
theorem word_small (s : ByteArray) : ∀ x ∈ wordsOf s, x.size ≤ 20 := by
 intro x hx
 unfold wordsOf flushO at hx
 obtain ⟨_, h1, h2, _⟩ := step_inv s s.size (Nat.le_refl _)
 split at hx
 ·rcases List.mem_append.1 hx with h | h
  ·exact (h1 x h).2
  ·rw [List.mem_singleton.1 h, str_size]
   exact h2
 ·exact (h1 x hx).2
theorem rd_str (l : List ByteArray) (i : Nat) (h : i < l.length) : rdOf ByteArray.empty l (i : Int) = l[i] := by
 unfold rdOf
 simp [h]
/-- The words of one text are counted. -/
theorem text_ev (x5 : Int) (x16 : List ByteArray) (x17 x18 : Int) (ws : List ByteArray) (hws : ws.length ≤ 1000) (hw : ∀ x ∈ ws, x.size ≤ 20) (x : Int) : ∀ (m i b : Nat) (l : List En), i + m = ws.length → Fit b l → b + m ≤ 1000000 →
  ∃ l', Fit (b + m) l' ∧ ∀ r, Evt (fun k => spec_IndexOf.l0 k x16 x17 (wrap64 (x18 + 1)) x l') r → Evt (fun k => spec_IndexOf.l1 k x5 x16 x17 x18 ws (ws.length : Int) (i : Int) x l) r
 | 0, i, b, l, hi, hf, hb => ⟨l, hf, fun r h => Evt.step (fun k => spec_IndexOf.l1.eq_2 _ _ _ _ _ _ _ _ _ k) (Evt.neg (by omega) h)⟩
 | m + 1, i, b, l, hi, hf, hb => by
  have hlt : i < ws.length := by omega
  obtain ⟨l', hf', hr⟩ := text_ev x5 x16 x17 x18 ws hws hw x m (i + 1) (b + 1) (cnt l ws[i] x5) (by omega) (cnt_fit hf (hw _ (List.getElem_mem hlt)) x5) (by omega)
  refine ⟨l', (show b + 1 + m = b + (m + 1) by omega) ▸ hf', fun r h => Evt.step (fun k => spec_IndexOf.l1.eq_2 _ _ _ _ _ _ _ _ _ k) (Evt.pos (by omega) (Evt.pos (by omega) (Evt.pos (by omega) ?_)))⟩
  rw [rd_str ws i hlt, count_ev hf (by omega)]
  refine Evt.bsome ?_
  rw [w64 (n := (i : Int) + 1) (by omega) (by omega)]
  exact hr r h
theorem index_ev (ts : List ByteArray) (hl : ts.length ≤ 1000) : ∃ x l b, Evt (fun k => spec_IndexOf.f k ts) (x, l, b) ∧ Fit 20000 l := by
 unfold spec_IndexOf.f
 by_cases h40 : (ts.length : Int) > 40
 ·exact ⟨0, [], false, Evt.pos h40 (Evt.const _), by simp, fun e he => by cases he⟩
 ·have key : ∀ (m i b : Nat) (l : List En), i + m = ts.length → Fit b l → b + 300 * m ≤ 20000 → ∃ x' l' b', Evt (fun k => spec_IndexOf.l0 k ts (ts.length : Int) (i : Int) (ts.length : Int) l) (x', l', b') ∧ Fit 20000 l' := by
   intro m
   induction m with
   | zero =>
    intro i b l hi hf hb
    have hg := GoodW.spec_ev (ts.length : Int) l (fit_small hf (by omega))
    by_cases hgw : goodW (ts.length : Int) l = true
    ·exact ⟨_, l, true, Evt.step (fun k => spec_IndexOf.l0.eq_2 _ _ _ _ _ k) (Evt.neg (by omega) (Evt.bind hg (Evt.pos hgw (Evt.const _)))), Nat.le_trans hf.1 (by omega), fun e he => by have := hf.2 e he; omega⟩
    ·exact ⟨0, [], false, Evt.step (fun k => spec_IndexOf.l0.eq_2 _ _ _ _ _ k) (Evt.neg (by omega) (Evt.bind hg (Evt.neg hgw (Evt.const _)))), by simp, fun e he => by cases he⟩
   | succ m ih =>
    intro i b l hi hf hb
    have hlt : i < ts.length := by omega
    by_cases h200 : ((ts[i].size : Nat) : Int) > 200
    ·refine ⟨0, [], false, Evt.step (fun k => spec_IndexOf.l0.eq_2 _ _ _ _ _ k) (Evt.pos (by omega) (Evt.pos (by omega) (Evt.pos (by omega) ?_))), by simp, fun e he => by cases he⟩
     rw [rd_str ts i hlt]
     exact Evt.pos h200 (Evt.const _)
    ·have hwl := wordsOf_len ts[i]
     obtain ⟨l', hf', hr⟩ := text_ev (i : Int) ts (ts.length : Int) (i : Int) (wordsOf ts[i]) (by omega) (word_small _) (ts.length : Int) (wordsOf ts[i]).length 0 b l (by omega) hf (by omega)
     have hf2 : Fit (b + 300) l' := ⟨by have := hf'.1; omega, fun e he => by have := hf'.2 e he; omega⟩
     obtain ⟨x', l'', b', he, hff⟩ := ih (i + 1) (b + 300) l' (by omega) hf2 (by omega)
     refine ⟨x', l'', b', Evt.step (fun k => spec_IndexOf.l0.eq_2 _ _ _ _ _ k) (Evt.pos (by omega) (Evt.pos (by omega) (Evt.pos (by omega) ?_))), hff⟩
     rw [rd_str ts i hlt]
     refine Evt.neg h200 (Evt.bind (spec_words ts[i] (by omega)) (hr _ ?_))
     rw [w64 (n := (i : Int) + 1) (by omega) (by omega)]
     exact he
  obtain ⟨x, l, b, he, hf⟩ := key ts.length 0 0 [] (by omega) ⟨by simp, fun e he => by cases he⟩ (by omega)
  exact ⟨x, l, b, Evt.neg h40 he, hf⟩
/-- A drawn text is short. -/
theorem prose_l0 {l : List Int} (hb : Bytes l) : ∀ (m : Nat) (t : ByteArray) (a s : Int), m ≤ 10 → t.size + 6 * m ≤ 60 → 0 ≤ a → a + 2 * m ≤ 2000000000 →
  ∃ t' a' s', t'.size ≤ 1000 ∧ a ≤ a' ∧ a' ≤ a + 2 * m + 10 ∧ Evt (fun k => spec_l1Cur_prose.l0 k t (m : Int) l a s) (t', a', s')
 | 0, t, a, s, hm, ht, h0, h1 => by
  obtain ⟨b1, a1, s1, e1, ha1, hb1⟩ := one_ev hb a s 40 h0 (by omega)
  by_cases hb1 : b1 = true
  ·obtain ⟨x, a2, s2, e2, hx0, hx1, ha2, hb2⟩ := pick_ev hb a1 s1 20 (by omega) (by omega)
   obtain ⟨b3, a3, s3, e3, ha3, hb3⟩ := one_ev hb a2 s2 30 (by omega) (by omega)
   have hw : wrap64 (190 + x) = 190 + x := w64 (by omega) (by omega)
   obtain ⟨u, hu⟩ : ∃ u, u = strOfNums (List.replicate (190 + x).toNat 0) := ⟨_, rfl⟩
   have hus : u.size = (190 + x).toNat := by rw [hu, str_size, List.length_replicate]
   have htu : (t ++ u).size = t.size + u.size := ByteArray.size_append
   have hw2 : (190 + x).toNat ≤ 210 := by omega
   have step : ∀ r, Evt (fun k => (if b3 = true then (if (t ++ u).size + 26 ≤ 9223372036854775807 then (some ((t ++ u) ++ (⟨#[97, 98, 99, 100, 101, 102, 103, 104, 105, 106, 107, 108, 109, 110, 111, 112, 113, 114, 115, 116, 117, 118, 119, 120, 121, 122]⟩ : ByteArray), a3, s3)) else (none)) else (some (t ++ u, a3, s3)))) r → Evt (fun k => spec_l1Cur_prose.l0 k t ((0 : Nat) : Int) l a s) r := by
    intro r h
    refine Evt.step (fun k => spec_l1Cur_prose.l0.eq_2 _ _ _ _ _ k) (Evt.neg (by omega) ?_)
    rw [e1]
    refine Evt.bsome (Evt.pos hb1 ?_)
    rw [e2]
    refine Evt.bsome ?_
    show Evt (fun k => if 0 ≤ wrap64 (190 + x) then _ else _) _
    rw [hw]
    refine Evt.pos (by omega) (Evt.pos (by omega) (Evt.bsome ?_))
    rw [← hu]
    refine Evt.pos (by omega) ?_
    rw [e3]
    exact Evt.bsome h
   cases b3
   ·exact ⟨t ++ u, a3, s3, by omega, by omega, by omega, step _ (Evt.neg (by simp) (Evt.const _))⟩
   ·exact ⟨_, a3, s3, by rw [ByteArray.size_append]; show _ + 26 ≤ _; omega, by omega, by omega, step _ (Evt.pos rfl (Evt.pos (by omega) (Evt.const _)))⟩
  ·obtain ⟨b3, a3, s3, e3, ha3, hb3⟩ := one_ev hb a1 s1 30 (by omega) (by omega)
   have step : ∀ r, Evt (fun k => (if b3 = true then (if t.size + 26 ≤ 9223372036854775807 then (some (t ++ (⟨#[97, 98, 99, 100, 101, 102, 103, 104, 105, 106, 107, 108, 109, 110, 111, 112, 113, 114, 115, 116, 117, 118, 119, 120, 121, 122]⟩ : ByteArray), a3, s3)) else (none)) else (some (t, a3, s3)))) r → Evt (fun k => spec_l1Cur_prose.l0 k t ((0 : Nat) : Int) l a s) r := by
    intro r h
    refine Evt.step (fun k => spec_l1Cur_prose.l0.eq_2 _ _ _ _ _ k) (Evt.neg (by omega) ?_)
    rw [e1]
    refine Evt.bsome (Evt.neg hb1 ?_)
    rw [e3]
    exact Evt.bsome h
   cases b3
   ·exact ⟨t, a3, s3, by omega, by omega, by omega, step _ (Evt.neg (by simp) (Evt.const _))⟩
   ·exact ⟨_, a3, s3, by rw [ByteArray.size_append]; show _ + 26 ≤ _; omega, by omega, by omega, step _ (Evt.pos rfl (Evt.pos (by omega) (Evt.const _)))⟩
 | m + 1, t, a, s, hm, ht, h0, h1 => by
  obtain ⟨u, a1, s1, e1, hu, ha1, hb1⟩ := of_ev hb a s (([(⟨#[116, 104, 101, 32]⟩ : ByteArray), (⟨#[67, 97, 116, 32]⟩ : ByteArray), (⟨#[115, 97, 116, 44, 32]⟩ : ByteArray), (⟨#[111, 110, 32]⟩ : ByteArray), (⟨#[97, 32]⟩ : ByteArray), (⟨#[109, 97, 116, 46, 32]⟩ : ByteArray), (⟨#[99, 97, 116, 39, 115, 32]⟩ : ByteArray), (⟨#[100, 111, 103, 45]⟩ : ByteArray), (⟨#[120, 49, 32]⟩ : ByteArray)] : List ByteArray)) (by simp) h0 (by omega)
  have hus : u.size ≤ 6 := by
   simp only [List.mem_cons, List.not_mem_nil, or_false] at hu
   rcases hu with rfl | rfl | rfl | rfl | rfl | rfl | rfl | rfl | rfl <;> decide
  have htu : (t ++ u).size = t.size + u.size := ByteArray.size_append
  obtain ⟨t', a', s', h2, h3, h4, he⟩ := prose_l0 hb m (t ++ u) a1 s1 (by omega) (by omega) (by omega) (by omega)
  refine ⟨t', a', s', h2, by omega, by omega, Evt.step (fun k => spec_l1Cur_prose.l0.eq_2 _ _ _ _ _ k) (Evt.pos (by omega) ?_)⟩
  rw [e1]
  refine Evt.bsome (Evt.pos (by show t.size + u.size ≤ _; omega) ?_)
  rw [w64 (n := ((m + 1 : Nat) : Int) - 1) (by omega) (by omega), show ((m + 1 : Nat) : Int) - 1 = (m : Int) by omega]
  exact he
theorem prose_ev {l : List Int} (hb : Bytes l) (a s : Int) (h0 : 0 ≤ a) (h1 : a ≤ 1900000000) : ∃ t a' s', t.size ≤ 1000 ∧ a ≤ a' ∧ a' ≤ a + 40 ∧ Evt (fun k => spec_l1Cur_prose.f k l a s) (t, a', s') := by
 obtain ⟨x, a1, s1, e1, hx0, hx1, ha1, hb1⟩ := pick_ev hb a s 7 h0 (by omega)
 obtain ⟨t, a2, s2, h2, h3, h4, he⟩ := prose_l0 hb x.toNat ⟨#[]⟩ a1 s1 (by omega) (by show 0 + _ ≤ _; omega) (by omega) (by omega)
 refine ⟨t, a2, s2, h2, by omega, by omega, ?_⟩
 unfold spec_l1Cur_prose.f
 rw [e1]
 rw [show ((x.toNat : Nat) : Int) = x by omega] at he
 exact Evt.bsome he
theorem texts_l0 {l : List Int} (hb : Bytes l) : ∀ (m : Nat) (ts : List ByteArray) (a s : Int), m ≤ 100 → ts.length + m ≤ 100 → (∀ t ∈ ts, t.size ≤ 1000) → 0 ≤ a → a + 40 * m ≤ 1000000000 →
  ∃ ts' a' s', ts'.length ≤ 100 ∧ (∀ t ∈ ts', t.size ≤ 1000) ∧ a ≤ a' ∧ a' ≤ a + 40 * m ∧ Evt (fun k => spec_l1Cur_texts.l0 k ts (m : Int) l a s) (ts', a', s')
 | 0, ts, a, s, hm, hl, hs, h0, h1 => ⟨ts, a, s, by omega, hs, by omega, by omega, Evt.step (fun k => spec_l1Cur_texts.l0.eq_2 _ _ _ _ _ k) (Evt.neg (by omega) (Evt.const _))⟩
 | m + 1, ts, a, s, hm, hl, hs, h0, h1 => by
  obtain ⟨t, a1, s1, hts, ha1, hb1, e1⟩ := prose_ev hb a s h0 (by omega)
  obtain ⟨ts', a', s', h2, h3, h4, h5, he⟩ := texts_l0 hb m (ts ++ [t]) a1 s1 (by omega) (by rw [List.length_append]; simp; omega) (fun x hx => by rcases List.mem_append.1 hx with h | h; exact hs x h; rw [List.mem_singleton.1 h]; exact hts) (by omega) (by omega)
  refine ⟨ts', a', s', h2, h3, by omega, by omega, Evt.step (fun k => spec_l1Cur_texts.l0.eq_2 _ _ _ _ _ k) (Evt.pos (by omega) (Evt.bind e1 (Evt.pos (by omega) ?_)))⟩
  rw [w64 (n := ((m + 1 : Nat) : Int) - 1) (by omega) (by omega), show ((m + 1 : Nat) : Int) - 1 = (m : Int) by omega]
  exact he
theorem texts_ev {l : List Int} (hb : Bytes l) (a s : Int) (h0 : 0 ≤ a) (h1 : a ≤ 1000000) : ∃ ts a' s', ts.length ≤ 100 ∧ (∀ t ∈ ts, t.size ≤ 1000) ∧ a ≤ a' ∧ a' ≤ a + 10000 ∧ Evt (fun k => spec_l1Cur_texts.f k l a s) (ts, a', s') := by
 obtain ⟨x, a1, s1, e1, hx0, hx1, ha1, hb1⟩ := pick_ev hb a s 6 h0 (by omega)
 obtain ⟨b2, a2, s2, e2, ha2, hb2⟩ := one_ev hb a1 s1 40 (by omega) (by omega)
 by_cases hbt : b2 = true
 ·obtain ⟨y, a3, s3, e3, hy0, hy1, ha3, hb3⟩ := pick_ev hb a2 s2 2 (by omega) (by omega)
  obtain ⟨ts, a', s', h2, h3, h4, h5, he⟩ := texts_l0 hb (40 + y).toNat [] a3 s3 (by omega) (by simp; omega) (fun t ht => by cases ht) (by omega) (by omega)
  refine ⟨ts, a', s', h2, h3, by omega, by omega, ?_⟩
  unfold spec_l1Cur_texts.f
  rw [e1]
  refine Evt.bsome ?_
  rw [e2]
  refine Evt.bsome (Evt.pos hbt ?_)
  rw [e3]
  refine Evt.bsome (Evt.step (fun k => spec_l1Cur_texts.j0.eq_2 _ _ _ _ _ k) ?_)
  rw [w64 (n := 40 + y) (by omega) (by omega)]
  rw [show (((40 + y).toNat : Nat) : Int) = 40 + y by omega] at he
  exact he
 ·obtain ⟨ts, a', s', h2, h3, h4, h5, he⟩ := texts_l0 hb x.toNat [] a2 s2 (by omega) (by simp; omega) (fun t ht => by cases ht) (by omega) (by omega)
  refine ⟨ts, a', s', h2, h3, by omega, by omega, ?_⟩
  unfold spec_l1Cur_texts.f
  rw [e1]
  refine Evt.bsome ?_
  rw [e2]
  refine Evt.bsome (Evt.neg hbt (Evt.step (fun k => spec_l1Cur_texts.j0.eq_2 _ _ _ _ _ k) ?_))
  rw [show ((x.toNat : Nat) : Int) = x by omega] at he
  exact he
theorem small_set {l : List En} (h : Small l) (i : Nat) (e : En) (h1 : e.f0.size ≤ 1048576) (h2 : e.f1.length ≤ 1048576) : Small (l.set i e) :=
 ⟨by rw [List.length_set]; exact h.1, fun x hx => by rcases List.mem_or_eq_of_mem_set hx with h3 | rfl; exact h.2 x h3; exact ⟨h1, h2⟩⟩
/-- Drawn words are small, spoilt or not. -/
theorem words_j0 {l : List Int} (hb : Bytes l) (x : Int) (en : List En) (hf : Fit 20000 en) (b : Bool) (hbe : b = true → 0 < en.length) (a s : Int) (h0 : 0 ≤ a) (h1 : a ≤ 2000000) :
  ∃ en' a' s', Small en' ∧ a ≤ a' ∧ a' ≤ a + 10 ∧ Evt (fun k => spec_l1Cur_words.j0 k b l a s x en) (x, en', a', s') := by
 have hsm : Small en := fit_small hf (by omega)
 by_cases hbt : b = true
 ·obtain ⟨y, a1, s1, e1, hy0, hy1, ha1, hb1⟩ := pick_ev hb a s (en.length : Int) h0 (by omega)
  obtain ⟨z, a2, s2, e2, hz0, hz1, ha2, hb2⟩ := pick_ev hb a1 s1 3 (by omega) (by omega)
  have hen := hbe hbt
  obtain ⟨j, rfl⟩ := Int.eq_ofNat_of_zero_le hy0
  have hj : j < en.length := by omega
  have hrd := GoodW.rd_en en j hj
  have hfj := hf.2 _ (List.getElem_mem hj)
  by_cases hz : z = 0
  ·refine ⟨en.set ((j : Int)).toNat (⟨((rd_T102 en (j : Int)).f0) ++ (⟨#[90]⟩ : ByteArray), (rd_T102 en (j : Int)).f1⟩ : En), a2, s2, ?_, by omega, by omega, Evt.step (fun k => spec_l1Cur_words.j0.eq_2 _ _ _ _ _ _ k) (Evt.pos hbt ?_)⟩
   rotate_left
   ·rw [e1]
    refine Evt.bsome ?_
    rw [e2]
    refine Evt.bsome (Evt.pos hz (Evt.pos (by show (0 : Int) ≤ j; omega) (Evt.pos (by show (j : Int) < _; omega) (Evt.pos (by show ((rd_T102 en (j : Int)).f0).size + 1 ≤ _; rw [hrd]; omega) (Evt.const _)))))
   ·refine small_set hsm _ _ ?_ ?_
    ·show (((rd_T102 en (j : Int)).f0) ++ (⟨#[90]⟩ : ByteArray)).size ≤ _
     rw [hrd, ByteArray.size_append]
     show _ + 1 ≤ _
     omega
    ·show ((rd_T102 en (j : Int)).f1).length ≤ _
     rw [hrd]
     omega
  ·by_cases hz1 : z = 1
   ·obtain ⟨q, a3, s3, e3, hq0, hq1, ha3, hb3⟩ := pick_ev hb a2 s2 9 (by omega) (by omega)
    refine ⟨en.set ((j : Int)).toNat (⟨(rd_T102 en (j : Int)).f0, ((rd_T102 en (j : Int)).f1).set (0 : Int).toNat (⟨q, (rd_T56 ((rd_T102 en (j : Int)).f1) 0).f1⟩ : Po)⟩ : En), a3, s3, ?_, by omega, by omega, Evt.step (fun k => spec_l1Cur_words.j0.eq_2 _ _ _ _ _ _ k) (Evt.pos hbt ?_)⟩
    rotate_left
    ·rw [e1]
     refine Evt.bsome ?_
     rw [e2]
     refine Evt.bsome (Evt.neg hz (Evt.pos hz1 (Evt.pos (by show (0 : Int) ≤ j; omega) (Evt.pos (by show (j : Int) < _; omega) ?_))))
     rw [e3]
     refine Evt.bsome (Evt.pos (by show 0 < (((rd_T102 en (j : Int)).f1).length : Int); rw [hrd]; omega) (Evt.const _))
    ·refine small_set hsm _ _ ?_ ?_
     ·show ((rd_T102 en (j : Int)).f0).size ≤ _
      rw [hrd]
      omega
     ·show (List.set _ _ _).length ≤ _
      rw [List.length_set]
      show ((rd_T102 en (j : Int)).f1).length ≤ _
      rw [hrd]
      omega
   ·refine ⟨en.set ((j : Int)).toNat (⟨(rd_T102 en (j : Int)).f0, ([] : List Po)⟩ : En), a2, s2, ?_, by omega, by omega, Evt.step (fun k => spec_l1Cur_words.j0.eq_2 _ _ _ _ _ _ k) (Evt.pos hbt ?_)⟩
    rotate_left
    ·rw [e1]
     refine Evt.bsome ?_
     rw [e2]
     refine Evt.bsome (Evt.neg hz (Evt.neg hz1 (Evt.pos (by show (0 : Int) ≤ j; omega) (Evt.pos (by show (j : Int) < _; omega) (Evt.const _)))))
    ·refine small_set hsm _ _ ?_ ?_
     ·show ((rd_T102 en (j : Int)).f0).size ≤ _
      rw [hrd]
      omega
     ·show 0 ≤ _
      omega
 ·exact ⟨en, a, s, hsm, by omega, by omega, Evt.step (fun k => spec_l1Cur_words.j0.eq_2 _ _ _ _ _ _ k) (Evt.neg hbt (Evt.const _))⟩
theorem words_ev {l : List Int} (hb : Bytes l) (a s : Int) (h0 : 0 ≤ a) (h1 : a ≤ 1000000) : ∃ x en a' s', Small en ∧ a ≤ a' ∧ a' ≤ a + 20000 ∧ Evt (fun k => spec_l1Cur_words.f k l a s) (x, en, a', s') := by
 obtain ⟨ts, a1, s1, hl, hs, ha1, hb1, e1⟩ := texts_ev hb a s h0 h1
 obtain ⟨x, en, b, e2, hf⟩ := index_ev ts (by omega)
 by_cases hen : (en.length : Int) > 0
 ·obtain ⟨b3, a3, s3, e3, ha3, hb3⟩ := one_ev hb a1 s1 20 (by omega) (by omega)
  obtain ⟨en', a', s', hsm, h2, h3, he⟩ := words_j0 hb x en hf b3 (fun _ => by omega) a3 s3 (by omega) (by omega)
  refine ⟨x, en', a', s', hsm, by omega, by omega, ?_⟩
  unfold spec_l1Cur_words.f
  refine Evt.bind e1 (Evt.bind e2 (Evt.pos hen ?_))
  rw [e3]
  exact Evt.bsome he
 ·obtain ⟨en', a', s', hsm, h2, h3, he⟩ := words_j0 hb x en hf false (fun h => by cases h) a1 s1 (by omega) (by omega)
  refine ⟨x, en', a', s', hsm, by omega, by omega, ?_⟩
  unfold spec_l1Cur_words.f
  exact Evt.bind e1 (Evt.bind e2 (Evt.neg hen he))
/-- What is asked is short. -/
theorem asked_l0 {l : List Int} (hb : Bytes l) : ∀ (m : Nat) (ws : List ByteArray) (a s : Int), m ≤ 10 → ws.length + m ≤ 10 → (∀ t ∈ ws, t.size ≤ 10) → 0 ≤ a → a + 2 * m ≤ 1000000000 →
  ∃ ws' a' s', ws'.length ≤ 11 ∧ (∀ t ∈ ws', t.size ≤ 10) ∧ a ≤ a' ∧ a' ≤ a + 2 * m + 10 ∧ Evt (fun k => spec_l1Cur_asked.l0 k ws (m : Int) l a s) (ws', a', s')
 | 0, ws, a, s, hm, hl, hs, h0, h1 => by
  obtain ⟨b, a1, s1, e1, ha1, hb1⟩ := one_ev hb a s 20 h0 (by omega)
  by_cases hbt : b = true
  ·obtain ⟨u, a2, s2, e2, hu, ha2, hb2⟩ := of_ev hb a1 s1 (([(⟨#[]⟩ : ByteArray), (⟨#[84, 104, 101]⟩ : ByteArray), (⟨#[97, 32, 98]⟩ : ByteArray)] : List ByteArray)) (by simp) (by omega) (by omega)
   have hus : u.size ≤ 10 := by
    simp only [List.mem_cons, List.not_mem_nil, or_false] at hu
    rcases hu with rfl | rfl | rfl <;> decide
   refine ⟨ws ++ [u], a2, s2, by rw [List.length_append]; simp; omega, fun x hx => by rcases List.mem_append.1 hx with h | h; exact hs x h; rw [List.mem_singleton.1 h]; exact hus, by omega, by omega, Evt.step (fun k => spec_l1Cur_asked.l0.eq_2 _ _ _ _ _ k) (Evt.neg (by omega) ?_)⟩
   rw [e1]
   refine Evt.bsome (Evt.pos hbt ?_)
   rw [e2]
   exact Evt.bsome (Evt.pos (by omega) (Evt.const _))
  ·refine ⟨ws, a1, s1, by omega, hs, by omega, by omega, Evt.step (fun k => spec_l1Cur_asked.l0.eq_2 _ _ _ _ _ k) (Evt.neg (by omega) ?_)⟩
   rw [e1]
   exact Evt.bsome (Evt.neg hbt (Evt.const _))
 | m + 1, ws, a, s, hm, hl, hs, h0, h1 => by
  obtain ⟨u, a1, s1, e1, hu, ha1, hb1⟩ := of_ev hb a s (([(⟨#[116, 104, 101]⟩ : ByteArray), (⟨#[99, 97, 116]⟩ : ByteArray), (⟨#[109, 97, 116]⟩ : ByteArray), (⟨#[115]⟩ : ByteArray), (⟨#[100, 111, 103]⟩ : ByteArray), (⟨#[110, 111, 110, 101]⟩ : ByteArray)] : List ByteArray)) (by simp) h0 (by omega)
  have hus : u.size ≤ 10 := by
   simp only [List.mem_cons, List.not_mem_nil, or_false] at hu
   rcases hu with rfl | rfl | rfl | rfl | rfl | rfl <;> decide
  obtain ⟨ws', a', s', h2, h3, h4, h5, he⟩ := asked_l0 hb m (ws ++ [u]) a1 s1 (by omega) (by rw [List.length_append]; simp; omega) (fun x hx => by rcases List.mem_append.1 hx with h | h; exact hs x h; rw [List.mem_singleton.1 h]; exact hus) (by omega) (by omega)
  refine ⟨ws', a', s', h2, h3, by omega, by omega, Evt.step (fun k => spec_l1Cur_asked.l0.eq_2 _ _ _ _ _ k) (Evt.pos (by omega) ?_)⟩
  rw [e1]
  refine Evt.bsome (Evt.pos (by omega) ?_)
  rw [w64 (n := ((m + 1 : Nat) : Int) - 1) (by omega) (by omega), show ((m + 1 : Nat) : Int) - 1 = (m : Int) by omega]
  exact he
theorem asked_ev {l : List Int} (hb : Bytes l) (a s : Int) (h0 : 0 ≤ a) (h1 : a ≤ 10000000) : ∃ ws a' s', ws.length ≤ 11 ∧ (∀ t ∈ ws, t.size ≤ 10) ∧ a ≤ a' ∧ a' ≤ a + 100 ∧ Evt (fun k => spec_l1Cur_asked.f k l a s) (ws, a', s') := by
 obtain ⟨x, a1, s1, e1, hx0, hx1, ha1, hb1⟩ := pick_ev hb a s 4 h0 (by omega)
 obtain ⟨ws, a', s', h2, h3, h4, h5, he⟩ := asked_l0 hb x.toNat [] a1 s1 (by omega) (by simp; omega) (fun t ht => by cases ht) (by omega) (by omega)
 refine ⟨ws, a', s', h2, h3, by omega, by omega, ?_⟩
 unfold spec_l1Cur_asked.f
 rw [e1]
 rw [show ((x.toNat : Nat) : Int) = x by omega] at he
 exact Evt.bsome he
end Go.Proofs.Ytaomjndfjmfelaa.Drw
end

/- Several texts in one: what the claim's last text rests on. No conditions. -/
import Derived.Test.YtaomjndfjmfelaaMIx13
import Derived.Lib.BufferMore
import Derived.Test.YtaomjndfjmfelaaMIx5
import Derived.Test.YtaomjndfjmfelaaMIx12
import Derived.Test.YtaomjndfjmfelaaMIx10
import Derived.Test.YtaomjndfjmfelaaMIx9
import Derived.Test.YtaomjndfjmfelaaMIx3
section
namespace Go.Proofs.Ytaomjndfjmfelaa.PostW
set_option linter.unusedVariables false
set_option linter.unusedSimpArgs false
open Go.RowKit Go.Proofs.Ytaomjndfjmfelaa.PQ Go.Proofs.YtaomjndfjmfelaaW.PrintWords Go.Proofs.YtaomjndfjmfelaaW.PrintLast Go.Proofs.YtaomjndfjmfelaaW.PrintMore Go.Proofs.Ytaomjndfjmfelaa.Pre Go.Proofs.Ytaomjndfjmfelaa.Posts Go.Proofs.Ytaomjndfjmfelaa.GoodW Go.Proofs.Ytaomjndfjmfelaa.CmpL Go.Proofs.Ytaomjndfjmfelaa.EntW
theorem entryOf_calls (A : Option Addr) (c : Nat) (l : List En) (t : ByteArray) (w : World) (hr : Kd.C k102 w A l.length l) (hc : l.length ≤ c) (hl : l.length ≤ 1048576) (hs : Rise l) :
  Calls Try.prog 81 #[.slice A l.length c, .string t] w fun e w' => ∃ i : Nat, At l t i ∧ e = .returned (.tuple #[.int .i64 (i : Int), .bool (isAt l t i)]) ∧ Below w.heap.size w w' := by
 have HC := aM (search_calls A c l t w hr hc hl hs)
 clear hr hc hl hs
 go_enter Try.func81, Try.ntmps81
 go_wp2_with (first | (go_at_call 127; go_loud ((with_reducible refine HC.out.mono ?_); rintro e w2 ⟨i, HA, rfl, hb⟩; have HA2 := aM HA; have HB2 := aM hb; clear HA hb)))
 go_ret2
 exact ⟨i, HA2.out, rfl, HB2.out⟩
/-- The postings of a word. -/
def posts (l : List En) (t : ByteArray) : List Po := match l.find? (fun e => decide (e.f0 = t)) with | some e => e.f1 | none => []
/-- The cells of postings. -/
def flatP (l : List Po) : List Value := l.flatMap (fun x => [.int .i64 x.f0, .int .i64 x.f1])
theorem flatP_len (l : List Po) : (flatP l).length = l.length * 2 := by
 unfold flatP
 induction l with
 | nil => rfl
 | cons a l ih =>
  rw [List.flatMap_cons, List.length_append, ih, List.length_cons]
  simp
  omega
theorem flatP_reps (w : World) (base : Nat) (ok : Nat → Prop) (l : List Po) : Reps (k56.M w base ok) 2 l (flatP l) := by
 refine ⟨flatP_len l, fun j p hp => ?_⟩
 have key : ∀ (l : List Po) (j : Nat), l[j]? = some p → ((flatP l).drop (j * 2)).take 2 = [.int .i64 p.f0, .int .i64 p.f1] := by
  intro l
  induction l with
  | nil => intro j h; simp at h
  | cons a l ih =>
   intro j h
   have e : flatP (a :: l) = [.int .i64 a.f0, .int .i64 a.f1] ++ flatP l := by unfold flatP; rw [List.flatMap_cons]
   match j with
   | 0 =>
    have : a = p := by simpa using h
    subst this
    rw [e]
    simp
   | j + 1 =>
    rw [e, show (j + 1) * 2 = j * 2 + 2 by omega]
    simpa using ih j (by simpa using h)
 rw [key l j hp]
 exact k56_mkM w base ok p
end Go.Proofs.Ytaomjndfjmfelaa.PostW
end

section
namespace Go.Proofs.Ytaomjndfjmfelaa.Cou
set_option linter.unusedVariables false
set_option linter.unusedSimpArgs false
open Go.RowKit Go.Proofs.Ytaomjndfjmfelaa.PQ Go.Proofs.YtaomjndfjmfelaaW.PrintWords Go.Proofs.YtaomjndfjmfelaaW.PrintLast Go.Proofs.YtaomjndfjmfelaaW.PrintMore Go.Proofs.Ytaomjndfjmfelaa.Pre Go.Proofs.Ytaomjndfjmfelaa.EntW Go.Proofs.Ytaomjndfjmfelaa.Posts Go.Proofs.Ytaomjndfjmfelaa.GoodW Go.Proofs.Ytaomjndfjmfelaa.PostW Go.Proofs.Ytaomjndfjmfelaa.Raw Go.Proofs.Ytaomjndfjmfelaa.CmpL
/-- Where a word stands among entries, or would. -/
def idx (l : List En) (t : ByteArray) : Nat := (l.takeWhile (fun e => ltS e.f0 t)).length
theorem idx_at (t : ByteArray) : ∀ (l : List En) (k : Nat), k ≤ l.length → (∀ j (h : j < l.length), j < k → ltS l[j].f0 t = true) → (∀ h : k < l.length, ltS l[k].f0 t = false) → idx l t = k
 | [], k, hk, _, _ => by
  have : k = 0 := by simpa using hk
  subst this
  rfl
 | a :: l, 0, _, _, h2 => by
  have h : ltS a.f0 t = false := h2 (by simp)
  unfold idx
  rw [List.takeWhile_cons, if_neg (by rw [h]; decide)]
  rfl
 | a :: l, k + 1, hk, h1, h2 => by
  have h : ltS a.f0 t = true := h1 0 (by simp) (by omega)
  have ih := idx_at t l k (by simpa using hk) (fun j hj hjk => h1 (j + 1) (by simpa using hj) (by omega)) (fun hj => h2 (by simpa using hj))
  unfold idx at ih ⊢
  rw [List.takeWhile_cons, if_pos h, List.length_cons, ih]
theorem new_size (w : World) (o : Obj) : (w.alloc o).heap.size = w.heap.size + 1 := by
 show (w.heap.push o).size = _
 simp
def bump (ps : List Po) (i : Int) : List Po := if (ps.getD (ps.length - 1) ⟨0, 0⟩).f0 = i then ps.set (ps.length - 1) ⟨(ps.getD (ps.length - 1) ⟨0, 0⟩).f0, wrap64 ((ps.getD (ps.length - 1) ⟨0, 0⟩).f1 + 1)⟩ else ps ++ [⟨i, 1⟩]
def cnt (l : List En) (t : ByteArray) (i : Int) : List En := if idx l t < l.length ∧ (l.getD (idx l t) ⟨t, []⟩).f0 = t then l.set (idx l t) ⟨t, bump (l.getD (idx l t) ⟨t, []⟩).f1 i⟩ else l.take (idx l t) ++ ⟨t, [⟨i, 1⟩]⟩ :: l.drop (idx l t)
theorem below_of {b0 : Nat} {w0 A B : World} (h1 : Below b0 w0 A) (h2 : Below b0 w0 B) (hs : A.heap.size ≤ B.heap.size) (hk : ∀ k, k < A.heap.size → B.heap[k]? = A.heap[k]?) : Below A.heap.size A B :=
 ⟨h2.os.trans h1.os.symm, h2.tape.trans h1.tape.symm, h2.output.trans h1.output.symm, hs, hk⟩
abbrev nilV : Value := .slice none 0 0
theorem nil_own (k : Nat) : some k ≠ nilV.ownBlock := by simp [Value.ownBlock]
theorem v_new {u v : Value} {n m : Nat} (h : v.ownBlock = u.ownBlock ∨ ∃ b, v.ownBlock = some b ∧ n ≤ b) (hu : ∀ q, u.ownBlock = some q → m ≤ q) (hmn : m ≤ n) : ∀ q, v.ownBlock = some q → m ≤ q := by
 intro q hq
 rcases h with h | ⟨b, hb, hn⟩
 ·exact hu q (h ▸ hq)
 ·rw [hb] at hq
  injection hq with hq
  omega
theorem new_w2 {b : Nat} {w0 w w1 w2 : World} {v1 : Value} {O : Obj} (hB : Below b w0 w) (hB2 : Below b w0 w2) (hg1 : w.grownBy w1 nilV.ownBlock) (hat1 : v1.ownBlock = nilV.ownBlock ∨ ∃ b, v1.ownBlock = some b ∧ w.heap.size ≤ b) (hg2 : (w1.alloc O).grownBy w2 v1.ownBlock) : Below w.heap.size w w2 := by
 have h1 := v_new hat1 (fun q hq => absurd hq.symm (nil_own q)) (Nat.le_refl _)
 have hs1 := hg1.size
 have hs2 := hg2.size
 rw [new_size] at hs2
 refine below_of hB hB2 (by omega) (fun k hk => ?_)
 have e1 := hg1.block k hk (nil_own k)
 have e2 := hg2.block k (by rw [new_size]; omega) (fun e => by have := h1 k e.symm; omega)
 rw [e2, ← e1]
 exact (below_alloc (Below.refl w1.heap.size w1) O).block k (by omega)
theorem H_cell2 {α : Type} {d : Kd α} {e g n cap i : Nat} {w : World} {base : Nat} {ok oki : Nat → Prop} {xs : List α} {c : List Value} (h : Kd.H d e w base ok (.slice (some ⟨g, 0, none⟩) n cap) xs (i : Int) oki c) (hi : i < n) (hs : d.sz = 2) (j : Nat) (u : Value) (hu : c[j]? = some u) : w.cell? ⟨g, i * 2 + j, none⟩ = some u ∧ w.frozen? ⟨g, i * 2 + j, none⟩ = false := by
 obtain ⟨rows, hl, hraw, hcl, _, hcc, _⟩ := Kd.H_raw h (by omega) (by omega)
 have h1 := hcc j u hu
 rw [Int.toNat_natCast, hs] at h1
 obtain ⟨_, _, _, _, hfr⟩ := Kd.R_elem hraw [] (i : Int) (by omega) (by omega)
 have h2 := hfr j
 rw [Int.toNat_natCast] at h2
 have e : i * (Kd.raw d.sz).sz + j = i * 2 + j := by
  show i * d.sz + j = i * 2 + j
  rw [hs]
 rw [e] at h2
 exact ⟨h1, h2⟩
theorem H_put2 {α : Type} {d : Kd α} {e g n cap i : Nat} {w : World} {base : Nat} {ok oki : Nat → Prop} {xs : List α} {a b : Value} (h : Kd.H d e w base ok (.slice (some ⟨g, 0, none⟩) n cap) xs (i : Int) oki [a, b]) (hi : i < n) (hs : d.sz = 2) (v : Value) (hv : v.oneCell' = true) :
  Kd.H d e (w.setCell ⟨g, i * 2 + 1, none⟩ v) base ok (.slice (some ⟨g, 0, none⟩) n cap) xs (i : Int) oki [a, v] ∧ w.grownBy (w.setCell ⟨g, i * 2 + 1, none⟩ v) (some g) := by
 have h1 := Kd.H_seg (seg := [v]) (j := 1) h (by omega) (by omega) (by rw [hs]; exact Nat.le_refl _) (fun q hq => by rw [List.mem_singleton.1 hq]; exact hv)
 rw [Int.toNat_natCast, hs] at h1
 exact h1
theorem H_ne {α : Type} {d : Kd α} {e g n cap : Nat} {i : Int} {w : World} {base : Nat} {ok oki : Nat → Prop} {xs : List α} {c : List Value} (h : Kd.H d e w base ok (.slice (some ⟨g, 0, none⟩) n cap) xs i oki c) : ∀ k, oki k → k ≠ g := by
 intro k hk he
 subst he
 obtain ⟨_, f, hR⟩ := h
 exact (hR.1 k (by simp [Value.ownBlock])).2 hk
/-- A row with one more, made anew. -/
theorem new_done (P0 : Nat → Prop) (l : List En) (t : ByteArray) (i : Int) (w0 w w1 w2 w3 : World) (k : Nat) (rows : List (List Value)) (okj : Nat → Nat → Prop) (v1 v2 v3 : Value) (hk : k ≤ l.length) (hB : Below w0.heap.size w0 w) (hown : Own k102 w w0.heap.size okj l rows) (hok : ∀ j q, okj j q → P0 q ∧ q < w.heap.size)
  (ho1 : (Kd.raw 2).R 102 w1 w0.heap.size (fun _ => True) v1 ([] ++ rows.take k)) (hg1 : w.grownBy w1 nilV.ownBlock) (hat1 : v1.ownBlock = nilV.ownBlock ∨ ∃ b, v1.ownBlock = some b ∧ w.heap.size ≤ b) (hB1 : Below w0.heap.size w0 w1)
  (hg2 : (w1.alloc (.cells #[.int .i64 i, .int .i64 1] 56)).grownBy w2 v1.ownBlock) (hat2 : v2.ownBlock = v1.ownBlock ∨ ∃ b, v2.ownBlock = some b ∧ (w1.alloc (.cells #[.int .i64 i, .int .i64 1] 56)).heap.size ≤ b) (ho2 : (Kd.raw 2).R 102 w2 w0.heap.size (fun _ => True) v2 (([] ++ rows.take k) ++ [[.string t, .slice (some ⟨w1.heap.size, 0, none⟩) 1 1]]))
  (hg3 : w2.grownBy w3 v2.ownBlock) (hat3 : v3.ownBlock = v2.ownBlock ∨ ∃ b, v3.ownBlock = some b ∧ w2.heap.size ≤ b) (ho3 : (Kd.raw 2).R 102 w3 w0.heap.size (fun _ => True) v3 ((([] ++ rows.take k) ++ [[.string t, .slice (some ⟨w1.heap.size, 0, none⟩) 1 1]]) ++ rows.drop k)) (hB3 : Below w0.heap.size w0 w3) :
  Kd.S k102 102 w3 w0.heap.size (fun q => P0 q ∨ w.heap.size ≤ q) v3 (l.take k ++ ⟨t, [⟨i, 1⟩]⟩ :: l.drop k) ∧ Kept w w3 P0 := by
 have n1 := v_new hat1 (fun q hq => absurd hq.symm (nil_own q)) (Nat.le_refl _)
 have hs1 := hg1.size
 have hs2 := hg2.size
 have hs3 := hg3.size
 rw [new_size] at hs2 hat2
 have n2 := v_new hat2 n1 (by omega)
 have n3 := v_new hat3 n2 (by omega)
 have l1 := Kd.R_lt ho1
 have d1 : ∀ q, v1.ownBlock = some q → q ≠ w1.heap.size := fun q hq => by have := l1 q hq; omega
 have d2 : ∀ q, v2.ownBlock = some q → q ≠ w1.heap.size := fun q hq => by
  rcases hat2 with h | ⟨b, hb, hn⟩
  ·exact d1 q (h ▸ hq)
  ·rw [hb] at hq
   injection hq with hq
   omega
 have d3 : ∀ q, v3.ownBlock = some q → q ≠ w1.heap.size := fun q hq => by
  rcases hat3 with h | ⟨b, hb, hn⟩
  ·exact d2 q (h ▸ hq)
  ·rw [hb] at hq
   injection hq with hq
   omega
 have same : ∀ q, q < w.heap.size → w3.heap[q]? = w.heap[q]? := fun q hq => by
  have e1 := hg1.block q hq (nil_own q)
  have e2 := hg2.block q (by rw [new_size]; omega) (fun e => by have := n1 q e.symm; omega)
  have e3 := hg3.block q (by omega) (fun e => by have := n2 q e.symm; omega)
  rw [e3, e2, ← e1]
  exact (below_alloc (Below.refl w1.heap.size w1) _).block q (by omega)
 have lit : w3.heap[w1.heap.size]? = some (.cells #[.int .i64 i, .int .i64 1] 56 (0, 0)) := by
  have e2 := hg2.block w1.heap.size (by rw [new_size]; omega) (fun e => d1 _ e.symm rfl)
  have e3 := hg3.block w1.heap.size (by omega) (fun e => d2 _ e.symm rfl)
  rw [e3, e2]
  show (w1.heap.push _)[w1.heap.size]? = _
  simp
 have hx : Kd.M k102 w3 w0.heap.size (fun q => q = w1.heap.size) (⟨t, [⟨i, 1⟩]⟩ : En) [.string t, .slice (some ⟨w1.heap.size, 0, none⟩) 1 1] := by
  refine k102_mkM _ _ _ (⟨t, [⟨i, 1⟩]⟩ : En) ⟨fun q hq => ?_, [.int .i64 i, .int .i64 1], ⟨rfl, .inr ⟨w1.heap.size, 1, _, rfl, hB1.size, lit, Nat.le_refl _, by simp [maxLen], rfl, rfl⟩⟩, ?_⟩
  ·have : w1.heap.size = q := by simpa [Value.ownBlock] using hq
   exact this.symm
  ·have := flatP_reps w3 w0.heap.size (fun k_ => k_ = w1.heap.size ∧ some k_ ≠ (Value.slice (some ⟨w1.heap.size, 0, none⟩) 1 1).ownBlock) ([⟨i, 1⟩] : List Po)
   exact this
 have hO3 := (hown.move (w1 := w3) (fun j q hq hlt => same q hlt)).insert k hk hx (fun j q hq e => by have := (hok j q hq).2; omega)
 refine ⟨S_close (okv := fun _ => True) (rows := rows.take k ++ [.string t, .slice (some ⟨w1.heap.size, 0, none⟩) 1 1] :: rows.drop k) (by have h := ho3; rw [List.nil_append, List.append_assoc] at h; exact h) hO3 (fun j q hq => ?_) (fun q hq => .inr (n3 q hq)), by omega, fun q hq _ => same q hq⟩
 by_cases h1 : j < k
 ·simp only [if_pos h1] at hq
  have h2 := hok j q hq
  exact ⟨.inl h2.1, fun e => by have := n3 q e.symm; omega⟩
 ·simp only [if_neg h1] at hq
  by_cases h2 : j = k
  ·rw [if_pos h2] at hq
   exact ⟨.inr (by omega), fun e => d3 q e.symm hq⟩
  ·rw [if_neg h2] at hq
   have h3 := hok (j - 1) q hq
   exact ⟨.inl h3.1, fun e => by have := n3 q e.symm; omega⟩
set_option maxRecDepth 100000 in
set_option maxHeartbeats 4000000 in
theorem count_calls (P0 : Nat → Prop) (u : Value) (l : List En) (t : ByteArray) (i : Int) (w0 w : World) (hB : Below w0.heap.size w0 w) (ho : Kd.S k102 102 w w0.heap.size P0 u l) (hl : l.length ≤ 1048575) (hne : ∀ e ∈ l, 0 < e.f1.length ∧ e.f1.length ≤ 1048575) :
  Calls Try.prog 80 #[u, .string t, .int .i64 i] w fun e w' => ∃ v, e = .returned v ∧ Kd.S k102 102 w' w0.heap.size (fun k => P0 k ∨ w.heap.size ≤ k) v (cnt l t i) ∧ Below w0.heap.size w0 w' ∧ Kept w w' P0 := by
 obtain ⟨A, c, e1⟩ := Kd.S_slice ho
 subst e1
 have hrd := Kd.S_reads' ho
 obtain ⟨rows, okj, hraw, hown, hok0, hov⟩ := S_open (Kd.S_bound ho)
 have hok : ∀ j q, okj j q → P0 q ∧ q < w.heap.size := fun j q hq => ⟨(hok0 j q hq).1.1, (hok0 j q hq).1.2.2.1⟩
 have HC := aM hrd.2.2
 have HCL := aM hrd.2.1
 have HCR := aM (show Kd.C (Kd.raw 2) w A rows.length rows from (Kd.R_reads' hraw).2.2)
 have HRL := aM hown.len
 have HO := aM ho
 have HB := aM hB
 have HOWN := aM hown
 have HOK := aM hok
 have HOV := aM hov
 have HLL := aM hl
 have HNE := aM hne
 obtain ⟨ti, hi0, _, hsz0, _⟩ := info_parts info102
 have HI := aM hi0
 have HISZ := aM hsz0
 have hll : (l.length : Int) ≤ 1048575 := by omega
 clear hB ho hl hne hrd hraw hown hok hok0 hov hi0 hsz0
 go_enter Try.func80, Try.ntmps80
 go_wp2
 go_loopg [7] l.length (fun kq v7 w' => ∃ k : Nat, v7 = .int .i64 (k : Int) ∧ k ≤ l.length ∧ kq = l.length - k ∧ w' = w ∧ Aside0 (∀ j (h : j < l.length), j < k → ltS l[j].f0 t = true))
 case atStart => exact ⟨0, rfl, Nat.zero_le _, rfl, rfl, ⟨fun j _ h => absurd h (Nat.not_lt_zero _)⟩⟩
 case round =>
  obtain ⟨k, rfl, hk, hkq, hww, HF⟩ := hrel
  obtain rfl : w = wr := hww.symm
  clear hww
  have HKQ := aM hkq
  clear hkq
  by_cases hlt : k < l.length
  ·obtain ⟨ad, A1, c1, ead, hs0, hs1, hc1, hC1⟩ := at_T102 HC.out (k : Int) (by omega) (by omega)
   have HLT := aM hlt
   have hrd : rd_T102 l (k : Int) = l[k]'HLT.out := rd_en l k hlt
   rw [Int.toNat_natCast, hrd] at hs0 hs1
   rw [hrd] at hc1 hC1
   obtain ⟨x, hx⟩ : ∃ x, x = l[k]'HLT.out := ⟨_, rfl⟩
   rw [← hx] at hs0 hs1 hc1 hC1
   have HX := aM hx
   have hlt2 : (k : Int) < (l.length : Int) := by omega
   by_cases hle : ltS x.f0 t = true
   ·have hle2 : Op.bytesLess x.f0.toList t.toList = true := hle
    subst ead
    clear hrd hc1 hC1 hlt hk hle hx
    go_wp2
    go_roundg (l.length - (k + 1))
    case measure => have := HKQ.out; have := HLT.out; omega
    case rel =>
     refine ⟨k + 1, by go_num, HLT.out, rfl, rfl, ⟨fun j hj hjk => ?_⟩⟩
     by_cases h : j < k
     ·exact HF.out j hj h
     ·obtain rfl : j = k := by omega
      rw [← HX.out]
      exact hle2
   ·have hle2 : Op.bytesLess x.f0.toList t.toList = false := by rw [← Bool.not_eq_true]; exact hle
    have HIX : Aside0 (idx l t = k) := ⟨idx_at t l k (Nat.le_of_lt hlt) HF.out (fun _ => by rw [← HX.out]; exact hle2)⟩
    have hkl : ((k : Int) == (l.length : Int)) = false := by rw [beq_eq_false_iff_ne]; omega
    by_cases heq : x.f0 = t
    ·have hne1 : (x.f0.toList == t.toList) = true := by rw [heq]; exact beq_self_eq_true _
     have hne2 : (x.f0.toList != t.toList) = false := by rw [bne_eq_false_iff_eq, heq]
     have HNX := aM (HNE.out x (by rw [HX.out]; exact List.getElem_mem _))
     have HXN : Aside0 (x.f1.length ≤ 1048575) := ⟨HNX.out.2⟩
     obtain ⟨g, cap, hu, hgb, hgl, _⟩ := Kd.S_form HO.out (by omega)
     injection hu with hA _ hcap
     subst hA
     subst hcap
     injection ead with ead
     subst ead
     obtain ⟨oki, ce, hcl, hM, hcc, hok2, hH⟩ := Kd.S_lend HO.out z102 (k : Int) (by omega) (by omega)
     rw [Int.toNat_natCast, show l.getD k z102 = x by rw [HX.out, List.getD_eq_getElem?_getD, List.getElem?_eq_getElem HLT.out]; rfl] at hM
     obtain ⟨v1, hv1, hV1⟩ := k102_openM hM
     subst hv1
     obtain ⟨g2, c2, hvv, hg2b, hg2l, _⟩ := Kd.R_form hV1 HNX.out.1
     subst hvv
     obtain ⟨m, hm⟩ : ∃ m, x.f1.length = m + 1 := ⟨x.f1.length - 1, by have := HNX.out.1; omega⟩
     rw [hm] at hV1 hH hcc
     have HM := aM hm
     obtain ⟨OKI, hOKI⟩ : ∃ OKI : Nat → Prop, OKI = (fun q => oki q ∨ (P0 q ∨ w.heap.size ≤ q) ∧ w.heap.size ≤ q) := ⟨_, rfl⟩
     have HH : Aside0 (Kd.H k102 102 w w0.heap.size (fun q => P0 q ∨ w.heap.size ≤ q) (.slice (some ⟨g, 0, none⟩) l.length c) l (k : Int) OKI [.string x.f0, .slice (some ⟨g2, 0, none⟩) (m + 1) c2]) := ⟨by rw [hOKI]; exact Kd.H_widen (Kd.H_mono hH (fun q hq => .inl hq))⟩
     have HV : Aside0 (Kd.R k56 56 w w0.heap.size OKI (.slice (some ⟨g2, 0, none⟩) (m + 1) c2) x.f1) := ⟨Kd.R_mono hV1 (fun q hq => by rw [hOKI]; exact .inl hq)⟩
     have HFR : Aside0 (∀ q, w.heap.size ≤ q → OKI q) := ⟨fun q hq => by rw [hOKI]; exact .inr ⟨.inr hq, hq⟩⟩
     have HP2 : Aside0 (P0 g2) := ⟨(hok2 g2 (hV1.1 g2 (by simp [Value.ownBlock]))).1⟩
     have HPG : Aside0 (P0 g) := ⟨(Kd.S_R HO.out).1 g (by simp [Value.ownBlock])⟩
     have HGL : Aside0 (g < w.heap.size ∧ g2 < w.heap.size ∧ w0.heap.size ≤ g ∧ w0.heap.size ≤ g2) := ⟨⟨hgl, hg2l, hgb, hg2b⟩⟩
     obtain ⟨ce2, hcl2, hM2, hcc2, hfr2⟩ := Kd.R_elem hV1 z56 (m : Int) (by omega) (by omega)
     have hlm : m < x.f1.length := by omega
     have HLM := aM hlm
     rw [Int.toNat_natCast, show x.f1.getD m z56 = x.f1[m]'HLM.out by rw [List.getD_eq_getElem?_getD, List.getElem?_eq_getElem HLM.out]; rfl] at hM2
     obtain ⟨y, hy⟩ : ∃ y, y = x.f1[m]'HLM.out := ⟨_, rfl⟩
     rw [← hy] at hM2
     have HY := aM hy
     have hce2 := k56_openM hM2
     subst hce2
     rw [Int.toNat_natCast] at hcc2 hfr2
     have hp0 : w.cell? ⟨g2, m * 2, none⟩ = some (.int .i64 y.f0) := hcc2 0 _ rfl
     have hp1 : w.cell? ⟨g2, m * 2 + 1, none⟩ = some (.int .i64 y.f1) := hcc2 1 _ rfl
     have hfp : w.frozen? ⟨g2, m * 2 + 1, none⟩ = false := hfr2 1
     have HCC := aM hcc2
     have hq0 : w.cell? ⟨g, k * 2, none⟩ = some (.string x.f0) := (H_cell2 HH.out HLT.out rfl 0 _ rfl).1
     have hq1 : w.cell? ⟨g, k * 2 + 1, none⟩ = some (.slice (some ⟨g2, 0, none⟩) (m + 1) c2) := (H_cell2 HH.out HLT.out rfl 1 _ rfl).1
     have HSET : Aside0 (∀ ps, cnt l t i = l.set k ⟨x.f0, ps⟩ ↔ cnt l t i = l.set k ⟨t, ps⟩) := ⟨fun ps => by rw [heq]⟩
     have HCN : Aside0 (cnt l t i = l.set k ⟨x.f0, bump x.f1 i⟩) := ⟨by
      have e : l.getD k ⟨t, []⟩ = x := by rw [HX.out, List.getD_eq_getElem?_getD, List.getElem?_eq_getElem HLT.out]; rfl
      unfold cnt
      rw [HIX.out, e, if_pos ⟨HLT.out, heq⟩, heq]⟩
     have HBU : Aside0 (bump x.f1 i = if y.f0 = i then x.f1.set m ⟨y.f0, wrap64 (y.f1 + 1)⟩ else x.f1 ++ [⟨i, 1⟩]) := ⟨by
      have e : x.f1.getD (x.f1.length - 1) ⟨0, 0⟩ = y := by rw [HY.out, show x.f1.length - 1 = m by omega, List.getD_eq_getElem?_getD, List.getElem?_eq_getElem HLM.out]; rfl
      unfold bump
      rw [e, show x.f1.length - 1 = m by omega]⟩
     have hm3 : (m : Int) < ((m + 1 : Nat) : Int) := Int.ofNat_lt.2 (Nat.lt_succ_self m)
     have hm4 : (m : Int) ≤ 1048575 := by have h1 := HXN.out; have h2 := HLM.out; clear hm3; omega
     have hmz : (0 : Int) ≤ (m : Int) := Int.natCast_nonneg m
     have hw64 : wrap64 (m : Int) = (m : Int) := by rw [w64 (by omega) (by omega)]
     by_cases hyi : y.f0 = i
     ·have hyb : (y.f0 == i) = true := by rw [hyi]; exact beq_self_eq_true _
      have hseg := Kd.R_seg (d := k56) (okp := fun _ => False) HV.out (m : Int) hmz hm3 (c := [.int .i64 y.f0, .int .i64 y.f1]) (seg := [.int .i64 (wrap64 (y.f1 + 1))]) (j := 1) rfl (fun j u hu => by rw [Int.toNat_natCast]; exact HCC.out j u hu) (Nat.le_refl _) (x' := (⟨y.f0, wrap64 (y.f1 + 1)⟩ : Po)) (k56_mkM _ _ _ _) (fun _ h => h.elim)
      rw [Int.toNat_natCast] at hseg
      have HS1 := aM (show Kd.R k56 56 (w.setCell ⟨g2, m * 2 + 1, none⟩ (.int .i64 (wrap64 (y.f1 + 1)))) w0.heap.size OKI (.slice (some ⟨g2, 0, none⟩) (m + 1) c2) (x.f1.set m ⟨y.f0, wrap64 (y.f1 + 1)⟩) from hseg.1)
      have HG1 := aM (show w.grownBy (w.setCell ⟨g2, m * 2 + 1, none⟩ (.int .i64 (wrap64 (y.f1 + 1)))) (some g2) from hseg.2)
      have HH1 := aM (Kd.H_grown HH.out HG1.out (fun q hq => HV.out.1 q (by injection hq with hq; rw [← hq]; simp [Value.ownBlock])))
      have HB1 := aM (show Below w0.heap.size w0 (w.setCell ⟨g2, m * 2 + 1, none⟩ (.int .i64 (wrap64 (y.f1 + 1)))) from below_set HB.out HGL.out.2.2.2)
      rw [if_pos hyi] at HBU
      clear hseg hgb hgl hcl hM hcc hok2 hH hV1 hg2b hg2l hOKI hcl2 hM2 hcc2 hfr2 hlm hy hm3 hyi heq hle hlt hk hrd hc1 hC1 hx hs0 hs1
      go_wp2
      go_ret
      have hS := Kd.H_back HH1.out (x' := (⟨x.f0, bump x.f1 i⟩ : En)) (okp := OKI) (k102_mkM _ _ _ (⟨x.f0, bump x.f1 i⟩ : En) (by rw [HBU.out]; exact HS1.out)) (fun _ hq => hq)
      rw [Int.toNat_natCast, ← HCN.out] at hS
      exact ⟨_, rfl, hS, HB1.out, HG1.out.size, fun q hq hn => HG1.out.block q hq (fun e => hn (by injection e with e; rw [e]; exact HP2.out))⟩
     ·have hyb : (y.f0 == i) = false := by rw [beq_eq_false_iff_ne]; exact hyi
      rw [if_neg hyi] at HBU
      clear hgb hgl hcl hM hcc hok2 hH hV1 hg2b hg2l hOKI hcl2 hM2 hcc2 hfr2 hlm hy hm3 hyi heq hle hlt hk hrd hc1 hC1 hx hs0 hs1
      go_wp2_with (((with_reducible refine gate_builtin (b := .append) (xs := #[.tmp 93, .tmp 96]) rfl ?_); at_builtin; go_loud (refine Kd.R_append k56 (w0 := w0) (W := w) w0.heap.size rfl (.tmp 93) (.tmp 96) 52 56 (.agg #[.int .i64 0, .int .i64 0]) 16 rfl Try.underlying52 info56 rfl (by decide) (by omega) (.slice (some ⟨g2, 0, none⟩) (m + 1) c2) x.f1 (⟨i, 1⟩ : Po) [.int .i64 i, .int .i64 1] OKI (fun _ => False) rfl rfl (k56_mkM _ _ _ _) (fun _ h => h.elim) HFR.out HV.out HB.out HB.out.size (by have := HXN.out; omega) ?_; intro v4 w4 ho4 hb4 hg4 hat4; obtain ⟨A4, c4, e4⟩ := Kd.R_slice ho4; obtain ⟨n4, hn4⟩ : ∃ n4, n4 = (x.f1 ++ [(⟨i, 1⟩ : Po)]).length := ⟨_, rfl⟩; rw [← hn4] at e4; subst e4; clear hn4; have HO4 := aM ho4; have HB4 := aM hb4; have HG4 := aM hg4; clear ho4 hb4 hg4 hat4; have HH4 := aM (Kd.H_grown HH.out HG4.out (fun q hq => HV.out.1 q hq)); obtain ⟨hcl4, hfr4⟩ := H_cell2 HH4.out HLT.out rfl 1 _ rfl)))
      go_ret
      obtain ⟨hh5, hg5⟩ := H_put2 HH4.out HLT.out rfl (.slice A4 n4 c4) rfl
      have hv5 := Kd.R_far (p := ⟨g, k * 2 + 1, none⟩) HO4.out (H_ne HH4.out) (.slice A4 n4 c4)
      have hS := Kd.H_back hh5 (x' := (⟨x.f0, bump x.f1 i⟩ : En)) (okp := OKI) (k102_mkM _ _ _ (⟨x.f0, bump x.f1 i⟩ : En) (by rw [HBU.out]; exact hv5)) (fun _ hq => hq)
      rw [Int.toNat_natCast, ← HCN.out] at hS
      have hb5 : Below w0.heap.size w0 (w4.setCell ⟨g, k * 2 + 1, none⟩ (.slice A4 n4 c4)) := below_set HB4.out HGL.out.2.2.1
      refine ⟨_, rfl, hS, hb5, Nat.le_trans HG4.out.size hg5.size, fun q hq hn => ?_⟩
      have e1 := HG4.out.block q hq (fun e => hn (by have : q = g2 := (by simpa [Value.ownBlock] using e); rw [this]; exact HP2.out))
      have e2 := hg5.block q (Nat.lt_of_lt_of_le hq HG4.out.size) (fun e => hn (by injection e with e; rw [e]; exact HPG.out))
      rw [e2, e1]
    ·have hne1 : (x.f0.toList == t.toList) = false := by rw [beq_eq_false_iff_ne]; exact fun h => heq (Byt.toList_inj h)
     have hne2 : (x.f0.toList != t.toList) = true := by rw [bne_iff_ne]; exact fun h => heq (Byt.toList_inj h)
     have hkle : k ≤ l.length := Nat.le_of_lt hlt
     have HKL := aM hkle
     have HNO : Aside0 (¬ (k < l.length ∧ (l.getD k ⟨t, []⟩).f0 = t)) := ⟨fun h => heq (by rw [HX.out]; have h2 := h.2; rw [List.getD_eq_getElem?_getD, List.getElem?_eq_getElem HLT.out] at h2; exact h2)⟩
     subst ead
     clear hrd hc1 hC1 hle hx
     have hcut1 := cut_to (P := Try.prog) 31 102 .i64 Try.underlying31 HI.out (some ad) l.length c ((k : Nat) : Int) (by omega) (by omega) HCL.out
     rw [Int.toNat_natCast] at hcut1
     have hcut2 := cut_from (P := Try.prog) 31 102 .i64 Try.underlying31 HI.out 2 HISZ.out (some ad) l.length c ((k : Nat) : Int) (by omega) (by omega)
     rw [Int.toNat_natCast] at hcut2
     obtain ⟨A3, hA3⟩ : ∃ A3, A3 = (if c = k then (some ad) else Option.map (·.add (k * 2)) (some ad)) := ⟨_, rfl⟩
     obtain ⟨c3, hc3⟩ : ∃ c3, c3 = c - k := ⟨_, rfl⟩
     rw [← hA3, ← hc3] at hcut2
     have HT1 : Aside0 (Kd.C (Kd.raw 2) w (some ad) k (rows.take k)) := ⟨by have h1 := Kd.C_take (m := k) HCR.out (by rw [HRL.out]; omega); rw [List.length_take, HRL.out, Nat.min_eq_left (by omega)] at h1; exact h1⟩
     have HT3 : Aside0 (Kd.C (Kd.raw 2) w A3 (l.length - k) (rows.drop k)) := ⟨by have h1 := Kd.C_drop (m := k) (c := c) HCR.out (by rw [HRL.out]; omega) (by rw [HRL.out]; exact HCL.out); rw [List.length_drop, HRL.out] at h1; rw [hA3]; exact h1⟩
     clear hA3 hc3
     go_upto_region 7 with (((with_reducible refine gate_builtin (b := .append) (xs := #[.tmp 38, .tmp 41]) rfl ?_); at_builtin; go_loud (refine Kd.R_append_rows (Kd.raw 2) (w0 := w0) w0.heap.size rfl (.tmp 38) (.tmp 41) 31 102 (.agg #[(.string ⟨#[]⟩), (.slice none 0 0)]) 40 rfl Try.underlying31 info102 rfl (by decide) (by omega) (.slice none 0 0) ([] : List (List Value)) (rows.take k) (some ad) k c (fun _ => True) (fun _ => False) rfl rfl (Kd.R_nil _ _ _ _ _) HT1.out (fun _ _ h => h) (fun _ h => h.elim) (fun _ _ => trivial) HB.out HB.out.size (by have := HLL.out; simp; omega) ?_; intro v1 w1 ho1 hb1 hg1 hat1; have HO1 := aM ho1; have HB1 := aM hb1; have HG1 := aM hg1; have HAT1 := aM hat1; clear ho1 hb1 hg1 hat1)))
     go_upto_region 8 with (((with_reducible refine gate_builtin (b := .append) (xs := #[.tmp 43, .tmp 49]) rfl ?_); at_builtin; go_loud (refine Kd.R_append (Kd.raw 2) (w0 := w0) (W := w1.alloc (.cells #[.int .i64 i, .int .i64 1] 56)) w0.heap.size rfl (.tmp 43) (.tmp 49) 31 102 (.agg #[(.string ⟨#[]⟩), (.slice none 0 0)]) 40 rfl Try.underlying31 info102 rfl (by decide) (by omega) v1 ([] ++ rows.take k) [.string t, .slice (some ⟨w1.heap.size, 0, none⟩) 1 1] [.string t, .slice (some ⟨w1.heap.size, 0, none⟩) 1 1] (fun _ => True) (fun _ => False) rfl (by rw [new_size]; rfl) ⟨rfl, rfl, by simp [Value.oneCell']⟩ (fun _ h => h.elim) (fun _ _ => trivial) (Kd.R_alloc HO1.out _) (below_alloc HB1.out _) (below_alloc HB1.out _).size (by have := HLL.out; simp; omega) ?_; intro v2 w2 ho2 hb2 hg2 hat2; have HO2 := aM ho2; have HB2 := aM hb2; have HG2 := aM hg2; have HAT2 := aM hat2; clear ho2 hb2 hg2 hat2)))
     have HBW2 := aM (new_w2 HB.out HB2.out HG1.out HAT1.out HG2.out)
     go_wp2_with (((with_reducible refine gate_builtin (b := .append) (xs := #[.tmp 51, .tmp 54]) rfl ?_); at_builtin; go_loud (refine Kd.R_append_rows (Kd.raw 2) (w0 := w0) w0.heap.size rfl (.tmp 51) (.tmp 54) 31 102 (.agg #[(.string ⟨#[]⟩), (.slice none 0 0)]) 40 rfl Try.underlying31 info102 rfl (by decide) (by omega) v2 (([] ++ rows.take k) ++ [[.string t, .slice (some ⟨w1.heap.size, 0, none⟩) 1 1]]) (rows.drop k) A3 (l.length - k) c3 (fun _ => True) (fun _ => False) rfl rfl HO2.out (Kd.C_below HT3.out HBW2.out) (fun _ _ h => h) (fun _ h => h.elim) (fun _ _ => trivial) HB2.out HB2.out.size (by have := HLL.out; have := HRL.out; simp; omega) ?_; intro v3 w3 ho3 hb3 hg3 hat3; have HO3 := aM ho3; have HB3 := aM hb3; have HG3 := aM hg3; have HAT3 := aM hat3; clear ho3 hb3 hg3 hat3)))
     go_ret
     obtain ⟨hS, hK⟩ := new_done P0 l t i w0 w w1 w2 w3 k rows okj v1 v2 v3 HKL.out HB.out HOWN.out HOK.out HO1.out HG1.out HAT1.out HB1.out HG2.out HAT2.out HO2.out HG3.out HAT3.out HO3.out HB3.out
     refine ⟨_, rfl, ?_, HB3.out, hK⟩
     have hcn : cnt l t i = l.take k ++ ⟨t, [⟨i, 1⟩]⟩ :: l.drop k := by
      unfold cnt
      rw [HIX.out, if_neg HNO.out]
     rw [hcn]
     exact hS
  ·obtain rfl : k = l.length := by omega
   have HIX : Aside0 (idx l t = l.length) := ⟨idx_at t l l.length (Nat.le_refl _) HF.out (fun h => absurd h (Nat.lt_irrefl _))⟩
   have HKL : Aside0 (l.length ≤ l.length) := ⟨Nat.le_refl _⟩
   have HNO : Aside0 (¬ (l.length < l.length ∧ (l.getD l.length ⟨t, []⟩).f0 = t)) := ⟨fun h => Nat.lt_irrefl _ h.1⟩
   clear hk hlt
   have hcut1 := cut_to (P := Try.prog) 31 102 .i64 Try.underlying31 HI.out A l.length c ((l.length : Nat) : Int) (by omega) (by omega) HCL.out
   rw [Int.toNat_natCast] at hcut1
   have hcut2 := cut_from (P := Try.prog) 31 102 .i64 Try.underlying31 HI.out 2 HISZ.out A l.length c ((l.length : Nat) : Int) (by omega) (by omega)
   rw [Int.toNat_natCast] at hcut2
   obtain ⟨A3, hA3⟩ : ∃ A3, A3 = (if c = l.length then A else Option.map (·.add (l.length * 2)) A) := ⟨_, rfl⟩
   obtain ⟨c3, hc3⟩ : ∃ c3, c3 = c - l.length := ⟨_, rfl⟩
   rw [← hA3, ← hc3] at hcut2
   have HT1 : Aside0 (Kd.C (Kd.raw 2) w A l.length (rows.take l.length)) := ⟨by have h1 := Kd.C_take (m := l.length) HCR.out (by rw [HRL.out]; omega); rw [List.length_take, HRL.out, Nat.min_eq_left (by omega)] at h1; exact h1⟩
   have HT3 : Aside0 (Kd.C (Kd.raw 2) w A3 0 (rows.drop l.length)) := ⟨by have h1 := Kd.C_drop (m := l.length) (c := c) HCR.out (by rw [HRL.out]; omega) (by rw [HRL.out]; exact HCL.out); rw [List.length_drop, HRL.out, Nat.sub_self] at h1; rw [hA3]; exact h1⟩
   clear hA3 hc3
   go_upto_region 7 with (((with_reducible refine gate_builtin (b := .append) (xs := #[.tmp 38, .tmp 41]) rfl ?_); at_builtin; go_loud (refine Kd.R_append_rows (Kd.raw 2) (w0 := w0) w0.heap.size rfl (.tmp 38) (.tmp 41) 31 102 (.agg #[(.string ⟨#[]⟩), (.slice none 0 0)]) 40 rfl Try.underlying31 info102 rfl (by decide) (by omega) (.slice none 0 0) ([] : List (List Value)) (rows.take l.length) A l.length c (fun _ => True) (fun _ => False) rfl rfl (Kd.R_nil _ _ _ _ _) HT1.out (fun _ _ h => h) (fun _ h => h.elim) (fun _ _ => trivial) HB.out HB.out.size (by have := HLL.out; simp; omega) ?_; intro v1 w1 ho1 hb1 hg1 hat1; have HO1 := aM ho1; have HB1 := aM hb1; have HG1 := aM hg1; have HAT1 := aM hat1; clear ho1 hb1 hg1 hat1)))
   go_upto_region 8 with (((with_reducible refine gate_builtin (b := .append) (xs := #[.tmp 43, .tmp 49]) rfl ?_); at_builtin; go_loud (refine Kd.R_append (Kd.raw 2) (w0 := w0) (W := w1.alloc (.cells #[.int .i64 i, .int .i64 1] 56)) w0.heap.size rfl (.tmp 43) (.tmp 49) 31 102 (.agg #[(.string ⟨#[]⟩), (.slice none 0 0)]) 40 rfl Try.underlying31 info102 rfl (by decide) (by omega) v1 ([] ++ rows.take l.length) [.string t, .slice (some ⟨w1.heap.size, 0, none⟩) 1 1] [.string t, .slice (some ⟨w1.heap.size, 0, none⟩) 1 1] (fun _ => True) (fun _ => False) rfl (by rw [new_size]; rfl) ⟨rfl, rfl, by simp [Value.oneCell']⟩ (fun _ h => h.elim) (fun _ _ => trivial) (Kd.R_alloc HO1.out _) (below_alloc HB1.out _) (below_alloc HB1.out _).size (by have := HLL.out; simp; omega) ?_; intro v2 w2 ho2 hb2 hg2 hat2; have HO2 := aM ho2; have HB2 := aM hb2; have HG2 := aM hg2; have HAT2 := aM hat2; clear ho2 hb2 hg2 hat2)))
   have HBW2 := aM (new_w2 HB.out HB2.out HG1.out HAT1.out HG2.out)
   go_wp2_with (((with_reducible refine gate_builtin (b := .append) (xs := #[.tmp 51, .tmp 54]) rfl ?_); at_builtin; go_loud (refine Kd.R_append_rows (Kd.raw 2) (w0 := w0) w0.heap.size rfl (.tmp 51) (.tmp 54) 31 102 (.agg #[(.string ⟨#[]⟩), (.slice none 0 0)]) 40 rfl Try.underlying31 info102 rfl (by decide) (by omega) v2 (([] ++ rows.take l.length) ++ [[.string t, .slice (some ⟨w1.heap.size, 0, none⟩) 1 1]]) (rows.drop l.length) A3 0 c3 (fun _ => True) (fun _ => False) rfl rfl HO2.out (Kd.C_below HT3.out HBW2.out) (fun _ _ h => h) (fun _ h => h.elim) (fun _ _ => trivial) HB2.out HB2.out.size (by have := HLL.out; have := HRL.out; simp; omega) ?_; intro v3 w3 ho3 hb3 hg3 hat3; have HO3 := aM ho3; have HB3 := aM hb3; have HG3 := aM hg3; have HAT3 := aM hat3; clear ho3 hb3 hg3 hat3)))
   go_ret
   obtain ⟨hS, hK⟩ := new_done P0 l t i w0 w w1 w2 w3 l.length rows okj v1 v2 v3 HKL.out HB.out HOWN.out HOK.out HO1.out HG1.out HAT1.out HB1.out HG2.out HAT2.out HO2.out HG3.out HAT3.out HO3.out HB3.out
   refine ⟨_, rfl, ?_, HB3.out, hK⟩
   have hcn : cnt l t i = l.take l.length ++ ⟨t, [⟨i, 1⟩]⟩ :: l.drop l.length := by
    unfold cnt
    rw [HIX.out, if_neg HNO.out]
   rw [hcn]
   exact hS
/-- What lies beside such a row: by types. -/
theorem not_typed {W : World} {base g t : Nat} {cells : Array Value} {l : List Nat} (hb : W.heap[g]? = some (.cells cells t (0, 0))) (ht : ∀ q, q ∈ l → q ≠ t) : ¬ (True ∧ base ≤ g ∧ g < W.heap.size ∧ ∃ q, q ∈ l ∧ ∃ cells, W.heap[g]? = some (.cells cells q (0, 0))) := by
 rintro ⟨_, _, _, q, hq, c2, h2⟩
 rw [hb] at h2
 injection h2 with h2
 injection h2 with _ h2
 exact ht q hq h2.symm
theorem R_beside {α : Type} {d : Kd α} {e : Nat} {W W2 : World} {base b2 : Nat} {v : Value} {xs : List α} {l : List Nat} (h : d.R e W base (fun _ => True) v xs) (hk : Kept W W2 (fun k => True ∧ b2 ≤ k ∧ k < W.heap.size ∧ ∃ q, q ∈ l ∧ ∃ cells, W.heap[k]? = some (.cells cells q (0, 0)))) (ht : ∀ q, q ∈ e :: d.E → ∀ q', q' ∈ l → q' ≠ q) : d.R e W2 base (fun _ => True) v xs :=
 Kd.R_mono (Kd.R_kept (Kd.R_bound h) hk (fun k h1 h2 => by
  obtain ⟨_, _, _, q, hq, c1, hc1⟩ := h1
  exact not_typed hc1 (fun q' hq' => ht q hq q' hq') h2)) (fun _ _ => trivial)
end Go.Proofs.Ytaomjndfjmfelaa.Cou
end

section
namespace Go.Proofs.Ytaomjndfjmfelaa.Idx
set_option linter.unusedVariables false
set_option linter.unusedSimpArgs false
open Go.RowKit Go.Proofs.Ytaomjndfjmfelaa.PQ Go.Proofs.YtaomjndfjmfelaaW.PrintWords Go.Proofs.YtaomjndfjmfelaaW.PrintLast Go.Proofs.YtaomjndfjmfelaaW.PrintMore Go.Proofs.Ytaomjndfjmfelaa.Pre Go.Proofs.Ytaomjndfjmfelaa.EntW Go.Proofs.Ytaomjndfjmfelaa.Posts Go.Proofs.Ytaomjndfjmfelaa.GoodW Go.Proofs.Ytaomjndfjmfelaa.PostW Go.Proofs.Ytaomjndfjmfelaa.CmpL Go.Proofs.Ytaomjndfjmfelaa.WordsW Go.Proofs.Ytaomjndfjmfelaa.Cou
/-- How often a text is told of. -/
def tmP (ps : List Po) (j : Int) : Int := match ps.find? (fun p => decide (p.f0 = j)) with | some p => p.f1 | none => 0
def tm (l : List En) (t : ByteArray) (j : Int) : Int := tmP (posts l t) j
structure PsOK (i : Int) (ps : List Po) : Prop where
 rise : ps.Pairwise (fun a b => a.f0 < b.f0)
 each : ∀ p ∈ ps, 0 ≤ p.f0 ∧ p.f0 ≤ i ∧ 1 ≤ p.f1 ∧ p.f1 ≤ 100
theorem PsOK.next {i : Int} {ps : List Po} (h : PsOK i ps) : PsOK (i + 1) ps := ⟨h.rise, fun p hp => by have := h.each p hp; omega⟩
theorem ok_of (most : Int) : ∀ (ps : List Po) (last : Int), ps.Pairwise (fun a b => a.f0 < b.f0) → (∀ p ∈ ps, last < p.f0 ∧ p.f0 ≤ most ∧ 1 ≤ p.f1 ∧ p.f1 ≤ 100) → okFrom most last ps = true
 | [], _, _, _ => rfl
 | a :: ps, last, h1, h2 => by
  have h1 := List.pairwise_cons.1 h1
  simp only [okFrom, Bool.and_eq_true, decide_eq_true_eq]
  refine ⟨h2 a List.mem_cons_self, ok_of most ps a.f0 h1.2 (fun p hp => ?_)⟩
  have h3 := h2 p (List.mem_cons_of_mem _ hp)
  exact ⟨h1.1 p hp, h3.2⟩
theorem tmP_none {ps : List Po} {j : Int} (h : ∀ q ∈ ps, q.f0 ≠ j) : tmP ps j = 0 := by
 have : ps.find? (fun p => decide (p.f0 = j)) = none := by
  rw [List.find?_eq_none]
  intro x hx e
  exact h x hx (of_decide_eq_true e)
 unfold tmP
 rw [this]
theorem tmP_app {qs : List Po} {p : Po} {j : Int} (hq : ∀ q ∈ qs, q.f0 < p.f0) : tmP (qs ++ [p]) j = if p.f0 = j then p.f1 else tmP qs j := by
 unfold tmP
 rw [List.find?_append]
 by_cases e : p.f0 = j
 ·have : qs.find? (fun p => decide (p.f0 = j)) = none := by
   rw [List.find?_eq_none]
   intro x hx e2
   have := hq x hx
   have := of_decide_eq_true e2
   omega
  rw [this, if_pos e]
  have h2 : [p].find? (fun p => decide (p.f0 = j)) = some p := List.find?_cons_of_pos (decide_eq_true e)
  rw [h2]
  rfl
 ·have h2 : [p].find? (fun p => decide (p.f0 = j)) = none := by
   rw [List.find?_eq_none]
   intro x hx e2
   rw [List.mem_singleton.1 hx] at e2
   exact e (of_decide_eq_true e2)
  rw [h2, if_neg e, Option.or_none]
theorem last_of {α : Type} : ∀ {l : List α}, l ≠ [] → ∃ q p, l = q ++ [p]
 | [], h => absurd rfl h
 | a :: l, _ => ⟨(a :: l).dropLast, (a :: l).getLast (by simp), (List.dropLast_concat_getLast (by simp)).symm⟩
theorem bump_ok {i : Int} {ps : List Po} (h : PsOK i ps) (h0 : 0 ≤ i) (hne : ps ≠ []) (hlt : tmP ps i < 100) : PsOK i (bump ps i) ∧ bump ps i ≠ [] ∧ ∀ j, tmP (bump ps i) j = tmP ps j + if j = i then 1 else 0 := by
 obtain ⟨qs, p, rfl⟩ := last_of hne
 have hr := List.pairwise_append.1 h.rise
 have hq : ∀ q ∈ qs, q.f0 < p.f0 := fun q hq => hr.2.2 q hq p (by simp)
 have hp := h.each p (by simp)
 have e1 : (qs ++ [p]).getD ((qs ++ [p]).length - 1) ⟨0, 0⟩ = p := by
  rw [List.length_append, List.getD_eq_getElem?_getD]
  simp
 have e2 : ∀ x : Po, (qs ++ [p]).set ((qs ++ [p]).length - 1) x = qs ++ [x] := fun x => by
  rw [List.length_append, List.set_append_right _ _ (by simp)]
  simp
 unfold bump
 rw [e1, e2]
 by_cases hpi : p.f0 = i
 ·rw [if_pos hpi]
  rw [tmP_app hq, if_pos hpi] at hlt
  rw [w64 (n := p.f1 + 1) (by omega) (by omega)]
  refine ⟨⟨List.pairwise_append.2 ⟨hr.1, List.pairwise_singleton _ _, fun a ha b hb => ?_⟩, fun q hq' => ?_⟩, by simp, fun j => ?_⟩
  ·rw [List.mem_singleton.1 hb]
   exact hq a ha
  ·rcases List.mem_append.1 hq' with hq' | hq'
   ·exact h.each q (List.mem_append_left _ hq')
   ·rw [List.mem_singleton.1 hq']
    exact ⟨hp.1, hp.2.1, by dsimp only; omega, by dsimp only; omega⟩
  ·rw [tmP_app hq, tmP_app (p := ⟨p.f0, p.f1 + 1⟩) hq]
   show (if p.f0 = j then p.f1 + 1 else _) = _
   by_cases e : j = i
   ·rw [if_pos (by omega), if_pos (by omega), if_pos e]
   ·rw [if_neg (by omega), if_neg (by omega), if_neg e, Int.add_zero]
 ·rw [if_neg hpi]
  have hlt2 : ∀ q ∈ qs ++ [p], q.f0 < i := fun q hq' => by
   rcases List.mem_append.1 hq' with hq' | hq'
   ·have := hq q hq'
    omega
   ·rw [List.mem_singleton.1 hq']
    omega
  refine ⟨⟨List.pairwise_append.2 ⟨h.rise, List.pairwise_singleton _ _, fun a ha b hb => ?_⟩, fun q hq' => ?_⟩, by simp, fun j => ?_⟩
  ·rw [List.mem_singleton.1 hb]
   exact hlt2 a ha
  ·rcases List.mem_append.1 hq' with hq' | hq'
   ·exact h.each q hq'
   ·rw [List.mem_singleton.1 hq']
    exact ⟨h0, Int.le_refl _, by dsimp only; omega, by dsimp only; omega⟩
  ·rw [tmP_app (p := ⟨i, 1⟩) hlt2]
   show (if i = j then 1 else _) = _
   by_cases e : j = i
   ·subst e
    rw [if_pos rfl, if_pos rfl, tmP_none (fun q hq => by have := hlt2 q hq; omega)]
    rfl
   ·rw [if_neg (by omega), if_neg e, Int.add_zero]

/-- Entries that are good so far. -/
structure Inv (i : Int) (l : List En) : Prop where
 rise : l.Pairwise (fun a b => ltS a.f0 b.f0 = true)
 each : ∀ e ∈ l, isW e.f0 = true ∧ e.f1 ≠ [] ∧ PsOK i e.f1
theorem Inv.nil (i : Int) : Inv i [] := ⟨List.Pairwise.nil, fun _ h => by cases h⟩
theorem Inv.next {i : Int} {l : List En} (h : Inv i l) : Inv (i + 1) l := ⟨h.rise, fun e he => by obtain ⟨h1, h2, h3⟩ := h.each e he; exact ⟨h1, h2, h3.next⟩⟩
theorem posts_mid {A B : List En} {e : En} {t : ByteArray} (hA : e.f0 = t → ∀ a ∈ A, a.f0 ≠ t) : posts (A ++ e :: B) t = if e.f0 = t then e.f1 else posts (A ++ B) t := by
 unfold posts
 rw [List.find?_append, List.find?_append]
 by_cases h : e.f0 = t
 ·have h1 : A.find? (fun e => decide (e.f0 = t)) = none := by
   rw [List.find?_eq_none]
   intro x hx e2
   exact hA h x hx (of_decide_eq_true e2)
  have h2 : (e :: B).find? (fun e => decide (e.f0 = t)) = some e := List.find?_cons_of_pos (decide_eq_true h)
  rw [h1, h2, if_pos h]
  rfl
 ·have h2 : (e :: B).find? (fun e => decide (e.f0 = t)) = B.find? (fun e => decide (e.f0 = t)) := List.find?_cons_of_neg (by simpa using h)
  rw [h2, if_neg h]
theorem posts_out {l : List En} {t : ByteArray} (h : ∀ e ∈ l, e.f0 ≠ t) : posts l t = [] := by
 have : l.find? (fun e => decide (e.f0 = t)) = none := by
  rw [List.find?_eq_none]
  intro x hx e
  exact h x hx (of_decide_eq_true e)
 unfold posts
 rw [this]
theorem tw_all {α : Type} (p : α → Bool) : ∀ (l : List α), ∀ x ∈ l.takeWhile p, p x = true
 | [], x, h => by cases h
 | a :: l, x, h => by
  rw [List.takeWhile_cons] at h
  split at h
  ·rename_i hp
   rcases List.mem_cons.1 h with rfl | h
   ·exact hp
   ·exact tw_all p l x h
  ·cases h
theorem tw_cut {α : Type} (p : α → Bool) : ∀ l : List α, l.take (l.takeWhile p).length = l.takeWhile p ∧ l.drop (l.takeWhile p).length = l.dropWhile p
 | [] => by simp
 | a :: l => by
  have ih := tw_cut p l
  by_cases h : p a = true
  ·simp [h, ih]
  ·simp [h]
theorem tmP_one (i j : Int) : tmP [⟨i, 1⟩] j = if j = i then 1 else 0 := by
 have := tmP_app (qs := []) (p := ⟨i, 1⟩) (j := j) (fun q hq => by cases hq)
 rw [List.nil_append] at this
 rw [this]
 show (if i = j then (1 : Int) else tmP [] j) = _
 by_cases e : j = i
 ·rw [if_pos e.symm, if_pos e]
 ·rw [if_neg (fun h => e h.symm), if_neg e]
  rfl
theorem psOK_one {i : Int} (h0 : 0 ≤ i) : PsOK i [⟨i, 1⟩] := ⟨List.pairwise_singleton _ _, fun p hp => by
 rw [List.mem_singleton.1 hp]
 exact ⟨h0, Int.le_refl _, by dsimp only; omega, by dsimp only; omega⟩⟩
theorem set_mid {α : Type} (A : List α) (b : α) (B : List α) (y : α) : (A ++ b :: B).set A.length y = A ++ y :: B := by
 rw [List.set_append_right _ _ (Nat.le_refl _), Nat.sub_self]
 rfl
theorem cnt_inv {i : Int} {l : List En} {t : ByteArray} (h : Inv i l) (ht : isW t = true) (h0 : 0 ≤ i) (hlt : tm l t i < 100) :
  Inv i (cnt l t i) ∧ ∀ t' j, tm (cnt l t i) t' j = tm l t' j + if t' = t ∧ j = i then 1 else 0 := by
 obtain ⟨c1, c2⟩ := tw_cut (fun e : En => ltS e.f0 t) l
 have c3 : l.takeWhile (fun e : En => ltS e.f0 t) ++ l.dropWhile (fun e : En => ltS e.f0 t) = l := List.takeWhile_append_dropWhile
 have hA := tw_all (fun e : En => ltS e.f0 t) l
 have hhd := List.head?_dropWhile_not (fun e : En => ltS e.f0 t) l
 have hidx : idx l t = (l.takeWhile (fun e : En => ltS e.f0 t)).length := rfl
 rw [← hidx] at c1 c2
 generalize l.takeWhile (fun e : En => ltS e.f0 t) = A at *
 generalize l.dropWhile (fun e : En => ltS e.f0 t) = B at *
 have hAn : ∀ a ∈ A, a.f0 ≠ t := fun a ha e => by
  have := hA a ha
  rw [e, ltS_irrefl] at this
  cases this
 have hr := h.rise
 have he := h.each
 have ins : (∀ b ∈ B, ltS t b.f0 = true) → Inv i (A ++ ⟨t, [⟨i, 1⟩]⟩ :: B) ∧ ∀ t' j, tm (A ++ ⟨t, [⟨i, 1⟩]⟩ :: B) t' j = tm l t' j + if t' = t ∧ j = i then 1 else 0 := fun hB => by
  rw [← c3] at hr he
  have hr2 := List.pairwise_append.1 hr
  refine ⟨⟨List.pairwise_append.2 ⟨hr2.1, List.pairwise_cons.2 ⟨hB, hr2.2.1⟩, fun a ha b hb => ?_⟩, fun e he' => ?_⟩, fun t' j => ?_⟩
  ·rcases List.mem_cons.1 hb with rfl | hb
   ·exact hA a ha
   ·exact hr2.2.2 a ha b hb
  ·rcases List.mem_append.1 he' with he' | he'
   ·exact he e (List.mem_append_left _ he')
   ·rcases List.mem_cons.1 he' with rfl | he'
    ·exact ⟨ht, by simp, psOK_one h0⟩
    ·exact he e (List.mem_append_right _ he')
  ·unfold tm
   rw [posts_mid (e := ⟨t, [⟨i, 1⟩]⟩) (fun e a ha => by rw [← e]; exact hAn a ha), c3]
   by_cases e : t = t'
   ·subst e
    rw [if_pos rfl, tmP_one]
    have : posts l t = [] := posts_out (fun e he e2 => by
     rw [← c3] at he
     rcases List.mem_append.1 he with he | he
     ·exact hAn e he e2
     ·have := hB e he
      rw [e2, ltS_irrefl] at this
      cases this)
    rw [this]
    show _ = 0 + _
    simp
   ·rw [if_neg e, if_neg (fun h => e h.1.symm), Int.add_zero]
 cases B with
 | nil =>
  have hn : ¬ (idx l t < l.length ∧ (l.getD (idx l t) ⟨t, []⟩).f0 = t) := fun h2 => by
   have := congrArg List.length c2
   rw [List.length_drop] at this
   have h3 : ([] : List En).length = 0 := rfl
   omega
  unfold cnt
  rw [if_neg hn, c1, c2]
  exact ins (fun b hb => by cases hb)
 | cons b B =>
  have hb0 : ltS b.f0 t = false := by simpa using hhd
  have hlen : idx l t < l.length := by
   have := congrArg List.length c2
   rw [List.length_drop, List.length_cons] at this
   omega
  have hget : l.getD (idx l t) ⟨t, []⟩ = b := by
   have h2 : (l.drop (idx l t))[0]? = some b := by rw [c2]; rfl
   rw [List.getElem?_drop, Nat.add_zero] at h2
   rw [List.getD_eq_getElem?_getD, h2]
   rfl
  by_cases hbt : b.f0 = t
  ·have hset : l.set (idx l t) ⟨t, bump b.f1 i⟩ = A ++ ⟨t, bump b.f1 i⟩ :: B := by
    have e := set_mid A b B ⟨t, bump b.f1 i⟩
    rw [c3] at e
    rw [hidx]
    exact e
   have hpb : posts l t = b.f1 := by
    rw [← c3, posts_mid (fun _ => hAn), if_pos hbt]
   unfold cnt
   rw [hget, if_pos ⟨hlen, hbt⟩, hset]
   rw [← c3] at hr he
   obtain ⟨g1, g2, g3⟩ := he b (by simp)
   have hlt2 : tmP b.f1 i < 100 := by rw [← hpb]; exact hlt
   obtain ⟨k1, k2, k3⟩ := bump_ok g3 h0 g2 hlt2
   have hr2 := List.pairwise_append.1 hr
   have hr3 := List.pairwise_cons.1 hr2.2.1
   refine ⟨⟨List.pairwise_append.2 ⟨hr2.1, List.pairwise_cons.2 ⟨fun a ha => ?_, hr3.2⟩, fun a ha c hc => ?_⟩, fun e he' => ?_⟩, fun t' j => ?_⟩
   ·show ltS t a.f0 = true
    rw [← hbt]
    exact hr3.1 a ha
   ·rcases List.mem_cons.1 hc with rfl | hc
    ·exact hA a ha
    ·exact hr2.2.2 a ha c (List.mem_cons_of_mem _ hc)
   ·rcases List.mem_append.1 he' with he' | he'
    ·exact he e (List.mem_append_left _ he')
    ·rcases List.mem_cons.1 he' with rfl | he'
     ·exact ⟨ht, k2, k1⟩
     ·exact he e (List.mem_append_right _ (List.mem_cons_of_mem _ he'))
   ·unfold tm
    rw [posts_mid (e := ⟨t, bump b.f1 i⟩) (fun e a ha => by rw [← e]; exact hAn a ha)]
    by_cases e : t = t'
    ·subst e
     rw [if_pos rfl, hpb, k3]
     by_cases e2 : j = i
     ·rw [if_pos e2, if_pos ⟨rfl, e2⟩]
     ·rw [if_neg e2, if_neg (fun h => e2 h.2)]
    ·rw [if_neg e, if_neg (fun h => e h.1.symm), Int.add_zero]
     rw [← c3, posts_mid (fun e2 => absurd (hbt.symm.trans e2) e), if_neg (fun e2 => e (hbt.symm.trans e2))]
  ·unfold cnt
   rw [hget, if_neg (fun h => hbt h.2), c1, c2]
   refine ins (fun a ha => ?_)
   have hb1 : ltS t b.f0 = true := by
    cases h2 : ltS t b.f0 with
    | true => rfl
    | false => exact absurd (ltS_tri hb0 h2) hbt
   rw [← c3] at hr
   have hr2 := List.pairwise_append.1 hr
   have hr3 := List.pairwise_cons.1 hr2.2.1
   rcases List.mem_cons.1 ha with rfl | ha
   ·exact hb1
   ·exact ltS_trans hb1 (hr3.1 a ha)
/-- How often a word stands among words. -/
def times (ws : List ByteArray) (t : ByteArray) : Nat := ws.countP (fun x => decide (x = t))
theorem text_inv {i : Int} (h0 : 0 ≤ i) : ∀ (ws : List ByteArray) (l : List En), Inv i l → (∀ t ∈ ws, isW t = true) → (∀ t, tm l t i + (ws.length : Int) ≤ 100) →
  Inv i (ws.foldl (fun l t => cnt l t i) l) ∧ ∀ t' j, tm (ws.foldl (fun l t => cnt l t i) l) t' j = tm l t' j + if j = i then (times ws t' : Int) else 0
 | [], l, h, _, _ => ⟨h, fun t' j => by simp [times]⟩
 | t :: ws, l, h, hw, hl => by
  have h1 := hl t
  rw [List.length_cons] at h1
  obtain ⟨a1, a2⟩ := cnt_inv h (hw t List.mem_cons_self) h0 (by omega)
  obtain ⟨b1, b2⟩ := text_inv h0 ws (cnt l t i) a1 (fun x hx => hw x (List.mem_cons_of_mem _ hx)) (fun x => by
   have h2 := hl x
   rw [List.length_cons] at h2
   rw [a2]
   split <;> omega)
  refine ⟨b1, fun t' j => ?_⟩
  rw [List.foldl_cons, b2, a2]
  unfold times
  rw [List.countP_cons]
  by_cases e : j = i
  ·rw [if_pos e, if_pos e]
   by_cases e2 : t = t'
   ·rw [if_pos ⟨e2.symm, e⟩, if_pos (decide_eq_true e2)]
    omega
   ·rw [if_neg (fun h => e2 h.1.symm), if_neg (fun h => e2 (of_decide_eq_true h))]
    omega
  ·rw [if_neg e, if_neg e, if_neg (fun h => e h.2), Int.add_zero]
/-- The entries of the first texts. -/
def idxTo (ts : List ByteArray) : Nat → List En
 | 0 => []
 | k + 1 => (wordsOf (ts.getD k ByteArray.empty)).foldl (fun l t => cnt l t (k : Int)) (idxTo ts k)
theorem tm_next {i : Int} {l : List En} (h : Inv i l) (t : ByteArray) {j : Int} (hj : i < j) : tm l t j = 0 := by
 refine tmP_none (fun q hq e => ?_)
 unfold posts at hq
 split at hq
 ·rename_i e1 he
  have := ((h.each _ (List.mem_of_find?_eq_some he)).2.2.each q hq).2.1
  omega
 ·cases hq
theorem idx_inv (ts : List ByteArray) (hw : ∀ s ∈ ts, (wordsOf s).length ≤ 100 ∧ ∀ t ∈ wordsOf s, isW t = true) : ∀ k, k ≤ ts.length → Inv ((k : Int) - 1) (idxTo ts k) ∧ ∀ t (j : Nat), tm (idxTo ts k) t (j : Int) = if j < k then (times (wordsOf (ts.getD j ByteArray.empty)) t : Int) else 0
 | 0, _ => ⟨Inv.nil _, fun t j => by rw [if_neg (by omega)]; rfl⟩
 | k + 1, hk => by
  obtain ⟨h1, h2⟩ := idx_inv ts hw k (by omega)
  have h3 : Inv (k : Int) (idxTo ts k) := by
   have := h1.next
   rw [show (k : Int) - 1 + 1 = (k : Int) by omega] at this
   exact this
  have hg : ts.getD k ByteArray.empty = ts[k] := by rw [List.getD_eq_getElem?_getD, List.getElem?_eq_getElem (by omega)]; rfl
  have hwk := hw ts[k] (List.getElem_mem _)
  obtain ⟨h4, h5⟩ := text_inv (i := (k : Int)) (by omega) (wordsOf (ts.getD k ByteArray.empty)) (idxTo ts k) h3 (by rw [hg]; exact hwk.2) (fun t => by
   rw [tm_next h1 t (by omega), hg]
   have := hwk.1
   omega)
  rw [show (((k + 1 : Nat) : Int) - 1) = (k : Int) by omega]
  refine ⟨h4, fun t j => ?_⟩
  show tm ((wordsOf (ts.getD k ByteArray.empty)).foldl (fun l t => cnt l t (k : Int)) (idxTo ts k)) t (j : Int) = _
  rw [h5, h2]
  by_cases e : j = k
  ·subst e
   rw [if_neg (by omega), if_pos rfl, if_pos (by omega)]
   omega
  ·rw [if_neg (by omega : ¬ (j : Int) = (k : Int))]
   by_cases e2 : j < k
   ·rw [if_pos e2, if_pos (by omega)]
    omega
   ·rw [if_neg e2, if_neg (by omega)]
    rfl
theorem small_small (c : Int) (h : small c ≠ 0) : small (small c) = small c := by
 unfold small at *
 split
 ·rename_i h1
  split
  ·omega
  ·split
   ·rfl
   ·omega
 ·rename_i h1
  split
  ·rfl
  ·rename_i h2
   rw [if_neg h1, if_neg h2] at h
   exact absurd rfl h
theorem words_are (s : ByteArray) : ∀ x ∈ wordsOf s, isW x = true := by
 intro x hx
 obtain ⟨h1, h2, h3, h4⟩ := step_inv s s.size (Nat.le_refl _)
 have h4 : ∀ c ∈ (stepW s s.size).2, 0 ≤ c ∧ c < 256 := h4
 have h5 := flat_flush (stepW s s.size).1 (stepW s s.size).2 h4
 rw [h1] at h5
 have hsz : 1 ≤ x.size ∧ x.size ≤ 20 := by
  unfold wordsOf flushO at hx
  split at hx
  ·rename_i hp
   rw [List.mem_append, List.mem_singleton] at hx
   rcases hx with hx | rfl
   ·exact h2 x hx
   ·rw [str_size]
    exact ⟨hp, h3⟩
  ·exact h2 x hx
 unfold isW
 rw [Bool.and_eq_true, decide_eq_true_eq, List.all_eq_true]
 refine ⟨hsz, fun c hc => ?_⟩
 have hm : c ∈ (wordsOf s).flatMap bytesOf := List.mem_flatMap.2 ⟨x, hx, hc⟩
 unfold wordsOf at hm
 rw [h5, List.mem_filter] at hm
 obtain ⟨b, _, rfl⟩ := List.mem_map.1 hm.1
 have hb : small b ≠ 0 := of_decide_eq_true hm.2
 unfold okB
 exact decide_eq_true ⟨by rw [small_small b hb]; exact hb, small_small b hb⟩
theorem half (s : ByteArray) : ∀ i, 2 * (stepW s i).1.length + (stepW s i).2.length ≤ i
 | 0 => by simp [stepW]
 | i + 1 => by
  have ih := half s i
  unfold stepW
  generalize stepW s i = p at *
  generalize small (bt s (i : Int)) = c
  have hf : 2 * (flushO p.1 p.2).length ≤ 2 * p.1.length + p.2.length + 1 := by
   unfold flushO
   split
   ·rw [List.length_append, List.length_singleton]
    omega
   ·omega
  have hf2 : p.2.length = 20 → 2 * (flushO p.1 p.2).length + 1 ≤ i + 1 := fun h => by
   unfold flushO
   rw [if_pos (by omega), List.length_append, List.length_singleton]
   omega
  unfold stepC stepO
  by_cases hc : c = 0
  ·rw [if_pos hc, if_pos (.inl hc)]
   show 2 * (flushO p.1 p.2).length + 0 ≤ i + 1
   omega
  ·rw [if_neg hc]
   by_cases h20 : p.2.length = 20
   ·rw [if_pos (.inr h20)]
    exact hf2 h20
   ·rw [if_neg (fun h => h.elim hc h20)]
    show 2 * p.1.length + (p.2 ++ [c]).length ≤ i + 1
    rw [List.length_append, List.length_singleton]
    omega
theorem words_100 (s : ByteArray) (h : s.size ≤ 200) : (wordsOf s).length ≤ 100 := by
 have := half s s.size
 unfold wordsOf flushO
 split
 ·rw [List.length_append, List.length_singleton]
  omega
 ·omega
theorem good_of {x : Int} {l : List En} (h : Inv (x - 1) l) (hx : 0 ≤ x ∧ x ≤ 40) (hl : l.length ≤ 200) : goodW x l = true := by
 unfold goodW
 rw [Bool.and_eq_true, Bool.and_eq_true, decide_eq_true_eq, decide_eq_true_eq, List.all_eq_true]
 refine ⟨⟨hx, hl⟩, fun i hi => ?_⟩
 obtain ⟨_, hi⟩ := List.mem_range'.1 hi
 have hi : i < l.length := by omega
 obtain ⟨h1, h2, h3⟩ := h.each _ (List.getElem_mem hi)
 unfold entOK
 rw [rd_en l i hi, w64 (n := x - 1) (by omega) (by omega)]
 simp only [Bool.and_eq_true, Bool.or_eq_true, decide_eq_true_eq, Bool.not_eq_true', decide_eq_false_iff_not]
 refine ⟨⟨⟨h1, ?_⟩, fun e => h2 (List.eq_nil_of_length_eq_zero e)⟩, ok_of _ _ _ h3.rise (fun p hp => by have := h3.each p hp; omega)⟩
 by_cases h0 : i = 0
 ·exact .inl h0
 ·right
  rw [show (i : Int) - 1 = ((i - 1 : Nat) : Int) by omega, rd_en l (i - 1) (by omega)]
  exact List.pairwise_iff_getElem.1 h.rise (i - 1) i (by omega) hi (by omega)
/-- What IndexOf answers. -/
def ansIdx (ts : List ByteArray) : Int × List En × Bool := if ts.length ≤ 40 ∧ (∀ s ∈ ts, s.size ≤ 200) ∧ (idxTo ts ts.length).length ≤ 200 then ((ts.length : Int), idxTo ts ts.length, true) else (0, [], false)
end Go.Proofs.Ytaomjndfjmfelaa.Idx
end

section
namespace Go.Proofs.Ytaomjndfjmfelaa.PQ
open Go.RowKit Go.Proofs.YtaomjndfjmfelaaW.PrintWords Go.Proofs.YtaomjndfjmfelaaW.PrintLast Go.Proofs.YtaomjndfjmfelaaW.PrintMore
attribute [local go_sem] max2_int min2_int max_two min_two max_three min_three max_four min_four
set_option linter.unusedVariables false
set_option linter.unusedSimpArgs false
def spec_l10Count.f (l0 : List (S102)) (a1 : ByteArray) (a2 : Int) : Option (List (S102)) := if l0.length ≤ 1048575 ∧ ∀ e ∈ l0, 0 < e.f1.length ∧ e.f1.length ≤ 1048575 then some (Cou.cnt l0 a1 a2) else none
theorem spec_l10Count.calls (P0_ : Nat → Prop) (u9000_ : Value) (l0 : List (S102)) (a1 : ByteArray) (a2 : Int) (r : List (S102)) (w0 w : World) (hB : Below w0.heap.size w0 w) (ho0 : Kd.S k102 102 w w0.heap.size P0_ u9000_ l0) (h : spec_l10Count.f l0 a1 a2 = some r) :
  Calls Try.prog 80 #[u9000_, .string a1, .int .i64 a2] w fun e w' => ∃ v0_ : Value, e = .returned (v0_) ∧ Kd.S k102 102 w' w0.heap.size (fun k_ => (P0_ k_ ∨ w.heap.size ≤ k_)) v0_ r ∧ Below w0.heap.size w0 w' ∧ Kept w w' (fun k_ => P0_ k_) := by
 unfold spec_l10Count.f at h
 split at h
 ·rename_i hs
  obtain rfl := Option.some.inj h
  exact Cou.count_calls P0_ u9000_ l0 a1 a2 w0 w hB ho0 hs.1 hs.2
 ·cases h

mutual
def spec_IndexOf.l0 : Nat → List ByteArray → Int → Int → Int → List (S102) → Option (Int × (List (S102)) × Bool)
 | 0, _, _, _, _, _ => none
 | k + 1, x16, x17, x18, x285000, x285001 => if x18 < x17 then (if 0 ≤ x18 then (if x18 < (x16.length : Int) then (if ((rdOf ByteArray.empty x16 x18).size : Int) > 200 then (some (0, ([] : List (S102)), false)) else ((spec_l10In.f k (rdOf ByteArray.empty x16 x18)).bind fun t287 => (spec_IndexOf.l1 k x18 x16 x17 x18 t287 (t287.length : Int) 0 x285000 x285001))) else (none)) else (none)) else ((spec_GoodWords.f k x285000 x285001).bind fun t285 => (if t285 = true then (some (x285000, x285001, true)) else (some (0, ([] : List (S102)), false))))
def spec_IndexOf.l1 : Nat → Int → List ByteArray → Int → Int → List ByteArray → Int → Int → Int → List (S102) → Option (Int × (List (S102)) × Bool)
 | 0, _, _, _, _, _, _, _, _, _ => none
 | k + 1, x5, x16, x17, x18, x28, x29, x30, x285000, x285001 => if x30 < x29 then (if 0 ≤ x30 then (if x30 < (x28.length : Int) then ((spec_l10Count.f x285001 (rdOf ByteArray.empty x28 x30) x5).bind fun t291 => (spec_IndexOf.l1 k x5 x16 x17 x18 x28 x29 (wrap64 (x30 + 1)) x285000 t291)) else (none)) else (none)) else (spec_IndexOf.l0 k x16 x17 (wrap64 (x18 + 1)) x285000 x285001)
end
def spec_IndexOf.f (k : Nat) (l0 : List ByteArray) : Option (Int × (List (S102)) × Bool) := if (l0.length : Int) > 40 then (some (0, ([] : List (S102)), false)) else (spec_IndexOf.l0 k l0 (l0.length : Int) 0 (l0.length : Int) ([] : List (S102)))
set_option maxHeartbeats 8000000 in
set_option maxRecDepth 100000 in
theorem spec_IndexOf.calls (k : Nat) (A0 : Option Addr) (c0 : Nat) (l0 : List ByteArray) (r1 : Int) (r2 : List (S102)) (r3 : Bool) (w : World) (hr0 : Kd.C Kd.string w A0 l0.length l0) (hc0 : l0.length ≤ c0) (h : spec_IndexOf.f k l0 = some (r1, r2, r3)) :
  Calls Try.prog 32 #[.slice A0 l0.length c0] w fun e w' => ∃ v1_ : Value, e = .returned (.tuple #[.agg #[.int .i64 r1, v1_], .bool r3]) ∧ Kd.S k102 102 w' w.heap.size (fun _ => True) v1_ r2 ∧ Below w.heap.size w w' := by
 have hu33 := Try.underlying33
 have HR0 := aM hr0
 have HC0 := aM hc0
 clear hr0 hc0
 have HB := aM (Below.refl w.heap.size w)
 have H : (if (l0.length : Int) > 40 then (some (0, ([] : List (S102)), false)) else (spec_IndexOf.l0 k l0 (l0.length : Int) 0 (l0.length : Int) ([] : List (S102)))) = some (r1, r2, r3) := h
 clear h
 by_cases c2 : (l0.length : Int) > 40
 ·rw [if_pos c2] at H
  have c2b0 : decide (40 < (l0.length : Int)) = true := decide_eq_true c2
  have c2b1 : decide (40 < l0.length) = true := decide_eq_true (by omega)
  clear c2
  simp only [Option.some.injEq, Prod.mk.injEq] at H
  obtain ⟨rfl, rfl, rfl⟩ := H
  go_enter Try.func32, Try.ntmps32
  go_wp2_with (first | ((with_reducible refine gate_dst (N := 2) rfl ?_); refine box_event ?hg (N := 2) ?hd (cs := #[.int .i64 0, .slice none 0 0]) (t := 33) ?hr ?_; (case hd => rfl); (case hg => rfl); (case hr => first | (go_simp; done) | (go_simp; rfl)); intro gb283 hg w3 hbox hb; have n0_ := aM (below_step (by repeat (first | (with_reducible first | exact HB.out | apply below_alloc | apply pw_below_drewN | apply below_drew1) | exact HB.out)) hb); have n1_ := aM (hbox); have n2_ := aM ((by rw [hg]; exact (below_size (by repeat (first | (with_reducible first | exact HB.out | apply below_alloc | apply pw_below_drewN | apply below_drew1) | exact HB.out))) : w.heap.size ≤ gb283)); have n3_ := aM ((by rw [hg]; exact (below_size (by repeat (first | (with_reducible first | exact HB.out | apply below_alloc | apply pw_below_drewN | apply below_drew1) | exact HB.out))) : w.heap.size ≤ gb283)); clear HB; have HB := n0_; have BK283 := n1_; have GW283 := n2_; have GE283 := n3_; clear n0_ n1_ n2_ n3_; clear hb hbox hg; have hcz4_0 : w3.cell? ⟨gb283, 0, none⟩ = some (.int .i64 0) := (blk_cell BK283.out 0).trans rfl; have hcz4_1 : w3.cell? ⟨gb283, 1, none⟩ = some (.slice none 0 0) := (blk_cell BK283.out 1).trans rfl; have hfz4_0 := blk_frozen BK283.out 0; have hfz4_1 := blk_frozen BK283.out 1))
  refine bodyPost_ret (results_ct rfl _ _ gb283 33 #[.int .i64 0, .slice none 0 0] (0, 0) _ rfl (by (with_reducible repeat (first | refine blk_drewN ?_ _ | refine blk_drew ?_ | refine blk_alloc ?_ _)); refine blk_put (cs := #[.int .i64 0, .slice none 0 0]) ?_ 1 _ rfl; (with_reducible repeat (first | refine blk_drewN ?_ _ | refine blk_drew ?_ | refine blk_alloc ?_ _)); refine blk_put (cs := #[.int .i64 0, .slice none 0 0]) ?_ 0 _ rfl; (with_reducible repeat (first | refine blk_drewN ?_ _ | refine blk_drew ?_ | refine blk_alloc ?_ _)); exact BK283.out) Try.underlying33 rfl (by kernel_rfl)) rfl ?_
  exact ⟨_, eR, by first | exact Kd.S_nil _ _ _ _ _ | exact Kd.N_nil _ _ _ _ _ | exact Kd.V_nil _ _ _ _ _ | exact Kd.Q_nil _ _ _ _ _ | exact Kd.R_nil _ _ _ _ _, by repeat (first | (with_reducible first | exact HB.out | apply below_alloc | apply pw_below_drewN | apply below_drew1 | refine below_set ?_ GE283.out) | exact HB.out)⟩
 ·rw [if_neg c2] at H
  have c2b0 : decide (40 < (l0.length : Int)) = false := decide_eq_false c2
  have c2b1 : decide (40 < l0.length) = false := decide_eq_false (by omega)
  clear c2
  have H' := aM H
  clear H
  go_enter Try.func32, Try.ntmps32
  go_wp2_with (first | ((with_reducible refine gate_dst (N := 2) rfl ?_); refine box_event ?hg (N := 2) ?hd (cs := #[.int .i64 0, .slice none 0 0]) (t := 33) ?hr ?_; (case hd => rfl); (case hg => rfl); (case hr => first | (go_simp; done) | (go_simp; rfl)); intro gb283 hg w5 hbox hb; have n0_ := aM (below_step (by repeat (first | (with_reducible first | exact HB.out | apply below_alloc | apply pw_below_drewN | apply below_drew1) | exact HB.out)) hb); have n1_ := aM (hbox); have n2_ := aM ((by rw [hg]; exact (below_size (by repeat (first | (with_reducible first | exact HB.out | apply below_alloc | apply pw_below_drewN | apply below_drew1) | exact HB.out))) : w.heap.size ≤ gb283)); have n3_ := aM ((by rw [hg]; exact (below_size (by repeat (first | (with_reducible first | exact HB.out | apply below_alloc | apply pw_below_drewN | apply below_drew1) | exact HB.out))) : w.heap.size ≤ gb283)); clear HB; have HB := n0_; have BK283 := n1_; have GW283 := n2_; have GE283 := n3_; clear n0_ n1_ n2_ n3_; clear hb hbox hg) | ((with_reducible refine gate_dst (N := 4) rfl ?_); refine box_event ?hg (N := 4) ?hd (cs := #[.int .i64 0, .slice none 0 0]) (t := 33) ?hr ?_; (case hd => rfl); (case hg => rfl); (case hr => first | (go_simp; done) | (go_simp; rfl)); intro gb284 hg w6 hbox hb; have n0_ := aM (blk_below (g := gb283) (o := .cells #[.int .i64 0, .slice none 0 0] 33 (0, 0)) (by (with_reducible repeat (first | refine blk_drewN ?_ _ | refine blk_drew ?_ | refine blk_alloc ?_ _)); exact BK283.out) hb); have n1_ := aM (below_step (by repeat (first | (with_reducible first | exact HB.out | apply below_alloc | apply pw_below_drewN | apply below_drew1 | refine below_set ?_ GE283.out) | exact HB.out)) hb); have n2_ := aM (hbox); have n3_ := aM ((by rw [hg]; exact (below_size (by repeat (first | (with_reducible first | exact HB.out | apply below_alloc | apply pw_below_drewN | apply below_drew1 | refine below_set ?_ GE283.out) | exact HB.out))) : w.heap.size ≤ gb284)); have n4_ := aM ((by rw [hg]; exact (below_size (by repeat (first | (with_reducible first | exact HB.out | apply below_alloc | apply pw_below_drewN | apply below_drew1 | refine below_set ?_ GE283.out) | exact HB.out))) : w.heap.size ≤ gb284)); have n5_ := aM ((by rw [hg]; exact Nat.ne_of_lt (blk_lt (g := gb283) (o := .cells #[.int .i64 0, .slice none 0 0] 33 (0, 0)) (by (with_reducible repeat (first | refine blk_drewN ?_ _ | refine blk_drew ?_ | refine blk_alloc ?_ _)); exact BK283.out)) : gb283 ≠ gb284)); have n6_ := aM ((by rw [hg]; exact Nat.ne_of_gt (blk_lt (g := gb283) (o := .cells #[.int .i64 0, .slice none 0 0] 33 (0, 0)) (by (with_reducible repeat (first | refine blk_drewN ?_ _ | refine blk_drew ?_ | refine blk_alloc ?_ _)); exact BK283.out)) : gb284 ≠ gb283)); clear BK283; clear HB; have BK283 := n0_; have HB := n1_; have BK284 := n2_; have GW284 := n3_; have GE284 := n4_; have NB283_284 := n5_; have NB284_283 := n6_; clear n0_ n1_ n2_ n3_ n4_ n5_ n6_; clear hb hbox hg; have hnb7 := NB284_283.out; have hnc7 := NB283_284.out; have hcz8_0 : w6.cell? ⟨gb284, 0, none⟩ = some (.int .i64 0) := (blk_cell BK284.out 0).trans rfl; have hcz8_1 : w6.cell? ⟨gb284, 1, none⟩ = some (.slice none 0 0) := (blk_cell BK284.out 1).trans rfl; have hfz8_0 := blk_frozen BK284.out 0; have hfz8_1 := blk_frozen BK284.out 1))
  go_loopg [18] k (fun kq v18 w' => ∃ (x18_1 : Int) (x284000_1 : Int) (x285001_1 : List (S102)) (u285001 : Value), v18 = .int .i64 x18_1 ∧ Aside0 (spec_IndexOf.l0 kq l0 (l0.length : Int) x18_1 (l0.length : Int) x285001_1 = some (r1, r2, r3)) ∧ Aside0 (kq ≤ k) ∧ Aside0 (Kd.S k102 102 w' w.heap.size (fun _ => True) u285001 x285001_1) ∧ Aside0 (w'.heap[gb283]? = some (.cells #[.int .i64 x284000_1, (.slice none 0 0)] 33 (0, 0))) ∧ Aside0 (w'.heap[gb284]? = some (.cells #[.int .i64 (l0.length : Int), u285001] 33 (0, 0))) ∧ Aside0 (Below w.heap.size w w'))
  case atStart => exact ⟨(0), (0), (([] : List (S102))), (.slice none 0 0), (by first | rfl | (simp; done) | (simp [*]; done)), H', ⟨Nat.le_refl _⟩, ⟨by first | exact Kd.S_nil _ _ _ _ _ | exact Kd.N_nil _ _ _ _ _ | exact Kd.V_nil _ _ _ _ _ | exact Kd.Q_nil _ _ _ _ _ | exact Kd.R_nil _ _ _ _ _⟩, ⟨by (with_reducible repeat (first | refine blk_drewN ?_ _ | refine blk_drew ?_ | refine blk_alloc ?_ _)); refine blk_far ?_ NB283_284.out _; (with_reducible repeat (first | refine blk_drewN ?_ _ | refine blk_drew ?_ | refine blk_alloc ?_ _)); refine blk_far ?_ NB283_284.out _; (with_reducible repeat (first | refine blk_drewN ?_ _ | refine blk_drew ?_ | refine blk_alloc ?_ _)); exact BK283.out⟩, ⟨by (with_reducible repeat (first | refine blk_drewN ?_ _ | refine blk_drew ?_ | refine blk_alloc ?_ _)); refine blk_put (cs := #[.int .i64 (l0.length : Int), .slice none 0 0]) ?_ 1 _ rfl; (with_reducible repeat (first | refine blk_drewN ?_ _ | refine blk_drew ?_ | refine blk_alloc ?_ _)); refine blk_put (cs := #[.int .i64 0, .slice none 0 0]) ?_ 0 _ rfl; (with_reducible repeat (first | refine blk_drewN ?_ _ | refine blk_drew ?_ | refine blk_alloc ?_ _)); exact BK284.out⟩, ⟨by repeat (first | (with_reducible first | exact HB.out | apply below_alloc | apply pw_below_drewN | apply below_drew1 | refine below_set ?_ GE283.out | refine below_set ?_ GE284.out) | exact HB.out)⟩⟩
  case round =>
   clear H'
   try clear c2
   try clear c2b0
   try clear c2b1
   try clear p2
   try clear c3
   try clear c7
   try clear hcz4_0
   try clear hcz4_1
   try clear hcz8_0
   try clear hcz8_1
   try clear hfz4_0
   try clear hfz4_1
   try clear hfz8_0
   try clear hfz8_1
   obtain ⟨x18_1, x284000_1, x285001_1, u285001, rfl, HA, HK1, HO_285001, BK283, BK284, HB⟩ := hrel
   cases gk with
   | zero => exact absurd HA.out (by simp [spec_IndexOf.l0])
   | succ k1 =>
    have H := HA.out
    clear HA
    simp only [spec_IndexOf.l0] at H
    by_cases c9 : x18_1 < (l0.length : Int)
    ·rw [if_pos c9] at H
     have c9b0 : decide (x18_1 < (l0.length : Int)) = true := decide_eq_true c9
     clear c9
     by_cases c10 : 0 ≤ x18_1
     ·rw [if_pos c10] at H
      have c10b0 : decide (0 ≤ x18_1) = true := decide_eq_true c10
      clear c10
      by_cases c11 : x18_1 < (l0.length : Int)
      ·rw [if_pos c11] at H
       have c11b0 : decide (x18_1 < (l0.length : Int)) = true := decide_eq_true c11
       clear c11
       by_cases c12 : ((rdOf ByteArray.empty l0 x18_1).size : Int) > 200
       ·rw [if_pos c12] at H
        have c12b0 : decide (200 < ((rdOf ByteArray.empty l0 x18_1).size : Int)) = true := decide_eq_true c12
        have c12b1 : decide (200 < (rdOf ByteArray.empty l0 x18_1).size) = true := decide_eq_true (by omega)
        clear c12
        simp only [Option.some.injEq, Prod.mk.injEq] at H
        obtain ⟨rfl, rfl, rfl⟩ := H
        have p286 : 0 ≤ (x18_1 : Int) := dT
        have q286 : x18_1 < (l0.length : Int) := dT
        obtain ⟨ad286, e286, hx286_0⟩ := Kd.at_string HR0.out x18_1 p286 q286
        cases e286
        replace hx286_0 := (HB.out.cell (World.block_lt_of_cell? w _ hx286_0)).trans hx286_0
        replace p286 := eq_true p286
        replace q286 := eq_true q286
        have hnb13 := NB283_284.out
        have hnc13 := NB284_283.out
        have hcz14_0 : wr.cell? ⟨gb283, 0, none⟩ = some (.int .i64 x284000_1) := (blk_cell BK283.out 0).trans rfl
        have hcz14_1 : wr.cell? ⟨gb283, 1, none⟩ = some (.slice none 0 0) := (blk_cell BK283.out 1).trans rfl
        have hfz14_0 := blk_frozen BK283.out 0
        have hfz14_1 := blk_frozen BK283.out 1
        go_wp2
        refine bodyPost_ret (results_ct rfl _ _ gb283 33 #[.int .i64 0, .slice none 0 0] (0, 0) _ rfl (by (with_reducible repeat (first | refine blk_drewN ?_ _ | refine blk_drew ?_ | refine blk_alloc ?_ _)); refine blk_put (cs := #[.int .i64 0, .slice none 0 0]) ?_ 1 _ rfl; (with_reducible repeat (first | refine blk_drewN ?_ _ | refine blk_drew ?_ | refine blk_alloc ?_ _)); refine blk_put (cs := #[.int .i64 x284000_1, .slice none 0 0]) ?_ 0 _ rfl; (with_reducible repeat (first | refine blk_drewN ?_ _ | refine blk_drew ?_ | refine blk_alloc ?_ _)); exact BK283.out) Try.underlying33 rfl (by kernel_rfl)) rfl ?_
        exact ⟨_, eR, by first | exact Kd.S_nil _ _ _ _ _ | exact Kd.N_nil _ _ _ _ _ | exact Kd.V_nil _ _ _ _ _ | exact Kd.Q_nil _ _ _ _ _ | exact Kd.R_nil _ _ _ _ _, by repeat (first | (with_reducible first | exact HB.out | apply below_alloc | apply pw_below_drewN | apply below_drew1 | refine below_set ?_ GE283.out | refine below_set ?_ GE284.out) | exact HB.out)⟩
       ·rw [if_neg c12] at H
        have c12b0 : decide (200 < ((rdOf ByteArray.empty l0 x18_1).size : Int)) = false := decide_eq_false c12
        have c12b1 : decide (200 < (rdOf ByteArray.empty l0 x18_1).size) = false := decide_eq_false (by omega)
        clear c12
        replace H := Option.bind_eq_some_iff.mp H
        obtain ⟨t287, A150, H⟩ := H
        replace H : (spec_IndexOf.l1 k1 x18_1 l0 (l0.length : Int) x18_1 t287 (t287.length : Int) 0 (l0.length : Int) x285001_1) = some (r1, r2, r3) := H
        have A15 := aM A150
        clear A150
        have H' := aM H
        clear H
        have p286 : 0 ≤ (x18_1 : Int) := dT
        have q286 : x18_1 < (l0.length : Int) := dT
        obtain ⟨ad286, e286, hx286_0⟩ := Kd.at_string HR0.out x18_1 p286 q286
        cases e286
        replace hx286_0 := (HB.out.cell (World.block_lt_of_cell? w _ hx286_0)).trans hx286_0
        replace p286 := eq_true p286
        replace q286 := eq_true q286
        go_wp2_with (first | ((with_reducible refine gate_callee (f := 79) rfl ?_); refine gL 28 Try.func79 #[.string (rdOf ByteArray.empty l0 x18_1)] ?_; (with_reducible refine (spec_l10In.calls k1 (rdOf ByteArray.empty l0 x18_1) t287 _ A15.out).mono ?_); rintro e w16 ⟨v288, rfl, ho0, hb⟩; refine ⟨_, rfl, ?_⟩; have n0_ := aM (Kd.S_below (by (with_reducible repeat (first | apply Kd.S_alloc | apply Kd.S_drewN | apply Kd.S_drew)); exact HO_285001.out) hb); have n1_ := aM (Kd.R_lower ho0 (below_size (by repeat (first | (with_reducible first | exact HB.out | apply below_alloc | apply pw_below_drewN | apply below_drew1 | refine below_set ?_ GE283.out | refine below_set ?_ GE284.out) | exact HB.out)))); have n2_ := aM (blk_below (g := gb283) (o := .cells #[.int .i64 x284000_1, .slice none 0 0] 33 (0, 0)) (by (with_reducible repeat (first | refine blk_drewN ?_ _ | refine blk_drew ?_ | refine blk_alloc ?_ _)); exact BK283.out) hb); have n3_ := aM (blk_below (g := gb284) (o := .cells #[.int .i64 (l0.length : Int), u285001] 33 (0, 0)) (by (with_reducible repeat (first | refine blk_drewN ?_ _ | refine blk_drew ?_ | refine blk_alloc ?_ _)); exact BK284.out) hb); have n4_ := aM (below_step (by repeat (first | (with_reducible first | exact HB.out | apply below_alloc | apply pw_below_drewN | apply below_drew1 | refine below_set ?_ GE283.out | refine below_set ?_ GE284.out) | exact HB.out)) hb); clear HO_285001; clear BK283; clear BK284; clear HB; have HO_285001 := n0_; have HO289 := n1_; have BK283 := n2_; have BK284 := n3_; have HB := n4_; clear n0_ n1_ n2_ n3_ n4_; (try clear hb); (try clear hb2); (try clear hk); (try clear hi); (try clear ho0); obtain ⟨Ao17, co17, eo17⟩ := Kd.R_slice HO289.out; subst eo17))
        go_loopg [30] k1 (fun kq v30 w' => ∃ (x30_2 : Int) (x285001_2 : List (S102)) (u285001 : Value), v30 = .int .i64 x30_2 ∧ Aside0 (spec_IndexOf.l1 kq x18_1 l0 (l0.length : Int) x18_1 t287 (t287.length : Int) x30_2 (l0.length : Int) x285001_2 = some (r1, r2, r3)) ∧ Aside0 (kq ≤ k1) ∧ Aside0 (Kd.R Kd.string 9 w' w.heap.size (fun _ => True) (.slice Ao17 t287.length co17) t287) ∧ Aside0 (Kd.S k102 102 w' w.heap.size (fun _ => True) u285001 x285001_2) ∧ Aside0 (w'.heap[gb283]? = some (.cells #[.int .i64 x284000_1, (.slice none 0 0)] 33 (0, 0))) ∧ Aside0 (w'.heap[gb284]? = some (.cells #[.int .i64 (l0.length : Int), u285001] 33 (0, 0))) ∧ Aside0 (Below w.heap.size w w'))
        case atStart => exact ⟨(0), (x285001_1), (u285001), (by first | rfl | (simp; done) | (simp [*]; done)), H', ⟨Nat.le_refl _⟩, ⟨by (with_reducible repeat (first | apply Kd.R_alloc | apply Kd.R_drewN | apply Kd.R_drew)); exact HO289.out⟩, ⟨by (with_reducible repeat (first | apply Kd.S_alloc | apply Kd.S_drewN | apply Kd.S_drew)); exact HO_285001.out⟩, ⟨by (with_reducible repeat (first | refine blk_drewN ?_ _ | refine blk_drew ?_ | refine blk_alloc ?_ _)); exact BK283.out⟩, ⟨by (with_reducible repeat (first | refine blk_drewN ?_ _ | refine blk_drew ?_ | refine blk_alloc ?_ _)); exact BK284.out⟩, ⟨by repeat (first | (with_reducible first | exact HB.out | apply below_alloc | apply pw_below_drewN | apply below_drew1 | refine below_set ?_ GE283.out | refine below_set ?_ GE284.out) | exact HB.out)⟩⟩
        case round =>
         clear H'
         try clear c1
         try clear c2
         try clear c2b0
         try clear c2b1
         try clear p2
         try clear q2
         try clear hx2
         try clear c3
         try clear c7
         try clear c9
         try clear c9b0
         try clear c10
         try clear c10b0
         try clear c11
         try clear c11b0
         try clear c12
         try clear c12b0
         try clear c12b1
         try clear c13
         try clear hcz14_0
         try clear hcz14_1
         try clear hcz4_0
         try clear hcz4_1
         try clear hcz8_0
         try clear hcz8_1
         try clear hfz14_0
         try clear hfz14_1
         try clear hfz4_0
         try clear hfz4_1
         try clear hfz8_0
         try clear hfz8_1
         try clear hx286_0
         try clear p2
         try clear p286
         try clear q286
         obtain ⟨x30_2, x285001_2, u285001, rfl, HA, HK2, HO_28, HO_285001, BK283, BK284, HB⟩ := hrel
         cases gk with
         | zero => exact absurd HA.out (by simp [spec_IndexOf.l1])
         | succ k2 =>
          have H := HA.out
          clear HA
          simp only [spec_IndexOf.l1] at H
          by_cases c18 : x30_2 < (t287.length : Int)
          ·rw [if_pos c18] at H
           have c18b0 : decide (x30_2 < (t287.length : Int)) = true := decide_eq_true c18
           clear c18
           by_cases c19 : 0 ≤ x30_2
           ·rw [if_pos c19] at H
            have c19b0 : decide (0 ≤ x30_2) = true := decide_eq_true c19
            clear c19
            by_cases c20 : x30_2 < (t287.length : Int)
            ·rw [if_pos c20] at H
             have c20b0 : decide (x30_2 < (t287.length : Int)) = true := decide_eq_true c20
             clear c20
             replace H := Option.bind_eq_some_iff.mp H
             obtain ⟨t291, A210, H⟩ := H
             replace H : (spec_IndexOf.l1 k2 x18_1 l0 (l0.length : Int) x18_1 t287 (t287.length : Int) (wrap64 (x30_2 + 1)) (l0.length : Int) t291) = some (r1, r2, r3) := H
             have A21 := aM A210
             clear A210
             have H' := aM H
             clear H
             have p290 : 0 ≤ (x30_2 : Int) := dT
             have q290 : x30_2 < (t287.length : Int) := dT
             obtain ⟨ad290, e290, hx290_0⟩ := Kd.at_string (Kd.R_reads' HO_28.out).2.2 x30_2 p290 q290
             cases e290
             replace p290 := eq_true p290
             replace q290 := eq_true q290
             have hnb22 := NB284_283.out
             have hnc22 := NB283_284.out
             have hcz23_0 : wr.cell? ⟨gb284, 0, none⟩ = some (.int .i64 (l0.length : Int)) := (blk_cell BK284.out 0).trans rfl
             have hcz23_1 : wr.cell? ⟨gb284, 1, none⟩ = some (u285001) := (blk_cell BK284.out 1).trans rfl
             have hfz23_0 := blk_frozen BK284.out 0
             have hfz23_1 := blk_frozen BK284.out 1
             obtain ⟨Ao24, co24, eo24⟩ := Kd.S_slice HO_285001.out
             subst eo24
             go_wp2_with (first | ((with_reducible refine gate_callee (f := 80) rfl ?_); refine gL 38 Try.func80 #[.slice Ao24 x285001_2.length co24, .string (rdOf ByteArray.empty t287 x30_2), .int .i64 x18_1] ?_; (with_reducible refine (spec_l10Count.calls _ _ x285001_2 (rdOf ByteArray.empty t287 x30_2) x18_1 t291 w _ HB.out (Kd.S_bound HO_285001.out) A21.out).mono ?_); rintro e w25 ⟨v292, rfl, ho0, hb, hk_⟩; refine ⟨_, rfl, ?_⟩; have n0_ := aM (Go.Proofs.Ytaomjndfjmfelaa.Cou.R_beside HO_28.out hk_ (by decide)); have n1_ := aM (Kd.S_mono ho0 (fun _ _ => trivial)); have n2_ := aM (Kd.S_mono ho0 (fun _ _ => trivial)); have n3_ := aM ((hk_.2 _ (blk_lt BK283.out) (Go.Proofs.Ytaomjndfjmfelaa.Cou.not_typed BK283.out (by decide))).trans BK283.out); have n4_ := aM ((hk_.2 _ (blk_lt BK284.out) (Go.Proofs.Ytaomjndfjmfelaa.Cou.not_typed BK284.out (by decide))).trans BK284.out); have n5_ := aM (hb); clear hk_; clear HO_28; clear HO_285001; clear BK283; clear BK284; clear HB; have HO_28 := n0_; have HO_285001 := n1_; have HO293 := n2_; have BK283 := n3_; have BK284 := n4_; have HB := n5_; clear n0_ n1_ n2_ n3_ n4_ n5_; (try clear hb); (try clear hb2); (try clear hk); (try clear hi); (try clear ho0); obtain ⟨Ao26, co26, eo26⟩ := Kd.S_slice HO293.out; subst eo26; have hcz27_0 : w25.cell? ⟨gb284, 0, none⟩ = some (.int .i64 (l0.length : Int)) := (blk_cell BK284.out 0).trans rfl; have hcz27_1 : w25.cell? ⟨gb284, 1, none⟩ = some (.slice Ao24 x285001_2.length co24) := (blk_cell BK284.out 1).trans rfl; have hfz27_0 := blk_frozen BK284.out 0; have hfz27_1 := blk_frozen BK284.out 1))
             go_roundg k2
             case measure => have := HK1.out; have := HK2.out; omega
             case rel => exact ⟨(wrap64 (x30_2 + 1)), (t291), (.slice Ao26 t291.length co26), (by first | rfl | (simp; done) | (simp [*]; done)), H', ⟨by have := HK1.out; have := HK2.out; omega⟩, ⟨by (with_reducible repeat (first | apply Kd.R_alloc | apply Kd.R_drewN | apply Kd.R_drew)); exact Kd.R_mono (Kd.R_far (p := ⟨gb284, 1, none⟩) (Kd.R_types HO_28.out BK284.out (by decide)) (fun _ hk => hk.2) (.slice Ao26 t291.length co26)) (fun _ hk => trivial)⟩, ⟨by (with_reducible repeat (first | apply Kd.S_alloc | apply Kd.S_drewN | apply Kd.S_drew)); exact Kd.S_mono (Kd.S_far (p := ⟨gb284, 1, none⟩) (Kd.S_types HO293.out BK284.out (by decide)) (fun _ hk => hk.2) (.slice Ao26 t291.length co26)) (fun _ hk => trivial)⟩, ⟨by (with_reducible repeat (first | refine blk_drewN ?_ _ | refine blk_drew ?_ | refine blk_alloc ?_ _)); refine blk_far ?_ NB283_284.out _; (with_reducible repeat (first | refine blk_drewN ?_ _ | refine blk_drew ?_ | refine blk_alloc ?_ _)); exact BK283.out⟩, ⟨by (with_reducible repeat (first | refine blk_drewN ?_ _ | refine blk_drew ?_ | refine blk_alloc ?_ _)); refine blk_put (cs := #[.int .i64 (l0.length : Int), .slice Ao24 x285001_2.length co24]) ?_ 1 _ rfl; (with_reducible repeat (first | refine blk_drewN ?_ _ | refine blk_drew ?_ | refine blk_alloc ?_ _)); exact BK284.out⟩, ⟨by repeat (first | (with_reducible first | exact HB.out | apply below_alloc | apply pw_below_drewN | apply below_drew1 | refine below_set ?_ GE283.out | refine below_set ?_ GE284.out) | exact HB.out)⟩⟩
            ·rw [if_neg c20] at H
             exact absurd H (by simp)
           ·rw [if_neg c19] at H
            exact absurd H (by simp)
          ·rw [if_neg c18] at H
           have c18b0 : decide (x30_2 < (t287.length : Int)) = false := decide_eq_false c18
           clear c18
           have H' := aM H
           clear H
           go_wp2
           go_roundg k2
           case measure => have := HK1.out; have := HK2.out; omega
           case rel => exact ⟨(wrap64 (x18_1 + 1)), (x284000_1), (x285001_2), (u285001), (by first | rfl | (simp; done) | (simp [*]; done)), H', ⟨by have := HK1.out; have := HK2.out; omega⟩, ⟨by (with_reducible repeat (first | apply Kd.S_alloc | apply Kd.S_drewN | apply Kd.S_drew)); exact HO_285001.out⟩, ⟨by (with_reducible repeat (first | refine blk_drewN ?_ _ | refine blk_drew ?_ | refine blk_alloc ?_ _)); exact BK283.out⟩, ⟨by (with_reducible repeat (first | refine blk_drewN ?_ _ | refine blk_drew ?_ | refine blk_alloc ?_ _)); exact BK284.out⟩, ⟨by repeat (first | (with_reducible first | exact HB.out | apply below_alloc | apply pw_below_drewN | apply below_drew1 | refine below_set ?_ GE283.out | refine below_set ?_ GE284.out) | exact HB.out)⟩⟩
      ·rw [if_neg c11] at H
       exact absurd H (by simp)
     ·rw [if_neg c10] at H
      exact absurd H (by simp)
    ·rw [if_neg c9] at H
     have c9b0 : decide (x18_1 < (l0.length : Int)) = false := decide_eq_false c9
     clear c9
     replace H := Option.bind_eq_some_iff.mp H
     obtain ⟨t285, A280, H⟩ := H
     replace H : (if t285 = true then (some ((l0.length : Int), x285001_1, true)) else (some (0, ([] : List (S102)), false))) = some (r1, r2, r3) := H
     have A28 := aM A280
     clear A280
     by_cases c29 : t285 = true
     ·subst c29
      have H1 : (some ((l0.length : Int), x285001_1, true)) = some (r1, r2, r3) := by rw [if_pos rfl] at H; exact H
      clear H
      have H := H1
      clear H1
      simp only [Option.some.injEq, Prod.mk.injEq] at H
      obtain ⟨rfl, rfl, rfl⟩ := H
      have hnb30 := NB284_283.out
      have hnc30 := NB283_284.out
      have hcz31_0 : wr.cell? ⟨gb284, 0, none⟩ = some (.int .i64 (l0.length : Int)) := (blk_cell BK284.out 0).trans rfl
      have hcz31_1 : wr.cell? ⟨gb284, 1, none⟩ = some (u285001) := (blk_cell BK284.out 1).trans rfl
      have hfz31_0 := blk_frozen BK284.out 0
      have hfz31_1 := blk_frozen BK284.out 1
      obtain ⟨Ao32, co32, eo32⟩ := Kd.S_slice HO_285001.out
      subst eo32
      go_wp2_with (first | ((with_reducible refine gate_callee (f := 44) rfl ?_); refine gL 43 Try.func44 #[.agg #[.int .i64 (l0.length : Int), .slice Ao32 x285001_1.length co32]] ?_; (with_reducible refine (spec_GoodWords.calls k1 (l0.length : Int) _ _ x285001_1 true _ ?side1 ?side2 A28.out).mono ?_); (case side1 => repeat (first | exact (Kd.S_reads' HO_285001.out).2.2 | (with_reducible refine Kd.C_alloc ?_ _) | (with_reducible refine Kd.C_drewN ?_ _) | (with_reducible refine Kd.C_drew ?_))); (case side2 => exact (Kd.S_reads' HO_285001.out).2.1); rintro e w33 ⟨rfl, hb⟩; refine ⟨_, rfl, ?_⟩; have n0_ := aM (Kd.S_below (by (with_reducible repeat (first | apply Kd.S_alloc | apply Kd.S_drewN | apply Kd.S_drew)); exact HO_285001.out) hb); have n1_ := aM (blk_below (g := gb283) (o := .cells #[.int .i64 x284000_1, .slice none 0 0] 33 (0, 0)) (by (with_reducible repeat (first | refine blk_drewN ?_ _ | refine blk_drew ?_ | refine blk_alloc ?_ _)); exact BK283.out) hb); have n2_ := aM (blk_below (g := gb284) (o := .cells #[.int .i64 (l0.length : Int), .slice Ao32 x285001_1.length co32] 33 (0, 0)) (by (with_reducible repeat (first | refine blk_drewN ?_ _ | refine blk_drew ?_ | refine blk_alloc ?_ _)); exact BK284.out) hb); have n3_ := aM (below_step (by repeat (first | (with_reducible first | exact HB.out | apply below_alloc | apply pw_below_drewN | apply below_drew1 | refine below_set ?_ GE283.out | refine below_set ?_ GE284.out) | exact HB.out)) hb); clear HO_285001; clear BK283; clear BK284; clear HB; have HO_285001 := n0_; have BK283 := n1_; have BK284 := n2_; have HB := n3_; clear n0_ n1_ n2_ n3_; (try clear hb); (try clear hb2); (try clear hk); (try clear hi); have hcz34_0 : w33.cell? ⟨gb284, 0, none⟩ = some (.int .i64 (l0.length : Int)) := (blk_cell BK284.out 0).trans rfl; have hcz34_1 : w33.cell? ⟨gb284, 1, none⟩ = some (.slice Ao32 x285001_1.length co32) := (blk_cell BK284.out 1).trans rfl; have hfz34_0 := blk_frozen BK284.out 0; have hfz34_1 := blk_frozen BK284.out 1; have hcz35_0 : w33.cell? ⟨gb283, 0, none⟩ = some (.int .i64 x284000_1) := (blk_cell BK283.out 0).trans rfl; have hcz35_1 : w33.cell? ⟨gb283, 1, none⟩ = some (.slice none 0 0) := (blk_cell BK283.out 1).trans rfl; have hfz35_0 := blk_frozen BK283.out 0; have hfz35_1 := blk_frozen BK283.out 1))
      refine bodyPost_ret (results_ct rfl _ _ gb283 33 #[.int .i64 (l0.length : Int), .slice Ao32 x285001_1.length co32] (0, 0) _ rfl (by (with_reducible repeat (first | refine blk_drewN ?_ _ | refine blk_drew ?_ | refine blk_alloc ?_ _)); refine blk_put (cs := #[.int .i64 (l0.length : Int), .slice none 0 0]) ?_ 1 _ rfl; (with_reducible repeat (first | refine blk_drewN ?_ _ | refine blk_drew ?_ | refine blk_alloc ?_ _)); refine blk_put (cs := #[.int .i64 x284000_1, .slice none 0 0]) ?_ 0 _ rfl; (with_reducible repeat (first | refine blk_drewN ?_ _ | refine blk_drew ?_ | refine blk_alloc ?_ _)); exact BK283.out) Try.underlying33 rfl (by kernel_rfl)) rfl ?_
      exact ⟨_, eR, by (with_reducible repeat (first | apply Kd.S_alloc | apply Kd.S_drewN | apply Kd.S_drew)); exact Kd.S_mono (Kd.S_far (p := ⟨gb283, 1, none⟩) (Kd.S_far (p := ⟨gb283, 0, none⟩) (Kd.S_types HO_285001.out BK283.out (by decide)) (fun _ hk => hk.2) (.int .i64 (l0.length : Int))) (fun _ hk => hk.2) (.slice Ao32 x285001_1.length co32)) (fun _ hk => trivial), by repeat (first | (with_reducible first | exact HB.out | apply below_alloc | apply pw_below_drewN | apply below_drew1 | refine below_set ?_ GE283.out | refine below_set ?_ GE284.out) | exact HB.out)⟩
     ·replace c29 := Bool.eq_false_iff.mpr c29
      subst c29
      have H1 : (some (0, ([] : List (S102)), false)) = some (r1, r2, r3) := by rw [if_neg (show ¬ (false = true) by decide)] at H; exact H
      clear H
      have H := H1
      clear H1
      simp only [Option.some.injEq, Prod.mk.injEq] at H
      obtain ⟨rfl, rfl, rfl⟩ := H
      have hnb36 := NB284_283.out
      have hnc36 := NB283_284.out
      have hcz37_0 : wr.cell? ⟨gb284, 0, none⟩ = some (.int .i64 (l0.length : Int)) := (blk_cell BK284.out 0).trans rfl
      have hcz37_1 : wr.cell? ⟨gb284, 1, none⟩ = some (u285001) := (blk_cell BK284.out 1).trans rfl
      have hfz37_0 := blk_frozen BK284.out 0
      have hfz37_1 := blk_frozen BK284.out 1
      obtain ⟨Ao38, co38, eo38⟩ := Kd.S_slice HO_285001.out
      subst eo38
      go_wp2_with (first | ((with_reducible refine gate_callee (f := 44) rfl ?_); refine gL 43 Try.func44 #[.agg #[.int .i64 (l0.length : Int), .slice Ao38 x285001_1.length co38]] ?_; (with_reducible refine (spec_GoodWords.calls k1 (l0.length : Int) _ _ x285001_1 false _ ?side1 ?side2 A28.out).mono ?_); (case side1 => repeat (first | exact (Kd.S_reads' HO_285001.out).2.2 | (with_reducible refine Kd.C_alloc ?_ _) | (with_reducible refine Kd.C_drewN ?_ _) | (with_reducible refine Kd.C_drew ?_))); (case side2 => exact (Kd.S_reads' HO_285001.out).2.1); rintro e w39 ⟨rfl, hb⟩; refine ⟨_, rfl, ?_⟩; have n0_ := aM (Kd.S_below (by (with_reducible repeat (first | apply Kd.S_alloc | apply Kd.S_drewN | apply Kd.S_drew)); exact HO_285001.out) hb); have n1_ := aM (blk_below (g := gb283) (o := .cells #[.int .i64 x284000_1, .slice none 0 0] 33 (0, 0)) (by (with_reducible repeat (first | refine blk_drewN ?_ _ | refine blk_drew ?_ | refine blk_alloc ?_ _)); exact BK283.out) hb); have n2_ := aM (blk_below (g := gb284) (o := .cells #[.int .i64 (l0.length : Int), .slice Ao38 x285001_1.length co38] 33 (0, 0)) (by (with_reducible repeat (first | refine blk_drewN ?_ _ | refine blk_drew ?_ | refine blk_alloc ?_ _)); exact BK284.out) hb); have n3_ := aM (below_step (by repeat (first | (with_reducible first | exact HB.out | apply below_alloc | apply pw_below_drewN | apply below_drew1 | refine below_set ?_ GE283.out | refine below_set ?_ GE284.out) | exact HB.out)) hb); clear HO_285001; clear BK283; clear BK284; clear HB; have HO_285001 := n0_; have BK283 := n1_; have BK284 := n2_; have HB := n3_; clear n0_ n1_ n2_ n3_; (try clear hb); (try clear hb2); (try clear hk); (try clear hi); have hcz40_0 : w39.cell? ⟨gb283, 0, none⟩ = some (.int .i64 x284000_1) := (blk_cell BK283.out 0).trans rfl; have hcz40_1 : w39.cell? ⟨gb283, 1, none⟩ = some (.slice none 0 0) := (blk_cell BK283.out 1).trans rfl; have hfz40_0 := blk_frozen BK283.out 0; have hfz40_1 := blk_frozen BK283.out 1))
      refine bodyPost_ret (results_ct rfl _ _ gb283 33 #[.int .i64 0, .slice none 0 0] (0, 0) _ rfl (by (with_reducible repeat (first | refine blk_drewN ?_ _ | refine blk_drew ?_ | refine blk_alloc ?_ _)); refine blk_put (cs := #[.int .i64 0, .slice none 0 0]) ?_ 1 _ rfl; (with_reducible repeat (first | refine blk_drewN ?_ _ | refine blk_drew ?_ | refine blk_alloc ?_ _)); refine blk_put (cs := #[.int .i64 x284000_1, .slice none 0 0]) ?_ 0 _ rfl; (with_reducible repeat (first | refine blk_drewN ?_ _ | refine blk_drew ?_ | refine blk_alloc ?_ _)); exact BK283.out) Try.underlying33 rfl (by kernel_rfl)) rfl ?_
      exact ⟨_, eR, by first | exact Kd.S_nil _ _ _ _ _ | exact Kd.N_nil _ _ _ _ _ | exact Kd.V_nil _ _ _ _ _ | exact Kd.Q_nil _ _ _ _ _ | exact Kd.R_nil _ _ _ _ _, by repeat (first | (with_reducible first | exact HB.out | apply below_alloc | apply pw_below_drewN | apply below_drew1 | refine below_set ?_ GE283.out | refine below_set ?_ GE284.out) | exact HB.out)⟩

end Go.Proofs.Ytaomjndfjmfelaa.PQ
end

section
namespace Go.Proofs.Ytaomjndfjmfelaa.MkX
set_option linter.unusedVariables false
set_option linter.unusedSimpArgs false
open Go.RowKit Go.Proofs.Ytaomjndfjmfelaa.PQ Go.Proofs.YtaomjndfjmfelaaW.PrintWords Go.Proofs.YtaomjndfjmfelaaW.PrintLast Go.Proofs.YtaomjndfjmfelaaW.PrintMore Go.Proofs.Ytaomjndfjmfelaa.Pre Go.Proofs.Ytaomjndfjmfelaa.Posts Go.Proofs.Ytaomjndfjmfelaa.GoodW Go.Proofs.Ytaomjndfjmfelaa.Strs
abbrev En1 := S102
abbrev Po1 := S56
theorem rd_po (l : List Po1) (i : Nat) (h : i < l.length) : rd_T56 l (i : Int) = l[i] := by
 unfold rd_T56
 simp [h]
theorem rd_e (l : List En1) (i : Nat) (h : i < l.length) : rd_T102 l (i : Int) = l[i] := by
 unfold rd_T102
 simp [h]
def mk1 (z j : Nat) : Po1 := ⟨((z + 2 * j : Nat) : Int), ((z + 2 * j + 1 : Nat) : Int)⟩
def mkP (n z : Nat) : List Po1 := (List.range n).map (mk1 z)
theorem mkP_len (n z : Nat) : (mkP n z).length = n := by simp [mkP]
theorem mark_evP (l : List Po1) (z : Nat) (hz : z ≤ 1073741824) (hl : l.length ≤ 1048576) : Evt (fun k => laws_markPostingS.f k l (z : Int)) (((z + 2 * l.length : Nat) : Int), mkP l.length z) := by
 unfold laws_markPostingS.f
 have key : ∀ (m i : Nat) (acc : List Po1), i + m = l.length → acc.length = l.length → (∀ j, j < i → acc[j]? = some (mk1 z j)) →
   Evt (fun k => laws_markPostingS.l0 k acc ((z + 2 * i : Nat) : Int) (i : Int)) (((z + 2 * l.length : Nat) : Int), mkP l.length z) := by
  intro m
  induction m with
  | zero =>
   intro i acc hi ha hj
   refine Evt.step (fun k => laws_markPostingS.l0.eq_2 _ _ _ k) (Evt.neg (by omega) ((Evt.const _).eq ?_))
   rw [show i = l.length by omega]
   congr 1
   unfold mkP
   apply List.ext_getElem?
   intro j
   by_cases hlt : j < l.length
   ·rw [hj j (by omega)]
    simp [hlt]
   ·rw [List.getElem?_eq_none (by omega), List.getElem?_eq_none (by simp; omega)]
  | succ m ih =>
   intro i acc hi ha hj
   refine Evt.step (fun k => laws_markPostingS.l0.eq_2 _ _ _ k) (Evt.pos (by omega) (Evt.pos (by omega) (Evt.bsome ?_)))
   rw [w64 (n := ((z + 2 * i : Nat) : Int) + 1) (by omega) (by omega), w64 (n := ((z + 2 * i : Nat) : Int) + 1 + 1) (by omega) (by omega), w64 (n := (i : Int) + 1) (by omega) (by omega)]
   rw [show ((z + 2 * i : Nat) : Int) + 1 + 1 = ((z + 2 * (i + 1) : Nat) : Int) by omega]
   refine ih (i + 1) _ (by omega) (by simp; omega) (fun j hlt => ?_)
   have hi' : i < acc.length := by omega
   have e : rd_T56 (acc.set (i : Int).toNat ⟨((z + 2 * i : Nat) : Int), (rd_T56 acc (i : Int)).f1⟩) (i : Int) = ⟨((z + 2 * i : Nat) : Int), (rd_T56 acc (i : Int)).f1⟩ := by
    rw [rd_po _ i (by simp; omega)]
    simp
   rw [e]
   by_cases hji : j = i
   ·subst hji
    rw [Int.toNat_natCast, List.set_set, List.getElem?_set_self (by omega)]
    unfold mk1
    simp
   ·rw [Int.toNat_natCast, List.set_set, List.getElem?_set_ne (by omega)]
    exact hj j (by omega)
 exact key l.length 0 l (by omega) rfl (fun j h => by omega)
theorem held_evP (n z : Nat) (hz : z ≤ 1073741824) (hl : n ≤ 1048576) : Evt (fun k => laws_heldPostingS.f k (mkP n z) (z : Int)) ((z + 2 * n : Nat) : Int) := by
 unfold laws_heldPostingS.f
 have hlen := mkP_len n z
 have key : ∀ (m i : Nat), i + m = n → Evt (fun k => laws_heldPostingS.l0 k (mkP n z) ((z + 2 * i : Nat) : Int) (i : Int)) ((z + 2 * n : Nat) : Int) := by
  intro m
  induction m with
  | zero =>
   intro i hi
   refine Evt.step (fun k => laws_heldPostingS.l0.eq_2 _ _ _ k) (Evt.neg (by omega) ((Evt.const _).eq ?_))
   rw [show i = n by omega]
  | succ m ih =>
   intro i hi
   have e : rd_T56 (mkP n z) (i : Int) = mk1 z i := by
    rw [rd_po _ i (by omega)]
    simp [mkP]
   refine Evt.step (fun k => laws_heldPostingS.l0.eq_2 _ _ _ k) (Evt.pos (by omega) (Evt.pos (by omega) ?_))
   rw [e, w64 (n := ((z + 2 * i : Nat) : Int) + 1) (by omega) (by omega), w64 (n := ((z + 2 * i : Nat) : Int) + 1 + 1) (by omega) (by omega), w64 (n := (i : Int) + 1) (by omega) (by omega)]
   refine Evt.pos rfl (Evt.pos (by unfold mk1; simp) ?_)
   rw [show ((z + 2 * i : Nat) : Int) + 1 + 1 = ((z + 2 * (i + 1) : Nat) : Int) by omega]
   exact ih (i + 1) (by omega)
 exact key n 0 (by omega)

def tot : List En1 → Nat
 | [] => 0
 | e :: l => 1 + 2 * e.f1.length + tot l
noncomputable def mkE : Nat → List En1 → List En1
 | _, [] => []
 | m, e :: l => ⟨mT m, mkP e.f1.length (m + 1)⟩ :: mkE (m + (1 + 2 * e.f1.length)) l
theorem mkE_len : ∀ (l : List En1) (m : Nat), (mkE m l).length = l.length
 | [], _ => rfl
 | r :: l, m => by
  show (mkE _ l).length + 1 = l.length + 1
  rw [mkE_len l]
theorem tot_app : ∀ (a b : List En1), tot (a ++ b) = tot a + tot b
 | [], b => by
  show tot b = 0 + tot b
  omega
 | r :: a, b => by
  show 1 + 2 * r.f1.length + tot (a ++ b) = (1 + 2 * r.f1.length + tot a) + tot b
  rw [tot_app a b]
  omega
theorem mkE_app : ∀ (a b : List En1) (m : Nat), mkE m (a ++ b) = mkE m a ++ mkE (m + tot a) b
 | [], b, m => rfl
 | r :: a, b, m => by
  show _ :: mkE _ (a ++ b) = (_ :: mkE _ a) ++ _
  rw [mkE_app a b, show m + tot (r :: a) = m + (1 + 2 * r.f1.length) + tot a by show m + (1 + 2 * r.f1.length + tot a) = _; omega]
  rfl
theorem tot_step (l : List En1) (i : Nat) (h : i < l.length) : tot (l.take (i + 1)) = tot (l.take i) + (1 + 2 * l[i].f1.length) := by
 rw [List.take_succ_eq_append_getElem h, tot_app]
 rfl
theorem tot_le : ∀ (l : List En1), (∀ x ∈ l, x.f1.length ≤ 1000) → tot l ≤ l.length * 2001
 | [], _ => Nat.zero_le _
 | r :: l, h => by
  have h1 := h r (List.mem_cons_self ..)
  have h2 := tot_le l (fun x hx => h x (List.mem_cons_of_mem _ hx))
  show 1 + 2 * r.f1.length + tot l ≤ (l.length + 1) * 2001
  rw [Nat.add_mul]
  omega
theorem set_next (l : List En1) (m i : Nat) (h : i < l.length) : (mkE m (l.take i) ++ l.drop i).set i ⟨mT (m + tot (l.take i)), mkP l[i].f1.length (m + tot (l.take i) + 1)⟩ = mkE m (l.take (i + 1)) ++ l.drop (i + 1) := by
 have hl : (mkE m (l.take i)).length = i := by rw [mkE_len, List.length_take]; omega
 rw [List.drop_eq_getElem_cons h, List.set_append_right _ _ (by omega), hl, Nat.sub_self, List.set_cons_zero, List.take_succ_eq_append_getElem h, mkE_app, List.append_assoc]
 rfl
theorem get_mid (l : List En1) (m i : Nat) (z : En1) (h : i < l.length) : (mkE m (l.take i) ++ l.drop i).getD i z = l[i] := by
 have hl : (mkE m (l.take i)).length = i := by rw [mkE_len, List.length_take]; omega
 rw [List.getD_eq_getElem?_getD, List.getElem?_append_right (by omega), hl, Nat.sub_self, List.drop_eq_getElem_cons h]
 rfl
theorem H_put0 {α : Type} {d : Kd α} {e g n cap i : Nat} {w : World} {base : Nat} {ok oki : Nat → Prop} {xs : List α} {a b : Value} (h : Kd.H d e w base ok (.slice (some ⟨g, 0, none⟩) n cap) xs (i : Int) oki [a, b]) (hi : i < n) (hs : d.sz = 2) (v : Value) (hv : v.oneCell' = true) :
  Kd.H d e (w.setCell ⟨g, i * 2, none⟩ v) base ok (.slice (some ⟨g, 0, none⟩) n cap) xs (i : Int) oki [v, b] ∧ w.grownBy (w.setCell ⟨g, i * 2, none⟩ v) (some g) := by
 have h1 := Kd.H_seg (seg := [v]) (j := 0) h (by omega) (by omega) (by rw [hs]; exact Nat.le_succ 1) (fun q hq => by rw [List.mem_singleton.1 hq]; exact hv)
 rw [Int.toNat_natCast, hs] at h1
 exact h1
/-- The marks are held. -/
theorem heldE_ev (l : List En1) (m : Nat) (hl : l.length ≤ 1000) (hx : ∀ x ∈ l, x.f1.length ≤ 1000) (hm : m ≤ 1048576) : Evt (fun k => laws_heldEntryS.f k (mkE m l) (m : Int)) ((m + tot l : Nat) : Int) := by
 unfold laws_heldEntryS.f
 have hlen := mkE_len l m
 have key : ∀ (n i : Nat), i + n = l.length → Evt (fun k => laws_heldEntryS.l0 k (mkE m l) ((m + tot (l.take i) : Nat) : Int) (i : Int)) ((m + tot l : Nat) : Int) := by
  intro n
  induction n with
  | zero =>
   intro i hi
   refine Evt.step (fun k => laws_heldEntryS.l0.eq_2 _ _ _ k) (Evt.neg (by omega) ((Evt.const _).eq ?_))
   rw [List.take_of_length_le (by omega)]
  | succ n ih =>
   intro i hi
   have hil : i < l.length := by omega
   have hq : rd_T102 (mkE m l) (i : Int) = ⟨mT (m + tot (l.take i)), mkP l[i].f1.length (m + tot (l.take i) + 1)⟩ := by
    rw [rd_e _ i (by omega)]
    have h1 : (mkE m l)[i]? = some ⟨mT (m + tot (l.take i)), mkP l[i].f1.length (m + tot (l.take i) + 1)⟩ := by
     conv => lhs; rw [← List.take_append_drop i l, List.drop_eq_getElem_cons hil, mkE_app]
     rw [List.getElem?_append_right (by rw [mkE_len, List.length_take]; omega), mkE_len, List.length_take, Nat.min_eq_left (by omega), Nat.sub_self]
     rfl
    rw [List.getElem?_eq_getElem (by omega)] at h1
    exact Option.some.inj h1
   have htl := tot_le (l.take i) (fun x hx2 => hx x (List.mem_of_mem_take hx2))
   have h3 : (l.take i).length * 2001 ≤ 1000 * 2001 := Nat.mul_le_mul_right _ (by rw [List.length_take]; omega)
   have hxi := hx _ (List.getElem_mem hil)
   refine Evt.step (fun k => laws_heldEntryS.l0.eq_2 _ _ _ k) (Evt.pos (by omega) (Evt.pos (by omega) (Evt.bind (mT_ev (m + tot (l.take i)) (by omega)) ?_)))
   rw [hq]
   refine Evt.pos rfl ?_
   rw [w64 (n := ((m + tot (l.take i) : Nat) : Int) + 1) (by omega) (by omega), show ((m + tot (l.take i) : Nat) : Int) + 1 = ((m + tot (l.take i) + 1 : Nat) : Int) by omega]
   refine Evt.bind (held_evP l[i].f1.length (m + tot (l.take i) + 1) (by omega) (by omega)) (Evt.neg (by omega) ?_)
   have e : m + tot (l.take i) + 1 + 2 * l[i].f1.length = m + tot (l.take (i + 1)) := by rw [tot_step l i hil]; omega
   rw [e, w64 (n := (i : Int) + 1) (by omega) (by omega), show (i : Int) + 1 = ((i + 1 : Nat) : Int) by omega]
   exact ih (i + 1) (by omega)
 have h := key l.length 0 (by omega)
 simpa [tot] using h
theorem heldW_ev (x : Int) (l : List En1) (m : Nat) (hl : l.length ≤ 1000) (hx : ∀ x ∈ l, x.f1.length ≤ 1000) (hm : m ≤ 1048576) : Evt (fun k => laws_heldWords.f k x (mkE m l) (m : Int)) ((m + tot l : Nat) : Int) := by
 unfold laws_heldWords.f
 exact Evt.bind (heldE_ev l m hl hx hm) (Evt.neg (by omega) (Evt.const _))
set_option maxHeartbeats 4000000 in
set_option maxRecDepth 100000 in
theorem mkE_calls (w0 : World) (S0 : Nat → Prop) (v : Value) (l : List En1) (m : Nat) (W : World) (hB : Below w0.heap.size w0 W) (hR : Kd.S k102 102 W w0.heap.size S0 v l) (hl : l.length ≤ 1000) (hx : ∀ x ∈ l, x.f1.length ≤ 1000) (hm : m ≤ 1048576) :
  Calls Try.prog 75 #[v, .int .i64 (m : Int)] W fun e W' => e = .returned (.int .i64 ((m + tot l : Nat) : Int)) ∧ Kd.S k102 102 W' w0.heap.size (fun k => S0 k ∨ W.heap.size ≤ k) v (mkE m l) ∧ Below w0.heap.size w0 W' ∧ Kept W W' S0 := by
 have HM := aM hm
 have HL := aM hl
 have HX := aM hx
 have HR := aM hR
 have HB0 := aM hB
 by_cases h0 : l.length = 0
 ·obtain ⟨A, c, rfl⟩ := Kd.S_slice hR
  have e0 := List.length_eq_zero_iff.1 h0
  subst e0
  clear hR hl hm hx hB h0 HX
  go_enter Try.func75, Try.ntmps75
  go_wp2
  go_loopg [1, 5] 1 (fun kq v1 v5 w' => v1 = .int .i64 (m : Int) ∧ v5 = .int .i64 0 ∧ w' = W)
  case atStart => exact ⟨rfl, rfl, rfl⟩
  case round =>
   obtain ⟨rfl, rfl, rfl⟩ := hrel
   go_wp2
   go_ret
   exact ⟨rfl, Kd.S_mono HR.out (fun k hk => .inl hk), HB0.out, Kept.refl _ _⟩
 ·obtain ⟨g, cap, rfl, hb0, hg0, _⟩ := Kd.S_form hR (by omega)
  have HGS := aM ((Kd.S_R hR).1 g (by simp [Value.ownBlock]))
  have HGB := aM hb0
  clear hR hl hm hx hB hb0 hg0
  go_enter Try.func75, Try.ntmps75
  go_wp2
  go_loopg [1, 5] l.length (fun kq v1 v5 w' => ∃ (i z : Nat), v1 = .int .i64 (z : Int) ∧ Aside0 (z = m + tot (l.take i)) ∧ v5 = .int .i64 (i : Int) ∧ i ≤ l.length ∧ kq = l.length - i ∧ Aside0 (Kd.S k102 102 w' w0.heap.size (fun k => S0 k ∨ W.heap.size ≤ k) (.slice (some ⟨g, 0, none⟩) l.length cap) (mkE m (l.take i) ++ l.drop i)) ∧ Aside0 (Below w0.heap.size w0 w') ∧ Aside0 (Kept W w' S0))
  case atStart => exact ⟨0, m, rfl, ⟨rfl⟩, rfl, by omega, by omega, ⟨Kd.S_mono HR.out (fun k hk => .inl hk)⟩, HB0, ⟨Kept.refl _ _⟩⟩
  case round =>
   clear h0
   obtain ⟨i, z, rfl, HZ, rfl, hi, hk, HS, HB, HK⟩ := hrel
   by_cases hlt : i < l.length
   ·have HLT := aM hlt
    have HKQ := aM hk
    obtain ⟨oki, ce, hcl, hM, hcc, hok, hH⟩ := Kd.S_lend HS.out z102 (i : Int) (by omega) (by omega)
    rw [Int.toNat_natCast, get_mid l m i _ hlt] at hM
    obtain ⟨u, hu, hU⟩ := k102_openM hM
    subst hu
    have hxi := HX.out _ (List.getElem_mem hlt)
    have htl := tot_le (l.take i) (fun x hx => HX.out x (List.mem_of_mem_take hx))
    have HZL : Aside0 (z ≤ 1073741823) := ⟨by rw [HZ.out]; have h1 := HM.out; have h2 := HL.out; rw [List.length_take] at htl; have h3 : min i l.length * 2001 ≤ 1000 * 2001 := Nat.mul_le_mul_right _ (by omega); omega⟩
    obtain ⟨z1, hz1⟩ : ∃ z1, z1 = z + 1 := ⟨_, rfl⟩
    have HZ1 := aM hz1
    obtain ⟨kt, hkt⟩ := (mT_ev z (by have := HZL.out; omega)).ex
    obtain ⟨km, hkm⟩ := (mark_evP l[i].f1 z1 (by have := HZL.out; omega) (by omega)).ex
    have HST := aM (tot_step l i HLT.out)
    have HSN := aM (set_next l m i HLT.out)
    rw [← HZ.out, ← hz1] at HSN
    obtain ⟨row, hrow⟩ : ∃ row, row = (l[i]'HLT.out).f1 := ⟨_, rfl⟩
    obtain ⟨x0, hx0⟩ : ∃ x0, x0 = (l[i]'HLT.out).f0 := ⟨_, rfl⟩
    simp only [← hrow, ← hx0] at hU hkm HST HSN hxi hH hcc hcl
    obtain ⟨tt, htt⟩ : ∃ tt, tt = mT z := ⟨_, rfl⟩
    rw [← htt] at hkt HSN
    obtain ⟨hc0, hf0⟩ := Cou.H_cell2 (i := i) hH HLT.out rfl 0 _ rfl
    have HU := aM hU
    have HH := aM hH
    have HKT := aM hkt
    have HKM := aM hkm
    have HOK := aM hok
    have HXI := aM hxi
    obtain ⟨Au, cu, eu⟩ := Kd.R_slice hU
    subst eu
    have p1 : (0 : Int) ≤ (i : Int) := by omega
    have hlt2 : (i : Int) < (l.length : Int) := by omega
    have hw1 : wrap64 ((z : Int) + 1) = (z1 : Int) := by have := HZL.out; rw [w64 (by omega) (by omega)]; omega
    have hw3 : wrap64 ((i : Int) + 1) = (i : Int) + 1 := by have := HL.out; rw [w64 (by omega) (by omega)]
    clear hz1 hx0 hcl hM hcc hok hH hU hkt hkm hrow htt hlt hk hi htl hxi hc0 hf0
    go_wp2_with (first | (go_at_call 76; go_loud ((with_reducible refine (laws_markText.calls kt (z : Int) tt _ HKT.out).mono ?_); rintro e w2 ⟨rfl, hb⟩; have HH2 := aM (Kd.H_below HH.out hb); have HU2 := aM (Kd.R_below HU.out hb); have HB2 := aM (below_then HB.out HB.out.size hb); have HK2 := aM (Kept.then_ HK.out (Kept.of_below hb S0) (fun k hk => .inl hk)); have hc0 : w2.cell? ⟨g, i * 2, none⟩ = some (.string x0) := (Cou.H_cell2 (i := i) HH2.out HLT.out rfl 0 _ rfl).1; have hf0 : w2.frozen? ⟨g, i * 2, none⟩ = false := (Cou.H_cell2 (i := i) HH2.out HLT.out rfl 0 _ rfl).2; obtain ⟨hh3, hg3⟩ := H_put0 (i := i) HH2.out HLT.out rfl (.string tt) (by simp [Value.oneCell']); have HH3 := aM hh3; have HG3 := aM hg3; have HU3 := aM (Kd.R_far (p := ⟨g, i * 2, none⟩) HU2.out (Cou.H_ne HH2.out) (.string tt)); have HB3 := aM (Below.setCell (p := ⟨g, i * 2, none⟩) HB2.out HGB.out (.string tt)); obtain ⟨hc1, hf1⟩ := Cou.H_cell2 (i := i) hh3 HLT.out rfl 1 _ rfl; clear hb hh3 hg3)) | (go_at_call 125; go_loud ((with_reducible refine (laws_markPostingS.calls km (fun k => some k = (Value.slice Au row.length cu).ownBlock) (.slice Au row.length cu) row (z1 : Int) _ _ w0 _ HB3.out (Kd.R_tight rfl HU3.out) HKM.out).mono ?_); rintro e w4 ⟨rfl, hy, hb4, hk4⟩; have HY := aM (Kd.R_tight rfl hy); have HB4 := aM hb4; have HK4 := aM hk4; have HH4 := aM (Kd.H_step HH3.out (fun k _ hn hlt => hk4.2 k hlt (fun he => hn (HU.out.1 k he.symm)))); clear hy hb4 hk4)))
    have HS3 := aM (Kd.H_back HH4.out (x' := (⟨tt, mkP row.length z1⟩ : En1)) (okp := fun k => some k = (Value.slice Au row.length cu).ownBlock) (k102_mkM _ _ _ (⟨tt, mkP row.length z1⟩ : En1) HY.out) (fun k hk => HU.out.1 k hk.symm))
    go_roundg (l.length - (i + 1))
    case measure => have := HLT.out; have := HKQ.out; omega
    case rel =>
     refine ⟨i + 1, z1 + 2 * row.length, rfl, ⟨?_⟩, by go_num, HLT.out, rfl, ⟨?_⟩, HB4, ⟨?_⟩⟩
     ·have h1 := HZ.out
      have h2 := HST.out
      have h3 := HZ1.out
      omega
     ·have h1 := HS3.out
      rw [Int.toNat_natCast, HSN.out] at h1
      exact h1
     ·exact Kept.then_ (HK2.out.setCell (p := ⟨g, i * 2, none⟩) (.inl HGS.out) (.string tt)) HK4.out (fun k hk => (HOK.out k (HU.out.1 k hk.symm)).1)
   ·obtain rfl : i = l.length := by omega
    have HE : Aside0 (z = m + tot l) := ⟨by rw [HZ.out, List.take_length]⟩
    clear hi hlt hk
    go_wp2
    go_ret
    rw [← HE.out]
    have h1 := HS.out
    rw [List.take_length, List.drop_length, List.append_nil] at h1
    exact ⟨rfl, h1, HB.out, HK.out⟩
set_option maxRecDepth 100000 in
theorem mkW_calls (w0 : World) (S0 : Nat → Prop) (x : Int) (v : Value) (l : List En1) (m : Nat) (W : World) (hB : Below w0.heap.size w0 W) (hR : Kd.S k102 102 W w0.heap.size S0 v l) (hl : l.length ≤ 1000) (hx : ∀ x ∈ l, x.f1.length ≤ 1000) (hm : m ≤ 1048576) :
  Calls Try.prog 24 #[.agg #[.int .i64 x, v], .int .i64 (m : Int)] W fun e W' => e = .returned (.int .i64 ((m + tot l : Nat) : Int)) ∧ Kd.S k102 102 W' w0.heap.size (fun k => S0 k ∨ W.heap.size ≤ k) v (mkE m l) ∧ Below w0.heap.size w0 W' ∧ Kept W W' S0 := by
 have hcal := mkE_calls w0 S0 v l m (W.alloc (.cells #[.int .i64 x, v] 33)) (below_alloc hB _) (Kd.S_alloc hR _) hl hx hm
 have HCAL := aM hcal
 have HK0 := aM ((Kept.refl W S0).alloc (.cells #[.int .i64 x, v] 33))
 obtain ⟨A, c, rfl⟩ := Kd.S_slice hR
 clear hR hl hm hx hB hcal
 go_enter Try.func24, Try.ntmps24
 go_wp2_with (first | (go_at_call 75; go_loud ((with_reducible refine (HCAL.out).mono ?_); rintro e w2 ⟨rfl, hs, hb, hk⟩; have HS2 := aM hs; have HB2 := aM hb; have HK2 := aM (HK0.out.then_ hk (fun k hk => .inl hk)); clear hs hb hk)))
 go_ret
 exact ⟨rfl, Kd.S_mono HS2.out (fun k hk => hk.imp id (fun h => by simp at h; omega)), HB2.out, HK2.out⟩
end Go.Proofs.Ytaomjndfjmfelaa.MkX
end

section
namespace Go.Proofs.Ytaomjndfjmfelaa.Ask
set_option linter.unusedVariables false
set_option linter.unusedSimpArgs false
open Go.RowKit Go.Proofs.Ytaomjndfjmfelaa.PQ Go.Proofs.YtaomjndfjmfelaaW.PrintWords Go.Proofs.YtaomjndfjmfelaaW.PrintLast Go.Proofs.YtaomjndfjmfelaaW.PrintMore Go.Proofs.Ytaomjndfjmfelaa.Pre Go.Proofs.Ytaomjndfjmfelaa.Posts Go.Proofs.Ytaomjndfjmfelaa.GoodW
def notW (s : ByteArray) : Bool := !isW s
theorem lit_calls (s : ByteArray) (w : World) (hs : s.size ≤ 1048576) : Calls Try.prog 152 #[.string s] w fun e w' => e = .returned (.bool (notW s)) ∧ Below w.heap.size w w' := by
 obtain ⟨k, hk⟩ := (isWord_ev s hs).ex
 have E := aM hk
 obtain ⟨b, hb⟩ : ∃ b, b = isW s := ⟨_, rfl⟩
 unfold notW
 rw [← hb] at E ⊢
 clear hk hb
 go_enter Try.func152, Try.ntmps152
 go_wp2_with (first | (go_at_call 89; go_loud ((with_reducible refine (impl_isWord.calls k s b _ E.out).mono ?_); rintro e w2 ⟨rfl, hd⟩; have HB2 := aM hd.below; clear hd)))
 go_ret
 exact ⟨rfl, HB2.out⟩
theorem str_at {w : World} {A : Option Addr} {xs : List ByteArray} (h : Kd.C Kd.string w A xs.length xs) (i : Nat) (hi : i < xs.length) : ∃ ad, A = some ad ∧ w.cell? (ad.add i) = some (.string xs[i]) := by
 obtain ⟨ad, c, e, _, hK, hc0⟩ := Kd.C_get h ByteArray.empty (i : Int) (by omega) (by omega)
 rw [Int.toNat_natCast, List.getD_eq_getElem?_getD, List.getElem?_eq_getElem hi] at hK
 rw [Int.toNat_natCast] at hc0
 have hk : c = [.string xs[i]] := hK
 subst hk
 refine ⟨ad, e, ?_⟩
 have h1 := hc0 0 _ rfl
 rw [show Kd.string.sz = 1 from rfl, Nat.mul_one, Nat.add_zero] at h1
 exact h1
def SmallS (l : List ByteArray) : Prop := l.length ≤ 1048576 ∧ ∀ s ∈ l, s.size ≤ 1048576
set_option maxHeartbeats 1000000 in
theorem index_calls (A : Option Addr) (c : Nat) (l : List ByteArray) (w : World) (hr : Kd.C Kd.string w A l.length l) (hl : SmallS l) :
  Calls Try.prog 165 #[.slice A l.length c, .func (.func 152) #[] #[]] w fun e w' => ∃ r : Int, e = .returned (.int .i64 r) ∧ decide ((0 : Int) ≤ r) = l.any notW ∧ Below w.heap.size w w' := by
 have HR := aM hr
 have HL := aM hl
 have HL1 := aM hl.1
 clear hr hl
 go_enter Try.func165, Try.ntmps165
 go_wp2
 go_loopg [8] l.length (fun kq v8 w' => ∃ i : Nat, v8 = .int .i64 (i : Int) ∧ i ≤ l.length ∧ kq = l.length - i ∧ Aside0 ((l.take i).any notW = false) ∧ Aside0 (Below w.heap.size w w'))
 case atStart => exact ⟨0, rfl, by omega, by omega, ⟨by simp⟩, ⟨Below.refl _ _⟩⟩
 case round =>
  obtain ⟨i, rfl, hi, hk, HE, HB⟩ := hrel
  by_cases hlt : i < l.length
  ·have HI := aM hlt
   have p1 : (0 : Int) ≤ (i : Int) := by omega
   have q1 : (i : Int) < (l.length : Int) := by omega
   obtain ⟨ad, rfl, hx0⟩ := str_at HR.out i hlt
   replace hx0 := (HB.out.cell (World.block_lt_of_cell? w _ hx0)).trans hx0
   obtain ⟨x, hxe⟩ : ∃ x, x = l[i] := ⟨_, rfl⟩
   rw [← hxe] at hx0
   have HX : Aside0 (x.size ≤ 1048576) := ⟨by rw [hxe]; exact HL.out.2 _ (List.getElem_mem hlt)⟩
   have HT : Aside0 ((l.take (i + 1)).any notW = notW x) := ⟨by rw [List.take_succ_eq_append_getElem hlt, List.any_append, HE.out, ← hxe]; simp⟩
   have HM : Aside0 (notW x = true → l.any notW = true) := ⟨fun h => List.any_eq_true.2 ⟨x, by rw [hxe]; exact List.getElem_mem hlt, h⟩⟩
   clear hxe
   obtain ⟨b, hb⟩ : ∃ b, b = notW x := ⟨_, rfl⟩
   have HBB := aM hb
   clear hb
   cases b with
   | true =>
    go_wp2_with (first | (go_at_call 152; go_loud ((with_reducible refine (lit_calls x _ HX.out).mono ?_); rintro e w2 ⟨rfl, hb⟩; rw [← HBB.out]; have HB2 := aM (below_step HB.out hb); clear hb)))
    go_ret
    exact ⟨_, rfl, by rw [HM.out HBB.out.symm]; simp, HB2.out⟩
   | false =>
    go_wp2_with (first | (go_at_call 152; go_loud ((with_reducible refine (lit_calls x _ HX.out).mono ?_); rintro e w2 ⟨rfl, hb⟩; rw [← HBB.out]; have HB2 := aM (below_step HB.out hb); clear hb)))
    go_roundg (l.length - (i + 1))
    case measure => have := HI.out; omega
    case rel => exact ⟨i + 1, by have := HL1.out; have := HI.out; first | go_num | (rw [w64 (by omega) (by omega)]; go_num), by have := HI.out; omega, by omega, ⟨HT.out.trans HBB.out.symm⟩, HB2⟩
  ·obtain rfl : i = l.length := by omega
   go_wp2
   go_ret
   exact ⟨-1, rfl, by rw [show l.any notW = false from by have h_ := HE.out; rwa [List.take_length] at h_]; rfl, HB.out⟩
theorem contains_calls (A : Option Addr) (c : Nat) (l : List ByteArray) (w : World) (hr : Kd.C Kd.string w A l.length l) (hl : SmallS l) :
  Calls Try.prog 151 #[.slice A l.length c, .func (.func 152) #[] #[]] w fun e w' => e = .returned (.bool (l.any notW)) ∧ Below w.heap.size w w' := by
 have HR := aM hr
 have HL := aM hl
 clear hr hl
 go_enter Try.func151, Try.ntmps151
 go_wp2_with (first | (go_at_call 165; go_loud ((with_reducible refine (index_calls A c l _ HR.out HL.out).mono ?_); rintro e w2 ⟨r, rfl, hr2, hb⟩; have HB2 := aM hb; clear hb)))
 go_ret
 exact ⟨rfl, HB2.out⟩
/-- Words may be asked for. -/
def asked (x : Int) (l : List En) (ws : List ByteArray) (most : Int) : Bool := goodW x l && decide ((ws.length : Int) ≤ most) && !ws.any notW
set_option maxRecDepth 100000 in
set_option maxHeartbeats 1000000 in
theorem calls (x : Int) (A : Option Addr) (c : Nat) (l : List En) (B : Option Addr) (d : Nat) (ws : List ByteArray) (most : Int) (w : World) (hr : Kd.C k102 w A l.length l) (hc : l.length ≤ c) (hl : Small l) (hs : Kd.C Kd.string w B ws.length ws) (hsl : SmallS ws) :
  Calls Try.prog 122 #[.agg #[.int .i64 x, .slice A l.length c], .slice B ws.length d, .int .i64 most] w fun e w' => e = .returned (.bool (asked x l ws most)) ∧ Below w.heap.size w w' := by
 have HR := aM hr
 have HC := aM hc
 have HS := aM hs
 have HSL := aM hsl
 obtain ⟨kg, hg⟩ := (impl_ev x l hl).ex
 obtain ⟨bg, hbg⟩ : ∃ b, b = goodW x l := ⟨_, rfl⟩
 obtain ⟨bw, hbw⟩ : ∃ b, b = ws.any notW := ⟨_, rfl⟩
 rw [← hbg] at hg
 have HG := aM hg
 have HBW := aM hbw
 have HB0 := aM (below_alloc (Below.refl w.heap.size w) (.cells #[.int .i64 x, .slice A l.length c] 33))
 have HSZ : Aside0 (w.heap.size ≤ (w.alloc (.cells #[.int .i64 x, .slice A l.length c] 33)).heap.size) := ⟨by simp⟩
 unfold asked
 rw [← hbg, ← hbw]
 clear hg hr hc hl hs hsl hbg hbw
 cases bg with
 | false =>
  go_enter Try.func122, Try.ntmps122
  go_wp2_with (first | (go_at_call 38; go_loud ((with_reducible refine (impl_GoodWords.calls kg x A c l _ _ (Kd.C_alloc HR.out _) HC.out HG.out).mono ?_); rintro e w2 ⟨rfl, hb⟩; have HB2 := aM (below_then HB0.out HSZ.out hb); clear hb)))
  go_ret
  exact ⟨rfl, HB2.out⟩
 | true =>
  by_cases hm : (ws.length : Int) ≤ most
  ·have hmb : decide ((ws.length : Int) ≤ most) = true := decide_eq_true hm
   rw [hmb]
   have HMB := aM hmb
   clear hm
   go_enter Try.func122, Try.ntmps122
   go_wp2_with (first | (go_at_call 38; go_loud ((with_reducible refine (impl_GoodWords.calls kg x A c l _ _ (Kd.C_alloc HR.out _) HC.out HG.out).mono ?_); rintro e w2 ⟨rfl, hb⟩; have HB2 := aM (below_then HB0.out HSZ.out hb); clear hb)) | (go_at_call 151; go_loud ((with_reducible refine (contains_calls B d ws _ (Kd.C_below HS.out HB2.out) HSL.out).mono ?_); rintro e w3 ⟨rfl, hb⟩; rw [← HBW.out]; have HB3 := aM (below_step HB2.out hb); clear hb)))
   go_ret
   exact ⟨by simp, HB3.out⟩
  ·have hmb : decide ((ws.length : Int) ≤ most) = false := decide_eq_false hm
   rw [hmb]
   clear hm
   go_enter Try.func122, Try.ntmps122
   go_wp2_with (first | (go_at_call 38; go_loud ((with_reducible refine (impl_GoodWords.calls kg x A c l _ _ (Kd.C_alloc HR.out _) HC.out HG.out).mono ?_); rintro e w2 ⟨rfl, hb⟩; have HB2 := aM (below_then HB0.out HSZ.out hb); clear hb)))
   go_ret
   exact ⟨by simp, HB2.out⟩
end Go.Proofs.Ytaomjndfjmfelaa.Ask
end

section
namespace Go.Proofs.Ytaomjndfjmfelaa.MkS
set_option linter.unusedVariables false
set_option linter.unusedSimpArgs false
open Go.RowKit Go.Proofs.Ytaomjndfjmfelaa.PQ Go.Proofs.YtaomjndfjmfelaaW.PrintWords Go.Proofs.YtaomjndfjmfelaaW.PrintLast Go.Proofs.YtaomjndfjmfelaaW.PrintMore Go.Proofs.Ytaomjndfjmfelaa.Pre Go.Proofs.Ytaomjndfjmfelaa.Shp Go.Proofs.Ytaomjndfjmfelaa.Ask
set_option maxRecDepth 100000 in
set_option maxHeartbeats 1000000 in
theorem mkS_calls (v : Value) (n : Nat) (m : Nat) (W : World) (hR : Row W 9 n 1 v) (hn : n ≤ 1048576) (hm : m ≤ 4398046511104) :
  Calls Try.prog 25 #[v, .int .i64 (m : Int)] W fun e W' => (∃ r : Int, 0 ≤ r ∧ e = .returned (.int .i64 r)) ∧ Mk (fun k => some k = v.ownBlock) W W' := by
 rcases hR with ⟨rfl, rfl⟩ | ⟨g, cap, cur, rfl, hg, hz⟩
 ·go_enter Try.func25, Try.ntmps25
  go_wp2
  go_loopg [1, 5] 1 (fun kq v1 v5 w' => v1 = .int .i64 (m : Int) ∧ v5 = .int .i64 0 ∧ w' = W)
  case atStart => exact ⟨rfl, rfl, rfl⟩
  case round =>
   obtain ⟨rfl, rfl, rfl⟩ := hrel
   go_wp2
   go_ret
   exact ⟨⟨_, by omega, rfl⟩, Mk.refl _ _⟩
 ·have HG := aM hg
  have HZ := aM hz
  have HN := aM hn
  have HM := aM hm
  clear hg hz hn hm
  go_enter Try.func25, Try.ntmps25
  go_wp2
  go_loopg [1, 5] n (fun kq v1 v5 w' => ∃ (i z : Nat), v1 = .int .i64 (z : Int) ∧ Aside0 (z = m + i) ∧ v5 = .int .i64 (i : Int) ∧ i ≤ n ∧ kq = n - i ∧ Aside0 (Mk (fun k => k = g) W w'))
  case atStart => exact ⟨0, m, rfl, ⟨rfl⟩, rfl, by omega, by omega, ⟨Mk.refl _ _⟩⟩
  case round =>
   obtain ⟨i, z, rfl, HZ2, rfl, hi, hk, HK⟩ := hrel
   by_cases hlt : i < n
   ·have HI := aM hlt
    obtain ⟨c1, h1, e1⟩ := HK.out.2.2 g cur _ HG.out
    have H1 := aM h1
    have E1 := aM e1
    clear h1 e1
    obtain ⟨kt, hkt⟩ := (Strs.mT_ev z (by have := HZ2.out; have := HM.out; have := HN.out; omega)).ex
    obtain ⟨tt, ht⟩ : ∃ tt, tt = Strs.mT z := ⟨_, rfl⟩
    rw [← ht] at hkt
    have HT := aM hkt
    clear hkt ht
    have p1 : (0 : Int) ≤ (i : Int) := by omega
    have q1 : (i : Int) < (n : Int) := by omega
    have hw1 : wrap64 ((z : Int) + 1) = (z : Int) + 1 := by have := HZ2.out; have := HM.out; have := HN.out; rw [w64 (by omega) (by omega)]
    have hw3 : wrap64 ((i : Int) + 1) = (i : Int) + 1 := by have := HN.out; rw [w64 (by omega) (by omega)]
    go_wp2_with (first | (go_at_call 76; go_loud ((with_reducible refine (laws_markText.calls kt (z : Int) tt _ HT.out).mono ?_); rintro e w2 ⟨rfl, hb⟩; have HK1 := aM (HK.out.below hb); have h2 : w2.heap[g]? = some (.cells c1 9 (0, 0)) := (hb.block g (lt_of_some H1.out)).trans H1.out; obtain ⟨hx0, hf0⟩ := cell_at h2 i (by rw [E1.out]; have := HZ.out; have := HI.out; omega); have HK2 := aM (HK1.out.setCell (j := i) h2 rfl (.string tt)); clear h2 hb)))
    go_roundg (n - (i + 1))
    case measure => have := HI.out; omega
    case rel => exact ⟨i + 1, z + 1, by go_num, ⟨by have := HZ2.out; omega⟩, by go_num, by have := HI.out; omega, by omega, HK2⟩
   ·obtain rfl : i = n := by omega
    go_wp2
    go_ret
    refine ⟨⟨_, by omega, rfl⟩, HK.out.1, HK.out.2.1.mono (fun k hk => ?_), HK.out.2.2⟩
    rw [hk]
    rfl
theorem toS_ev (l : List ByteArray) (hl : l.length ≤ 1048576) : Evt (fun k => laws_toStringS.f k l) l := by
 unfold laws_toStringS.f
 refine Evt.pos (by omega) (Evt.pos (by omega) ?_)
 have h := fill (L := fun k acc i => laws_toStringS.l0 k l acc i) (f := fun i => l.getD i ByteArray.empty) (n := l.length) ?_ ?_ (List.replicate ((l.length : Int)).toNat (⟨#[]⟩ : ByteArray)) (by simp)
 ·have e := map_range l ByteArray.empty (fun x => x)
  rw [List.map_id'] at e
  rw [e] at h
  exact h
 ·intro acc ha
  refine Evt.step (fun k => laws_toStringS.l0.eq_2 _ _ _ k) (Evt.neg (by omega) (Evt.const _))
 ·intro acc i r hi ha hr
  refine Evt.step (fun k => laws_toStringS.l0.eq_2 _ _ _ k) (Evt.pos (by omega) (Evt.pos (by omega) (Evt.pos (by omega) ?_)))
  rw [w64 (n := (i : Int) + 1) (by omega) (by omega)]
  exact hr
theorem szS_ev (l : List ByteArray) (hl : l.length ≤ 9223372036854775807) (hx : ∀ x ∈ l, x.size ≤ 9223372036854775807) (c : Int) (hc0 : 0 ≤ c) (hc1 : c ≤ 1048576) : ∃ r : Int, Evt (fun k => laws_szStringS.f k l c) r ∧ (0 ≤ r → SmallS l) := by
 unfold laws_szStringS.f
 rw [w64 (n := c - (l.length : Int)) (by omega) (by omega)]
 by_cases hbig : (l.length : Int) ≤ c
 ·have key : ∀ (m i : Nat) (a : Int), i + m = l.length → 0 ≤ a → a ≤ 1048576 → (∀ x ∈ l.take i, x.size ≤ 1048576) → ∃ r : Int, Evt (fun k => laws_szStringS.l0 k l a (i : Int)) r ∧ (0 ≤ r → SmallS l) := by
   intro m
   induction m with
   | zero =>
    intro i a hi h0 h1 ht
    refine ⟨a, Evt.step (fun k => laws_szStringS.l0.eq_2 _ _ _ k) (Evt.neg (by omega) (Evt.const _)), fun _ => ⟨by omega, ?_⟩⟩
    rwa [List.take_of_length_le (by omega)] at ht
   | succ m ih =>
    intro i a hi h0 h1 ht
    have hi2 : i < l.length := by omega
    have hm := hx _ (List.getElem_mem hi2)
    have hrd : rdOf ByteArray.empty l (i : Int) = l[i] := Strs.rd_get l i hi2
    by_cases hlt : a < l[i].size
    ·refine ⟨-1, Evt.step (fun k => laws_szStringS.l0.eq_2 _ _ _ k) (Evt.pos (by omega) (Evt.pos (by omega) ?_)), fun h => by omega⟩
     rw [hrd, w64 (n := a - (l[i].size : Int)) (by omega) (by omega)]
     exact Evt.pos (by omega) (Evt.const _)
    ·obtain ⟨r, hr, hb⟩ := ih (i + 1) (a - l[i].size) (by omega) (by omega) (by omega) (by
      intro x hxm
      rw [List.take_succ_eq_append_getElem hi2, List.mem_append, List.mem_singleton] at hxm
      rcases hxm with hxm | rfl
      ·exact ht x hxm
      ·omega)
     refine ⟨r, Evt.step (fun k => laws_szStringS.l0.eq_2 _ _ _ k) (Evt.pos (by omega) (Evt.pos (by omega) ?_)), hb⟩
     rw [hrd, w64 (n := a - (l[i].size : Int)) (by omega) (by omega), w64 (n := (i : Int) + 1) (by omega) (by omega)]
     exact Evt.neg (by omega) hr
  obtain ⟨r, hr, hb⟩ := key l.length 0 (c - (l.length : Int)) (by omega) (by omega) (by omega) (by simp)
  exact ⟨r, Evt.neg (by omega) hr, hb⟩
 ·exact ⟨-1, Evt.pos (by omega) (Evt.const _), fun h => by omega⟩
end Go.Proofs.Ytaomjndfjmfelaa.MkS
end

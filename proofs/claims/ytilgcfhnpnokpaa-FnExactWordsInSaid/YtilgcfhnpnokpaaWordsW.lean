/- impl.wordsIn: the words of a text, by hand. No conditions. -/
import Derived.Test.YtilgcfhnpnokpaaPre
import Derived.Test.YtilgcfhnpnokpaaPQx0
import Derived.Test.YtilgcfhnpnokpaaPQimplwordByte
namespace Go.Proofs.Ytilgcfhnpnokpaa.WordsW
set_option linter.unusedVariables false
set_option linter.unusedSimpArgs false
open Go.RowKit Go.Proofs.Ytilgcfhnpnokpaa.PQ Go.Proofs.YtilgcfhnpnokpaaW.PrintWords Go.Proofs.YtilgcfhnpnokpaaW.PrintLast Go.Proofs.YtilgcfhnpnokpaaW.PrintMore Go.Proofs.Ytilgcfhnpnokpaa.Pre

/-- The two captured slices, in their cells. -/
structure Env (base bo bw : Nat) (W : World) (vo vw : Value) (outs : List ByteArray) (word : List Int) : Prop where
  o : W.heap[bo]? = some (.cells #[vo] 34 (0, 0))
  w : W.heap[bw]? = some (.cells #[vw] 56 (0, 0))
  ro : Kd.string.R 9 W base (fun _ => True) vo outs
  rw : (Kd.int .u8).R 5 W base (fun _ => True) vw word
def flushO (outs : List ByteArray) (word : List Int) : List ByteArray := if 0 < word.length then outs ++ [strOfNums word] else outs
def flushW (word : List Int) : List Int := []
theorem cell_of {W : World} {b t : Nat} {v : Value} (h : W.heap[b]? = some (.cells #[v] t (0, 0))) : W.cell? ⟨b, 0, none⟩ = some v ∧ W.frozen? ⟨b, 0, none⟩ = false := by
  constructor
  · unfold World.cell?
    rw [show W.heap[(⟨b, 0, none⟩ : Addr).block]? = _ from h]
    rfl
  · unfold World.frozen?
    rw [show W.heap[(⟨b, 0, none⟩ : Addr).block]? = _ from h]
    rfl

theorem Env.after_o {base bo bw : Nat} {W w1 : World} {vo vw vo' : Value} {outs outs' : List ByteArray} {word : List Int} (hE : Env base bo bw W vo vw outs word)
    (hg : W.grownBy w1 vo.ownBlock) (ho : Kd.string.R 9 w1 base (fun _ => True) vo' outs') :
    w1.heap[bo]? = some (.cells #[vo] 34 (0, 0)) ∧ w1.heap[bw]? = some (.cells #[vw] 56 (0, 0)) ∧ (Kd.int .u8).R 5 w1 base (fun _ => True) vw word := by
  have l1 : bo < W.heap.size := World.block_lt_of_cell? W ⟨bo, 0, none⟩ (cell_of hE.o).1
  have l2 : bw < W.heap.size := World.block_lt_of_cell? W ⟨bw, 0, none⟩ (cell_of hE.w).1
  have n1 := Kd.R_ne hE.ro hE.o (by decide)
  have n2 := Kd.R_ne hE.ro hE.w (by decide)
  refine ⟨(hg.block bo l1 n1).trans hE.o, (hg.block bw l2 n2).trans hE.w, Kd.R_over hE.rw hE.ro (by decide) hg⟩
theorem Env.after_w {base bo bw : Nat} {W w1 : World} {vo vw vw' : Value} {outs : List ByteArray} {word word' : List Int} (hE : Env base bo bw W vo vw outs word)
    (hg : W.grownBy w1 vw.ownBlock) (ho : (Kd.int .u8).R 5 w1 base (fun _ => True) vw' word') :
    w1.heap[bo]? = some (.cells #[vo] 34 (0, 0)) ∧ w1.heap[bw]? = some (.cells #[vw] 56 (0, 0)) ∧ Kd.string.R 9 w1 base (fun _ => True) vo outs := by
  have l1 : bo < W.heap.size := World.block_lt_of_cell? W ⟨bo, 0, none⟩ (cell_of hE.o).1
  have l2 : bw < W.heap.size := World.block_lt_of_cell? W ⟨bw, 0, none⟩ (cell_of hE.w).1
  have n1 := Kd.R_ne hE.rw hE.o (by decide)
  have n2 := Kd.R_ne hE.rw hE.w (by decide)
  refine ⟨(hg.block bo l1 n1).trans hE.o, (hg.block bw l2 n2).trans hE.w, Kd.R_over hE.ro hE.rw (by decide) hg⟩
theorem Env.drawn {base bo bw : Nat} {W : World} {vo vw : Value} {outs : List ByteArray} {word : List Int} (hE : Env base bo bw W vo vw outs word) (n : Nat) : Env base bo bw (W.drewN n) vo vw outs word where
  o := hE.o
  w := hE.w
  ro := Kd.R_drewN hE.ro n
  rw := Kd.R_drewN hE.rw n
theorem Env.put_o {base bo bw : Nat} {W : World} {vo vw vo' : Value} {outs : List ByteArray} {word : List Int} (hne : bo ≠ bw) (h1 : W.heap[bo]? = some (.cells #[vo] 34 (0, 0)))
    (h2 : W.heap[bw]? = some (.cells #[vw] 56 (0, 0))) (h3 : Kd.string.R 9 W base (fun _ => True) vo' outs) (h4 : (Kd.int .u8).R 5 W base (fun _ => True) vw word) :
    Env base bo bw (W.setCell ⟨bo, 0, none⟩ vo') vo' vw outs word where
  o := by
    rw [heap_setCell_same W bo 0 _ _ _ h1]
    rfl
  w := by
    rw [heap_setCell_other W ⟨bo, 0, none⟩ bw _ (Ne.symm hne)]
    exact h2
  ro := Kd.R_set h3 h1 (by decide) 0 _
  rw := Kd.R_set h4 h1 (by decide) 0 _
theorem Env.put_w {base bo bw : Nat} {W : World} {vo vw vw' : Value} {outs : List ByteArray} {word : List Int} (hne : bo ≠ bw) (h1 : W.heap[bo]? = some (.cells #[vo] 34 (0, 0)))
    (h2 : W.heap[bw]? = some (.cells #[vw] 56 (0, 0))) (h3 : Kd.string.R 9 W base (fun _ => True) vo outs) (h4 : (Kd.int .u8).R 5 W base (fun _ => True) vw' word) :
    Env base bo bw (W.setCell ⟨bw, 0, none⟩ vw') vo vw' outs word where
  w := by
    rw [heap_setCell_same W bw 0 _ _ _ h2]
    rfl
  o := by
    rw [heap_setCell_other W ⟨bw, 0, none⟩ bo _ hne]
    exact h1
  ro := Kd.R_set h3 h2 (by decide) 0 _
  rw := Kd.R_set h4 h2 (by decide) 0 _

set_option maxHeartbeats 1000000 in
set_option maxRecDepth 100000 in
theorem flush_calls (base bo bw : Nat) (W : World) (vo vw : Value) (outs : List ByteArray) (word : List Int) (hE : Env base bo bw W vo vw outs word) (hbo : base ≤ bo) (hbw : base ≤ bw) (hne : bo ≠ bw) (hbase : base ≤ W.heap.size) (ho : outs.length ≤ 1000) (hw : word.length ≤ 1000) :
    Calls Try.prog 99 #[.pointer (some ⟨bw, 0, none⟩), .pointer (some ⟨bo, 0, none⟩)] W fun e w' => e = .returned (.tuple #[]) ∧ (∃ vo' vw', Env base bo bw w' vo' vw' (flushO outs word) []) ∧ Below base W w' := by
  have HE := Aside0.mk hE
  have hco := (cell_of hE.o)
  have hcw := (cell_of hE.w)
  obtain ⟨hco, hfo⟩ := hco
  obtain ⟨hcw, hfw⟩ := hcw
  obtain ⟨Aw, cw, hvw, hlw, hCw⟩ := Kd.R_reads (v := vw) hE.rw
  subst hvw
  go_enter Try.func99, Try.ntmps99
  by_cases hz : 0 < word.length
  · have hcv := own_string (P := Try.prog) Try.underlying56 Try.underlying5 Try.underlying9 (Kd.own_of_R hE.rw)
    go_wp2_with (first | ((with_reducible refine gate_builtin (b := .append) (xs := #[.tmp 5, .tmp 8]) rfl ?_); at_builtin; refine Kd.R_append Kd.string (w0 := W) base rfl (.tmp 5) (.tmp 8) 34 9 (.string ⟨#[]⟩) 16 rfl Try.underlying34 info9 rfl (by decide) (by omega) vo outs (strOfNums word) [.string (strOfNums word)] (fun _ => True) (fun _ => False) rfl rfl ?aP (fun _ hk => hk.elim) ?aF ?aO ?aB ?aS ?aL ?_; (case aP => exact rfl); (case aB => exact Below.refl _ _); (case aF => exact (fun _ _ => trivial)); (case aO => exact HE.out.ro); (case aS => exact hbase); (case aL => omega); intro v1 w1 ho1 hb hg hat; obtain ⟨A1, c1, e1⟩ := Kd.R_slice ho1; subst e1; obtain ⟨g1, g2, g3⟩ := HE.out.after_o hg ho1; have G1 := Aside0.mk g1; have G2 := Aside0.mk (Env.put_o hne g1 g2 ho1 g3); clear hat hg ho1 g3; obtain ⟨hco1, hfo1⟩ := cell_of g1; obtain ⟨hcw1, hfw1⟩ := cell_of g2; obtain ⟨hcw2, hfw2⟩ := cell_of G2.out.w; have HB1 := Aside0.mk hb; clear hb g1 g2))
    go_end0
    have e : outs.length + 1 = (outs ++ [strOfNums word]).length := by simp
    rw [e]
    refine ⟨rfl, ⟨.slice A1 (outs ++ [strOfNums word]).length c1, .slice Aw 0 cw, ?_⟩, (HB1.out.setCell hbo _).setCell hbw _⟩
    unfold flushO
    rw [if_pos hz]
    exact Env.put_w hne G2.out.o G2.out.w G2.out.ro (Kd.R_take (m := 0) G2.out.rw (Nat.zero_le _))
  · obtain hl : word.length = 0 := by omega
    obtain rfl : word = [] := List.eq_nil_of_length_eq_zero hl
    go_wp2
    go_end0
    exact ⟨rfl, ⟨_, _, HE.out⟩, Below.refl _ _⟩
/-- What stands in the two captured slices behind so many bytes. -/
def stepO (c : Int) (p : List ByteArray × List Int) : List ByteArray × List Int := if c = 0 ∨ p.2.length = 20 then (flushO p.1 p.2, []) else p
def stepC (c : Int) (p : List ByteArray × List Int) : List ByteArray × List Int := if c = 0 then p else (p.1, p.2 ++ [c])
/-- A letter or digit, small. -/
def small (c : Int) : Int := if 65 ≤ c ∧ c ≤ 90 then c + 32 else if 97 ≤ c ∧ c ≤ 122 ∨ 48 ≤ c ∧ c ≤ 57 then c else 0
theorem small_ev (c : Int) : Evt (fun k => impl_wordByte.f k c) (small c) := by
  have h0 : ∀ b, Evt (fun k => impl_wordByte.j1 k c b) (if b = true then c else if 48 ≤ c ∧ c ≤ 57 then c else 0) := fun b => by
    refine Evt.step (fun k => impl_wordByte.j1.eq_2 _ _ k) ?_
    cases b
    · refine Evt.neg (by simp) ?_
      rw [if_neg (show ¬ (false = true) by simp)]
      by_cases h1 : c ≥ 48
      · refine Evt.pos h1 ?_
        by_cases h2 : c ≤ 57
        · rw [if_pos (show 48 ≤ c ∧ c ≤ 57 from ⟨h1, h2⟩)]
          exact Evt.pos h2 (Evt.const _)
        · rw [if_neg (show ¬ (48 ≤ c ∧ c ≤ 57) by omega)]
          exact Evt.neg h2 (Evt.const _)
      · rw [if_neg (show ¬ (48 ≤ c ∧ c ≤ 57) by omega)]
        exact Evt.neg h1 (Evt.const _)
    · exact Evt.pos rfl (Evt.const _)
  have h1 : ∀ b, Evt (fun k => impl_wordByte.j0 k c b) (if b = true then (c + 32) % 256 else if 97 ≤ c ∧ c ≤ 122 ∨ 48 ≤ c ∧ c ≤ 57 then c else 0) := fun b => by
    refine Evt.step (fun k => impl_wordByte.j0.eq_2 _ _ k) ?_
    cases b
    · refine Evt.neg (by simp) ?_
      rw [if_neg (by simp)]
      by_cases h2 : c ≥ 97
      · refine Evt.pos h2 ((h0 _).eq ?_)
        by_cases h3 : c ≤ 122
        · rw [if_pos (by simpa using h3), if_pos (by omega)]
        · rw [if_neg (by simpa using h3), if_neg (by omega), if_neg (by omega)]
      · refine Evt.neg h2 ((h0 _).eq ?_)
        rw [if_neg (by simp)]
        by_cases h3 : 48 ≤ c ∧ c ≤ 57
        · rw [if_pos h3, if_pos (.inr h3)]
        · rw [if_neg h3, if_neg (by omega)]
    · exact Evt.pos rfl (Evt.const _)
  unfold impl_wordByte.f small
  by_cases h2 : c ≥ 65
  · refine Evt.pos h2 ((h1 _).eq ?_)
    by_cases h3 : c ≤ 90
    · rw [if_pos (by simpa using h3), if_pos (by omega)]
      omega
    · rw [if_neg (by simpa using h3), if_neg (show ¬(65 ≤ c ∧ c ≤ 90) by omega)]
  · refine Evt.neg h2 ((h1 _).eq ?_)
    rw [if_neg (by simp), if_neg (show ¬(65 ≤ c ∧ c ≤ 90) by omega)]
theorem small_calls (c : Int) (w : World) : Calls Try.prog 100 #[.int .u8 c] w fun e w' => e = .returned (.int .u8 (small c)) ∧ Drawn0 w w' := by
  obtain ⟨k, h⟩ := (small_ev c).ex
  exact impl_wordByte.calls k c _ w h
def stepW (s : ByteArray) : Nat → List ByteArray × List Int
  | 0 => ([], [])
  | i + 1 => stepC (small (bt s (i : Int))) (stepO (small (bt s (i : Int))) (stepW s i))
def wordsOf (s : ByteArray) : List ByteArray := flushO (stepW s s.size).1 (stepW s s.size).2
theorem flushO_len (o : List ByteArray) (w : List Int) : (flushO o w).length ≤ o.length + 1 := by
  unfold flushO
  split <;> simp
theorem stepW_len (s : ByteArray) : ∀ i, (stepW s i).1.length ≤ i ∧ (stepW s i).2.length ≤ 20
  | 0 => by simp [stepW]
  | i + 1 => by
    have ih := stepW_len s i
    have hf := flushO_len (stepW s i).1 (stepW s i).2
    show (stepC (small (bt s (i : Int))) (stepO (small (bt s (i : Int))) (stepW s i))).1.length ≤ i + 1 ∧ (stepC (small (bt s (i : Int))) (stepO (small (bt s (i : Int))) (stepW s i))).2.length ≤ 20
    revert ih hf
    obtain ⟨o, wd⟩ := stepW s i
    intro ih hf
    replace ih : o.length ≤ i ∧ wd.length ≤ 20 := ih
    replace hf : (flushO o wd).length ≤ o.length + 1 := hf
    unfold stepC stepO
    by_cases h1 : small (bt s (i : Int)) = 0
    · rw [if_pos h1, if_pos (.inl h1)]
      simp
      omega
    · rw [if_neg h1]
      by_cases h2 : wd.length = 20
      · rw [if_pos (.inr h2)]
        simp
        omega
      · rw [if_neg (by simp [h1, h2])]
        simp
        omega

theorem at_new (w : World) (o : Obj) : (w.alloc o).heap[w.heap.size]? = some o := by
  show (w.heap.push o)[w.heap.size]? = some o
  simp
theorem at_old (w : World) (o : Obj) (k : Nat) (h : k < w.heap.size) : (w.alloc o).heap[k]? = w.heap[k]? := by
  show (w.heap.push o)[k]? = _
  rw [Array.getElem?_push, if_neg (by omega)]
theorem start (w : World) : Env w.heap.size (w.heap.size + 1 + 1) (w.heap.size + 1 + 1 + 1)
    ((((w.alloc (.cells #[] 9)).alloc (.cells #[] 5)).alloc (.cells #[.slice (some ⟨w.heap.size, 0, none⟩) 0 0] 34)).alloc (.cells #[.slice (some ⟨w.heap.size + 1, 0, none⟩) 0 0] 56))
    (.slice (some ⟨w.heap.size, 0, none⟩) 0 0) (.slice (some ⟨w.heap.size + 1, 0, none⟩) 0 0) [] [] where
  o := by
    rw [at_old _ _ _ (by simp)]
    have h := at_new ((w.alloc (.cells #[] 9)).alloc (.cells #[] 5)) (.cells #[.slice (some ⟨w.heap.size, 0, none⟩) 0 0] 34)
    rwa [show ((w.alloc (.cells #[] 9)).alloc (.cells #[] 5)).heap.size = w.heap.size + 1 + 1 by simp] at h
  w := by
    have h := at_new (((w.alloc (.cells #[] 9)).alloc (.cells #[] 5)).alloc (.cells #[.slice (some ⟨w.heap.size, 0, none⟩) 0 0] 34)) (.cells #[.slice (some ⟨w.heap.size + 1, 0, none⟩) 0 0] 56)
    rwa [show (((w.alloc (.cells #[] 9)).alloc (.cells #[] 5)).alloc (.cells #[.slice (some ⟨w.heap.size, 0, none⟩) 0 0] 34)).heap.size = w.heap.size + 1 + 1 + 1 by simp] at h
  ro := by
    have h := own_lit_of (enc := Value.string) w w.heap.size 9 [] (Nat.le_refl _) (by simp)
    exact Kd.R_alloc (Kd.R_alloc (Kd.R_alloc (Kd.R_of_own (h1 := fun _ => rfl) h (fun _ _ => trivial)) _) _) _
  rw := by
    have h := own_lit_of (enc := Value.int .u8) (w.alloc (.cells #[] 9)) w.heap.size 5 [] (by simp) (by simp)
    rw [show (w.alloc (.cells #[] 9)).heap.size = w.heap.size + 1 by simp] at h
    exact Kd.R_alloc (Kd.R_alloc (Kd.R_of_own (h1 := fun _ => rfl) h (fun _ _ => trivial)) _) _
set_option maxHeartbeats 1000000 in
set_option maxRecDepth 100000 in
theorem calls (s : ByteArray) (w : World) (hs : s.size ≤ 200) :
    Calls Try.prog 65 #[.string s] w fun e w' => ∃ v0_ : Value, e = .returned (v0_) ∧ Kd.R Kd.string 9 w' w.heap.size (fun _ => True) v0_ (wordsOf s) ∧ Below w.heap.size w w' := by
  have HS := Aside0.mk hs
  have HE0 := Aside0.mk (start w)
  have HB0 := Aside0.mk (below_alloc (below_alloc (below_alloc (below_alloc (Below.refl w.heap.size w) (.cells #[] 9)) (.cells #[] 5)) (.cells #[.slice (some ⟨w.heap.size, 0, none⟩) 0 0] 34)) (.cells #[.slice (some ⟨w.heap.size + 1, 0, none⟩) 0 0] 56))
  go_enter Try.func65, Try.ntmps65
  go_wp2
  go_loopg [13] s.size (fun kq v13 w' => ∃ i : Nat, v13 = .int .i64 (i : Int) ∧ i ≤ s.size ∧ kq = s.size - i ∧ (∃ vo vw, Aside0 (Env w.heap.size (w.heap.size + 1 + 1) (w.heap.size + 1 + 1 + 1) w' vo vw (stepW s i).1 (stepW s i).2)) ∧ Aside0 (Below w.heap.size w w'))
  case atStart => exact ⟨0, rfl, by omega, by omega, ⟨_, _, HE0⟩, HB0⟩
  case round =>
    obtain ⟨i, rfl, hi, hk, ⟨vo, vw, HE⟩, HB⟩ := hrel
    by_cases hlt : i < s.size
    · have hi2 : (i : Int) < (s.size : Int) := by omega
      obtain ⟨l1, l2⟩ := stepW_len s i
      have hS : stepW s (i + 1) = stepC (small (bt s (i : Int))) (stepO (small (bt s (i : Int))) (stepW s i)) := rfl
      have HS1 := Aside0.mk hS
      clear hS
      revert HS1 HE l1 l2
      obtain ⟨o, wd⟩ := stepW s i
      intro HE l1 l2 HS1
      replace l1 : o.length ≤ i := l1
      replace l2 : wd.length ≤ 20 := l2
      replace HE : Aside0 (Env w.heap.size (w.heap.size + 1 + 1) (w.heap.size + 1 + 1 + 1) wr vo vw o wd) := HE
      obtain ⟨Aw, cw, hvw, hlw, hCw⟩ := Kd.R_reads (v := vw) HE.out.rw
      subst hvw
      have HW := Aside0.mk hlw
      clear hlw hCw
      have p5 : (0 ≤ (i : Int)) = True := eq_true (by omega)
      have q5 : ((i : Int) < (s.size : Int)) = True := eq_true hi2
      have hx5 : ∀ h : i < s.size, ((s[i]'h).toNat : Int) = bt s (i : Int) := fun h => bt_at s (i : Int) h
      obtain ⟨c, hc⟩ : ∃ c, c = small (bt s (i : Int)) := ⟨_, rfl⟩
      have HC := Aside0.mk hc
      rw [← hc] at HS1
      clear hc
      by_cases h0 : c = 0
      · have h0b : (c == 0) = true := beq_iff_eq.mpr h0
        have h0c : (c != 0) = false := bne_eq_false_iff_eq.mpr h0
        go_wp2_with (first | (go_at_call 100; with_reducible refine (small_calls (bt s (i : Int)) _).mono ?_; rintro e w' ⟨rfl, ⟨nd, rfl⟩⟩; rw [← HC.out]; have HE1 := Aside0.mk (HE.out.drawn nd); obtain ⟨hcw, hfw⟩ := cell_of HE1.out.w; obtain ⟨hco, hfo⟩ := cell_of HE1.out.o) | (go_at_call 99; with_reducible refine (flush_calls w.heap.size _ _ (wr.drewN nd) _ _ o wd HE1.out (by omega) (by omega) (by omega) (below_size (pw_below_drewN HB.out nd)) (by omega) (by omega)).mono ?_; rintro e w2 ⟨rfl, ⟨vo2, vw2, he2⟩, hb2⟩; have HE2 := Aside0.mk he2; have HB2 := Aside0.mk ((pw_below_drewN HB.out nd).trans hb2); clear he2 hb2; obtain ⟨Aw2, cw2, hvw2⟩ := Kd.R_slice (v := vw2) HE2.out.rw; subst hvw2; obtain ⟨hcw2, hfw2⟩ := cell_of HE2.out.w; obtain ⟨hco2, hfo2⟩ := cell_of HE2.out.o))
        go_roundg (s.size - (i + 1))
        case measure => omega
        case rel => exact ⟨i + 1, by go_num, by omega, by omega, ⟨_, _, ⟨by rw [HS1.out, show stepC c (stepO c (o, wd)) = (flushO o wd, []) by unfold stepC stepO; rw [if_pos h0, if_pos (.inl h0)]]; exact HE2.out⟩⟩, HB2⟩
      · have h0b : (c == 0) = false := beq_eq_false_iff_ne.mpr h0
        have h0c : (c != 0) = true := bne_iff_ne.mpr h0
        by_cases h20 : wd.length = 20
        · have h20b : ((wd.length : Int) == 20) = true := beq_iff_eq.mpr (by omega)
          have H20 := Aside0.mk h20
          clear h20
          go_wp2_with (first | (go_at_call 100; with_reducible refine (small_calls (bt s (i : Int)) _).mono ?_; rintro e w' ⟨rfl, ⟨nd, rfl⟩⟩; rw [← HC.out]; have HE1 := Aside0.mk (HE.out.drawn nd); obtain ⟨hcw, hfw⟩ := cell_of HE1.out.w; obtain ⟨hco, hfo⟩ := cell_of HE1.out.o) | (go_at_call 99; with_reducible refine (flush_calls w.heap.size _ _ (wr.drewN nd) _ _ o wd HE1.out (by omega) (by omega) (by omega) (below_size (pw_below_drewN HB.out nd)) (by omega) (by omega)).mono ?_; rintro e w2 ⟨rfl, ⟨vo2, vw2, he2⟩, hb2⟩; have HE2 := Aside0.mk he2; have HB2 := Aside0.mk ((pw_below_drewN HB.out nd).trans hb2); clear he2 hb2; obtain ⟨Aw2, cw2, hvw2⟩ := Kd.R_slice (v := vw2) HE2.out.rw; subst hvw2; obtain ⟨hcw2, hfw2⟩ := cell_of HE2.out.w; obtain ⟨hco2, hfo2⟩ := cell_of HE2.out.o) | ((with_reducible refine gate_builtin (b := .append) (xs := #[.tmp 31, .tmp 33]) rfl ?_); at_builtin; refine Kd.R_append (Kd.int .u8) (w0 := w) w.heap.size rfl (.tmp 31) (.tmp 33) 56 5 (.int .u8 0) 1 rfl Try.underlying56 info5 rfl (by decide) (by omega) _ ([] : List Int) c [.int .u8 c] (fun _ => True) (fun _ => False) rfl rfl ?aP (fun _ hk => hk.elim) ?aF ?aO ?aB ?aS ?aL ?_; (case aP => exact rfl); (case aB => exact HB2.out); (case aF => exact (fun _ _ => trivial)); (case aO => exact HE2.out.rw); (case aS => exact below_size HB2.out); (case aL => first | (simp; done) | omega); intro v1 w1 ho1 hb hg hat; obtain ⟨A1, c1, e1⟩ := Kd.R_slice ho1; subst e1; obtain ⟨g1, g2, g3⟩ := HE2.out.after_w hg ho1; have G2 := Aside0.mk (Env.put_w (by omega) g1 g2 g3 ho1); clear hat hg ho1 g3; obtain ⟨hco1, hfo1⟩ := cell_of g1; obtain ⟨hcw1, hfw1⟩ := cell_of g2; have HB3 := Aside0.mk (Below.setCell hb (show w.heap.size ≤ (⟨w.heap.size + 1 + 1 + 1, 0, none⟩ : Addr).block from (by show w.heap.size ≤ w.heap.size + 1 + 1 + 1; omega)) (Value.slice A1 (([] : List Int) ++ [c]).length c1)); clear hb g1 g2))
          go_roundg (s.size - (i + 1))
          case measure => omega
          case rel => exact ⟨i + 1, by go_num, by omega, by omega, ⟨_, _, ⟨by rw [HS1.out, show stepC c (stepO c (o, wd)) = (flushO o wd, [] ++ [c]) by unfold stepC stepO; rw [if_neg h0, if_pos (.inr H20.out)]]; exact G2.out⟩⟩, HB3⟩
        · have h20b : ((wd.length : Int) == 20) = false := beq_eq_false_iff_ne.mpr (by omega)
          have HBd := Aside0.mk (pw_below_drewN HB.out)
          go_wp2_with (first | (go_at_call 100; with_reducible refine (small_calls (bt s (i : Int)) _).mono ?_; rintro e w' ⟨rfl, ⟨nd, rfl⟩⟩; rw [← HC.out]; have HE1 := Aside0.mk (HE.out.drawn nd); obtain ⟨hcw, hfw⟩ := cell_of HE1.out.w; obtain ⟨hco, hfo⟩ := cell_of HE1.out.o) | ((with_reducible refine gate_builtin (b := .append) (xs := #[.tmp 31, .tmp 33]) rfl ?_); at_builtin; refine Kd.R_append (Kd.int .u8) (w0 := w) w.heap.size rfl (.tmp 31) (.tmp 33) 56 5 (.int .u8 0) 1 rfl Try.underlying56 info5 rfl (by decide) (by omega) _ wd c [.int .u8 c] (fun _ => True) (fun _ => False) rfl rfl ?aP (fun _ hk => hk.elim) ?aF ?aO ?aB ?aS ?aL ?_; (case aP => exact rfl); (case aB => exact (HBd.out nd)); (case aF => exact (fun _ _ => trivial)); (case aO => exact HE1.out.rw); (case aS => exact below_size (HBd.out nd)); (case aL => first | (simp; done) | omega); intro v1 w1 ho1 hb hg hat; obtain ⟨A1, c1, e1⟩ := Kd.R_slice ho1; subst e1; obtain ⟨g1, g2, g3⟩ := HE1.out.after_w hg ho1; have G2 := Aside0.mk (Env.put_w (by omega) g1 g2 g3 ho1); clear hat hg ho1 g3; obtain ⟨hco1, hfo1⟩ := cell_of g1; obtain ⟨hcw1, hfw1⟩ := cell_of g2; have HB3 := Aside0.mk (Below.setCell hb (show w.heap.size ≤ (⟨w.heap.size + 1 + 1 + 1, 0, none⟩ : Addr).block from (by show w.heap.size ≤ w.heap.size + 1 + 1 + 1; omega)) (Value.slice A1 (wd ++ [c]).length c1)); clear hb g1 g2))
          have e9 : (wd ++ [c]).length = wd.length + 1 := by simp
          rw [e9] at G2 HB3
          go_roundg (s.size - (i + 1))
          case measure => omega
          case rel => exact ⟨i + 1, by go_num, by omega, by omega, ⟨_, _, ⟨by rw [HS1.out, show stepC c (stepO c (o, wd)) = (o, wd ++ [c]) by unfold stepC stepO; rw [if_neg h0, if_neg (by simp [h0, h20])]]; exact G2.out⟩⟩, HB3⟩
    · obtain rfl : i = s.size := by omega
      obtain ⟨l1, l2⟩ := stepW_len s s.size
      go_wp2_with (first | (go_at_call 99; with_reducible refine (flush_calls w.heap.size _ _ wr _ _ _ _ HE.out (by omega) (by omega) (by omega) (below_size HB.out) (by omega) (by omega)).mono ?_; rintro e w2 ⟨rfl, ⟨vo2, vw2, he2⟩, hb2⟩; have HE2 := Aside0.mk he2; have HB2 := Aside0.mk (HB.out.trans hb2); clear he2 hb2; obtain ⟨Ao2, co2, hvo2⟩ := Kd.R_slice (v := vo2) HE2.out.ro; subst hvo2; obtain ⟨hco2, hfo2⟩ := cell_of HE2.out.o))
      go_ret
      exact ⟨_, rfl, HE2.out.ro, HB2.out⟩
end Go.Proofs.Ytilgcfhnpnokpaa.WordsW

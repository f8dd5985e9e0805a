/- Postings and their bytes: what the reference's functions and the program's functions come to. No conditions. -/
import Derived.Test.YtilgcfhnpnokpaaPre
import Derived.Test.YtilgcfhnpnokpaaPQspecPackPostings
import Derived.Test.YtilgcfhnpnokpaaPQimplPackPostings
namespace Go.Proofs.Ytilgcfhnpnokpaa.Posts
open Go.RowKit Go.Proofs.Ytilgcfhnpnokpaa.PQ Go.Proofs.YtilgcfhnpnokpaaW.PrintWords Go.Proofs.YtilgcfhnpnokpaaW.PrintLast Go.Proofs.Ytilgcfhnpnokpaa.Pre

abbrev Po := S81
theorem rd_get (l : List Po) (i : Nat) (h : i < l.length) : rd_T81 l (i : Int) = l[i] := by
  unfold rd_T81
  simp [h]

/-- The bytes of a number, seven bits a byte. -/
def packN (n : Nat) : List Int := if h : 128 ≤ n then ((n % 128 + 128 : Nat) : Int) :: packN (n / 128) else [(n : Int)]
termination_by n
decreasing_by omega
theorem packN_big {n : Nat} (h : 128 ≤ n) : packN n = ((n % 128 + 128 : Nat) : Int) :: packN (n / 128) := by rw [packN, dif_pos h]
theorem packN_small {n : Nat} (h : n < 128) : packN n = [(n : Int)] := by rw [packN, dif_neg (by omega)]
theorem packN_len : ∀ (m n : Nat), n < 128 ^ (m + 1) → (packN n).length ≤ m + 1 := by
  intro m
  induction m with
  | zero =>
    intro n h
    rw [packN_small (by omega)]
    simp
  | succ m ih =>
    intro n h
    by_cases hb : 128 ≤ n
    · rw [packN_big hb, List.length_cons]
      have := ih (n / 128) (by rw [Nat.div_lt_iff_lt_mul (by omega)]; rw [Nat.pow_succ] at h; omega)
      omega
    · rw [packN_small (by omega)]
      simp

theorem or128 : ∀ a : Fin 256, Go.bits .or .u8 (a.1 : Int) 128 = ((a.1 % 128 + 128 : Nat) : Int) := by decide +kernel
theorem or_high (n : Nat) : Go.bits .or .u8 ((n : Int) % 256) 128 = ((n % 128 + 128 : Nat) : Int) := by
  have h := or128 ⟨n % 256, by omega⟩
  have e : ((n % 256 : Nat) : Int) = (n : Int) % 256 := by omega
  rw [show ((⟨n % 256, by omega⟩ : Fin 256).1 : Int) = (n : Int) % 256 from e] at h
  rw [h]
  show ((n % 256 % 128 + 128 : Nat) : Int) = _
  congr 2
  omega
theorem and127 (n : Nat) (h : n < 9223372036854775808) : Go.bits .and .i64 (n : Int) 127 = ((n % 128 : Nat) : Int) := by
  have e1 : (BitVec.ofInt 64 (n : Int)).toNat = n := by
    rw [BitVec.toNat_ofInt]
    omega
  have e2 : ((BitVec.ofInt 64 (n : Int)) &&& (BitVec.ofInt 64 127)).toNat = n % 128 := by
    rw [BitVec.toNat_and, e1]
    exact Nat.and_two_pow_sub_one_eq_mod n 7
  show IntKind.i64.wrap (((BitVec.ofInt 64 (n : Int)) &&& (BitVec.ofInt 64 127)).toNat : Int) = _
  rw [e2, i64_w, w64 (by omega) (by omega)]
theorem strOfNums_app (a b : List Int) : strOfNums a ++ strOfNums b = strOfNums (a ++ b) := by
  apply ByteArray.ext
  rw [ByteArray.data_append]
  simp [strOfNums]
theorem nil_app (t : ByteArray) : (⟨#[]⟩ : ByteArray) ++ t = t := by
  apply ByteArray.ext
  rw [ByteArray.data_append]
  exact Array.empty_append
theorem app_nil (t : ByteArray) : t ++ (⟨#[]⟩ : ByteArray) = t := by
  apply ByteArray.ext
  rw [ByteArray.data_append]
  exact Array.append_empty
theorem strOfNums_nil : strOfNums [] = (⟨#[]⟩ : ByteArray) := rfl

/-- The reference's bytes of a number. -/
theorem spec_num : ∀ (m n : Nat) (s : ByteArray), n < 9223372036854775808 → n < 128 ^ (m + 1) → s.size + (m + 1) ≤ 9223372036854775807 →
    Evt (fun k => spec_l10Num.l0 k (n : Int) s) (s ++ strOfNums (packN n)) := by
  intro m
  induction m with
  | zero =>
    intro n s hn h hs
    refine Evt.step (fun k => spec_l10Num.l0.eq_2 _ _ k) ?_
    refine Evt.neg (by omega) (Evt.bsome ?_)
    refine Evt.pos (by rw [strOfNums_size]; simp; omega) ?_
    rw [packN_small (by omega), show (n : Int) % 256 = (n : Int) by omega]
    exact Evt.const _
  | succ m ih =>
    intro n s hn h hs
    refine Evt.step (fun k => spec_l10Num.l0.eq_2 _ _ k) ?_
    by_cases hb : 128 ≤ n
    · refine Evt.pos (by omega) (Evt.bsome ?_)
      have e : Go.bits .or .u8 ((Go.bits .and .i64 (n : Int) 127) % 256) 128 = ((n % 128 + 128 : Nat) : Int) := by
        rw [and127 n hn, or_high]
        congr 2
        omega
      rw [e]
      refine Evt.pos (by rw [strOfNums_size]; simp; omega) ?_
      have e2 : (n : Int) / 128 = ((n / 128 : Nat) : Int) := by omega
      rw [e2]
      refine (ih (n / 128) _ (by omega) (by rw [Nat.div_lt_iff_lt_mul (by omega)]; rw [Nat.pow_succ] at h; omega) (by rw [ByteArray.size_append, strOfNums_size]; simp; omega)).eq ?_
      rw [packN_big hb, ByteArray.append_assoc, strOfNums_app]
      rfl
    · refine Evt.neg (by omega) (Evt.bsome ?_)
      refine Evt.pos (by rw [strOfNums_size]; simp; omega) ?_
      rw [packN_small (by omega), show (n : Int) % 256 = (n : Int) by omega]
      exact Evt.const _
/-- The program's bytes of a number. -/
theorem impl_num : ∀ (m n : Nat) (s : List Int), n < 128 ^ (m + 1) → s.length + (m + 1) ≤ 140737488355328 → Evt (fun k => impl_packed.l0 k s (n : Int)) (s ++ packN n) := by
  intro m
  induction m with
  | zero =>
    intro n s h hs
    refine Evt.step (fun k => impl_packed.l0.eq_2 _ _ k) ?_
    refine Evt.neg (by omega) (Evt.pos (by omega) ?_)
    rw [packN_small (by omega), show (n : Int) % 256 = (n : Int) by omega]
    exact Evt.const _
  | succ m ih =>
    intro n s h hs
    refine Evt.step (fun k => impl_packed.l0.eq_2 _ _ k) ?_
    by_cases hb : 128 ≤ n
    · refine Evt.pos (by omega) (Evt.pos (by omega) ?_)
      have e2 : (n : Int) / 128 = ((n / 128 : Nat) : Int) := by omega
      rw [e2, or_high]
      refine (ih (n / 128) _ (by rw [Nat.div_lt_iff_lt_mul (by omega)]; rw [Nat.pow_succ] at h; omega) (by simp; omega)).eq ?_
      rw [packN_big hb]
      simp
    · refine Evt.neg (by omega) (Evt.pos (by omega) ?_)
      rw [packN_small (by omega), show (n : Int) % 256 = (n : Int) by omega]
      exact Evt.const _

/-- Postings that may be packed: rising from behind last, up to most. -/
def okFrom (most : Int) : Int → List Po → Bool
  | _, [] => true
  | last, p :: l => decide (last < p.f0 ∧ p.f0 ≤ most ∧ 1 ≤ p.f1 ∧ p.f1 ≤ 100) && okFrom most p.f0 l
def bytesFrom : Int → List Po → List Int
  | _, [] => []
  | last, p :: l => packN (p.f0 - last - 1).toNat ++ packN p.f1.toNat ++ bytesFrom p.f0 l
theorem bytesFrom_len (l : List Po) : ∀ last : Int, -1 ≤ last → okFrom 10000 last l = true → (bytesFrom last l).length ≤ 4 * l.length := by
  induction l with
  | nil => intro last _ _; simp [bytesFrom]
  | cons p l ih =>
    intro last h0 hk
    simp only [okFrom, Bool.and_eq_true, decide_eq_true_eq] at hk
    obtain ⟨⟨h1, h2, h3, h4⟩, h5⟩ := hk
    have a := packN_len 1 (p.f0 - last - 1).toNat (by omega)
    have b := packN_len 0 p.f1.toNat (by omega)
    have c := ih p.f0 (by omega) h5
    simp only [bytesFrom, List.length_append, List.length_cons]
    omega

theorem impl_within_ev (a b c : Int) : impl_within.f a b c = some (decide (b ≤ a ∧ a ≤ c)) := by
  unfold impl_within.f
  by_cases h : a ≥ b
  · rw [if_pos h]
    simp [show b ≤ a from h]
  · rw [if_neg h]
    simp [show ¬ b ≤ a from h]
theorem spec_in_ev (a b c : Int) : spec_l1In.f a b c = some (decide (b ≤ a ∧ a ≤ c)) := by
  unfold spec_l1In.f
  by_cases h : a ≥ b
  · rw [if_pos h]
    simp [show b ≤ a from h]
  · rw [if_neg h]
    simp [show ¬ b ≤ a from h]

/-- The program's look at postings. -/
theorem impl_ok (most : Int) (l : List Po) (hl : l.length ≤ 1048576) : ∀ (m i : Nat) (last : Int), i + m = l.length → -9223372036854775808 ≤ last → last < 9223372036854775807 →
    (∀ p ∈ l, p.f0 ≤ most → p.f0 < 9223372036854775807) →
    Evt (fun k => impl_postingsOK.l0 k most last l (l.length : Int) (i : Int)) (okFrom most last (l.drop i)) := by
  intro m
  induction m with
  | zero =>
    intro i last hi h0 h1 hp
    refine Evt.step (fun k => impl_postingsOK.l0.eq_2 _ _ _ _ _ k) ?_
    refine Evt.neg (by omega) ?_
    rw [List.drop_eq_nil_of_le (by omega)]
    exact Evt.const _
  | succ m ih =>
    intro i last hi h0 h1 hp
    have hlt : i < l.length := by omega
    refine Evt.step (fun k => impl_postingsOK.l0.eq_2 _ _ _ _ _ k) ?_
    refine Evt.pos (by omega) (Evt.pos (by omega) (Evt.pos (by omega) ?_))
    rw [rd_get l i hlt, w64 (n := last + 1) (by omega) (by omega), impl_within_ev, impl_within_ev, List.drop_eq_getElem_cons hlt]
    refine Evt.bsome ?_
    simp only [okFrom]
    by_cases hc : last + 1 ≤ l[i].f0 ∧ l[i].f0 ≤ most
    · refine Evt.pos (by simpa using hc) (Evt.bsome ?_)
      by_cases hd : 1 ≤ l[i].f1 ∧ l[i].f1 ≤ 100
      · refine Evt.pos (by simpa using hd) ?_
        rw [w64 (n := (i : Int) + 1) (by omega) (by omega)]
        have h2 := hp l[i] (List.getElem_mem hlt) hc.2
        refine (ih (i + 1) l[i].f0 (by omega) (by omega) h2 hp).eq ?_
        rw [show decide (last < l[i].f0 ∧ l[i].f0 ≤ most ∧ 1 ≤ l[i].f1 ∧ l[i].f1 ≤ 100) = true from decide_eq_true ⟨by omega, hc.2, hd.1, hd.2⟩, Bool.true_and]
      · refine Evt.neg (by simpa using hd) ?_
        rw [show decide (last < l[i].f0 ∧ l[i].f0 ≤ most ∧ 1 ≤ l[i].f1 ∧ l[i].f1 ≤ 100) = false from decide_eq_false (fun h => hd ⟨h.2.2.1, h.2.2.2⟩), Bool.false_and]
        exact Evt.const _
    · refine Evt.neg (by simpa using hc) ?_
      rw [show decide (last < l[i].f0 ∧ l[i].f0 ≤ most ∧ 1 ≤ l[i].f1 ∧ l[i].f1 ≤ 100) = false from decide_eq_false (fun h => hc ⟨by omega, h.2.1⟩), Bool.false_and]
      exact Evt.const _
/-- The reference's look at postings. -/
theorem spec_ok (most : Int) (hm : 0 ≤ most) (hm2 : most < 9223372036854775807) (l : List Po) (hl : l.length ≤ 1048576) : ∀ (m i : Nat) (last : Int) (hi : i + m = l.length), (i = 0 → last = -1) → (∀ h : 0 < i, last = (l[i - 1]'(by omega)).f0 ∧ 0 ≤ last) →
    Evt (fun k => spec_l10List.l0 k l (most + 1) l (l.length : Int) (i : Int)) (okFrom most last (l.drop i)) := by
  intro m
  induction m with
  | zero =>
    intro i last hi h0 h1
    refine Evt.step (fun k => spec_l10List.l0.eq_2 _ _ _ _ _ k) ?_
    refine Evt.neg (by omega) ?_
    rw [List.drop_eq_nil_of_le (by omega)]
    exact Evt.const _
  | succ m ih =>
    intro i last hi h0 h1
    have hlt : i < l.length := by omega
    refine Evt.step (fun k => spec_l10List.l0.eq_2 _ _ _ _ _ k) ?_
    refine Evt.pos (by omega) (Evt.pos (by omega) (Evt.pos (by omega) ?_))
    rw [rd_get l i hlt, w64 (n := most + 1 - 1) (by omega) (by omega), spec_in_ev, spec_in_ev, List.drop_eq_getElem_cons hlt, show most + 1 - 1 = most by omega]
    refine Evt.bsome ?_
    simp only [okFrom]
    have hw : wrap64 ((i : Int) + 1) = ((i + 1 : Nat) : Int) := by rw [w64 (by omega) (by omega)]; omega
    by_cases hc : 0 ≤ l[i].f0 ∧ l[i].f0 ≤ most
    · refine Evt.pos (by simpa using hc) (Evt.bsome ?_)
      by_cases hd : 1 ≤ l[i].f1 ∧ l[i].f1 ≤ 100
      · refine Evt.pos (by simpa using hd) ?_
        have next : last < l[i].f0 → Evt (fun k => spec_l10List.l0 k l (most + 1) l (l.length : Int) (wrap64 ((i : Int) + 1))) (decide (last < l[i].f0 ∧ l[i].f0 ≤ most ∧ 1 ≤ l[i].f1 ∧ l[i].f1 ≤ 100) && okFrom most l[i].f0 (l.drop (i + 1))) := by
          intro hlast
          rw [hw]
          refine (ih (i + 1) l[i].f0 (by omega) (by omega) (fun _ => ⟨by simp, hc.1⟩)).eq ?_
          rw [show decide (last < l[i].f0 ∧ l[i].f0 ≤ most ∧ 1 ≤ l[i].f1 ∧ l[i].f1 ≤ 100) = true from decide_eq_true ⟨hlast, hc.2, hd.1, hd.2⟩, Bool.true_and]
        by_cases hi0 : 0 < i
        · have h2 := h1 hi0
          rw [w64 (n := (i : Int) - 1) (by omega) (by omega)]
          refine Evt.pos (by omega) (Evt.pos (by omega) (Evt.pos (by omega) ?_))
          have e : rd_T81 l ((i : Int) - 1) = l[i - 1]'(by omega) := by
            rw [show (i : Int) - 1 = ((i - 1 : Nat) : Int) by omega]
            exact rd_get l (i - 1) (by omega)
          rw [e]
          by_cases hg : (l[i - 1]'(by omega)).f0 ≥ l[i].f0
          · refine Evt.pos hg ?_
            rw [show decide (last < l[i].f0 ∧ l[i].f0 ≤ most ∧ 1 ≤ l[i].f1 ∧ l[i].f1 ≤ 100) = false from decide_eq_false (fun h => by have := h.1; omega), Bool.false_and]
            exact Evt.const _
          · refine Evt.neg hg (next (by omega))
        · refine Evt.neg (by omega) (next ?_)
          have := h0 (by omega)
          omega
      · refine Evt.neg (by simpa using hd) ?_
        rw [show decide (last < l[i].f0 ∧ l[i].f0 ≤ most ∧ 1 ≤ l[i].f1 ∧ l[i].f1 ≤ 100) = false from decide_eq_false (fun h => hd ⟨h.2.2.1, h.2.2.2⟩), Bool.false_and]
        exact Evt.const _
    · refine Evt.neg (by simpa using hc) ?_
      rw [show decide (last < l[i].f0 ∧ l[i].f0 ≤ most ∧ 1 ≤ l[i].f1 ∧ l[i].f1 ≤ 100) = false from decide_eq_false (fun h => hc ⟨by
        have := h.1
        by_cases hi0 : 0 < i
        · have := h1 hi0; omega
        · have := h0 (by omega); omega, h.2.1⟩), Bool.false_and]
      exact Evt.const _

/-- What both answer. -/
def packed (l : List Po) : ByteArray × Bool := if okFrom 10000 (-1) l = true ∧ l.length ≤ 200 then (strOfNums (bytesFrom (-1) l), true) else ((⟨#[]⟩ : ByteArray), false)

theorem spec_bytes (l : List Po) (hl : l.length ≤ 200) : ∀ (m i : Nat) (last : Int) (s : ByteArray), i + m = l.length → -1 ≤ last → last ≤ 10000 → okFrom 10000 last (l.drop i) = true → s.size + 6 * m ≤ 9223372036854775807 →
    Evt (fun k => spec_l10Pack.l0 k s last l (l.length : Int) (i : Int)) (s ++ strOfNums (bytesFrom last (l.drop i))) := by
  intro m
  induction m with
  | zero =>
    intro i last s hi h0 h1 hk hs
    refine Evt.step (fun k => spec_l10Pack.l0.eq_2 _ _ _ _ _ k) ?_
    refine Evt.neg (by omega) ?_
    rw [List.drop_eq_nil_of_le (by omega)]
    refine (Evt.const _).eq ?_
    rw [bytesFrom, strOfNums_nil, app_nil]
  | succ m ih =>
    intro i last s hi h0 h1 hk hs
    have hlt : i < l.length := by omega
    refine Evt.step (fun k => spec_l10Pack.l0.eq_2 _ _ _ _ _ k) ?_
    refine Evt.pos (by omega) (Evt.pos (by omega) (Evt.pos (by omega) ?_))
    rw [List.drop_eq_getElem_cons hlt] at hk ⊢
    simp only [okFrom, Bool.and_eq_true, decide_eq_true_eq] at hk
    obtain ⟨⟨k1, k2, k3, k4⟩, k5⟩ := hk
    rw [rd_get l i hlt, w64 (n := l[i].f0 - last) (by omega) (by omega), w64 (n := l[i].f0 - last - 1) (by omega) (by omega), w64 (n := (i : Int) + 1) (by omega) (by omega)]
    have a := packN_len 1 (l[i].f0 - last - 1).toNat (by omega)
    have b := packN_len 0 l[i].f1.toNat (by omega)
    have e1 : l[i].f0 - last - 1 = ((l[i].f0 - last - 1).toNat : Int) := by omega
    have e2 : l[i].f1 = (l[i].f1.toNat : Int) := by omega
    refine Evt.bind (a := (⟨#[]⟩ : ByteArray) ++ strOfNums (packN (l[i].f0 - last - 1).toNat)) ?_ (Evt.bind (a := (⟨#[]⟩ : ByteArray) ++ strOfNums (packN l[i].f1.toNat)) ?_ ?_)
    · unfold spec_l10Num.f
      rw [e1]
      exact spec_num 1 _ _ (by omega) (by omega) (by simp [ByteArray.size])
    · unfold spec_l10Num.f
      rw [e2]
      exact spec_num 0 _ _ (by omega) (by omega) (by simp [ByteArray.size])
    · rw [nil_app, nil_app]
      refine Evt.pos (by rw [strOfNums_size, strOfNums_size]; omega) (Evt.pos (by rw [ByteArray.size_append, strOfNums_size, strOfNums_size]; omega) ?_)
      refine (ih (i + 1) l[i].f0 _ (by omega) (by omega) (by omega) k5 (by rw [ByteArray.size_append, ByteArray.size_append, strOfNums_size, strOfNums_size]; omega)).eq ?_
      simp only [bytesFrom]
      rw [ByteArray.append_assoc, strOfNums_app, strOfNums_app]
theorem impl_bytes (l : List Po) (hl : l.length ≤ 200) : ∀ (m i : Nat) (last : Int) (s : List Int), i + m = l.length → -1 ≤ last → last ≤ 10000 → okFrom 10000 last (l.drop i) = true → s.length + 6 * m ≤ 140737488355328 →
    Evt (fun k => impl_PackPostings.l0 k s last l (l.length : Int) (i : Int)) (strOfNums (s ++ bytesFrom last (l.drop i)), true) := by
  intro m
  induction m with
  | zero =>
    intro i last s hi h0 h1 hk hs
    refine Evt.step (fun k => impl_PackPostings.l0.eq_2 _ _ _ _ _ k) ?_
    refine Evt.neg (by omega) ?_
    rw [List.drop_eq_nil_of_le (by omega)]
    refine (Evt.const _).eq ?_
    simp [bytesFrom]
  | succ m ih =>
    intro i last s hi h0 h1 hk hs
    have hlt : i < l.length := by omega
    refine Evt.step (fun k => impl_PackPostings.l0.eq_2 _ _ _ _ _ k) ?_
    refine Evt.pos (by omega) (Evt.pos (by omega) (Evt.pos (by omega) ?_))
    rw [List.drop_eq_getElem_cons hlt] at hk ⊢
    simp only [okFrom, Bool.and_eq_true, decide_eq_true_eq] at hk
    obtain ⟨⟨k1, k2, k3, k4⟩, k5⟩ := hk
    rw [rd_get l i hlt, w64 (n := l[i].f0 - last) (by omega) (by omega), w64 (n := l[i].f0 - last - 1) (by omega) (by omega), w64 (n := (i : Int) + 1) (by omega) (by omega)]
    have a := packN_len 1 (l[i].f0 - last - 1).toNat (by omega)
    have b := packN_len 0 l[i].f1.toNat (by omega)
    have e1 : l[i].f0 - last - 1 = ((l[i].f0 - last - 1).toNat : Int) := by omega
    have e2 : l[i].f1 = (l[i].f1.toNat : Int) := by omega
    refine Evt.bind (a := s ++ packN (l[i].f0 - last - 1).toNat) ?_ (Evt.bind (a := s ++ packN (l[i].f0 - last - 1).toNat ++ packN l[i].f1.toNat) ?_ ?_)
    · unfold impl_packed.f
      rw [e1]
      exact impl_num 1 _ _ (by omega) (by omega)
    · unfold impl_packed.f
      rw [e2]
      exact impl_num 0 _ _ (by omega) (by rw [List.length_append]; omega)
    · refine (ih (i + 1) l[i].f0 _ (by omega) (by omega) (by omega) k5 (by rw [List.length_append, List.length_append]; omega)).eq ?_
      simp only [bytesFrom]
      simp

/-- The reference's answer. -/
theorem spec_pack (l : List Po) (hl : l.length ≤ 1048576) : Evt (fun k => spec_PackPostings.f k l) (packed l) := by
  unfold spec_PackPostings.f
  have h := spec_ok 10000 (by omega) (by omega) l hl l.length 0 (-1) (by omega) (fun _ => rfl) (fun h => by omega)
  refine Evt.bind (a := okFrom 10000 (-1) l) h ?_
  unfold packed
  by_cases hk : okFrom 10000 (-1) l = true
  · refine Evt.pos hk ?_
    by_cases h2 : l.length ≤ 200
    · refine Evt.neg (by omega) (Evt.bind (a := (⟨#[]⟩ : ByteArray) ++ strOfNums (bytesFrom (-1) l)) ?_ ?_)
      · exact spec_bytes l h2 l.length 0 (-1) _ (by omega) (by omega) (by omega) hk (by simp [ByteArray.size]; omega)
      · rw [if_pos ⟨hk, h2⟩]
        rw [nil_app]
        exact Evt.const _
    · rw [if_neg (fun h => h2 h.2)]
      exact Evt.pos (by omega) (Evt.const _)
  · rw [if_neg (fun h => hk h.1)]
    exact Evt.neg hk (Evt.const _)
/-- The program's answer. -/
theorem impl_pack (l : List Po) (hl : l.length ≤ 1048576) : Evt (fun k => impl_PackPostings.f k l) (packed l) := by
  unfold impl_PackPostings.f
  unfold packed
  by_cases h2 : l.length ≤ 200
  · refine Evt.neg (by omega) ?_
    refine Evt.bind (a := okFrom 10000 (-1) l) (impl_ok 10000 l hl l.length 0 (-1) (by omega) (by omega) (by omega) (fun p _ h => by omega)) ?_
    refine Evt.step (fun k => impl_PackPostings.j0.eq_2 _ _ k) ?_
    by_cases hk : okFrom 10000 (-1) l = true
    · rw [hk, if_pos ⟨rfl, h2⟩]
      refine Evt.neg (by decide) ?_
      exact impl_bytes l h2 l.length 0 (-1) [] (by omega) (by omega) (by omega) hk (by simp; omega)
    · rw [if_neg (fun h => hk h.1)]
      exact Evt.pos (by simpa using hk) (Evt.const _)
  · rw [if_neg (fun h => h2 h.2)]
    refine Evt.pos (by omega) (Evt.step (fun k => impl_PackPostings.j0.eq_2 _ _ k) (Evt.pos rfl (Evt.const _)))
end Go.Proofs.Ytilgcfhnpnokpaa.Posts

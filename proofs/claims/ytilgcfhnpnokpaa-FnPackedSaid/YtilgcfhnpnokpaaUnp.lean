/- Postings out of their bytes: the reference's function and the program's function come to one answer. No conditions. -/
import Derived.Test.YtilgcfhnpnokpaaPosts
import Derived.Laws.Strings
import Derived.WideShapes
import Derived.Test.YtilgcfhnpnokpaaPQspecUnpackPostings
import Derived.Test.YtilgcfhnpnokpaaPQimplUnpackPostings
namespace Go.Proofs.Ytilgcfhnpnokpaa.Unp
set_option linter.unusedVariables false
open Go.RowKit Go.Proofs.Ytilgcfhnpnokpaa.PQ Go.Proofs.YtilgcfhnpnokpaaW.PrintWords Go.Proofs.YtilgcfhnpnokpaaW.PrintLast Go.Proofs.Ytilgcfhnpnokpaa.Pre Go.Proofs.Ytilgcfhnpnokpaa.Posts

theorem toList_inj {a b : ByteArray} (h : a.toList = b.toList) : a = b := by
  rw [ByteArray.toList_eq, ByteArray.toList_eq] at h
  exact WideShapes.bytes_inj h
theorem toList_iff {a b : ByteArray} : a.toList = b.toList ↔ a = b := ⟨toList_inj, fun h => by rw [h]⟩

/-- A number from the front of bytes, m bytes at most: it, and how many bytes it takes. -/
def takeN : Nat → List Int → Option (Nat × Nat)
  | 0, _ => none
  | _ + 1, [] => none
  | m + 1, c :: cs => if c < 128 then some (c.toNat, 1) else (takeN m cs).map fun x => ((c % 128).toNat + 128 * x.1, x.2 + 1)
theorem takeN_bound : ∀ (m : Nat) (l : List Int) (x : Nat × Nat), (∀ c ∈ l, 0 ≤ c ∧ c < 256) → takeN m l = some x → x.1 < 128 ^ m ∧ 1 ≤ x.2 ∧ x.2 ≤ m ∧ x.2 ≤ l.length := by
  intro m
  induction m with
  | zero => intro l x _ h; simp [takeN] at h
  | succ m ih =>
    intro l x hr h
    cases l with
    | nil => simp [takeN] at h
    | cons c cs =>
      have hc := hr c List.mem_cons_self
      simp only [takeN] at h
      split at h
      · rename_i hlt
        obtain rfl := Option.some.inj h
        have : 1 ≤ 128 ^ m := Nat.one_le_pow _ _ (by omega)
        rw [Nat.pow_succ]
        simp only [List.length_cons]
        refine ⟨by omega, by omega, by omega, by omega⟩
      · obtain ⟨y, hy, rfl⟩ := Option.map_eq_some_iff.1 h
        have := ih cs y (fun d hd => hr d (List.mem_cons_of_mem _ hd)) hy
        rw [Nat.pow_succ]
        simp only [List.length_cons]
        refine ⟨by omega, by omega, by omega, by omega⟩
theorem takeN_pack : ∀ (m n : Nat) (r : List Int), n < 128 ^ (m + 1) → takeN (m + 1) (packN n ++ r) = some (n, (packN n).length) := by
  intro m
  induction m with
  | zero =>
    intro n r h
    rw [packN_small (by omega)]
    simp only [List.cons_append, takeN, List.nil_append]
    rw [if_pos (by omega)]
    simp
  | succ m ih =>
    intro n r h
    by_cases hb : 128 ≤ n
    · rw [packN_big hb]
      rw [List.cons_append, takeN, if_neg (by omega), ih (n / 128) r (by rw [Nat.div_lt_iff_lt_mul (by omega)]; rw [Nat.pow_succ] at h; omega)]
      simp only [Option.map_some, List.length_cons, Option.some.injEq, Prod.mk.injEq]
      refine ⟨by omega, trivial⟩
    · rw [packN_small (by omega)]
      simp only [List.cons_append, takeN, List.nil_append]
      rw [if_pos (by omega)]
      simp

/-! ### Texts as lists of numbers -/
theorem bytesOf_range (s : ByteArray) : ∀ c ∈ bytesOf s, 0 ≤ c ∧ c < 256 := by
  intro c hc
  obtain ⟨b, _, rfl⟩ := List.mem_map.1 hc
  have := b.toNat_lt
  omega
theorem bytesOf_get (s : ByteArray) (i : Nat) (h : i < s.size) : (bytesOf s)[i]'(by rw [bytesOf_length]; exact h) = bt s (i : Int) := by
  have h1 := rd_bytesOf s (i : Int)
  unfold rd at h1
  rw [← h1]
  simp [bytesOf_length, h]
theorem strOf_bytesOf (s : ByteArray) : strOfNums (bytesOf s) = s := by
  apply ByteArray.ext
  apply Array.ext'
  show (bytesOf s).map (fun n => UInt8.ofNat n.toNat) = s.data.toList
  unfold bytesOf
  rw [List.map_map]
  conv => rhs; rw [← List.map_id s.data.toList]
  apply List.map_congr_left
  intro b _
  show UInt8.ofNat ((b.toNat : Int).toNat) = b
  rw [Int.toNat_natCast]
  exact UInt8.ofNat_toNat
theorem bytesOf_strOf (l : List Int) (h : ∀ c ∈ l, 0 ≤ c ∧ c < 256) : bytesOf (strOfNums l) = l := by
  unfold bytesOf
  rw [strOfNums_data, List.map_map]
  conv => rhs; rw [← List.map_id l]
  apply List.map_congr_left
  intro c hc
  have := h c hc
  show ((UInt8.ofNat c.toNat).toNat : Int) = c
  rw [UInt8.toNat_ofNat']
  omega
theorem bytesOf_drop (s : ByteArray) (i : Nat) : bytesOf (s.extract i s.size) = (bytesOf s).drop i := by
  unfold bytesOf
  rw [ByteArray.data_extract, Array.toList_extract, ← List.map_drop]
  congr 1
  rw [List.extract_eq_take_drop, List.take_of_length_le]
  rw [List.length_drop, data_length]
  omega

/-! ### One number -/
theorem or_add (acc v : Nat) (i : Nat) (ha : acc < 2 ^ i) (hv : v * 2 ^ i + acc < 9223372036854775808) : Go.bits .or .i64 (acc : Int) ((v * 2 ^ i : Nat) : Int) = ((acc + v * 2 ^ i : Nat) : Int) := by
  have e1 : (BitVec.ofInt 64 (acc : Int)).toNat = acc := by
    rw [BitVec.toNat_ofInt]
    omega
  have e2 : (BitVec.ofInt 64 ((v * 2 ^ i : Nat) : Int)).toNat = v * 2 ^ i := by
    rw [BitVec.toNat_ofInt]
    omega
  have e3 : ((BitVec.ofInt 64 (acc : Int)) ||| (BitVec.ofInt 64 ((v * 2 ^ i : Nat) : Int))).toNat = acc + v * 2 ^ i := by
    rw [BitVec.toNat_or, e1, e2]
    have := Nat.two_pow_add_eq_or_of_lt ha v
    rw [Nat.or_comm, Nat.mul_comm, ← this]
    omega
  show IntKind.i64.wrap (((BitVec.ofInt 64 (acc : Int)) ||| (BitVec.ofInt 64 ((v * 2 ^ i : Nat) : Int))).toNat : Int) = _
  rw [e3, i64_w, w64 (by omega) (by omega)]
theorem and_u8 : ∀ a : Fin 256, Go.bits .and .u8 (a.1 : Int) 127 = ((a.1 % 128 : Nat) : Int) := by decide +kernel
theorem shl_eq (v j : Nat) (hj : j ≤ 28) (hv : v < 128) : shl .i64 (v : Int) (j : Int) = ((v * 2 ^ j : Nat) : Int) := by
  have h1 : min ((j : Int).toNat) IntKind.i64.bits = j := by
    have : IntKind.i64.bits = 64 := rfl
    rw [this]
    omega
  unfold shl
  rw [h1, i64_w]
  have h2 : 2 ^ j ≤ 2 ^ 28 := Nat.pow_le_pow_right (by omega) hj
  have h3 : v * 2 ^ j ≤ 127 * 2 ^ 28 := Nat.mul_le_mul (by omega) h2
  have h4 : (v : Int) * 2 ^ j = ((v * 2 ^ j : Nat) : Int) := by
    rw [Int.natCast_mul, Int.natCast_pow]
    rfl
  rw [h4, w64 (by omega) (by omega)]
/-- One round of either reading: the byte at place i goes in. -/
theorem round_eq (s : ByteArray) (i acc : Nat) (hi : i ≤ 4) (ha : acc < 2 ^ (7 * i)) (k : Int) (hk : k = ((7 * i : Nat) : Int)) :
    Go.bits .or .i64 (acc : Int) (shl .i64 (wrap64 (Go.bits .and .u8 (bt s (i : Int)) 127)) k) = ((acc + (bt s (i : Int) % 128).toNat * 2 ^ (7 * i) : Nat) : Int) := by
  have hb := bt_range s (i : Int)
  obtain ⟨b, hb'⟩ : ∃ b : Nat, bt s (i : Int) = (b : Int) := ⟨(bt s (i : Int)).toNat, by omega⟩
  rw [hb'] at hb ⊢
  have h1 := and_u8 ⟨b, by omega⟩
  have h2 : Go.bits .and .u8 (b : Int) 127 = ((b % 128 : Nat) : Int) := h1
  have h3 : 2 ^ (7 * i) ≤ 2 ^ 28 := Nat.pow_le_pow_right (by omega) (by omega)
  have h4 : b % 128 * 2 ^ (7 * i) ≤ 127 * 2 ^ 28 := Nat.mul_le_mul (by omega) h3
  rw [h2, w64 (by omega) (by omega), hk, shl_eq _ _ (by omega) (by omega), or_add _ _ _ ha (by omega)]
  congr 2

/-- What the reference reads off the front. -/
def ansS (o : Option (Nat × Nat)) (acc i : Nat) : Int × Int := match o with | none => (0, 0) | some x => (((acc + x.1 * 2 ^ (7 * i) : Nat) : Int), ((i + x.2 : Nat) : Int))
theorem spec_take (s : ByteArray) (hs : s.size ≤ 1048576) : ∀ (m i acc : Nat), i + m = 3 → acc < 2 ^ (7 * i) → i ≤ s.size →
    Evt (fun k => spec_l10Take.l0 k s (acc : Int) (i : Int)) (ansS (takeN m ((bytesOf s).drop i)) acc i) := by
  intro m
  induction m with
  | zero =>
    intro i acc hi ha hl
    refine Evt.step (fun k => spec_l10Take.l0.eq_2 _ _ _ k) ?_
    have e : decide ((i : Int) < 3) = false := by simp; omega
    have j : Evt (fun k => spec_l10Take.j1 k s (acc : Int) (i : Int) false) (0, 0) := Evt.step (fun k => spec_l10Take.j1.eq_2 _ _ _ _ k) (Evt.neg (by decide) (Evt.const _))
    by_cases hlt : (i : Int) < s.size
    · refine Evt.pos hlt ?_
      rw [e]
      exact j
    · exact Evt.neg hlt j
  | succ m ih =>
    intro i acc hi ha hl
    refine Evt.step (fun k => spec_l10Take.l0.eq_2 _ _ _ k) ?_
    have e : decide ((i : Int) < 3) = true := by simp; omega
    by_cases hlt : i < s.size
    · refine Evt.pos (by omega) ?_
      rw [e]
      refine Evt.step (fun k => spec_l10Take.j1.eq_2 _ _ _ _ k) (Evt.pos rfl (Evt.pos (by omega) (Evt.pos (by omega) ?_)))
      have hk : IntKind.u64.wrap (wrap64 (7 * (i : Int))) = ((7 * i : Nat) : Int) := by
        rw [w64 (by omega) (by omega)]
        show (7 * (i : Int)) % 18446744073709551616 = _
        omega
      rw [hk, round_eq s i acc (by omega) ha _ rfl, w64 (n := (i : Int) + 1) (by omega) (by omega)]
      have hd : (bytesOf s).drop i = bt s (i : Int) :: (bytesOf s).drop (i + 1) := by
        rw [List.drop_eq_getElem_cons (by rw [bytesOf_length]; exact hlt), bytesOf_get s i hlt]
      have hr := bt_range s (i : Int)
      rw [hd, takeN]
      refine Evt.pos (by omega) ?_
      by_cases hsm : bt s (i : Int) < 128
      · refine Evt.pos hsm ?_
        rw [if_pos hsm]
        refine (Evt.const _).eq ?_
        simp only [ansS]
        rw [show bt s (i : Int) % 128 = bt s (i : Int) by omega]
        rfl
      · refine Evt.neg hsm ?_
        rw [if_neg hsm]
        have hp : 2 ^ (7 * (i + 1)) = 128 * 2 ^ (7 * i) := by
          rw [show 7 * (i + 1) = 7 * i + 7 by omega, Nat.pow_add]
          omega
        have hm : (bt s (i : Int) % 128).toNat * 2 ^ (7 * i) ≤ 127 * 2 ^ (7 * i) := Nat.mul_le_mul (by omega) (Nat.le_refl _)
        refine (ih (i + 1) (acc + (bt s (i : Int) % 128).toNat * 2 ^ (7 * i)) (by omega) (by omega) (by omega)).eq ?_
        cases takeN m ((bytesOf s).drop (i + 1)) with
        | none => rfl
        | some x =>
          simp only [ansS, Option.map_some, Prod.mk.injEq]
          refine ⟨?_, by omega⟩
          congr 1
          rw [hp, Nat.add_mul, Nat.add_assoc]
          congr 2
          rw [Nat.mul_comm 128 x.1, Nat.mul_assoc]
    · refine Evt.neg (by omega) ?_
      rw [show (bytesOf s).drop i = [] by rw [List.drop_eq_nil_iff, bytesOf_length]; omega]
      exact Evt.step (fun k => spec_l10Take.j1.eq_2 _ _ _ _ k) (Evt.neg (by decide) (Evt.const _))
/-- What the program reads off the front. -/
def ansI (o : Option (Nat × Nat)) (s : ByteArray) (acc i : Nat) : Int × ByteArray × Bool := match o with | none => (0, (⟨#[]⟩ : ByteArray), false) | some x => (((acc + x.1 * 2 ^ (7 * i) : Nat) : Int), s.extract (i + x.2) s.size, true)
theorem impl_take (s : ByteArray) (hs : s.size ≤ 1048576) : ∀ (m i acc : Nat), i + m = 4 → acc < 2 ^ (7 * i) → i ≤ s.size →
    Evt (fun k => impl_unpacked.l0 k s (acc : Int) (i : Int)) (ansI (takeN m ((bytesOf s).drop i)) s acc i) := by
  intro m
  induction m with
  | zero =>
    intro i acc hi ha hl
    refine Evt.step (fun k => impl_unpacked.l0.eq_2 _ _ _ k) ?_
    have e : decide ((i : Int) < 4) = false := by simp; omega
    have j : Evt (fun k => impl_unpacked.j1 k s (acc : Int) (i : Int) false) (0, (⟨#[]⟩ : ByteArray), false) := Evt.step (fun k => impl_unpacked.j1.eq_2 _ _ _ _ k) (Evt.neg (by decide) (Evt.const _))
    by_cases hlt : (i : Int) < s.size
    · refine Evt.pos hlt ?_
      rw [e]
      exact j
    · exact Evt.neg hlt j
  | succ m ih =>
    intro i acc hi ha hl
    refine Evt.step (fun k => impl_unpacked.l0.eq_2 _ _ _ k) ?_
    have e : decide ((i : Int) < 4) = true := by simp; omega
    by_cases hlt : i < s.size
    · refine Evt.pos (by omega) ?_
      rw [e]
      refine Evt.step (fun k => impl_unpacked.j1.eq_2 _ _ _ _ k) (Evt.pos rfl (Evt.pos (by omega) (Evt.pos (by omega) ?_)))
      have hk : wrap64 (7 * (i : Int)) = ((7 * i : Nat) : Int) := by
        rw [w64 (by omega) (by omega)]
        omega
      rw [hk, round_eq s i acc (by omega) ha _ rfl, w64 (n := (i : Int) + 1) (by omega) (by omega)]
      have hd : (bytesOf s).drop i = bt s (i : Int) :: (bytesOf s).drop (i + 1) := by
        rw [List.drop_eq_getElem_cons (by rw [bytesOf_length]; exact hlt), bytesOf_get s i hlt]
      have hr := bt_range s (i : Int)
      rw [hd, takeN]
      refine Evt.pos (by omega) ?_
      by_cases hsm : bt s (i : Int) < 128
      · refine Evt.pos hsm (Evt.pos (by omega) (Evt.pos (by omega) ?_))
        rw [if_pos hsm]
        refine (Evt.const _).eq ?_
        simp only [ansI]
        rw [show bt s (i : Int) % 128 = bt s (i : Int) by omega, show ((i : Int) + 1).toNat = i + 1 by omega]
      · refine Evt.neg hsm ?_
        rw [if_neg hsm]
        have hp : 2 ^ (7 * (i + 1)) = 128 * 2 ^ (7 * i) := by
          rw [show 7 * (i + 1) = 7 * i + 7 by omega, Nat.pow_add]
          omega
        have hm : (bt s (i : Int) % 128).toNat * 2 ^ (7 * i) ≤ 127 * 2 ^ (7 * i) := Nat.mul_le_mul (by omega) (Nat.le_refl _)
        refine (ih (i + 1) (acc + (bt s (i : Int) % 128).toNat * 2 ^ (7 * i)) (by omega) (by omega) (by omega)).eq ?_
        cases takeN m ((bytesOf s).drop (i + 1)) with
        | none => rfl
        | some x =>
          simp only [ansI, Option.map_some, Prod.mk.injEq]
          refine ⟨?_, by rw [show i + 1 + x.2 = i + (x.2 + 1) by omega], trivial⟩
          congr 1
          rw [hp, Nat.add_mul, Nat.add_assoc]
          congr 2
          rw [Nat.mul_comm 128 x.1, Nat.mul_assoc]
    · refine Evt.neg (by omega) ?_
      rw [show (bytesOf s).drop i = [] by rw [List.drop_eq_nil_iff, bytesOf_length]; omega]
      exact Evt.step (fun k => impl_unpacked.j1.eq_2 _ _ _ _ k) (Evt.neg (by decide) (Evt.const _))
theorem spec_take0 (s : ByteArray) (hs : s.size ≤ 1048576) : Evt (fun k => spec_l10Take.f k s) (ansS (takeN 3 (bytesOf s)) 0 0) := spec_take s hs 3 0 0 (by omega) (by omega) (by omega)
theorem impl_take0 (s : ByteArray) (hs : s.size ≤ 1048576) : Evt (fun k => impl_unpacked.f k s) (ansI (takeN 4 (bytesOf s)) s 0 0) := impl_take s hs 4 0 0 (by omega) (by omega) (by omega)

/-! ### The whole list: whatever comes in, there is an answer, and it is right where it says so -/
theorem spec_end (s : ByteArray) (out : List Po) (hl : out.length ≤ 201) : ∃ l b, Evt (fun k => (spec_l10List.f k out 10001).bind fun t128 => (if t128 = true then (if (out.length : Int) > 200 then (some (([] : List Po), false)) else ((spec_l10Pack.f k out).bind fun t129 => (if t129.toList = s.toList then (some (out, true)) else (some (([] : List Po), false))))) else (some (([] : List Po), false)))) (l, b) ∧ (b = true → l = out ∧ packed l = (s, true)) ∧ (b = false → l = [] ∧ packed out ≠ (s, true)) := by
  have h := spec_ok 10000 (by omega) (by omega) out (by omega) out.length 0 (-1) (by omega) (fun _ => rfl) (fun h => by omega)
  by_cases hk : okFrom 10000 (-1) out = true
  · by_cases h2 : out.length ≤ 200
    · have hp : packed out = (strOfNums (bytesFrom (-1) out), true) := by unfold packed; rw [if_pos ⟨hk, h2⟩]
      have hb : Evt (fun k => spec_l10Pack.f k out) (strOfNums (bytesFrom (-1) out)) := (spec_bytes out h2 out.length 0 (-1) (⟨#[]⟩ : ByteArray) (by omega) (by omega) (by omega) hk (by simp [ByteArray.size]; omega)).eq (by rw [nil_app]; rfl)
      by_cases he : strOfNums (bytesFrom (-1) out) = s
      · refine ⟨out, true, Evt.bind (a := okFrom 10000 (-1) out) h (Evt.pos hk (Evt.neg (by omega) (Evt.bind hb (Evt.pos (by rw [he]) (Evt.const _))))), fun _ => ⟨rfl, by rw [hp, he]⟩, (fun h => by cases h)⟩
      · refine ⟨[], false, Evt.bind (a := okFrom 10000 (-1) out) h (Evt.pos hk (Evt.neg (by omega) (Evt.bind hb (Evt.neg (fun e => he (toList_inj e)) (Evt.const _))))), (fun h => by cases h), fun _ => ⟨rfl, ?_⟩⟩
        rw [hp]
        intro e
        exact he (congrArg Prod.fst e)
    · refine ⟨[], false, Evt.bind (a := okFrom 10000 (-1) out) h (Evt.pos hk (Evt.pos (by omega) (Evt.const _))), (fun h => by cases h), fun _ => ⟨rfl, ?_⟩⟩
      unfold packed
      rw [if_neg (fun h => h2 h.2)]
      intro e
      cases congrArg Prod.snd e
  · refine ⟨[], false, Evt.bind (a := okFrom 10000 (-1) out) h (Evt.neg hk (Evt.const _)), (fun h => by cases h), fun _ => ⟨rfl, ?_⟩⟩
    unfold packed
    rw [if_neg (fun h => hk h.1)]
    intro e
    cases congrArg Prod.snd e
theorem toList_nil_iff (s : ByteArray) : s.toList = ([] : List UInt8) ↔ s.size = 0 := by
  rw [ByteArray.toList_eq]
  constructor
  · intro h
    rw [← data_length, h]
    rfl
  · intro h
    rw [← data_length] at h
    exact List.eq_nil_of_length_eq_zero h
theorem spec_total (s : ByteArray) : ∀ (n : Nat) (rest : ByteArray) (out : List Po) (last : Int), rest.size ≤ n → rest.size ≤ 1048576 → out.length ≤ 201 → -1 ≤ last → last ≤ out.length * 4194304 →
    ∃ l b, Evt (fun k => spec_UnpackPostings.l0 k s out last rest) (l, b) ∧ (b = true → packed l = (s, true)) ∧ (b = false → l = []) := by
  intro n
  induction n with
  | zero =>
    intro rest out last hn hs ho h0 h1
    obtain ⟨l, b, h, ht, hf⟩ := spec_end s out ho
    refine ⟨l, b, Evt.step (fun k => spec_UnpackPostings.l0.eq_2 _ _ _ _ k) (Evt.pos ((toList_nil_iff _).2 (by omega)) (Evt.step (fun k => spec_UnpackPostings.j1.eq_2 _ _ _ _ _ k) (Evt.neg (by decide) h))), fun hb => (ht hb).2, fun hb => (hf hb).1⟩
  | succ n ih =>
    intro rest out last hn hs ho h0 h1
    by_cases hz : rest.size = 0
    · exact ih rest out last (by omega) hs ho h0 h1
    · have hz' : ¬ rest.toList = ([] : List UInt8) := fun h => hz ((toList_nil_iff _).1 h)
      by_cases h2 : out.length ≤ 200
      · have pre : ∀ {l b}, Evt (fun k => spec_UnpackPostings.j1 k s out last rest true) (l, b) → Evt (fun k => spec_UnpackPostings.l0 k s out last rest) (l, b) := by
          intro l b h
          refine Evt.step (fun k => spec_UnpackPostings.l0.eq_2 _ _ _ _ k) (Evt.neg hz' ?_)
          rw [show decide ((out.length : Int) ≤ 200) = true from decide_eq_true (by omega)]
          exact h
        have t1 := spec_take0 rest hs
        have nothing : Evt (fun _ : Nat => some (([] : List Po), false)) ([], false) := Evt.const _
        cases e1 : takeN 3 (bytesOf rest) with
        | none =>
          rw [e1] at t1
          have t2 := spec_take0 (rest.extract ((ansS none 0 0).2).toNat rest.size) (by rw [ByteArray.size_extract]; omega)
          refine ⟨[], false, pre (Evt.step (fun k => spec_UnpackPostings.j1.eq_2 _ _ _ _ _ k) (Evt.pos rfl (Evt.bind t1 (Evt.pos (by simp [ansS]) (Evt.pos (by simp [ansS]) (Evt.bind t2 (Evt.pos rfl (Evt.const _)))))))), (fun h => by cases h), fun _ => rfl⟩
        | some x =>
          rw [e1] at t1
          have hx := takeN_bound 3 _ x (bytesOf_range rest) e1
          rw [bytesOf_length] at hx
          have ex : (ansS (some x) 0 0).2 = (x.2 : Int) := by simp [ansS]
          have ex1 : (ansS (some x) 0 0).1 = (x.1 : Int) := by simp [ansS]
          have t2 := spec_take0 (rest.extract ((ansS (some x) 0 0).2).toNat rest.size) (by rw [ByteArray.size_extract]; omega)
          rw [ex, Int.toNat_natCast, bytesOf_drop] at t2
          cases e2 : takeN 3 ((bytesOf rest).drop x.2) with
          | none =>
            rw [e2] at t2
            refine ⟨[], false, pre (Evt.step (fun k => spec_UnpackPostings.j1.eq_2 _ _ _ _ _ k) (Evt.pos rfl (Evt.bind t1 (Evt.pos (by rw [ex]; omega) (Evt.pos (by rw [ex]; omega) ?_))))), (fun h => by cases h), fun _ => rfl⟩
            rw [ex, Int.toNat_natCast]
            exact Evt.bind t2 (Evt.neg (by omega) (Evt.pos rfl (Evt.const _)))
          | some y =>
            rw [e2] at t2
            have hy := takeN_bound 3 _ y (fun c hc => bytesOf_range rest c (List.mem_of_mem_drop hc)) e2
            rw [List.length_drop, bytesOf_length] at hy
            have ey : (ansS (some y) 0 0).2 = (y.2 : Int) := by simp [ansS]
            have ey1 : (ansS (some y) 0 0).1 = (y.1 : Int) := by simp [ansS]
            obtain ⟨l, b, h, ht, hf⟩ := ih (rest.extract (x.2 + y.2) rest.size) (out ++ [⟨last + ((x.1 : Int) + 1), (y.1 : Int)⟩]) (last + ((x.1 : Int) + 1)) (by rw [ByteArray.size_extract]; omega) (by rw [ByteArray.size_extract]; omega) (by rw [List.length_append, List.length_singleton]; omega) (by omega) (by rw [List.length_append, List.length_singleton]; omega)
            refine ⟨l, b, pre (Evt.step (fun k => spec_UnpackPostings.j1.eq_2 _ _ _ _ _ k) (Evt.pos rfl (Evt.bind t1 (Evt.pos (by rw [ex]; omega) (Evt.pos (by rw [ex]; omega) ?_))))), ht, hf⟩
            rw [ex, ex1, Int.toNat_natCast]
            refine Evt.bind t2 (Evt.neg (by omega) ?_)
            rw [ey, ey1, w64 (n := (x.2 : Int) + y.2) (by omega) (by omega), w64 (n := (x.1 : Int) + 1) (by omega) (by omega), w64 (n := last + ((x.1 : Int) + 1)) (by omega) (by omega), show ((x.2 : Int) + y.2).toNat = x.2 + y.2 by omega]
            exact Evt.neg (by omega) (Evt.pos (by omega) (Evt.pos (by omega) (Evt.pos (by omega) h)))
      · obtain ⟨l, b, h, ht, hf⟩ := spec_end s out ho
        refine ⟨l, b, Evt.step (fun k => spec_UnpackPostings.l0.eq_2 _ _ _ _ k) (Evt.neg hz' ?_), fun hb => (ht hb).2, fun hb => (hf hb).1⟩
        rw [show decide ((out.length : Int) ≤ 200) = false from decide_eq_false (by omega)]
        exact Evt.step (fun k => spec_UnpackPostings.j1.eq_2 _ _ _ _ _ k) (Evt.neg (by decide) h)

theorem impl_end (s : ByteArray) (out : List Po) (hl : out.length ≤ 200) : ∃ l b, Evt (fun k => (impl_PackPostings.f k out).bind fun bt155 => (if bt155.2 = true then (if bt155.1.toList = s.toList then (some (out, true)) else (some (([] : List Po), false))) else (some (([] : List Po), false)))) (l, b) ∧ (b = true → l = out ∧ packed l = (s, true)) ∧ (b = false → l = [] ∧ packed out ≠ (s, true)) := by
  have h := impl_pack out (by omega)
  by_cases h2 : (packed out).2 = true
  · by_cases he : (packed out).1 = s
    · refine ⟨out, true, Evt.bind h (Evt.pos h2 (Evt.pos (by rw [he]) (Evt.const _))), fun _ => ⟨rfl, Prod.ext he h2⟩, (fun h => by cases h)⟩
    · refine ⟨[], false, Evt.bind h (Evt.pos h2 (Evt.neg (fun e => he (toList_inj e)) (Evt.const _))), (fun h => by cases h), fun _ => ⟨rfl, fun e => he (congrArg Prod.fst e)⟩⟩
  · refine ⟨[], false, Evt.bind h (Evt.neg h2 (Evt.const _)), (fun h => by cases h), fun _ => ⟨rfl, fun e => h2 (congrArg Prod.snd e)⟩⟩
theorem impl_total (s : ByteArray) : ∀ (n : Nat) (rest : ByteArray) (out : List Po) (last : Int), rest.size ≤ n → rest.size ≤ 1048576 → out.length ≤ 200 → -1 ≤ last → last ≤ out.length * 536870912 →
    ∃ l b, Evt (fun k => impl_UnpackPostings.l0 k s out last rest) (l, b) ∧ (b = true → packed l = (s, true)) ∧ (b = false → l = []) := by
  intro n
  induction n with
  | zero =>
    intro rest out last hn hs ho h0 h1
    obtain ⟨l, b, h, ht, hf⟩ := impl_end s out ho
    exact ⟨l, b, Evt.step (fun k => impl_UnpackPostings.l0.eq_2 _ _ _ _ k) (Evt.pos ((toList_nil_iff _).2 (by omega)) h), fun hb => (ht hb).2, fun hb => (hf hb).1⟩
  | succ n ih =>
    intro rest out last hn hs ho h0 h1
    by_cases hz : rest.size = 0
    · exact ih rest out last (by omega) hs ho h0 h1
    · have hz' : ¬ rest.toList = ([] : List UInt8) := fun h => hz ((toList_nil_iff _).1 h)
      have t1 := impl_take0 rest hs
      cases e1 : takeN 4 (bytesOf rest) with
      | none =>
        rw [e1] at t1
        have t2 := impl_take0 (ansI none rest 0 0).2.1 (by simp [ansI, ByteArray.size])
        exact ⟨[], false, Evt.step (fun k => impl_UnpackPostings.l0.eq_2 _ _ _ _ k) (Evt.neg hz' (Evt.bind t1 (Evt.bind t2 (Evt.neg (by simp [ansI]) (Evt.const _))))), (fun h => by cases h), fun _ => rfl⟩
      | some x =>
        rw [e1] at t1
        have hx := takeN_bound 4 _ x (bytesOf_range rest) e1
        rw [bytesOf_length] at hx
        have er : (ansI (some x) rest 0 0).2.1 = rest.extract x.2 rest.size := by simp [ansI]
        have ex1 : (ansI (some x) rest 0 0).1 = (x.1 : Int) := by simp [ansI]
        have t2 := impl_take0 (ansI (some x) rest 0 0).2.1 (by rw [er, ByteArray.size_extract]; omega)
        rw [er, bytesOf_drop] at t2
        cases e2 : takeN 4 ((bytesOf rest).drop x.2) with
        | none =>
          rw [e2] at t2
          refine ⟨[], false, Evt.step (fun k => impl_UnpackPostings.l0.eq_2 _ _ _ _ k) (Evt.neg hz' (Evt.bind t1 ?_)), (fun h => by cases h), fun _ => rfl⟩
          rw [er]
          exact Evt.bind t2 (Evt.pos rfl (Evt.neg (by simp [ansI]) (Evt.const _)))
        | some y =>
          rw [e2] at t2
          have hy := takeN_bound 4 _ y (fun c hc => bytesOf_range rest c (List.mem_of_mem_drop hc)) e2
          rw [List.length_drop, bytesOf_length] at hy
          have ey1 : (ansI (some y) (rest.extract x.2 rest.size) 0 0).1 = (y.1 : Int) := by simp [ansI]
          have ey2 : (ansI (some y) (rest.extract x.2 rest.size) 0 0).2.1 = (rest.extract x.2 rest.size).extract y.2 (rest.extract x.2 rest.size).size := by simp [ansI]
          by_cases h200 : out.length = 200
          · refine ⟨[], false, Evt.step (fun k => impl_UnpackPostings.l0.eq_2 _ _ _ _ k) (Evt.neg hz' (Evt.bind t1 ?_)), (fun h => by cases h), fun _ => rfl⟩
            rw [er]
            exact Evt.bind t2 (Evt.pos rfl (Evt.pos rfl (Evt.pos (by omega) (Evt.const _))))
          · obtain ⟨l, b, h, ht, hf⟩ := ih ((rest.extract x.2 rest.size).extract y.2 (rest.extract x.2 rest.size).size) (out ++ [⟨last + ((x.1 : Int) + 1), (y.1 : Int)⟩]) (last + ((x.1 : Int) + 1)) (by rw [ByteArray.size_extract, ByteArray.size_extract]; omega) (by rw [ByteArray.size_extract, ByteArray.size_extract]; omega) (by rw [List.length_append, List.length_singleton]; omega) (by omega) (by rw [List.length_append, List.length_singleton]; omega)
            refine ⟨l, b, Evt.step (fun k => impl_UnpackPostings.l0.eq_2 _ _ _ _ k) (Evt.neg hz' (Evt.bind t1 ?_)), ht, hf⟩
            rw [er, ex1]
            refine Evt.bind t2 (Evt.pos rfl (Evt.pos rfl (Evt.neg (by omega) (Evt.pos (by omega) ?_))))
            rw [ey1, ey2, w64 (n := (x.1 : Int) + 1) (by omega) (by omega), w64 (n := last + ((x.1 : Int) + 1)) (by omega) (by omega)]
            exact h

/-! ### What is packed is found again -/
theorem packN_range : ∀ (m n : Nat), n ≤ m → ∀ c ∈ packN n, 0 ≤ c ∧ c < 256 := by
  intro m
  induction m with
  | zero =>
    intro n hn c hc
    rw [packN_small (by omega)] at hc
    simp at hc
    omega
  | succ m ih =>
    intro n hn c hc
    by_cases hb : 128 ≤ n
    · rw [packN_big hb] at hc
      rcases List.mem_cons.1 hc with rfl | hc
      · omega
      · exact ih (n / 128) (by omega) c hc
    · rw [packN_small (by omega)] at hc
      simp at hc
      omega
theorem bytesFrom_range (l : List Po) : ∀ last : Int, ∀ c ∈ bytesFrom last l, 0 ≤ c ∧ c < 256 := by
  induction l with
  | nil => intro last c hc; simp [bytesFrom] at hc
  | cons p l ih =>
    intro last c hc
    simp only [bytesFrom, List.mem_append] at hc
    rcases hc with (hc | hc) | hc
    · exact packN_range _ _ (Nat.le_refl _) c hc
    · exact packN_range _ _ (Nat.le_refl _) c hc
    · exact ih _ c hc
theorem packN_pos (n : Nat) : 1 ≤ (packN n).length := by
  by_cases hb : 128 ≤ n
  · rw [packN_big hb, List.length_cons]
    omega
  · rw [packN_small (by omega)]
    simp
theorem drop_strOf (a b : List Int) (j : Nat) (hj : j = a.length) : (strOfNums (a ++ b)).extract j (strOfNums (a ++ b)).size = strOfNums b := by
  apply ByteArray.ext
  apply Array.ext'
  rw [ByteArray.data_extract, Array.toList_extract, strOfNums_data, strOfNums_data, List.extract_eq_take_drop, strOfNums_size, List.map_append, hj]
  rw [List.drop_append_of_le_length (by simp), List.drop_eq_nil_of_le (by simp), List.nil_append, List.take_of_length_le (by simp)]
theorem spec_complete (s : ByteArray) (l' : List Po) : ∀ (out : List Po) (last : Int), out.length + l'.length ≤ 200 → -1 ≤ last → last ≤ 10000 → okFrom 10000 last l' = true → packed (out ++ l') = (s, true) →
    Evt (fun k => spec_UnpackPostings.l0 k s out last (strOfNums (bytesFrom last l'))) (out ++ l', true) := by
  induction l' with
  | nil =>
    intro out last ho h0 h1 hk hp
    rw [List.append_nil] at hp ⊢
    rw [bytesFrom, strOfNums_nil]
    obtain ⟨l, b, h, ht, hf⟩ := spec_end s out (by simp at ho; omega)
    have hb : b = true := by
      cases b with
      | true => rfl
      | false => exact absurd hp (hf rfl).2
    subst hb
    obtain ⟨rfl, _⟩ := ht rfl
    exact Evt.step (fun k => spec_UnpackPostings.l0.eq_2 _ _ _ _ k) (Evt.pos ((toList_nil_iff _).2 rfl) (Evt.step (fun k => spec_UnpackPostings.j1.eq_2 _ _ _ _ _ k) (Evt.neg (by decide) h)))
  | cons p l' ih =>
    intro out last ho h0 h1 hk hp
    simp only [List.length_cons] at ho
    simp only [okFrom, Bool.and_eq_true, decide_eq_true_eq] at hk
    obtain ⟨⟨k1, k2, k3, k4⟩, k5⟩ := hk
    have r1 := bytesFrom_range (p :: l') last
    have b1 := packN_len 1 (p.f0 - last - 1).toNat (by omega)
    have b2 := packN_len 0 p.f1.toNat (by omega)
    have c1 := packN_pos (p.f0 - last - 1).toNat
    have c2 := packN_pos p.f1.toNat
    have b3 := bytesFrom_len l' p.f0 (by omega) k5
    have hsz : (strOfNums (bytesFrom last (p :: l'))).size = (packN (p.f0 - last - 1).toNat).length + (packN p.f1.toNat).length + (bytesFrom p.f0 l').length := by
      rw [strOfNums_size]
      simp only [bytesFrom, List.length_append]
    have hB : bytesFrom last (p :: l') = packN (p.f0 - last - 1).toNat ++ (packN p.f1.toNat ++ bytesFrom p.f0 l') := by simp only [bytesFrom, List.append_assoc]
    have t1 := spec_take0 (strOfNums (bytesFrom last (p :: l'))) (by omega)
    rw [bytesOf_strOf _ r1, hB, takeN_pack 2 _ _ (by omega)] at t1
    have t2 := spec_take0 (strOfNums (packN p.f1.toNat ++ bytesFrom p.f0 l')) (by rw [strOfNums_size, List.length_append]; omega)
    rw [bytesOf_strOf _ (fun c hc => r1 c (by rw [hB]; exact List.mem_append_right _ hc)), takeN_pack 2 _ _ (by omega)] at t2
    have hz' : ¬ (strOfNums (bytesFrom last (p :: l'))).toList = ([] : List UInt8) := fun h => by
      have := (toList_nil_iff _).1 h
      omega
    refine Evt.step (fun k => spec_UnpackPostings.l0.eq_2 _ _ _ _ k) (Evt.neg hz' ?_)
    rw [show decide ((out.length : Int) ≤ 200) = true from decide_eq_true (by omega)]
    rw [hB] at hsz ⊢
    refine Evt.step (fun k => spec_UnpackPostings.j1.eq_2 _ _ _ _ _ k) (Evt.pos rfl (Evt.bind t1 ?_))
    have ex : ∀ (v n : Nat), (ansS (some (v, n)) 0 0).2 = (n : Int) := fun v n => by simp [ansS]
    have ex1 : ∀ (v n : Nat), (ansS (some (v, n)) 0 0).1 = (v : Int) := fun v n => by simp [ansS]
    rw [ex, ex1]
    refine Evt.pos (by omega) (Evt.pos (by omega) ?_)
    rw [Int.toNat_natCast, drop_strOf _ _ _ rfl]
    refine Evt.bind t2 ?_
    rw [ex, ex1]
    refine Evt.neg (by omega) (Evt.neg (by omega) (Evt.pos (by omega) ?_))
    rw [w64 (n := ((packN (p.f0 - last - 1).toNat).length : Int) + ((packN p.f1.toNat).length : Int)) (by omega) (by omega), w64 (n := (((p.f0 - last - 1).toNat : Nat) : Int) + 1) (by omega) (by omega), w64 (n := last + ((((p.f0 - last - 1).toNat : Nat) : Int) + 1)) (by omega) (by omega)]
    refine Evt.pos (by omega) (Evt.pos (by omega) ?_)
    rw [show ((((packN (p.f0 - last - 1).toNat).length : Int) + ((packN p.f1.toNat).length : Int))).toNat = (packN (p.f0 - last - 1).toNat ++ packN p.f1.toNat).length by rw [List.length_append]; omega, ← List.append_assoc, drop_strOf _ _ _ rfl]
    have e1 : last + ((((p.f0 - last - 1).toNat : Nat) : Int) + 1) = p.f0 := by omega
    have e2 : ((p.f1.toNat : Nat) : Int) = p.f1 := by omega
    rw [e1, e2]
    have e3 : out ++ p :: l' = (out ++ [p]) ++ l' := by simp
    rw [e3] at hp ⊢
    exact ih (out ++ [p]) p.f0 (by rw [List.length_append, List.length_singleton]; omega) (by omega) (by omega) k5 hp
theorem impl_complete (s : ByteArray) (l' : List Po) : ∀ (out : List Po) (last : Int), out.length + l'.length ≤ 200 → -1 ≤ last → last ≤ 10000 → okFrom 10000 last l' = true → packed (out ++ l') = (s, true) →
    Evt (fun k => impl_UnpackPostings.l0 k s out last (strOfNums (bytesFrom last l'))) (out ++ l', true) := by
  induction l' with
  | nil =>
    intro out last ho h0 h1 hk hp
    rw [List.append_nil] at hp ⊢
    rw [bytesFrom, strOfNums_nil]
    obtain ⟨l, b, h, ht, hf⟩ := impl_end s out (by simp at ho; omega)
    have hb : b = true := by
      cases b with
      | true => rfl
      | false => exact absurd hp (hf rfl).2
    subst hb
    obtain ⟨rfl, _⟩ := ht rfl
    exact Evt.step (fun k => impl_UnpackPostings.l0.eq_2 _ _ _ _ k) (Evt.pos ((toList_nil_iff _).2 rfl) h)
  | cons p l' ih =>
    intro out last ho h0 h1 hk hp
    simp only [List.length_cons] at ho
    simp only [okFrom, Bool.and_eq_true, decide_eq_true_eq] at hk
    obtain ⟨⟨k1, k2, k3, k4⟩, k5⟩ := hk
    have r1 := bytesFrom_range (p :: l') last
    have b1 := packN_len 1 (p.f0 - last - 1).toNat (by omega)
    have b2 := packN_len 0 p.f1.toNat (by omega)
    have c1 := packN_pos (p.f0 - last - 1).toNat
    have c2 := packN_pos p.f1.toNat
    have b3 := bytesFrom_len l' p.f0 (by omega) k5
    have hB : bytesFrom last (p :: l') = packN (p.f0 - last - 1).toNat ++ (packN p.f1.toNat ++ bytesFrom p.f0 l') := by simp only [bytesFrom, List.append_assoc]
    have hsz : (strOfNums (bytesFrom last (p :: l'))).size = (packN (p.f0 - last - 1).toNat).length + ((packN p.f1.toNat).length + (bytesFrom p.f0 l').length) := by
      rw [strOfNums_size, hB, List.length_append, List.length_append]
    have t1 := impl_take0 (strOfNums (bytesFrom last (p :: l'))) (by omega)
    rw [bytesOf_strOf _ r1, hB, takeN_pack 3 _ _ (by omega)] at t1
    have t2 := impl_take0 (strOfNums (packN p.f1.toNat ++ bytesFrom p.f0 l')) (by rw [strOfNums_size, List.length_append]; omega)
    rw [bytesOf_strOf _ (fun c hc => r1 c (by rw [hB]; exact List.mem_append_right _ hc)), takeN_pack 3 _ _ (by omega)] at t2
    have hz' : ¬ (strOfNums (bytesFrom last (p :: l'))).toList = ([] : List UInt8) := fun h => by
      have := (toList_nil_iff _).1 h
      omega
    refine Evt.step (fun k => impl_UnpackPostings.l0.eq_2 _ _ _ _ k) (Evt.neg hz' ?_)
    rw [hB]
    refine Evt.bind t1 ?_
    have ex1 : ∀ (v n : Nat) (t : ByteArray), (ansI (some (v, n)) t 0 0).1 = (v : Int) := fun v n t => by simp [ansI]
    have er : ∀ (v n : Nat) (t : ByteArray), (ansI (some (v, n)) t 0 0).2.1 = t.extract n t.size := fun v n t => by simp [ansI]
    rw [er, ex1, drop_strOf _ _ _ rfl]
    refine Evt.bind t2 (Evt.pos rfl (Evt.pos rfl (Evt.neg (by omega) (Evt.pos (by omega) ?_))))
    rw [er, ex1, drop_strOf _ _ _ rfl, w64 (n := (((p.f0 - last - 1).toNat : Nat) : Int) + 1) (by omega) (by omega), w64 (n := last + ((((p.f0 - last - 1).toNat : Nat) : Int) + 1)) (by omega) (by omega)]
    have e1 : last + ((((p.f0 - last - 1).toNat : Nat) : Int) + 1) = p.f0 := by omega
    have e2 : ((p.f1.toNat : Nat) : Int) = p.f1 := by omega
    rw [e1, e2]
    have e3 : out ++ p :: l' = (out ++ [p]) ++ l' := by simp
    rw [e3] at hp ⊢
    exact ih (out ++ [p]) p.f0 (by rw [List.length_append, List.length_singleton]; omega) (by omega) (by omega) k5 hp

theorem packed_true {l : List Po} {s : ByteArray} (h : packed l = (s, true)) : okFrom 10000 (-1) l = true ∧ l.length ≤ 200 ∧ s = strOfNums (bytesFrom (-1) l) := by
  unfold packed at h
  split at h
  · rename_i hc
    exact ⟨hc.1, hc.2, (congrArg Prod.fst h).symm⟩
  · cases congrArg Prod.snd h
/-- Both come to one answer. -/
theorem both (s : ByteArray) (hs : s.size ≤ 1048576) : ∃ l b, Evt (fun k => spec_UnpackPostings.f k s) (l, b) ∧ Evt (fun k => impl_UnpackPostings.f k s) (l, b) ∧ (b = true → packed l = (s, true)) ∧ (b = false → l = []) ∧ l.length ≤ 200 := by
  obtain ⟨l, b, h, ht, hf⟩ := spec_total s s.size s [] (-1) (by omega) hs (by simp) (by omega) (by simp)
  obtain ⟨l2, b2, h2, ht2, hf2⟩ := impl_total s s.size s [] (-1) (by omega) hs (by simp) (by omega) (by simp)
  cases b with
  | true =>
    have hp := ht rfl
    obtain ⟨q1, q2, q3⟩ := packed_true hp
    have h3 := impl_complete s l [] (-1) (by simp; omega) (by omega) (by omega) q1 hp
    rw [← q3] at h3
    exact ⟨l, true, h, h3, fun _ => hp, (fun h => by cases h), q2⟩
  | false =>
    cases b2 with
    | true =>
      have hp := ht2 rfl
      obtain ⟨q1, q2, q3⟩ := packed_true hp
      have h3 := spec_complete s l2 [] (-1) (by simp; omega) (by omega) (by omega) q1 hp
      rw [← q3] at h3
      cases congrArg Prod.snd (Evt.uniq h h3)
    | false =>
      obtain rfl := hf rfl
      obtain rfl := hf2 rfl
      exact ⟨[], false, h, h2, (fun h => by cases h), fun _ => rfl, by simp⟩
end Go.Proofs.Ytilgcfhnpnokpaa.Unp

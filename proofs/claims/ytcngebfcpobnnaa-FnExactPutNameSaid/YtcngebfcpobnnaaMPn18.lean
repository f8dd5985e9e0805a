/- Several texts in one: what the claim's last text rests on. No conditions. -/
import Derived.Test.YtcngebfcpobnnaaMPn15
import Derived.Test.YtcngebfcpobnnaaMPn13
import Derived.Test.YtcngebfcpobnnaaMPn17
import Derived.Test.YtcngebfcpobnnaaMPn12
import Derived.Test.YtcngebfcpobnnaaMPn9
import Derived.Test.YtcngebfcpobnnaaMPn7
import Derived.Test.YtcngebfcpobnnaaMPn5
section
namespace Go.Proofs.Ytcngebfcpobnnaa.Rx
set_option linter.unusedVariables false
set_option linter.unusedSimpArgs false
open Go.RowKit Go.Proofs.Ytcngebfcpobnnaa.PQ Go.Proofs.YtcngebfcpobnnaaW.PrintWords Go.Proofs.YtcngebfcpobnnaaW.PrintLast Go.Proofs.Ytcngebfcpobnnaa.Pre Go.Proofs.Ytcngebfcpobnnaa.CmpL Go.Proofs.Ytcngebfcpobnnaa.Com Go.Proofs.Ytcngebfcpobnnaa.Sml Go.Proofs.Ytcngebfcpobnnaa.SrE
def notN (s : ByteArray) : Bool := !isN s
def root : Eg := ⟨⟨#[]⟩, false, -1⟩
/-- The tree of rising names. -/
def tree (l : List ByteArray) : List Eg := bld (left l 0) l 0 0 [root]
def ansRad (l : List ByteArray) : List Eg × Bool := if l.length ≤ 40 ∧ l.any notN = false ∧ l.Nodup then (tree (srt l), true) else ([], false)
/-- Names that rise. -/
structure Names (l : List ByteArray) : Prop where
 rise : l.Pairwise (fun a b => ltS a b = true)
 each : ∀ n ∈ l, isN n = true
theorem Names.ok {l : List ByteArray} (h : Names l) : Ok l 0 :=
 ⟨h.rise, fun n hn => (isN_size (h.each n hn)).1, fun n hn m hm => by
  apply Byt.bytesOf_inj
  rw [Byt.bytesOf_take, Byt.bytesOf_take]
  rfl⟩
theorem Names.size {l : List ByteArray} (h : Names l) : ∀ n ∈ l, n.size ≤ 20 := fun n hn => (isN_size (h.each n hn)).2.1
theorem Names.left {l : List ByteArray} (h : Names l) : left l 0 ≤ 20 * l.length := by
 have hs := h.size
 clear h
 induction l with
 | nil => exact Nat.zero_le _
 | cons a l ih =>
  have h1 := hs a List.mem_cons_self
  have h2 := ih (fun n hn => hs n (List.mem_cons_of_mem _ hn))
  rw [left_cons, List.length_cons]
  omega
theorem tree_len {l : List ByteArray} (h : Names l) : 1 ≤ (tree l).length ∧ (tree l).length ≤ 1 + 2 * l.length := by
 obtain ⟨E, h1, h2⟩ := bld_len (Rx.left l 0) l 0 0 [root] h.ok (Nat.le_refl _) (by simp)
 unfold tree
 rw [h1, List.length_append, List.length_singleton]
 omega
theorem impl_tree {l : List ByteArray} (h : Names l) (hl : l.length ≤ 1000) : Evt (fun k => impl_radixOf.f k l) (tree l) := by
 have h2 := h.left
 unfold impl_radixOf.f
 refine Evt.bind (Evt.step (fun k => impl_grow.f.eq_2 _ _ _ _ k) (grow_ev (Rx.left l 0) l 0 0 [root] h.ok (Nat.le_refl _) (fun n hn => by have := h.size n hn; omega) (by simp) (by simp; omega))) (Evt.const _)
theorem sufs_0 (l : List ByteArray) : sufs l 0 = l := by
 unfold sufs
 conv => rhs; rw [← List.map_id l]
 exact List.map_congr_left (fun n _ => suf_0 n)
theorem spec_tree {l : List ByteArray} (h : Names l) (hl : l.length ≤ 1000) : Evt (fun k => spec_l13Radix.f k l) (tree l) := by
 have h2 := h.left
 have hb := spec_ev (Rx.left l 0) l 0 0 [root] h.ok (Nat.le_refl _) (fun n hn => by have := h.size n hn; omega) (by simp) (by simp; omega)
 rw [sufs_0] at hb
 unfold spec_l13Radix.f
 have hj : Evt (fun k => spec_l13Build.j0 k l [] 0 false ⟨#[]⟩ false (-1)) (tree l) :=
  Evt.step (fun k => spec_l13Build.j0.eq_2 _ _ _ _ _ _ _ k) (Evt.neg (by simp) (Evt.step (fun k => spec_l13Build.j1.eq_2 _ _ _ _ _ _ k) (Evt.pos (by simp) hb)))
 have hm : Evt (fun k => spec_l13Build.f k l (⟨#[]⟩ : ByteArray) (-1) ([] : List Eg)) (tree l) := by
  refine Evt.step (fun k => spec_l13Build.f.eq_2 _ _ _ _ k) ?_
  by_cases h0 : 0 < l.length
  ·
   have e0 : rdOf ByteArray.empty l 0 = l[0] := rd_str l 0 h0
   have e1 : (l[0].toList == ([] : List UInt8)) = false := by
    rw [beq_eq_false_iff_ne, ne_eq, Byt.toList_nil_iff]
    have := (isN_size (h.each _ (List.getElem_mem h0))).1
    omega
   refine Evt.pos (by omega) (Evt.pos (by omega) ?_)
   rw [e0, e1]
   exact hj
  ·
   exact Evt.neg (by omega) hj
 first | exact Evt.bind hm (Evt.const _) | exact hm
def memN (l : List ByteArray) (s : ByteArray) : Bool := l.any (fun y => decide (y = s))
theorem memN_iff {l : List ByteArray} {s : ByteArray} : memN l s = true ↔ s ∈ l := by
 unfold memN
 rw [List.any_eq_true]
 constructor
 ·
  rintro ⟨y, hy, e⟩
  exact of_decide_eq_true e ▸ hy
 ·
  intro h
  exact ⟨s, h, decide_eq_true rfl⟩
/-- The place of a name among rising ones. -/
def putN (l : List ByteArray) (s : ByteArray) : List ByteArray × Bool :=
 if memN l s = true then (l, false) else (l.takeWhile (fun n => ltS n s) ++ s :: l.dropWhile (fun n => ltS n s), true)
theorem put_ev (l : List ByteArray) (s : ByteArray) (hl : l.length ≤ 1048576) (hr : l.Pairwise (fun a b => ltS a b = true)) : Evt (fun k => spec_l13Put.f k l s) (putN l s) := by
 unfold spec_l13Put.f
 have hs := take_drop_tw (fun n => ltS n s) l
 have hd := drop_tw (fun n => ltS n s) l
 obtain ⟨T, hT⟩ : ∃ T, T = l.takeWhile (fun n => ltS n s) := ⟨_, rfl⟩
 have hTl : T.length ≤ l.length := by rw [hT]; exact (List.takeWhile_sublist _).length_le
 have htk : l.take T.length = T := by
  conv => lhs; rw [← hs]
  rw [← hT, List.take_left]
 rw [← hT] at hs hd
 have hat : ∀ i (h : i < T.length), ltS (l[i]'(by omega)) s = true := fun i h => by
  have e : l[i]'(by omega) = T[i] := by
   have : l[i]? = T[i]? := by
    conv => lhs; rw [← hs]
    rw [List.getElem?_append_left h]
   rw [List.getElem?_eq_getElem (by omega), List.getElem?_eq_getElem h] at this
   exact Option.some.inj this
  rw [e]
  have := List.all_takeWhile (p := fun n => ltS n s) (l := l)
  rw [← hT, List.all_eq_true] at this
  exact this _ (List.getElem_mem h)
 have hend : ∀ (h : T.length < l.length), ltS l[T.length] s = false := fun h => by
  have := List.head?_dropWhile_not (fun n => ltS n s) l
  rw [← hd] at this
  have e : (l.drop T.length).head? = some l[T.length] := by
   rw [List.head?_drop, List.getElem?_eq_getElem h]
  rw [e] at this
  simpa using this
 have hmem : s ∈ l ↔ ∃ h : T.length < l.length, l[T.length] = s := by
  constructor
  ·
   intro hm
   obtain ⟨i, hi, e⟩ := List.getElem_of_mem hm
   rcases Nat.lt_trichotomy i T.length with h | h | h
   ·
    have := hat i h
    rw [e, ltS_irrefl] at this
    cases this
   ·
    subst h
    exact ⟨hi, e⟩
   ·
    have h1 := hend (by omega)
    have h2 := List.pairwise_iff_getElem.1 hr T.length i (by omega) hi h
    rw [e] at h2
    rw [h2] at h1
    cases h1
  ·
   rintro ⟨h, e⟩
   rw [← e]
   exact List.getElem_mem h
 have hput : ∀ (hn : s ∉ l), Evt (fun k => if 0 ≤ (T.length : Int) then (if (T.length : Int) ≤ (l.length : Int) then ((some (l.take (T.length : Int).toNat : List ByteArray)).bind fun y121 => (if ([] : List ByteArray).length + y121.length < 8796093022208 then ((some (([] : List ByteArray) ++ y121 : List ByteArray)).bind fun y125 => (if y125.length < 8796093022208 then ((some (y125 ++ [s] : List ByteArray)).bind fun y128 => ((some (l.drop (T.length : Int).toNat : List ByteArray)).bind fun y131 => (if y128.length + y131.length < 8796093022208 then some ((y128 ++ y131), true) else none))) else none)) else none)) else none) else none) (putN l s) := fun hn => by
  refine Evt.pos (by omega) (Evt.pos (by omega) (Evt.bsome ?_))
  rw [Int.toNat_natCast, htk]
  refine Evt.pos (by simp; omega) (Evt.bsome (Evt.pos (by simp; omega) (Evt.bsome (Evt.bsome (Evt.pos (by simp; omega) ((Evt.const _).eq ?_))))))
  unfold putN
  rw [if_neg (fun h => hn (memN_iff.1 h)), ← hT, hd]
  simp
 have key : ∀ (m i : Nat), i + m = T.length → Evt (fun k => spec_l13Put.l0 k l s (i : Int)) (putN l s) := by
  intro m
  induction m with
  | zero =>
   intro i hi
   obtain rfl : i = T.length := by omega
   refine Evt.step (fun k => spec_l13Put.l0.eq_2 _ _ _ k) ?_
   by_cases h : T.length < l.length
   ·
    have h1 := hend h
    refine Evt.pos (by omega) (Evt.pos (by omega) ?_)
    rw [rd_str l T.length h]
    refine Evt.neg (by show ¬ ltS _ _ = true; rw [h1]; decide) ?_
    by_cases he : l[T.length] = s
    ·
     refine Evt.pos (by rw [he]) ((Evt.const _).eq ?_)
     unfold putN
     rw [if_pos (memN_iff.2 (hmem.2 ⟨h, he⟩))]
    ·
     refine Evt.neg (fun e => he (Byt.toList_inj e)) ?_
     have hp := hput (fun hm => by obtain ⟨_, e⟩ := hmem.1 hm; exact he e)
     obtain ⟨K, hK⟩ := hp
     refine ⟨K, fun k hk => ?_⟩
     have := hK k hk
     rw [if_pos (by omega : (0 : Int) ≤ (T.length : Int))] at this
     exact this
   ·
    exact Evt.neg (by omega) (hput (fun hm => by obtain ⟨h2, _⟩ := hmem.1 hm; exact h h2))
  | succ m ih =>
   intro i hi
   refine Evt.step (fun k => spec_l13Put.l0.eq_2 _ _ _ k) (Evt.pos (by omega) (Evt.pos (by omega) ?_))
   rw [rd_str l i (by omega), w64 (n := (i : Int) + 1) (by omega) (by omega)]
   exact Evt.pos (hat i (by omega)) (ih (i + 1) (by omega))
 exact key T.length 0 (by omega)
theorem put_rise {l : List ByteArray} {s : ByteArray} (hr : l.Pairwise (fun a b => ltS a b = true)) (hn : s ∉ l) :
  (l.takeWhile (fun n => ltS n s) ++ s :: l.dropWhile (fun n => ltS n s)).Pairwise (fun a b => ltS a b = true) ∧ (l.takeWhile (fun n => ltS n s) ++ s :: l.dropWhile (fun n => ltS n s)).Perm (s :: l) := by
 have hs : l.takeWhile (fun n => ltS n s) ++ l.dropWhile (fun n => ltS n s) = l := List.takeWhile_append_dropWhile
 have hall := List.all_takeWhile (p := fun n => ltS n s) (l := l)
 have hhd := List.head?_dropWhile_not (fun n => ltS n s) l
 generalize l.takeWhile (fun n => ltS n s) = T at *
 generalize l.dropWhile (fun n => ltS n s) = D at *
 rw [List.all_eq_true] at hall
 refine ⟨?_, ?_⟩
 ·
  rw [← hs] at hr
  have hr2 := List.pairwise_append.1 hr
  have hD : ∀ b ∈ D, ltS s b = true := by
   cases D with
   | nil => intro b hb; cases hb
   | cons d D =>
    have hd : ltS d s = false := by simpa using hhd
    have hds : ltS s d = true := by
     cases h : ltS s d with
     | true => rfl
     | false =>
      have e := ltS_tri hd h
      exact absurd (by rw [← hs, ← e]; simp) hn
    intro b hb
    rcases List.mem_cons.1 hb with rfl | hb
    ·
     exact hds
    ·
     exact ltS_trans hds ((List.pairwise_cons.1 hr2.2.1).1 b hb)
  refine List.pairwise_append.2 ⟨hr2.1, List.pairwise_cons.2 ⟨hD, hr2.2.1⟩, fun a ha b hb => ?_⟩
  rcases List.mem_cons.1 hb with rfl | hb
  ·
   exact hall a ha
  ·
   exact hr2.2.2 a ha b hb
 ·
  conv => rhs; rw [← hs]
  exact List.perm_middle
theorem rise_unique {a b : List ByteArray} (h : a.Perm b) (ha : a.Pairwise (fun a b => ltS a b = true)) (hb : b.Pairwise (fun a b => ltS a b = true)) : a = b :=
 h.eq_of_pairwise (fun x y _ _ h1 h2 => by have := ltS_asymm h1; rw [h2] at this; cases this) ha hb
theorem leB_tri (a b : ByteArray) : (leB a b || leB b a) = true := by
 unfold leB
 cases h : ltS b a with
 | false => rfl
 | true => rw [ltS_asymm h]; rfl
theorem leB_trans (a b c : ByteArray) (h1 : leB a b = true) (h2 : leB b c = true) : leB a c = true := by
 unfold leB at *
 simp only [Bool.not_eq_true'] at *
 exact ltS_ntrans h2 h1
theorem srt_perm (l : List ByteArray) : (srt l).Perm l := List.mergeSort_perm _ _
theorem srt_rise {l : List ByteArray} (h : l.Nodup) : (srt l).Pairwise (fun a b => ltS a b = true) := by
 have h1 : (srt l).Pairwise (fun a b => leB a b = true) := List.pairwise_mergeSort (fun a b c => leB_trans a b c) leB_tri l
 have h2 : (srt l).Nodup := (srt_perm l).nodup_iff.2 h
 refine (h1.and h2).imp ?_
 rintro a b ⟨h3, h4⟩
 unfold leB at h3
 simp only [Bool.not_eq_true'] at h3
 cases h5 : ltS a b with
 | true => rfl
 | false => exact absurd (ltS_tri h5 h3) h4
theorem names_srt {l : List ByteArray} (hn : l.any notN = false) (h : l.Nodup) : Names (srt l) :=
 ⟨srt_rise h, fun n hm => by
  rw [List.any_eq_false] at hn
  have := hn n ((srt_perm l).mem_iff.1 hm)
  unfold notN at this
  simpa using this⟩
theorem ansRad_len (l : List ByteArray) : (ansRad l).1.length ≤ 81 := by
 unfold ansRad
 split
 ·
  rename_i h
  have := tree_len (names_srt h.2.1 h.2.2)
  have h2 := srt_len l
  show (tree (srt l)).length ≤ 81
  omega
 ·
  exact Nat.zero_le _
end Go.Proofs.Ytcngebfcpobnnaa.Rx
end

section
namespace Go.Proofs.Ytcngebfcpobnnaa.Rad
set_option linter.unusedVariables false
set_option linter.unusedSimpArgs false
open Go.RowKit Go.Lib Go.Proofs.Ytcngebfcpobnnaa.PQ Go.Proofs.YtcngebfcpobnnaaW.PrintWords Go.Proofs.YtcngebfcpobnnaaW.PrintLast Go.Proofs.YtcngebfcpobnnaaW.PrintMore Go.Proofs.Ytcngebfcpobnnaa.Pre Go.Proofs.Ytcngebfcpobnnaa.Sml Go.Proofs.Ytcngebfcpobnnaa.SrE Go.Proofs.Ytcngebfcpobnnaa.Rx
theorem lit_calls (s : ByteArray) (w : World) (hs : s.size ≤ 1048576) : Calls Try.prog 41 #[.string s] w fun e w' => e = .returned (.bool (notN s)) ∧ Below w.heap.size w w' := by
 obtain ⟨k, hk⟩ := (impl_name s hs).ex
 have E := aM hk
 obtain ⟨b, hb⟩ : ∃ b, b = isN s := ⟨_, rfl⟩
 unfold notN
 rw [← hb] at E ⊢
 clear hk hb
 go_enter Try.func41, Try.ntmps41
 go_wp2_with (first | (go_at_call 42; go_loud ((with_reducible refine (impl_nameOK.calls k s b _ E.out).mono ?_); rintro e w2 ⟨rfl, hd⟩; have HB2 := aM hd.below; clear hd)))
 go_ret
 exact ⟨rfl, HB2.out⟩
theorem str_at {w : World} {A : Option Addr} {xs : List ByteArray} (h : Kd.C Kd.string w A xs.length xs) (i : Nat) (hi : i < xs.length) : ∃ ad, A = some ad ∧ w.cell? (ad.add i) = some (.string xs[i]) := by
 obtain ⟨ad, c, e, _, hK, hc0⟩ := Kd.C_get h ByteArray.empty (i : Int) (by omega) (by omega)
 rw [Int.toNat_natCast, List.getD_eq_getElem?_getD, List.getElem?_eq_getElem hi] at hK
 rw [Int.toNat_natCast] at hc0
 have hk : c = [.string xs[i]] := hK
 subst hk
 refine ⟨ad, e, ?_⟩
 have h1 := hc0 0 _ rfl
 rw [show Kd.string.sz = 1 from rfl, Nat.mul_one, Nat.add_zero] at h1
 exact h1
set_option maxHeartbeats 1000000 in
theorem index_calls (A : Option Addr) (c : Nat) (l : List ByteArray) (w : World) (hr : Kd.C Kd.string w A l.length l) (hl : l.length ≤ 1048576 ∧ ∀ s ∈ l, s.size ≤ 1048576) :
  Calls Try.prog 68 #[.slice A l.length c, .func (.func 41) #[] #[]] w fun e w' => ∃ r : Int, e = .returned (.int .i64 r) ∧ decide ((0 : Int) ≤ r) = l.any notN ∧ Below w.heap.size w w' := by
 have HR := aM hr
 have HL := aM hl
 have HL1 := aM hl.1
 clear hr hl
 go_enter Try.func68, Try.ntmps68
 go_wp2
 go_loopg [8] l.length (fun kq v8 w' => ∃ i : Nat, v8 = .int .i64 (i : Int) ∧ i ≤ l.length ∧ kq = l.length - i ∧ Aside0 ((l.take i).any notN = false) ∧ Aside0 (Below w.heap.size w w'))
 case atStart => exact ⟨0, rfl, by omega, by omega, ⟨by simp⟩, ⟨Below.refl _ _⟩⟩
 case round =>
  obtain ⟨i, rfl, hi, hk, HE, HB⟩ := hrel
  by_cases hlt : i < l.length
  ·
   have HI := aM hlt
   have p1 : (0 : Int) ≤ (i : Int) := by omega
   have q1 : (i : Int) < (l.length : Int) := by omega
   obtain ⟨ad, rfl, hx0⟩ := str_at HR.out i hlt
   replace hx0 := (HB.out.cell (World.block_lt_of_cell? w _ hx0)).trans hx0
   obtain ⟨x, hxe⟩ : ∃ x, x = l[i] := ⟨_, rfl⟩
   rw [← hxe] at hx0
   have HX : Aside0 (x.size ≤ 1048576) := ⟨by rw [hxe]; exact HL.out.2 _ (List.getElem_mem hlt)⟩
   have HT : Aside0 ((l.take (i + 1)).any notN = notN x) := ⟨by rw [List.take_succ_eq_append_getElem hlt, List.any_append, HE.out, ← hxe]; simp⟩
   have HM : Aside0 (notN x = true → l.any notN = true) := ⟨fun h => List.any_eq_true.2 ⟨x, by rw [hxe]; exact List.getElem_mem hlt, h⟩⟩
   clear hxe
   obtain ⟨b, hb⟩ : ∃ b, b = notN x := ⟨_, rfl⟩
   have HBB := aM hb
   clear hb
   cases b with
   | true =>
    go_wp2_with (first | (go_at_call 41; go_loud ((with_reducible refine (lit_calls x _ HX.out).mono ?_); rintro e w2 ⟨rfl, hb⟩; rw [← HBB.out]; have HB2 := aM (below_step HB.out hb); clear hb)))
    go_ret
    exact ⟨_, rfl, by rw [HM.out HBB.out.symm]; simp, HB2.out⟩
   | false =>
    go_wp2_with (first | (go_at_call 41; go_loud ((with_reducible refine (lit_calls x _ HX.out).mono ?_); rintro e w2 ⟨rfl, hb⟩; rw [← HBB.out]; have HB2 := aM (below_step HB.out hb); clear hb)))
    go_roundg (l.length - (i + 1))
    case measure => have := HI.out; omega
    case rel => exact ⟨i + 1, by have := HL1.out; have := HI.out; first | go_num | (rw [w64 (by omega) (by omega)]; go_num), by have := HI.out; omega, by omega, ⟨HT.out.trans HBB.out.symm⟩, HB2⟩
  ·
   obtain rfl : i = l.length := by omega
   go_wp2
   go_ret
   exact ⟨-1, rfl, by rw [show l.any notN = false from by have h_ := HE.out; rwa [List.take_length] at h_]; rfl, HB.out⟩
theorem contains_calls (A : Option Addr) (c : Nat) (l : List ByteArray) (w : World) (hr : Kd.C Kd.string w A l.length l) (hl : l.length ≤ 1048576 ∧ ∀ s ∈ l, s.size ≤ 1048576) :
  Calls Try.prog 40 #[.slice A l.length c, .func (.func 41) #[] #[]] w fun e w' => e = .returned (.bool (l.any notN)) ∧ Below w.heap.size w w' := by
 have HR := aM hr
 have HL := aM hl
 clear hr hl
 go_enter Try.func40, Try.ntmps40
 go_wp2_with (first | (go_at_call 68; go_loud ((with_reducible refine (index_calls A c l _ HR.out HL.out).mono ?_); rintro e w2 ⟨r, rfl, hr2, hb⟩; have HB2 := aM hb; clear hb)))
 go_ret
 exact ⟨rfl, HB2.out⟩
theorem srt_small {l : List ByteArray} (hl : l.length ≤ 1048576 ∧ ∀ s ∈ l, s.size ≤ 1048576) : (srt l).length ≤ 1048576 := by rw [srt_len]; exact hl.1
theorem keeps_at (xs : List ByteArray) (j : Nat) (hj : j + 1 < xs.length) : Go.Lib.keeps (xs.map (fun x : ByteArray => x.toList)).toArray (j + 1) = decide (xs[j + 1] ≠ xs[j]) := by
 unfold Go.Lib.keeps
 rw [getElem!_pos _ (j + 1) (by simpa using hj), Nat.add_sub_cancel, getElem!_pos _ j (by simp; omega)]
 simp only [List.getElem_toArray, List.getElem_map]
 rw [decide_eq_decide]
 constructor
 ·
  rintro (h | h) e
  ·
   cases h
  ·
   exact h (by rw [e])
 ·
  intro h
  exact .inr (fun e => h (Byt.toList_inj e))
theorem cc_full {xs : List ByteArray} (h : xs.Nodup) : (cc xs).length = xs.length := by
 unfold cc compactUpTo
 rw [List.length_map, List.filter_eq_self.2 ?_]
 ·
  simp
 ·
  intro j hj
  have hj : j < xs.length := by simpa using hj
  cases j with
  | zero => rfl
  | succ j =>
   rw [keeps_at xs j hj]
   exact decide_eq_true (fun e => List.pairwise_iff_getElem.1 h j (j + 1) (by omega) hj (by omega) e.symm)
theorem cc_less {xs : List ByteArray} (hs : xs.Pairwise (fun a b => leB a b = true)) (h : (cc xs).length = xs.length) : xs.Nodup := by
 unfold cc compactUpTo at h
 rw [List.length_map] at h
 have hall : ∀ j ∈ List.range (xs.map (fun x : ByteArray => x.toList)).toArray.size, Go.Lib.keeps (xs.map (fun x : ByteArray => x.toList)).toArray j = true := by
  refine List.length_filter_eq_length_iff.1 ?_
  rw [h]
  simp
 have hne : ∀ j (hj : j + 1 < xs.length), xs[j + 1] ≠ xs[j] := fun j hj => by
  have := hall (j + 1) (by simpa using hj)
  rw [keeps_at xs j hj] at this
  exact of_decide_eq_true this
 have hp := List.pairwise_iff_getElem.1 hs
 unfold List.Nodup
 rw [List.pairwise_iff_getElem]
 intro i j hi hj hij e
 obtain ⟨k, rfl⟩ : ∃ k, j = k + 1 := ⟨j - 1, by omega⟩
 have h1 := hp k (k + 1) (by omega) hj (by omega)
 refine hne k hj ?_
 by_cases hik : i = k
 ·
  subst hik
  exact e.symm
 ·
  have h2 := hp i k hi (by omega) (by omega)
  rw [e] at h2
  unfold leB at h1 h2
  simp only [Bool.not_eq_true'] at h1 h2
  exact CmpL.ltS_tri h1 h2
set_option maxHeartbeats 2000000 in
set_option maxRecDepth 100000 in
theorem radix_calls (A : Option Addr) (c : Nat) (l : List ByteArray) (w : World) (hr : Kd.C Kd.string w A l.length l) (hl : l.length ≤ 1048576 ∧ ∀ s ∈ l, s.size ≤ 1048576) :
  Calls Try.prog 14 #[.slice A l.length c] w fun e w' => ∃ v : Value, e = .returned (.tuple #[.agg #[v], .bool (ansRad l).2]) ∧ Kd.R k64 64 w' w.heap.size (fun _ => True) v (ansRad l).1 ∧ Below w.heap.size w w' := by
 have HC := aM hr
 have HL := aM hl
 have HB0 : Aside0 (Below w.heap.size w (w.alloc (.cells #[.slice none 0 0] 26))) := ⟨below_alloc (Below.refl _ _) _⟩
 have HSZ : Aside0 (w.heap.size ≤ (w.alloc (.cells #[.slice none 0 0] 26)).heap.size) := ⟨by simp⟩
 have HS0 : Aside0 (w.heap.size + 1 ≤ (w.alloc (.cells #[.slice none 0 0] 26)).heap.size) := ⟨by simp⟩
 have HR0 : Aside0 ((w.alloc (.cells #[.slice none 0 0] 26)).heap[w.heap.size]? = some (.cells #[.slice none 0 0] 26 (0, 0))) := ⟨by show (w.heap.push _)[w.heap.size]? = _; simp⟩
 by_cases h40 : l.length ≤ 40
 ·
  have hgt : decide ((l.length : Int) > 40) = false := decide_eq_false (by omega)
  obtain ⟨b, hb⟩ : ∃ b, b = l.any notN := ⟨_, rfl⟩
  have HBB := aM hb
  have H40 := aM h40
  cases b with
  | true =>
   rw [show ansRad l = ([], false) by unfold ansRad; rw [if_neg (fun h => by rw [h.2.1] at hb; cases hb)]]
   clear hr hl hb h40
   go_enter Try.func14, Try.ntmps14
   go_upto_region 2 with (first | (go_at_call 40; go_loud ((with_reducible refine (contains_calls A c l _ (Kd.C_below HC.out HB0.out) HL.out).mono ?_); rintro e w2 ⟨rfl, hb⟩; rw [← HBB.out]; have HR2 := aM ((hb.block w.heap.size (by simp)).trans HR0.out); have HB2 := aM (below_then HB0.out HSZ.out hb); have HS2 := aM (Nat.le_trans HS0.out hb.size); clear hb)))
   have cr : w2.cell? ⟨w.heap.size, 0, none⟩ = some (.slice none 0 0) := (blk_cell HR2.out 0).trans rfl
   have fr : w2.frozen? ⟨w.heap.size, 0, none⟩ = false := blk_frozen HR2.out 0
   go_wp2
   refine bodyPost_ret (results_ct rfl _ _ w.heap.size 26 #[.slice none 0 0] (0, 0) _ rfl (blk_put HR2.out 0 _ rfl) Try.underlying26 rfl (by kernel_rfl)) rfl ?_
   exact ⟨_, rfl, Kd.R_nil _ _ _ _ _, HB2.out.setCell (p := ⟨w.heap.size, 0, none⟩) (Nat.le_refl _) _⟩
  | false =>
   obtain ⟨d, hd⟩ : ∃ d : Bool, d = decide l.Nodup := ⟨_, rfl⟩
   have HD := aM hd
   clear hr hl h40
   cases d with
   | false =>
    rw [show ansRad l = ([], false) by unfold ansRad; rw [if_neg (fun h => by rw [decide_eq_true h.2.2] at hd; cases hd)]]
    clear hb hd
    go_enter Try.func14, Try.ntmps14
    have HF : Aside0 ((((cc (srt l)).length : Int) != ((srt l).length : Int)) = true) := ⟨by
     rw [bne_iff_ne]
     intro e
     have h1 := cc_less (xs := srt l) (List.pairwise_mergeSort (fun a b c => leB_trans a b c) leB_tri l) (by omega)
     have h2 := of_decide_eq_false HD.out.symm
     exact h2 ((srt_perm l).nodup_iff.1 h1)⟩
    go_upto_region 5 with (first | (go_at_call 40; go_loud ((with_reducible refine (contains_calls A c l _ (Kd.C_below HC.out HB0.out) HL.out).mono ?_); rintro e w2 ⟨rfl, hb⟩; rw [← HBB.out]; have HR2 := aM ((hb.block w.heap.size (by simp)).trans HR0.out); have HB2 := aM (below_then HB0.out HSZ.out hb); have HS2 := aM (Nat.le_trans HS0.out hb.size); clear hb)) | (go_at_call 43; go_loud ((with_reducible refine (Rws.clone_str A c l _ (Kd.C_below HC.out HB2.out) HL.out.1).mono ?_); rintro e w3 ⟨v3, rfl, ho, hb⟩; have HO3 := aM ho; have HB23 := aM hb; have HR3 := aM ((hb.block w.heap.size (by have := HS2.out; omega)).trans HR2.out); have HB3 := aM (below_step HB2.out hb); have HS3 := aM (Nat.le_trans HS2.out hb.size); clear ho hb)) | (go_at_call 44; go_loud ((with_reducible refine (sort_calls l v3 _ _ _ HO3.out HL.out.1).mono ?_); rintro e w4 ⟨rfl, ho, hg⟩; have HO4 := aM ho; obtain ⟨A4, c4, e4, hl4, hC4⟩ := Kd.R_reads ho; subst e4; have HL4 := aM hl4; have HC4 := aM hC4; have HG := aM hg; have HR4 := aM ((hg.block w.heap.size (by have := HS3.out; omega) (fun e => by have := Kd.R_base ho _ e.symm; have := HS2.out; omega)).trans HR3.out); have HB4 := aM (HB3.out.grown hg (by have := HS3.out; omega) (fun k hk => by have := Kd.R_base ho _ hk; have := HS2.out; omega)); have HS4 := aM (Nat.le_trans HS3.out hg.size); clear ho hl4 hC4 hg)))
    go_upto_region 6 with (first | (go_at_call 43; go_loud ((with_reducible refine (Rws.clone_str A4 c4 (srt l) _ HC4.out (srt_small HL.out)).mono ?_); rintro e w5 ⟨v5, rfl, ho, hb⟩; have HO5 := aM ho; have HO45 := aM (Kd.R_below HO4.out hb); have HR5 := aM ((hb.block w.heap.size (by have := HS4.out; omega)).trans HR4.out); have HB5 := aM (below_step HB4.out hb); have HS5 := aM (Nat.le_trans HS4.out hb.size); clear ho hb)) | (go_at_call 45; go_loud ((with_reducible refine (compact_calls (srt l) v5 _ _ _ HO5.out (srt_small HL.out)).mono ?_); rintro e w6 ⟨A6, n6, c6, rfl, hh, hg⟩; have HN6 := aM hh.1; have HO46 := aM (Kd.R_grown2 HO45.out rfl hg (fun k hk e => by have h1 := Kd.R_base HO5.out _ hk; have h2 := Kd.R_lt HO4.out _ e.symm; omega)); have HR6 := aM ((hg.block w.heap.size (by have := HS5.out; omega) (fun e => by have h1 := Kd.R_base HO5.out _ e.symm; have := HS4.out; omega)).trans HR5.out); have HB6 := aM (HB5.out.grown hg (by have := HS5.out; omega) (fun k hk => by have h1 := Kd.R_base HO5.out _ hk; have := HS4.out; omega)); have HS6 := aM (Nat.le_trans HS5.out hg.size); have hfn : ((n6 : Int) != ((srt l).length : Int)) = true := (by rw [HN6.out, List.length_map]; exact HF.out); clear hh hg)))
    have cr : w6.cell? ⟨w.heap.size, 0, none⟩ = some (.slice none 0 0) := (blk_cell HR6.out 0).trans rfl
    have fr : w6.frozen? ⟨w.heap.size, 0, none⟩ = false := blk_frozen HR6.out 0
    clear hfn
    go_wp2
    refine bodyPost_ret (results_ct rfl _ _ w.heap.size 26 #[.slice none 0 0] (0, 0) _ rfl (blk_put HR6.out 0 _ rfl) Try.underlying26 rfl (by kernel_rfl)) rfl ?_
    exact ⟨_, rfl, Kd.R_nil _ _ _ _ _, HB6.out.setCell (p := ⟨w.heap.size, 0, none⟩) (Nat.le_refl _) _⟩
   | true =>
    have hnd : l.Nodup := of_decide_eq_true hd.symm
    rw [show ansRad l = (tree (srt l), true) by unfold ansRad; rw [if_pos ⟨H40.out, hb.symm, hnd⟩]]
    have HNS := aM (names_srt hb.symm hnd)
    obtain ⟨kr, hkr⟩ := (impl_tree HNS.out (by rw [srt_len]; have := H40.out; omega)).ex
    have EKR := aM hkr
    have HF : Aside0 ((((cc (srt l)).length : Int) != ((srt l).length : Int)) = false) := ⟨by
     rw [cc_full ((srt_perm l).nodup_iff.2 hnd)]
     exact bne_self_eq_false _⟩
    clear hb hd hnd hkr
    go_enter Try.func14, Try.ntmps14
    go_upto_region 5 with (first | (go_at_call 40; go_loud ((with_reducible refine (contains_calls A c l _ (Kd.C_below HC.out HB0.out) HL.out).mono ?_); rintro e w2 ⟨rfl, hb⟩; rw [← HBB.out]; have HR2 := aM ((hb.block w.heap.size (by simp)).trans HR0.out); have HB2 := aM (below_then HB0.out HSZ.out hb); have HS2 := aM (Nat.le_trans HS0.out hb.size); clear hb)) | (go_at_call 43; go_loud ((with_reducible refine (Rws.clone_str A c l _ (Kd.C_below HC.out HB2.out) HL.out.1).mono ?_); rintro e w3 ⟨v3, rfl, ho, hb⟩; have HO3 := aM ho; have HB23 := aM hb; have HR3 := aM ((hb.block w.heap.size (by have := HS2.out; omega)).trans HR2.out); have HB3 := aM (below_step HB2.out hb); have HS3 := aM (Nat.le_trans HS2.out hb.size); clear ho hb)) | (go_at_call 44; go_loud ((with_reducible refine (sort_calls l v3 _ _ _ HO3.out HL.out.1).mono ?_); rintro e w4 ⟨rfl, ho, hg⟩; have HO4 := aM ho; obtain ⟨A4, c4, e4, hl4, hC4⟩ := Kd.R_reads ho; subst e4; have HL4 := aM hl4; have HC4 := aM hC4; have HG := aM hg; have HR4 := aM ((hg.block w.heap.size (by have := HS3.out; omega) (fun e => by have := Kd.R_base ho _ e.symm; have := HS2.out; omega)).trans HR3.out); have HB4 := aM (HB3.out.grown hg (by have := HS3.out; omega) (fun k hk => by have := Kd.R_base ho _ hk; have := HS2.out; omega)); have HS4 := aM (Nat.le_trans HS3.out hg.size); clear ho hl4 hC4 hg)))
    go_upto_region 7 with (first | (go_at_call 43; go_loud ((with_reducible refine (Rws.clone_str A4 c4 (srt l) _ HC4.out (srt_small HL.out)).mono ?_); rintro e w5 ⟨v5, rfl, ho, hb⟩; have HO5 := aM ho; have HO45 := aM (Kd.R_below HO4.out hb); have HR5 := aM ((hb.block w.heap.size (by have := HS4.out; omega)).trans HR4.out); have HB5 := aM (below_step HB4.out hb); have HS5 := aM (Nat.le_trans HS4.out hb.size); clear ho hb)) | (go_at_call 45; go_loud ((with_reducible refine (compact_calls (srt l) v5 _ _ _ HO5.out (srt_small HL.out)).mono ?_); rintro e w6 ⟨A6, n6, c6, rfl, hh, hg⟩; have HN6 := aM hh.1; have HO46 := aM (Kd.R_grown2 HO45.out rfl hg (fun k hk e => by have h1 := Kd.R_base HO5.out _ hk; have h2 := Kd.R_lt HO4.out _ e.symm; omega)); have HR6 := aM ((hg.block w.heap.size (by have := HS5.out; omega) (fun e => by have h1 := Kd.R_base HO5.out _ e.symm; have := HS4.out; omega)).trans HR5.out); have HB6 := aM (HB5.out.grown hg (by have := HS5.out; omega) (fun k hk => by have h1 := Kd.R_base HO5.out _ hk; have := HS4.out; omega)); have HS6 := aM (Nat.le_trans HS5.out hg.size); have hfn : ((n6 : Int) != ((srt l).length : Int)) = false := (by rw [HN6.out, List.length_map]; exact HF.out); clear hh hg)))
    have HC6 := aM (Kd.R_reads' HO46.out).2.2
    clear hfn
    go_wp2_with (first | (go_at_call 46; go_loud ((with_reducible refine (impl_radixOf.calls kr A4 c4 (srt l) (tree (srt l)) _ HC6.out HL4.out EKR.out).mono ?_); rintro e w7 ⟨v7, rfl, ho, hb⟩; obtain ⟨A7, c7, e7⟩ := Kd.R_slice ho; subst e7; have HO7 := aM ho; have HR7 := aM ((hb.block w.heap.size (by have := HS6.out; omega)).trans HR6.out); have HB7 := aM (below_step HB6.out hb); have cr : w7.cell? ⟨w.heap.size, 0, none⟩ = some (.slice none 0 0) := (blk_cell HR7.out 0).trans rfl; have fr : w7.frozen? ⟨w.heap.size, 0, none⟩ = false := blk_frozen HR7.out 0; clear ho hb)))
    refine bodyPost_ret (results_ct rfl _ _ w.heap.size 26 #[.slice A7 (tree (srt l)).length c7] (0, 0) _ rfl (blk_put HR7.out 0 _ rfl) Try.underlying26 rfl (by kernel_rfl)) rfl ?_
    refine ⟨_, rfl, ?_, HB7.out.setCell (p := ⟨w.heap.size, 0, none⟩) (Nat.le_refl _) _⟩
    have h1 := Kd.R_far (p := ⟨w.heap.size, 0, none⟩) (Kd.R_bound HO7.out) (fun k hk => by have h1 := hk.2.1; have := HS6.out; show k ≠ w.heap.size; omega) (.slice A7 (tree (srt l)).length c7)
    exact Kd.R_mono (Kd.R_lower h1 (by have := HS6.out; omega)) (fun _ _ => trivial)
 ·
  have hgt : decide ((l.length : Int) > 40) = true := decide_eq_true (by omega)
  rw [show ansRad l = ([], false) by unfold ansRad; rw [if_neg (fun h => h40 h.1)]]
  clear hr hl h40
  go_enter Try.func14, Try.ntmps14
  go_wp2
  refine bodyPost_ret (results_ct rfl _ _ w.heap.size 26 #[.slice none 0 0] (0, 0) _ rfl HR0.out Try.underlying26 rfl (by kernel_rfl)) rfl ?_
  exact ⟨_, rfl, Kd.R_nil _ _ _ _ _, HB0.out⟩
end Go.Proofs.Ytcngebfcpobnnaa.Rad
end

section
namespace Go.Proofs.Ytcngebfcpobnnaa.PQ
open Go.RowKit Go.Proofs.YtcngebfcpobnnaaW.PrintWords Go.Proofs.YtcngebfcpobnnaaW.PrintLast Go.Proofs.YtcngebfcpobnnaaW.PrintMore
attribute [local go_sem] max2_int min2_int max_two min_two max_three min_three max_four min_four
set_option linter.unusedVariables false
set_option linter.unusedSimpArgs false
def impl_RadixOf.f (l0 : List ByteArray) : Option (List (S64) × Bool) := if l0.length ≤ 1048576 ∧ ∀ s ∈ l0, s.size ≤ 1048576 then some (Rx.ansRad l0) else none
theorem impl_RadixOf.calls (A0 : Option Addr) (c0 : Nat) (l0 : List ByteArray) (r1 : List (S64)) (r2 : Bool) (w : World) (hr0 : Kd.C Kd.string w A0 l0.length l0) (hc0 : l0.length ≤ c0) (h : impl_RadixOf.f l0 = some (r1, r2)) :
  Calls Try.prog 14 #[.slice A0 l0.length c0] w fun e w' => ∃ v0_ : Value, e = .returned (.tuple #[.agg #[v0_], .bool r2]) ∧ Kd.R k64 64 w' w.heap.size (fun _ => True) v0_ r1 ∧ Below w.heap.size w w' := by
 unfold impl_RadixOf.f at h
 split at h
 ·
  rename_i hs
  have h1 := Option.some.inj h
  have := Rad.radix_calls A0 c0 l0 w hr0 hs
  rw [h1] at this
  exact this
 ·
  cases h

mutual
def impl_namesOf.l0 : Nat → List ByteArray → List ByteArray → List (S64) → Int → Int → List (S64) → Option (List ByteArray × Bool)
 | 0, _, _, _, _, _, _ => none
 | k + 1, x4, x5, x21, x22, x23, x506000 => if x23 < x22 then (if 0 ≤ x23 then (if x23 < (x21.length : Int) then (if x23 > 0 then ((impl_within.f ((rd_T64 x21 x23).f2) 0 (wrap64 (x23 - 1))).bind fun t521 => (if t521 = true then (if (((rd_T64 x21 x23).f0).size : Int) > 20 then (some (([] : List ByteArray), false)) else (if 0 ≤ ((rd_T64 x21 x23).f2) then (if ((rd_T64 x21 x23).f2) < (x4.length : Int) then (if (rdOf ByteArray.empty x4 ((rd_T64 x21 x23).f2)).size + ((rd_T64 x21 x23).f0).size ≤ 9223372036854775807 then (if x23 < (x4.length : Int) then (impl_namesOf.j1 k (x4.set (x23 : Int).toNat ((rdOf ByteArray.empty x4 ((rd_T64 x21 x23).f2)) ++ ((rd_T64 x21 x23).f0))) x5 x23 x21 x22 x23 x506000 ((rd_T64 x21 x23).f0) ((rd_T64 x21 x23).f1) ((rd_T64 x21 x23).f2)) else (none)) else (none)) else (none)) else (none))) else (some (([] : List ByteArray), false)))) else (impl_namesOf.j1 k x4 x5 x23 x21 x22 x23 x506000 ((rd_T64 x21 x23).f0) ((rd_T64 x21 x23).f1) ((rd_T64 x21 x23).f2))) else (none)) else (none)) else ((impl_RadixOf.f x5).bind fun bt513 => (if bt513.2 = true then ((impl_Edge_79.f k bt513.1 x506000).bind fun t518 => (some (x5, t518))) else (some (x5, false))))
def impl_namesOf.j1 : Nat → List ByteArray → List ByteArray → Int → List (S64) → Int → Int → List (S64) → ByteArray → Bool → Int → Option (List ByteArray × Bool)
 | 0, _, _, _, _, _, _, _, _, _, _ => none
 | k + 1, x4, x5, x6, x21, x22, x23, x506000, x521000, x521001, x521002 => if x521001 = true then (if 0 ≤ x6 then (if x6 < (x4.length : Int) then (if x5.length < 8796093022208 then (if ((rdOf ByteArray.empty x4 x6).size : Int) > 20 then (some (([] : List ByteArray), false)) else (impl_namesOf.l0 k x4 (x5 ++ [rdOf ByteArray.empty x4 x6]) x21 x22 (wrap64 (x23 + 1)) x506000)) else (none)) else (none)) else (none)) else (if 0 ≤ x6 then (if x6 < (x4.length : Int) then (if ((rdOf ByteArray.empty x4 x6).size : Int) > 20 then (some (([] : List ByteArray), false)) else (impl_namesOf.l0 k x4 x5 x21 x22 (wrap64 (x23 + 1)) x506000)) else (none)) else (none))
end
def impl_namesOf.f (k : Nat) (l0_0 : List (S64)) : Option (List ByteArray × Bool) := (impl_within.f (l0_0.length : Int) 1 81).bind fun t506 => (if t506 = true then (if 0 ≤ (l0_0.length : Int) then (if ((l0_0.length : Int) : Int).toNat ≤ 17592186044416 then (impl_namesOf.l0 k (List.replicate ((l0_0.length : Int) : Int).toNat (⟨#[]⟩ : ByteArray)) (([] : List ByteArray)) l0_0 (l0_0.length : Int) 0 l0_0) else (none)) else (none)) else (some (([] : List ByteArray), false)))
def impl_namesOf.T10 : Bool × List (List Nat × List Nat) := (true, [([], []), ([], []), ([], []), ([], []), ([3], [3]), ([2, 4], [2, 4]), ([5], [5]), ([], []), ([7], [7]), ([6, 8], [6, 8]), ([0, 1, 0, 1, 2, 3, 4, 5, 6, 7, 8, 9], [0, 1]), ([10, 9, 0, 1, 2, 3, 4, 5, 6, 7, 8, 9], [9, 10])])
def impl_namesOf.B10 : List Nat := [0, 0, 0, 0, 8, 28, 60, 0, 128, 508, 1023, 2047]
theorem impl_namesOf.tab10 : rtab .any (opsOf Try.f54 10) = impl_namesOf.T10 := by kernel_rfl
theorem impl_namesOf.bits10 : waitsOk impl_namesOf.T10.2 impl_namesOf.B10 = true := by kernel_rfl
set_option maxHeartbeats 8000000 in
set_option maxRecDepth 100000 in
theorem impl_namesOf.calls (k : Nat) (A0_0 : Option Addr) (c0_0 : Nat) (l0_0 : List (S64)) (r1 : List ByteArray) (r2 : Bool) (w : World) (hr0_0 : Kd.C k64 w A0_0 l0_0.length l0_0) (hc0_0 : l0_0.length ≤ c0_0) (h : impl_namesOf.f k l0_0 = some (r1, r2)) :
  Calls Try.prog 54 #[.agg #[.slice A0_0 l0_0.length c0_0]] w fun e w' => ∃ v0_ : Value, e = .returned (.tuple #[v0_, .bool r2]) ∧ Kd.R Kd.string 9 w' w.heap.size (fun _ => True) v0_ r1 ∧ Below w.heap.size w w' := by
 have hu26 := Try.underlying26
 have hu64 := Try.underlying64
 have HR0_0 := aM hr0_0
 have HC0_0 := aM hc0_0
 clear hr0_0 hc0_0
 have HB := aM (Below.refl w.heap.size w)
 have H : ((impl_within.f (l0_0.length : Int) 1 81).bind fun t506 => (if t506 = true then (if 0 ≤ (l0_0.length : Int) then (if ((l0_0.length : Int) : Int).toNat ≤ 17592186044416 then (impl_namesOf.l0 k (List.replicate ((l0_0.length : Int) : Int).toNat (⟨#[]⟩ : ByteArray)) (([] : List ByteArray)) l0_0 (l0_0.length : Int) 0 l0_0) else (none)) else (none)) else (some (([] : List ByteArray), false)))) = some (r1, r2) := h
 clear h
 replace H := Option.bind_eq_some_iff.mp H
 obtain ⟨t506, A20, H⟩ := H
 replace H : (if t506 = true then (if 0 ≤ (l0_0.length : Int) then (if ((l0_0.length : Int) : Int).toNat ≤ 17592186044416 then (impl_namesOf.l0 k (List.replicate ((l0_0.length : Int) : Int).toNat (⟨#[]⟩ : ByteArray)) (([] : List ByteArray)) l0_0 (l0_0.length : Int) 0 l0_0) else (none)) else (none)) else (some (([] : List ByteArray), false))) = some (r1, r2) := H
 have A2 := aM A20
 clear A20
 by_cases c3 : t506 = true
 ·
  subst c3
  have H1 : (if 0 ≤ (l0_0.length : Int) then (if ((l0_0.length : Int) : Int).toNat ≤ 17592186044416 then (impl_namesOf.l0 k (List.replicate ((l0_0.length : Int) : Int).toNat (⟨#[]⟩ : ByteArray)) (([] : List ByteArray)) l0_0 (l0_0.length : Int) 0 l0_0) else (none)) else (none)) = some (r1, r2) := by rw [if_pos rfl] at H; exact H
  clear H
  have H := H1
  clear H1
  by_cases c4 : 0 ≤ (l0_0.length : Int)
  ·
   rw [if_pos c4] at H
   have c4b0 := eq_true c4
   have c4b1 : decide (0 ≤ (l0_0.length : Int)) = true := decide_eq_true c4
   clear c4
   by_cases c5 : ((l0_0.length : Int) : Int).toNat ≤ 17592186044416
   ·
    rw [if_pos c5] at H
    have c5b0 := eq_true c5
    have c5b1 : decide (((l0_0.length : Int) : Int).toNat ≤ 17592186044416) = true := decide_eq_true c5
    clear c5
    obtain ⟨y507, hy507⟩ : ∃ y_ : List ByteArray, y_ = (List.replicate ((l0_0.length : Int) : Int).toNat (⟨#[]⟩ : ByteArray)) := ⟨_, rfl⟩
    replace H : (impl_namesOf.l0 k y507 (([] : List ByteArray)) l0_0 (l0_0.length : Int) 0 l0_0) = some (r1, r2) := by first | (rw [hy507]; with_reducible exact H) | (have H2_ := (Option.bind_some _ _).symm.trans H; rw [hy507]; with_reducible exact H2_) | (have H2_ := (Option.bind_some _ _).symm.trans H; with_reducible exact H2_) | with_reducible exact H | (rw [hy507]; exact H) | exact H
    have Ny507 := aM hy507
    clear hy507
    obtain ⟨y510, hy510⟩ : ∃ y_ : List ByteArray, y_ = (([] : List ByteArray)) := ⟨_, rfl⟩
    replace H : (impl_namesOf.l0 k y507 y510 l0_0 (l0_0.length : Int) 0 l0_0) = some (r1, r2) := by first | (rw [hy510]; with_reducible exact H) | (have H2_ := (Option.bind_some _ _).symm.trans H; rw [hy510]; with_reducible exact H2_) | (have H2_ := (Option.bind_some _ _).symm.trans H; with_reducible exact H2_) | with_reducible exact H | (rw [hy510]; exact H) | exact H
    have Ny510 := aM hy510
    clear hy510
    have H' := aM H
    clear H
    go_enter Try.func54, Try.ntmps54
    go_wp2_with (first | ((with_reducible refine gate_dst (N := 1) rfl ?_); (try (refine gate_guard (by rfl) ?_; dsimp only)); refine box_event ?hg (N := 1) ?hd (cs := #[.slice A0_0 l0_0.length c0_0]) (t := 26) ?hr ?_; (case hd => rfl); (case hg => rfl); (case hr => first | (go_simp; done) | (go_simp; rfl)); intro gb505 hg w6 hbox hb; have n0_ := aM (below_step (by repeat (first | (with_reducible first | exact HB.out | apply below_alloc | apply pw_below_drewN | apply below_drew1) | exact HB.out)) hb); have n1_ := aM (hbox); have n2_ := aM ((by rw [hg]; exact (below_size (by repeat (first | (with_reducible first | exact HB.out | apply below_alloc | apply pw_below_drewN | apply below_drew1) | exact HB.out))) : w.heap.size ≤ gb505)); have n3_ := aM ((by rw [hg]; exact (below_size (by repeat (first | (with_reducible first | exact HB.out | apply below_alloc | apply pw_below_drewN | apply below_drew1) | exact HB.out))) : w.heap.size ≤ gb505)); clear HB; have HB := n0_; have BK505 := n1_; have GW505 := n2_; have GE505 := n3_; clear n0_ n1_ n2_ n3_; clear hb hbox hg; have hcz7_0 : w6.cell? ⟨gb505, 0, none⟩ = some (.slice A0_0 l0_0.length c0_0) := (blk_cell BK505.out 0).trans rfl; have hfz7_0 := blk_frozen BK505.out 0) | ((with_reducible refine gate_callee (f := 78) rfl ?_); refine goesL_ (some 13) rfl rfl Try.func78 (by kernel_rfl) rfl #[.int .i64 (l0_0.length : Int), .int .i64 1, .int .i64 81] rfl (by (try simp only [List.map_toArray, List.map_cons, List.map_nil]); first | done | rfl | (simp only [List.length_drop, List.length_take]; rfl)) ?_; (with_reducible refine (impl_within.calls (l0_0.length : Int) 1 81 true _ A2.out).mono ?_); rintro e w' ⟨rfl, ⟨nd, rfl⟩⟩; refine ⟨_, rfl, ?_⟩) | ((with_reducible refine gate_dst (N := 18) rfl ?_); (try (refine gate_guard (by rfl) ?_; dsimp only)); refine Kd.R_make Kd.string _ 9 rfl (N := 18) rfl 22 _ _ rfl (l0_0.length : Int) rfl rfl Try.underlying22 (.string ⟨#[]⟩) 16 info9 rfl (by decide) (by omega) (⟨#[]⟩ : ByteArray) (ok := fun _ => True) (okp := fun _ => True) rfl (fun _ hk => hk) trivial (of_decide_eq_true (by first | (with_reducible assumption) | assumption)) (Nat.le_trans (Nat.mul_le_mul_right _ (of_decide_eq_true (by first | (with_reducible assumption) | assumption) : (l0_0.length : Int).toNat ≤ 17592186044416)) (by omega)) (Below.refl _ _) (Nat.le_refl _) ?_; intro v508 w8 ho9 hb hg_ hnew_; clear hg_ hnew_; (first | rw [← Ny507.out] at ho9 | (simp only [Int.reduceToNat] at ho9; rw [← Ny507.out] at ho9)); have n0_ := aM (Kd.R_lower ho9 (below_size (by repeat (first | (with_reducible first | exact HB.out | apply below_alloc | apply pw_below_drewN | apply below_drew1 | refine below_set ?_ GE505.out) | exact HB.out)))); have n1_ := aM (blk_below (g := gb505) (o := .cells #[.slice A0_0 l0_0.length c0_0] 26 (0, 0)) (by (with_reducible repeat (first | refine blk_drewN ?_ _ | refine blk_drew ?_ | refine blk_alloc ?_ _)); exact BK505.out) hb); have n2_ := aM (below_step (by repeat (first | (with_reducible first | exact HB.out | apply below_alloc | apply pw_below_drewN | apply below_drew1 | refine below_set ?_ GE505.out) | exact HB.out)) hb); clear BK505; clear HB; have HO509 := n0_; have BK505 := n1_; have HB := n2_; clear n0_ n1_ n2_; clear hb ho9) | ((with_reducible refine gate_dst (N := 19) rfl ?_); (try (refine gate_guard (by rfl) ?_; dsimp only)); refine Kd.R_lit Kd.string _ 9 ?hg (N := 19) ?hd (xs := ([] : List ByteArray)) (inner := []) (ok := fun _ => True) (okp := fun _ => True) ?hr ?hp (fun _ hk => hk) trivial (Below.refl _ _) (Nat.le_refl _) (by simp) ?_; (case hd => rfl); (case hg => rfl); (case hr => first | (go_simp; done) | (go_simp; rfl)); (case hp => exact (Reps.none _ _)); intro v511 w10 ho11 hb hg_ hnew_; clear hg_ hnew_; (first | rw [← Ny510.out] at ho11 | (simp only [Int.reduceToNat] at ho11; rw [← Ny510.out] at ho11)); have n0_ := aM (Kd.R_elder' (by (with_reducible repeat (first | apply Kd.R_alloc | apply Kd.R_drewN | apply Kd.R_drew)); exact HO509.out) (Kd.R_base ho11) hb); have n1_ := aM (Kd.R_lower (Kd.R_new' ho11 (Kd.R_lt (by (with_reducible repeat (first | apply Kd.R_alloc | apply Kd.R_drewN | apply Kd.R_drew)); exact HO509.out))) (below_size (by repeat (first | (with_reducible first | exact HB.out | apply below_alloc | apply pw_below_drewN | apply below_drew1 | refine below_set ?_ GE505.out) | exact HB.out)))); have n2_ := aM (blk_below (g := gb505) (o := .cells #[.slice A0_0 l0_0.length c0_0] 26 (0, 0)) (by (with_reducible repeat (first | refine blk_drewN ?_ _ | refine blk_drew ?_ | refine blk_alloc ?_ _)); exact BK505.out) hb); have n3_ := aM (below_step (by repeat (first | (with_reducible first | exact HB.out | apply below_alloc | apply pw_below_drewN | apply below_drew1 | refine below_set ?_ GE505.out) | exact HB.out)) hb); clear HO509; clear BK505; clear HB; have HO509 := n0_; have HO512 := n1_; have BK505 := n2_; have HB := n3_; clear n0_ n1_ n2_ n3_; clear hb ho11; have hcz12_0 : w10.cell? ⟨gb505, 0, none⟩ = some (.slice A0_0 l0_0.length c0_0) := (blk_cell BK505.out 0).trans rfl; have hfz12_0 := blk_frozen BK505.out 0))
    go_loopg [5, 23] k (fun kq v5 v23 w' => ∃ (x4_1 : List ByteArray) (x5_1 : List ByteArray) (x23_1 : Int), v23 = .int .i64 x23_1 ∧ Aside0 (impl_namesOf.l0 kq x4_1 x5_1 l0_0 (l0_0.length : Int) x23_1 l0_0 = some (r1, r2)) ∧ Aside0 (kq ≤ k) ∧ Aside0 (Kd.R Kd.string 9 w' w.heap.size (fun k_ => some k_ ≠ (v5 : Value).ownBlock) v508 x4_1) ∧ Aside0 (Kd.R Kd.string 9 w' w.heap.size (fun k_ => some k_ ≠ (v508 : Value).ownBlock) v5 x5_1) ∧ Aside0 (w'.heap[gb505]? = some (.cells #[(.slice A0_0 l0_0.length c0_0)] 26 (0, 0))) ∧ Aside0 (Below w.heap.size w w'))
    case atStart => exact ⟨(y507), (y510), (0), (by first | rfl | (simp; done) | (simp [*]; done)), H', ⟨Nat.le_refl _⟩, ⟨by (with_reducible repeat (first | apply Kd.R_alloc | apply Kd.R_drewN | apply Kd.R_drew)); exact Kd.R_mono HO509.out (fun _ hk => hk.2)⟩, ⟨by (with_reducible repeat (first | apply Kd.R_alloc | apply Kd.R_drewN | apply Kd.R_drew)); exact Kd.R_mono HO512.out (fun _ hk => hk.2)⟩, ⟨by (with_reducible repeat (first | refine blk_drewN ?_ _ | refine blk_drew ?_ | refine blk_alloc ?_ _)); exact BK505.out⟩, ⟨by repeat (first | (with_reducible first | exact HB.out | apply below_alloc | apply pw_below_drewN | apply below_drew1 | refine below_set ?_ GE505.out) | exact HB.out)⟩⟩
    case round =>
     clear H'
     try clear p2
     try clear c3
     try clear c4
     try clear c4b0
     try clear c4b1
     try clear c5
     try clear c5b0
     try clear c5b1
     try clear c7
     try clear hcz12_0
     try clear hcz7_0
     try clear hfz12_0
     try clear hfz7_0
     obtain ⟨x4_1, x5_1, x23_1, rfl, HA, HK1, HO_4, HO_5, BK505, HB⟩ := hrel
     cases gk with
     | zero => exact absurd HA.out (by simp [impl_namesOf.l0])
     | succ k1 =>
      have H := HA.out
      clear HA
      simp only [impl_namesOf.l0] at H
      by_cases c13 : x23_1 < (l0_0.length : Int)
      ·
       rw [if_pos c13] at H
       have c13b0 : decide (x23_1 < (l0_0.length : Int)) = true := decide_eq_true c13
       clear c13
       by_cases c14 : 0 ≤ x23_1
       ·
        rw [if_pos c14] at H
        have c14b0 : decide (0 ≤ x23_1) = true := decide_eq_true c14
        clear c14
        by_cases c15 : x23_1 < (l0_0.length : Int)
        ·
         rw [if_pos c15] at H
         have c15b0 : decide (x23_1 < (l0_0.length : Int)) = true := decide_eq_true c15
         clear c15
         have HC16 := aM H
         clear H
         have p519 : 0 ≤ (x23_1 : Int) := of_decide_eq_true (by first | (with_reducible assumption) | assumption)
         have q519 : x23_1 < (l0_0.length : Int) := of_decide_eq_true (by first | (with_reducible assumption) | assumption)
         obtain ⟨ad519, e519, hx519_0, hx519_1, hx519_2⟩ := at_T64 HR0_0.out x23_1 p519 q519
         cases e519
         try have hz_hx519_0 := aM hx519_0
         try have hz_hx519_1 := aM hx519_1
         try have hz_hx519_2 := aM hx519_2
         replace hx519_0 := (HB.out.cell (World.block_lt_of_cell? w _ hx519_0)).trans hx519_0
         replace hx519_1 := (HB.out.cell (World.block_lt_of_cell? w _ hx519_1)).trans hx519_1
         replace hx519_2 := (HB.out.cell (World.block_lt_of_cell? w _ hx519_2)).trans hx519_2
         replace p519 := eq_true p519
         replace q519 := eq_true q519
         go_upto_if 29 with (first | ((with_reducible refine gate_dst (N := 7) rfl ?_); (try (refine gate_guard (by rfl) ?_; dsimp only)); refine box_event ?hg (N := 7) ?hd (cs := #[.string (⟨#[]⟩ : ByteArray), .bool false, .int .i64 0]) (t := 64) ?hr ?_; (case hd => rfl); (case hg => rfl); (case hr => first | (go_simp; done) | (go_simp; rfl)); intro gb520 hg w17 hbox hb; have n0_ := aM (Kd.R_below (by (with_reducible repeat (first | apply Kd.R_alloc | apply Kd.R_drewN | apply Kd.R_drew)); exact HO_4.out) hb); have n1_ := aM (Kd.R_below (by (with_reducible repeat (first | apply Kd.R_alloc | apply Kd.R_drewN | apply Kd.R_drew)); exact HO_5.out) hb); have n2_ := aM (blk_below (g := gb505) (o := .cells #[.slice (some ad519) l0_0.length c0_0] 26 (0, 0)) (by (with_reducible repeat (first | refine blk_drewN ?_ _ | refine blk_drew ?_ | refine blk_alloc ?_ _)); exact BK505.out) hb); have n3_ := aM (below_step (by repeat (first | (with_reducible first | exact HB.out | apply below_alloc | apply pw_below_drewN | apply below_drew1 | refine below_set ?_ GE505.out) | exact HB.out)) hb); have n4_ := aM (hbox); have n5_ := aM ((by rw [hg]; exact (below_size (by repeat (first | (with_reducible first | exact HB.out | apply below_alloc | apply pw_below_drewN | apply below_drew1 | refine below_set ?_ GE505.out) | exact HB.out))) : w.heap.size ≤ gb520)); have n6_ := aM ((by rw [hg]; exact (below_size (by repeat (first | (with_reducible first | exact HB.out | apply below_alloc | apply pw_below_drewN | apply below_drew1 | refine below_set ?_ GE505.out) | exact HB.out))) : w.heap.size ≤ gb520)); have n7_ := aM ((by rw [hg]; exact Nat.ne_of_lt (blk_lt (g := gb505) (o := .cells #[.slice (some ad519) l0_0.length c0_0] 26 (0, 0)) (by (with_reducible repeat (first | refine blk_drewN ?_ _ | refine blk_drew ?_ | refine blk_alloc ?_ _)); exact BK505.out)) : gb505 ≠ gb520)); have n8_ := aM ((by rw [hg]; exact Nat.ne_of_gt (blk_lt (g := gb505) (o := .cells #[.slice (some ad519) l0_0.length c0_0] 26 (0, 0)) (by (with_reducible repeat (first | refine blk_drewN ?_ _ | refine blk_drew ?_ | refine blk_alloc ?_ _)); exact BK505.out)) : gb520 ≠ gb505)); clear HO_4; clear HO_5; clear BK505; clear HB; have HO_4 := n0_; have HO_5 := n1_; have BK505 := n2_; have HB := n3_; have BK520 := n4_; have GW520 := n5_; have GE520 := n6_; have NB505_520 := n7_; have NB520_505 := n8_; clear n0_ n1_ n2_ n3_ n4_ n5_ n6_ n7_ n8_; clear hb hbox hg; have hnb18 := NB520_505.out; have hnc18 := NB505_520.out; have hcz19_0 : w17.cell? ⟨gb520, 0, none⟩ = some (.string (⟨#[]⟩ : ByteArray)) := (blk_cell BK520.out 0).trans rfl; have hcz19_1 : w17.cell? ⟨gb520, 1, none⟩ = some (.bool false) := (blk_cell BK520.out 1).trans rfl; have hcz19_2 : w17.cell? ⟨gb520, 2, none⟩ = some (.int .i64 0) := (blk_cell BK520.out 2).trans rfl; have hfz19_0 := blk_frozen BK520.out 0; have hfz19_1 := blk_frozen BK520.out 1; have hfz19_2 := blk_frozen BK520.out 2))
         (try simp only [Act.put, zSA, zSB, zSC])
         go_cut [] (fun wc => ∃ (kq : Nat) (x4_15 : List ByteArray), Aside0 (impl_namesOf.j1 kq x4_15 x5_1 x23_1 l0_0 (l0_0.length : Int) x23_1 l0_0 ((rd_T64 l0_0 x23_1).f0) ((rd_T64 l0_0 x23_1).f1) ((rd_T64 l0_0 x23_1).f2) = some (r1, r2)) ∧ Aside0 (kq ≤ k1) ∧ Aside0 (Kd.R Kd.string 9 wc w.heap.size (fun k_ => some k_ ≠ (u5 : Value).ownBlock) v508 x4_15) ∧ Aside0 (Kd.R Kd.string 9 wc w.heap.size (fun k_ => some k_ ≠ (v508 : Value).ownBlock) u5 x5_1) ∧ Aside0 (wc.heap[gb505]? = some (.cells #[(.slice (some ad519) l0_0.length c0_0)] 26 (0, 0))) ∧ Aside0 (wc.heap[gb520]? = some (.cells #[.string ((rd_T64 l0_0 x23_1).f0), .bool ((rd_T64 l0_0 x23_1).f1), .int .i64 ((rd_T64 l0_0 x23_1).f2)] 64 (0, 0))) ∧ Aside0 (Below w.heap.size w wc))
         case first =>
          have H := HC16.out
          clear HC16
          by_cases c20 : x23_1 > 0
          ·
           rw [if_pos c20] at H
           have c20b0 : decide (0 < x23_1) = true := decide_eq_true c20
           clear c20
           (first | rw [c20b0] | (simp only [i64_w, i32_w]; rw [c20b0]) | skip)
           replace H := Option.bind_eq_some_iff.mp H
           obtain ⟨t521, A210, H⟩ := H
           replace H : (if t521 = true then (if (((rd_T64 l0_0 x23_1).f0).size : Int) > 20 then (some (([] : List ByteArray), false)) else (if 0 ≤ ((rd_T64 l0_0 x23_1).f2) then (if ((rd_T64 l0_0 x23_1).f2) < (x4_1.length : Int) then (if (rdOf ByteArray.empty x4_1 ((rd_T64 l0_0 x23_1).f2)).size + ((rd_T64 l0_0 x23_1).f0).size ≤ 9223372036854775807 then (if x23_1 < (x4_1.length : Int) then (impl_namesOf.j1 k1 (x4_1.set (x23_1 : Int).toNat ((rdOf ByteArray.empty x4_1 ((rd_T64 l0_0 x23_1).f2)) ++ ((rd_T64 l0_0 x23_1).f0))) x5_1 x23_1 l0_0 (l0_0.length : Int) x23_1 l0_0 ((rd_T64 l0_0 x23_1).f0) ((rd_T64 l0_0 x23_1).f1) ((rd_T64 l0_0 x23_1).f2)) else (none)) else (none)) else (none)) else (none))) else (some (([] : List ByteArray), false))) = some (r1, r2) := H
           have A21 := aM A210
           clear A210
           by_cases c22 : t521 = true
           ·
            subst c22
            have H1 : (if (((rd_T64 l0_0 x23_1).f0).size : Int) > 20 then (some (([] : List ByteArray), false)) else (if 0 ≤ ((rd_T64 l0_0 x23_1).f2) then (if ((rd_T64 l0_0 x23_1).f2) < (x4_1.length : Int) then (if (rdOf ByteArray.empty x4_1 ((rd_T64 l0_0 x23_1).f2)).size + ((rd_T64 l0_0 x23_1).f0).size ≤ 9223372036854775807 then (if x23_1 < (x4_1.length : Int) then (impl_namesOf.j1 k1 (x4_1.set (x23_1 : Int).toNat ((rdOf ByteArray.empty x4_1 ((rd_T64 l0_0 x23_1).f2)) ++ ((rd_T64 l0_0 x23_1).f0))) x5_1 x23_1 l0_0 (l0_0.length : Int) x23_1 l0_0 ((rd_T64 l0_0 x23_1).f0) ((rd_T64 l0_0 x23_1).f1) ((rd_T64 l0_0 x23_1).f2)) else (none)) else (none)) else (none)) else (none))) = some (r1, r2) := by rw [if_pos rfl] at H; exact H
            clear H
            have H := H1
            clear H1
            by_cases c23 : (((rd_T64 l0_0 x23_1).f0).size : Int) > 20
            ·
             rw [if_pos c23] at H
             have c23b0 : decide (20 < (((rd_T64 l0_0 x23_1).f0).size : Int)) = true := decide_eq_true c23
             have c23b1 : decide (20 < ((rd_T64 l0_0 x23_1).f0).size) = true := decide_eq_true (by omega)
             clear c23
             simp only [Option.some.injEq, Prod.mk.injEq] at H
             obtain ⟨rfl, rfl⟩ := H
             have hnb24 := NB520_505.out
             have hnc24 := NB505_520.out
             have hcz25_0 : w17.cell? ⟨gb520, 0, none⟩ = some (.string (⟨#[]⟩ : ByteArray)) := (blk_cell BK520.out 0).trans rfl
             have hcz25_1 : w17.cell? ⟨gb520, 1, none⟩ = some (.bool false) := (blk_cell BK520.out 1).trans rfl
             have hcz25_2 : w17.cell? ⟨gb520, 2, none⟩ = some (.int .i64 0) := (blk_cell BK520.out 2).trans rfl
             have hfz25_0 := blk_frozen BK520.out 0
             have hfz25_1 := blk_frozen BK520.out 1
             have hfz25_2 := blk_frozen BK520.out 2
             go_wp2_with (first | ((with_reducible refine gate_callee (f := 78) rfl ?_); refine goesL_ (some 34) rfl rfl Try.func78 (by kernel_rfl) rfl #[.int .i64 ((rd_T64 l0_0 x23_1).f2), .int .i64 0, .int .i64 (wrap64 (x23_1 - 1))] rfl (by (try simp only [List.map_toArray, List.map_cons, List.map_nil]); first | done | rfl | (simp only [List.length_drop, List.length_take]; rfl)) ?_; (with_reducible refine (impl_within.calls ((rd_T64 l0_0 x23_1).f2) 0 (wrap64 (x23_1 - 1)) true _ A21.out).mono ?_); rintro e w' ⟨rfl, ⟨nd, rfl⟩⟩; refine ⟨_, rfl, ?_⟩))
             go_ret2
             exact ⟨_, by first | rfl | (simp [errW_none, errW_some] <;> rfl) | (simp [*, errW_none, errW_some] <;> rfl), by first | exact Kd.R_nil _ _ _ _ _ | exact Kd.N_nil _ _ _ _ _ | exact Kd.V_nil _ _ _ _ _ | exact Kd.Q_nil _ _ _ _ _ | exact Kd.S_nil _ _ _ _ _, by repeat (first | (with_reducible first | exact HB.out | apply below_alloc | apply pw_below_drewN | apply below_drew1 | refine below_set ?_ GE505.out | refine below_set ?_ GE520.out) | exact HB.out)⟩
            ·
             rw [if_neg c23] at H
             have c23b0 : decide (20 < (((rd_T64 l0_0 x23_1).f0).size : Int)) = false := decide_eq_false c23
             have c23b1 : decide (20 < ((rd_T64 l0_0 x23_1).f0).size) = false := decide_eq_false (by omega)
             clear c23
             by_cases c26 : 0 ≤ ((rd_T64 l0_0 x23_1).f2)
             ·
              rw [if_pos c26] at H
              have c26b0 : decide (0 ≤ ((rd_T64 l0_0 x23_1).f2)) = true := decide_eq_true c26
              clear c26
              by_cases c27 : ((rd_T64 l0_0 x23_1).f2) < (x4_1.length : Int)
              ·
               rw [if_pos c27] at H
               have c27b0 : decide (((rd_T64 l0_0 x23_1).f2) < (x4_1.length : Int)) = true := decide_eq_true c27
               clear c27
               by_cases c28 : (rdOf ByteArray.empty x4_1 ((rd_T64 l0_0 x23_1).f2)).size + ((rd_T64 l0_0 x23_1).f0).size ≤ 9223372036854775807
               ·
                rw [if_pos c28] at H
                have c28b0 := eq_true c28
                have c28b1 : decide ((rdOf ByteArray.empty x4_1 ((rd_T64 l0_0 x23_1).f2)).size + ((rd_T64 l0_0 x23_1).f0).size ≤ 9223372036854775807) = true := decide_eq_true c28
                try have c28b2 : (9223372036854775807 < (rdOf ByteArray.empty x4_1 ((rd_T64 l0_0 x23_1).f2)).size + ((rd_T64 l0_0 x23_1).f0).size) = False := eq_false (Nat.not_lt.2 c28)
                try have c28b3 := c28b2
                try simp only [ByteArray.size_append] at c28b3
                by_cases c29 : x23_1 < (x4_1.length : Int)
                ·
                 rw [if_pos c29] at H
                 have c29b0 : decide (x23_1 < (x4_1.length : Int)) = true := decide_eq_true c29
                 clear c29
                 obtain ⟨y523, hy523⟩ : ∃ y_ : List ByteArray, y_ = (x4_1.set (x23_1 : Int).toNat ((rdOf ByteArray.empty x4_1 ((rd_T64 l0_0 x23_1).f2)) ++ ((rd_T64 l0_0 x23_1).f0))) := ⟨_, rfl⟩
                 replace H : (impl_namesOf.j1 k1 y523 x5_1 x23_1 l0_0 (l0_0.length : Int) x23_1 l0_0 ((rd_T64 l0_0 x23_1).f0) ((rd_T64 l0_0 x23_1).f1) ((rd_T64 l0_0 x23_1).f2)) = some (r1, r2) := by first | (rw [hy523]; with_reducible exact H) | (have H2_ := (Option.bind_some _ _).symm.trans H; rw [hy523]; with_reducible exact H2_) | (have H2_ := (Option.bind_some _ _).symm.trans H; with_reducible exact H2_) | with_reducible exact H | (rw [hy523]; exact H) | exact H
                 have Ny523 := aM hy523
                 clear hy523
                 have H' := aM H
                 clear H
                 have hnb31 := NB520_505.out
                 have hnc31 := NB505_520.out
                 have hcz32_0 : w17.cell? ⟨gb520, 0, none⟩ = some (.string (⟨#[]⟩ : ByteArray)) := (blk_cell BK520.out 0).trans rfl
                 have hcz32_1 : w17.cell? ⟨gb520, 1, none⟩ = some (.bool false) := (blk_cell BK520.out 1).trans rfl
                 have hcz32_2 : w17.cell? ⟨gb520, 2, none⟩ = some (.int .i64 0) := (blk_cell BK520.out 2).trans rfl
                 have hfz32_0 := blk_frozen BK520.out 0
                 have hfz32_1 := blk_frozen BK520.out 1
                 have hfz32_2 := blk_frozen BK520.out 2
                 try go_wp2_with (first | ((with_reducible refine gate_callee (f := 78) rfl ?_); refine goesL_ (some 34) rfl rfl Try.func78 (by kernel_rfl) rfl #[.int .i64 ((rd_T64 l0_0 x23_1).f2), .int .i64 0, .int .i64 (wrap64 (x23_1 - 1))] rfl (by (try simp only [List.map_toArray, List.map_cons, List.map_nil]); first | done | rfl | (simp only [List.length_drop, List.length_take]; rfl)) ?_; (with_reducible refine (impl_within.calls ((rd_T64 l0_0 x23_1).f2) 0 (wrap64 (x23_1 - 1)) true _ A21.out).mono ?_); rintro e w' ⟨rfl, ⟨nd, rfl⟩⟩; refine ⟨_, rfl, ?_⟩))
                 have n0_ : Aside0 (Kd.R Kd.string 9 (((w17.setCell ⟨gb520, 0, none⟩ (.string ((rd_T64 l0_0 x23_1).f0))).setCell ⟨gb520, 1, none⟩ (.bool ((rd_T64 l0_0 x23_1).f1))).setCell ⟨gb520, 2, none⟩ (.int .i64 ((rd_T64 l0_0 x23_1).f2))) w.heap.size (fun k_ => some k_ ≠ (u5 : Value).ownBlock) v508 x4_1) := ⟨by (with_reducible repeat (first | apply Kd.R_alloc | apply Kd.R_drewN | apply Kd.R_drew)); exact Kd.R_mono (Kd.R_far (p := ⟨gb520, 2, none⟩) (Kd.R_far (p := ⟨gb520, 1, none⟩) (Kd.R_far (p := ⟨gb520, 0, none⟩) (Kd.R_types HO_4.out BK520.out (by decide)) (fun _ hk => hk.2) (.string ((rd_T64 l0_0 x23_1).f0))) (fun _ hk => hk.2) (.bool ((rd_T64 l0_0 x23_1).f1))) (fun _ hk => hk.2) (.int .i64 ((rd_T64 l0_0 x23_1).f2))) (fun _ hk => hk.1)⟩
                 have n1_ : Aside0 (Kd.R Kd.string 9 (((w17.setCell ⟨gb520, 0, none⟩ (.string ((rd_T64 l0_0 x23_1).f0))).setCell ⟨gb520, 1, none⟩ (.bool ((rd_T64 l0_0 x23_1).f1))).setCell ⟨gb520, 2, none⟩ (.int .i64 ((rd_T64 l0_0 x23_1).f2))) w.heap.size (fun k_ => some k_ ≠ (v508 : Value).ownBlock) u5 x5_1) := ⟨by (with_reducible repeat (first | apply Kd.R_alloc | apply Kd.R_drewN | apply Kd.R_drew)); exact Kd.R_mono (Kd.R_far (p := ⟨gb520, 2, none⟩) (Kd.R_far (p := ⟨gb520, 1, none⟩) (Kd.R_far (p := ⟨gb520, 0, none⟩) (Kd.R_types HO_5.out BK520.out (by decide)) (fun _ hk => hk.2) (.string ((rd_T64 l0_0 x23_1).f0))) (fun _ hk => hk.2) (.bool ((rd_T64 l0_0 x23_1).f1))) (fun _ hk => hk.2) (.int .i64 ((rd_T64 l0_0 x23_1).f2))) (fun _ hk => hk.1)⟩
                 have n2_ : Aside0 ((((w17.setCell ⟨gb520, 0, none⟩ (.string ((rd_T64 l0_0 x23_1).f0))).setCell ⟨gb520, 1, none⟩ (.bool ((rd_T64 l0_0 x23_1).f1))).setCell ⟨gb520, 2, none⟩ (.int .i64 ((rd_T64 l0_0 x23_1).f2))).heap[gb505]? = some (.cells #[.slice (some ad519) l0_0.length c0_0] 26 (0, 0))) := ⟨by (with_reducible repeat (first | refine blk_drewN ?_ _ | refine blk_drew ?_ | refine blk_alloc ?_ _)); refine blk_far ?_ NB505_520.out _; (with_reducible repeat (first | refine blk_drewN ?_ _ | refine blk_drew ?_ | refine blk_alloc ?_ _)); refine blk_far ?_ NB505_520.out _; (with_reducible repeat (first | refine blk_drewN ?_ _ | refine blk_drew ?_ | refine blk_alloc ?_ _)); refine blk_far ?_ NB505_520.out _; (with_reducible repeat (first | refine blk_drewN ?_ _ | refine blk_drew ?_ | refine blk_alloc ?_ _)); exact BK505.out⟩
                 have n3_ : Aside0 ((((w17.setCell ⟨gb520, 0, none⟩ (.string ((rd_T64 l0_0 x23_1).f0))).setCell ⟨gb520, 1, none⟩ (.bool ((rd_T64 l0_0 x23_1).f1))).setCell ⟨gb520, 2, none⟩ (.int .i64 ((rd_T64 l0_0 x23_1).f2))).heap[gb520]? = some (.cells #[.string ((rd_T64 l0_0 x23_1).f0), .bool ((rd_T64 l0_0 x23_1).f1), .int .i64 ((rd_T64 l0_0 x23_1).f2)] 64 (0, 0))) := ⟨by (with_reducible repeat (first | refine blk_drewN ?_ _ | refine blk_drew ?_ | refine blk_alloc ?_ _)); refine blk_put (cs := #[.string ((rd_T64 l0_0 x23_1).f0), .bool ((rd_T64 l0_0 x23_1).f1), .int .i64 0]) ?_ 2 _ rfl; (with_reducible repeat (first | refine blk_drewN ?_ _ | refine blk_drew ?_ | refine blk_alloc ?_ _)); refine blk_put (cs := #[.string ((rd_T64 l0_0 x23_1).f0), .bool false, .int .i64 0]) ?_ 1 _ rfl; (with_reducible repeat (first | refine blk_drewN ?_ _ | refine blk_drew ?_ | refine blk_alloc ?_ _)); refine blk_put (cs := #[.string (⟨#[]⟩ : ByteArray), .bool false, .int .i64 0]) ?_ 0 _ rfl; (with_reducible repeat (first | refine blk_drewN ?_ _ | refine blk_drew ?_ | refine blk_alloc ?_ _)); exact BK520.out⟩
                 have n4_ : Aside0 (Below w.heap.size w (((w17.setCell ⟨gb520, 0, none⟩ (.string ((rd_T64 l0_0 x23_1).f0))).setCell ⟨gb520, 1, none⟩ (.bool ((rd_T64 l0_0 x23_1).f1))).setCell ⟨gb520, 2, none⟩ (.int .i64 ((rd_T64 l0_0 x23_1).f2)))) := ⟨by repeat (first | (with_reducible first | exact HB.out | apply below_alloc | apply pw_below_drewN | apply below_drew1 | refine below_set ?_ GE505.out | refine below_set ?_ GE520.out) | exact HB.out)⟩
                 (try clear HO_4)
                 (try clear HO_5)
                 (try clear BK505)
                 (try clear BK520)
                 (try clear HB)
                 generalize (((w17.setCell ⟨gb520, 0, none⟩ (.string ((rd_T64 l0_0 x23_1).f0))).setCell ⟨gb520, 1, none⟩ (.bool ((rd_T64 l0_0 x23_1).f1))).setCell ⟨gb520, 2, none⟩ (.int .i64 ((rd_T64 l0_0 x23_1).f2))) = w33 at n0_ n1_ n2_ n3_ n4_ ⊢
                 have HO_4 := n0_
                 have HO_5 := n1_
                 have BK505 := n2_
                 have BK520 := n3_
                 have HB := n4_
                 clear n0_ n1_ n2_ n3_ n4_
                 (try (rw [drewN_self w33]; generalize hq_ : World.drewN w33 _ = w33; have n0_ : Aside0 (Kd.R Kd.string 9 w33 w.heap.size (fun k_ => some k_ ≠ (u5 : Value).ownBlock) v508 x4_1) := ⟨by rw [← hq_]; exact (by (with_reducible repeat (first | apply Kd.R_alloc | apply Kd.R_drewN | apply Kd.R_drew)); exact HO_4.out)⟩; have n1_ : Aside0 (Kd.R Kd.string 9 w33 w.heap.size (fun k_ => some k_ ≠ (v508 : Value).ownBlock) u5 x5_1) := ⟨by rw [← hq_]; exact (by (with_reducible repeat (first | apply Kd.R_alloc | apply Kd.R_drewN | apply Kd.R_drew)); exact HO_5.out)⟩; have n2_ : Aside0 (w33.heap[gb505]? = some (.cells #[.slice (some ad519) l0_0.length c0_0] 26 (0, 0))) := ⟨by rw [← hq_]; exact (by (with_reducible repeat (first | refine blk_drewN ?_ _ | refine blk_drew ?_ | refine blk_alloc ?_ _)); exact BK505.out)⟩; have n3_ : Aside0 (w33.heap[gb520]? = some (.cells #[.string ((rd_T64 l0_0 x23_1).f0), .bool ((rd_T64 l0_0 x23_1).f1), .int .i64 ((rd_T64 l0_0 x23_1).f2)] 64 (0, 0))) := ⟨by rw [← hq_]; exact (by (with_reducible repeat (first | refine blk_drewN ?_ _ | refine blk_drew ?_ | refine blk_alloc ?_ _)); exact BK520.out)⟩; have n4_ : Aside0 (Below w.heap.size w w33) := ⟨by rw [← hq_]; exact (by repeat (first | (with_reducible first | exact HB.out | apply below_alloc | apply pw_below_drewN | apply below_drew1 | refine below_set ?_ GE505.out | refine below_set ?_ GE520.out) | exact HB.out))⟩; clear HO_4 HO_5 BK505 BK520 HB hq_; have HO_4 := n0_; have HO_5 := n1_; have BK505 := n2_; have BK520 := n3_; have HB := n4_; clear n0_ n1_ n2_ n3_ n4_))
                 have n0_ := aM (Kd.R_drew HO_4.out)
                 have n1_ := aM (Kd.R_drew HO_5.out)
                 have n2_ := aM (blk_drew BK505.out)
                 have n3_ := aM (blk_drew BK520.out)
                 have n4_ := aM (below_drew1 HB.out)
                 clear HO_4
                 clear HO_5
                 clear BK505
                 clear BK520
                 clear HB
                 have HO_4 := n0_
                 have HO_5 := n1_
                 have BK505 := n2_
                 have BK520 := n3_
                 have HB := n4_
                 clear n0_ n1_ n2_ n3_ n4_
                 obtain ⟨Ao35, co35, eo35⟩ := Kd.R_slice HO_4.out
                 (first | subst eo35 | (injection eo35 with f1_ f2_ f3_; have f4_ := f1_.symm; have f5_ := f3_.symm; clear f1_ f2_ f3_; subst f4_; subst f5_))
                 have p522 : 0 ≤ (((rd_T64 l0_0 x23_1).f2) : Int) := of_decide_eq_true (by first | (with_reducible assumption) | assumption)
                 have q522 : ((rd_T64 l0_0 x23_1).f2) < (x4_1.length : Int) := of_decide_eq_true (by first | (with_reducible assumption) | assumption)
                 obtain ⟨ad522, e522, hx522_0⟩ := Kd.at_string (Kd.R_reads' HO_4.out).2.2 ((rd_T64 l0_0 x23_1).f2) p522 q522
                 cases e522
                 replace p522 := eq_true p522
                 replace q522 := eq_true q522
                 have p30 : 0 ≤ (x23_1 : Int) := of_decide_eq_true (by first | (with_reducible assumption) | assumption)
                 have q30 : (x23_1 : Int) < ((x4_1.length : Int) : Int) := of_decide_eq_true (by first | (with_reducible assumption) | assumption)
                 obtain ⟨go30, co30, eo30, gb30, gl30, cl30, HG30⟩ := Kd.R_form HO_4.out (by omega)
                 (first | cases eo30 | (injection eo30 with ea_ en_ ec_; (first | subst ea_ | (injection ea_ with ea_; subst ea_)); subst ec_; clear en_))
                 have GB30 := aM gb30
                 have GG30 := aM HG30
                 clear gb30 gl30 HG30
                 (first | simp only [add_plain] at hx522_0 | skip)
                 obtain ⟨hx30_0, hf30_0⟩ := Kd.R_celln (⟨#[]⟩ : ByteArray) HO_4.out (x23_1 : Int) p30 q30
                 replace p30 := eq_true p30
                 replace q30 := eq_true q30
                 have HP36 := Kd.R_putn HO_4.out (x23_1 : Int) ((rdOf ByteArray.empty x4_1 ((rd_T64 l0_0 x23_1).f2)) ++ ((rd_T64 l0_0 x23_1).f0))
                 rw [← Ny523.out] at HP36
                 have HQ36 := aM HP36
                 clear HP36
                 refine start_ (n := 12) (S := fun w' => w'.cell? ⟨gb520, 0, none⟩ = some (.string ((rd_T64 l0_0 x23_1).f0)) ∧ w'.cell? ⟨gb520, 1, none⟩ = some (.bool ((rd_T64 l0_0 x23_1).f1)) ∧ w'.cell? ⟨gb520, 2, none⟩ = some (.int .i64 ((rd_T64 l0_0 x23_1).f2)) ∧ w'.cell? ⟨go30, (((rd_T64 l0_0 x23_1).f2)).toNat, none⟩ = some (.string (rdOf ByteArray.empty x4_1 ((rd_T64 l0_0 x23_1).f2)))) (ds := [11]) (bq 12 0) (by kernel_rfl) rfl (by kernel_rfl) ⟨(blk_cell BK520.out 0).trans rfl, (blk_cell BK520.out 1).trans rfl, (blk_cell BK520.out 2).trans rfl, hx522_0⟩ (fun hHeld => ?_); refine with_tabW impl_namesOf.tab10 impl_namesOf.bits10 (fun HT_ HW_ => ?_)
                 generalize w33.drew = w34 at HO_4 HO_5 BK505 BK520 HB GG30 HQ36 hf30_0 hx30_0 hx522_0 hHeld ⊢
                 refine pure_ (i := 0) (N := some 42) (v := ?_) (a' := ?_) (bq 12 1) rfl rfl (any_of HT_.out (by kernel_rfl)) (fun _ _ _ h => h) (Or.inl ⟨by rfl, ?_⟩) ?_ ?_; rotate_left; (intro w'; go_simp; (with_reducible rfl)); rotate_left; (simp only [Act.put, zSA, zSB, zSC, i64_w, i32_w]; rfl)
                 refine pure_ (i := 1) (N := some 43) (v := ?_) (a' := ?_) (bq 12 3) rfl rfl (any_of HT_.out (by kernel_rfl)) (fun _ _ _ h => h) (Or.inl ⟨by rfl, ?_⟩) ?_ ?_; rotate_left; (intro w'; go_simp; (with_reducible rfl)); rotate_left; (simp only [Act.put, zSA, zSB, zSC, i64_w, i32_w]; rfl)
                 refine pure_ (i := 2) (N := some 44) (v := ?_) (a' := ?_) (bq 12 7) rfl rfl (any_of HT_.out (by kernel_rfl)) (fun _ _ _ h => h) (Or.inl ⟨by rfl, ?_⟩) ?_ ?_; rotate_left; (intro w'; go_simp; (with_reducible rfl)); rotate_left; (simp only [Act.put, zSA, zSB, zSC, i64_w, i32_w]; rfl)
                 refine pure_ (i := 3) (N := some 45) (v := ?_) (a' := ?_) (bq 12 15) rfl rfl (any_of HT_.out (by kernel_rfl)) (fun _ _ _ h => h) (Or.inl ⟨by rfl, ?_⟩) ?_ ?_; rotate_left; (intro w'; go_simp; (with_reducible rfl)); rotate_left; (simp only [Act.put, zSA, zSB, zSC, i64_w, i32_w]; rfl)
                 refine pure_ (i := 7) (N := some 49) (v := ?_) (a' := ?_) (bq 12 143) rfl rfl (any_of HT_.out (by kernel_rfl)) (fun _ _ _ h => h) (Or.inl ⟨by rfl, ?_⟩) ?_ ?_; rotate_left; (intro w'; go_simp; (with_reducible rfl)); rotate_left; (simp only [Act.put, zSA, zSB, zSC, i64_w, i32_w]; rfl)
                 refine take_ (i := 4) (N := some 46) (v := ?_) (a' := ?_) (bq 12 159) rfl rfl (take_ofW HT_.out HW_.out (by kernel_rfl)) (fun _ _ _ h => h) (Or.inl ⟨by rfl, ?_⟩) hHeld ?_ ?_; rotate_left; (rintro w' ⟨s0, s1, s2, s3⟩; go_simp; (with_reducible rfl)); rotate_left; (simp only [Act.put, zSA, zSB, zSC, i64_w, i32_w]; rfl)
                 refine pure_ (i := 5) (N := some 47) (v := ?_) (a' := ?_) (bq 12 191) rfl rfl (any_of HT_.out (by kernel_rfl)) (fun _ _ _ h => h) (Or.inl ⟨by rfl, ?_⟩) ?_ ?_; rotate_left; (intro w'; go_simp; (with_reducible rfl)); rotate_left; (simp only [Act.put, zSA, zSB, zSC, i64_w, i32_w]; rfl)
                 refine take_ (i := 6) (N := some 48) (v := ?_) (a' := ?_) (bq 12 255) rfl rfl (take_ofW HT_.out HW_.out (by kernel_rfl)) (fun _ _ _ h => h) (Or.inl ⟨by rfl, ?_⟩) hHeld ?_ ?_; rotate_left; (rintro w' ⟨s0, s1, s2, s3⟩; go_simp; (with_reducible rfl)); rotate_left; (simp only [Act.put, zSA, zSB, zSC, i64_w, i32_w]; rfl)
                 refine take_ (i := 8) (N := some 50) (v := ?_) (a' := ?_) (bq 12 511) rfl rfl (take_ofW HT_.out HW_.out (by kernel_rfl)) (fun _ _ _ h => h) (Or.inl ⟨by rfl, ?_⟩) hHeld ?_ ?_; rotate_left; (rintro w' ⟨s0, s1, s2, s3⟩; go_simp; (with_reducible rfl)); rotate_left; (simp only [Act.put, zSA, zSB, zSC, i64_w, i32_w]; rfl)
                 refine pure_ (i := 9) (N := some 51) (v := ?_) (a' := ?_) (bq 12 1023) rfl rfl (any_of HT_.out (by kernel_rfl)) (fun _ _ _ h => h) (Or.inl ⟨by rfl, ?_⟩) ?_ ?_; rotate_left; (intro w'; go_simp; (with_reducible rfl)); rotate_left; (simp only [Act.put, zSA, zSB, zSC, i64_w, i32_w]; rfl)
                 refine pure_ (i := 10) (N := some 52) (v := ?_) (a' := ?_) (bq 12 2047) rfl rfl (any_of HT_.out (by kernel_rfl)) (fun _ _ _ h => h) (Or.inl ⟨by rfl, ?_⟩) ?_ ?_; rotate_left; (intro w'; go_simp; (with_reducible rfl)); rotate_left; (simp only [Act.put, zSA, zSB, zSC, i64_w, i32_w]; rfl)
                 refine last_ (i := 11) (N := none) #[true, true, true, true, true, true, true, true, true, true, true, true] rfl rfl (one_of HT_.out (by kernel_rfl)) (by decide) (fun K hK => ?_)
                 refine skip_ (w1 := ?_) (by rfl) rfl ?_ ?_
                 rotate_left
                 ·
                  go_simp
                  rfl
                 refine hK.out _ _ ?_
                 clear hK K
                 refine done_ (done_of HT_.out (by kernel_rfl)) ?_
                 try go_wp2
                 go_meet
                 case rel => exact ⟨_, (y523), H', ⟨by have := HK1.out; first | omega | exact Nat.le_refl _⟩, ⟨by (with_reducible repeat (first | apply Kd.R_alloc | apply Kd.R_drewN | apply Kd.R_drew)); exact HQ36.out⟩, ⟨by (with_reducible repeat (first | apply Kd.R_alloc | apply Kd.R_drewN | apply Kd.R_drew)); exact Kd.R_mono (Kd.R_far (p := ⟨go30, (x23_1 : Int).toNat, none⟩) (Kd.R_mono HO_5.out (fun k_ hk => (⟨hk, fun e_ => hk (by rw [e_]; rfl)⟩ : _ ∧ k_ ≠ go30))) (fun _ hk => hk.2) (.string ((rdOf ByteArray.empty x4_1 ((rd_T64 l0_0 x23_1).f2)) ++ ((rd_T64 l0_0 x23_1).f0)))) (fun _ hk => hk.1)⟩, ⟨by (with_reducible repeat (first | refine blk_drewN ?_ _ | refine blk_drew ?_ | refine blk_alloc ?_ _)); refine blk_far ?_ (by have h_ := Kd.R_ne HO_4.out BK505.out (by decide); intro e_; exact h_ (by rw [e_]; rfl)) _; (with_reducible repeat (first | refine blk_drewN ?_ _ | refine blk_drew ?_ | refine blk_alloc ?_ _)); exact BK505.out⟩, ⟨by (with_reducible repeat (first | refine blk_drewN ?_ _ | refine blk_drew ?_ | refine blk_alloc ?_ _)); refine blk_far ?_ (by have h_ := Kd.R_ne HO_4.out BK520.out (by decide); intro e_; exact h_ (by rw [e_]; rfl)) _; (with_reducible repeat (first | refine blk_drewN ?_ _ | refine blk_drew ?_ | refine blk_alloc ?_ _)); exact BK520.out⟩, ⟨by repeat (first | (with_reducible first | exact HB.out | apply below_alloc | apply pw_below_drewN | apply below_drew1 | refine below_set ?_ GB30.out | refine below_set ?_ GE505.out | refine below_set ?_ GE520.out) | exact HB.out)⟩⟩
                ·
                 rw [if_neg c29] at H
                 exact absurd H (by simp)
               ·
                rw [if_neg c28] at H
                exact absurd H (by simp)
              ·
               rw [if_neg c27] at H
               exact absurd H (by simp)
             ·
              rw [if_neg c26] at H
              exact absurd H (by simp)
           ·
            replace c22 := Bool.eq_false_iff.mpr c22
            subst c22
            have H1 : (some (([] : List ByteArray), false)) = some (r1, r2) := by rw [if_neg (show ¬ (false = true) by decide)] at H; exact H
            clear H
            have H := H1
            clear H1
            simp only [Option.some.injEq, Prod.mk.injEq] at H
            obtain ⟨rfl, rfl⟩ := H
            have hnb37 := NB520_505.out
            have hnc37 := NB505_520.out
            have hcz38_0 : w17.cell? ⟨gb520, 0, none⟩ = some (.string (⟨#[]⟩ : ByteArray)) := (blk_cell BK520.out 0).trans rfl
            have hcz38_1 : w17.cell? ⟨gb520, 1, none⟩ = some (.bool false) := (blk_cell BK520.out 1).trans rfl
            have hcz38_2 : w17.cell? ⟨gb520, 2, none⟩ = some (.int .i64 0) := (blk_cell BK520.out 2).trans rfl
            have hfz38_0 := blk_frozen BK520.out 0
            have hfz38_1 := blk_frozen BK520.out 1
            have hfz38_2 := blk_frozen BK520.out 2
            go_wp2_with (first | ((with_reducible refine gate_callee (f := 78) rfl ?_); refine goesL_ (some 34) rfl rfl Try.func78 (by kernel_rfl) rfl #[.int .i64 ((rd_T64 l0_0 x23_1).f2), .int .i64 0, .int .i64 (wrap64 (x23_1 - 1))] rfl (by (try simp only [List.map_toArray, List.map_cons, List.map_nil]); first | done | rfl | (simp only [List.length_drop, List.length_take]; rfl)) ?_; (with_reducible refine (impl_within.calls ((rd_T64 l0_0 x23_1).f2) 0 (wrap64 (x23_1 - 1)) false _ A21.out).mono ?_); rintro e w' ⟨rfl, ⟨nd, rfl⟩⟩; refine ⟨_, rfl, ?_⟩))
            go_ret2
            exact ⟨_, by first | rfl | (simp [errW_none, errW_some] <;> rfl) | (simp [*, errW_none, errW_some] <;> rfl), by first | exact Kd.R_nil _ _ _ _ _ | exact Kd.N_nil _ _ _ _ _ | exact Kd.V_nil _ _ _ _ _ | exact Kd.Q_nil _ _ _ _ _ | exact Kd.S_nil _ _ _ _ _, by repeat (first | (with_reducible first | exact HB.out | apply below_alloc | apply pw_below_drewN | apply below_drew1 | refine below_set ?_ GE505.out | refine below_set ?_ GE520.out) | exact HB.out)⟩
          ·
           rw [if_neg c20] at H
           have c20b0 : decide (0 < x23_1) = false := decide_eq_false c20
           clear c20
           (first | rw [c20b0] | (simp only [i64_w, i32_w]; rw [c20b0]) | skip)
           have H' := aM H
           clear H
           go_wp2
           go_meet
           case rel => exact ⟨_, (x4_1), H', ⟨by have := HK1.out; first | omega | exact Nat.le_refl _⟩, ⟨by (with_reducible repeat (first | apply Kd.R_alloc | apply Kd.R_drewN | apply Kd.R_drew)); exact Kd.R_mono (Kd.R_far (p := ⟨gb520, 2, none⟩) (Kd.R_far (p := ⟨gb520, 1, none⟩) (Kd.R_far (p := ⟨gb520, 0, none⟩) (Kd.R_types HO_4.out BK520.out (by decide)) (fun _ hk => hk.2) (.string ((rd_T64 l0_0 x23_1).f0))) (fun _ hk => hk.2) (.bool ((rd_T64 l0_0 x23_1).f1))) (fun _ hk => hk.2) (.int .i64 ((rd_T64 l0_0 x23_1).f2))) (fun _ hk => hk.1)⟩, ⟨by (with_reducible repeat (first | apply Kd.R_alloc | apply Kd.R_drewN | apply Kd.R_drew)); exact Kd.R_mono (Kd.R_far (p := ⟨gb520, 2, none⟩) (Kd.R_far (p := ⟨gb520, 1, none⟩) (Kd.R_far (p := ⟨gb520, 0, none⟩) (Kd.R_types HO_5.out BK520.out (by decide)) (fun _ hk => hk.2) (.string ((rd_T64 l0_0 x23_1).f0))) (fun _ hk => hk.2) (.bool ((rd_T64 l0_0 x23_1).f1))) (fun _ hk => hk.2) (.int .i64 ((rd_T64 l0_0 x23_1).f2))) (fun _ hk => hk.1)⟩, ⟨by (with_reducible repeat (first | refine blk_drewN ?_ _ | refine blk_drew ?_ | refine blk_alloc ?_ _)); refine blk_far ?_ NB505_520.out _; (with_reducible repeat (first | refine blk_drewN ?_ _ | refine blk_drew ?_ | refine blk_alloc ?_ _)); refine blk_far ?_ NB505_520.out _; (with_reducible repeat (first | refine blk_drewN ?_ _ | refine blk_drew ?_ | refine blk_alloc ?_ _)); refine blk_far ?_ NB505_520.out _; (with_reducible repeat (first | refine blk_drewN ?_ _ | refine blk_drew ?_ | refine blk_alloc ?_ _)); exact BK505.out⟩, ⟨by (with_reducible repeat (first | refine blk_drewN ?_ _ | refine blk_drew ?_ | refine blk_alloc ?_ _)); refine blk_put (cs := #[.string ((rd_T64 l0_0 x23_1).f0), .bool ((rd_T64 l0_0 x23_1).f1), .int .i64 0]) ?_ 2 _ rfl; (with_reducible repeat (first | refine blk_drewN ?_ _ | refine blk_drew ?_ | refine blk_alloc ?_ _)); refine blk_put (cs := #[.string ((rd_T64 l0_0 x23_1).f0), .bool false, .int .i64 0]) ?_ 1 _ rfl; (with_reducible repeat (first | refine blk_drewN ?_ _ | refine blk_drew ?_ | refine blk_alloc ?_ _)); refine blk_put (cs := #[.string (⟨#[]⟩ : ByteArray), .bool false, .int .i64 0]) ?_ 0 _ rfl; (with_reducible repeat (first | refine blk_drewN ?_ _ | refine blk_drew ?_ | refine blk_alloc ?_ _)); exact BK520.out⟩, ⟨by repeat (first | (with_reducible first | exact HB.out | apply below_alloc | apply pw_below_drewN | apply below_drew1 | refine below_set ?_ GE505.out | refine below_set ?_ GE520.out) | exact HB.out)⟩⟩
         case rest =>
          clear HC16
          try clear c1
          try clear c2
          try clear p2
          try clear c3
          try clear p3
          try clear q3
          try clear hx3
          try clear hf3
          try clear c4
          try clear c4b0
          try clear c4b1
          try clear c5
          try clear c5b0
          try clear c5b1
          try clear p5
          try clear q5
          try clear hx5
          try clear p6
          try clear c7
          try clear c13
          try clear c13b0
          try clear c14
          try clear c14b0
          try clear c15
          try clear c15b0
          try clear c18
          try clear c20
          try clear c20b0
          try clear c22
          try clear c23
          try clear c23b0
          try clear c23b1
          try clear c24
          try clear c26
          try clear c26b0
          try clear c27
          try clear c27b0
          try clear c28
          try clear c28b0
          try clear c28b1
          try clear c28b2
          try clear c29
          try clear c29b0
          try clear p30
          try clear q30
          try clear hx30
          try clear hf30
          try clear c31
          try clear c37
          try clear hcz12_0
          try clear hcz19_0
          try clear hcz19_1
          try clear hcz19_2
          try clear hcz25_0
          try clear hcz25_1
          try clear hcz25_2
          try clear hcz32_0
          try clear hcz32_1
          try clear hcz32_2
          try clear hcz38_0
          try clear hcz38_1
          try clear hcz38_2
          try clear hcz7_0
          try clear hfz12_0
          try clear hfz19_0
          try clear hfz19_1
          try clear hfz19_2
          try clear hfz25_0
          try clear hfz25_1
          try clear hfz25_2
          try clear hfz32_0
          try clear hfz32_1
          try clear hfz32_2
          try clear hfz38_0
          try clear hfz38_1
          try clear hfz38_2
          try clear hfz7_0
          try clear hx30_0
          try clear hx519_0
          try clear hx519_1
          try clear hx519_2
          try clear hx522_0
          try clear p2
          try clear p30
          try clear p519
          try clear p522
          try clear q30
          try clear q519
          try clear q522
          obtain ⟨kq, x4_15, HA, HJ15, HO_4, HO_5, BK505, BK520, HB⟩ := hcut
          cases kq with
          | zero => exact absurd HA.out (by simp [impl_namesOf.j1])
          | succ kj15 =>
           have H := HA.out
           clear HA
           simp only [impl_namesOf.j1] at H
           by_cases c39 : ((rd_T64 l0_0 x23_1).f1) = true
           ·
            rw [if_pos c39] at H
            have c39b0 : ((rd_T64 l0_0 x23_1).f1) = true := c39
            clear c39
            by_cases c40 : 0 ≤ x23_1
            ·
             rw [if_pos c40] at H
             have c40b0 : decide (0 ≤ x23_1) = true := decide_eq_true c40
             clear c40
             by_cases c41 : x23_1 < (x4_15.length : Int)
             ·
              rw [if_pos c41] at H
              have c41b0 : decide (x23_1 < (x4_15.length : Int)) = true := decide_eq_true c41
              clear c41
              by_cases c42 : x5_1.length < 8796093022208
              ·
               rw [if_pos c42] at H
               have LMc42 := aM c42
               clear c42
               obtain ⟨y525, hy525⟩ : ∃ y_ : List ByteArray, y_ = (x5_1 ++ [rdOf ByteArray.empty x4_15 x23_1]) := ⟨_, rfl⟩
               replace H : (if ((rdOf ByteArray.empty x4_15 x23_1).size : Int) > 20 then (some (([] : List ByteArray), false)) else (impl_namesOf.l0 kj15 x4_15 y525 l0_0 (l0_0.length : Int) (wrap64 (x23_1 + 1)) l0_0)) = some (r1, r2) := by first | (rw [hy525]; with_reducible exact H) | (have H2_ := (Option.bind_some _ _).symm.trans H; rw [hy525]; with_reducible exact H2_) | (have H2_ := (Option.bind_some _ _).symm.trans H; with_reducible exact H2_) | with_reducible exact H | (rw [hy525]; exact H) | exact H
               have Ny525 := aM hy525
               clear hy525
               by_cases c43 : ((rdOf ByteArray.empty x4_15 x23_1).size : Int) > 20
               ·
                rw [if_pos c43] at H
                have c43b0 : decide (20 < ((rdOf ByteArray.empty x4_15 x23_1).size : Int)) = true := decide_eq_true c43
                have c43b1 : decide (20 < (rdOf ByteArray.empty x4_15 x23_1).size) = true := decide_eq_true (by omega)
                clear c43
                simp only [Option.some.injEq, Prod.mk.injEq] at H
                obtain ⟨rfl, rfl⟩ := H
                have hnb44 := NB520_505.out
                have hnc44 := NB505_520.out
                have hcz45_0 : wc.cell? ⟨gb520, 0, none⟩ = some (.string ((rd_T64 l0_0 x23_1).f0)) := (blk_cell BK520.out 0).trans rfl
                have hcz45_1 : wc.cell? ⟨gb520, 1, none⟩ = some (.bool ((rd_T64 l0_0 x23_1).f1)) := (blk_cell BK520.out 1).trans rfl
                have hcz45_2 : wc.cell? ⟨gb520, 2, none⟩ = some (.int .i64 ((rd_T64 l0_0 x23_1).f2)) := (blk_cell BK520.out 2).trans rfl
                have hfz45_0 := blk_frozen BK520.out 0
                have hfz45_1 := blk_frozen BK520.out 1
                have hfz45_2 := blk_frozen BK520.out 2
                obtain ⟨Ao46, co46, eo46⟩ := Kd.R_slice HO_4.out
                subst eo46
                have p524 : 0 ≤ (x23_1 : Int) := of_decide_eq_true (by first | (with_reducible assumption) | assumption)
                have q524 : x23_1 < (x4_15.length : Int) := of_decide_eq_true (by first | (with_reducible assumption) | assumption)
                obtain ⟨ad524, e524, hx524_0⟩ := Kd.at_string (Kd.R_reads' HO_4.out).2.2 x23_1 p524 q524
                cases e524
                replace p524 := eq_true p524
                replace q524 := eq_true q524
                go_wp2_with (first | ((with_reducible refine gate_builtin (b := .append) (xs := #[.tmp 55, .tmp 60]) rfl ?_); (try (refine gate_guard (by rfl) ?_; dsimp only)); at_builtin; refine Kd.R_append Kd.string (w0 := w) w.heap.size rfl (.tmp 55) (.tmp 60) 22 9 (.string ⟨#[]⟩) 16 rfl Try.underlying22 info9 rfl (by decide) (by omega) u5 x5_1 (rdOf ByteArray.empty x4_15 x23_1) [.string (rdOf ByteArray.empty x4_15 x23_1)] (fun k_ => some k_ ≠ (.slice (some ad524) x4_15.length co46 : Value).ownBlock) (fun _ => False) rfl rfl ?aP (fun _ hk => hk.elim) ?aF ?aO ?aB ?aS ?aL ?_; (case aP => exact rfl); (case aB => exact (by repeat (first | (with_reducible first | exact HB.out | apply below_alloc | apply pw_below_drewN | apply below_drew1 | refine below_set ?_ GE505.out | refine below_set ?_ GE520.out) | exact HB.out))); (case aF => exact (fun k_ hk => Kd.fresh' (Kd.R_lt (by (with_reducible repeat (first | apply Kd.R_alloc | apply Kd.R_drewN | apply Kd.R_drew)); exact HO_4.out)) k_ hk)); (case aO => exact (by (with_reducible repeat (first | apply Kd.R_alloc | apply Kd.R_drewN | apply Kd.R_drew)); exact HO_5.out)); (case aS => exact (below_size (by repeat (first | (with_reducible first | exact HB.out | apply below_alloc | apply pw_below_drewN | apply below_drew1 | refine below_set ?_ GE505.out | refine below_set ?_ GE520.out) | exact HB.out)))); (case aL => have := LMc42.out; omega); intro v526 w47 ho hb hg hat; rw [← Ny525.out] at ho; have n0_ := aM (Kd.R_after (ok := (fun _ => True)) (by (with_reducible repeat (first | apply Kd.R_alloc | apply Kd.R_drewN | apply Kd.R_drew)); exact Kd.R_mono HO_4.out (fun _ hk => ⟨trivial, hk⟩)) hg hat); have n1_ := aM (blk_grown (g := gb505) (o := .cells #[.slice (some ad519) l0_0.length c0_0] 26 (0, 0)) (by (with_reducible repeat (first | refine blk_drewN ?_ _ | refine blk_drew ?_ | refine blk_alloc ?_ _)); exact BK505.out) hg (Kd.R_ne HO_5.out BK505.out (by decide))); have n2_ := aM (blk_grown (g := gb520) (o := .cells #[.string ((rd_T64 l0_0 x23_1).f0), .bool ((rd_T64 l0_0 x23_1).f1), .int .i64 ((rd_T64 l0_0 x23_1).f2)] 64 (0, 0)) (by (with_reducible repeat (first | refine blk_drewN ?_ _ | refine blk_drew ?_ | refine blk_alloc ?_ _)); exact BK520.out) hg (Kd.R_ne HO_5.out BK520.out (by decide))); have n3_ := aM (hb); have n4_ := aM (ho); clear HO_4; clear BK505; clear BK520; clear HB; clear HO_5; have HO_4 := n0_; have BK505 := n1_; have BK520 := n2_; have HB := n3_; have HO527 := n4_; clear n0_ n1_ n2_ n3_ n4_; clear ho hb hg hat; have p528 : 0 ≤ (x23_1 : Int) := of_decide_eq_true (by first | (with_reducible assumption) | assumption); have q528 : x23_1 < (x4_15.length : Int) := of_decide_eq_true (by first | (with_reducible assumption) | assumption); obtain ⟨ad528, e528, hx528_0⟩ := Kd.at_string (Kd.R_reads' HO_4.out).2.2 x23_1 p528 q528; obtain rfl : ad524 = ad528 := (by injection e528); replace p528 := eq_true p528; replace q528 := eq_true q528))
                go_ret2
                exact ⟨_, by first | rfl | (simp [errW_none, errW_some] <;> rfl) | (simp [*, errW_none, errW_some] <;> rfl), by first | exact Kd.R_nil _ _ _ _ _ | exact Kd.N_nil _ _ _ _ _ | exact Kd.V_nil _ _ _ _ _ | exact Kd.Q_nil _ _ _ _ _ | exact Kd.S_nil _ _ _ _ _, by repeat (first | (with_reducible first | exact HB.out | apply below_alloc | apply pw_below_drewN | apply below_drew1 | refine below_set ?_ GE505.out | refine below_set ?_ GE520.out) | exact HB.out)⟩
               ·
                rw [if_neg c43] at H
                have c43b0 : decide (20 < ((rdOf ByteArray.empty x4_15 x23_1).size : Int)) = false := decide_eq_false c43
                have c43b1 : decide (20 < (rdOf ByteArray.empty x4_15 x23_1).size) = false := decide_eq_false (by omega)
                clear c43
                have H' := aM H
                clear H
                have hnb48 := NB520_505.out
                have hnc48 := NB505_520.out
                have hcz49_0 : wc.cell? ⟨gb520, 0, none⟩ = some (.string ((rd_T64 l0_0 x23_1).f0)) := (blk_cell BK520.out 0).trans rfl
                have hcz49_1 : wc.cell? ⟨gb520, 1, none⟩ = some (.bool ((rd_T64 l0_0 x23_1).f1)) := (blk_cell BK520.out 1).trans rfl
                have hcz49_2 : wc.cell? ⟨gb520, 2, none⟩ = some (.int .i64 ((rd_T64 l0_0 x23_1).f2)) := (blk_cell BK520.out 2).trans rfl
                have hfz49_0 := blk_frozen BK520.out 0
                have hfz49_1 := blk_frozen BK520.out 1
                have hfz49_2 := blk_frozen BK520.out 2
                obtain ⟨Ao50, co50, eo50⟩ := Kd.R_slice HO_4.out
                subst eo50
                have p524 : 0 ≤ (x23_1 : Int) := of_decide_eq_true (by first | (with_reducible assumption) | assumption)
                have q524 : x23_1 < (x4_15.length : Int) := of_decide_eq_true (by first | (with_reducible assumption) | assumption)
                obtain ⟨ad524, e524, hx524_0⟩ := Kd.at_string (Kd.R_reads' HO_4.out).2.2 x23_1 p524 q524
                cases e524
                replace p524 := eq_true p524
                replace q524 := eq_true q524
                go_wp2_with (first | ((with_reducible refine gate_builtin (b := .append) (xs := #[.tmp 55, .tmp 60]) rfl ?_); (try (refine gate_guard (by rfl) ?_; dsimp only)); at_builtin; refine Kd.R_append Kd.string (w0 := w) w.heap.size rfl (.tmp 55) (.tmp 60) 22 9 (.string ⟨#[]⟩) 16 rfl Try.underlying22 info9 rfl (by decide) (by omega) u5 x5_1 (rdOf ByteArray.empty x4_15 x23_1) [.string (rdOf ByteArray.empty x4_15 x23_1)] (fun k_ => some k_ ≠ (.slice (some ad524) x4_15.length co50 : Value).ownBlock) (fun _ => False) rfl rfl ?aP (fun _ hk => hk.elim) ?aF ?aO ?aB ?aS ?aL ?_; (case aP => exact rfl); (case aB => exact (by repeat (first | (with_reducible first | exact HB.out | apply below_alloc | apply pw_below_drewN | apply below_drew1 | refine below_set ?_ GE505.out | refine below_set ?_ GE520.out) | exact HB.out))); (case aF => exact (fun k_ hk => Kd.fresh' (Kd.R_lt (by (with_reducible repeat (first | apply Kd.R_alloc | apply Kd.R_drewN | apply Kd.R_drew)); exact HO_4.out)) k_ hk)); (case aO => exact (by (with_reducible repeat (first | apply Kd.R_alloc | apply Kd.R_drewN | apply Kd.R_drew)); exact HO_5.out)); (case aS => exact (below_size (by repeat (first | (with_reducible first | exact HB.out | apply below_alloc | apply pw_below_drewN | apply below_drew1 | refine below_set ?_ GE505.out | refine below_set ?_ GE520.out) | exact HB.out)))); (case aL => have := LMc42.out; omega); intro v526 w51 ho hb hg hat; rw [← Ny525.out] at ho; have n0_ := aM (Kd.R_after (ok := (fun _ => True)) (by (with_reducible repeat (first | apply Kd.R_alloc | apply Kd.R_drewN | apply Kd.R_drew)); exact Kd.R_mono HO_4.out (fun _ hk => ⟨trivial, hk⟩)) hg hat); have n1_ := aM (blk_grown (g := gb505) (o := .cells #[.slice (some ad519) l0_0.length c0_0] 26 (0, 0)) (by (with_reducible repeat (first | refine blk_drewN ?_ _ | refine blk_drew ?_ | refine blk_alloc ?_ _)); exact BK505.out) hg (Kd.R_ne HO_5.out BK505.out (by decide))); have n2_ := aM (blk_grown (g := gb520) (o := .cells #[.string ((rd_T64 l0_0 x23_1).f0), .bool ((rd_T64 l0_0 x23_1).f1), .int .i64 ((rd_T64 l0_0 x23_1).f2)] 64 (0, 0)) (by (with_reducible repeat (first | refine blk_drewN ?_ _ | refine blk_drew ?_ | refine blk_alloc ?_ _)); exact BK520.out) hg (Kd.R_ne HO_5.out BK520.out (by decide))); have n3_ := aM (hb); have n4_ := aM (ho); clear HO_4; clear BK505; clear BK520; clear HB; clear HO_5; have HO_4 := n0_; have BK505 := n1_; have BK520 := n2_; have HB := n3_; have HO527 := n4_; clear n0_ n1_ n2_ n3_ n4_; clear ho hb hg hat; have p528 : 0 ≤ (x23_1 : Int) := of_decide_eq_true (by first | (with_reducible assumption) | assumption); have q528 : x23_1 < (x4_15.length : Int) := of_decide_eq_true (by first | (with_reducible assumption) | assumption); obtain ⟨ad528, e528, hx528_0⟩ := Kd.at_string (Kd.R_reads' HO_4.out).2.2 x23_1 p528 q528; obtain rfl : ad524 = ad528 := (by injection e528); replace p528 := eq_true p528; replace q528 := eq_true q528))
                go_roundg kj15
                case measure => have := HK1.out; have := HJ15.out; omega
                case rel => exact ⟨(x4_15), (y525), (wrap64 (x23_1 + 1)), (by first | rfl | (simp; done) | (simp [*]; done)), H', ⟨by have := HK1.out; have := HJ15.out; omega⟩, ⟨by (with_reducible repeat (first | apply Kd.R_alloc | apply Kd.R_drewN | apply Kd.R_drew)); exact Kd.R_mono HO_4.out (fun _ hk => hk.2)⟩, ⟨by (with_reducible repeat (first | apply Kd.R_alloc | apply Kd.R_drewN | apply Kd.R_drew)); exact HO527.out⟩, ⟨by (with_reducible repeat (first | refine blk_drewN ?_ _ | refine blk_drew ?_ | refine blk_alloc ?_ _)); exact BK505.out⟩, ⟨by repeat (first | (with_reducible first | exact HB.out | apply below_alloc | apply pw_below_drewN | apply below_drew1 | refine below_set ?_ GE505.out | refine below_set ?_ GE520.out) | exact HB.out)⟩⟩
              ·
               rw [if_neg c42] at H
               exact absurd H (by simp)
             ·
              rw [if_neg c41] at H
              exact absurd H (by simp)
            ·
             rw [if_neg c40] at H
             exact absurd H (by simp)
           ·
            rw [if_neg c39] at H
            have c39b0 : ((rd_T64 l0_0 x23_1).f1) = false := by simpa using c39
            clear c39
            by_cases c52 : 0 ≤ x23_1
            ·
             rw [if_pos c52] at H
             have c52b0 : decide (0 ≤ x23_1) = true := decide_eq_true c52
             clear c52
             by_cases c53 : x23_1 < (x4_15.length : Int)
             ·
              rw [if_pos c53] at H
              have c53b0 : decide (x23_1 < (x4_15.length : Int)) = true := decide_eq_true c53
              clear c53
              by_cases c54 : ((rdOf ByteArray.empty x4_15 x23_1).size : Int) > 20
              ·
               rw [if_pos c54] at H
               have c54b0 : decide (20 < ((rdOf ByteArray.empty x4_15 x23_1).size : Int)) = true := decide_eq_true c54
               have c54b1 : decide (20 < (rdOf ByteArray.empty x4_15 x23_1).size) = true := decide_eq_true (by omega)
               clear c54
               simp only [Option.some.injEq, Prod.mk.injEq] at H
               obtain ⟨rfl, rfl⟩ := H
               have hnb55 := NB520_505.out
               have hnc55 := NB505_520.out
               have hcz56_0 : wc.cell? ⟨gb520, 0, none⟩ = some (.string ((rd_T64 l0_0 x23_1).f0)) := (blk_cell BK520.out 0).trans rfl
               have hcz56_1 : wc.cell? ⟨gb520, 1, none⟩ = some (.bool ((rd_T64 l0_0 x23_1).f1)) := (blk_cell BK520.out 1).trans rfl
               have hcz56_2 : wc.cell? ⟨gb520, 2, none⟩ = some (.int .i64 ((rd_T64 l0_0 x23_1).f2)) := (blk_cell BK520.out 2).trans rfl
               have hfz56_0 := blk_frozen BK520.out 0
               have hfz56_1 := blk_frozen BK520.out 1
               have hfz56_2 := blk_frozen BK520.out 2
               obtain ⟨Ao57, co57, eo57⟩ := Kd.R_slice HO_4.out
               subst eo57
               have p529 : 0 ≤ (x23_1 : Int) := of_decide_eq_true (by first | (with_reducible assumption) | assumption)
               have q529 : x23_1 < (x4_15.length : Int) := of_decide_eq_true (by first | (with_reducible assumption) | assumption)
               obtain ⟨ad529, e529, hx529_0⟩ := Kd.at_string (Kd.R_reads' HO_4.out).2.2 x23_1 p529 q529
               cases e529
               replace p529 := eq_true p529
               replace q529 := eq_true q529
               go_wp2
               go_ret2
               exact ⟨_, by first | rfl | (simp [errW_none, errW_some] <;> rfl) | (simp [*, errW_none, errW_some] <;> rfl), by first | exact Kd.R_nil _ _ _ _ _ | exact Kd.N_nil _ _ _ _ _ | exact Kd.V_nil _ _ _ _ _ | exact Kd.Q_nil _ _ _ _ _ | exact Kd.S_nil _ _ _ _ _, by repeat (first | (with_reducible first | exact HB.out | apply below_alloc | apply pw_below_drewN | apply below_drew1 | refine below_set ?_ GE505.out | refine below_set ?_ GE520.out) | exact HB.out)⟩
              ·
               rw [if_neg c54] at H
               have c54b0 : decide (20 < ((rdOf ByteArray.empty x4_15 x23_1).size : Int)) = false := decide_eq_false c54
               have c54b1 : decide (20 < (rdOf ByteArray.empty x4_15 x23_1).size) = false := decide_eq_false (by omega)
               clear c54
               have H' := aM H
               clear H
               have hnb58 := NB520_505.out
               have hnc58 := NB505_520.out
               have hcz59_0 : wc.cell? ⟨gb520, 0, none⟩ = some (.string ((rd_T64 l0_0 x23_1).f0)) := (blk_cell BK520.out 0).trans rfl
               have hcz59_1 : wc.cell? ⟨gb520, 1, none⟩ = some (.bool ((rd_T64 l0_0 x23_1).f1)) := (blk_cell BK520.out 1).trans rfl
               have hcz59_2 : wc.cell? ⟨gb520, 2, none⟩ = some (.int .i64 ((rd_T64 l0_0 x23_1).f2)) := (blk_cell BK520.out 2).trans rfl
               have hfz59_0 := blk_frozen BK520.out 0
               have hfz59_1 := blk_frozen BK520.out 1
               have hfz59_2 := blk_frozen BK520.out 2
               obtain ⟨Ao60, co60, eo60⟩ := Kd.R_slice HO_4.out
               subst eo60
               have p529 : 0 ≤ (x23_1 : Int) := of_decide_eq_true (by first | (with_reducible assumption) | assumption)
               have q529 : x23_1 < (x4_15.length : Int) := of_decide_eq_true (by first | (with_reducible assumption) | assumption)
               obtain ⟨ad529, e529, hx529_0⟩ := Kd.at_string (Kd.R_reads' HO_4.out).2.2 x23_1 p529 q529
               cases e529
               replace p529 := eq_true p529
               replace q529 := eq_true q529
               go_wp2
               go_roundg kj15
               case measure => have := HK1.out; have := HJ15.out; omega
               case rel => exact ⟨(x4_15), (x5_1), (wrap64 (x23_1 + 1)), (by first | rfl | (simp; done) | (simp [*]; done)), H', ⟨by have := HK1.out; have := HJ15.out; omega⟩, ⟨by (with_reducible repeat (first | apply Kd.R_alloc | apply Kd.R_drewN | apply Kd.R_drew)); exact HO_4.out⟩, ⟨by (with_reducible repeat (first | apply Kd.R_alloc | apply Kd.R_drewN | apply Kd.R_drew)); exact HO_5.out⟩, ⟨by (with_reducible repeat (first | refine blk_drewN ?_ _ | refine blk_drew ?_ | refine blk_alloc ?_ _)); exact BK505.out⟩, ⟨by repeat (first | (with_reducible first | exact HB.out | apply below_alloc | apply pw_below_drewN | apply below_drew1 | refine below_set ?_ GE505.out | refine below_set ?_ GE520.out) | exact HB.out)⟩⟩
             ·
              rw [if_neg c53] at H
              exact absurd H (by simp)
            ·
             rw [if_neg c52] at H
             exact absurd H (by simp)
        ·
         rw [if_neg c15] at H
         exact absurd H (by simp)
       ·
        rw [if_neg c14] at H
        exact absurd H (by simp)
      ·
       rw [if_neg c13] at H
       have c13b0 : decide (x23_1 < (l0_0.length : Int)) = false := decide_eq_false c13
       clear c13
       replace H := Option.bind_eq_some_iff.mp H
       obtain ⟨⟨t513, t516⟩, A610, H⟩ := H
       replace H : (if t516 = true then ((impl_Edge_79.f k1 t513 l0_0).bind fun t518 => (some (x5_1, t518))) else (some (x5_1, false))) = some (r1, r2) := H
       have A61 := aM A610
       clear A610
       by_cases c62 : t516 = true
       ·
        subst c62
        have H1 : ((impl_Edge_79.f k1 t513 l0_0).bind fun t518 => (some (x5_1, t518))) = some (r1, r2) := by rw [if_pos rfl] at H; exact H
        clear H
        have H := H1
        clear H1
        replace H := Option.bind_eq_some_iff.mp H
        obtain ⟨t518, A630, H⟩ := H
        replace H : (some (x5_1, t518)) = some (r1, r2) := H
        have A63 := aM A630
        clear A630
        simp only [Option.some.injEq, Prod.mk.injEq] at H
        obtain ⟨rfl, rfl⟩ := H
        obtain ⟨Ao64, co64, eo64⟩ := Kd.R_slice HO_5.out
        subst eo64
        go_wp2_with (first | ((with_reducible refine gate_callee (f := 14) rfl ?_); refine goesL_ (some 71) rfl rfl Try.func14 (by kernel_rfl) rfl #[.slice Ao64 x5_1.length co64] rfl (by (try simp only [List.map_toArray, List.map_cons, List.map_nil]); first | done | rfl | (simp only [List.length_drop, List.length_take]; rfl)) ?_; (with_reducible refine (impl_RadixOf.calls _ _ x5_1 t513 true _ ?side1 ?side2 A61.out).mono ?_); (case side1 => repeat (first | exact (Kd.R_reads' HO_5.out).2.2 | (with_reducible refine Kd.C_alloc ?_ _) | (with_reducible refine Kd.C_drewN ?_ _) | (with_reducible refine Kd.C_drew ?_))); (case side2 => exact (Kd.R_reads' HO_5.out).2.1); rintro e w65 ⟨v514, rfl, ho0, hb⟩; refine ⟨_, rfl, ?_⟩; have n0_ := aM (Kd.R_below (by (with_reducible repeat (first | apply Kd.R_alloc | apply Kd.R_drewN | apply Kd.R_drew)); exact HO_4.out) hb); have n1_ := aM (Kd.R_below (by (with_reducible repeat (first | apply Kd.R_alloc | apply Kd.R_drewN | apply Kd.R_drew)); exact HO_5.out) hb); have n2_ := aM (Kd.R_lower ho0 (below_size (by repeat (first | (with_reducible first | exact HB.out | apply below_alloc | apply pw_below_drewN | apply below_drew1 | refine below_set ?_ GE505.out) | exact HB.out)))); have n3_ := aM (blk_below (g := gb505) (o := .cells #[.slice A0_0 l0_0.length c0_0] 26 (0, 0)) (by (with_reducible repeat (first | refine blk_drewN ?_ _ | refine blk_drew ?_ | refine blk_alloc ?_ _)); exact BK505.out) hb); have n4_ := aM (below_step (by repeat (first | (with_reducible first | exact HB.out | apply below_alloc | apply pw_below_drewN | apply below_drew1 | refine below_set ?_ GE505.out) | exact HB.out)) hb); clear HO_4; clear HO_5; clear BK505; clear HB; have HO_4 := n0_; have HO_5 := n1_; have HO515 := n2_; have BK505 := n3_; have HB := n4_; clear n0_ n1_ n2_ n3_ n4_; (try clear hb); (try clear hb2); (try clear hk); (try clear hi); (try clear ho0)) | ((with_reducible refine gate_dst (N := 8) rfl ?_); (try (refine gate_guard (by rfl) ?_; dsimp only)); refine box_event ?hg (N := 8) ?hd (cs := #[.slice none 0 0]) (t := 26) ?hr ?_; (case hd => rfl); (case hg => rfl); (case hr => first | (go_simp; done) | (go_simp; rfl)); intro gb517 hg w66 hbox hb; have n0_ := aM (Kd.R_below (by (with_reducible repeat (first | apply Kd.R_alloc | apply Kd.R_drewN | apply Kd.R_drew)); exact HO_4.out) hb); have n1_ := aM (Kd.R_below (by (with_reducible repeat (first | apply Kd.R_alloc | apply Kd.R_drewN | apply Kd.R_drew)); exact HO_5.out) hb); have n2_ := aM (Kd.R_below (by (with_reducible repeat (first | apply Kd.R_alloc | apply Kd.R_drewN | apply Kd.R_drew)); exact HO515.out) hb); have n3_ := aM (blk_below (g := gb505) (o := .cells #[.slice A0_0 l0_0.length c0_0] 26 (0, 0)) (by (with_reducible repeat (first | refine blk_drewN ?_ _ | refine blk_drew ?_ | refine blk_alloc ?_ _)); exact BK505.out) hb); have n4_ := aM (below_step (by repeat (first | (with_reducible first | exact HB.out | apply below_alloc | apply pw_below_drewN | apply below_drew1 | refine below_set ?_ GE505.out) | exact HB.out)) hb); have n5_ := aM (hbox); have n6_ := aM ((by rw [hg]; exact (below_size (by repeat (first | (with_reducible first | exact HB.out | apply below_alloc | apply pw_below_drewN | apply below_drew1 | refine below_set ?_ GE505.out) | exact HB.out))) : w.heap.size ≤ gb517)); have n7_ := aM ((by rw [hg]; exact (below_size (by repeat (first | (with_reducible first | exact HB.out | apply below_alloc | apply pw_below_drewN | apply below_drew1 | refine below_set ?_ GE505.out) | exact HB.out))) : w.heap.size ≤ gb517)); have n8_ := aM ((by rw [hg]; exact Nat.ne_of_lt (blk_lt (g := gb505) (o := .cells #[.slice A0_0 l0_0.length c0_0] 26 (0, 0)) (by (with_reducible repeat (first | refine blk_drewN ?_ _ | refine blk_drew ?_ | refine blk_alloc ?_ _)); exact BK505.out)) : gb505 ≠ gb517)); have n9_ := aM ((by rw [hg]; exact Nat.ne_of_gt (blk_lt (g := gb505) (o := .cells #[.slice A0_0 l0_0.length c0_0] 26 (0, 0)) (by (with_reducible repeat (first | refine blk_drewN ?_ _ | refine blk_drew ?_ | refine blk_alloc ?_ _)); exact BK505.out)) : gb517 ≠ gb505)); clear HO_4; clear HO_5; clear HO515; clear BK505; clear HB; have HO_4 := n0_; have HO_5 := n1_; have HO515 := n2_; have BK505 := n3_; have HB := n4_; have BK517 := n5_; have GW517 := n6_; have GE517 := n7_; have NB505_517 := n8_; have NB517_505 := n9_; clear n0_ n1_ n2_ n3_ n4_ n5_ n6_ n7_ n8_ n9_; clear hb hbox hg; obtain ⟨Ao67, co67, eo67⟩ := Kd.R_slice HO515.out; subst eo67; have hnb68 := NB517_505.out; have hnc68 := NB505_517.out; have hcz69_0 : w66.cell? ⟨gb517, 0, none⟩ = some (.slice none 0 0) := (blk_cell BK517.out 0).trans rfl; have hfz69_0 := blk_frozen BK517.out 0; have hcz70_0 : w66.cell? ⟨gb505, 0, none⟩ = some (.slice A0_0 l0_0.length c0_0) := (blk_cell BK505.out 0).trans rfl; have hfz70_0 := blk_frozen BK505.out 0) | (go_at_call 79; (try simp only [i64_w]); (with_reducible refine (impl_Edge_79.calls k1 _ _ t513 _ _ l0_0 t518 _ ?side1 ?side2 ?side3 ?side4 A63.out).mono ?_); (case side1 => refine (Kd.R_reads' (e := 64) (base := w.heap.size) (ok := fun k_ => True) (n := t513.length) (c := co67) ?_).2.2; exact (by (with_reducible repeat (first | apply Kd.R_alloc | apply Kd.R_drewN | apply Kd.R_drew)); exact (Kd.R_mono (Kd.R_far (p := ⟨gb517, 0, none⟩) (Kd.R_types HO515.out BK517.out (by decide)) (fun _ hk => hk.2) (.slice Ao67 t513.length co67)) (fun _ h_ => h_.1)))); (case side2 => exact (Kd.R_reads' HO515.out).2.1); (case side3 => exact Kd.C_below HR0_0.out (by repeat (first | (with_reducible first | exact HB.out | apply below_alloc | apply pw_below_drewN | apply below_drew1 | refine below_set ?_ GE505.out | refine below_set ?_ GE517.out) | exact HB.out))); (case side4 => exact HC0_0.out); rintro e w' ⟨rfl, ⟨nd, rfl⟩⟩))
        go_ret2
        exact ⟨_, by first | rfl | (simp [errW_none, errW_some] <;> rfl) | (simp [*, errW_none, errW_some] <;> rfl), by (with_reducible repeat (first | apply Kd.R_alloc | apply Kd.R_drewN | apply Kd.R_drew)); exact Kd.R_mono (Kd.R_far (p := ⟨gb517, 0, none⟩) (Kd.R_types HO_5.out BK517.out (by decide)) (fun _ hk => hk.2) (.slice Ao67 t513.length co67)) (fun _ hk => trivial), by repeat (first | (with_reducible first | exact HB.out | apply below_alloc | apply pw_below_drewN | apply below_drew1 | refine below_set ?_ GE505.out | refine below_set ?_ GE517.out) | exact HB.out)⟩
       ·
        replace c62 := Bool.eq_false_iff.mpr c62
        subst c62
        have H1 : (some (x5_1, false)) = some (r1, r2) := by rw [if_neg (show ¬ (false = true) by decide)] at H; exact H
        clear H
        have H := H1
        clear H1
        simp only [Option.some.injEq, Prod.mk.injEq] at H
        obtain ⟨rfl, rfl⟩ := H
        obtain ⟨Ao71, co71, eo71⟩ := Kd.R_slice HO_5.out
        subst eo71
        go_wp2_with (first | ((with_reducible refine gate_callee (f := 14) rfl ?_); refine goesL_ (some 71) rfl rfl Try.func14 (by kernel_rfl) rfl #[.slice Ao71 x5_1.length co71] rfl (by (try simp only [List.map_toArray, List.map_cons, List.map_nil]); first | done | rfl | (simp only [List.length_drop, List.length_take]; rfl)) ?_; (with_reducible refine (impl_RadixOf.calls _ _ x5_1 t513 false _ ?side1 ?side2 A61.out).mono ?_); (case side1 => repeat (first | exact (Kd.R_reads' HO_5.out).2.2 | (with_reducible refine Kd.C_alloc ?_ _) | (with_reducible refine Kd.C_drewN ?_ _) | (with_reducible refine Kd.C_drew ?_))); (case side2 => exact (Kd.R_reads' HO_5.out).2.1); rintro e w72 ⟨v514, rfl, ho0, hb⟩; refine ⟨_, rfl, ?_⟩; have n0_ := aM (Kd.R_below (by (with_reducible repeat (first | apply Kd.R_alloc | apply Kd.R_drewN | apply Kd.R_drew)); exact HO_4.out) hb); have n1_ := aM (Kd.R_below (by (with_reducible repeat (first | apply Kd.R_alloc | apply Kd.R_drewN | apply Kd.R_drew)); exact HO_5.out) hb); have n2_ := aM (Kd.R_lower ho0 (below_size (by repeat (first | (with_reducible first | exact HB.out | apply below_alloc | apply pw_below_drewN | apply below_drew1 | refine below_set ?_ GE505.out) | exact HB.out)))); have n3_ := aM (blk_below (g := gb505) (o := .cells #[.slice A0_0 l0_0.length c0_0] 26 (0, 0)) (by (with_reducible repeat (first | refine blk_drewN ?_ _ | refine blk_drew ?_ | refine blk_alloc ?_ _)); exact BK505.out) hb); have n4_ := aM (below_step (by repeat (first | (with_reducible first | exact HB.out | apply below_alloc | apply pw_below_drewN | apply below_drew1 | refine below_set ?_ GE505.out) | exact HB.out)) hb); clear HO_4; clear HO_5; clear BK505; clear HB; have HO_4 := n0_; have HO_5 := n1_; have HO515 := n2_; have BK505 := n3_; have HB := n4_; clear n0_ n1_ n2_ n3_ n4_; (try clear hb); (try clear hb2); (try clear hk); (try clear hi); (try clear ho0)) | ((with_reducible refine gate_dst (N := 8) rfl ?_); (try (refine gate_guard (by rfl) ?_; dsimp only)); refine box_event ?hg (N := 8) ?hd (cs := #[.slice none 0 0]) (t := 26) ?hr ?_; (case hd => rfl); (case hg => rfl); (case hr => first | (go_simp; done) | (go_simp; rfl)); intro gb517 hg w73 hbox hb; have n0_ := aM (Kd.R_below (by (with_reducible repeat (first | apply Kd.R_alloc | apply Kd.R_drewN | apply Kd.R_drew)); exact HO_4.out) hb); have n1_ := aM (Kd.R_below (by (with_reducible repeat (first | apply Kd.R_alloc | apply Kd.R_drewN | apply Kd.R_drew)); exact HO_5.out) hb); have n2_ := aM (Kd.R_below (by (with_reducible repeat (first | apply Kd.R_alloc | apply Kd.R_drewN | apply Kd.R_drew)); exact HO515.out) hb); have n3_ := aM (blk_below (g := gb505) (o := .cells #[.slice A0_0 l0_0.length c0_0] 26 (0, 0)) (by (with_reducible repeat (first | refine blk_drewN ?_ _ | refine blk_drew ?_ | refine blk_alloc ?_ _)); exact BK505.out) hb); have n4_ := aM (below_step (by repeat (first | (with_reducible first | exact HB.out | apply below_alloc | apply pw_below_drewN | apply below_drew1 | refine below_set ?_ GE505.out) | exact HB.out)) hb); have n5_ := aM (hbox); have n6_ := aM ((by rw [hg]; exact (below_size (by repeat (first | (with_reducible first | exact HB.out | apply below_alloc | apply pw_below_drewN | apply below_drew1 | refine below_set ?_ GE505.out) | exact HB.out))) : w.heap.size ≤ gb517)); have n7_ := aM ((by rw [hg]; exact (below_size (by repeat (first | (with_reducible first | exact HB.out | apply below_alloc | apply pw_below_drewN | apply below_drew1 | refine below_set ?_ GE505.out) | exact HB.out))) : w.heap.size ≤ gb517)); have n8_ := aM ((by rw [hg]; exact Nat.ne_of_lt (blk_lt (g := gb505) (o := .cells #[.slice A0_0 l0_0.length c0_0] 26 (0, 0)) (by (with_reducible repeat (first | refine blk_drewN ?_ _ | refine blk_drew ?_ | refine blk_alloc ?_ _)); exact BK505.out)) : gb505 ≠ gb517)); have n9_ := aM ((by rw [hg]; exact Nat.ne_of_gt (blk_lt (g := gb505) (o := .cells #[.slice A0_0 l0_0.length c0_0] 26 (0, 0)) (by (with_reducible repeat (first | refine blk_drewN ?_ _ | refine blk_drew ?_ | refine blk_alloc ?_ _)); exact BK505.out)) : gb517 ≠ gb505)); clear HO_4; clear HO_5; clear HO515; clear BK505; clear HB; have HO_4 := n0_; have HO_5 := n1_; have HO515 := n2_; have BK505 := n3_; have HB := n4_; have BK517 := n5_; have GW517 := n6_; have GE517 := n7_; have NB505_517 := n8_; have NB517_505 := n9_; clear n0_ n1_ n2_ n3_ n4_ n5_ n6_ n7_ n8_ n9_; clear hb hbox hg; obtain ⟨Ao74, co74, eo74⟩ := Kd.R_slice HO515.out; subst eo74; have hnb75 := NB517_505.out; have hnc75 := NB505_517.out; have hcz76_0 : w73.cell? ⟨gb517, 0, none⟩ = some (.slice none 0 0) := (blk_cell BK517.out 0).trans rfl; have hfz76_0 := blk_frozen BK517.out 0))
        go_ret2
        exact ⟨_, by first | rfl | (simp [errW_none, errW_some] <;> rfl) | (simp [*, errW_none, errW_some] <;> rfl), by (with_reducible repeat (first | apply Kd.R_alloc | apply Kd.R_drewN | apply Kd.R_drew)); exact Kd.R_mono (Kd.R_far (p := ⟨gb517, 0, none⟩) (Kd.R_types HO_5.out BK517.out (by decide)) (fun _ hk => hk.2) (.slice Ao74 t513.length co74)) (fun _ hk => trivial), by repeat (first | (with_reducible first | exact HB.out | apply below_alloc | apply pw_below_drewN | apply below_drew1 | refine below_set ?_ GE505.out | refine below_set ?_ GE517.out) | exact HB.out)⟩
   ·
    rw [if_neg c5] at H
    exact absurd H (by simp)
  ·
   rw [if_neg c4] at H
   exact absurd H (by simp)
 ·
  replace c3 := Bool.eq_false_iff.mpr c3
  subst c3
  have H1 : (some (([] : List ByteArray), false)) = some (r1, r2) := by rw [if_neg (show ¬ (false = true) by decide)] at H; exact H
  clear H
  have H := H1
  clear H1
  simp only [Option.some.injEq, Prod.mk.injEq] at H
  obtain ⟨rfl, rfl⟩ := H
  go_enter Try.func54, Try.ntmps54
  go_wp2_with (first | ((with_reducible refine gate_dst (N := 1) rfl ?_); (try (refine gate_guard (by rfl) ?_; dsimp only)); refine box_event ?hg (N := 1) ?hd (cs := #[.slice A0_0 l0_0.length c0_0]) (t := 26) ?hr ?_; (case hd => rfl); (case hg => rfl); (case hr => first | (go_simp; done) | (go_simp; rfl)); intro gb505 hg w77 hbox hb; have n0_ := aM (below_step (by repeat (first | (with_reducible first | exact HB.out | apply below_alloc | apply pw_below_drewN | apply below_drew1) | exact HB.out)) hb); have n1_ := aM (hbox); have n2_ := aM ((by rw [hg]; exact (below_size (by repeat (first | (with_reducible first | exact HB.out | apply below_alloc | apply pw_below_drewN | apply below_drew1) | exact HB.out))) : w.heap.size ≤ gb505)); have n3_ := aM ((by rw [hg]; exact (below_size (by repeat (first | (with_reducible first | exact HB.out | apply below_alloc | apply pw_below_drewN | apply below_drew1) | exact HB.out))) : w.heap.size ≤ gb505)); clear HB; have HB := n0_; have BK505 := n1_; have GW505 := n2_; have GE505 := n3_; clear n0_ n1_ n2_ n3_; clear hb hbox hg; have hcz78_0 : w77.cell? ⟨gb505, 0, none⟩ = some (.slice A0_0 l0_0.length c0_0) := (blk_cell BK505.out 0).trans rfl; have hfz78_0 := blk_frozen BK505.out 0) | ((with_reducible refine gate_callee (f := 78) rfl ?_); refine goesL_ (some 13) rfl rfl Try.func78 (by kernel_rfl) rfl #[.int .i64 (l0_0.length : Int), .int .i64 1, .int .i64 81] rfl (by (try simp only [List.map_toArray, List.map_cons, List.map_nil]); first | done | rfl | (simp only [List.length_drop, List.length_take]; rfl)) ?_; (with_reducible refine (impl_within.calls (l0_0.length : Int) 1 81 false _ A2.out).mono ?_); rintro e w' ⟨rfl, ⟨nd, rfl⟩⟩; refine ⟨_, rfl, ?_⟩))
  go_ret2
  exact ⟨_, by first | rfl | (simp [errW_none, errW_some] <;> rfl) | (simp [*, errW_none, errW_some] <;> rfl), by first | exact Kd.R_nil _ _ _ _ _ | exact Kd.N_nil _ _ _ _ _ | exact Kd.V_nil _ _ _ _ _ | exact Kd.Q_nil _ _ _ _ _ | exact Kd.S_nil _ _ _ _ _, by repeat (first | (with_reducible first | exact HB.out | apply below_alloc | apply pw_below_drewN | apply below_drew1 | refine below_set ?_ GE505.out) | exact HB.out)⟩

def impl_PutName.f (k : Nat) (l0_0 : List (S64)) (a1 : ByteArray) : Option ((List (S64)) × Bool) := (impl_namesOf.f k l0_0).bind fun bt672 => (if bt672.2 = true then (if bt672.1.length < 8796093022208 then ((impl_RadixOf.f (bt672.1 ++ [a1])).bind fun bt679 => (some (bt679.1, bt679.2))) else (none)) else (some (([] : List (S64)), false)))
set_option maxHeartbeats 8000000 in
set_option maxRecDepth 100000 in
theorem impl_PutName.calls (k : Nat) (A0_0 : Option Addr) (c0_0 : Nat) (l0_0 : List (S64)) (a1 : ByteArray) (r1 : List (S64)) (r2 : Bool) (w : World) (hr0_0 : Kd.C k64 w A0_0 l0_0.length l0_0) (hc0_0 : l0_0.length ≤ c0_0) (h : impl_PutName.f k l0_0 a1 = some (r1, r2)) :
  Calls Try.prog 32 #[.agg #[.slice A0_0 l0_0.length c0_0], .string a1] w fun e w' => ∃ v0_ : Value, e = .returned (.tuple #[.agg #[v0_], .bool r2]) ∧ Kd.R k64 64 w' w.heap.size (fun _ => True) v0_ r1 ∧ Below w.heap.size w w' := by
 have hu26 := Try.underlying26
 have HR0_0 := aM hr0_0
 have HC0_0 := aM hc0_0
 clear hr0_0 hc0_0
 have HB := aM (Below.refl w.heap.size w)
 have H : ((impl_namesOf.f k l0_0).bind fun bt672 => (if bt672.2 = true then (if bt672.1.length < 8796093022208 then ((impl_RadixOf.f (bt672.1 ++ [a1])).bind fun bt679 => (some (bt679.1, bt679.2))) else (none)) else (some (([] : List (S64)), false)))) = some (r1, r2) := h
 clear h
 replace H := Option.bind_eq_some_iff.mp H
 obtain ⟨⟨t672, t675⟩, A30, H⟩ := H
 replace H : (if t675 = true then (if t672.length < 8796093022208 then ((impl_RadixOf.f (t672 ++ [a1])).bind fun bt679 => (some (bt679.1, bt679.2))) else (none)) else (some (([] : List (S64)), false))) = some (r1, r2) := H
 have A3 := aM A30
 clear A30
 by_cases c4 : t675 = true
 ·
  subst c4
  have H1 : (if t672.length < 8796093022208 then ((impl_RadixOf.f (t672 ++ [a1])).bind fun bt679 => (some (bt679.1, bt679.2))) else (none)) = some (r1, r2) := by rw [if_pos rfl] at H; exact H
  clear H
  have H := H1
  clear H1
  by_cases c5 : t672.length < 8796093022208
  ·
   rw [if_pos c5] at H
   have LMc5 := aM c5
   clear c5
   obtain ⟨y676, hy676⟩ : ∃ y_ : List ByteArray, y_ = (t672 ++ [a1]) := ⟨_, rfl⟩
   replace H : ((impl_RadixOf.f y676).bind fun bt679 => (some (bt679.1, bt679.2))) = some (r1, r2) := by first | (rw [hy676]; with_reducible exact H) | (have H2_ := (Option.bind_some _ _).symm.trans H; rw [hy676]; with_reducible exact H2_) | (have H2_ := (Option.bind_some _ _).symm.trans H; with_reducible exact H2_) | with_reducible exact H | (rw [hy676]; exact H) | exact H
   have Ny676 := aM hy676
   clear hy676
   replace H := Option.bind_eq_some_iff.mp H
   obtain ⟨⟨t679, t682⟩, A60, H⟩ := H
   replace H : (some (t679, t682)) = some (r1, r2) := H
   have A6 := aM A60
   clear A60
   simp only [Option.some.injEq, Prod.mk.injEq] at H
   obtain ⟨rfl, rfl⟩ := H
   go_enter Try.func32, Try.ntmps32
   go_wp2_with (first | ((with_reducible refine gate_dst (N := 2) rfl ?_); refine box_event ?hg (N := 2) ?hd (cs := #[.slice A0_0 l0_0.length c0_0]) (t := 26) ?hr ?_; (case hd => rfl); (case hg => rfl); (case hr => first | (go_simp; done) | (go_simp; rfl)); intro gb670 hg w7 hbox hb; have n0_ := aM (below_step (by repeat (first | (with_reducible first | exact HB.out | apply below_alloc | apply pw_below_drewN | apply below_drew1) | exact HB.out)) hb); have n1_ := aM (hbox); have n2_ := aM ((by rw [hg]; exact (below_size (by repeat (first | (with_reducible first | exact HB.out | apply below_alloc | apply pw_below_drewN | apply below_drew1) | exact HB.out))) : w.heap.size ≤ gb670)); have n3_ := aM ((by rw [hg]; exact (below_size (by repeat (first | (with_reducible first | exact HB.out | apply below_alloc | apply pw_below_drewN | apply below_drew1) | exact HB.out))) : w.heap.size ≤ gb670)); clear HB; have HB := n0_; have BK670 := n1_; have GW670 := n2_; have GE670 := n3_; clear n0_ n1_ n2_ n3_; clear hb hbox hg) | ((with_reducible refine gate_dst (N := 4) rfl ?_); refine box_event ?hg (N := 4) ?hd (cs := #[.slice none 0 0]) (t := 26) ?hr ?_; (case hd => rfl); (case hg => rfl); (case hr => first | (go_simp; done) | (go_simp; rfl)); intro gb671 hg w8 hbox hb; have n0_ := aM (blk_below (g := gb670) (o := .cells #[.slice A0_0 l0_0.length c0_0] 26 (0, 0)) (by (with_reducible repeat (first | refine blk_drewN ?_ _ | refine blk_drew ?_ | refine blk_alloc ?_ _)); exact BK670.out) hb); have n1_ := aM (below_step (by repeat (first | (with_reducible first | exact HB.out | apply below_alloc | apply pw_below_drewN | apply below_drew1 | refine below_set ?_ GE670.out) | exact HB.out)) hb); have n2_ := aM (hbox); have n3_ := aM ((by rw [hg]; exact (below_size (by repeat (first | (with_reducible first | exact HB.out | apply below_alloc | apply pw_below_drewN | apply below_drew1 | refine below_set ?_ GE670.out) | exact HB.out))) : w.heap.size ≤ gb671)); have n4_ := aM ((by rw [hg]; exact (below_size (by repeat (first | (with_reducible first | exact HB.out | apply below_alloc | apply pw_below_drewN | apply below_drew1 | refine below_set ?_ GE670.out) | exact HB.out))) : w.heap.size ≤ gb671)); have n5_ := aM ((by rw [hg]; exact Nat.ne_of_lt (blk_lt (g := gb670) (o := .cells #[.slice A0_0 l0_0.length c0_0] 26 (0, 0)) (by (with_reducible repeat (first | refine blk_drewN ?_ _ | refine blk_drew ?_ | refine blk_alloc ?_ _)); exact BK670.out)) : gb670 ≠ gb671)); have n6_ := aM ((by rw [hg]; exact Nat.ne_of_gt (blk_lt (g := gb670) (o := .cells #[.slice A0_0 l0_0.length c0_0] 26 (0, 0)) (by (with_reducible repeat (first | refine blk_drewN ?_ _ | refine blk_drew ?_ | refine blk_alloc ?_ _)); exact BK670.out)) : gb671 ≠ gb670)); clear BK670; clear HB; have BK670 := n0_; have HB := n1_; have BK671 := n2_; have GW671 := n3_; have GE671 := n4_; have NB670_671 := n5_; have NB671_670 := n6_; clear n0_ n1_ n2_ n3_ n4_ n5_ n6_; clear hb hbox hg; have hnb9 := NB670_671.out; have hnc9 := NB671_670.out; have hcz10_0 : w8.cell? ⟨gb670, 0, none⟩ = some (.slice A0_0 l0_0.length c0_0) := (blk_cell BK670.out 0).trans rfl; have hfz10_0 := blk_frozen BK670.out 0) | ((with_reducible refine gate_callee (f := 54) rfl ?_); refine goesL_ (some 10) rfl rfl Try.func54 (by kernel_rfl) rfl #[.agg #[.slice A0_0 l0_0.length c0_0]] rfl (by (try simp only [List.map_toArray, List.map_cons, List.map_nil]); first | done | rfl | (simp only [List.length_drop, List.length_take]; rfl)) ?_; (with_reducible refine (impl_namesOf.calls k _ _ l0_0 t672 true _ ?side1 ?side2 A3.out).mono ?_); (case side1 => repeat (first | exact (Kd.C_below HR0_0.out HB.out) | (with_reducible refine Kd.C_alloc ?_ _) | (with_reducible refine Kd.C_drewN ?_ _) | (with_reducible refine Kd.C_drew ?_))); (case side2 => exact HC0_0.out); rintro e w11 ⟨v673, rfl, ho0, hb⟩; refine ⟨_, rfl, ?_⟩; have n0_ := aM (Kd.R_lower ho0 (below_size (by repeat (first | (with_reducible first | exact HB.out | apply below_alloc | apply pw_below_drewN | apply below_drew1 | refine below_set ?_ GE670.out | refine below_set ?_ GE671.out) | exact HB.out)))); have n1_ := aM (blk_below (g := gb670) (o := .cells #[.slice A0_0 l0_0.length c0_0] 26 (0, 0)) (by (with_reducible repeat (first | refine blk_drewN ?_ _ | refine blk_drew ?_ | refine blk_alloc ?_ _)); exact BK670.out) hb); have n2_ := aM (blk_below (g := gb671) (o := .cells #[.slice none 0 0] 26 (0, 0)) (by (with_reducible repeat (first | refine blk_drewN ?_ _ | refine blk_drew ?_ | refine blk_alloc ?_ _)); exact BK671.out) hb); have n3_ := aM (below_step (by repeat (first | (with_reducible first | exact HB.out | apply below_alloc | apply pw_below_drewN | apply below_drew1 | refine below_set ?_ GE670.out | refine below_set ?_ GE671.out) | exact HB.out)) hb); clear BK670; clear BK671; clear HB; have HO674 := n0_; have BK670 := n1_; have BK671 := n2_; have HB := n3_; clear n0_ n1_ n2_ n3_; (try clear hb); (try clear hb2); (try clear hk); (try clear hi); (try clear ho0)) | ((with_reducible refine gate_builtin (b := .append) (xs := #[.tmp 16, .tmp 18]) rfl ?_); at_builtin; refine Kd.R_append Kd.string (w0 := w) w.heap.size rfl (.tmp 16) (.tmp 18) 22 9 (.string ⟨#[]⟩) 16 rfl Try.underlying22 info9 rfl (by decide) (by omega) v673 t672 a1 [.string a1] (fun _ => True) (fun _ => False) rfl rfl ?aP (fun _ hk => hk.elim) ?aF ?aO ?aB ?aS ?aL ?_; (case aP => exact rfl); (case aB => exact (by repeat (first | (with_reducible first | exact HB.out | apply below_alloc | apply pw_below_drewN | apply below_drew1 | refine below_set ?_ GE670.out | refine below_set ?_ GE671.out) | exact HB.out))); (case aF => exact (fun _ _ => trivial)); (case aO => exact (by (with_reducible repeat (first | apply Kd.R_alloc | apply Kd.R_drewN | apply Kd.R_drew)); exact HO674.out)); (case aS => exact (below_size (by repeat (first | (with_reducible first | exact HB.out | apply below_alloc | apply pw_below_drewN | apply below_drew1 | refine below_set ?_ GE670.out | refine below_set ?_ GE671.out) | exact HB.out)))); (case aL => have := LMc5.out; omega); intro v677 w12 ho hb hg hat; rw [← Ny676.out] at ho; have n0_ := aM (blk_grown (g := gb670) (o := .cells #[.slice A0_0 l0_0.length c0_0] 26 (0, 0)) (by (with_reducible repeat (first | refine blk_drewN ?_ _ | refine blk_drew ?_ | refine blk_alloc ?_ _)); exact BK670.out) hg (Kd.R_ne HO674.out BK670.out (by decide))); have n1_ := aM (blk_grown (g := gb671) (o := .cells #[.slice none 0 0] 26 (0, 0)) (by (with_reducible repeat (first | refine blk_drewN ?_ _ | refine blk_drew ?_ | refine blk_alloc ?_ _)); exact BK671.out) hg (Kd.R_ne HO674.out BK671.out (by decide))); have n2_ := aM (hb); have n3_ := aM (ho); clear BK670; clear BK671; clear HB; clear HO674; have BK670 := n0_; have BK671 := n1_; have HB := n2_; have HO678 := n3_; clear n0_ n1_ n2_ n3_; clear ho hb hg hat; obtain ⟨Ao13, co13, eo13⟩ := Kd.R_slice HO678.out; subst eo13) | ((with_reducible refine gate_callee (f := 14) rfl ?_); refine goesL_ (some 20) rfl rfl Try.func14 (by kernel_rfl) rfl #[.slice Ao13 y676.length co13] rfl (by (try simp only [List.map_toArray, List.map_cons, List.map_nil]); first | done | rfl | (simp only [List.length_drop, List.length_take]; rfl)) ?_; (with_reducible refine (impl_RadixOf.calls _ _ y676 t679 t682 _ ?side1 ?side2 A6.out).mono ?_); (case side1 => repeat (first | exact (Kd.R_reads' HO678.out).2.2 | (with_reducible refine Kd.C_alloc ?_ _) | (with_reducible refine Kd.C_drewN ?_ _) | (with_reducible refine Kd.C_drew ?_))); (case side2 => exact (Kd.R_reads' HO678.out).2.1); rintro e w14 ⟨v680, rfl, ho0, hb⟩; refine ⟨_, rfl, ?_⟩; have n0_ := aM (Kd.R_below (by (with_reducible repeat (first | apply Kd.R_alloc | apply Kd.R_drewN | apply Kd.R_drew)); exact HO678.out) hb); have n1_ := aM (Kd.R_lower ho0 (below_size (by repeat (first | (with_reducible first | exact HB.out | apply below_alloc | apply pw_below_drewN | apply below_drew1 | refine below_set ?_ GE670.out | refine below_set ?_ GE671.out) | exact HB.out)))); have n2_ := aM (blk_below (g := gb670) (o := .cells #[.slice A0_0 l0_0.length c0_0] 26 (0, 0)) (by (with_reducible repeat (first | refine blk_drewN ?_ _ | refine blk_drew ?_ | refine blk_alloc ?_ _)); exact BK670.out) hb); have n3_ := aM (blk_below (g := gb671) (o := .cells #[.slice none 0 0] 26 (0, 0)) (by (with_reducible repeat (first | refine blk_drewN ?_ _ | refine blk_drew ?_ | refine blk_alloc ?_ _)); exact BK671.out) hb); have n4_ := aM (below_step (by repeat (first | (with_reducible first | exact HB.out | apply below_alloc | apply pw_below_drewN | apply below_drew1 | refine below_set ?_ GE670.out | refine below_set ?_ GE671.out) | exact HB.out)) hb); clear HO678; clear BK670; clear BK671; clear HB; have HO678 := n0_; have HO681 := n1_; have BK670 := n2_; have BK671 := n3_; have HB := n4_; clear n0_ n1_ n2_ n3_ n4_; (try clear hb); (try clear hb2); (try clear hk); (try clear hi); (try clear ho0); obtain ⟨Ao15, co15, eo15⟩ := Kd.R_slice HO681.out; subst eo15; have hcz16_0 : w14.cell? ⟨gb671, 0, none⟩ = some (.slice none 0 0) := (blk_cell BK671.out 0).trans rfl; have hfz16_0 := blk_frozen BK671.out 0))
   refine bodyPost_ret (results_ct rfl _ _ gb671 26 #[.slice Ao15 t679.length co15] (0, 0) _ rfl (by (with_reducible repeat (first | refine blk_drewN ?_ _ | refine blk_drew ?_ | refine blk_alloc ?_ _)); refine blk_put (cs := #[.slice none 0 0]) ?_ 0 _ rfl; (with_reducible repeat (first | refine blk_drewN ?_ _ | refine blk_drew ?_ | refine blk_alloc ?_ _)); exact BK671.out) Try.underlying26 rfl (by kernel_rfl)) rfl ?_
   exact ⟨_, by first | rfl | (simp [errW_none, errW_some] <;> rfl) | (simp [*, errW_none, errW_some] <;> rfl), by (with_reducible repeat (first | apply Kd.R_alloc | apply Kd.R_drewN | apply Kd.R_drew)); exact Kd.R_mono (Kd.R_far (p := ⟨gb671, 0, none⟩) (Kd.R_types HO681.out BK671.out (by decide)) (fun _ hk => hk.2) (.slice Ao15 t679.length co15)) (fun _ hk => trivial), by repeat (first | (with_reducible first | exact HB.out | apply below_alloc | apply pw_below_drewN | apply below_drew1 | refine below_set ?_ GE670.out | refine below_set ?_ GE671.out) | exact HB.out)⟩
  ·
   rw [if_neg c5] at H
   exact absurd H (by simp)
 ·
  replace c4 := Bool.eq_false_iff.mpr c4
  subst c4
  have H1 : (some (([] : List (S64)), false)) = some (r1, r2) := by rw [if_neg (show ¬ (false = true) by decide)] at H; exact H
  clear H
  have H := H1
  clear H1
  simp only [Option.some.injEq, Prod.mk.injEq] at H
  obtain ⟨rfl, rfl⟩ := H
  go_enter Try.func32, Try.ntmps32
  go_wp2_with (first | ((with_reducible refine gate_dst (N := 2) rfl ?_); refine box_event ?hg (N := 2) ?hd (cs := #[.slice A0_0 l0_0.length c0_0]) (t := 26) ?hr ?_; (case hd => rfl); (case hg => rfl); (case hr => first | (go_simp; done) | (go_simp; rfl)); intro gb670 hg w17 hbox hb; have n0_ := aM (below_step (by repeat (first | (with_reducible first | exact HB.out | apply below_alloc | apply pw_below_drewN | apply below_drew1) | exact HB.out)) hb); have n1_ := aM (hbox); have n2_ := aM ((by rw [hg]; exact (below_size (by repeat (first | (with_reducible first | exact HB.out | apply below_alloc | apply pw_below_drewN | apply below_drew1) | exact HB.out))) : w.heap.size ≤ gb670)); have n3_ := aM ((by rw [hg]; exact (below_size (by repeat (first | (with_reducible first | exact HB.out | apply below_alloc | apply pw_below_drewN | apply below_drew1) | exact HB.out))) : w.heap.size ≤ gb670)); clear HB; have HB := n0_; have BK670 := n1_; have GW670 := n2_; have GE670 := n3_; clear n0_ n1_ n2_ n3_; clear hb hbox hg) | ((with_reducible refine gate_dst (N := 4) rfl ?_); refine box_event ?hg (N := 4) ?hd (cs := #[.slice none 0 0]) (t := 26) ?hr ?_; (case hd => rfl); (case hg => rfl); (case hr => first | (go_simp; done) | (go_simp; rfl)); intro gb671 hg w18 hbox hb; have n0_ := aM (blk_below (g := gb670) (o := .cells #[.slice A0_0 l0_0.length c0_0] 26 (0, 0)) (by (with_reducible repeat (first | refine blk_drewN ?_ _ | refine blk_drew ?_ | refine blk_alloc ?_ _)); exact BK670.out) hb); have n1_ := aM (below_step (by repeat (first | (with_reducible first | exact HB.out | apply below_alloc | apply pw_below_drewN | apply below_drew1 | refine below_set ?_ GE670.out) | exact HB.out)) hb); have n2_ := aM (hbox); have n3_ := aM ((by rw [hg]; exact (below_size (by repeat (first | (with_reducible first | exact HB.out | apply below_alloc | apply pw_below_drewN | apply below_drew1 | refine below_set ?_ GE670.out) | exact HB.out))) : w.heap.size ≤ gb671)); have n4_ := aM ((by rw [hg]; exact (below_size (by repeat (first | (with_reducible first | exact HB.out | apply below_alloc | apply pw_below_drewN | apply below_drew1 | refine below_set ?_ GE670.out) | exact HB.out))) : w.heap.size ≤ gb671)); have n5_ := aM ((by rw [hg]; exact Nat.ne_of_lt (blk_lt (g := gb670) (o := .cells #[.slice A0_0 l0_0.length c0_0] 26 (0, 0)) (by (with_reducible repeat (first | refine blk_drewN ?_ _ | refine blk_drew ?_ | refine blk_alloc ?_ _)); exact BK670.out)) : gb670 ≠ gb671)); have n6_ := aM ((by rw [hg]; exact Nat.ne_of_gt (blk_lt (g := gb670) (o := .cells #[.slice A0_0 l0_0.length c0_0] 26 (0, 0)) (by (with_reducible repeat (first | refine blk_drewN ?_ _ | refine blk_drew ?_ | refine blk_alloc ?_ _)); exact BK670.out)) : gb671 ≠ gb670)); clear BK670; clear HB; have BK670 := n0_; have HB := n1_; have BK671 := n2_; have GW671 := n3_; have GE671 := n4_; have NB670_671 := n5_; have NB671_670 := n6_; clear n0_ n1_ n2_ n3_ n4_ n5_ n6_; clear hb hbox hg; have hnb19 := NB670_671.out; have hnc19 := NB671_670.out; have hcz20_0 : w18.cell? ⟨gb670, 0, none⟩ = some (.slice A0_0 l0_0.length c0_0) := (blk_cell BK670.out 0).trans rfl; have hfz20_0 := blk_frozen BK670.out 0) | ((with_reducible refine gate_callee (f := 54) rfl ?_); refine goesL_ (some 10) rfl rfl Try.func54 (by kernel_rfl) rfl #[.agg #[.slice A0_0 l0_0.length c0_0]] rfl (by (try simp only [List.map_toArray, List.map_cons, List.map_nil]); first | done | rfl | (simp only [List.length_drop, List.length_take]; rfl)) ?_; (with_reducible refine (impl_namesOf.calls k _ _ l0_0 t672 false _ ?side1 ?side2 A3.out).mono ?_); (case side1 => repeat (first | exact (Kd.C_below HR0_0.out HB.out) | (with_reducible refine Kd.C_alloc ?_ _) | (with_reducible refine Kd.C_drewN ?_ _) | (with_reducible refine Kd.C_drew ?_))); (case side2 => exact HC0_0.out); rintro e w21 ⟨v673, rfl, ho0, hb⟩; refine ⟨_, rfl, ?_⟩; have n0_ := aM (Kd.R_lower ho0 (below_size (by repeat (first | (with_reducible first | exact HB.out | apply below_alloc | apply pw_below_drewN | apply below_drew1 | refine below_set ?_ GE670.out | refine below_set ?_ GE671.out) | exact HB.out)))); have n1_ := aM (blk_below (g := gb670) (o := .cells #[.slice A0_0 l0_0.length c0_0] 26 (0, 0)) (by (with_reducible repeat (first | refine blk_drewN ?_ _ | refine blk_drew ?_ | refine blk_alloc ?_ _)); exact BK670.out) hb); have n2_ := aM (blk_below (g := gb671) (o := .cells #[.slice none 0 0] 26 (0, 0)) (by (with_reducible repeat (first | refine blk_drewN ?_ _ | refine blk_drew ?_ | refine blk_alloc ?_ _)); exact BK671.out) hb); have n3_ := aM (below_step (by repeat (first | (with_reducible first | exact HB.out | apply below_alloc | apply pw_below_drewN | apply below_drew1 | refine below_set ?_ GE670.out | refine below_set ?_ GE671.out) | exact HB.out)) hb); clear BK670; clear BK671; clear HB; have HO674 := n0_; have BK670 := n1_; have BK671 := n2_; have HB := n3_; clear n0_ n1_ n2_ n3_; (try clear hb); (try clear hb2); (try clear hk); (try clear hi); (try clear ho0); have hcz22_0 : w21.cell? ⟨gb671, 0, none⟩ = some (.slice none 0 0) := (blk_cell BK671.out 0).trans rfl; have hfz22_0 := blk_frozen BK671.out 0))
  refine bodyPost_ret (results_ct rfl _ _ gb671 26 #[.slice none 0 0] (0, 0) _ rfl (by (with_reducible repeat (first | refine blk_drewN ?_ _ | refine blk_drew ?_ | refine blk_alloc ?_ _)); refine blk_put (cs := #[.slice none 0 0]) ?_ 0 _ rfl; (with_reducible repeat (first | refine blk_drewN ?_ _ | refine blk_drew ?_ | refine blk_alloc ?_ _)); exact BK671.out) Try.underlying26 rfl (by kernel_rfl)) rfl ?_
  exact ⟨_, by first | rfl | (simp [errW_none, errW_some] <;> rfl) | (simp [*, errW_none, errW_some] <;> rfl), by first | exact Kd.R_nil _ _ _ _ _ | exact Kd.N_nil _ _ _ _ _ | exact Kd.V_nil _ _ _ _ _ | exact Kd.Q_nil _ _ _ _ _ | exact Kd.S_nil _ _ _ _ _, by repeat (first | (with_reducible first | exact HB.out | apply below_alloc | apply pw_below_drewN | apply below_drew1 | refine below_set ?_ GE670.out | refine below_set ?_ GE671.out) | exact HB.out)⟩

end Go.Proofs.Ytcngebfcpobnnaa.PQ
end

/- Several texts in one: what the claim's last text rests on. No conditions. -/
import Derived.Test.YtppmigiknidjhaaMDn10
import Derived.Test.YtppmigiknidjhaaMDn1
import Derived.Test.YtppmigiknidjhaaMDn6
import Derived.Test.YtppmigiknidjhaaMDn9
import Derived.Test.YtppmigiknidjhaaMDn4
import Derived.Test.YtppmigiknidjhaaMDn8
section
namespace Go.Proofs.Ytppmigiknidjhaa.Suf
set_option linter.unusedVariables false
set_option linter.unusedSimpArgs false
open Go.RowKit Go.Sort Go.Lib Go.Shelf Go.Proofs.Ytppmigiknidjhaa.PQ Go.Proofs.YtppmigiknidjhaaW.PrintWords Go.Proofs.YtppmigiknidjhaaW.PrintLast Go.Proofs.YtppmigiknidjhaaW.PrintMore Go.Proofs.Ytppmigiknidjhaa.Srt
/-- What begins at a place. -/
def suf (s : ByteArray) (i : Nat) : ByteArray := s.extract i s.size
abbrev Pl (s : ByteArray) := Fin (s.size + 1)
def encP {s : ByteArray} (i : Pl s) : Value := .int .i64 (i.1 : Int)
def cfP {s : ByteArray} (x y : Pl s) : Int := cmpS (suf s x.1) (suf s y.1)
theorem ltP {s : ByteArray} (x y : Pl s) : ltOf cfP x y = ltS (suf s x.1) (suf s y.1) := cmp_lt _ _
theorem swoP {s : ByteArray} : SWO (ltOf (cfP (s := s))) where
 irrefl x := by rw [ltP]; exact ltS_irrefl _
 trans x y z h1 h2 := by rw [ltP] at *; exact ltS_trans h1 h2
 ntrans x y z h1 h2 := by rw [ltP] at *; exact ltS_ntrans h1 h2
theorem suf_size (s : ByteArray) (i : Nat) (h : i ≤ s.size) : (suf s i).size = s.size - i := by
 unfold suf
 rw [ByteArray.size_extract]
 omega
theorem totP {s : ByteArray} (x y : Pl s) (h1 : ltOf cfP x y = false) (h2 : ltOf cfP y x = false) : x = y := by
 rw [ltP] at *
 have e := congrArg ByteArray.size (ltS_tri h1 h2)
 rw [suf_size _ _ (by omega), suf_size _ _ (by omega)] at e
 apply Fin.ext
 omega
def places (s : ByteArray) : List (Pl s) := List.ofFn (fun i : Fin s.size => i.castSucc)
def sufP (s : ByteArray) : List (Pl s) := (places s).mergeSort (fun x y => !(ltOf cfP) y x)
/-- The places, in the order of what begins there. -/
def sufs (s : ByteArray) : List Int := (sufP s).map (fun i => (i.1 : Int))

set_option maxHeartbeats 400000 in
theorem closure (s : ByteArray) (x y : Pl s) (B : Nat) (W : World) (hc : W.cell? ⟨B, 0, none⟩ = some (.string s)) (hs : s.size ≤ 1048576) :
  Calls Try.prog 62 #[.int .i64 (x.1 : Int), .int .i64 (y.1 : Int), .pointer (some ⟨B, 0, none⟩)] W fun e w' => e = .returned (.int .i64 (cfP x y)) ∧ ∃ q, w' = W.drewN q := by
 have hx : x.1 ≤ s.size := by omega
 have hy : y.1 ≤ s.size := by omega
 unfold cfP suf
 generalize x.1 = a at *
 generalize y.1 = b at *
 go_enter Try.func62, Try.ntmps62
 go_wp2
 go_quiet ((go_at_call 63; exact Calls.quiet_of_same (compare_q _ _ _)))
 go_wp2
 go_ret
 exact ⟨rfl, _, rfl⟩
theorem lays (s : ByteArray) (B : Nat) (hs : s.size ≤ 1048576) (blk size : Nat) (w : World) (hc : w.cell? ⟨B, 0, none⟩ = some (.string s)) (hne : B ≠ blk) (hB : B < w.heap.size) :
  CmpLays1 Try.prog 62 #[.pointer (some ⟨B, 0, none⟩)] (encP (s := s)) cfP blk 0 size w := by
 intro m os dk hd x y
 have hc2 : (sortWorld (encP (s := s)) w blk 0 m dk os).cell? ⟨B, 0, none⟩ = some (.string s) := by
  have h1 : (putRow (encP (s := s)) (Sort.ahead w m) blk 0 dk).cell? ⟨B, 0, none⟩ = some (.string s) := by
   rw [cell?_putRow_other _ _ _ _ _ _ (.inl hne)]
   exact hc
  have hl : B < (putRow (encP (s := s)) (Sort.ahead w m) blk 0 dk).heap.size := by
   rw [size_putRow]
   exact hB
  exact (World.cell?_of_block (w := putRow (encP (s := s)) (Sort.ahead w m) blk 0 dk) (w' := sortWorld (encP (s := s)) w blk 0 m dk os) (a := ⟨B, 0, none⟩) (by
   show ((putRow (encP (s := s)) (Sort.ahead w m) blk 0 dk).heap ++ os)[B]? = _
   rw [Array.getElem?_append_left hl])).trans h1
 refine (closure s x y B _ hc2 hs).mono ?_
 rintro e w' ⟨rfl, q, rfl⟩
 exact ⟨rfl, q, #[], by rw [grow_empty]⟩

/-- The row before the sort, as far as it is filled. -/
def filled (s : ByteArray) (i : Nat) : List Int := (List.range i).map (fun j : Nat => (j : Int)) ++ List.replicate (s.size - i) 0
theorem filled_len (s : ByteArray) (i : Nat) (h : i ≤ s.size) : (filled s i).length = s.size := by
 unfold filled
 simp
 omega
theorem filled_set (s : ByteArray) (i : Nat) (h : i < s.size) : (filled s i).set i (i : Int) = filled s (i + 1) := by
 unfold filled
 rw [List.set_append_right _ _ (by simp)]
 rw [show s.size - i = (s.size - (i + 1)) + 1 by omega, List.replicate_succ, List.range_succ]
 simp
theorem filled_all (s : ByteArray) : filled s s.size = (places s).map (fun i => (i.1 : Int)) := by
 unfold filled places
 rw [Nat.sub_self, List.replicate_zero, List.append_nil]
 apply List.ext_getElem?
 intro j
 by_cases hj : j < s.size
 ·simp [hj]
 ·rw [List.getElem?_eq_none (by simp; omega), List.getElem?_eq_none (by simp; omega)]
theorem R_cast {s : ByteArray} {e : Nat} {W : World} {base : Nat} {ok : Nat → Prop} {v : Value} {zs : List (Pl s)} : (Kd.int .i64).R e W base ok v (zs.map (fun i => (i.1 : Int))) ↔ (Kd.scalar (encP (s := s)) (fun _ => rfl)).R e W base ok v zs := by
 have e1 : encs (Value.int .i64) (zs.map (fun i => (i.1 : Int))) = encs (encP (s := s)) zs := by
  rw [encs_map, encs_map, List.map_map]
  rfl
 constructor
 ·intro h
  have ho := Kd.own_of_R (h1 := fun _ => rfl) h
  rw [e1, List.length_map] at ho
  exact Kd.R_of_own ho h.1
 ·intro h
  have ho := Kd.own_of_R h
  rw [← e1] at ho
  refine Kd.R_of_own (h1 := fun _ => rfl) ?_ h.1
  rw [List.length_map]
  exact ho

theorem made (s : ByteArray) (w : World) (v : Value) (w4 : World) (h : (Kd.int .i64).R 3 w4 (w.alloc (.cells #[.string s] 9)).heap.size (fun _ => True) v (List.replicate (s.size : Int).toNat 0)) (hb : Below (w.alloc (.cells #[.string s] 9)).heap.size (w.alloc (.cells #[.string s] 9)) w4) :
  ∃ A c, Aside0 ((Kd.int .i64).R 3 w4 (w.heap.size + 1) (fun _ => True) (.slice A s.size c) (filled s 0)) ∧ v = .slice A s.size c ∧ s.size ≤ c ∧ Aside0 (Below w.heap.size w w4) ∧ Aside0 (w4.cell? ⟨w.heap.size, 0, none⟩ = some (.string s) ∧ w.heap.size + 1 ≤ w4.heap.size) := by
 have e : List.replicate (s.size : Int).toNat (0 : Int) = filled s 0 := by
  unfold filled
  simp
 rw [e] at h
 have hz : (w.alloc (.cells #[.string s] 9)).heap.size = w.heap.size + 1 := by simp
 rw [hz] at h hb
 obtain ⟨A, c, rfl, hl, hc⟩ := Kd.R_reads h
 rw [filled_len s 0 (by omega)] at h hl ⊢
 refine ⟨A, c, ⟨h⟩, rfl, hl, ⟨?_⟩, ⟨?_, ?_⟩⟩
 ·exact below_then (below_alloc (Below.refl _ _) _) (by rw [hz]; omega) (by rw [hz]; exact hb)
 ·refine (hb.cell (p := ⟨w.heap.size, 0, none⟩) (by simp)).trans ?_
  simp
 ·rw [← hz]
  exact hb.size

set_option maxHeartbeats 1000000 in
set_option maxRecDepth 100000 in
theorem calls (s : ByteArray) (w : World) (hs : s.size ≤ 1048576) :
  Calls Try.prog 38 #[.string s] w fun e w' => ∃ v0_ : Value, e = .returned (v0_) ∧ Kd.R (Kd.int .i64) 3 w' w.heap.size (fun _ => True) v0_ (sufs s) ∧ Below w.heap.size w w' := by
 have HS := aM hs
 have HB := aM (Below.refl w.heap.size w)
 have hs2 : (s.size : Int) ≤ 1048576 := by omega
 clear hs
 go_enter Try.func38, Try.ntmps38
 go_wp2_with (first | ((with_reducible refine gate_dst (N := 7) rfl ?_); refine Kd.R_make (Kd.int .i64) _ 3 rfl (N := 7) rfl 22 _ _ rfl (s.size : Int) rfl rfl Try.underlying22 (.int .i64 0) 8 info3 rfl (by decide) (by omega) 0 (ok := fun _ => True) (okp := fun _ => True) rfl (fun _ hk => hk) trivial (by omega) (by omega) (Below.refl _ _) (Nat.le_refl _) ?_; intro v182 w4 ho5 hb hg_ hnew_; clear hg_ hnew_; obtain ⟨A9, c9, HO, HA, HL, HB2, HC⟩ := made s w v182 w4 ho5 hb; clear ho5 hb; subst HA))
 have hA : s.size = 0 ∨ 0 < s.size := by omega
 go_loopg [10] s.size (fun kq v10 w' => ∃ i : Nat, v10 = .int .i64 (i : Int) ∧ i ≤ s.size ∧ kq = s.size - i ∧ Aside0 (Kd.R (Kd.int .i64) 3 w' (w.heap.size + 1) (fun _ => True) (.slice A9 s.size c9) (filled s i)) ∧ Aside0 (Below (w.heap.size + 1) w4 w'))
 case atStart => exact ⟨0, rfl, by omega, by omega, HO, ⟨Below.refl _ _⟩⟩
 case round =>
  obtain ⟨i, rfl, hi, hk, HO1, HB3⟩ := hrel
  by_cases hlt : i < s.size
  ·obtain ⟨g, cg, eg, gb, gl, cells, HG⟩ := Kd.R_form HO1.out (by rw [filled_len s i hi]; omega)
   rw [filled_len s i hi] at eg
   injection eg with e1 e2 e3
   subst e1 e3
   obtain ⟨hx, hf⟩ := Kd.R_celln 0 HO1.out (i : Int) (by omega) (by omega)
   rw [Int.toNat_natCast] at hx hf
   have HP := aM (Kd.R_putn HO1.out (i : Int) (i : Int))
   rw [Int.toNat_natCast, filled_set s i hlt] at HP
   have GB := aM gb
   clear HG gl gb
   have hi2 : (i : Int) < (s.size : Int) := by omega
   go_wp2
   go_roundg (s.size - (i + 1))
   case measure => omega
   case rel => exact ⟨i + 1, by go_num, by omega, by omega, ⟨HP.out⟩, ⟨HB3.out.setCell GB.out _⟩⟩
  ·obtain rfl : i = s.size := by omega
   have HC2 := aM ((HB3.out.cell (p := ⟨w.heap.size, 0, none⟩) (by simp)).trans HC.out.1)
   have HZ := aM (show w.heap.size < wr.heap.size from by have := HB3.out.size; have := HC.out.2; omega)
   have HBW := aM (show Below w.heap.size w wr from HB2.out.trans (HB3.out.mono (by omega)))
   have HC3 := HC
   clear HC HB3 HB2 HO
   rcases hA with hA | hA
   ·have HN : ∀ W : World, Calls Try.prog 61 #[.slice A9 s.size c9, (.func (.func 62) #[] #[.pointer (some ⟨w.heap.size, 0, none⟩)])] W fun e w' => e = .returned (.tuple #[]) ∧ w' = W := fun W => by
     rw [hA]
     exact Try.slices_SortFunc_none_f61 (α := Nat) A9 c9 _ W
    have HE := aM hA
    clear hA
    have HN2 := aM HN
    clear HN
    go_wp2_with (go_at_call 61; refine (HN2.out _).mono ?_; rintro e w' ⟨rfl, rfl⟩)
    go_ret
    refine ⟨_, rfl, ?_, HBW.out⟩
    have h2 := HO1.out
    rw [filled_all] at h2
    have h3 : places s = [] := List.eq_nil_of_length_eq_zero (by rw [← HE.out]; simp [places])
    rw [show sufs s = (places s).map (fun i => (i.1 : Int)) from by unfold sufs sufP; rw [h3, List.mergeSort_nil]]
    exact Kd.R_lower h2 (by omega)
   ·have h2 := HO1.out
    rw [filled_all] at h2
    have h3 := R_cast.1 h2
    have hpl : (places s).length = s.size := by simp [places]
    obtain ⟨g, cg, eg, gb, gl, cells, HG⟩ := Kd.R_form h3 (by omega)
    rw [hpl] at eg
    injection eg with e1 e2 e3
    subst e1 e3
    obtain ⟨hH, hgl, hgb⟩ := R_holds h3
    have HT := Try.slices_SortFunc_total_f61 (encP (s := s)) (fun _ => rfl) cfP swoP 62 #[.pointer (some ⟨w.heap.size, 0, none⟩)] g 0 c9 (places s).toArray wr
     (enters_of Try.func62 (by kernel_rfl) rfl) (lays s w.heap.size HS.out g _ wr HC2.out (by omega) HZ.out) hH hgl (by simp [hpl]; omega) totP
    rw [show (places s).toArray.size = s.size from by simp [hpl], show (places s).toArray.toList = places s from rfl] at HT
    have HT2 := aM HT
    have H3 := aM h3
    have GB := aM hgb
    clear HT h2 h3 hpl HG gl gb hH hgl hgb
    go_wp2_with (go_at_call 61; refine HT2.out.mono ?_; rintro e w' ⟨rfl, nq, os, hw⟩; have HW := aM hw; clear hw)
    go_ret
    have hw := HW.out
    subst hw
    refine ⟨_, rfl, ?_, HBW.out.grown (sort_grown nq os _) (by have := HZ.out; omega) (fun k hk => by injection hk with hk; have := GB.out; omega)⟩
    have h4 := R_sorted H3.out (ys := sufP s) (by unfold sufP; rw [List.length_mergeSort]) nq os
    exact Kd.R_lower (R_cast.2 h4) (by omega)
end Go.Proofs.Ytppmigiknidjhaa.Suf
end

section
namespace Go.Proofs.Ytppmigiknidjhaa.PQ
open Go.RowKit Go.Proofs.YtppmigiknidjhaaW.PrintWords Go.Proofs.YtppmigiknidjhaaW.PrintLast Go.Proofs.YtppmigiknidjhaaW.PrintMore
attribute [local go_sem] max2_int min2_int max_two min_two max_three min_three max_four min_four
set_option linter.unusedVariables false
set_option linter.unusedSimpArgs false
def impl_suffixes.f (a0 : ByteArray) : Option (List Int) := if a0.size ≤ 1048576 then some (Suf.sufs a0) else none
theorem impl_suffixes.calls (a0 : ByteArray) (r : List Int) (w : World) (h : impl_suffixes.f a0 = some r) :
  Calls Try.prog 38 #[.string a0] w fun e w' => ∃ v0_ : Value, e = .returned (v0_) ∧ Kd.R (Kd.int .i64) 3 w' w.heap.size (fun _ => True) v0_ r ∧ Below w.heap.size w w' := by
 unfold impl_suffixes.f at h
 split at h
 ·rename_i hs
  obtain rfl := Option.some.inj h
  exact Suf.calls a0 w hs
 ·cases h

end Go.Proofs.Ytppmigiknidjhaa.PQ
end

section
namespace Go.Proofs.Ytppmigiknidjhaa.Suf
set_option linter.unusedVariables false
open Go.RowKit Go.Sort Go.Proofs.Ytppmigiknidjhaa.PQ Go.Proofs.YtppmigiknidjhaaW.PrintWords Go.Proofs.YtppmigiknidjhaaW.PrintLast Go.Proofs.Ytppmigiknidjhaa.Pre Go.Proofs.Ytppmigiknidjhaa.Srt
theorem perm_sorted_eq {α : Type} {r : α → α → Prop} (has : ∀ a b, r a b → r b a → False) : ∀ {l1 l2 : List α}, l1.Perm l2 → l1.Pairwise r → l2.Pairwise r → l1 = l2
 | [], l2, h, _, _ => by
  have := h.length_eq
  exact (List.eq_nil_of_length_eq_zero this.symm).symm
 | a :: l1, [], h, _, _ => by
  have := h.length_eq
  cases this
 | a :: l1, b :: l2, h, h1, h2 => by
  rw [List.pairwise_cons] at h1 h2
  have hab : a = b := by
   have ha : a ∈ b :: l2 := h.mem_iff.1 List.mem_cons_self
   have hb : b ∈ a :: l1 := h.mem_iff.2 List.mem_cons_self
   rcases List.mem_cons.1 ha with e | ha
   ·exact e
   ·rcases List.mem_cons.1 hb with e | hb
    ·exact e.symm
    ·exact (has a b (h1.1 b hb) (h2.1 a ha)).elim
  subst hab
  rw [perm_sorted_eq has (List.Perm.cons_inv h) h1.2 h2.2]

/-- A place stands ahead of another one. -/
def ltI (s : ByteArray) (x y : Int) : Prop := ltS (suf s x.toNat) (suf s y.toNat) = true
theorem ltI_asymm (s : ByteArray) (a b : Int) (h1 : ltI s a b) (h2 : ltI s b a) : False := by
 have := ltS_asymm h1
 unfold ltI at h2
 rw [this] at h2
 cases h2
theorem ltI_tri (s : ByteArray) (x y : Nat) (hx : x ≤ s.size) (hy : y ≤ s.size) (h : ¬ ltI s x y) (hne : x ≠ y) : ltI s y x := by
 unfold ltI at *
 simp only [Int.toNat_natCast] at *
 cases h2 : ltS (suf s y) (suf s x) with
 | true => rfl
 | false =>
  have e := congrArg ByteArray.size (ltS_tri (Bool.eq_false_iff.2 h) h2)
  rw [suf_size _ _ hx, suf_size _ _ hy] at e
  omega
theorem ltI_trans (s : ByteArray) {a b c : Int} (h1 : ltI s a b) (h2 : ltI s b c) : ltI s a c := ltS_trans h1 h2

def upTo (n : Nat) : List Int := (List.range n).map (fun j : Nat => (j : Int))
theorem sufs_perm (s : ByteArray) : (sufs s).Perm (upTo s.size) := by
 have h := filled_all s
 unfold filled at h
 rw [Nat.sub_self, List.replicate_zero, List.append_nil] at h
 unfold upTo
 rw [h]
 exact (List.mergeSort_perm _ _).map _
theorem places_nodup (s : ByteArray) : (places s).Nodup := by
 unfold List.Nodup
 rw [List.pairwise_iff_getElem]
 intro i j hi hj hij e
 have := congrArg Fin.val e
 simp [places] at this
 omega
theorem takeWhile_all {α : Type} (p : α → Bool) : ∀ (l : List α), ∀ x ∈ l.takeWhile p, p x = true
 | [], x, h => by cases h
 | a :: l, x, h => by
  rw [List.takeWhile_cons] at h
  split at h
  ·rename_i hp
   rcases List.mem_cons.1 h with rfl | h
   ·exact hp
   ·exact takeWhile_all p l x h
  ·cases h
theorem sufs_sorted (s : ByteArray) : (sufs s).Pairwise (ltI s) := by
 unfold sufs
 rw [List.pairwise_map]
 have h1 : (sufP s).Pairwise (fun a b => (!(ltOf cfP) b a) = true) := by
  unfold sufP
  refine List.pairwise_mergeSort ?_ ?_ _
  ·intro a b c h1 h2
   simp only [Bool.not_eq_true'] at *
   exact swoP.ntrans _ _ _ h2 h1
  ·intro a b
   simp only [Bool.or_eq_true, Bool.not_eq_true']
   cases h : ltOf cfP b a with
   | false => exact .inl rfl
   | true =>
    right
    rw [ltP] at *
    exact ltS_asymm h
 have h2 : (sufP s).Nodup := (List.Perm.nodup_iff (List.mergeSort_perm _ _)).2 (places_nodup s)
 refine (List.Pairwise.and h1 h2).imp ?_
 rintro a b ⟨h3, h4⟩
 simp only [Bool.not_eq_true'] at h3
 rw [ltP] at h3
 unfold ltI
 rw [Int.toNat_natCast, Int.toNat_natCast]
 cases h5 : ltS (suf s a.1) (suf s b.1) with
 | true => rfl
 | false => exact absurd (totP a b (by rw [ltP]; exact h5) (by rw [ltP]; exact h3)) h4
theorem sufs_len (s : ByteArray) : (sufs s).length = s.size := by
 rw [(sufs_perm s).length_eq]
 simp [upTo]
theorem sufs_mem (s : ByteArray) : ∀ x ∈ sufs s, ∃ i : Nat, x = (i : Int) ∧ i < s.size := by
 intro x hx
 have := (sufs_perm s).mem_iff.1 hx
 unfold upTo at this
 obtain ⟨i, hi, rfl⟩ := List.mem_map.1 this
 exact ⟨i, rfl, by simpa using hi⟩

/-- The places from one on. -/
def fromOn (s : ByteArray) (i : Nat) : List Int := (List.range (s.size - i)).map (fun j : Nat => ((i + j : Nat) : Int))
theorem fromOn_cons (s : ByteArray) (i : Nat) (h : i < s.size) : fromOn s i = (i : Int) :: fromOn s (i + 1) := by
 unfold fromOn
 rw [show s.size - i = (s.size - (i + 1)) + 1 by omega, List.range_succ_eq_map, List.map_cons, List.map_map]
 congr 1
 apply List.map_congr_left
 intro j _
 show ((i + (j + 1) : Nat) : Int) = ((i + 1 + j : Nat) : Int)
 omega
theorem take_while_len {α : Type} (p : α → Bool) : ∀ l : List α, l.take (l.takeWhile p).length = l.takeWhile p ∧ l.drop (l.takeWhile p).length = l.dropWhile p
 | [] => by simp
 | a :: l => by
  have ih := take_while_len p l
  by_cases h : p a = true
  ·simp [h, ih]
  ·simp [h]
theorem spec_suf (s : ByteArray) (hs : s.size ≤ 1048576) : ∀ (n : Nat) (out : List Int), n ≤ s.size → out.Perm (fromOn s n) → out.Pairwise (ltI s) →
  Evt (fun k => spec_l12Suffixes.l0 k s out ((n : Int) - 1)) (sufs s) := by
 intro n
 induction n with
 | zero =>
  intro out hn hp ho
  refine Evt.step (fun k => spec_l12Suffixes.l0.eq_2 _ _ _ k) (Evt.neg (by omega) ((Evt.const _).eq ?_))
  refine perm_sorted_eq (ltI_asymm s) (hp.trans ?_) ho (sufs_sorted s)
  refine List.Perm.trans (List.Perm.of_eq ?_) (sufs_perm s).symm
  unfold fromOn upTo
  simp
 | succ n ih =>
  intro out hn hp ho
  have hlen : out.length = s.size - (n + 1) := by
   rw [hp.length_eq]
   simp [fromOn]
  have hmem : ∀ x ∈ out, ∃ i : Nat, x = (i : Int) ∧ n + 1 ≤ i ∧ i < s.size := by
   intro x hx
   have := hp.mem_iff.1 hx
   unfold fromOn at this
   obtain ⟨j, hj, rfl⟩ := List.mem_map.1 this
   have : j < s.size - (n + 1) := by simpa using hj
   exact ⟨n + 1 + j, rfl, by omega, by omega⟩
  have e0 : ((n + 1 : Nat) : Int) - 1 = (n : Int) := by omega
  rw [e0]
  let p : Int → Bool := fun x => ltS (suf s x.toNat) (suf s n)
  let out2 : List Int := out.takeWhile p ++ (n : Int) :: out.dropWhile p
  have hperm2 : out2.Perm (fromOn s n) := by
   rw [fromOn_cons s n (by omega)]
   refine List.Perm.trans List.perm_middle ?_
   rw [List.takeWhile_append_dropWhile]
   exact List.Perm.cons _ hp
  have hdrop : ∀ x ∈ out.dropWhile p, ltI s (n : Int) x := by
   cases hd : out.dropWhile p with
   | nil => intro x hx; cases hx
   | cons a r =>
    have hna : p a = false := by
     have := List.head?_dropWhile_not p out
     rw [hd] at this
     simpa using this
    have hsub : List.Sublist (a :: r) out := hd ▸ List.dropWhile_sublist p
    obtain ⟨i, rfl, hi1, hi2⟩ := hmem a (hsub.subset List.mem_cons_self)
    have h1 : ltI s (n : Int) (i : Int) := ltI_tri s i n (by omega) (by omega) (by
     unfold ltI
     rw [Int.toNat_natCast, Int.toNat_natCast]
     intro h
     have h2 : ltS (suf s ((i : Int)).toNat) (suf s n) = false := hna
     rw [Int.toNat_natCast, h] at h2
     cases h2) (by omega)
    intro x hx
    rcases List.mem_cons.1 hx with rfl | hx
    ·exact h1
    ·exact ltI_trans s h1 ((List.pairwise_cons.1 (ho.sublist hsub)).1 x hx)
  have hsort2 : out2.Pairwise (ltI s) := by
   refine List.pairwise_append.2 ⟨ho.sublist (List.takeWhile_sublist p), List.pairwise_cons.2 ⟨hdrop, ho.sublist (List.dropWhile_sublist p)⟩, ?_⟩
   intro a ha b hb
   have hpa : ltI s a (n : Int) := by
    have := takeWhile_all p out a ha
    unfold ltI
    rw [Int.toNat_natCast]
    exact this
   rcases List.mem_cons.1 hb with rfl | hb
   ·exact hpa
   ·exact ltI_trans s hpa (hdrop b hb)
  have hend := ih out2 (by omega) hperm2 hsort2
  have hbytes : ∀ i : Nat, i ≤ s.size → suf s i = s.extract ((i : Int)).toNat s.size := fun i _ => by rw [Int.toNat_natCast]; rfl
  -- the places behind it are passed over
  have key : ∀ (m j : Nat), j + m = out.length → (∀ t, t < j → ∃ h : t < out.length, p out[t] = true) → Evt (fun k => spec_l12Suffixes.l1 k s out (n : Int) (j : Int)) (sufs s) := by
   have fin : ∀ j : Nat, j = (out.takeWhile p).length → Evt (fun k => if (j : Int) ≤ (out.length : Int) then ((some (out.take ((j : Int)).toNat : List Int)).bind fun y102 => (if ([] : List Int).length + y102.length < 17592186044416 then ((some (([] : List Int) ++ y102 : List Int)).bind fun y106 => (if y106.length < 17592186044416 then ((some (y106 ++ [(n : Int)] : List Int)).bind fun y109 => ((some (out.drop ((j : Int)).toNat : List Int)).bind fun y112 => (if y109.length + y112.length < 17592186044416 then (spec_l12Suffixes.l0 k s (y109 ++ y112) (wrap64 ((n : Int) - 1))) else (none)))) else (none))) else (none))) else (none)) (sufs s) := by
    intro j hj
    have hjl : j ≤ out.length := by rw [hj]; exact (List.takeWhile_sublist p).length_le
    refine Evt.pos (by omega) (Evt.bsome ?_)
    rw [Int.toNat_natCast]
    obtain ⟨ht, hd⟩ := take_while_len p out
    rw [hj, ht, hd]
    have h1 : (out.takeWhile p).length ≤ out.length := (List.takeWhile_sublist p).length_le
    have h2 : (out.dropWhile p).length ≤ out.length := (List.dropWhile_sublist p).length_le
    refine Evt.pos (by simp; omega) (Evt.bsome (Evt.pos (by simp; omega) (Evt.bsome (Evt.bsome (Evt.pos (by simp; omega) ?_)))))
    rw [w64 (n := (n : Int) - 1) (by omega) (by omega)]
    refine Evt.congr (fun k => ?_) hend
    show spec_l12Suffixes.l0 k s ([] ++ out.takeWhile p ++ [(n : Int)] ++ out.dropWhile p) _ = spec_l12Suffixes.l0 k s out2 _
    congr 1
    simp [out2]
   have tw : ∀ j : Nat, j ≤ out.length → (∀ t, t < j → ∃ h : t < out.length, p out[t] = true) → (∀ h : j < out.length, p out[j] = false) → j = (out.takeWhile p).length := by
    intro j hj h1 h2
    have e : out = out.take j ++ out.drop j := (List.take_append_drop j out).symm
    have h3 : ∀ x ∈ out.take j, p x = true := by
     intro x hx
     obtain ⟨t, ht, rfl⟩ := List.mem_iff_getElem.1 hx
     have ht2 : t < j := by
      have := ht
      rw [List.length_take] at this
      omega
     obtain ⟨h, hp⟩ := h1 t ht2
     rw [List.getElem_take]
     exact hp
    have h4 : (out.takeWhile p) = out.take j := by
     conv => lhs; rw [e]
     rw [List.takeWhile_append_of_pos h3]
     have h5 : (out.drop j).takeWhile p = [] := by
      by_cases hlt : j < out.length
      ·rw [List.drop_eq_getElem_cons hlt, List.takeWhile_cons, if_neg (by rw [h2 hlt]; decide)]
      ·rw [List.drop_eq_nil_of_le (by omega)]
       rfl
     rw [h5, List.append_nil]
    rw [h4, List.length_take]
    omega
   intro m
   induction m with
   | zero =>
    intro j hj hpre
    refine Evt.step (fun k => spec_l12Suffixes.l1.eq_2 _ _ _ _ k) (Evt.neg (by omega) (Evt.pos (by omega) (fin j (tw j (by omega) hpre (fun h => by omega)))))
   | succ m ih2 =>
    intro j hj hpre
    have hlt : j < out.length := by omega
    obtain ⟨i, hi, hi1, hi2⟩ := hmem out[j] (List.getElem_mem hlt)
    refine Evt.step (fun k => spec_l12Suffixes.l1.eq_2 _ _ _ _ k) (Evt.pos (by omega) (Evt.pos (by omega) ?_))
    rw [Ints.rd_get out j hlt, hi]
    refine Evt.pos (by omega) (Evt.pos (by omega) (Evt.pos (by omega) (Evt.pos (by omega) ?_)))
    have ep : Op.bytesLess ((s.extract ((i : Int)).toNat s.size).toList) ((s.extract ((n : Int)).toNat s.size).toList) = p out[j] := by
     rw [hi]
     show _ = ltS (suf s ((i : Int)).toNat) (suf s n)
     rw [Int.toNat_natCast, Int.toNat_natCast]
     rfl
    rw [ep]
    by_cases hpj : p out[j] = true
    ·refine Evt.pos hpj ?_
     rw [w64 (n := (j : Int) + 1) (by omega) (by omega)]
     refine ih2 (j + 1) (by omega) (fun t ht => ?_)
     by_cases htj : t = j
     ·subst htj
      exact ⟨hlt, hpj⟩
     ·exact hpre t (by omega)
    ·exact Evt.neg hpj (fin j (tw j (by omega) hpre (fun h => by simpa using hpj)))
  refine Evt.step (fun k => spec_l12Suffixes.l0.eq_2 _ _ _ k) (Evt.pos (by omega) ?_)
  exact key out.length 0 (by omega) (fun t ht => by omega)
theorem spec_suffixes (s : ByteArray) (hs : s.size ≤ 1048576) : Evt (fun k => spec_l12Suffixes.f k s) (sufs s) := by
 unfold spec_l12Suffixes.f
 rw [w64 (by omega) (by omega)]
 refine spec_suf s hs s.size [] (by omega) ?_ List.Pairwise.nil
 unfold fromOn
 simp
theorem impl_suffixes_eq (s : ByteArray) (hs : s.size ≤ 1048576) : impl_suffixes.f s = some (sufs s) := by
 unfold impl_suffixes.f
 rw [if_pos hs]
end Go.Proofs.Ytppmigiknidjhaa.Suf
end

section
namespace Go.Proofs.Ytppmigiknidjhaa.PQ
open Go.RowKit Go.Proofs.YtppmigiknidjhaaW.PrintWords Go.Proofs.YtppmigiknidjhaaW.PrintLast Go.Proofs.YtppmigiknidjhaaW.PrintMore
attribute [local go_sem] max2_int min2_int max_two min_two max_three min_three max_four min_four
set_option linter.unusedVariables false
set_option linter.unusedSimpArgs false



def impl_SuffixesOf.f (a0 : ByteArray) : Option (List Int × Bool) := if (a0.size : Int) > 120 then (some (([] : List Int), false)) else ((impl_suffixes.f a0).bind fun t211 => (some (t211, true)))
set_option maxHeartbeats 8000000 in
set_option maxRecDepth 100000 in
theorem impl_SuffixesOf.calls (a0 : ByteArray) (r1 : List Int) (r2 : Bool) (w : World) (h : impl_SuffixesOf.f a0 = some (r1, r2)) :
  Calls Try.prog 15 #[.string a0] w fun e w' => ∃ v0_ : Value, e = .returned (.tuple #[v0_, .bool r2]) ∧ Kd.R (Kd.int .i64) 3 w' w.heap.size (fun _ => True) v0_ r1 ∧ Below w.heap.size w w' := by
 have HB := aM (Below.refl w.heap.size w)
 have H : (if (a0.size : Int) > 120 then (some (([] : List Int), false)) else ((impl_suffixes.f a0).bind fun t211 => (some (t211, true)))) = some (r1, r2) := h
 clear h
 by_cases c2 : (a0.size : Int) > 120
 ·rw [if_pos c2] at H
  have c2b0 : decide (120 < (a0.size : Int)) = true := decide_eq_true c2
  have c2b1 : decide (120 < a0.size) = true := decide_eq_true (by omega)
  clear c2
  simp only [Option.some.injEq, Prod.mk.injEq] at H
  obtain ⟨rfl, rfl⟩ := H
  go_enter Try.func15, Try.ntmps15
  go_wp2
  go_ret2
  exact ⟨_, eR, by first | exact Kd.R_nil _ _ _ _ _ | exact Kd.N_nil _ _ _ _ _ | exact Kd.V_nil _ _ _ _ _ | exact Kd.Q_nil _ _ _ _ _ | exact Kd.S_nil _ _ _ _ _, by repeat (first | (with_reducible first | exact HB.out | apply below_alloc | apply pw_below_drewN | apply below_drew1) | exact HB.out)⟩
 ·rw [if_neg c2] at H
  have c2b0 : decide (120 < (a0.size : Int)) = false := decide_eq_false c2
  have c2b1 : decide (120 < a0.size) = false := decide_eq_false (by omega)
  clear c2
  replace H := Option.bind_eq_some_iff.mp H
  obtain ⟨t211, A30, H⟩ := H
  replace H : (some (t211, true)) = some (r1, r2) := H
  have A3 := aM A30
  clear A30
  simp only [Option.some.injEq, Prod.mk.injEq] at H
  obtain ⟨rfl, rfl⟩ := H
  go_enter Try.func15, Try.ntmps15
  go_wp2_with (first | ((with_reducible refine gate_callee (f := 38) rfl ?_); refine gL 8 Try.func38 #[.string a0] ?_; (with_reducible refine (impl_suffixes.calls a0 t211 _ A3.out).mono ?_); rintro e w4 ⟨v212, rfl, ho0, hb⟩; refine ⟨_, rfl, ?_⟩; have n0_ := aM (Kd.R_lower ho0 (below_size (by repeat (first | (with_reducible first | exact HB.out | apply below_alloc | apply pw_below_drewN | apply below_drew1) | exact HB.out)))); have n1_ := aM (below_step (by repeat (first | (with_reducible first | exact HB.out | apply below_alloc | apply pw_below_drewN | apply below_drew1) | exact HB.out)) hb); clear HB; have HO213 := n0_; have HB := n1_; clear n0_ n1_; (try clear hb); (try clear hb2); (try clear hk); (try clear hi); (try clear ho0)))
  go_ret2
  exact ⟨_, eR, by (with_reducible repeat (first | apply Kd.R_alloc | apply Kd.R_drewN | apply Kd.R_drew)); exact HO213.out, by repeat (first | (with_reducible first | exact HB.out | apply below_alloc | apply pw_below_drewN | apply below_drew1) | exact HB.out)⟩

def impl_DistinctIn.l0 : Nat → ByteArray → List Int → Int → List Int → Int → Int → Option (Int × Bool)
 | 0, _, _, _, _, _, _ => none
 | k + 1, x0, x4, x6, x18, x19, x20 => if x20 < x19 then (if 0 ≤ x20 then (if x20 < (x18.length : Int) then (if x20 < (x4.length : Int) then (impl_DistinctIn.l0 k x0 x4 (wrap64 (x6 + (wrap64 ((wrap64 ((x0.size : Int) - (rd x4 x20))) - (rd x18 x20))))) x18 x19 (wrap64 (x20 + 1))) else (none)) else (none)) else (none)) else (some (x6, true))
def impl_DistinctIn.f (k : Nat) (a0 : ByteArray) : Option (Int × Bool) := (impl_SuffixesOf.f a0).bind fun bt221 => (if bt221.2 = true then ((impl_commons.f k a0 bt221.1).bind fun t225 => (impl_DistinctIn.l0 k a0 bt221.1 0 t225 (t225.length : Int) 0)) else (some (0, false)))
set_option maxHeartbeats 8000000 in
set_option maxRecDepth 100000 in
theorem impl_DistinctIn.calls (k : Nat) (a0 : ByteArray) (r1 : Int) (r2 : Bool) (w : World) (h : impl_DistinctIn.f k a0 = some (r1, r2)) :
  Calls Try.prog 20 #[.string a0] w fun e w' => e = .returned (.tuple #[.int .i64 r1, .bool r2]) ∧ Below w.heap.size w w' := by
 have HB := aM (Below.refl w.heap.size w)
 have H : ((impl_SuffixesOf.f a0).bind fun bt221 => (if bt221.2 = true then ((impl_commons.f k a0 bt221.1).bind fun t225 => (impl_DistinctIn.l0 k a0 bt221.1 0 t225 (t225.length : Int) 0)) else (some (0, false)))) = some (r1, r2) := h
 clear h
 replace H := Option.bind_eq_some_iff.mp H
 obtain ⟨⟨t221, t222⟩, A20, H⟩ := H
 replace H : (if t222 = true then ((impl_commons.f k a0 t221).bind fun t225 => (impl_DistinctIn.l0 k a0 t221 0 t225 (t225.length : Int) 0)) else (some (0, false))) = some (r1, r2) := H
 have A2 := aM A20
 clear A20
 by_cases c3 : t222 = true
 ·subst c3
  have H1 : ((impl_commons.f k a0 t221).bind fun t225 => (impl_DistinctIn.l0 k a0 t221 0 t225 (t225.length : Int) 0)) = some (r1, r2) := by rw [if_pos rfl] at H; exact H
  clear H
  have H := H1
  clear H1
  replace H := Option.bind_eq_some_iff.mp H
  obtain ⟨t225, A40, H⟩ := H
  replace H : (impl_DistinctIn.l0 k a0 t221 0 t225 (t225.length : Int) 0) = some (r1, r2) := H
  have A4 := aM A40
  clear A40
  have H' := aM H
  clear H
  go_enter Try.func20, Try.ntmps20
  go_wp2_with (first | ((with_reducible refine gate_callee (f := 15) rfl ?_); refine gL 11 Try.func15 #[.string a0] ?_; (with_reducible refine (impl_SuffixesOf.calls a0 t221 true _ A2.out).mono ?_); rintro e w5 ⟨v223, rfl, ho0, hb⟩; refine ⟨_, rfl, ?_⟩; have n0_ := aM (Kd.R_lower ho0 (below_size (by repeat (first | (with_reducible first | exact HB.out | apply below_alloc | apply pw_below_drewN | apply below_drew1) | exact HB.out)))); have n1_ := aM (below_step (by repeat (first | (with_reducible first | exact HB.out | apply below_alloc | apply pw_below_drewN | apply below_drew1) | exact HB.out)) hb); clear HB; have HO224 := n0_; have HB := n1_; clear n0_ n1_; (try clear hb); (try clear hb2); (try clear hk); (try clear hi); (try clear ho0); obtain ⟨Ao6, co6, eo6⟩ := Kd.R_slice HO224.out; subst eo6) | ((with_reducible refine gate_callee (f := 40) rfl ?_); refine gL 18 Try.func40 #[.string a0, .slice Ao6 t221.length co6] ?_; (with_reducible refine (impl_commons.calls k a0 _ _ t221 t225 _ ?side1 ?side2 A4.out).mono ?_); (case side1 => repeat (first | exact (Kd.R_reads' HO224.out).2.2 | (with_reducible refine Kd.C_alloc ?_ _) | (with_reducible refine Kd.C_drewN ?_ _) | (with_reducible refine Kd.C_drew ?_))); (case side2 => exact (Kd.R_reads' HO224.out).2.1); rintro e w7 ⟨v226, rfl, ho0, hb⟩; refine ⟨_, rfl, ?_⟩; have n0_ := aM (Kd.R_elder' (by (with_reducible repeat (first | apply Kd.R_alloc | apply Kd.R_drewN | apply Kd.R_drew)); exact HO224.out) (Kd.R_base ho0) hb); have n1_ := aM (Kd.R_lower (Kd.R_new' ho0 (Kd.R_lt (by (with_reducible repeat (first | apply Kd.R_alloc | apply Kd.R_drewN | apply Kd.R_drew)); exact HO224.out))) (below_size (by repeat (first | (with_reducible first | exact HB.out | apply below_alloc | apply pw_below_drewN | apply below_drew1) | exact HB.out)))); have n2_ := aM (below_step (by repeat (first | (with_reducible first | exact HB.out | apply below_alloc | apply pw_below_drewN | apply below_drew1) | exact HB.out)) hb); clear HO224; clear HB; have HO224 := n0_; have HO227 := n1_; have HB := n2_; clear n0_ n1_ n2_; (try clear hb); (try clear hb2); (try clear hk); (try clear hi); (try clear ho0); obtain ⟨Ao8, co8, eo8⟩ := Kd.R_slice HO227.out; subst eo8))
  go_loopg [6, 20] k (fun kq v6 v20 w' => ∃ (x6_1 : Int) (x20_1 : Int), v6 = .int .i64 x6_1 ∧ v20 = .int .i64 x20_1 ∧ Aside0 (impl_DistinctIn.l0 kq a0 t221 x6_1 t225 (t225.length : Int) x20_1 = some (r1, r2)) ∧ Aside0 (kq ≤ k) ∧ Aside0 (Kd.R (Kd.int .i64) 3 w' w.heap.size (fun k_ => some k_ ≠ ((.slice Ao8 t225.length co8) : Value).ownBlock) (.slice Ao6 t221.length co6) t221) ∧ Aside0 (Kd.R (Kd.int .i64) 3 w' w.heap.size (fun k_ => some k_ ≠ ((.slice Ao6 t221.length co6) : Value).ownBlock) (.slice Ao8 t225.length co8) t225) ∧ Aside0 (Below w.heap.size w w'))
  case atStart => exact ⟨(0), (0), (by first | rfl | (simp; done) | (simp [*]; done)), (by first | rfl | (simp; done) | (simp [*]; done)), H', ⟨Nat.le_refl _⟩, ⟨by (with_reducible repeat (first | apply Kd.R_alloc | apply Kd.R_drewN | apply Kd.R_drew)); exact Kd.R_mono HO224.out (fun _ hk => hk.2)⟩, ⟨by (with_reducible repeat (first | apply Kd.R_alloc | apply Kd.R_drewN | apply Kd.R_drew)); exact Kd.R_mono HO227.out (fun _ hk => hk.2)⟩, ⟨by repeat (first | (with_reducible first | exact HB.out | apply below_alloc | apply pw_below_drewN | apply below_drew1) | exact HB.out)⟩⟩
  case round =>
   clear H'
   try clear c1
   try clear c2
   try clear p2
   try clear c3
   try clear c4
   obtain ⟨x6_1, x20_1, rfl, rfl, HA, HK1, HO_4, HO_18, HB⟩ := hrel
   cases gk with
   | zero => exact absurd HA.out (by simp [impl_DistinctIn.l0])
   | succ k1 =>
    have H := HA.out
    clear HA
    simp only [impl_DistinctIn.l0] at H
    by_cases c9 : x20_1 < (t225.length : Int)
    ·rw [if_pos c9] at H
     have c9b0 : decide (x20_1 < (t225.length : Int)) = true := decide_eq_true c9
     clear c9
     by_cases c10 : 0 ≤ x20_1
     ·rw [if_pos c10] at H
      have c10b0 : decide (0 ≤ x20_1) = true := decide_eq_true c10
      clear c10
      by_cases c11 : x20_1 < (t225.length : Int)
      ·rw [if_pos c11] at H
       have c11b0 : decide (x20_1 < (t225.length : Int)) = true := decide_eq_true c11
       clear c11
       by_cases c12 : x20_1 < (t221.length : Int)
       ·rw [if_pos c12] at H
        have c12b0 : decide (x20_1 < (t221.length : Int)) = true := decide_eq_true c12
        clear c12
        have H' := aM H
        clear H
        have p228 : 0 ≤ (x20_1 : Int) := dT
        have q228 : x20_1 < (t225.length : Int) := dT
        obtain ⟨ad228, e228, hx228_0⟩ := Kd.at_int (Kd.R_reads' HO_18.out).2.2 x20_1 p228 q228
        cases e228
        replace p228 := eq_true p228
        replace q228 := eq_true q228
        have p229 : 0 ≤ (x20_1 : Int) := dT
        have q229 : x20_1 < (t221.length : Int) := dT
        obtain ⟨ad229, e229, hx229_0⟩ := Kd.at_int (Kd.R_reads' HO_4.out).2.2 x20_1 p229 q229
        cases e229
        replace p229 := eq_true p229
        replace q229 := eq_true q229
        go_wp2
        go_roundg k1
        case measure => have := HK1.out; omega
        case rel => exact ⟨(wrap64 (x6_1 + (wrap64 ((wrap64 ((a0.size : Int) - (rd t221 x20_1))) - (rd t225 x20_1))))), (wrap64 (x20_1 + 1)), (by first | rfl | (simp; done) | (simp [*]; done)), (by first | rfl | (simp; done) | (simp [*]; done)), H', ⟨by have := HK1.out; omega⟩, ⟨by (with_reducible repeat (first | apply Kd.R_alloc | apply Kd.R_drewN | apply Kd.R_drew)); exact HO_4.out⟩, ⟨by (with_reducible repeat (first | apply Kd.R_alloc | apply Kd.R_drewN | apply Kd.R_drew)); exact HO_18.out⟩, ⟨by repeat (first | (with_reducible first | exact HB.out | apply below_alloc | apply pw_below_drewN | apply below_drew1) | exact HB.out)⟩⟩
       ·rw [if_neg c12] at H
        exact absurd H (by simp)
      ·rw [if_neg c11] at H
       exact absurd H (by simp)
     ·rw [if_neg c10] at H
      exact absurd H (by simp)
    ·rw [if_neg c9] at H
     have c9b0 : decide (x20_1 < (t225.length : Int)) = false := decide_eq_false c9
     clear c9
     simp only [Option.some.injEq, Prod.mk.injEq] at H
     obtain ⟨rfl, rfl⟩ := H
     go_wp2
     go_ret2
     exact ⟨eR, by repeat (first | (with_reducible first | exact HB.out | apply below_alloc | apply pw_below_drewN | apply below_drew1) | exact HB.out)⟩
 ·replace c3 := Bool.eq_false_iff.mpr c3
  subst c3
  have H1 : (some (0, false)) = some (r1, r2) := by rw [if_neg (show ¬ (false = true) by decide)] at H; exact H
  clear H
  have H := H1
  clear H1
  simp only [Option.some.injEq, Prod.mk.injEq] at H
  obtain ⟨rfl, rfl⟩ := H
  go_enter Try.func20, Try.ntmps20
  go_wp2_with (first | ((with_reducible refine gate_callee (f := 15) rfl ?_); refine gL 11 Try.func15 #[.string a0] ?_; (with_reducible refine (impl_SuffixesOf.calls a0 t221 false _ A2.out).mono ?_); rintro e w13 ⟨v223, rfl, ho0, hb⟩; refine ⟨_, rfl, ?_⟩; have n0_ := aM (Kd.R_lower ho0 (below_size (by repeat (first | (with_reducible first | exact HB.out | apply below_alloc | apply pw_below_drewN | apply below_drew1) | exact HB.out)))); have n1_ := aM (below_step (by repeat (first | (with_reducible first | exact HB.out | apply below_alloc | apply pw_below_drewN | apply below_drew1) | exact HB.out)) hb); clear HB; have HO224 := n0_; have HB := n1_; clear n0_ n1_; (try clear hb); (try clear hb2); (try clear hk); (try clear hi); (try clear ho0)))
  go_ret2
  exact ⟨eR, by repeat (first | (with_reducible first | exact HB.out | apply below_alloc | apply pw_below_drewN | apply below_drew1) | exact HB.out)⟩

end Go.Proofs.Ytppmigiknidjhaa.PQ
end

section
namespace Go.Proofs.Ytppmigiknidjhaa.Suf
set_option linter.unusedVariables false
open Go.RowKit Go.Proofs.Ytppmigiknidjhaa.PQ Go.Proofs.YtppmigiknidjhaaW.PrintWords Go.Proofs.YtppmigiknidjhaaW.PrintLast Go.Proofs.Ytppmigiknidjhaa.Pre Go.Proofs.Ytppmigiknidjhaa.Srt
/-- How many bytes two lists have in common at their beginnings. -/
def comL : List Int → List Int → Nat
 | x :: xs, y :: ys => if x = y then comL xs ys + 1 else 0
 | _, _ => 0
theorem comL_le : ∀ a b : List Int, comL a b ≤ a.length ∧ comL a b ≤ b.length
 | [], _ => by simp [comL]
 | _ :: _, [] => by simp [comL]
 | x :: xs, y :: ys => by
  have := comL_le xs ys
  unfold comL
  split
  ·simp only [List.length_cons]
   omega
  ·simp
def com (a b : ByteArray) : Nat := comL (bytesOf a) (bytesOf b)
theorem com_le (a b : ByteArray) : com a b ≤ a.size ∧ com a b ≤ b.size := by
 have := comL_le (bytesOf a) (bytesOf b)
 rw [bytesOf_length, bytesOf_length] at this
 exact this
theorem drop_bt (a : ByteArray) (i : Nat) (h : i < a.size) : (bytesOf a).drop i = bt a (i : Int) :: (bytesOf a).drop (i + 1) := by
 rw [List.drop_eq_getElem_cons (by rw [bytesOf_length]; exact h), Byt.bytesOf_get a i h]
theorem drop_end (a : ByteArray) (i : Nat) (h : a.size ≤ i) : (bytesOf a).drop i = [] := by
 rw [List.drop_eq_nil_iff, bytesOf_length]
 exact h
theorem specCom_ev (a b : ByteArray) (ha : a.size ≤ 1048576) : Evt (fun k => spec_l12Common.f k a b) (com a b : Int) := by
 unfold spec_l12Common.f
 have key : ∀ (m i : Nat), i + m = a.size → Evt (fun k => spec_l12Common.l0 k a b (i : Int)) ((i + comL ((bytesOf a).drop i) ((bytesOf b).drop i) : Nat) : Int) := by
  intro m
  induction m with
  | zero =>
   intro i hi
   rw [drop_end a i (by omega)]
   refine Evt.step (fun k => spec_l12Common.l0.eq_2 _ _ _ k) (Evt.neg (by omega) ((Evt.const _).eq ?_))
   simp [comL]
  | succ m ih =>
   intro i hi
   refine Evt.step (fun k => spec_l12Common.l0.eq_2 _ _ _ k) (Evt.pos (by omega) ?_)
   rw [drop_bt a i (by omega)]
   by_cases hb : i < b.size
   ·rw [drop_bt b i hb]
    refine Evt.pos (by omega) (Evt.pos (by omega) ?_)
    simp only [comL]
    by_cases he : bt a (i : Int) = bt b (i : Int)
    ·rw [if_pos he]
     refine Evt.pos he ?_
     rw [w64 (n := (i : Int) + 1) (by omega) (by omega)]
     refine (ih (i + 1) (by omega)).eq ?_
     omega
    ·rw [if_neg he]
     exact Evt.neg he ((Evt.const _).eq (by simp))
   ·rw [drop_end b i (by omega)]
    exact Evt.neg (by omega) ((Evt.const _).eq (by simp [comL]))
 refine (key a.size 0 (by omega)).eq ?_
 simp [com]
theorem implCom_ev (a b : ByteArray) (ha : a.size ≤ 1048576) : Evt (fun k => impl_common.f k a b) (com a b : Int) := by
 unfold impl_common.f
 have key : ∀ (m i : Nat), i + m = a.size → Evt (fun k => impl_common.l0 k a b (i : Int)) ((i + comL ((bytesOf a).drop i) ((bytesOf b).drop i) : Nat) : Int) := by
  intro m
  induction m with
  | zero =>
   intro i hi
   rw [drop_end a i (by omega)]
   refine Evt.step (fun k => impl_common.l0.eq_2 _ _ _ k) (Evt.neg (by omega) ((Evt.const _).eq ?_))
   simp [comL]
  | succ m ih =>
   intro i hi
   refine Evt.step (fun k => impl_common.l0.eq_2 _ _ _ k) (Evt.pos (by omega) ?_)
   rw [drop_bt a i (by omega)]
   by_cases hb : i < b.size
   ·rw [drop_bt b i hb]
    refine Evt.pos (by omega) (Evt.pos (by omega) ?_)
    simp only [comL]
    by_cases he : bt a (i : Int) = bt b (i : Int)
    ·rw [if_pos he]
     refine Evt.pos he ?_
     rw [w64 (n := (i : Int) + 1) (by omega) (by omega)]
     refine (ih (i + 1) (by omega)).eq ?_
     omega
    ·rw [if_neg he]
     exact Evt.neg he ((Evt.const _).eq (by simp))
   ·rw [drop_end b i (by omega)]
    exact Evt.neg (by omega) ((Evt.const _).eq (by simp [comL]))
 refine (key a.size 0 (by omega)).eq ?_
 simp [com]

/-- What a place has in common with the one ahead. -/
def comAt (s : ByteArray) (l : List Int) (i : Nat) : Int := if i = 0 then 0 else (com (suf s (l.getD (i - 1) 0).toNat) (suf s (l.getD i 0).toNat) : Int)
def coms (s : ByteArray) (l : List Int) : List Int := (List.range l.length).map (comAt s l)
def Within (s : ByteArray) (l : List Int) : Prop := ∀ x ∈ l, ∃ i : Nat, x = (i : Int) ∧ i ≤ s.size
theorem within_get {s : ByteArray} {l : List Int} (h : Within s l) (i : Nat) (hi : i < l.length) : 0 ≤ rd l (i : Int) ∧ rd l (i : Int) ≤ (s.size : Int) ∧ rd l (i : Int) = l.getD i 0 := by
 obtain ⟨j, e, hj⟩ := h _ (List.getElem_mem hi)
 rw [Ints.rd_get l i hi]
 refine ⟨by omega, by omega, by simp [hi]⟩
theorem ext_suf (s : ByteArray) (i : Nat) : s.extract i s.size = suf s i := rfl
theorem suf_le (s : ByteArray) (i : Nat) : (suf s i).size ≤ s.size := by
 unfold suf
 rw [ByteArray.size_extract]
 omega
theorem commons_ev (s : ByteArray) (hs : s.size ≤ 1048576) (l : List Int) (hl : l.length ≤ 1048576) (hw : Within s l) : Evt (fun k => impl_commons.f k s l) (coms s l) := by
 unfold impl_commons.f
 refine Evt.pos (by omega) (Evt.pos (by omega) ?_)
 by_cases hz : l.length = 0
 ·have e : l = [] := List.eq_nil_of_length_eq_zero hz
  subst e
  exact Evt.step (fun k => impl_commons.l0.eq_2 _ _ _ _ k) (Evt.neg (by simp) (Evt.const _))
 ·have h := fillFrom (L := fun k acc i => impl_commons.l0 k s l acc i) (f := comAt s l) (n := l.length) 1 (by omega) ?_ ?_ (List.replicate ((l.length : Int)).toNat 0) (by simp) ?_
  ·exact h
  ·intro acc ha
   exact Evt.step (fun k => impl_commons.l0.eq_2 _ _ _ _ k) (Evt.neg (by omega) (Evt.const _))
  ·intro acc i r hi1 hi ha hr
   obtain ⟨a1, a2, a3⟩ := within_get hw (i - 1) (by omega)
   obtain ⟨b1, b2, b3⟩ := within_get hw i hi
   have ei : ((i - 1 : Nat) : Int) = (i : Int) - 1 := by omega
   rw [ei] at a1 a2 a3
   refine Evt.step (fun k => impl_commons.l0.eq_2 _ _ _ _ k) (Evt.pos (by omega) ?_)
   rw [w64 (n := (i : Int) - 1) (by omega) (by omega), w64 (n := (i : Int) + 1) (by omega) (by omega), a3, b3]
   rw [a3] at a1 a2
   rw [b3] at b1 b2
   refine Evt.pos (by omega) (Evt.pos (by omega) (Evt.pos a1 (Evt.pos a2 (Evt.pos (by omega) (Evt.pos b1 (Evt.pos b2 ?_))))))
   rw [ext_suf, ext_suf]
   refine Evt.bind (implCom_ev _ _ (Nat.le_trans (suf_le _ _) hs)) (Evt.pos (by omega) ?_)
   have e : comAt s l i = (com (suf s (l.getD (i - 1) 0).toNat) (suf s (l.getD i 0).toNat) : Int) := by
    unfold comAt
    rw [if_neg (by omega)]
   rw [← e]
   exact hr
  ·intro j hj
   obtain rfl : j = 0 := by omega
   rw [List.getElem?_replicate, if_pos (by omega)]
   rfl
theorem sufs_within (s : ByteArray) : Within s (sufs s) := by
 intro x hx
 obtain ⟨i, e, hi⟩ := sufs_mem s x hx
 exact ⟨i, e, by omega⟩
/-- How many unlike texts are told of by the first places. -/
def distTo (s : ByteArray) (l : List Int) : Nat → Int
 | 0 => 0
 | i + 1 => distTo s l i + ((s.size : Int) - l.getD i 0) - comAt s l i
theorem dist_bound (s : ByteArray) (l : List Int) (hs : s.size ≤ 120) (hw : Within s l) : ∀ i, i ≤ l.length → -(120 * (i : Int)) ≤ distTo s l i ∧ distTo s l i ≤ 120 * (i : Int) := by
 intro i
 induction i with
 | zero => intro _; simp [distTo]
 | succ i ih =>
  intro hi
  have h := ih (by omega)
  obtain ⟨a1, a2, a3⟩ := within_get hw i (by omega)
  rw [a3] at a1 a2
  have hc : 0 ≤ comAt s l i ∧ comAt s l i ≤ (s.size : Int) - l.getD i 0 := by
   unfold comAt
   split
   ·omega
   ·have := (com_le (suf s (l.getD (i - 1) 0).toNat) (suf s (l.getD i 0).toNat)).2
    rw [suf_size s (l.getD i 0).toNat (by omega)] at this
    omega
  simp only [distTo]
  omega
def ansDist (s : ByteArray) : Int × Bool := if s.size ≤ 120 then (distTo s (sufs s) s.size, true) else (0, false)
theorem at_bound (s : ByteArray) (l : List Int) (hw : Within s l) (i : Nat) (hi : i < l.length) : 0 ≤ comAt s l i ∧ comAt s l i ≤ (s.size : Int) - l.getD i 0 := by
 obtain ⟨a1, a2, a3⟩ := within_get hw i hi
 rw [a3] at a1 a2
 unfold comAt
 split
 ·omega
 ·have := (com_le (suf s (l.getD (i - 1) 0).toNat) (suf s (l.getD i 0).toNat)).2
  rw [suf_size s (l.getD i 0).toNat (by omega)] at this
  omega
theorem specDist_ev (s : ByteArray) : Evt (fun k => spec_DistinctIn.f k s) (ansDist s) := by
 unfold spec_DistinctIn.f ansDist
 by_cases hs : s.size ≤ 120
 ·rw [if_pos hs]
  refine Evt.neg (by omega) (Evt.bind (spec_suffixes s (by omega)) ?_)
  have hw := sufs_within s
  have hll : (sufs s).length = s.size := sufs_len s
  generalize sufs s = l at *
  have key : ∀ (m i : Nat), i + m = l.length → Evt (fun k => spec_DistinctIn.l0 k s l (distTo s l i) l (l.length : Int) (i : Int)) (distTo s l s.size, true) := by
   intro m
   induction m with
   | zero =>
    intro i hi
    refine Evt.step (fun k => spec_DistinctIn.l0.eq_2 _ _ _ _ _ _ k) (Evt.neg (by omega) ((Evt.const _).eq ?_))
    rw [show i = s.size by omega]
   | succ m ih =>
    intro i hi
    have hb := dist_bound s l hs hw i (by omega)
    have hc := at_bound s l hw i (by omega)
    have hr := ih (i + 1) (by omega)
    simp only [distTo] at hr
    obtain ⟨b1, b2, b3⟩ := within_get hw i (by omega)
    refine Evt.step (fun k => spec_DistinctIn.l0.eq_2 _ _ _ _ _ _ k) (Evt.pos (by omega) (Evt.pos (by omega) (Evt.pos (by omega) ?_)))
    rw [w64 (n := (i : Int) + 1) (by omega) (by omega), b3]
    rw [b3] at b1 b2
    rw [w64 (n := (s.size : Int) - l.getD i 0) (by omega) (by omega), w64 (n := distTo s l i + ((s.size : Int) - l.getD i 0)) (by omega) (by omega)]
    by_cases hi0 : 0 < i
    ·obtain ⟨a1, a2, a3⟩ := within_get hw (i - 1) (by omega)
     have ei : ((i - 1 : Nat) : Int) = (i : Int) - 1 := by omega
     rw [ei] at a1 a2 a3
     rw [w64 (n := (i : Int) - 1) (by omega) (by omega), a3]
     rw [a3] at a1 a2
     refine Evt.pos (by omega) (Evt.pos (by omega) (Evt.pos (by omega) (Evt.pos a1 (Evt.pos a2 (Evt.pos b1 (Evt.pos b2 ?_))))))
     rw [ext_suf, ext_suf]
     have e : comAt s l i = (com (suf s (l.getD (i - 1) 0).toNat) (suf s (l.getD i 0).toNat) : Int) := by
      unfold comAt
      rw [if_neg (by omega)]
     refine Evt.bind ((specCom_ev _ _ (Nat.le_trans (suf_le _ _) (by omega))).eq e.symm) ?_
     rw [w64 (by omega) (by omega)]
     exact hr
    ·obtain rfl : i = 0 := by omega
     have e : comAt s l 0 = 0 := rfl
     rw [e, Int.sub_zero] at hr
     exact Evt.neg (by omega) hr
  exact key l.length 0 (by omega)
 ·rw [if_neg hs]
  exact Evt.pos (by omega) (Evt.const _)
/-- What both answer. -/
def ansSuf (s : ByteArray) : List Int × Bool := if s.size ≤ 120 then (sufs s, true) else ([], false)
theorem implSuf_ev (s : ByteArray) : impl_SuffixesOf.f s = some (ansSuf s) := by
 unfold impl_SuffixesOf.f ansSuf
 by_cases h : s.size ≤ 120
 ·rw [if_neg (by omega), if_pos h, impl_suffixes_eq s (by omega)]
  rfl
 ·rw [if_pos (by omega), if_neg h]
theorem implDist_ev (s : ByteArray) : Evt (fun k => impl_DistinctIn.f k s) (ansDist s) := by
 unfold impl_DistinctIn.f
 rw [implSuf_ev]
 refine Evt.bsome ?_
 unfold ansSuf ansDist
 by_cases hs : s.size ≤ 120
 ·rw [if_pos hs, if_pos hs]
  have hw := sufs_within s
  have hll : (sufs s).length = s.size := sufs_len s
  refine Evt.pos rfl (Evt.bind (commons_ev s (by omega) (sufs s) (by omega) hw) ?_)
  show Evt (fun k => impl_DistinctIn.l0 k s (sufs s) 0 (coms s (sufs s)) ((coms s (sufs s)).length : Int) 0) _
  generalize sufs s = l at *
  have hcl : (coms s l).length = l.length := by simp [coms]
  rw [hcl]
  have key : ∀ (m i : Nat), i + m = l.length → Evt (fun k => impl_DistinctIn.l0 k s l (distTo s l i) (coms s l) (l.length : Int) (i : Int)) (distTo s l s.size, true) := by
   intro m
   induction m with
   | zero =>
    intro i hi
    refine Evt.step (fun k => impl_DistinctIn.l0.eq_2 _ _ _ _ _ _ k) (Evt.neg (by omega) ((Evt.const _).eq ?_))
    rw [show i = s.size by omega]
   | succ m ih =>
    intro i hi
    have hb := dist_bound s l hs hw i (by omega)
    have hc := at_bound s l hw i (by omega)
    have hr := ih (i + 1) (by omega)
    simp only [distTo] at hr
    obtain ⟨b1, b2, b3⟩ := within_get hw i (by omega)
    have e : rd (coms s l) (i : Int) = comAt s l i := by
     rw [Ints.rd_get _ i (by omega)]
     simp [coms]
    refine Evt.step (fun k => impl_DistinctIn.l0.eq_2 _ _ _ _ _ _ k) (Evt.pos (by omega) (Evt.pos (by omega) (Evt.pos (by omega) (Evt.pos (by omega) ?_))))
    rw [w64 (n := (i : Int) + 1) (by omega) (by omega), b3, e]
    rw [b3] at b1 b2
    rw [w64 (n := (s.size : Int) - l.getD i 0) (by omega) (by omega), w64 (n := (s.size : Int) - l.getD i 0 - comAt s l i) (by omega) (by omega), w64 (by omega) (by omega)]
    rw [show distTo s l i + ((s.size : Int) - l.getD i 0 - comAt s l i) = distTo s l i + ((s.size : Int) - l.getD i 0) - comAt s l i by omega]
    exact hr
  exact key l.length 0 (by omega)
 ·rw [if_neg hs, if_neg hs]
  exact Evt.neg (by simp) (Evt.const _)
end Go.Proofs.Ytppmigiknidjhaa.Suf
end

section
namespace Go.Proofs.Ytppmigiknidjhaa.DrS
set_option linter.unusedVariables false
open Go.RowKit Go.Proofs.Ytppmigiknidjhaa.PQ Go.Proofs.YtppmigiknidjhaaW.PrintWords Go.Proofs.YtppmigiknidjhaaW.PrintLast Go.Proofs.Ytppmigiknidjhaa.Pre Go.Proofs.Ytppmigiknidjhaa.Cur Go.Proofs.Ytppmigiknidjhaa.Suf

end Go.Proofs.Ytppmigiknidjhaa.DrS
end

section
namespace Go.Proofs.Ytppmigiknidjhaa.PQ
open Go.RowKit Go.Proofs.YtppmigiknidjhaaW.PrintWords Go.Proofs.YtppmigiknidjhaaW.PrintLast Go.Proofs.YtppmigiknidjhaaW.PrintMore
attribute [local go_sem] max2_int min2_int max_two min_two max_three min_three max_four min_four
set_option linter.unusedVariables false
set_option linter.unusedSimpArgs false

end Go.Proofs.Ytppmigiknidjhaa.PQ
end

section
namespace Go.Proofs.Ytppmigiknidjhaa.Suf
set_option linter.unusedVariables false
open Go.RowKit Go.Proofs.Ytppmigiknidjhaa.PQ Go.Proofs.YtppmigiknidjhaaW.PrintWords Go.Proofs.YtppmigiknidjhaaW.PrintLast Go.Proofs.Ytppmigiknidjhaa.Pre

end Go.Proofs.Ytppmigiknidjhaa.Suf
end

section
namespace Go.Proofs.Ytppmigiknidjhaa.Suf
set_option linter.unusedVariables false
open Go.RowKit Go.Proofs.Ytppmigiknidjhaa.PQ Go.Proofs.YtppmigiknidjhaaW.PrintWords Go.Proofs.YtppmigiknidjhaaW.PrintLast Go.Proofs.Ytppmigiknidjhaa.Pre Go.Proofs.Ytppmigiknidjhaa.Srt
theorem comL_take : ∀ a b : List Int, a.take (comL a b) = b.take (comL a b)
 | x :: xs, y :: ys => by
  unfold comL
  by_cases h : x = y
  ·rw [if_pos h, List.take_succ_cons, List.take_succ_cons, comL_take xs ys, h]
  ·rw [if_neg h]
   rfl
 | [], _ => by simp [comL]
 | _ :: _, [] => by simp [comL]
theorem com_take (a b : ByteArray) : a.extract 0 (com a b) = b.extract 0 (com a b) := by
 apply Byt.bytesOf_inj
 rw [Byt.bytesOf_take, Byt.bytesOf_take]
 exact comL_take _ _
end Go.Proofs.Ytppmigiknidjhaa.Suf
end

section
namespace Go.Proofs.Ytppmigiknidjhaa.Dn
set_option linter.unusedVariables false
open Go.RowKit Go.Proofs.Ytppmigiknidjhaa.PQ Go.Proofs.YtppmigiknidjhaaW.PrintWords Go.Proofs.YtppmigiknidjhaaW.PrintLast Go.Proofs.Ytppmigiknidjhaa.Pre Go.Proofs.Ytppmigiknidjhaa.Srt Go.Proofs.Ytppmigiknidjhaa.Suf
theorem list_mid : ∀ (p a x b : List UInt8), p <+: a → p <+: b → ¬ x < a → ¬ b < x → p <+: x
 | [], _, x, _, _, _, _, _ => List.nil_prefix
 | c :: p, a, x, b, ⟨ra, ha⟩, ⟨rb, hb⟩, h1, h2 => by
  subst ha
  subst hb
  cases x with
  | nil => exact absurd (List.nil_lt_cons _ _) h1
  | cons d x =>
   rw [List.cons_append, List.cons_lt_cons_iff] at h1 h2
   have e : d = c := by
    have h3 : ¬ d < c := fun h => h1 (.inl h)
    have h4 : ¬ c < d := fun h => h2 (.inl h)
    rw [UInt8.lt_iff_toNat_lt] at h3 h4
    exact UInt8.toNat_inj.1 (by omega)
   subst e
   exact List.cons_prefix_cons.2 ⟨rfl, list_mid p _ x _ ⟨ra, rfl⟩ ⟨rb, rfl⟩ (fun h => h1 (.inr ⟨rfl, h⟩)) (fun h => h2 (.inr ⟨rfl, h⟩))⟩
theorem comL_max : ∀ (k : Nat) (a b : List Int), k ≤ a.length → k ≤ b.length → a.take k = b.take k → k ≤ comL a b
 | 0, _, _, _, _, _ => Nat.zero_le _
 | k + 1, x :: xs, y :: ys, h1, h2, h => by
  rw [List.take_succ_cons, List.take_succ_cons] at h
  injection h with h3 h4
  unfold comL
  rw [if_pos h3]
  exact Nat.succ_le_succ (comL_max k xs ys (Nat.le_of_succ_le_succ h1) (Nat.le_of_succ_le_succ h2) h4)
 | k + 1, [], _, h1, _, _ => by cases h1
 | k + 1, _ :: _, [], _, h2, _ => by cases h2
theorem com_max {k : Nat} {a b : ByteArray} (h1 : k ≤ a.size) (h2 : k ≤ b.size) (h : a.extract 0 k = b.extract 0 k) : k ≤ com a b := by
 refine comL_max k _ _ (by rw [bytesOf_length]; exact h1) (by rw [bytesOf_length]; exact h2) ?_
 rw [← Byt.bytesOf_take, ← Byt.bytesOf_take, h]
theorem bl_ext (s : ByteArray) (i j : Nat) : (s.extract i j).data.toList = (s.data.toList.drop i).take (j - i) := by
 rw [ByteArray.data_extract, Array.toList_extract, List.extract_eq_take_drop]
theorem bl_len (s : ByteArray) : s.data.toList.length = s.size := by
 rw [Array.length_toList]
 rfl
/-- A text stands at another one's beginning, and is not empty. -/
def Pf (b p : ByteArray) : Prop := 1 ≤ p.size ∧ p.data.toList <+: b.data.toList
theorem pf_iff (b p : ByteArray) : Pf b p ↔ 1 ≤ p.size ∧ p.size ≤ b.size ∧ p = b.extract 0 p.size := by
 constructor
 ·rintro ⟨h1, h2⟩
  have h3 := h2.length_le
  rw [bl_len, bl_len] at h3
  refine ⟨h1, h3, WideShapes.bytes_inj ?_⟩
  rw [bl_ext, List.drop_zero, Nat.sub_zero]
  have h4 := List.prefix_iff_eq_take.1 h2
  rw [bl_len] at h4
  exact h4
 ·rintro ⟨h1, h2, h3⟩
  refine ⟨h1, ?_⟩
  rw [h3, bl_ext, List.drop_zero]
  exact List.take_prefix _ _
theorem pf_of (b : ByteArray) (m : Nat) (h1 : 1 ≤ m) (h2 : m ≤ b.size) : Pf b (b.extract 0 m) ∧ (b.extract 0 m).size = m := by
 have e : (b.extract 0 m).size = m := by rw [ByteArray.size_extract]; omega
 exact ⟨(pf_iff _ _).2 (by rw [e]; exact ⟨h1, h2, rfl⟩), e⟩
theorem pf_mid {a x b p : ByteArray} (h1 : Pf a p) (h2 : Pf b p) (h3 : ltS x a = false) (h4 : ltS b x = false) : Pf x p := by
 rw [ltS_eq, decide_eq_false_iff_not, ByteArray.toList_eq, ByteArray.toList_eq] at h3 h4
 exact ⟨h1.1, list_mid _ _ _ _ h1.2 h2.2 h3 h4⟩
theorem pf_com {a b p : ByteArray} (h1 : Pf a p) (h2 : Pf b p) : p.size ≤ com a b := by
 obtain ⟨_, q1, q2⟩ := (pf_iff _ _).1 h1
 obtain ⟨_, r1, r2⟩ := (pf_iff _ _).1 h2
 exact com_max q1 r1 (q2.symm.trans r2)
theorem pf_back {a b p : ByteArray} (h2 : Pf b p) (h : p.size ≤ com a b) : Pf a p := by
 obtain ⟨h1, r1, r2⟩ := (pf_iff _ _).1 h2
 have hc := com_le a b
 have e := congrArg (fun x : ByteArray => x.extract 0 p.size) (com_take a b)
 rw [ByteArray.extract_extract, ByteArray.extract_extract, Nat.zero_add, Nat.zero_add, Nat.min_eq_left h] at e
 exact (pf_iff _ _).2 ⟨h1, by omega, r2.trans e.symm⟩

def newA (A : Nat → ByteArray) (c : Nat → Nat) (i : Nat) : List ByteArray := (List.range ((A i).size - c i)).map (fun t => (A i).extract 0 (c i + t + 1))
def told (A : Nat → ByteArray) (c : Nat → Nat) : Nat → List ByteArray
 | 0 => []
 | i + 1 => told A c i ++ newA A c i
theorem new_mem (A : Nat → ByteArray) (c : Nat → Nat) (i : Nat) (p : ByteArray) : p ∈ newA A c i ↔ Pf (A i) p ∧ c i < p.size := by
 unfold newA
 rw [List.mem_map]
 constructor
 ·rintro ⟨t, ht, rfl⟩
  rw [List.mem_range] at ht
  obtain ⟨h1, h2⟩ := pf_of (A i) (c i + t + 1) (by omega) (by omega)
  exact ⟨h1, by omega⟩
 ·rintro ⟨h1, h2⟩
  obtain ⟨q0, q1, q2⟩ := (pf_iff _ _).1 h1
  refine ⟨p.size - c i - 1, List.mem_range.2 (by omega), ?_⟩
  rw [show c i + (p.size - c i - 1) + 1 = p.size by omega]
  exact q2.symm
theorem new_nodup (A : Nat → ByteArray) (c : Nat → Nat) (i : Nat) : (newA A c i).Nodup := by
 unfold newA
 refine List.pairwise_map.2 (List.Pairwise.imp_of_mem ?_ List.nodup_range)
 intro a b ha hb hne e
 rw [List.mem_range] at ha hb
 have := congrArg ByteArray.size e
 rw [(pf_of (A i) (c i + a + 1) (by omega) (by omega)).2, (pf_of (A i) (c i + b + 1) (by omega) (by omega)).2] at this
 omega
theorem told_spec (A : Nat → ByteArray) (c : Nat → Nat) (n : Nat) (hs : ∀ i j, i < j → j < n → ltS (A i) (A j) = true) (h0 : c 0 = 0) (hc : ∀ i, i + 1 < n → c (i + 1) = com (A i) (A (i + 1))) :
  ∀ i, i ≤ n → (told A c i).Nodup ∧ ∀ p, p ∈ told A c i ↔ ∃ r, r < i ∧ Pf (A r) p
 | 0, _ => ⟨List.Pairwise.nil, fun p => ⟨fun h => (by cases h), fun ⟨r, h, _⟩ => by omega⟩⟩
 | i + 1, hi => by
  obtain ⟨ih1, ih2⟩ := told_spec A c n hs h0 hc i (by omega)
  refine ⟨List.pairwise_append.2 ⟨ih1, new_nodup A c i, ?_⟩, fun p => ?_⟩
  ·rintro a ha b hb rfl
   obtain ⟨r, hr, hp⟩ := (ih2 a).1 ha
   obtain ⟨hq, hlt⟩ := (new_mem A c i a).1 hb
   obtain ⟨k, rfl⟩ : ∃ k, i = k + 1 := ⟨i - 1, by omega⟩
   rw [hc k (by omega)] at hlt
   have hk : Pf (A k) a := by
    by_cases e : r = k
    ·rw [← e]
     exact hp
    ·exact pf_mid hp hq (ltS_asymm (hs r k (by omega) (by omega))) (ltS_asymm (hs k (k + 1) (by omega) (by omega)))
   have := pf_com hk hq
   omega
  ·show p ∈ told A c i ++ newA A c i ↔ _
   rw [List.mem_append, ih2, new_mem]
   constructor
   ·rintro (⟨r, hr, h⟩ | ⟨h, _⟩)
    ·exact ⟨r, by omega, h⟩
    ·exact ⟨i, by omega, h⟩
   ·rintro ⟨r, hr, h⟩
    by_cases e : r = i
    ·subst e
     by_cases hlt : c r < p.size
     ·exact .inr ⟨h, hlt⟩
     ·match r, h, hlt, hi with
      | 0, h, hlt, _ => have := h.1; omega
      | k + 1, h, hlt, hi =>
       rw [hc k (by omega)] at hlt
       exact .inl ⟨k, by omega, pf_back h (by omega)⟩
    ·exact .inl ⟨r, by omega, h⟩

def memB (a : List ByteArray) (x : ByteArray) : Bool := a.any (fun t => decide (t = x))
theorem memB_iff (a : List ByteArray) (x : ByteArray) : memB a x = true ↔ x ∈ a := by
 unfold memB
 rw [List.any_eq_true]
 exact ⟨fun ⟨t, h, e⟩ => of_decide_eq_true e ▸ h, fun h => ⟨x, h, decide_eq_true rfl⟩⟩
def addU (a : List ByteArray) (x : ByteArray) : List ByteArray := if memB a x = true then a else a ++ [x]
def inTo (s : ByteArray) (a : List ByteArray) (i : Nat) : Nat → List ByteArray
 | 0 => a
 | k + 1 => addU (inTo s a i k) (s.extract i (i + 1 + k))
def allTo (s : ByteArray) : Nat → List ByteArray
 | 0 => []
 | i + 1 => inTo s (allTo s i) i (s.size - i)
theorem addU_spec {a : List ByteArray} (h : a.Nodup) (x : ByteArray) : (addU a x).Nodup ∧ ∀ p, p ∈ addU a x ↔ p ∈ a ∨ p = x := by
 unfold addU
 by_cases hx : memB a x = true
 ·rw [if_pos hx]
  rw [memB_iff] at hx
  exact ⟨h, fun p => ⟨.inl, fun h2 => by rcases h2 with h2 | rfl <;> assumption⟩⟩
 ·rw [if_neg hx]
  rw [memB_iff] at hx
  refine ⟨List.pairwise_append.2 ⟨h, List.pairwise_singleton _ _, ?_⟩, fun p => by simp⟩
  rintro p hp b hb rfl
  rw [List.mem_singleton] at hb
  exact hx (hb ▸ hp)
theorem addU_len (a : List ByteArray) (x : ByteArray) : (addU a x).length ≤ a.length + 1 := by
 unfold addU
 split
 ·omega
 ·simp
theorem inTo_spec (s : ByteArray) {a : List ByteArray} (h : a.Nodup) (i : Nat) : ∀ k, (inTo s a i k).Nodup ∧ ∀ p, p ∈ inTo s a i k ↔ p ∈ a ∨ ∃ t, t < k ∧ p = s.extract i (i + 1 + t)
 | 0 => ⟨h, fun p => ⟨.inl, fun h2 => (by rcases h2 with h2 | ⟨t, ht, _⟩; exact h2; omega)⟩⟩
 | k + 1 => by
  obtain ⟨h1, h2⟩ := inTo_spec s h i k
  obtain ⟨h3, h4⟩ := addU_spec h1 (s.extract i (i + 1 + k))
  refine ⟨h3, fun p => (h4 p).trans ?_⟩
  rw [h2]
  constructor
  ·rintro ((h5 | ⟨t, ht, h5⟩) | h5)
   ·exact .inl h5
   ·exact .inr ⟨t, by omega, h5⟩
   ·exact .inr ⟨k, by omega, h5⟩
  ·rintro (h5 | ⟨t, ht, h5⟩)
   ·exact .inl (.inl h5)
   ·by_cases e : t = k
    ·exact .inr (by rw [h5, e])
    ·exact .inl (.inr ⟨t, by omega, h5⟩)
theorem inTo_len (s : ByteArray) (a : List ByteArray) (i : Nat) : ∀ k, (inTo s a i k).length ≤ a.length + k
 | 0 => Nat.le_refl _
 | k + 1 => by
  have h1 := inTo_len s a i k
  have h2 := addU_len (inTo s a i k) (s.extract i (i + 1 + k))
  show (addU _ _).length ≤ _
  omega
theorem pf_at (s : ByteArray) (i : Nat) (hi : i ≤ s.size) (p : ByteArray) : Pf (suf s i) p ↔ ∃ t, t < s.size - i ∧ p = s.extract i (i + 1 + t) := by
 have hz := suf_size s i hi
 have e : ∀ m, m ≤ s.size - i → (suf s i).extract 0 m = s.extract i (i + m) := fun m hm => by
  unfold suf
  rw [ByteArray.extract_extract, Nat.add_zero, Nat.min_eq_left (by omega)]
 rw [pf_iff, hz]
 constructor
 ·rintro ⟨h1, h2, h3⟩
  refine ⟨p.size - 1, by omega, h3.trans ?_⟩
  rw [e _ h2, show i + 1 + (p.size - 1) = i + p.size by omega]
 ·rintro ⟨t, ht, h⟩
  have h1 : p.size = t + 1 := by rw [h, ByteArray.size_extract]; omega
  refine ⟨by omega, by omega, ?_⟩
  rw [h1, e _ (by omega), h, show i + 1 + t = i + (t + 1) by omega]
theorem allTo_spec (s : ByteArray) : ∀ i, i ≤ s.size → (allTo s i).Nodup ∧ ∀ p, p ∈ allTo s i ↔ ∃ r, r < i ∧ Pf (suf s r) p
 | 0, _ => ⟨List.Pairwise.nil, fun p => ⟨fun h => (by cases h), fun ⟨r, h, _⟩ => by omega⟩⟩
 | i + 1, hi => by
  obtain ⟨h1, h2⟩ := allTo_spec s i (by omega)
  obtain ⟨h3, h4⟩ := inTo_spec s h1 i (s.size - i)
  refine ⟨h3, fun p => (h4 p).trans ?_⟩
  rw [h2, ← pf_at s i (by omega)]
  constructor
  ·rintro (⟨r, hr, h⟩ | h)
   ·exact ⟨r, by omega, h⟩
   ·exact ⟨i, by omega, h⟩
  ·rintro ⟨r, hr, h⟩
   by_cases e : r = i
   ·exact .inr (e ▸ h)
   ·exact .inl ⟨r, by omega, h⟩
theorem allTo_len (s : ByteArray) : ∀ i, (allTo s i).length ≤ s.size * i
 | 0 => Nat.zero_le _
 | i + 1 => by
  have h1 := allTo_len s i
  have h2 := inTo_len s (allTo s i) i (s.size - i)
  show (inTo _ _ _ _).length ≤ _
  rw [Nat.mul_succ]
  omega

theorem told_len (s : ByteArray) (l : List Int) (hw : Within s l) : ∀ i, i ≤ l.length → ((told (fun r => suf s (l.getD r 0).toNat) (fun r => (comAt s l r).toNat) i).length : Int) = distTo s l i
 | 0, _ => rfl
 | i + 1, hi => by
  have ih := told_len s l hw i (by omega)
  obtain ⟨a1, a2, a3⟩ := within_get hw i (by omega)
  rw [a3] at a1 a2
  have hc := at_bound s l hw i (by omega)
  have hz := suf_size s (l.getD i 0).toNat (by omega)
  show ((told _ _ i ++ newA _ _ i).length : Int) = distTo s l i + ((s.size : Int) - l.getD i 0) - comAt s l i
  have e : (newA (fun r => suf s (l.getD r 0).toNat) (fun r => (comAt s l r).toNat) i).length = (suf s (l.getD i 0).toNat).size - (comAt s l i).toNat := by
   unfold newA
   rw [List.length_map, List.length_range]
  rw [List.length_append, e, hz]
  omega
theorem distinct_all (s : ByteArray) : distTo s (sufs s) s.size = ((allTo s s.size).length : Int) := by
 have hw := sufs_within s
 have hll := sufs_len s
 have hso := sufs_sorted s
 have hpm := sufs_perm s
 rw [← told_len s (sufs s) hw s.size (by omega)]
 obtain ⟨h1, h2⟩ := told_spec (fun r => suf s ((sufs s).getD r 0).toNat) (fun r => (comAt s (sufs s) r).toNat) s.size (fun i j hij hj => by
   have := List.pairwise_iff_getElem.1 hso i j (by omega) (by omega) hij
   unfold ltI at this
   rw [List.getD_eq_getElem?_getD, List.getD_eq_getElem?_getD, List.getElem?_eq_getElem (show i < (sufs s).length by omega), List.getElem?_eq_getElem (show j < (sufs s).length by omega)]
   exact this) rfl (fun i hi => by
   unfold comAt
   rw [if_neg (by omega), Nat.add_sub_cancel]
   exact Int.toNat_natCast _) s.size (Nat.le_refl _)
 obtain ⟨h3, h4⟩ := allTo_spec s s.size (Nat.le_refl _)
 have key : ∀ p, p ∈ told (fun r => suf s ((sufs s).getD r 0).toNat) (fun r => (comAt s (sufs s) r).toNat) s.size ↔ p ∈ allTo s s.size := fun p => by
  rw [h2, h4]
  constructor
  ·rintro ⟨r, hr, h⟩
   obtain ⟨x, hx, hxs⟩ := sufs_mem s (sufs s)[r] (List.getElem_mem (by omega))
   refine ⟨x, hxs, ?_⟩
   rw [List.getD_eq_getElem?_getD, List.getElem?_eq_getElem (show r < (sufs s).length by omega)] at h
   rw [show (some (sufs s)[r]).getD 0 = (sufs s)[r] from rfl, hx, Int.toNat_natCast] at h
   exact h
  ·rintro ⟨x, hx, h⟩
   have hm : (x : Int) ∈ sufs s := hpm.mem_iff.2 (by unfold upTo; exact List.mem_map.2 ⟨x, List.mem_range.2 hx, rfl⟩)
   obtain ⟨r, hr, e⟩ := List.getElem_of_mem hm
   refine ⟨r, by omega, ?_⟩
   rw [List.getD_eq_getElem?_getD, List.getElem?_eq_getElem hr, show (some (sufs s)[r]).getD 0 = (sufs s)[r] from rfl, e, Int.toNat_natCast]
   exact h
 have := ((List.perm_ext_iff_of_nodup h1 h3).2 key).length_eq
 omega
end Go.Proofs.Ytppmigiknidjhaa.Dn
end

section
namespace Go.Proofs.Ytppmigiknidjhaa.DnA
set_option linter.unusedVariables false
open Go.RowKit Go.Proofs.Ytppmigiknidjhaa.PQ Go.Proofs.YtppmigiknidjhaaW.PrintWords Go.Proofs.YtppmigiknidjhaaW.PrintLast Go.Proofs.Ytppmigiknidjhaa.Pre Go.Proofs.Ytppmigiknidjhaa.Cur Go.Proofs.Ytppmigiknidjhaa.Suf
def Asc (s : ByteArray) : Prop := ∀ b ∈ s.data.toList, b.toNat < 128
theorem asc_app {a b : ByteArray} (h1 : Asc a) (h2 : Asc b) : Asc (a ++ b) := fun x hx => by
 rw [ByteArray.data_append, Array.toList_append, List.mem_append] at hx
 exact hx.elim (h1 x) (h2 x)
theorem asc_ext {a : ByteArray} (h : Asc a) (i j : Nat) : Asc (a.extract i j) := fun x hx => by
 rw [ByteArray.data_extract, Array.toList_extract, List.extract_eq_take_drop] at hx
 exact h x (List.mem_of_mem_drop (List.mem_of_mem_take hx))
theorem asc_at {s : ByteArray} (h : Asc s) (i : Nat) (hi : i < s.size) : (s[i]'hi).toNat < 128 := h _ (by
 have : s[i]'hi = s.data[i]'hi := rfl
 rw [this]
 exact Array.getElem_mem_toList ..)
theorem of_texts {l0 : List Int} (h : Bytes l0) (at_ st : Int) (h0 : 0 ≤ at_) (h1 : at_ ≤ 1000000) :
  ∃ t a' s', spec_l1Cur_of.f l0 at_ st (([(⟨#[97]⟩ : ByteArray), (⟨#[98]⟩ : ByteArray), (⟨#[97, 98]⟩ : ByteArray), (⟨#[110]⟩ : ByteArray), (⟨#[97, 110, 97]⟩ : ByteArray), (⟨#[97]⟩ : ByteArray)] : List ByteArray)) = some (t, a', s') ∧ t.size ≤ 3 ∧ Asc t ∧ at_ ≤ a' ∧ a' ≤ at_ + 2 := by
 obtain ⟨t, a', s', e, hm, ha, hb⟩ := of_ev h at_ st _ (by simp : ([(⟨#[97]⟩ : ByteArray), (⟨#[98]⟩ : ByteArray), (⟨#[97, 98]⟩ : ByteArray), (⟨#[110]⟩ : ByteArray), (⟨#[97, 110, 97]⟩ : ByteArray), (⟨#[97]⟩ : ByteArray)] : List ByteArray) ≠ []) h0 (by omega)
 simp only [List.mem_cons, List.not_mem_nil, or_false] at hm
 refine ⟨t, a', s', e, ?_, ?_, ha, hb⟩
 ·rcases hm with rfl | rfl | rfl | rfl | rfl | rfl <;> decide
 ·rcases hm with rfl | rfl | rfl | rfl | rfl | rfl <;> (intro b hb; simp at hb; rcases hb with rfl | rfl | rfl <;> decide)
theorem text_loop {l0 : List Int} (h : Bytes l0) : ∀ (n : Nat) (s : ByteArray) (at_ st : Int), 0 ≤ at_ → at_ + 2 * n ≤ 900000 → s.size + 3 * n ≤ 1000 → Asc s →
  ∃ t a' s', Evt (fun k => spec_l1Cur_suffixText.l0 k s (n : Int) l0 at_ st) (t, a', s') ∧ t.size ≤ 1000 ∧ Asc t := by
 intro n
 induction n with
 | zero =>
  intro s at_ st h0 h1 h2 hA
  by_cases hs : (s.size : Int) > 120
  ·obtain ⟨b, a', s', e, ha, hb⟩ := one_ev h at_ st 4 h0 (by omega)
   cases b with
   | true => exact ⟨s, a', s', Evt.step (fun k => spec_l1Cur_suffixText.l0.eq_2 _ _ _ _ _ k) (Evt.neg (by omega) (Evt.pos hs (Evt.bind (Evt.of (fun _ => e)) (Evt.pos rfl (Evt.const _))))), by omega, hA⟩
   | false => exact ⟨s.extract 0 120, a', s', Evt.step (fun k => spec_l1Cur_suffixText.l0.eq_2 _ _ _ _ _ k) (Evt.neg (by omega) (Evt.pos hs (Evt.bind (Evt.of (fun _ => e)) (Evt.neg (by simp) (Evt.pos (by omega) (Evt.pos (by omega) (Evt.const _))))))), by rw [ByteArray.size_extract]; omega, asc_ext hA _ _⟩
  ·exact ⟨s, at_, st, Evt.step (fun k => spec_l1Cur_suffixText.l0.eq_2 _ _ _ _ _ k) (Evt.neg (by omega) (Evt.neg hs (Evt.const _))), by omega, hA⟩
 | succ n ih =>
  intro s at_ st h0 h1 h2 hA
  obtain ⟨t, a1, s1, e, ht, hAt, ha, hb⟩ := of_texts h at_ st h0 (by omega)
  have hz : (s ++ t).size = s.size + t.size := ByteArray.size_append
  obtain ⟨t2, a2, s2, e2, h4, h5⟩ := ih (s ++ t) a1 s1 (by omega) (by omega) (by omega) (asc_app hA hAt)
  refine ⟨t2, a2, s2, Evt.step (fun k => spec_l1Cur_suffixText.l0.eq_2 _ _ _ _ _ k) (Evt.pos (by omega) (Evt.bind (Evt.of (fun _ => e)) (Evt.pos (by show s.size + t.size ≤ _; omega) ?_))), h4, h5⟩
  rw [w64 (n := ((n + 1 : Nat) : Int) - 1) (by omega) (by omega), show ((n + 1 : Nat) : Int) - 1 = (n : Int) by omega]
  exact e2
theorem asc_nil : Asc ⟨#[]⟩ := fun b hb => by simp at hb
theorem text_ev {l0 : List Int} (h : Bytes l0) : ∃ t a' s', Evt (fun k => spec_l1Cur_suffixText.f k l0 0 0) (t, a', s') ∧ t.size ≤ 1000 ∧ Asc t := by
 unfold spec_l1Cur_suffixText.f
 obtain ⟨x, a1, s1, e1, hx0, hx1, ha1, hb1⟩ := pick_ev h 0 0 20 (by omega) (by omega)
 obtain ⟨b, a2, s2, e2, ha2, hb2⟩ := one_ev h a1 s1 20 (by omega) (by omega)
 cases b with
 | true =>
  obtain ⟨t, a3, s3, e3, h1, h2⟩ := text_loop h 115 ⟨#[]⟩ a2 s2 (by omega) (by omega) (by show 0 + 3 * 115 ≤ 1000; omega) asc_nil
  exact ⟨t, a3, s3, Evt.bind (Evt.of (fun _ => e1)) (Evt.bind (Evt.of (fun _ => e2)) (Evt.pos rfl (Evt.step (fun k => spec_l1Cur_suffixText.j0.eq_2 _ _ _ _ _ k) e3))), h1, h2⟩
 | false =>
  obtain ⟨n, hn⟩ : ∃ n : Nat, x = (n : Int) := ⟨x.toNat, by omega⟩
  subst hn
  obtain ⟨t, a3, s3, e3, h1, h2⟩ := text_loop h n ⟨#[]⟩ a2 s2 (by omega) (by omega) (by show 0 + 3 * n ≤ 1000; omega) asc_nil
  exact ⟨t, a3, s3, Evt.bind (Evt.of (fun _ => e1)) (Evt.bind (Evt.of (fun _ => e2)) (Evt.neg (by simp) (Evt.step (fun k => spec_l1Cur_suffixText.j0.eq_2 _ _ _ _ _ k) e3))), h1, h2⟩
theorem drawn {l0 : List Int} (h : Bytes l0) : ∃ t, Evt (fun k => spec_DrawDistinctIn.f k l0) t ∧ t.size ≤ 1000 ∧ Asc t := by
 obtain ⟨t, a', s', e, hz, hA⟩ := text_ev h
 exact ⟨t, Evt.bind (show Evt (fun k => spec_DrawSuffixesOf.f k l0) t from Evt.bind e (Evt.const _)) (Evt.const _), hz, hA⟩
end Go.Proofs.Ytppmigiknidjhaa.DnA
end

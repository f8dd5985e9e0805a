/- impl.suffixes: the places of a text in the order of what begins there. No conditions. -/
import Derived.Test.YtppmigiknidjhaaCmpS
import Derived.Test.YtppmigiknidjhaaShelf
import Derived.Test.YtppmigiknidjhaaPQx0
namespace Go.Proofs.Ytppmigiknidjhaa.Suf
set_option linter.unusedVariables false
set_option linter.unusedSimpArgs false
open Go.RowKit Go.Sort Go.Lib Go.Shelf Go.Proofs.Ytppmigiknidjhaa.PQ Go.Proofs.YtppmigiknidjhaaW.PrintWords Go.Proofs.YtppmigiknidjhaaW.PrintLast Go.Proofs.YtppmigiknidjhaaW.PrintMore Go.Proofs.Ytppmigiknidjhaa.Srt

/-- What begins at a place. -/
def suf (s : ByteArray) (i : Nat) : ByteArray := s.extract i s.size
abbrev Pl (s : ByteArray) := Fin (s.size + 1)
def encP {s : ByteArray} (i : Pl s) : Value := .int .i64 (i.1 : Int)
def cfP {s : ByteArray} (x y : Pl s) : Int := cmpS (suf s x.1) (suf s y.1)
theorem ltP {s : ByteArray} (x y : Pl s) : ltOf cfP x y = ltS (suf s x.1) (suf s y.1) := cmp_lt _ _
theorem swoP {s : ByteArray} : SWO (ltOf (cfP (s := s))) where
  irrefl x := by rw [ltP]; exact ltS_irrefl _
  trans x y z h1 h2 := by rw [ltP] at *; exact ltS_trans h1 h2
  ntrans x y z h1 h2 := by rw [ltP] at *; exact ltS_ntrans h1 h2
theorem suf_size (s : ByteArray) (i : Nat) (h : i ≤ s.size) : (suf s i).size = s.size - i := by
  unfold suf
  rw [ByteArray.size_extract]
  omega
theorem totP {s : ByteArray} (x y : Pl s) (h1 : ltOf cfP x y = false) (h2 : ltOf cfP y x = false) : x = y := by
  rw [ltP] at *
  have e := congrArg ByteArray.size (ltS_tri h1 h2)
  rw [suf_size _ _ (by omega), suf_size _ _ (by omega)] at e
  apply Fin.ext
  omega
def places (s : ByteArray) : List (Pl s) := List.ofFn (fun i : Fin s.size => i.castSucc)
def sufP (s : ByteArray) : List (Pl s) := (places s).mergeSort (fun x y => !(ltOf cfP) y x)
/-- The places, in the order of what begins there. -/
def sufs (s : ByteArray) : List Int := (sufP s).map (fun i => (i.1 : Int))

set_option maxHeartbeats 400000 in
theorem closure (s : ByteArray) (x y : Pl s) (B : Nat) (W : World) (hc : W.cell? ⟨B, 0, none⟩ = some (.string s)) (hs : s.size ≤ 1048576) :
    Calls Try.prog 62 #[.int .i64 (x.1 : Int), .int .i64 (y.1 : Int), .pointer (some ⟨B, 0, none⟩)] W fun e w' => e = .returned (.int .i64 (cfP x y)) ∧ ∃ q, w' = W.drewN q := by
  have hx : x.1 ≤ s.size := by omega
  have hy : y.1 ≤ s.size := by omega
  unfold cfP suf
  generalize x.1 = a at *
  generalize y.1 = b at *
  go_enter Try.func62, Try.ntmps62
  go_wp2
  go_quiet ((go_at_call 63; exact Calls.quiet_of_same (compare_q _ _ _)))
  go_wp2
  go_ret
  exact ⟨rfl, _, rfl⟩
theorem lays (s : ByteArray) (B : Nat) (hs : s.size ≤ 1048576) (blk size : Nat) (w : World) (hc : w.cell? ⟨B, 0, none⟩ = some (.string s)) (hne : B ≠ blk) (hB : B < w.heap.size) :
    CmpLays1 Try.prog 62 #[.pointer (some ⟨B, 0, none⟩)] (encP (s := s)) cfP blk 0 size w := by
  intro m os dk hd x y
  have hc2 : (sortWorld (encP (s := s)) w blk 0 m dk os).cell? ⟨B, 0, none⟩ = some (.string s) := by
    have h1 : (putRow (encP (s := s)) (Sort.ahead w m) blk 0 dk).cell? ⟨B, 0, none⟩ = some (.string s) := by
      rw [cell?_putRow_other _ _ _ _ _ _ (.inl hne)]
      exact hc
    have hl : B < (putRow (encP (s := s)) (Sort.ahead w m) blk 0 dk).heap.size := by
      rw [size_putRow]
      exact hB
    exact (World.cell?_of_block (w := putRow (encP (s := s)) (Sort.ahead w m) blk 0 dk) (w' := sortWorld (encP (s := s)) w blk 0 m dk os) (a := ⟨B, 0, none⟩) (by
      show ((putRow (encP (s := s)) (Sort.ahead w m) blk 0 dk).heap ++ os)[B]? = _
      rw [Array.getElem?_append_left hl])).trans h1
  refine (closure s x y B _ hc2 hs).mono ?_
  rintro e w' ⟨rfl, q, rfl⟩
  exact ⟨rfl, q, #[], by rw [grow_empty]⟩

/-- The row before the sort, as far as it is filled. -/
def filled (s : ByteArray) (i : Nat) : List Int := (List.range i).map (fun j : Nat => (j : Int)) ++ List.replicate (s.size - i) 0
theorem filled_len (s : ByteArray) (i : Nat) (h : i ≤ s.size) : (filled s i).length = s.size := by
  unfold filled
  simp
  omega
theorem filled_set (s : ByteArray) (i : Nat) (h : i < s.size) : (filled s i).set i (i : Int) = filled s (i + 1) := by
  unfold filled
  rw [List.set_append_right _ _ (by simp)]
  rw [show s.size - i = (s.size - (i + 1)) + 1 by omega, List.replicate_succ, List.range_succ]
  simp
theorem filled_all (s : ByteArray) : filled s s.size = (places s).map (fun i => (i.1 : Int)) := by
  unfold filled places
  rw [Nat.sub_self, List.replicate_zero, List.append_nil]
  apply List.ext_getElem?
  intro j
  by_cases hj : j < s.size
  · simp [hj]
  · rw [List.getElem?_eq_none (by simp; omega), List.getElem?_eq_none (by simp; omega)]
theorem R_cast {s : ByteArray} {e : Nat} {W : World} {base : Nat} {ok : Nat → Prop} {v : Value} {zs : List (Pl s)} : (Kd.int .i64).R e W base ok v (zs.map (fun i => (i.1 : Int))) ↔ (Kd.scalar (encP (s := s)) (fun _ => rfl)).R e W base ok v zs := by
  have e1 : encs (Value.int .i64) (zs.map (fun i => (i.1 : Int))) = encs (encP (s := s)) zs := by
    rw [encs_map, encs_map, List.map_map]
    rfl
  constructor
  · intro h
    have ho := Kd.own_of_R (h1 := fun _ => rfl) h
    rw [e1, List.length_map] at ho
    exact Kd.R_of_own ho h.1
  · intro h
    have ho := Kd.own_of_R h
    rw [← e1] at ho
    refine Kd.R_of_own (h1 := fun _ => rfl) ?_ h.1
    rw [List.length_map]
    exact ho

theorem made (s : ByteArray) (w : World) (v : Value) (w4 : World) (h : (Kd.int .i64).R 3 w4 (w.alloc (.cells #[.string s] 9)).heap.size (fun _ => True) v (List.replicate (s.size : Int).toNat 0)) (hb : Below (w.alloc (.cells #[.string s] 9)).heap.size (w.alloc (.cells #[.string s] 9)) w4) :
    ∃ A c, Aside0 ((Kd.int .i64).R 3 w4 (w.heap.size + 1) (fun _ => True) (.slice A s.size c) (filled s 0)) ∧ v = .slice A s.size c ∧ s.size ≤ c ∧ Aside0 (Below w.heap.size w w4) ∧ Aside0 (w4.cell? ⟨w.heap.size, 0, none⟩ = some (.string s) ∧ w.heap.size + 1 ≤ w4.heap.size) := by
  have e : List.replicate (s.size : Int).toNat (0 : Int) = filled s 0 := by
    unfold filled
    simp
  rw [e] at h
  have hz : (w.alloc (.cells #[.string s] 9)).heap.size = w.heap.size + 1 := by simp
  rw [hz] at h hb
  obtain ⟨A, c, rfl, hl, hc⟩ := Kd.R_reads h
  rw [filled_len s 0 (by omega)] at h hl ⊢
  refine ⟨A, c, ⟨h⟩, rfl, hl, ⟨?_⟩, ⟨?_, ?_⟩⟩
  · exact below_then (below_alloc (Below.refl _ _) _) (by rw [hz]; omega) (by rw [hz]; exact hb)
  · refine (hb.cell (p := ⟨w.heap.size, 0, none⟩) (by simp)).trans ?_
    simp
  · rw [← hz]
    exact hb.size

set_option maxHeartbeats 1000000 in
set_option maxRecDepth 100000 in
theorem calls (s : ByteArray) (w : World) (hs : s.size ≤ 1048576) :
    Calls Try.prog 38 #[.string s] w fun e w' => ∃ v0_ : Value, e = .returned (v0_) ∧ Kd.R (Kd.int .i64) 3 w' w.heap.size (fun _ => True) v0_ (sufs s) ∧ Below w.heap.size w w' := by
  have HS := Aside0.mk hs
  have HB := Aside0.mk (Below.refl w.heap.size w)
  have hs2 : (s.size : Int) ≤ 1048576 := by omega
  clear hs
  go_enter Try.func38, Try.ntmps38
  go_wp2_with (first | ((with_reducible refine gate_dst (N := 7) rfl ?_); refine Kd.R_make (Kd.int .i64) _ 3 rfl (N := 7) rfl 22 _ _ rfl (s.size : Int) rfl rfl Try.underlying22 (.int .i64 0) 8 info3 rfl (by decide) (by omega) 0 (ok := fun _ => True) (okp := fun _ => True) rfl (fun _ hk => hk) trivial (by omega) (by omega) (Below.refl _ _) (Nat.le_refl _) ?_; intro v182 w4 ho5 hb hg_ hnew_; clear hg_ hnew_; obtain ⟨A9, c9, HO, HA, HL, HB2, HC⟩ := made s w v182 w4 ho5 hb; clear ho5 hb; subst HA))
  have hA : s.size = 0 ∨ 0 < s.size := by omega
  go_loopg [10] s.size (fun kq v10 w' => ∃ i : Nat, v10 = .int .i64 (i : Int) ∧ i ≤ s.size ∧ kq = s.size - i ∧ Aside0 (Kd.R (Kd.int .i64) 3 w' (w.heap.size + 1) (fun _ => True) (.slice A9 s.size c9) (filled s i)) ∧ Aside0 (Below (w.heap.size + 1) w4 w'))
  case atStart => exact ⟨0, rfl, by omega, by omega, HO, ⟨Below.refl _ _⟩⟩
  case round =>
    obtain ⟨i, rfl, hi, hk, HO1, HB3⟩ := hrel
    by_cases hlt : i < s.size
    · obtain ⟨g, cg, eg, gb, gl, cells, HG⟩ := Kd.R_form HO1.out (by rw [filled_len s i hi]; omega)
      rw [filled_len s i hi] at eg
      injection eg with e1 e2 e3
      subst e1 e3
      obtain ⟨hx, hf⟩ := Kd.R_celln 0 HO1.out (i : Int) (by omega) (by omega)
      rw [Int.toNat_natCast] at hx hf
      have HP := Aside0.mk (Kd.R_putn HO1.out (i : Int) (i : Int))
      rw [Int.toNat_natCast, filled_set s i hlt] at HP
      have GB := Aside0.mk gb
      clear HG gl gb
      have hi2 : (i : Int) < (s.size : Int) := by omega
      go_wp2
      go_roundg (s.size - (i + 1))
      case measure => omega
      case rel => exact ⟨i + 1, by go_num, by omega, by omega, ⟨HP.out⟩, ⟨HB3.out.setCell GB.out _⟩⟩
    · obtain rfl : i = s.size := by omega
      have HC2 := Aside0.mk ((HB3.out.cell (p := ⟨w.heap.size, 0, none⟩) (by simp)).trans HC.out.1)
      have HZ := Aside0.mk (show w.heap.size < wr.heap.size from by have := HB3.out.size; have := HC.out.2; omega)
      have HBW := Aside0.mk (show Below w.heap.size w wr from HB2.out.trans (HB3.out.mono (by omega)))
      have HC3 := HC
      clear HC HB3 HB2 HO
      rcases hA with hA | hA
      · have HN : ∀ W : World, Calls Try.prog 61 #[.slice A9 s.size c9, (.func (.func 62) #[] #[.pointer (some ⟨w.heap.size, 0, none⟩)])] W fun e w' => e = .returned (.tuple #[]) ∧ w' = W := fun W => by
          rw [hA]
          exact Try.slices_SortFunc_none_f61 (α := Nat) A9 c9 _ W
        have HE := Aside0.mk hA
        clear hA
        have HN2 := Aside0.mk HN
        clear HN
        go_wp2_with (go_at_call 61; refine (HN2.out _).mono ?_; rintro e w' ⟨rfl, rfl⟩)
        go_ret
        refine ⟨_, rfl, ?_, HBW.out⟩
        have h2 := HO1.out
        rw [filled_all] at h2
        have h3 : places s = [] := List.eq_nil_of_length_eq_zero (by rw [← HE.out]; simp [places])
        rw [show sufs s = (places s).map (fun i => (i.1 : Int)) from by unfold sufs sufP; rw [h3, List.mergeSort_nil]]
        exact Kd.R_lower h2 (by omega)
      · have h2 := HO1.out
        rw [filled_all] at h2
        have h3 := R_cast.1 h2
        have hpl : (places s).length = s.size := by simp [places]
        obtain ⟨g, cg, eg, gb, gl, cells, HG⟩ := Kd.R_form h3 (by omega)
        rw [hpl] at eg
        injection eg with e1 e2 e3
        subst e1 e3
        obtain ⟨hH, hgl, hgb⟩ := R_holds h3
        have HT := Try.slices_SortFunc_total_f61 (encP (s := s)) (fun _ => rfl) cfP swoP 62 #[.pointer (some ⟨w.heap.size, 0, none⟩)] g 0 c9 (places s).toArray wr
          (enters_of Try.func62 (by kernel_rfl) rfl) (lays s w.heap.size HS.out g _ wr HC2.out (by omega) HZ.out) hH hgl (by simp [hpl]; omega) totP
        rw [show (places s).toArray.size = s.size from by simp [hpl], show (places s).toArray.toList = places s from rfl] at HT
        have HT2 := Aside0.mk HT
        have H3 := Aside0.mk h3
        have GB := Aside0.mk hgb
        clear HT h2 h3 hpl HG gl gb hH hgl hgb
        go_wp2_with (go_at_call 61; refine HT2.out.mono ?_; rintro e w' ⟨rfl, nq, os, hw⟩; have HW := Aside0.mk hw; clear hw)
        go_ret
        have hw := HW.out
        subst hw
        refine ⟨_, rfl, ?_, HBW.out.grown (sort_grown nq os _) (by have := HZ.out; omega) (fun k hk => by injection hk with hk; have := GB.out; omega)⟩
        have h4 := R_sorted H3.out (ys := sufP s) (by unfold sufP; rw [List.length_mergeSort]) nq os
        exact Kd.R_lower (R_cast.2 h4) (by omega)
end Go.Proofs.Ytppmigiknidjhaa.Suf

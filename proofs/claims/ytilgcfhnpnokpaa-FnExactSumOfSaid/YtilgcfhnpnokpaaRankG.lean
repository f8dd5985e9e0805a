/- impl.GoodRankings, by hand. No conditions. -/
import Derived.Test.YtilgcfhnpnokpaaRank
namespace Go.Proofs.Ytilgcfhnpnokpaa.RankG
set_option linter.unusedVariables false
set_option linter.unusedSimpArgs false
open Go.RowKit Go.Maps Go.ChangeMaps Go.Proofs.Ytilgcfhnpnokpaa.PQ Go.Proofs.YtilgcfhnpnokpaaW.PrintWords Go.Proofs.YtilgcfhnpnokpaaW.PrintLast Go.Proofs.YtilgcfhnpnokpaaW.PrintMore Go.Proofs.Ytilgcfhnpnokpaa.Pre

abbrev Rk := S108
theorem lit_calls (A : Option Addr) (c : Nat) (l : List Rank.Sc) (w : World) (hr : Kd.C k110 w A l.length l) (hc : l.length ≤ c) :
    Calls Try.prog 80 #[.agg #[.slice A l.length c]] w fun e w' => e = .returned (.bool (!Rank.rankOK l)) ∧ Below w.heap.size w w' := by
  have HR := Aside0.mk hr
  have HC := Aside0.mk hc
  have HC0 : Aside0 ((w.alloc (.cells #[.slice A l.length c] 108)).cell? ⟨w.heap.size, 0, none⟩ = some (.slice A l.length c)) := ⟨by simp⟩
  go_enter Try.func80, Try.ntmps80
  have hc0 := HC0.out
  clear hr hc
  go_wp2_with (first | (go_at_call 81; with_reducible refine (Rank.ok_calls A c l _ (Kd.C_alloc HR.out _) HC.out).mono ?_; rintro e w2 ⟨rfl, hb⟩; have HB := Aside0.mk (below_then (below_alloc (Below.refl w.heap.size w) _) (by simp) hb); clear hb))
  go_ret
  exact ⟨rfl, HB.out⟩
def bad (x : Rk) : Bool := !Rank.rankOK x.f0
def good (l : List Rk) : Bool := decide (l.length ≤ 5) && !l.any bad
set_option maxHeartbeats 1000000 in
theorem index_calls (A : Option Addr) (c : Nat) (l : List Rk) (w : World) (hr : Kd.C k108 w A l.length l) (hc : l.length ≤ c) (hlen : l.length ≤ 5) :
    Calls Try.prog 105 #[.slice A l.length c, .func (.func 80) #[] #[]] w fun e w' => ∃ r : Int, e = .returned (.int .i64 r) ∧ decide ((0 : Int) ≤ r) = l.any bad ∧ Below w.heap.size w w' := by
  have HR := Aside0.mk hr
  have HL := Aside0.mk hlen
  go_enter Try.func105, Try.ntmps105
  go_wp2
  go_loopg [8] l.length (fun kq v8 w' => ∃ i : Nat, v8 = .int .i64 (i : Int) ∧ i ≤ l.length ∧ kq = l.length - i ∧ Aside0 ((l.take i).any bad = false) ∧ Aside0 (Below w.heap.size w w'))
  case atStart => exact ⟨0, rfl, by omega, by omega, ⟨by simp⟩, ⟨Below.refl _ _⟩⟩
  case round =>
    obtain ⟨i, rfl, hi, hk, HE, HB⟩ := hrel
    by_cases hlt : i < l.length
    · have HI := Aside0.mk hlt
      have p1 : (0 : Int) ≤ (i : Int) := by omega
      have q1 : (i : Int) < (l.length : Int) := by omega
      obtain ⟨ad, A1, c1, rfl, hx0, hl1, hC1⟩ := at_T108 HR.out (i : Int) p1 q1
      replace hx0 := (HB.out.cell (World.block_lt_of_cell? w _ hx0)).trans hx0
      rw [Int.toNat_natCast] at hx0
      have HC1 := Aside0.mk hC1
      have HL1 := Aside0.mk hl1
      obtain ⟨x, hxe⟩ : ∃ x, x = rd_T108 l (i : Int) := ⟨_, rfl⟩
      rw [← hxe] at hx0 HC1 HL1
      have HX := Aside0.mk hxe
      have e1 : l[i] = x := by
        rw [hxe]
        unfold rd_T108
        rw [Int.toNat_natCast, List.getD_eq_getElem?_getD, List.getElem?_eq_getElem hlt]
        rfl
      have HT : Aside0 ((l.take (i + 1)).any bad = bad x) := ⟨by rw [List.take_succ_eq_append_getElem hlt, List.any_append, HE.out, e1]; simp⟩
      have HM : Aside0 (bad x = true → l.any bad = true) := ⟨fun h => List.any_eq_true.2 ⟨x, by rw [← e1]; exact List.getElem_mem hlt, h⟩⟩
      clear hxe hC1 hl1 e1
      replace p1 := eq_true p1
      replace q1 := eq_true q1
      by_cases hb0 : bad x = true
      · replace hb0 := Aside0.mk hb0
        go_wp2_with (first | (go_at_call 80; go_loud (with_reducible refine (lit_calls A1 c1 x.f0 _ (Kd.C_below HC1.out HB.out) HL1.out).mono ?_; rintro e w2 ⟨rfl, hb⟩; rw [← bad.eq_1, hb0.out]; have HB2 := Aside0.mk (below_step HB.out hb); clear hb)))
        go_ret
        exact ⟨_, rfl, by rw [HM.out hb0.out]; simp, HB2.out⟩
      · replace hb0 := Aside0.mk (Bool.eq_false_iff.2 hb0)
        go_wp2_with (first | (go_at_call 80; go_loud (with_reducible refine (lit_calls A1 c1 x.f0 _ (Kd.C_below HC1.out HB.out) HL1.out).mono ?_; rintro e w2 ⟨rfl, hb⟩; rw [← bad.eq_1, hb0.out]; have HB2 := Aside0.mk (below_step HB.out hb); clear hb)))
        go_roundg (l.length - (i + 1))
        case measure => have := HI.out; omega
        case rel => exact ⟨i + 1, by have := HL.out; have := HI.out; go_num, by have := HI.out; omega, by omega, ⟨HT.out.trans hb0.out⟩, HB2⟩
    · obtain rfl : i = l.length := by omega
      go_wp2
      go_ret
      exact ⟨-1, rfl, by rw [show l.any bad = false from by have h_ := HE.out; rwa [List.take_length] at h_]; rfl, HB.out⟩
theorem contains_calls (A : Option Addr) (c : Nat) (l : List Rk) (w : World) (hr : Kd.C k108 w A l.length l) (hc : l.length ≤ c) (hlen : l.length ≤ 5) :
    Calls Try.prog 79 #[.slice A l.length c, .func (.func 80) #[] #[]] w fun e w' => e = .returned (.bool (l.any bad)) ∧ Below w.heap.size w w' := by
  have HR := Aside0.mk hr
  go_enter Try.func79, Try.ntmps79
  go_wp2_with (first | (go_at_call 105; with_reducible refine (index_calls A c l _ HR.out hc hlen).mono ?_; rintro e w2 ⟨r, rfl, hr2, hb⟩; have HB2 := Aside0.mk hb; clear hb))
  go_ret
  exact ⟨rfl, HB2.out⟩
theorem calls (A : Option Addr) (c : Nat) (l : List Rk) (w : World) (hr : Kd.C k108 w A l.length l) (hc : l.length ≤ c) :
    Calls Try.prog 41 #[.slice A l.length c] w fun e w' => e = .returned (.bool (good l)) ∧ Below w.heap.size w w' := by
  have HR := Aside0.mk hr
  have HC := Aside0.mk hc
  go_enter Try.func41, Try.ntmps41
  by_cases h5 : l.length ≤ 5
  · have h5b : decide ((l.length : Int) ≤ 5) = true := decide_eq_true (by omega)
    have H5 := Aside0.mk h5
    clear h5
    go_wp2_with (first | (go_at_call 79; with_reducible refine (contains_calls A c l _ HR.out HC.out H5.out).mono ?_; rintro e w2 ⟨rfl, hb⟩; have HB2 := Aside0.mk hb; clear hb))
    go_ret
    refine ⟨?_, HB2.out⟩
    unfold good
    rw [decide_eq_true H5.out]
    simp
  · have h5b : decide ((l.length : Int) ≤ 5) = false := decide_eq_false (by omega)
    have H5 := Aside0.mk h5
    clear h5
    go_wp2
    go_ret
    refine ⟨?_, Below.refl _ _⟩
    unfold good
    rw [decide_eq_false H5.out]
    simp
end Go.Proofs.Ytilgcfhnpnokpaa.RankG

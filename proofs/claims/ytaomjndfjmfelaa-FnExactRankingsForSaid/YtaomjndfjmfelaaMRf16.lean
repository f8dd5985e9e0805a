/- Several texts in one: what the claim's last text rests on. No conditions. -/
import Derived.Test.YtaomjndfjmfelaaMRf4
import Derived.Test.YtaomjndfjmfelaaMRf6
import Derived.Maps.OwnSet
import Derived.Maps.OwnOps
import Derived.Test.YtaomjndfjmfelaaMRf7
import Derived.Test.YtaomjndfjmfelaaMRf8
section
namespace Go.Proofs.Ytaomjndfjmfelaa.Rank
set_option linter.unusedVariables false
set_option linter.unusedSimpArgs false
open Go.RowKit Go.Maps Go.ChangeMaps Go.Proofs.Ytaomjndfjmfelaa.PQ Go.Proofs.YtaomjndfjmfelaaW.PrintWords Go.Proofs.YtaomjndfjmfelaaW.PrintLast Go.Proofs.YtaomjndfjmfelaaW.PrintMore Go.Proofs.Ytaomjndfjmfelaa.Pre
abbrev Sc := S79
/-- One stands ahead of another one. -/
def ahead (y x : Sc) : Bool := decide (x.f1 < y.f1 ∨ (x.f1 = y.f1 ∧ y.f0 < x.f0))
end Go.Proofs.Ytaomjndfjmfelaa.Rank
end

section
namespace Go.Proofs.Ytaomjndfjmfelaa.Meet
set_option linter.unusedVariables false
set_option linter.unusedSimpArgs false
open Go.RowKit Go.Proofs.Ytaomjndfjmfelaa.PQ Go.Proofs.YtaomjndfjmfelaaW.PrintWords Go.Proofs.YtaomjndfjmfelaaW.PrintLast Go.Proofs.YtaomjndfjmfelaaW.PrintMore Go.Proofs.Ytaomjndfjmfelaa.Pre Go.Proofs.Ytaomjndfjmfelaa.Rank
def isId (id : Int) (x : Sc) : Bool := x.f0 == id
end Go.Proofs.Ytaomjndfjmfelaa.Meet
end

section
namespace Go.Proofs.Ytaomjndfjmfelaa.RankG
set_option linter.unusedVariables false
set_option linter.unusedSimpArgs false
open Go.RowKit Go.Maps Go.ChangeMaps Go.Proofs.Ytaomjndfjmfelaa.PQ Go.Proofs.YtaomjndfjmfelaaW.PrintWords Go.Proofs.YtaomjndfjmfelaaW.PrintLast Go.Proofs.YtaomjndfjmfelaaW.PrintMore Go.Proofs.Ytaomjndfjmfelaa.Pre
abbrev Rk := S77
end Go.Proofs.Ytaomjndfjmfelaa.RankG
end

section
namespace Go.Proofs.Ytaomjndfjmfelaa.RankP
set_option linter.unusedVariables false
set_option linter.unusedSimpArgs false
open Go.RowKit Go.Proofs.Ytaomjndfjmfelaa.PQ Go.Proofs.YtaomjndfjmfelaaW.PrintWords Go.Proofs.YtaomjndfjmfelaaW.PrintLast Go.Proofs.Ytaomjndfjmfelaa.Pre Go.Proofs.Ytaomjndfjmfelaa.Rank Go.Proofs.Ytaomjndfjmfelaa.RankG
theorem rd_at (l : List Sc) (i : Nat) (h : i < l.length) : rd_T79 l (i : Int) = l[i] := by
 unfold rd_T79
 rw [Int.toNat_natCast, List.getD_eq_getElem?_getD, List.getElem?_eq_getElem h]
 rfl
theorem rd_atR (l : List Rk) (i : Nat) (h : i < l.length) : rd_T77 l (i : Int) = l[i] := by
 unfold rd_T77
 rw [Int.toNat_natCast, List.getD_eq_getElem?_getD, List.getElem?_eq_getElem h]
 rfl
theorem less_ev (y x : Sc) : spec_l11Less.f y.f0 y.f1 x.f0 x.f1 = some (Rank.ahead y x) := by
 unfold spec_l11Less.f Rank.ahead
 by_cases h1 : y.f1 > x.f1
 ·
  rw [if_pos h1]
  simp [show x.f1 < y.f1 from h1]
 ·
  rw [if_neg h1]
  by_cases h2 : y.f1 = x.f1
  ·
   rw [if_pos h2]
   simp [h2]
  ·
   rw [if_neg h2]
   have h3 : ¬ x.f1 < y.f1 := h1
   have h4 : ¬ x.f1 = y.f1 := fun e => h2 e.symm
   simp [h3, h4]
end Go.Proofs.Ytaomjndfjmfelaa.RankP
end

section
namespace Go.Proofs.Ytaomjndfjmfelaa.RankS
set_option linter.unusedVariables false
open Go.RowKit Go.Proofs.Ytaomjndfjmfelaa.PQ Go.Proofs.YtaomjndfjmfelaaW.PrintWords Go.Proofs.YtaomjndfjmfelaaW.PrintLast Go.Proofs.Ytaomjndfjmfelaa.Pre Go.Proofs.Ytaomjndfjmfelaa.Rank Go.Proofs.Ytaomjndfjmfelaa.RankG Go.Proofs.Ytaomjndfjmfelaa.RankP

end Go.Proofs.Ytaomjndfjmfelaa.RankS
end

section
namespace Go.Proofs.Ytaomjndfjmfelaa.Meet
set_option linter.unusedVariables false
set_option linter.unusedSimpArgs false
open Go.RowKit Go.Proofs.Ytaomjndfjmfelaa.PQ Go.Proofs.YtaomjndfjmfelaaW.PrintWords Go.Proofs.YtaomjndfjmfelaaW.PrintLast Go.Proofs.YtaomjndfjmfelaaW.PrintMore Go.Proofs.Ytaomjndfjmfelaa.Pre Go.Proofs.Ytaomjndfjmfelaa.Rank Go.Proofs.Ytaomjndfjmfelaa.RankG
theorem cell0 {W : World} {b t : Nat} {u v : Value} (h : W.heap[b]? = some (.cells #[u, v] t (0, 0))) : W.cell? ⟨b, 0, none⟩ = some u := by
 unfold World.cell?
 rw [show W.heap[(⟨b, 0, none⟩ : Addr).block]? = _ from h]
 rfl
theorem cell1 {W : World} {b t : Nat} {u v : Value} (h : W.heap[b]? = some (.cells #[u, v] t (0, 0))) : W.cell? ⟨b, 1, none⟩ = some v := by
 unfold World.cell?
 rw [show W.heap[(⟨b, 1, none⟩ : Addr).block]? = _ from h]
 rfl
theorem at_new (w : World) (o : Obj) : (w.alloc o).heap[w.heap.size]? = some o := by
 show (w.heap.push o)[w.heap.size]? = some o
 simp
theorem lt_some {W : World} {b : Nat} {o : Obj} (h : W.heap[b]? = some o) : b < W.heap.size := by
 rcases Nat.lt_or_ge b W.heap.size with h1 | h1
 ·
  exact h1
 ·
  rw [Array.getElem?_eq_none h1] at h
  cases h
end Go.Proofs.Ytaomjndfjmfelaa.Meet
end

section
namespace Go.Proofs.Ytaomjndfjmfelaa.SoB
set_option linter.unusedVariables false
set_option linter.unusedSimpArgs false
open Go.RowKit Go.Proofs.Ytaomjndfjmfelaa.PQ Go.Proofs.YtaomjndfjmfelaaW.PrintWords Go.Proofs.YtaomjndfjmfelaaW.PrintLast Go.Proofs.Ytaomjndfjmfelaa.Pre
abbrev Sc1 := S79
/-- The marks from a number on. -/
def mkC (n m0 : Nat) : List Sc1 := (List.range n).map fun (j : Nat) => ⟨((m0 + 2 * j : Nat) : Int), ((m0 + 2 * j + 1 : Nat) : Int)⟩
theorem mkC_len (n m0 : Nat) : (mkC n m0).length = n := by simp [mkC]
theorem mark_evC (l : List Sc1) (m0 : Nat) (hm : m0 ≤ 1073741824) (hl : l.length ≤ 1048576) : Evt (fun k => laws_markScoredS.f k l (m0 : Int)) (((m0 + 2 * l.length : Nat) : Int), mkC l.length m0) := by
 unfold laws_markScoredS.f
 have key : ∀ (m i : Nat) (acc : List Sc1), i + m = l.length → acc.length = l.length → (∀ j, j < i → acc[j]? = (mkC l.length m0)[j]?) →
   Evt (fun k => laws_markScoredS.l0 k acc ((m0 + 2 * i : Nat) : Int) (i : Int)) (((m0 + 2 * l.length : Nat) : Int), mkC l.length m0) := by
  intro m
  induction m with
  | zero =>
   intro i acc hi ha hj
   refine Evt.step (fun k => laws_markScoredS.l0.eq_2 _ _ _ k) (Evt.neg (by omega) ((Evt.const _).eq ?_))
   rw [show i = l.length by omega]
   congr 1
   apply List.ext_getElem?
   intro j
   by_cases hlt : j < l.length
   ·
    exact hj j (by omega)
   ·
    rw [List.getElem?_eq_none (by omega), List.getElem?_eq_none (by rw [mkC_len]; omega)]
  | succ m ih =>
   intro i acc hi ha hj
   have hia : i < acc.length := by omega
   have e : ∀ y : Sc1, rd_T79 (acc.set i y) (i : Int) = y := by
    intro y
    rw [RankP.rd_at _ i (by simpa using hia)]
    simp
   refine Evt.step (fun k => laws_markScoredS.l0.eq_2 _ _ _ k) (Evt.pos (by omega) (Evt.pos (by omega) (Evt.bsome ?_)))
   rw [w64 (n := ((m0 + 2 * i : Nat) : Int) + 1) (by omega) (by omega), show ((m0 + 2 * i : Nat) : Int) + 1 = ((m0 + 2 * i + 1 : Nat) : Int) by omega]
   rw [w64 (n := ((m0 + 2 * i + 1 : Nat) : Int) + 1) (by omega) (by omega), show ((m0 + 2 * i + 1 : Nat) : Int) + 1 = ((m0 + 2 * (i + 1) : Nat) : Int) by omega]
   rw [w64 (n := (i : Int) + 1) (by omega) (by omega), show (i : Int) + 1 = ((i + 1 : Nat) : Int) by omega]
   simp only [Int.toNat_natCast, e, List.set_set]
   refine ih (i + 1) _ (by omega) (by simp; omega) (fun j hlt => ?_)
   by_cases hji : j = i
   ·
    subst hji
    rw [List.getElem?_set_self hia]
    unfold mkC
    rw [List.getElem?_map, List.getElem?_range (by omega)]
    rfl
   ·
    rw [List.getElem?_set_ne (by omega)]
    exact hj j (by omega)
 exact key l.length 0 l (by omega) rfl (fun j h => absurd h (Nat.not_lt_zero _))
theorem held_evC (n m0 : Nat) (hm : m0 ≤ 1073741824) (hl : n ≤ 1048576) : Evt (fun k => laws_heldScoredS.f k (mkC n m0) (m0 : Int)) ((m0 + 2 * n : Nat) : Int) := by
 unfold laws_heldScoredS.f
 have hlen := mkC_len n m0
 have key : ∀ (m i : Nat), i + m = n → Evt (fun k => laws_heldScoredS.l0 k (mkC n m0) ((m0 + 2 * i : Nat) : Int) (i : Int)) ((m0 + 2 * n : Nat) : Int) := by
  intro m
  induction m with
  | zero =>
   intro i hi
   refine Evt.step (fun k => laws_heldScoredS.l0.eq_2 _ _ _ k) (Evt.neg (by omega) ((Evt.const _).eq ?_))
   rw [show i = n by omega]
  | succ m ih =>
   intro i hi
   have er : rd_T79 (mkC n m0) (i : Int) = ⟨((m0 + 2 * i : Nat) : Int), ((m0 + 2 * i + 1 : Nat) : Int)⟩ := by
    rw [RankP.rd_at _ i (by omega)]
    unfold mkC
    simp
   refine Evt.step (fun k => laws_heldScoredS.l0.eq_2 _ _ _ k) (Evt.pos (by omega) (Evt.pos (by omega) (Evt.pos (by rw [er]) ?_)))
   rw [w64 (n := ((m0 + 2 * i : Nat) : Int) + 1) (by omega) (by omega), show ((m0 + 2 * i : Nat) : Int) + 1 = ((m0 + 2 * i + 1 : Nat) : Int) by omega]
   refine Evt.pos (by rw [er]) ?_
   rw [w64 (n := ((m0 + 2 * i + 1 : Nat) : Int) + 1) (by omega) (by omega), show ((m0 + 2 * i + 1 : Nat) : Int) + 1 = ((m0 + 2 * (i + 1) : Nat) : Int) by omega]
   rw [w64 (n := (i : Int) + 1) (by omega) (by omega), show (i : Int) + 1 = ((i + 1 : Nat) : Int) by omega]
   exact ih (i + 1) (by omega)
 exact key n 0 (by omega)
end Go.Proofs.Ytaomjndfjmfelaa.SoB
end

section
namespace Go.Proofs.Ytaomjndfjmfelaa.MkQ
set_option linter.unusedVariables false
set_option linter.unusedSimpArgs false
open Go.RowKit Go.Proofs.Ytaomjndfjmfelaa.PQ Go.Proofs.YtaomjndfjmfelaaW.PrintWords Go.Proofs.YtaomjndfjmfelaaW.PrintLast Go.Proofs.YtaomjndfjmfelaaW.PrintMore Go.Proofs.Ytaomjndfjmfelaa.Pre Go.Proofs.Ytaomjndfjmfelaa.Shp
abbrev Rk := S77
def tot : List Rk → Nat
 | [] => 0
 | r :: l => r.f0.length + tot l
def mkQ : Nat → List Rk → List Rk
 | _, [] => []
 | m, r :: l => ⟨SoB.mkC r.f0.length m⟩ :: mkQ (m + 2 * r.f0.length) l
theorem mkQ_len : ∀ (l : List Rk) (m : Nat), (mkQ m l).length = l.length
 | [], _ => rfl
 | r :: l, m => by
  show (mkQ _ l).length + 1 = l.length + 1
  rw [mkQ_len l]
theorem tot_app : ∀ (a b : List Rk), tot (a ++ b) = tot a + tot b
 | [], b => by
  show tot b = 0 + tot b
  omega
 | r :: a, b => by
  show r.f0.length + tot (a ++ b) = (r.f0.length + tot a) + tot b
  rw [tot_app a b]
  omega
theorem mkQ_app : ∀ (a b : List Rk) (m : Nat), mkQ m (a ++ b) = mkQ m a ++ mkQ (m + 2 * tot a) b
 | [], b, m => rfl
 | r :: a, b, m => by
  show _ :: mkQ _ (a ++ b) = (_ :: mkQ _ a) ++ _
  rw [mkQ_app a b, show m + 2 * tot (r :: a) = m + 2 * r.f0.length + 2 * tot a by show m + 2 * (r.f0.length + tot a) = _; omega]
  rfl
theorem take_last {α : Type} (l : List α) (i : Nat) (h : i < l.length) : l.take (i + 1) = l.take i ++ [l[i]] := List.take_succ_eq_append_getElem h
theorem tot_step (l : List Rk) (i : Nat) (h : i < l.length) : tot (l.take (i + 1)) = tot (l.take i) + l[i].f0.length := by
 rw [take_last l i h, tot_app]
 show _ + (l[i].f0.length + 0) = _
 omega
theorem tot_le (B : Nat) : ∀ (l : List Rk), (∀ x ∈ l, x.f0.length ≤ B) → tot l ≤ l.length * B
 | [], _ => Nat.zero_le _
 | r :: l, h => by
  have h1 := h r (List.mem_cons_self ..)
  have h2 := tot_le B l (fun x hx => h x (List.mem_cons_of_mem _ hx))
  show r.f0.length + tot l ≤ (l.length + 1) * B
  rw [Nat.add_mul]
  omega
theorem set_next (l : List Rk) (m i : Nat) (h : i < l.length) : (mkQ m (l.take i) ++ l.drop i).set i ⟨SoB.mkC l[i].f0.length (m + 2 * tot (l.take i))⟩ = mkQ m (l.take (i + 1)) ++ l.drop (i + 1) := by
 have hl : (mkQ m (l.take i)).length = i := by rw [mkQ_len, List.length_take]; omega
 rw [List.drop_eq_getElem_cons h, List.set_append_right _ _ (by omega), hl, Nat.sub_self, List.set_cons_zero, take_last l i h, mkQ_app, List.append_assoc]
 rfl
theorem get_mid (l : List Rk) (m i : Nat) (z : Rk) (h : i < l.length) : (mkQ m (l.take i) ++ l.drop i).getD i z = l[i] := by
 have hl : (mkQ m (l.take i)).length = i := by rw [mkQ_len, List.length_take]; omega
 rw [List.getD_eq_getElem?_getD, List.getElem?_append_right (by omega), hl, Nat.sub_self, List.drop_eq_getElem_cons h]
 rfl
theorem ev_mark (l : List Rk) (i : Nat) (h : i < l.length) (hx : l[i].f0.length ≤ 1000) (z : Nat) (hz : z ≤ 1073741824) : ∃ k, laws_markScoredS.f k l[i].f0 (z : Int) = some (((z + 2 * l[i].f0.length : Nat) : Int), SoB.mkC l[i].f0.length z) :=
 (SoB.mark_evC l[i].f0 z hz (by omega)).ex
set_option maxHeartbeats 2000000 in
set_option maxRecDepth 100000 in
theorem mkQ_calls (w0 : World) (S0 : Nat → Prop) (v : Value) (l : List Rk) (m : Nat) (W : World) (hB : Below w0.heap.size w0 W) (hR : Kd.S k77 77 W w0.heap.size S0 v l) (hl : l.length ≤ 1000) (hx : ∀ x ∈ l, x.f0.length ≤ 1000) (hm : m ≤ 1048576) :
  Calls Try.prog 51 #[v, .int .i64 (m : Int)] W fun e W' => e = .returned (.int .i64 ((m + 2 * tot l : Nat) : Int)) ∧ Kd.S k77 77 W' w0.heap.size (fun k => S0 k ∨ W.heap.size ≤ k) v (mkQ m l) ∧ Below w0.heap.size w0 W' ∧ Kept W W' S0 := by
 have HM := aM hm
 have HL := aM hl
 have HX := aM hx
 have HR := aM hR
 have HB0 := aM hB
 by_cases h0 : l.length = 0
 ·
  obtain ⟨A, c, rfl⟩ := Kd.S_slice hR
  have e0 := List.length_eq_zero_iff.1 h0
  subst e0
  clear hR hl hm hx hB h0 HX
  go_enter Try.func51, Try.ntmps51
  go_wp2
  go_loopg [1, 5] 1 (fun kq v1 v5 w' => v1 = .int .i64 (m : Int) ∧ v5 = .int .i64 0 ∧ w' = W)
  case atStart => exact ⟨rfl, rfl, rfl⟩
  case round =>
   obtain ⟨rfl, rfl, rfl⟩ := hrel
   go_wp2
   go_ret
   exact ⟨rfl, Kd.S_mono HR.out (fun k hk => .inl hk), HB0.out, Kept.refl _ _⟩
 ·
  obtain ⟨g, cap, rfl, hb0, hg0, _⟩ := Kd.S_form hR (by omega)
  clear hR hl hm hx hB hb0 hg0
  go_enter Try.func51, Try.ntmps51
  go_wp2
  go_loopg [1, 5] l.length (fun kq v1 v5 w' => ∃ (i z : Nat), v1 = .int .i64 (z : Int) ∧ Aside0 (z = m + 2 * tot (l.take i)) ∧ v5 = .int .i64 (i : Int) ∧ i ≤ l.length ∧ kq = l.length - i ∧ Aside0 (Kd.S k77 77 w' w0.heap.size (fun k => S0 k ∨ W.heap.size ≤ k) (.slice (some ⟨g, 0, none⟩) l.length cap) (mkQ m (l.take i) ++ l.drop i)) ∧ Aside0 (Below w0.heap.size w0 w') ∧ Aside0 (Kept W w' S0))
  case atStart => exact ⟨0, m, rfl, ⟨rfl⟩, rfl, by omega, by omega, ⟨Kd.S_mono HR.out (fun k hk => .inl hk)⟩, HB0, ⟨Kept.refl _ _⟩⟩
  case round =>
   clear h0
   obtain ⟨i, z, rfl, HZ, rfl, hi, hk, HS, HB, HK⟩ := hrel
   by_cases hlt : i < l.length
   ·
    have HLT := aM hlt
    have HKQ := aM hk
    obtain ⟨oki, ce, hcl, hM, hcc, hok, hH⟩ := Kd.S_lend HS.out z77 (i : Int) (by omega) (by omega)
    rw [Int.toNat_natCast, get_mid l m i _ hlt] at hM
    obtain ⟨u, hu, hU⟩ := k77_openM hM
    subst hu
    have hcell : wr.cell? ⟨g, i, none⟩ = some u := by
     have h1 := hcc 0 u rfl
     rw [Int.toNat_natCast] at h1
     have e : i * Kd.sz k77 + 0 = i := by
      show i * 1 + 0 = i
      omega
     rw [e] at h1
     exact h1
    have hxi := HX.out _ (List.getElem_mem hlt)
    have htl := tot_le 1000 (l.take i) (fun x hx => HX.out x (List.mem_of_mem_take hx))
    have HZL : Aside0 (z ≤ 1073741824) := ⟨by rw [HZ.out]; have h1 := HM.out; have h2 := HL.out; rw [List.length_take] at htl; have h3 : min i l.length * 1000 ≤ 1000 * 1000 := Nat.mul_le_mul_right _ (by omega); omega⟩
    obtain ⟨km, hkm⟩ := ev_mark l i hlt hxi z HZL.out
    have HST := aM (tot_step l i HLT.out)
    have HSN := aM (set_next l m i HLT.out)
    rw [← HZ.out] at HSN
    obtain ⟨row, hrow⟩ : ∃ row, row = (l[i]'HLT.out).f0 := ⟨_, rfl⟩
    simp only [← hrow] at hU hkm HST HSN hxi
    have HU := aM hU
    have HH := aM hH
    have HKM := aM hkm
    have HOK := aM hok
    have HXI := aM hxi
    obtain ⟨Au, cu, eu⟩ := Kd.R_slice hU
    subst eu
    have hlt2 : (i : Int) < (l.length : Int) := by omega
    have hl2 : (l.length : Int) ≤ 1000 := by have := HL.out; omega
    clear hcl hM hcc hok hH hU hkm hrow hlt hk hi htl hxi
    go_wp2_with (go_at_call 52; go_loud ((with_reducible refine (laws_markScoredS.calls km (fun k => some k = (Value.slice Au row.length cu).ownBlock) (.slice Au row.length cu) row (z : Int) _ _ w0 _ HB.out (Kd.R_tight rfl HU.out) HKM.out).mono ?_); rintro e w3 ⟨rfl, hy, hb3, hk3⟩; have HY := aM (Kd.R_tight rfl hy); have HB3 := aM hb3; have HK3 := aM (Kept.then_ HK.out hk3 (fun k hk => (HOK.out k (HU.out.1 k hk.symm)).1)); have HH3 := aM (Kd.H_step HH.out (fun k _ hn hlt => hk3.2 k hlt (fun he => hn (HU.out.1 k he.symm)))); clear hy hb3 hk3))
    have HS3 := aM (Kd.H_back HH3.out (x' := (⟨SoB.mkC row.length z⟩ : Rk)) (okp := fun k => some k = (Value.slice Au row.length cu).ownBlock) (k77_mkM _ _ _ (⟨SoB.mkC row.length z⟩ : Rk) (by have := HY.out; exact this)) (fun k hk => HU.out.1 k hk.symm))
    go_roundg (l.length - (i + 1))
    case measure => have := HLT.out; have := HKQ.out; omega
    case rel =>
     refine ⟨i + 1, z + 2 * row.length, rfl, ⟨?_⟩, by go_num, HLT.out, rfl, ⟨?_⟩, HB3, HK3⟩
     ·
      have h1 := HZ.out
      have h2 := HST.out
      omega
     ·
      have h1 := HS3.out
      rw [Int.toNat_natCast, HSN.out] at h1
      exact h1
   ·
    obtain rfl : i = l.length := by omega
    have HE : Aside0 (z = m + 2 * tot l) := ⟨by rw [HZ.out, List.take_length]⟩
    clear hi hlt hk
    go_wp2
    go_ret
    rw [← HE.out]
    have h1 := HS.out
    rw [List.take_length, List.drop_length, List.append_nil] at h1
    exact ⟨rfl, h1, HB.out, HK.out⟩
/-- The marks are held. -/
theorem heldQ_ev (l : List Rk) (m : Nat) (hl : l.length ≤ 1000) (hx : ∀ x ∈ l, x.f0.length ≤ 1000) (hm : m ≤ 1048576) : Evt (fun k => laws_heldRankingS.f k (mkQ m l) (m : Int)) ((m + 2 * tot l : Nat) : Int) := by
 unfold laws_heldRankingS.f
 have hlen := mkQ_len l m
 have key : ∀ (n i : Nat), i + n = l.length → Evt (fun k => laws_heldRankingS.l0 k (mkQ m l) ((m + 2 * tot (l.take i) : Nat) : Int) (i : Int)) ((m + 2 * tot l : Nat) : Int) := by
  intro n
  induction n with
  | zero =>
   intro i hi
   refine Evt.step (fun k => laws_heldRankingS.l0.eq_2 _ _ _ k) (Evt.neg (by omega) ((Evt.const _).eq ?_))
   rw [List.take_of_length_le (by omega)]
  | succ n ih =>
   intro i hi
   have hil : i < l.length := by omega
   have hq : rd_T77 (mkQ m l) (i : Int) = ⟨SoB.mkC l[i].f0.length (m + 2 * tot (l.take i))⟩ := by
    rw [RankP.rd_atR _ i (by omega)]
    have h1 : (mkQ m l)[i]? = some ⟨SoB.mkC l[i].f0.length (m + 2 * tot (l.take i))⟩ := by
     conv => lhs; rw [← List.take_append_drop i l, List.drop_eq_getElem_cons hil, mkQ_app]
     rw [List.getElem?_append_right (by rw [mkQ_len, List.length_take]; omega), mkQ_len, List.length_take, Nat.min_eq_left (by omega), Nat.sub_self]
     rfl
    rw [List.getElem?_eq_getElem (by omega)] at h1
    exact Option.some.inj h1
   have htl := tot_le 1000 (l.take i) (fun x hx2 => hx x (List.mem_of_mem_take hx2))
   have h3 : (l.take i).length * 1000 ≤ 1000 * 1000 := Nat.mul_le_mul_right _ (by rw [List.length_take]; omega)
   have hxi := hx _ (List.getElem_mem hil)
   refine Evt.step (fun k => laws_heldRankingS.l0.eq_2 _ _ _ k) (Evt.pos (by omega) (Evt.pos (by omega) ?_))
   rw [hq]
   refine Evt.bind (SoB.held_evC l[i].f0.length (m + 2 * tot (l.take i)) (by omega) (by omega)) (Evt.neg (by omega) ?_)
   have e : m + 2 * tot (l.take i) + 2 * l[i].f0.length = m + 2 * tot (l.take (i + 1)) := by rw [tot_step l i hil]; omega
   rw [e, w64 (n := (i : Int) + 1) (by omega) (by omega), show (i : Int) + 1 = ((i + 1 : Nat) : Int) by omega]
   exact ih (i + 1) (by omega)
 have h := key l.length 0 (by omega)
 simpa [tot] using h
end Go.Proofs.Ytaomjndfjmfelaa.MkQ
end

section
namespace Go.Proofs.Ytaomjndfjmfelaa.RankT
set_option linter.unusedVariables false
set_option linter.unusedSimpArgs false
open Go.RowKit Go.Proofs.Ytaomjndfjmfelaa.PQ Go.Proofs.YtaomjndfjmfelaaW.PrintWords Go.Proofs.YtaomjndfjmfelaaW.PrintLast Go.Proofs.Ytaomjndfjmfelaa.Pre Go.Proofs.Ytaomjndfjmfelaa.Rank Go.Proofs.Ytaomjndfjmfelaa.RankG Go.Proofs.Ytaomjndfjmfelaa.RankP
theorem eqC_ev (a b : List Sc) (ha : a.length ≤ 1048576) : a = b → Evt (fun k => laws_eqScoredS.f k a b) true := by
 rintro rfl
 unfold laws_eqScoredS.f
 refine Evt.pos rfl ?_
 have key : ∀ (m i : Nat), i + m = a.length → Evt (fun k => laws_eqScoredS.l0 k a a (i : Int)) true := by
  intro m
  induction m with
  | zero => intro i hi; exact Evt.step (fun k => laws_eqScoredS.l0.eq_2 _ _ _ k) (Evt.neg (by omega) (Evt.const _))
  | succ m ih =>
   intro i hi
   refine Evt.step (fun k => laws_eqScoredS.l0.eq_2 _ _ _ k) (Evt.pos (by omega) (Evt.pos (by omega) (Evt.pos (by omega) ?_)))
   have e : ∀ x y : Int, laws_eqScored.f x y x y = some true := fun x y => by unfold laws_eqScored.f; simp
   rw [e]
   refine Evt.bsome (Evt.pos rfl ?_)
   rw [w64 (n := (i : Int) + 1) (by omega) (by omega)]
   exact ih (i + 1) (by omega)
 exact key a.length 0 (by omega)
theorem eqR_ev (a : List Rk) (ha : a.length ≤ 1048576) (hx : ∀ x ∈ a, x.f0.length ≤ 1048576) : Evt (fun k => laws_eqRankingS.f k a a) true := by
 unfold laws_eqRankingS.f
 refine Evt.pos rfl ?_
 have key : ∀ (m i : Nat), i + m = a.length → Evt (fun k => laws_eqRankingS.l0 k a a (i : Int)) true := by
  intro m
  induction m with
  | zero => intro i hi; exact Evt.step (fun k => laws_eqRankingS.l0.eq_2 _ _ _ k) (Evt.neg (by omega) (Evt.const _))
  | succ m ih =>
   intro i hi
   have hi2 : i < a.length := by omega
   refine Evt.step (fun k => laws_eqRankingS.l0.eq_2 _ _ _ k) (Evt.pos (by omega) (Evt.pos (by omega) (Evt.pos (by omega) ?_)))
   rw [rd_atR a i hi2]
   unfold laws_eqRanking.f
   refine Evt.bind (a := true) (Evt.bind (eqC_ev a[i].f0 a[i].f0 (hx _ (List.getElem_mem _)) rfl) (Evt.pos rfl (Evt.const _))) (Evt.pos rfl ?_)
   rw [w64 (n := (i : Int) + 1) (by omega) (by omega)]
   exact ih (i + 1) (by omega)
 exact key a.length 0 (by omega)
end Go.Proofs.Ytaomjndfjmfelaa.RankT
end

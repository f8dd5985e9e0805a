/- Several texts in one: what the claim's last text rests on. No conditions. -/
import Derived.Test.YtjknkeipginpcaaMTe11
import Derived.Test.YtjknkeipginpcaaMTe7
import Derived.Test.YtjknkeipginpcaaMTe6
import Derived.Test.YtjknkeipginpcaaMTe5
import Derived.Test.YtjknkeipginpcaaMTe9
section
/- impl.pairsOf, by hand. No conditions. -/
namespace Go.Proofs.Ytjknkeipginpcaa.Po
attribute [local go_sem] Instr.field asAgg Go.Proofs.Ytjknkeipginpcaa.StrO.leq_s Go.Proofs.Ytjknkeipginpcaa.StrO.gtr_s Go.Proofs.Ytjknkeipginpcaa.StrO.geq_s
set_option linter.unusedVariables false
set_option linter.unusedSimpArgs false
open Go.RowKit Go.Proofs.Ytjknkeipginpcaa.PQ Go.Proofs.YtjknkeipginpcaaW.PrintWords Go.Proofs.YtjknkeipginpcaaW.PrintLast Go.Proofs.YtjknkeipginpcaaW.PrintMore Go.Proofs.Ytjknkeipginpcaa.Pre Go.Proofs.Ytjknkeipginpcaa.Tr Go.Proofs.Ytjknkeipginpcaa.Pr

/-- A key at its place is as it should be. -/
def okAt (ps : List Pa) (i : Nat) : Bool := decide (1 ≤ (rd_T80 ps (i : Int)).f0.size ∧ (rd_T80 ps (i : Int)).f0.size ≤ 40 ∧ (rd_T80 ps (i : Int)).f1.size ≤ 60) && (decide (i = 0) || Op.bytesLess (rd_T80 ps ((i - 1 : Nat) : Int)).f0.toList (rd_T80 ps (i : Int)).f0.toList)
def okP (ps : List Pa) : Bool := (List.range ps.length).all (okAt ps)
theorem okAt_eq (ps : List Pa) (i : Nat) (x : Pa) (hx : x = rd_T80 ps (i : Int)) : okAt ps i = ((decide (1 ≤ x.f0.size ∧ x.f0.size ≤ 40) && decide (x.f1.size ≤ 60)) && (decide (i = 0) || Op.bytesLess (rd_T80 ps ((i - 1 : Nat) : Int)).f0.toList x.f0.toList)) := by
  unfold okAt
  rw [← hx]
  congr 1
  rw [← Bool.decide_and]
  refine decide_eq_decide.2 ?_
  omega
theorem ok_size (ps : List Pa) (i : Nat) (h : okAt ps i = true) : (rd_T80 ps (i : Int)).f0.size ≤ 1048576 := by
  unfold okAt at h
  rw [Bool.and_eq_true] at h
  have := of_decide_eq_true h.1
  omega
def tup (x : Lb) : List UInt8 × List UInt8 × Int × Int := (x.f0.toList, x.f1.toList, x.f2, x.f3)
/-- Both rows of limbs are alike. -/
def eqb (a b : List Lb) : Bool := decide (a.map tup = b.map tup)
theorem rdL (l : List Lb) (i : Nat) (h : i < l.length) : rd_T71 l (i : Int) = l[i] := by
  unfold rd_T71
  simp [h]
theorem limb_ne (x y : Lb) : (!(x.f0.toList == y.f0.toList) || (!(x.f1.toList == y.f1.toList) || (!(x.f2 == y.f2) || (!(x.f3 == y.f3))))) = !decide (tup x = tup y) := by
  unfold tup
  by_cases h0 : x.f0.toList = y.f0.toList <;> by_cases h1 : x.f1.toList = y.f1.toList <;> by_cases h2 : x.f2 = y.f2 <;> by_cases h3 : x.f3 = y.f3 <;> simp [h0, h1, h2, h3]
theorem Limb_ev (a b : List Lb) (ha : a.length ≤ 1048576) : Evt (fun k => impl_Limb.f k a b) (eqb a b) := by
  unfold impl_Limb.f eqb
  by_cases hl : a.length = b.length
  · refine Evt.pos (by omega) ?_
    have key : ∀ (m i : Nat), i + m = a.length → Evt (fun k => impl_Limb.l0 k a b (a.length : Int) (i : Int)) (decide ((a.drop i).map tup = (b.drop i).map tup)) := by
      intro m
      induction m with
      | zero =>
        intro i hi
        refine (Evt.step (fun k => impl_Limb.l0.eq_2 _ _ _ _ k) (Evt.neg (by omega) (Evt.const _))).eq ?_
        rw [List.drop_eq_nil_of_le (by omega), List.drop_eq_nil_of_le (by omega)]
        rfl
      | succ m ih =>
        intro i hi
        have hr := ih (i + 1) (by omega)
        have h1 : i < a.length := by omega
        have h2 : i < b.length := by omega
        have e : ((a.drop i).map tup = (b.drop i).map tup) ↔ (tup a[i] = tup b[i] ∧ (a.drop (i + 1)).map tup = (b.drop (i + 1)).map tup) := by
          rw [List.drop_eq_getElem_cons h1, List.drop_eq_getElem_cons h2, List.map_cons, List.map_cons, List.cons.injEq]
        refine Evt.step (fun k => impl_Limb.l0.eq_2 _ _ _ _ k) (Evt.pos (by omega) (Evt.pos (by omega) (Evt.pos (by omega) (Evt.pos (by omega) ?_))))
        rw [rdL a i h1, rdL b i h2, limb_ne]
        by_cases ht : tup a[i] = tup b[i]
        · refine Evt.neg (by simp [ht]) ?_
          rw [w64 (n := (i : Int) + 1) (by omega) (by omega), show (i : Int) + 1 = ((i + 1 : Nat) : Int) by omega]
          refine hr.eq (decide_eq_decide.2 ?_)
          rw [e]
          exact ⟨fun h => ⟨ht, h⟩, fun h => h.2⟩
        · refine Evt.pos (by simp [ht]) ((Evt.const _).eq ?_)
          symm
          exact decide_eq_false (fun h => ht (e.1 h).1)
    exact key a.length 0 (by omega)
  · refine Evt.neg (by omega) ((Evt.const _).eq ?_)
    symm
    exact decide_eq_false (fun h => hl (by have := congrArg List.length h; simpa using this))
/-- What pairsOf answers. -/
def ansP (L : List Lb) : List Pa × Bool := if L.length = 0 then ([], true) else if L.length > 60 then ([], false) else
  match prs L L.length 0 0 with
  | none => ([], false)
  | some (ps, n2) => if n2 = L.length then (if okP ps = true then (ps, eqb (enc ps.length 0 (ps.map BuI.kv)) L) else ([], false)) else ([], false)
theorem bad_of (ps : List Pa) (i : Nat) (hi : i < ps.length) (h : okAt ps i = false) (L : List Lb) (he : ansP L = if okP ps = true then (ps, eqb (enc ps.length 0 (ps.map BuI.kv)) L) else ([], false)) : ansP L = ([], false) := by
  rw [he, if_neg]
  intro hc
  unfold okP at hc
  have := List.all_eq_true.1 hc i (List.mem_range.2 hi)
  rw [h] at this
  cases this
theorem go_on (ps : List Pa) (i : Nat) (h : ∀ j, j < i → okAt ps j = true) (h2 : okAt ps i = true) : ∀ j, j < i + 1 → okAt ps j = true := by
  intro j hj
  rcases Nat.lt_or_ge j i with h3 | h3
  · exact h j h3
  · obtain rfl : j = i := by omega
    exact h2
theorem good_of (ps : List Pa) (h : ∀ i, i < ps.length → okAt ps i = true) (L : List Lb) (he : ansP L = if okP ps = true then (ps, eqb (enc ps.length 0 (ps.map BuI.kv)) L) else ([], false)) : ansP L = (ps, eqb (enc ps.length 0 (ps.map BuI.kv)) L) := by
  rw [he, if_pos]
  unfold okP
  exact List.all_eq_true.2 fun i hi => h i (List.mem_range.1 hi)
theorem below_drewB {w W : World} (h : Below w.drew.heap.size w.drew W) : Below w.heap.size w W := (Below.refl w.heap.size w).drew.trans h
theorem tko (s : ByteArray) (w : World) : Calls Try.prog 70 #[.string s] w fun e w' => e = .returned (.bool (decide (1 ≤ s.size ∧ s.size ≤ 40))) ∧ ∃ m, w' = w.drewN m := by
  have h : impl_treapKeyOK.f s = some (decide (1 ≤ s.size ∧ s.size ≤ 40)) := by
    unfold impl_treapKeyOK.f impl_within.f
    by_cases h1 : (s.size : Int) ≥ 1
    · rw [if_pos h1]
      refine congrArg some (decide_eq_decide.2 ?_)
      omega
    · rw [if_neg h1]
      refine congrArg some ?_
      symm
      exact decide_eq_false (by omega)
  refine (impl_treapKeyOK.calls s _ w h).mono ?_
  rintro e w' ⟨rfl, ⟨nd, rfl⟩⟩
  exact ⟨rfl, nd, rfl⟩
theorem Kd.reads1 {α : Type} {d : Kd α} {e base : Nat} {ok : Nat → Prop} {w : World} {A : Option Addr} {n c : Nat} {xs : List α} (h : d.R e w base ok (.slice A n c) xs) : d.C w A xs.length xs := by
  obtain ⟨A', c', e', _, h2⟩ := Kd.R_reads h
  injection e' with e1 _ _
  rw [e1]
  exact h2
theorem Kd.reads2 {α : Type} {d : Kd α} {e base : Nat} {ok : Nat → Prop} {w : World} {A : Option Addr} {n c : Nat} {xs : List α} (h : d.R e w base ok (.slice A n c) xs) : xs.length ≤ c := by
  obtain ⟨A', c', e', h1, _⟩ := Kd.R_reads h
  injection e' with _ _ e3
  rw [e3]
  exact h1

set_option maxHeartbeats 4000000 in
set_option maxRecDepth 100000 in
theorem calls (L : List Lb) (A : Option Addr) (c : Nat) (w : World) (hC : Kd.C k71 w A L.length L) (hc1 : L.length ≤ c) (hLL : L.length ≤ 1048576) :
    Calls Try.prog 49 #[.agg #[.slice A L.length c]] w fun e w' => ∃ v0_ : Value, e = .returned (.tuple #[v0_, .bool (ansP L).2]) ∧ Kd.R k80 80 w' w.heap.size (fun _ => True) v0_ (ansP L).1 ∧ Below w.heap.size w w' := by
  have HB := Aside0.mk (Below.refl w.heap.size w)
  have HC := Aside0.mk hC
  have HC1 := Aside0.mk hc1
  obtain ⟨wA, hwA⟩ : ∃ wA, wA = w.alloc (.cells #[.slice A L.length c] 29) := ⟨_, rfl⟩
  have HWA := Aside0.mk hwA
  have HTA := Aside0.mk (show wA.heap[w.heap.size]? = some (.cells #[.slice A L.length c] 29 (0, 0)) by rw [hwA]; exact at_new _ _)
  have HBA := Aside0.mk (show Below w.heap.size w wA by rw [hwA]; exact below_alloc (Below.refl _ _) _)
  have HSA := Aside0.mk (show wA.heap.size = w.heap.size + 1 by rw [hwA]; exact new_size _ _)
  have ct : (w.alloc (.cells #[.slice A L.length c] 29)).cell? ⟨w.heap.size, 0, none⟩ = some (.slice A L.length c) := by rw [← hwA]; exact (blk_cell HTA.out 0).trans rfl
  have hlb : (L.length : Int) ≤ 1048576 := by omega
  by_cases h0 : L.length = 0
  · have ea : ansP L = ([], true) := by unfold ansP; rw [if_pos h0]
    rw [ea]
    have z0 : (L.length : Int) = 0 := by omega
    clear hC hc1 hLL hwA h0 ea
    go_enter Try.func49, Try.ntmps49
    go_wp2
    go_ret2
    exact ⟨_, rfl, Kd.R_nil _ _ _ _ _, by rw [← HWA.out]; exact HBA.out⟩
  · by_cases h60 : L.length > 60
    · have ea : ansP L = ([], false) := by unfold ansP; rw [if_neg h0, if_pos h60]
      rw [ea]
      have z0 : ¬ (L.length : Int) = 0 := by omega
      have z1 : (60 : Int) < (L.length : Int) := by omega
      clear hC hc1 hLL hwA h0 ea h60
      go_enter Try.func49, Try.ntmps49
      go_wp2
      go_ret2
      exact ⟨_, rfl, Kd.R_nil _ _ _ _ _, by rw [← HWA.out]; exact HBA.out⟩
    · have z0 : ¬ (L.length : Int) = 0 := by omega
      have z1 : ¬ (60 : Int) < (L.length : Int) := by omega
      have HL := Aside0.mk (⟨h0, h60⟩ : ¬ L.length = 0 ∧ ¬ L.length > 60)
      obtain ⟨W5, hW5⟩ : ∃ W5, W5 = wA.alloc (.cells #[.int .i64 0] 3) := ⟨_, rfl⟩
      have HW5 := Aside0.mk hW5
      have HN5 := Aside0.mk (show W5.heap[w.heap.size + 1]? = some (.cells #[.int .i64 ((0 : Nat) : Int)] 3 (0, 0)) by rw [hW5, ← HSA.out]; exact at_new _ _)
      have HB5 := Aside0.mk (show Below (w.heap.size + 1) wA W5 by rw [hW5, ← HSA.out]; exact below_alloc (Below.refl _ _) _)
      have HT5 := Aside0.mk (show W5.heap[w.heap.size]? = some (.cells #[.slice A L.length c] 29 (0, 0)) from (HB5.out.block w.heap.size (by have := HSA.out; omega)).trans HTA.out)
      have HS5 := Aside0.mk (show W5.heap.size = w.heap.size + 2 by rw [hW5]; have := new_size wA (.cells #[.int .i64 0] 3); have := HSA.out; omega)
      have cn : (wA.alloc (.cells #[.int .i64 0] 3)).cell? ⟨w.heap.size + 1, 0, none⟩ = some (.int .i64 0) := by rw [← hW5]; exact (blk_cell HN5.out 0).trans rfl
      have fn : (wA.alloc (.cells #[.int .i64 0] 3)).frozen? ⟨w.heap.size + 1, 0, none⟩ = false := by rw [← hW5]; exact blk_frozen HN5.out 0
      have ct5 : W5.cell? ⟨w.heap.size, 0, none⟩ = some (.slice A L.length c) := (blk_cell HT5.out 0).trans rfl
      have HB05 := Aside0.mk (show Below w.heap.size w W5 from HBA.out.trans (HB5.out.mono (by omega)))
      have HP := Aside0.mk (Pr.calls L.length 0 0 (.slice none 0 0) [] w W5 A c L w.heap.size (w.heap.size + 1) W5.heap.size (by omega) hC hc1 HB05.out (Nat.le_refl _) (by have := HSA.out; omega) (by have := HSA.out; have := HS5.out; omega) (Nat.le_refl _) HT5.out HN5.out (Kd.R_nil _ _ _ _ _) (by simp; omega) hLL (Nat.zero_le _))
      clear hC hc1 hLL h0 h60 hW5
      go_enter Try.func49, Try.ntmps49
      go_upto_region 6 with (fail)
      try rw [← HWA.out]
      rw [← HW5.out]
      clear cn fn ct
      go_upto_region 7 with (go_at_call 75; go_loud ((with_reducible refine HP.out.mono ?_); rintro e W6 ⟨v6, out6, nx6, ok6, rfl, hp6, ho6, hn6, hk6, hb6, hv6⟩; have HP6 := Aside0.mk hp6; have HO6 := Aside0.mk ho6; have HN6 := Aside0.mk hn6; have HB6 := Aside0.mk hb6; clear hp6 ho6 hn6 hk6 hb6 hv6))
      have HBw6 := Aside0.mk (show Below w.heap.size w W6 from HB05.out.trans (HB6.out.mono (by have := HSA.out; omega)))
      have HT6 := Aside0.mk ((HB6.out.block w.heap.size (by have := HSA.out; omega)).trans HT5.out)
      have HL6 := Aside0.mk (show W5.heap.size ≤ W6.heap.size from HB6.out.size)
      have ct6 : W6.cell? ⟨w.heap.size, 0, none⟩ = some (.slice A L.length c) := (blk_cell HT6.out 0).trans rfl
      have cn6 : W6.cell? ⟨w.heap.size + 1, 0, none⟩ = some (.int .i64 (nx6 : Int)) := (blk_cell HN6.out 0).trans rfl
      clear ct5
      rcases HP6.out with ⟨hp, hok⟩ | ⟨ps, hp, hok, hout⟩
      · subst hok
        have ea : ansP L = ([], false) := by unfold ansP; rw [if_neg HL.out.1, if_neg HL.out.2, hp]
        have HEA := Aside0.mk ea
        clear ea hp
        go_wp2
        go_ret2
        exact ⟨_, by rw [HEA.out]; rfl, by rw [HEA.out]; exact Kd.R_nil _ _ _ _ _, HBw6.out⟩
      · subst hok
        by_cases hn : nx6 = L.length
        · have ea : ansP L = if okP ps = true then (ps, eqb (enc ps.length 0 (ps.map BuI.kv)) L) else ([], false) := by unfold ansP; rw [if_neg HL.out.1, if_neg HL.out.2, hp]; exact if_pos hn
          have HEA := Aside0.mk ea
          have hpl := prs_len L _ _ _ _ _ (by omega) hp
          have HPL := Aside0.mk (show ps.length ≤ 60 by have := HL.out.2; omega)
          rw [List.nil_append] at hout
          subst hout
          obtain ⟨A6, c6, e6⟩ := Kd.R_slice HO6.out
          subst e6
          have HC6 := Aside0.mk (Kd.reads1 HO6.out)
          have HC61 := Aside0.mk (Kd.reads2 HO6.out)
          have k1 : ((nx6 : Int) != (L.length : Int)) = false := by simp [hn]
          have hpb : (out6.length : Int) ≤ 1048576 := by have := HPL.out; omega
          clear ea hp hpl
          go_upto_region 9 with (fail)
          go_wp2
          go_loopg [32] out6.length (fun kq v32 w' => ∃ i : Nat, v32 = .int .i64 (i : Int) ∧ i ≤ out6.length ∧ kq = out6.length - i ∧ Aside0 (∀ j, j < i → okAt out6 j = true) ∧ Aside0 (Kd.R k80 80 w' W5.heap.size (fun _ => True) (.slice A6 out6.length c6) out6) ∧ Aside0 (w'.heap[w.heap.size]? = some (.cells #[.slice A L.length c] 29 (0, 0))) ∧ Aside0 (Below w.heap.size w w') ∧ Aside0 (W5.heap.size ≤ w'.heap.size))
          case atStart => exact ⟨0, rfl, Nat.zero_le _, rfl, ⟨fun j hj => by omega⟩, HO6, HT6, HBw6, HL6⟩
          case round =>
            clear ct6 cn6 k1
            obtain ⟨i, rfl, hi, hk, HGO, HR, HT, HBw, HLw⟩ := hrel
            by_cases hlt : i < out6.length
            · have HLT := Aside0.mk hlt
              have HC6 := Aside0.mk (Kd.reads1 HR.out)
              obtain ⟨x, hx⟩ : ∃ x, x = rd_T80 out6 (i : Int) := ⟨_, rfl⟩
              obtain ⟨ad, e, g0, g1⟩ := at_T80 HC6.out (i : Int) (by omega) (by omega)
              rw [Int.toNat_natCast] at g0 g1
              subst e
              rw [← hx] at g0 g1
              have HX := Aside0.mk hx
              have hi2 : (i : Int) < (out6.length : Int) := by omega
              clear hx
              go_upto_region 12 with ((with_reducible refine gate_dst (N := 8) rfl ?_); go_loud (refine box_event ?hg (N := 8) ?hd (cs := #[.string (⟨#[]⟩ : ByteArray), .string (⟨#[]⟩ : ByteArray)]) (t := 80) ?hr ?_; (case hd => rfl); (case hg => rfl); (case hr => first | (go_simp; done) | (go_simp; rfl)); intro xb hxb W2 hbox hb; have HXB := Aside0.mk hbox; have HXG := Aside0.mk hxb; have HB2 := Aside0.mk hb; have hz0 : W2.cell? ⟨xb, 0, none⟩ = some (.string (⟨#[]⟩ : ByteArray)) := (blk_cell hbox 0).trans rfl; have hz1 : W2.cell? ⟨xb, 1, none⟩ = some (.string (⟨#[]⟩ : ByteArray)) := (blk_cell hbox 1).trans rfl; have hf0 := blk_frozen hbox 0; have hf1 := blk_frozen hbox 1; clear hbox hxb hb))
              obtain ⟨W3, hW3⟩ : ∃ W3, W3 = (W2.setCell ⟨xb, 0, none⟩ (.string x.f0)).setCell ⟨xb, 1, none⟩ (.string x.f1) := ⟨_, rfl⟩
              rw [← hW3]
              have hX3 : W3.heap[xb]? = some (.cells #[.string x.f0, .string x.f1] 80 (0, 0)) := by
                rw [hW3]
                exact blk_put (blk_put HXB.out 0 _ rfl) 1 _ rfl
              have hB3 : Below wr.heap.size wr W3 := by
                rw [hW3]
                have hle : wr.heap.size ≤ xb := by rw [HXG.out]; exact Nat.le_refl _
                exact (HB2.out.setCell (p := ⟨xb, 0, none⟩) hle _).setCell (p := ⟨xb, 1, none⟩) hle _
              have HB3 := Aside0.mk hB3
              have HBw3 := Aside0.mk (below_step HBw.out hB3)
              have HT3 := Aside0.mk ((hB3.block w.heap.size (blk_lt HT.out)).trans HT.out)
              have HR3 := Aside0.mk (Kd.R_below HR.out hB3)
              have HL3 := Aside0.mk (Nat.le_trans HLw.out hB3.size)
              have q0 : W3.cell? ⟨xb, 0, none⟩ = some (.string x.f0) := (blk_cell hX3 0).trans rfl
              have q1 : W3.cell? ⟨xb, 1, none⟩ = some (.string x.f1) := (blk_cell hX3 1).trans rfl
              clear hW3 hX3 hB3 g0 g1 hz0 hz1 hf0 hf1
              obtain ⟨kb, hkb⟩ : ∃ kb, kb = decide (1 ≤ x.f0.size ∧ x.f0.size ≤ 40) := ⟨_, rfl⟩
              have HTK := Aside0.mk (fun W => tko x.f0 W)
              rw [← hkb] at HTK
              have HOK := Aside0.mk (okAt_eq out6 i x HX.out)
              rw [← hkb] at HOK
              clear hkb
              cases kb with
              | false =>
                have HBAD := Aside0.mk (bad_of out6 i HLT.out (by rw [HOK.out]; simp) L HEA.out)
                go_wp2
                go_quiet ((go_at_call 70; exact Calls.quiet_of (HTK.out _)))
                go_wp2
                go_ret2
                exact ⟨_, by rw [HBAD.out]; rfl, by rw [HBAD.out]; exact Kd.R_nil _ _ _ _ _, pw_below_drewN HBw3.out _⟩
              | true =>
                by_cases hv : x.f1.size ≤ 60
                · have zv : decide ((60 : Int) < (x.f1.size : Int)) = false := decide_eq_false (by omega)
                  obtain hi0 | ⟨j, rfl⟩ : i = 0 ∨ ∃ j, i = j + 1 := by cases i with
                    | zero => exact .inl rfl
                    | succ j => exact .inr ⟨j, rfl⟩
                  · have HGO1 := Aside0.mk (go_on out6 i (fun j hj => by omega) (by rw [HOK.out]; simp [hv, hi0]))
                    have zi : decide ((0 : Int) < (i : Int)) = false := decide_eq_false (by omega)
                    have zi2 : decide (0 < i) = false := decide_eq_false (by omega)
                    have zi3 : ¬ 0 < i := by omega
                    clear hi0
                    go_wp2
                    go_quiet ((go_at_call 70; exact Calls.quiet_of (HTK.out _)))
                    go_wp2
                    go_roundg (out6.length - (i + 1))
                    case measure => have := HLT.out; omega
                    case rel => exact ⟨i + 1, by go_num, by have := HLT.out; omega, rfl, ⟨fun j hj => HGO1.out j hj⟩, ⟨Kd.R_drewN HR3.out _⟩, ⟨blk_drewN HT3.out _⟩, ⟨pw_below_drewN HBw3.out _⟩, HL3⟩
                  · have hy0 : j < out6.length := by omega
                    obtain ⟨y, hy⟩ : ∃ y, y = rd_T80 out6 (j : Int) := ⟨_, rfl⟩
                    have HC3 := Kd.C_below HC6.out HB3.out
                    obtain ⟨ad', e, g0, _⟩ := at_T80 HC3 (j : Int) (by omega) (by omega)
                    cases e
                    rw [Int.toNat_natCast, ← hy] at g0
                    have zi : decide ((0 : Int) < (j : Int) + 1) = true := decide_eq_true (by omega)
                    have HOK2 := Aside0.mk (show okAt out6 (j + 1) = Op.bytesLess y.f0.toList x.f0.toList by rw [HOK.out]; show ((true && decide (x.f1.size ≤ 60)) && (decide (j + 1 = 0) || Op.bytesLess (rd_T80 out6 (j : Int)).f0.toList x.f0.toList)) = _; rw [← hy, decide_eq_true hv]; simp)
                    have hi3 : (j : Int) < (out6.length : Int) := by omega
                    have hi4 : wrap64 (((j + 1 : Nat) : Int) - 1) = (j : Int) := by rw [w64 (by omega) (by omega)]; omega
                    clear hy HC3 hy0
                    cases hb : Op.bytesLess y.f0.toList x.f0.toList with
                    | true =>
                      have HGO1 := Aside0.mk (go_on out6 (j + 1) HGO.out (by rw [HOK2.out, hb]))
                      have hb2 : (!Op.bytesLess y.f0.toList x.f0.toList) = false := by rw [hb]; rfl
                      go_wp2
                      go_quiet ((go_at_call 70; exact Calls.quiet_of (HTK.out _)))
                      go_wp2
                      go_roundg (out6.length - (j + 1 + 1))
                      case measure => have := HLT.out; omega
                      case rel => exact ⟨j + 1 + 1, by go_num, by have := HLT.out; omega, rfl, ⟨fun j hj => HGO1.out j hj⟩, ⟨Kd.R_drewN HR3.out _⟩, ⟨blk_drewN HT3.out _⟩, ⟨pw_below_drewN HBw3.out _⟩, HL3⟩
                    | false =>
                      have HBAD := Aside0.mk (bad_of out6 (j + 1) HLT.out (by rw [HOK2.out, hb]) L HEA.out)
                      have hb2 : (!Op.bytesLess y.f0.toList x.f0.toList) = true := by rw [hb]; rfl
                      go_wp2
                      go_quiet ((go_at_call 70; exact Calls.quiet_of (HTK.out _)))
                      go_wp2
                      go_ret2
                      exact ⟨_, by rw [HBAD.out]; rfl, by rw [HBAD.out]; exact Kd.R_nil _ _ _ _ _, pw_below_drewN HBw3.out _⟩
                · have zv : (60 : Int) < (x.f1.size : Int) := by omega
                  have HBAD := Aside0.mk (bad_of out6 i HLT.out (by rw [HOK.out]; simp [hv]) L HEA.out)
                  go_wp2
                  go_quiet ((go_at_call 70; exact Calls.quiet_of (HTK.out _)))
                  go_wp2
                  go_ret2
                  exact ⟨_, by rw [HBAD.out]; rfl, by rw [HBAD.out]; exact Kd.R_nil _ _ _ _ _, pw_below_drewN HBw3.out _⟩
            · obtain rfl : i = out6.length := by omega
              have HEB := Aside0.mk (good_of out6 HGO.out L HEA.out)
              have HKS := Aside0.mk (show ∀ i : Nat, i < out6.length → (rd_T80 out6 (i : Int)).f0.size ≤ 1048576 from fun i hi => ok_size out6 i (HGO.out i hi))
              have HCr := Aside0.mk (Kd.reads1 HR.out)
              have HCr1 := Aside0.mk (Kd.reads2 HR.out)
              have HCLr := Aside0.mk (Kd.C_below HC.out HBw.out)
              obtain ⟨kq, hQ⟩ := (Limb_ev (enc out6.length 0 (out6.map BuI.kv)) L (by rw [enc_len _ _ _ (by rw [List.length_map]; exact Nat.le_refl _), List.length_map]; have := HPL.out; omega)).ex
              have HQ := Aside0.mk hQ
              clear hQ
              have hu := Try.underlying29
              go_upto_region 15 with (fail)
              refine start_ (n := 9) (S := fun w' => w'.cell? ⟨w.heap.size, 0, none⟩ = some (.slice A L.length c)) (ds := []) #[false, false, false, false, false, false, false, false, false] (by kernel_rfl) rfl rfl ((blk_cell (xblk_drew HT.out) 0).trans rfl) (fun hHeld => ?_)
              refine pure_ (i := 0) (N := some 63) (v := ?_) (a' := ?_) #[true, false, false, false, false, false, false, false, false] rfl rfl (by kernel_rfl) (fun _ _ _ h => h) (Or.inl ⟨by rfl, ?_⟩) ?_ ?_
              rotate_left
              · intro w'
                go_simp
                with_reducible rfl
              rotate_left
              · simp only [Act.put, List.setIfInBounds_toArray, List.set_cons_zero, List.set_cons_succ, i64_w, i32_w]
                rfl
              refine pure_ (i := 1) (N := some 64) (v := ?_) (a' := ?_) #[true, true, false, false, false, false, false, false, false] rfl rfl (by kernel_rfl) (fun _ _ _ h => h) (Or.inl ⟨by rfl, ?_⟩) ?_ ?_
              rotate_left
              · intro w'
                go_simp
                with_reducible rfl
              rotate_left
              · simp only [Act.put, List.setIfInBounds_toArray, List.set_cons_zero, List.set_cons_succ, i64_w, i32_w]
                rfl
              refine pure_ (i := 4) (N := some 67) (v := ?_) (a' := ?_) #[true, true, false, false, true, false, false, false, false] rfl rfl (by kernel_rfl) (fun _ _ _ h => h) (Or.inl ⟨by rfl, ?_⟩) ?_ ?_
              rotate_left
              · intro w'
                go_simp
                with_reducible rfl
              rotate_left
              · simp only [Act.put, List.setIfInBounds_toArray, List.set_cons_zero, List.set_cons_succ, i64_w, i32_w]
                rfl
              refine take_ (i := 5) (N := some 68) (v := ?_) (a' := ?_) #[true, true, false, false, true, true, false, false, false] rfl rfl (by kernel_rfl) (fun _ _ _ h => h) (Or.inl ⟨by rfl, ?_⟩) hHeld ?_ ?_
              rotate_left
              · intro w' s0
                go_simp
                with_reducible rfl
              rotate_left
              · simp only [Act.put, List.setIfInBounds_toArray, List.set_cons_zero, List.set_cons_succ, i64_w, i32_w]
                rfl
              refine one_ (i := 2) (N := some 65) #[true, true, true, false, true, true, false, false, false] rfl rfl (by kernel_rfl) (by decide) (fun K hK => ?_)
              refine goes_ Try.func57 (by kernel_rfl) rfl #[.slice A6 out6.length c6] (by rfl) rfl rfl (by simp only [List.map_toArray, List.map_cons, List.map_nil]; rfl) ?_
              with_reducible refine ((treapI out6 A6 c6 _ (Kd.reads1 (Kd.R_drew HR.out)) HCr1.out (by have := HPL.out; omega) HKS.out)).mono ?_
              rintro e W4 ⟨v4, rfl, ho, hb⟩
              refine ⟨_, rfl, ?_⟩
              obtain ⟨A4, c4, e4⟩ := Kd.R_slice ho
              subst e4
              have HO4 := Aside0.mk ho
              have HB4 := Aside0.mk (below_drewB hb)
              clear ho hb
              refine hK.out _ _ ((blk_cell (blk_below HT.out HB4.out) 0).trans rfl) (fun hHeld => ?_)
              clear hK K
              refine norm_ (a' := ?_) ?_ ?_
              rotate_left
              · show Act.put _ (some 65) _ = _
                simp only [Act.put, List.setIfInBounds_toArray, List.set_cons_zero, List.set_cons_succ, i64_w, i32_w]
                rfl
              refine pure_ (i := 3) (N := some 66) (v := ?_) (a' := ?_) #[true, true, true, true, true, true, false, false, false] rfl rfl (by kernel_rfl) (fun _ _ _ h => h) (Or.inl ⟨by rfl, ?_⟩) ?_ ?_
              rotate_left
              · intro w'
                go_simp
                with_reducible rfl
              rotate_left
              · simp only [Act.put, List.setIfInBounds_toArray, List.set_cons_zero, List.set_cons_succ, i64_w, i32_w]
                rfl
              refine one_ (i := 6) (N := some 69) #[true, true, true, true, true, true, true, false, false] rfl rfl (by kernel_rfl) (by decide) (fun K hK => ?_)
              refine goes_ Try.func76 (by kernel_rfl) rfl #[.slice A4 (enc out6.length 0 (out6.map BuI.kv)).length c4, .slice A L.length c] (by rfl) rfl rfl (by simp only [List.map_toArray, List.map_cons, List.map_nil]; rfl) ?_
              with_reducible refine ((impl_Limb.calls kq A4 c4 (enc out6.length 0 (out6.map BuI.kv)) A c L (eqb (enc out6.length 0 (out6.map BuI.kv)) L) _ (Kd.reads1 HO4.out) (Kd.reads2 HO4.out) (Kd.C_below HCLr.out HB4.out) HC1.out HQ.out)).mono ?_
              rintro e W5 ⟨rfl, ⟨nq, rfl⟩⟩
              refine ⟨_, rfl, ?_⟩
              refine hK.out _ _ ((blk_cell (blk_drewN (blk_below HT.out HB4.out) nq) 0).trans rfl) (fun hHeld => ?_)
              clear hK K
              refine norm_ (a' := ?_) ?_ ?_
              rotate_left
              · show Act.put _ (some 69) _ = _
                simp only [Act.put, List.setIfInBounds_toArray, List.set_cons_zero, List.set_cons_succ, i64_w, i32_w]
                rfl
              refine pure_ (i := 7) (N := some 2) (v := ?_) (a' := ?_) #[true, true, true, true, true, true, true, true, false] rfl rfl (by kernel_rfl) (fun _ _ _ h => h) (Or.inl ⟨by rfl, ?_⟩) ?_ ?_
              rotate_left
              · intro w'
                go_simp
                with_reducible rfl
              rotate_left
              · simp only [Act.put, List.setIfInBounds_toArray, List.set_cons_zero, List.set_cons_succ, i64_w, i32_w]
                rfl
              refine pure_ (i := 8) (N := some 3) (v := ?_) (a' := ?_) #[true, true, true, true, true, true, true, true, true] rfl rfl (by kernel_rfl) (fun _ _ _ h => h) (Or.inl ⟨by rfl, ?_⟩) ?_ ?_
              rotate_left
              · intro w'
                go_simp
                with_reducible rfl
              rotate_left
              · simp only [Act.put, List.setIfInBounds_toArray, List.set_cons_zero, List.set_cons_succ, i64_w, i32_w]
                rfl
              refine done_ (by kernel_rfl) ?_
              go_wp2
              go_ret2
              exact ⟨_, by rw [HEB.out]; rfl, by rw [HEB.out]; exact Kd.R_drewN (Kd.R_below (Kd.R_lower HR.out (by have := HS5.out; omega)) HB4.out) _, pw_below_drewN (below_step HBw.out HB4.out) _⟩
        · have ea : ansP L = ([], false) := by unfold ansP; rw [if_neg HL.out.1, if_neg HL.out.2, hp]; exact if_neg hn
          have HEA := Aside0.mk ea
          have k1 : ((nx6 : Int) != (L.length : Int)) = true := by simp; omega
          clear ea hp
          go_wp2
          go_ret2
          exact ⟨_, by rw [HEA.out]; rfl, by rw [HEA.out]; exact Kd.R_nil _ _ _ _ _, HBw6.out⟩
end Go.Proofs.Ytjknkeipginpcaa.Po
end

section
-- Written by a program of this session (pprint.py) out of the translation's print; Lean checks it.
namespace Go.Proofs.Ytjknkeipginpcaa.PQ
open Go.RowKit Go.Proofs.YtjknkeipginpcaaW.PrintWords Go.Proofs.YtjknkeipginpcaaW.PrintLast Go.Proofs.YtjknkeipginpcaaW.PrintMore
attribute [local go_sem] max2_int min2_int max_two min_two max_three min_three max_four min_four   -- for this text's walks alone
set_option linter.unusedVariables false
set_option linter.unusedSimpArgs false

/-! ### spec_CutKey: function 33 -/
end Go.Proofs.Ytjknkeipginpcaa.PQ
end

section
-- Written by a program of this session (pprint.py) out of the translation's print; Lean checks it.
namespace Go.Proofs.Ytjknkeipginpcaa.PQ
open Go.RowKit Go.Proofs.YtjknkeipginpcaaW.PrintWords Go.Proofs.YtjknkeipginpcaaW.PrintLast Go.Proofs.YtjknkeipginpcaaW.PrintMore
attribute [local go_sem] max2_int min2_int max_two min_two max_three min_three max_four min_four   -- for this text's walks alone
set_option linter.unusedVariables false
set_option linter.unusedSimpArgs false

/-! ### spec_SplitTreap: function 31 -/
end Go.Proofs.Ytjknkeipginpcaa.PQ
end

section
-- Written by a program of this session (pprint.py) out of the translation's print; Lean checks it.
namespace Go.Proofs.Ytjknkeipginpcaa.PQ
open Go.RowKit Go.Proofs.YtjknkeipginpcaaW.PrintWords Go.Proofs.YtjknkeipginpcaaW.PrintLast Go.Proofs.YtjknkeipginpcaaW.PrintMore
attribute [local go_sem] max2_int min2_int max_two min_two max_three min_three max_four min_four   -- for this text's walks alone
set_option linter.unusedVariables false
set_option linter.unusedSimpArgs false

--OWNPART impl_treapOf
/-! ### impl_treapOf: function 57, by hand -/
--NEEDS loop.example/g00274/impl.heavier
--NEEDS loop.example/g00274/spec.l7Above
--IMPORT TrO
end Go.Proofs.Ytjknkeipginpcaa.PQ
end

section
-- Written by a program of this session (pprint.py) out of the translation's print; Lean checks it.
namespace Go.Proofs.Ytjknkeipginpcaa.PQ
open Go.RowKit Go.Proofs.YtjknkeipginpcaaW.PrintWords Go.Proofs.YtjknkeipginpcaaW.PrintLast Go.Proofs.YtjknkeipginpcaaW.PrintMore
attribute [local go_sem] max2_int min2_int max_two min_two max_three min_three max_four min_four   -- for this text's walks alone
set_option linter.unusedVariables false
set_option linter.unusedSimpArgs false

--OWNPART impl_pairsOf
/-! ### impl_pairsOf: function 49, by hand -/
--NEEDS loop.example/g00274/impl.heavier
--NEEDS loop.example/g00274/spec.l7Above
--NEEDS loop.example/g00274/impl.treapKeyOK
--NEEDS slices.Equal[[]loop.example/g00274/impl.Limb,loop.example/g00274/impl.Limb]
--IMPORT Po
end Go.Proofs.Ytjknkeipginpcaa.PQ
end

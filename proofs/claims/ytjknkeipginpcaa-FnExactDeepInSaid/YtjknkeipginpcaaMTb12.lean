/- Several texts in one: what the claim's last text rests on. No conditions. -/
import Derived.Test.YtjknkeipginpcaaMTb11
import Derived.Test.YtjknkeipginpcaaMTb7
import Derived.Test.YtjknkeipginpcaaMTb5
import Derived.Test.YtjknkeipginpcaaMTb9
section
/- impl.pairsOf, by hand. No conditions. -/
namespace Go.Proofs.Ytjknkeipginpcaa.Po
attribute [local go_sem] Instr.field asAgg Go.Proofs.Ytjknkeipginpcaa.StrO.leq_s Go.Proofs.Ytjknkeipginpcaa.StrO.gtr_s Go.Proofs.Ytjknkeipginpcaa.StrO.geq_s
set_option linter.unusedVariables false
set_option linter.unusedSimpArgs false
open Go.RowKit Go.Proofs.Ytjknkeipginpcaa.PQ Go.Proofs.YtjknkeipginpcaaW.PrintWords Go.Proofs.YtjknkeipginpcaaW.PrintLast Go.Proofs.YtjknkeipginpcaaW.PrintMore Go.Proofs.Ytjknkeipginpcaa.Pre Go.Proofs.Ytjknkeipginpcaa.Tr Go.Proofs.Ytjknkeipginpcaa.Pr

/-- A key at its place is as it should be. -/
def okAt (ps : List Pa) (i : Nat) : Bool := decide (1 ≤ (rd_T80 ps (i : Int)).f0.size ∧ (rd_T80 ps (i : Int)).f0.size ≤ 40 ∧ (rd_T80 ps (i : Int)).f1.size ≤ 60) && (decide (i = 0) || Op.bytesLess (rd_T80 ps ((i - 1 : Nat) : Int)).f0.toList (rd_T80 ps (i : Int)).f0.toList)
def okP (ps : List Pa) : Bool := (List.range ps.length).all (okAt ps)
theorem okAt_eq (ps : List Pa) (i : Nat) (x : Pa) (hx : x = rd_T80 ps (i : Int)) : okAt ps i = ((decide (1 ≤ x.f0.size ∧ x.f0.size ≤ 40) && decide (x.f1.size ≤ 60)) && (decide (i = 0) || Op.bytesLess (rd_T80 ps ((i - 1 : Nat) : Int)).f0.toList x.f0.toList)) := by
  unfold okAt
  rw [← hx]
  congr 1
  rw [← Bool.decide_and]
  refine decide_eq_decide.2 ?_
  omega
theorem ok_size (ps : List Pa) (i : Nat) (h : okAt ps i = true) : (rd_T80 ps (i : Int)).f0.size ≤ 1048576 := by
  unfold okAt at h
  rw [Bool.and_eq_true] at h
  have := of_decide_eq_true h.1
  omega
def tup (x : Lb) : List UInt8 × List UInt8 × Int × Int := (x.f0.toList, x.f1.toList, x.f2, x.f3)
/-- Both rows of limbs are alike. -/
def eqb (a b : List Lb) : Bool := decide (a.map tup = b.map tup)
theorem rdL (l : List Lb) (i : Nat) (h : i < l.length) : rd_T71 l (i : Int) = l[i] := by
  unfold rd_T71
  simp [h]
theorem limb_ne (x y : Lb) : (!(x.f0.toList == y.f0.toList) || (!(x.f1.toList == y.f1.toList) || (!(x.f2 == y.f2) || (!(x.f3 == y.f3))))) = !decide (tup x = tup y) := by
  unfold tup
  by_cases h0 : x.f0.toList = y.f0.toList <;> by_cases h1 : x.f1.toList = y.f1.toList <;> by_cases h2 : x.f2 = y.f2 <;> by_cases h3 : x.f3 = y.f3 <;> simp [h0, h1, h2, h3]
theorem Limb_ev (a b : List Lb) (ha : a.length ≤ 1048576) : Evt (fun k => impl_Limb.f k a b) (eqb a b) := by
  unfold impl_Limb.f eqb
  by_cases hl : a.length = b.length
  · refine Evt.pos (by omega) ?_
    have key : ∀ (m i : Nat), i + m = a.length → Evt (fun k => impl_Limb.l0 k a b (a.length : Int) (i : Int)) (decide ((a.drop i).map tup = (b.drop i).map tup)) := by
      intro m
      induction m with
      | zero =>
        intro i hi
        refine (Evt.step (fun k => impl_Limb.l0.eq_2 _ _ _ _ k) (Evt.neg (by omega) (Evt.const _))).eq ?_
        rw [List.drop_eq_nil_of_le (by omega), List.drop_eq_nil_of_le (by omega)]
        rfl
      | succ m ih =>
        intro i hi
        have hr := ih (i + 1) (by omega)
        have h1 : i < a.length := by omega
        have h2 : i < b.length := by omega
        have e : ((a.drop i).map tup = (b.drop i).map tup) ↔ (tup a[i] = tup b[i] ∧ (a.drop (i + 1)).map tup = (b.drop (i + 1)).map tup) := by
          rw [List.drop_eq_getElem_cons h1, List.drop_eq_getElem_cons h2, List.map_cons, List.map_cons, List.cons.injEq]
        refine Evt.step (fun k => impl_Limb.l0.eq_2 _ _ _ _ k) (Evt.pos (by omega) (Evt.pos (by omega) (Evt.pos (by omega) (Evt.pos (by omega) ?_))))
        rw [rdL a i h1, rdL b i h2, limb_ne]
        by_cases ht : tup a[i] = tup b[i]
        · refine Evt.neg (by simp [ht]) ?_
          rw [w64 (n := (i : Int) + 1) (by omega) (by omega), show (i : Int) + 1 = ((i + 1 : Nat) : Int) by omega]
          refine hr.eq (decide_eq_decide.2 ?_)
          rw [e]
          exact ⟨fun h => ⟨ht, h⟩, fun h => h.2⟩
        · refine Evt.pos (by simp [ht]) ((Evt.const _).eq ?_)
          symm
          exact decide_eq_false (fun h => ht (e.1 h).1)
    exact key a.length 0 (by omega)
  · refine Evt.neg (by omega) ((Evt.const _).eq ?_)
    symm
    exact decide_eq_false (fun h => hl (by have := congrArg List.length h; simpa using this))
/-- What pairsOf answers. -/
def ansP (L : List Lb) : List Pa × Bool := if L.length = 0 then ([], true) else if L.length > 60 then ([], false) else
  match prs L L.length 0 0 with
  | none => ([], false)
  | some (ps, n2) => if n2 = L.length then (if okP ps = true then (ps, eqb (enc ps.length 0 (ps.map BuI.kv)) L) else ([], false)) else ([], false)
theorem bad_of (ps : List Pa) (i : Nat) (hi : i < ps.length) (h : okAt ps i = false) (L : List Lb) (he : ansP L = if okP ps = true then (ps, eqb (enc ps.length 0 (ps.map BuI.kv)) L) else ([], false)) : ansP L = ([], false) := by
  rw [he, if_neg]
  intro hc
  unfold okP at hc
  have := List.all_eq_true.1 hc i (List.mem_range.2 hi)
  rw [h] at this
  cases this
theorem go_on (ps : List Pa) (i : Nat) (h : ∀ j, j < i → okAt ps j = true) (h2 : okAt ps i = true) : ∀ j, j < i + 1 → okAt ps j = true := by
  intro j hj
  rcases Nat.lt_or_ge j i with h3 | h3
  · exact h j h3
  · obtain rfl : j = i := by omega
    exact h2
theorem good_of (ps : List Pa) (h : ∀ i, i < ps.length → okAt ps i = true) (L : List Lb) (he : ansP L = if okP ps = true then (ps, eqb (enc ps.length 0 (ps.map BuI.kv)) L) else ([], false)) : ansP L = (ps, eqb (enc ps.length 0 (ps.map BuI.kv)) L) := by
  rw [he, if_pos]
  unfold okP
  exact List.all_eq_true.2 fun i hi => h i (List.mem_range.1 hi)
theorem below_drewB {w W : World} (h : Below w.drew.heap.size w.drew W) : Below w.heap.size w W := (Below.refl w.heap.size w).drew.trans h
theorem tko (s : ByteArray) (w : World) : Calls Try.prog 70 #[.string s] w fun e w' => e = .returned (.bool (decide (1 ≤ s.size ∧ s.size ≤ 40))) ∧ ∃ m, w' = w.drewN m := by
  have h : impl_treapKeyOK.f s = some (decide (1 ≤ s.size ∧ s.size ≤ 40)) := by
    unfold impl_treapKeyOK.f impl_within.f
    by_cases h1 : (s.size : Int) ≥ 1
    · rw [if_pos h1]
      refine congrArg some (decide_eq_decide.2 ?_)
      omega
    · rw [if_neg h1]
      refine congrArg some ?_
      symm
      exact decide_eq_false (by omega)
  refine (impl_treapKeyOK.calls s _ w h).mono ?_
  rintro e w' ⟨rfl, ⟨nd, rfl⟩⟩
  exact ⟨rfl, nd, rfl⟩
theorem Kd.reads1 {α : Type} {d : Kd α} {e base : Nat} {ok : Nat → Prop} {w : World} {A : Option Addr} {n c : Nat} {xs : List α} (h : d.R e w base ok (.slice A n c) xs) : d.C w A xs.length xs := by
  obtain ⟨A', c', e', _, h2⟩ := Kd.R_reads h
  injection e' with e1 _ _
  rw [e1]
  exact h2
theorem Kd.reads2 {α : Type} {d : Kd α} {e base : Nat} {ok : Nat → Prop} {w : World} {A : Option Addr} {n c : Nat} {xs : List α} (h : d.R e w base ok (.slice A n c) xs) : xs.length ≤ c := by
  obtain ⟨A', c', e', h1, _⟩ := Kd.R_reads h
  injection e' with _ _ e3
  rw [e3]
  exact h1

set_option maxHeartbeats 4000000 in
set_option maxRecDepth 100000 in
theorem calls (L : List Lb) (A : Option Addr) (c : Nat) (w : World) (hC : Kd.C k71 w A L.length L) (hc1 : L.length ≤ c) (hLL : L.length ≤ 1048576) :
    Calls Try.prog 49 #[.agg #[.slice A L.length c]] w fun e w' => ∃ v0_ : Value, e = .returned (.tuple #[v0_, .bool (ansP L).2]) ∧ Kd.R k80 80 w' w.heap.size (fun _ => True) v0_ (ansP L).1 ∧ Below w.heap.size w w' := by
  have HB := Aside0.mk (Below.refl w.heap.size w)
  have HC := Aside0.mk hC
  have HC1 := Aside0.mk hc1
  obtain ⟨wA, hwA⟩ : ∃ wA, wA = w.alloc (.cells #[.slice A L.length c] 29) := ⟨_, rfl⟩
  have HWA := Aside0.mk hwA
  have HTA := Aside0.mk (show wA.heap[w.heap.size]? = some (.cells #[.slice A L.length c] 29 (0, 0)) by rw [hwA]; exact at_new _ _)
  have HBA := Aside0.mk (show Below w.heap.size w wA by rw [hwA]; exact below_alloc (Below.refl _ _) _)
  have HSA := Aside0.mk (show wA.heap.size = w.heap.size + 1 by rw [hwA]; exact new_size _ _)
  have ct : (w.alloc (.cells #[.slice A L.length c] 29)).cell? ⟨w.heap.size, 0, none⟩ = some (.slice A L.length c) := by rw [← hwA]; exact (blk_cell HTA.out 0).trans rfl
  have hlb : (L.length : Int) ≤ 1048576 := by omega
  by_cases h0 : L.length = 0
  · have ea : ansP L = ([], true) := by unfold ansP; rw [if_pos h0]
    rw [ea]
    have z0 : (L.length : Int) = 0 := by omega
    clear hC hc1 hLL hwA h0 ea
    go_enter Try.func49, Try.ntmps49
    go_wp2
    go_ret2
    exact ⟨_, rfl, Kd.R_nil _ _ _ _ _, by rw [← HWA.out]; exact HBA.out⟩
  · by_cases h60 : L.length > 60
    · have ea : ansP L = ([], false) := by unfold ansP; rw [if_neg h0, if_pos h60]
      rw [ea]
      have z0 : ¬ (L.length : Int) = 0 := by omega
      have z1 : (60 : Int) < (L.length : Int) := by omega
      clear hC hc1 hLL hwA h0 ea h60
      go_enter Try.func49, Try.ntmps49
      go_wp2
      go_ret2
      exact ⟨_, rfl, Kd.R_nil _ _ _ _ _, by rw [← HWA.out]; exact HBA.out⟩
    · have z0 : ¬ (L.length : Int) = 0 := by omega
      have z1 : ¬ (60 : Int) < (L.length : Int) := by omega
      have HL := Aside0.mk (⟨h0, h60⟩ : ¬ L.length = 0 ∧ ¬ L.length > 60)
      obtain ⟨W5, hW5⟩ : ∃ W5, W5 = wA.alloc (.cells #[.int .i64 0] 3) := ⟨_, rfl⟩
      have HW5 := Aside0.mk hW5
      have HN5 := Aside0.mk (show W5.heap[w.heap.size + 1]? = some (.cells #[.int .i64 ((0 : Nat) : Int)] 3 (0, 0)) by rw [hW5, ← HSA.out]; exact at_new _ _)
      have HB5 := Aside0.mk (show Below (w.heap.size + 1) wA W5 by rw [hW5, ← HSA.out]; exact below_alloc (Below.refl _ _) _)
      have HT5 := Aside0.mk (show W5.heap[w.heap.size]? = some (.cells #[.slice A L.length c] 29 (0, 0)) from (HB5.out.block w.heap.size (by have := HSA.out; omega)).trans HTA.out)
      have HS5 := Aside0.mk (show W5.heap.size = w.heap.size + 2 by rw [hW5]; have := new_size wA (.cells #[.int .i64 0] 3); have := HSA.out; omega)
      have cn : (wA.alloc (.cells #[.int .i64 0] 3)).cell? ⟨w.heap.size + 1, 0, none⟩ = some (.int .i64 0) := by rw [← hW5]; exact (blk_cell HN5.out 0).trans rfl
      have fn : (wA.alloc (.cells #[.int .i64 0] 3)).frozen? ⟨w.heap.size + 1, 0, none⟩ = false := by rw [← hW5]; exact blk_frozen HN5.out 0
      have ct5 : W5.cell? ⟨w.heap.size, 0, none⟩ = some (.slice A L.length c) := (blk_cell HT5.out 0).trans rfl
      have HB05 := Aside0.mk (show Below w.heap.size w W5 from HBA.out.trans (HB5.out.mono (by omega)))
      have HP := Aside0.mk (Pr.calls L.length 0 0 (.slice none 0 0) [] w W5 A c L w.heap.size (w.heap.size + 1) W5.heap.size (by omega) hC hc1 HB05.out (Nat.le_refl _) (by have := HSA.out; omega) (by have := HSA.out; have := HS5.out; omega) (Nat.le_refl _) HT5.out HN5.out (Kd.R_nil _ _ _ _ _) (by simp; omega) hLL (Nat.zero_le _))
      clear hC hc1 hLL h0 h60 hW5
      go_enter Try.func49, Try.ntmps49
      go_upto_region 6 with (fail)
      try rw [← HWA.out]
      rw [← HW5.out]
      clear cn fn ct
      go_upto_region 7 with (go_at_call 75; go_loud ((with_reducible refine HP.out.mono ?_); rintro e W6 ⟨v6, out6, nx6, ok6, rfl, hp6, ho6, hn6, hk6, hb6, hv6⟩; have HP6 := Aside0.mk hp6; have HO6 := Aside0.mk ho6; have HN6 := Aside0.mk hn6; have HB6 := Aside0.mk hb6; clear hp6 ho6 hn6 hk6 hb6 hv6))
      have HBw6 := Aside0.mk (show Below w.heap.size w W6 from HB05.out.trans (HB6.out.mono (by have := HSA.out; omega)))
      have HT6 := Aside0.mk ((HB6.out.block w.heap.size (by have := HSA.out; omega)).trans HT5.out)
      have HL6 := Aside0.mk (show W5.heap.size ≤ W6.heap.size from HB6.out.size)
      have ct6 : W6.cell? ⟨w.heap.size, 0, none⟩ = some (.slice A L.length c) := (blk_cell HT6.out 0).trans rfl
      have cn6 : W6.cell? ⟨w.heap.size + 1, 0, none⟩ = some (.int .i64 (nx6 : Int)) := (blk_cell HN6.out 0).trans rfl
      clear ct5
      rcases HP6.out with ⟨hp, hok⟩ | ⟨ps, hp, hok, hout⟩
      · subst hok
        have ea : ansP L = ([], false) := by unfold ansP; rw [if_neg HL.out.1, if_neg HL.out.2, hp]
        have HEA := Aside0.mk ea
        clear ea hp
        go_wp2
        go_ret2
        exact ⟨_, by rw [HEA.out]; rfl, by rw [HEA.out]; exact Kd.R_nil _ _ _ _ _, HBw6.out⟩
      · subst hok
        by_cases hn : nx6 = L.length
        · have ea : ansP L = if okP ps = true then (ps, eqb (enc ps.length 0 (ps.map BuI.kv)) L) else ([], false) := by unfold ansP; rw [if_neg HL.out.1, if_neg HL.out.2, hp]; exact if_pos hn
          have HEA := Aside0.mk ea
          have hpl := prs_len L _ _ _ _ _ (by omega) hp
          have HPL := Aside0.mk (show ps.length ≤ 60 by have := HL.out.2; omega)
          rw [List.nil_append] at hout
          subst hout
          obtain ⟨A6, c6, e6⟩ := Kd.R_slice HO6.out
          subst e6
          have HC6 := Aside0.mk (Kd.reads1 HO6.out)
          have HC61 := Aside0.mk (Kd.reads2 HO6.out)
          have k1 : ((nx6 : Int) != (L.length : Int)) = false := by simp [hn]
          have hpb : (out6.length : Int) ≤ 1048576 := by have := HPL.out; omega
          clear ea hp hpl
          go_upto_region 9 with (fail)
          go_wp2
          go_loopg [32] out6.length (fun kq v32 w' => ∃ i : Nat, v32 = .int .i64 (i : Int) ∧ i ≤ out6.length ∧ kq = out6.length - i ∧ Aside0 (∀ j, j < i → okAt out6 j = true) ∧ Aside0 (Kd.R k80 80 w' W5.heap.size (fun _ => True) (.slice A6 out6.length c6) out6) ∧ Aside0 (w'.heap[w.heap.size]? = some (.cells #[.slice A L.length c] 29 (0, 0))) ∧ Aside0 (Below w.heap.size w w') ∧ Aside0 (W5.heap.size ≤ w'.heap.size))
          case atStart => exact ⟨0, rfl, Nat.zero_le _, rfl, ⟨fun j hj => by omega⟩, HO6, HT6, HBw6, HL6⟩
          case round =>
            clear ct6 cn6 k1
            obtain ⟨i, rfl, hi, hk, HGO, HR, HT, HBw, HLw⟩ := hrel
            by_cases hlt : i < out6.length
            · have HLT := Aside0.mk hlt
              have HC6 := Aside0.mk (Kd.reads1 HR.out)
              obtain ⟨x, hx⟩ : ∃ x, x = rd_T80 out6 (i : Int) := ⟨_, rfl⟩
              obtain ⟨ad, e, g0, g1⟩ := at_T80 HC6.out (i : Int) (by omega) (by omega)
              rw [Int.toNat_natCast] at g0 g1
              subst e
              rw [← hx] at g0 g1
              have HX := Aside0.mk hx
              have hi2 : (i : Int) < (out6.length : Int) := by omega
              clear hx
              go_upto_region 12 with ((with_reducible refine gate_dst (N := 8) rfl ?_); go_loud (refine box_event ?hg (N := 8) ?hd (cs := #[.string (⟨#[]⟩ : ByteArray), .string (⟨#[]⟩ : ByteArray)]) (t := 80) ?hr ?_; (case hd => rfl); (case hg => rfl); (case hr => first | (go_simp; done) | (go_simp; rfl)); intro xb hxb W2 hbox hb; have HXB := Aside0.mk hbox; have HXG := Aside0.mk hxb; have HB2 := Aside0.mk hb; have hz0 : W2.cell? ⟨xb, 0, none⟩ = some (.string (⟨#[]⟩ : ByteArray)) := (blk_cell hbox 0).trans rfl; have hz1 : W2.cell? ⟨xb, 1, none⟩ = some (.string (⟨#[]⟩ : ByteArray)) := (blk_cell hbox 1).trans rfl; have hf0 := blk_frozen hbox 0; have hf1 := blk_frozen hbox 1; clear hbox hxb hb))
              obtain ⟨W3, hW3⟩ : ∃ W3, W3 = (W2.setCell ⟨xb, 0, none⟩ (.string x.f0)).setCell ⟨xb, 1, none⟩ (.string x.f1) := ⟨_, rfl⟩
              rw [← hW3]
              have hX3 : W3.heap[xb]? = some (.cells #[.string x.f0, .string x.f1] 80 (0, 0)) := by
                rw [hW3]
                exact blk_put (blk_put HXB.out 0 _ rfl) 1 _ rfl
              have hB3 : Below wr.heap.size wr W3 := by
                rw [hW3]
                have hle : wr.heap.size ≤ xb := by rw [HXG.out]; exact Nat.le_refl _
                exact (HB2.out.setCell (p := ⟨xb, 0, none⟩) hle _).setCell (p := ⟨xb, 1, none⟩) hle _
              have HB3 := Aside0.mk hB3
              have HBw3 := Aside0.mk (below_step HBw.out hB3)
              have HT3 := Aside0.mk ((hB3.block w.heap.size (blk_lt HT.out)).trans HT.out)
              have HR3 := Aside0.mk (Kd.R_below HR.out hB3)
              have HL3 := Aside0.mk (Nat.le_trans HLw.out hB3.size)
              have q0 : W3.cell? ⟨xb, 0, none⟩ = some (.string x.f0) := (blk_cell hX3 0).trans rfl
              have q1 : W3.cell? ⟨xb, 1, none⟩ = some (.string x.f1) := (blk_cell hX3 1).trans rfl
              clear hW3 hX3 hB3 g0 g1 hz0 hz1 hf0 hf1
              obtain ⟨kb, hkb⟩ : ∃ kb, kb = decide (1 ≤ x.f0.size ∧ x.f0.size ≤ 40) := ⟨_, rfl⟩
              have HTK := Aside0.mk (fun W => tko x.f0 W)
              rw [← hkb] at HTK
              have HOK := Aside0.mk (okAt_eq out6 i x HX.out)
              rw [← hkb] at HOK
              clear hkb
              cases kb with
              | false =>
                have HBAD := Aside0.mk (bad_of out6 i HLT.out (by rw [HOK.out]; simp) L HEA.out)
                go_wp2
                go_quiet ((go_at_call 70; exact Calls.quiet_of (HTK.out _)))
                go_wp2
                go_ret2
                exact ⟨_, by rw [HBAD.out]; rfl, by rw [HBAD.out]; exact Kd.R_nil _ _ _ _ _, pw_below_drewN HBw3.out _⟩
              | true =>
                by_cases hv : x.f1.size ≤ 60
                · have zv : decide ((60 : Int) < (x.f1.size : Int)) = false := decide_eq_false (by omega)
                  obtain hi0 | ⟨j, rfl⟩ : i = 0 ∨ ∃ j, i = j + 1 := by cases i with
                    | zero => exact .inl rfl
                    | succ j => exact .inr ⟨j, rfl⟩
                  · have HGO1 := Aside0.mk (go_on out6 i (fun j hj => by omega) (by rw [HOK.out]; simp [hv, hi0]))
                    have zi : decide ((0 : Int) < (i : Int)) = false := decide_eq_false (by omega)
                    have zi2 : decide (0 < i) = false := decide_eq_false (by omega)
                    have zi3 : ¬ 0 < i := by omega
                    clear hi0
                    go_wp2
                    go_quiet ((go_at_call 70; exact Calls.quiet_of (HTK.out _)))
                    go_wp2
                    go_roundg (out6.length - (i + 1))
                    case measure => have := HLT.out; omega
                    case rel => exact ⟨i + 1, by go_num, by have := HLT.out; omega, rfl, ⟨fun j hj => HGO1.out j hj⟩, ⟨Kd.R_drewN HR3.out _⟩, ⟨blk_drewN HT3.out _⟩, ⟨pw_below_drewN HBw3.out _⟩, HL3⟩
                  · have hy0 : j < out6.length := by omega
                    obtain ⟨y, hy⟩ : ∃ y, y = rd_T80 out6 (j : Int) := ⟨_, rfl⟩
                    have HC3 := Kd.C_below HC6.out HB3.out
                    obtain ⟨ad', e, g0, _⟩ := at_T80 HC3 (j : Int) (by omega) (by omega)
                    cases e
                    rw [Int.toNat_natCast, ← hy] at g0
                    have zi : decide ((0 : Int) < (j : Int) + 1) = true := decide_eq_true (by omega)
                    have HOK2 := Aside0.mk (show okAt out6 (j + 1) = Op.bytesLess y.f0.toList x.f0.toList by rw [HOK.out]; show ((true && decide (x.f1.size ≤ 60)) && (decide (j + 1 = 0) || Op.bytesLess (rd_T80 out6 (j : Int)).f0.toList x.f0.toList)) = _; rw [← hy, decide_eq_true hv]; simp)
                    have hi3 : (j : Int) < (out6.length : Int) := by omega
                    have hi4 : wrap64 (((j + 1 : Nat) : Int) - 1) = (j : Int) := by rw [w64 (by omega) (by omega)]; omega
                    clear hy HC3 hy0
                    cases hb : Op.bytesLess y.f0.toList x.f0.toList with
                    | true =>
                      have HGO1 := Aside0.mk (go_on out6 (j + 1) HGO.out (by rw [HOK2.out, hb]))
                      have hb2 : (!Op.bytesLess y.f0.toList x.f0.toList) = false := by rw [hb]; rfl
                      go_wp2
                      go_quiet ((go_at_call 70; exact Calls.quiet_of (HTK.out _)))
                      go_wp2
                      go_roundg (out6.length - (j + 1 + 1))
                      case measure => have := HLT.out; omega
                      case rel => exact ⟨j + 1 + 1, by go_num, by have := HLT.out; omega, rfl, ⟨fun j hj => HGO1.out j hj⟩, ⟨Kd.R_drewN HR3.out _⟩, ⟨blk_drewN HT3.out _⟩, ⟨pw_below_drewN HBw3.out _⟩, HL3⟩
                    | false =>
                      have HBAD := Aside0.mk (bad_of out6 (j + 1) HLT.out (by rw [HOK2.out, hb]) L HEA.out)
                      have hb2 : (!Op.bytesLess y.f0.toList x.f0.toList) = true := by rw [hb]; rfl
                      go_wp2
                      go_quiet ((go_at_call 70; exact Calls.quiet_of (HTK.out _)))
                      go_wp2
                      go_ret2
                      exact ⟨_, by rw [HBAD.out]; rfl, by rw [HBAD.out]; exact Kd.R_nil _ _ _ _ _, pw_below_drewN HBw3.out _⟩
                · have zv : (60 : Int) < (x.f1.size : Int) := by omega
                  have HBAD := Aside0.mk (bad_of out6 i HLT.out (by rw [HOK.out]; simp [hv]) L HEA.out)
                  go_wp2
                  go_quiet ((go_at_call 70; exact Calls.quiet_of (HTK.out _)))
                  go_wp2
                  go_ret2
                  exact ⟨_, by rw [HBAD.out]; rfl, by rw [HBAD.out]; exact Kd.R_nil _ _ _ _ _, pw_below_drewN HBw3.out _⟩
            · obtain rfl : i = out6.length := by omega
              have HEB := Aside0.mk (good_of out6 HGO.out L HEA.out)
              have HKS := Aside0.mk (show ∀ i : Nat, i < out6.length → (rd_T80 out6 (i : Int)).f0.size ≤ 1048576 from fun i hi => ok_size out6 i (HGO.out i hi))
              have HCr := Aside0.mk (Kd.reads1 HR.out)
              have HCr1 := Aside0.mk (Kd.reads2 HR.out)
              have HCLr := Aside0.mk (Kd.C_below HC.out HBw.out)
              obtain ⟨kq, hQ⟩ := (Limb_ev (enc out6.length 0 (out6.map BuI.kv)) L (by rw [enc_len _ _ _ (by rw [List.length_map]; exact Nat.le_refl _), List.length_map]; have := HPL.out; omega)).ex
              have HQ := Aside0.mk hQ
              clear hQ
              have hu := Try.underlying29
              go_upto_region 15 with (fail)
              refine start_ (n := 9) (S := fun w' => w'.cell? ⟨w.heap.size, 0, none⟩ = some (.slice A L.length c)) (ds := []) #[false, false, false, false, false, false, false, false, false] (by kernel_rfl) rfl rfl ((blk_cell (xblk_drew HT.out) 0).trans rfl) (fun hHeld => ?_)
              refine pure_ (i := 0) (N := some 63) (v := ?_) (a' := ?_) #[true, false, false, false, false, false, false, false, false] rfl rfl (by kernel_rfl) (fun _ _ _ h => h) (Or.inl ⟨by rfl, ?_⟩) ?_ ?_
              rotate_left
              · intro w'
                go_simp
                with_reducible rfl
              rotate_left
              · simp only [Act.put, List.setIfInBounds_toArray, List.set_cons_zero, List.set_cons_succ, i64_w, i32_w]
                rfl
              refine pure_ (i := 1) (N := some 64) (v := ?_) (a' := ?_) #[true, true, false, false, false, false, false, false, false] rfl rfl (by kernel_rfl) (fun _ _ _ h => h) (Or.inl ⟨by rfl, ?_⟩) ?_ ?_
              rotate_left
              · intro w'
                go_simp
                with_reducible rfl
              rotate_left
              · simp only [Act.put, List.setIfInBounds_toArray, List.set_cons_zero, List.set_cons_succ, i64_w, i32_w]
                rfl
              refine pure_ (i := 4) (N := some 67) (v := ?_) (a' := ?_) #[true, true, false, false, true, false, false, false, false] rfl rfl (by kernel_rfl) (fun _ _ _ h => h) (Or.inl ⟨by rfl, ?_⟩) ?_ ?_
              rotate_left
              · intro w'
                go_simp
                with_reducible rfl
              rotate_left
              · simp only [Act.put, List.setIfInBounds_toArray, List.set_cons_zero, List.set_cons_succ, i64_w, i32_w]
                rfl
              refine take_ (i := 5) (N := some 68) (v := ?_) (a' := ?_) #[true, true, false, false, true, true, false, false, false] rfl rfl (by kernel_rfl) (fun _ _ _ h => h) (Or.inl ⟨by rfl, ?_⟩) hHeld ?_ ?_
              rotate_left
              · intro w' s0
                go_simp
                with_reducible rfl
              rotate_left
              · simp only [Act.put, List.setIfInBounds_toArray, List.set_cons_zero, List.set_cons_succ, i64_w, i32_w]
                rfl
              refine one_ (i := 2) (N := some 65) #[true, true, true, false, true, true, false, false, false] rfl rfl (by kernel_rfl) (by decide) (fun K hK => ?_)
              refine goes_ Try.func57 (by kernel_rfl) rfl #[.slice A6 out6.length c6] (by rfl) rfl rfl (by simp only [List.map_toArray, List.map_cons, List.map_nil]; rfl) ?_
              with_reducible refine ((treapI out6 A6 c6 _ (Kd.reads1 (Kd.R_drew HR.out)) HCr1.out (by have := HPL.out; omega) HKS.out)).mono ?_
              rintro e W4 ⟨v4, rfl, ho, hb⟩
              refine ⟨_, rfl, ?_⟩
              obtain ⟨A4, c4, e4⟩ := Kd.R_slice ho
              subst e4
              have HO4 := Aside0.mk ho
              have HB4 := Aside0.mk (below_drewB hb)
              clear ho hb
              refine hK.out _ _ ((blk_cell (blk_below HT.out HB4.out) 0).trans rfl) (fun hHeld => ?_)
              clear hK K
              refine norm_ (a' := ?_) ?_ ?_
              rotate_left
              · show Act.put _ (some 65) _ = _
                simp only [Act.put, List.setIfInBounds_toArray, List.set_cons_zero, List.set_cons_succ, i64_w, i32_w]
                rfl
              refine pure_ (i := 3) (N := some 66) (v := ?_) (a' := ?_) #[true, true, true, true, true, true, false, false, false] rfl rfl (by kernel_rfl) (fun _ _ _ h => h) (Or.inl ⟨by rfl, ?_⟩) ?_ ?_
              rotate_left
              · intro w'
                go_simp
                with_reducible rfl
              rotate_left
              · simp only [Act.put, List.setIfInBounds_toArray, List.set_cons_zero, List.set_cons_succ, i64_w, i32_w]
                rfl
              refine one_ (i := 6) (N := some 69) #[true, true, true, true, true, true, true, false, false] rfl rfl (by kernel_rfl) (by decide) (fun K hK => ?_)
              refine goes_ Try.func76 (by kernel_rfl) rfl #[.slice A4 (enc out6.length 0 (out6.map BuI.kv)).length c4, .slice A L.length c] (by rfl) rfl rfl (by simp only [List.map_toArray, List.map_cons, List.map_nil]; rfl) ?_
              with_reducible refine ((impl_Limb.calls kq A4 c4 (enc out6.length 0 (out6.map BuI.kv)) A c L (eqb (enc out6.length 0 (out6.map BuI.kv)) L) _ (Kd.reads1 HO4.out) (Kd.reads2 HO4.out) (Kd.C_below HCLr.out HB4.out) HC1.out HQ.out)).mono ?_
              rintro e W5 ⟨rfl, ⟨nq, rfl⟩⟩
              refine ⟨_, rfl, ?_⟩
              refine hK.out _ _ ((blk_cell (blk_drewN (blk_below HT.out HB4.out) nq) 0).trans rfl) (fun hHeld => ?_)
              clear hK K
              refine norm_ (a' := ?_) ?_ ?_
              rotate_left
              · show Act.put _ (some 69) _ = _
                simp only [Act.put, List.setIfInBounds_toArray, List.set_cons_zero, List.set_cons_succ, i64_w, i32_w]
                rfl
              refine pure_ (i := 7) (N := some 2) (v := ?_) (a' := ?_) #[true, true, true, true, true, true, true, true, false] rfl rfl (by kernel_rfl) (fun _ _ _ h => h) (Or.inl ⟨by rfl, ?_⟩) ?_ ?_
              rotate_left
              · intro w'
                go_simp
                with_reducible rfl
              rotate_left
              · simp only [Act.put, List.setIfInBounds_toArray, List.set_cons_zero, List.set_cons_succ, i64_w, i32_w]
                rfl
              refine pure_ (i := 8) (N := some 3) (v := ?_) (a' := ?_) #[true, true, true, true, true, true, true, true, true] rfl rfl (by kernel_rfl) (fun _ _ _ h => h) (Or.inl ⟨by rfl, ?_⟩) ?_ ?_
              rotate_left
              · intro w'
                go_simp
                with_reducible rfl
              rotate_left
              · simp only [Act.put, List.setIfInBounds_toArray, List.set_cons_zero, List.set_cons_succ, i64_w, i32_w]
                rfl
              refine done_ (by kernel_rfl) ?_
              go_wp2
              go_ret2
              exact ⟨_, by rw [HEB.out]; rfl, by rw [HEB.out]; exact Kd.R_drewN (Kd.R_below (Kd.R_lower HR.out (by have := HS5.out; omega)) HB4.out) _, pw_below_drewN (below_step HBw.out HB4.out) _⟩
        · have ea : ansP L = ([], false) := by unfold ansP; rw [if_neg HL.out.1, if_neg HL.out.2, hp]; exact if_neg hn
          have HEA := Aside0.mk ea
          have k1 : ((nx6 : Int) != (L.length : Int)) = true := by simp; omega
          clear ea hp
          go_wp2
          go_ret2
          exact ⟨_, by rw [HEA.out]; rfl, by rw [HEA.out]; exact Kd.R_nil _ _ _ _ _, HBw6.out⟩
end Go.Proofs.Ytjknkeipginpcaa.Po
end

section
-- Written by a program of this session (pprint.py) out of the translation's print; Lean checks it.
namespace Go.Proofs.Ytjknkeipginpcaa.PQ
open Go.RowKit Go.Proofs.YtjknkeipginpcaaW.PrintWords Go.Proofs.YtjknkeipginpcaaW.PrintLast Go.Proofs.YtjknkeipginpcaaW.PrintMore
attribute [local go_sem] max2_int min2_int max_two min_two max_three min_three max_four min_four   -- for this text's walks alone
set_option linter.unusedVariables false
set_option linter.unusedSimpArgs false

--OWNPART impl_pairsOf
/-! ### impl_pairsOf: function 49, by hand -/
--NEEDS loop.example/g00274/impl.heavier
--NEEDS loop.example/g00274/spec.l7Above
--NEEDS loop.example/g00274/impl.treapKeyOK
--NEEDS slices.Equal[[]loop.example/g00274/impl.Limb,loop.example/g00274/impl.Limb]
--IMPORT Po
def impl_pairsOf.f (l0_0 : List (S71)) : Option (List (S80) × Bool) := if l0_0.length ≤ 1048576 then some (Po.ansP l0_0) else none
theorem impl_pairsOf.calls (A0_0 : Option Addr) (c0_0 : Nat) (l0_0 : List (S71)) (r1 : List (S80)) (r2 : Bool) (w : World) (hr0_0 : Kd.C k71 w A0_0 l0_0.length l0_0) (hc0_0 : l0_0.length ≤ c0_0) (h : impl_pairsOf.f l0_0 = some (r1, r2)) :
    Calls Try.prog 49 #[.agg #[.slice A0_0 l0_0.length c0_0]] w fun e w' => ∃ v0_ : Value, e = .returned (.tuple #[v0_, .bool r2]) ∧ Kd.R k80 80 w' w.heap.size (fun _ => True) v0_ r1 ∧ Below w.heap.size w w' := by
  unfold impl_pairsOf.f at h
  split at h
  · rename_i hs
    have h1 := Option.some.inj h
    have := Po.calls l0_0 A0_0 c0_0 w hr0_0 hc0_0 hs
    rw [h1] at this
    exact this
  · cases h

end Go.Proofs.Ytjknkeipginpcaa.PQ
end

section
-- Written by a program of this session (pprint.py) out of the translation's print; Lean checks it.
namespace Go.Proofs.Ytjknkeipginpcaa.PQ
open Go.RowKit Go.Proofs.YtjknkeipginpcaaW.PrintWords Go.Proofs.YtjknkeipginpcaaW.PrintLast Go.Proofs.YtjknkeipginpcaaW.PrintMore
attribute [local go_sem] max2_int min2_int max_two min_two max_three min_three max_four min_four   -- for this text's walks alone
set_option linter.unusedVariables false
set_option linter.unusedSimpArgs false

/-! ### spec_CutKey: function 33 -/
def spec_CutKey.f (k : Nat) (l0_0 : List (S71)) (a1 : ByteArray) : Option ((List (S71)) × Bool) := (spec_l7Of.f k l0_0).bind fun bt589 => ((spec_l7At.f k bt589.1 a1).bind fun bt593 => (if bt589.2 = true then (if bt593.2 = true then ((some (([] : List (S74)) : List (S74))).bind fun y595 => (if 0 ≤ bt593.1 then (if bt593.1 ≤ (bt589.1.length : Int) then ((some (bt589.1.take (bt593.1 : Int).toNat : List (S74))).bind fun y598 => (if y595.length + y598.length < 4398046511104 then ((some (y595 ++ y598 : List (S74))).bind fun y602 => (if 0 ≤ (wrap64 (bt593.1 + 1)) then (if (wrap64 (bt593.1 + 1)) ≤ (bt589.1.length : Int) then ((some (bt589.1.drop ((wrap64 (bt593.1 + 1)) : Int).toNat : List (S74))).bind fun y605 => (if y602.length + y605.length < 4398046511104 then ((spec_l7Treap.f (y602 ++ y605)).bind fun t612 => (some (t612, true))) else (none))) else (none)) else (none))) else (none))) else (none)) else (none))) else (some (([] : List (S71)), false))) else (some (([] : List (S71)), false))))
theorem spec_CutKey.mono : ∀ a0 a1 k, LeO (spec_CutKey.f k a0 a1) (spec_CutKey.f (k + 1) a0 a1) := by
  intro a0 a1 k
  unfold spec_CutKey.f
  repeat' first
      | (with_reducible exact spec_l7At.mono _ _ _)
      | (with_reducible exact spec_l7Of.mono _ _)
      | (with_reducible exact LeO.refl _)
      | (with_reducible exact LeO.none _)
      | (with_reducible refine LeO.ite ?_ ?_)
      | (with_reducible refine LeO.bind ?_ (fun _ => ?_))
      | exact spec_l7At.mono _ _ _
      | exact spec_l7Of.mono _ _
      | exact LeO.none _
      | refine LeO.ite ?_ ?_
      | refine LeO.bind ?_ (fun _ => ?_)
def spec_CutKey.T5 : Bool × List (List Nat × List Nat) := (true, [([], []), ([], []), ([], []), ([1, 2], [1, 2]), ([0, 3], [0, 3]), ([], []), ([], []), ([6], [6]), ([5, 7], [5, 7]), ([4, 8, 4], [4, 8]), ([9, 9], [9]), ([10, 10, 0, 1, 2, 3, 4, 5, 6, 7, 8, 9, 10], [10]), ([11, 0, 1, 2, 3, 4, 5, 6, 7, 8, 9, 10, 11], [])])
def spec_CutKey.B5 : List Nat := [0, 0, 0, 6, 15, 0, 0, 64, 224, 511, 1023, 2047, 4095]
theorem spec_CutKey.tab5 : rtab .any (opsOf Try.f33 5) = spec_CutKey.T5 := by kernel_rfl
theorem spec_CutKey.bits5 : waitsOk spec_CutKey.T5.2 spec_CutKey.B5 = true := by kernel_rfl
set_option maxHeartbeats 8000000 in
set_option maxRecDepth 100000 in
theorem spec_CutKey.calls (k : Nat) (A0_0 : Option Addr) (c0_0 : Nat) (l0_0 : List (S71)) (a1 : ByteArray) (r1 : List (S71)) (r2 : Bool) (w : World) (hr0_0 : Kd.C k71 w A0_0 l0_0.length l0_0) (hc0_0 : l0_0.length ≤ c0_0) (h : spec_CutKey.f k l0_0 a1 = some (r1, r2)) :
    Calls Try.prog 33 #[.agg #[.slice A0_0 l0_0.length c0_0], .string a1] w fun e w' => ∃ v0_ : Value, e = .returned (.tuple #[.agg #[v0_], .bool r2]) ∧ Kd.R k71 71 w' w.heap.size (fun _ => True) v0_ r1 ∧ Below w.heap.size w w' := by
  have hu29 := Try.underlying29
  have HR0_0 := Aside0.mk hr0_0
  have HC0_0 := Aside0.mk hc0_0
  clear hr0_0 hc0_0
  have HB := Aside0.mk (Below.refl w.heap.size w)
  have H : ((spec_l7Of.f k l0_0).bind fun bt589 => ((spec_l7At.f k bt589.1 a1).bind fun bt593 => (if bt589.2 = true then (if bt593.2 = true then ((some (([] : List (S74)) : List (S74))).bind fun y595 => (if 0 ≤ bt593.1 then (if bt593.1 ≤ (bt589.1.length : Int) then ((some (bt589.1.take (bt593.1 : Int).toNat : List (S74))).bind fun y598 => (if y595.length + y598.length < 4398046511104 then ((some (y595 ++ y598 : List (S74))).bind fun y602 => (if 0 ≤ (wrap64 (bt593.1 + 1)) then (if (wrap64 (bt593.1 + 1)) ≤ (bt589.1.length : Int) then ((some (bt589.1.drop ((wrap64 (bt593.1 + 1)) : Int).toNat : List (S74))).bind fun y605 => (if y602.length + y605.length < 4398046511104 then ((spec_l7Treap.f (y602 ++ y605)).bind fun t612 => (some (t612, true))) else (none))) else (none)) else (none))) else (none))) else (none)) else (none))) else (some (([] : List (S71)), false))) else (some (([] : List (S71)), false))))) = some (r1, r2) := h
  clear h
  replace H := Option.bind_eq_some_iff.mp H
  obtain ⟨⟨t589, t592⟩, A30, H⟩ := H
  replace H : ((spec_l7At.f k t589 a1).bind fun bt593 => (if t592 = true then (if bt593.2 = true then ((some (([] : List (S74)) : List (S74))).bind fun y595 => (if 0 ≤ bt593.1 then (if bt593.1 ≤ (t589.length : Int) then ((some (t589.take (bt593.1 : Int).toNat : List (S74))).bind fun y598 => (if y595.length + y598.length < 4398046511104 then ((some (y595 ++ y598 : List (S74))).bind fun y602 => (if 0 ≤ (wrap64 (bt593.1 + 1)) then (if (wrap64 (bt593.1 + 1)) ≤ (t589.length : Int) then ((some (t589.drop ((wrap64 (bt593.1 + 1)) : Int).toNat : List (S74))).bind fun y605 => (if y602.length + y605.length < 4398046511104 then ((spec_l7Treap.f (y602 ++ y605)).bind fun t612 => (some (t612, true))) else (none))) else (none)) else (none))) else (none))) else (none)) else (none))) else (some (([] : List (S71)), false))) else (some (([] : List (S71)), false)))) = some (r1, r2) := H
  have A3 := Aside0.mk A30
  clear A30
  replace H := Option.bind_eq_some_iff.mp H
  obtain ⟨⟨t593, t594⟩, A40, H⟩ := H
  replace H : (if t592 = true then (if t594 = true then ((some (([] : List (S74)) : List (S74))).bind fun y595 => (if 0 ≤ t593 then (if t593 ≤ (t589.length : Int) then ((some (t589.take (t593 : Int).toNat : List (S74))).bind fun y598 => (if y595.length + y598.length < 4398046511104 then ((some (y595 ++ y598 : List (S74))).bind fun y602 => (if 0 ≤ (wrap64 (t593 + 1)) then (if (wrap64 (t593 + 1)) ≤ (t589.length : Int) then ((some (t589.drop ((wrap64 (t593 + 1)) : Int).toNat : List (S74))).bind fun y605 => (if y602.length + y605.length < 4398046511104 then ((spec_l7Treap.f (y602 ++ y605)).bind fun t612 => (some (t612, true))) else (none))) else (none)) else (none))) else (none))) else (none)) else (none))) else (some (([] : List (S71)), false))) else (some (([] : List (S71)), false))) = some (r1, r2) := H
  have A4 := Aside0.mk A40
  clear A40
  by_cases c5 : t592 = true
  · subst c5
    have H1 : (if t594 = true then ((some (([] : List (S74)) : List (S74))).bind fun y595 => (if 0 ≤ t593 then (if t593 ≤ (t589.length : Int) then ((some (t589.take (t593 : Int).toNat : List (S74))).bind fun y598 => (if y595.length + y598.length < 4398046511104 then ((some (y595 ++ y598 : List (S74))).bind fun y602 => (if 0 ≤ (wrap64 (t593 + 1)) then (if (wrap64 (t593 + 1)) ≤ (t589.length : Int) then ((some (t589.drop ((wrap64 (t593 + 1)) : Int).toNat : List (S74))).bind fun y605 => (if y602.length + y605.length < 4398046511104 then ((spec_l7Treap.f (y602 ++ y605)).bind fun t612 => (some (t612, true))) else (none))) else (none)) else (none))) else (none))) else (none)) else (none))) else (some (([] : List (S71)), false))) = some (r1, r2) := by rw [if_pos rfl] at H; exact H
    clear H
    have H := H1
    clear H1
    by_cases c6 : t594 = true
    · subst c6
      have H1 : ((some (([] : List (S74)) : List (S74))).bind fun y595 => (if 0 ≤ t593 then (if t593 ≤ (t589.length : Int) then ((some (t589.take (t593 : Int).toNat : List (S74))).bind fun y598 => (if y595.length + y598.length < 4398046511104 then ((some (y595 ++ y598 : List (S74))).bind fun y602 => (if 0 ≤ (wrap64 (t593 + 1)) then (if (wrap64 (t593 + 1)) ≤ (t589.length : Int) then ((some (t589.drop ((wrap64 (t593 + 1)) : Int).toNat : List (S74))).bind fun y605 => (if y602.length + y605.length < 4398046511104 then ((spec_l7Treap.f (y602 ++ y605)).bind fun t612 => (some (t612, true))) else (none))) else (none)) else (none))) else (none))) else (none)) else (none))) = some (r1, r2) := by rw [if_pos rfl] at H; exact H
      clear H
      have H := H1
      clear H1
      obtain ⟨y595, hy595⟩ : ∃ y_ : List (S74), y_ = (([] : List (S74))) := ⟨_, rfl⟩
      replace H : (if 0 ≤ t593 then (if t593 ≤ (t589.length : Int) then ((some (t589.take (t593 : Int).toNat : List (S74))).bind fun y598 => (if y595.length + y598.length < 4398046511104 then ((some (y595 ++ y598 : List (S74))).bind fun y602 => (if 0 ≤ (wrap64 (t593 + 1)) then (if (wrap64 (t593 + 1)) ≤ (t589.length : Int) then ((some (t589.drop ((wrap64 (t593 + 1)) : Int).toNat : List (S74))).bind fun y605 => (if y602.length + y605.length < 4398046511104 then ((spec_l7Treap.f (y602 ++ y605)).bind fun t612 => (some (t612, true))) else (none))) else (none)) else (none))) else (none))) else (none)) else (none)) = some (r1, r2) := by first | (rw [hy595]; with_reducible exact H) | (have H2_ := (Option.bind_some _ _).symm.trans H; rw [hy595]; with_reducible exact H2_) | (have H2_ := (Option.bind_some _ _).symm.trans H; with_reducible exact H2_) | with_reducible exact H | (rw [hy595]; exact H) | exact H
      have Ny595 := Aside0.mk hy595
      clear hy595
      by_cases c7 : 0 ≤ t593
      · rw [if_pos c7] at H
        have c7b0 := eq_true c7
        have c7b1 : decide (0 ≤ t593) = true := decide_eq_true c7
        clear c7
        by_cases c8 : t593 ≤ (t589.length : Int)
        · rw [if_pos c8] at H
          have c8b0 := eq_true c8
          have c8b1 : decide (t593 ≤ (t589.length : Int)) = true := decide_eq_true c8
          clear c8
          obtain ⟨y598, hy598⟩ : ∃ y_ : List (S74), y_ = (t589.take (t593 : Int).toNat) := ⟨_, rfl⟩
          replace H : (if y595.length + y598.length < 4398046511104 then ((some (y595 ++ y598 : List (S74))).bind fun y602 => (if 0 ≤ (wrap64 (t593 + 1)) then (if (wrap64 (t593 + 1)) ≤ (t589.length : Int) then ((some (t589.drop ((wrap64 (t593 + 1)) : Int).toNat : List (S74))).bind fun y605 => (if y602.length + y605.length < 4398046511104 then ((spec_l7Treap.f (y602 ++ y605)).bind fun t612 => (some (t612, true))) else (none))) else (none)) else (none))) else (none)) = some (r1, r2) := by first | (rw [hy598]; with_reducible exact H) | (have H2_ := (Option.bind_some _ _).symm.trans H; rw [hy598]; with_reducible exact H2_) | (have H2_ := (Option.bind_some _ _).symm.trans H; with_reducible exact H2_) | with_reducible exact H | (rw [hy598]; exact H) | exact H
          have Ny598 := Aside0.mk hy598
          clear hy598
          by_cases c9 : y595.length + y598.length < 4398046511104
          · rw [if_pos c9] at H
            have LMc9 := Aside0.mk c9
            clear c9
            obtain ⟨y602, hy602⟩ : ∃ y_ : List (S74), y_ = (y595 ++ y598) := ⟨_, rfl⟩
            replace H : (if 0 ≤ (wrap64 (t593 + 1)) then (if (wrap64 (t593 + 1)) ≤ (t589.length : Int) then ((some (t589.drop ((wrap64 (t593 + 1)) : Int).toNat : List (S74))).bind fun y605 => (if y602.length + y605.length < 4398046511104 then ((spec_l7Treap.f (y602 ++ y605)).bind fun t612 => (some (t612, true))) else (none))) else (none)) else (none)) = some (r1, r2) := by first | (rw [hy602]; with_reducible exact H) | (have H2_ := (Option.bind_some _ _).symm.trans H; rw [hy602]; with_reducible exact H2_) | (have H2_ := (Option.bind_some _ _).symm.trans H; with_reducible exact H2_) | with_reducible exact H | (rw [hy602]; exact H) | exact H
            have Ny602 := Aside0.mk hy602
            clear hy602
            obtain ⟨ji10, hji10⟩ : ∃ j_ : Int, (wrap64 (t593 + 1)) = j_ := ⟨_, rfl⟩
            replace H : (if 0 ≤ (ji10) then (if (ji10) ≤ (t589.length : Int) then ((some (t589.drop ((ji10) : Int).toNat : List (S74))).bind fun y605 => (if y602.length + y605.length < 4398046511104 then ((spec_l7Treap.f (y602 ++ y605)).bind fun t612 => (some (t612, true))) else (none))) else (none)) else (none)) = some (r1, r2) := by first | (rw [hji10] at H; exact H) | (simp only [hji10] at H ⊢; exact H)
            (try rw [hji10] at A3)
            (try rw [hji10] at A4)
            have hji10w : (IntKind.i64.wrap (t593 + 1)) = ji10 := (i64_w _).trans hji10
            by_cases c11 : 0 ≤ (ji10)
            · rw [if_pos c11] at H
              have c11b0 := eq_true c11
              have c11b1 : decide (0 ≤ (ji10)) = true := decide_eq_true c11
              clear c11
              by_cases c12 : (ji10) ≤ (t589.length : Int)
              · rw [if_pos c12] at H
                have c12b0 := eq_true c12
                have c12b1 : decide ((ji10) ≤ (t589.length : Int)) = true := decide_eq_true c12
                clear c12
                obtain ⟨y605, hy605⟩ : ∃ y_ : List (S74), y_ = (t589.drop ((ji10) : Int).toNat) := ⟨_, rfl⟩
                replace H : (if y602.length + y605.length < 4398046511104 then ((spec_l7Treap.f (y602 ++ y605)).bind fun t612 => (some (t612, true))) else (none)) = some (r1, r2) := by first | (rw [hy605]; with_reducible exact H) | (have H2_ := (Option.bind_some _ _).symm.trans H; rw [hy605]; with_reducible exact H2_) | (have H2_ := (Option.bind_some _ _).symm.trans H; with_reducible exact H2_) | with_reducible exact H | (rw [hy605]; exact H) | exact H
                have Ny605 := Aside0.mk hy605
                clear hy605
                by_cases c13 : y602.length + y605.length < 4398046511104
                · rw [if_pos c13] at H
                  have LMc13 := Aside0.mk c13
                  clear c13
                  obtain ⟨y609, hy609⟩ : ∃ y_ : List (S74), y_ = (y602 ++ y605) := ⟨_, rfl⟩
                  replace H : ((spec_l7Treap.f y609).bind fun t612 => (some (t612, true))) = some (r1, r2) := by first | (rw [hy609]; with_reducible exact H) | (have H2_ := (Option.bind_some _ _).symm.trans H; rw [hy609]; with_reducible exact H2_) | (have H2_ := (Option.bind_some _ _).symm.trans H; with_reducible exact H2_) | with_reducible exact H | (rw [hy609]; exact H) | exact H
                  have Ny609 := Aside0.mk hy609
                  clear hy609
                  replace H := Option.bind_eq_some_iff.mp H
                  obtain ⟨t612, A140, H⟩ := H
                  replace H : (some (t612, true)) = some (r1, r2) := H
                  have A14 := Aside0.mk A140
                  clear A140
                  simp only [Option.some.injEq, Prod.mk.injEq] at H
                  obtain ⟨rfl, rfl⟩ := H
                  go_enter Try.func33, Try.ntmps33
                  try go_wp2_with (first | ((with_reducible refine gate_dst (N := 2) rfl ?_); refine box_event ?hg (N := 2) ?hd (cs := #[.slice A0_0 l0_0.length c0_0]) (t := 29) ?hr ?_; (case hd => rfl); (case hg => rfl); (case hr => first | (go_simp; done) | (go_simp; rfl)); intro gb587 hg w15 hbox hb; have n0_ := Aside0.mk (below_step (by repeat (first | (with_reducible first | exact HB.out | apply below_alloc | apply pw_below_drewN | apply below_drew1) | exact HB.out)) hb); have n1_ := Aside0.mk (hbox); have n2_ := Aside0.mk ((by rw [hg]; exact (below_size (by repeat (first | (with_reducible first | exact HB.out | apply below_alloc | apply pw_below_drewN | apply below_drew1) | exact HB.out))) : w.heap.size ≤ gb587)); have n3_ := Aside0.mk ((by rw [hg]; exact (below_size (by repeat (first | (with_reducible first | exact HB.out | apply below_alloc | apply pw_below_drewN | apply below_drew1) | exact HB.out))) : w.heap.size ≤ gb587)); clear HB; have HB := n0_; have BK587 := n1_; have GW587 := n2_; have GE587 := n3_; clear n0_ n1_ n2_ n3_; clear hb hbox hg) | ((with_reducible refine gate_dst (N := 4) rfl ?_); refine box_event ?hg (N := 4) ?hd (cs := #[.slice none 0 0]) (t := 29) ?hr ?_; (case hd => rfl); (case hg => rfl); (case hr => first | (go_simp; done) | (go_simp; rfl)); intro gb588 hg w16 hbox hb; have n0_ := Aside0.mk (blk_below (g := gb587) (o := .cells #[.slice A0_0 l0_0.length c0_0] 29 (0, 0)) (by (with_reducible repeat (first | refine blk_drewN ?_ _ | refine blk_drew ?_ | refine blk_alloc ?_ _)); exact BK587.out) hb); have n1_ := Aside0.mk (below_step (by repeat (first | (with_reducible first | exact HB.out | apply below_alloc | apply pw_below_drewN | apply below_drew1 | refine below_set ?_ GE587.out) | exact HB.out)) hb); have n2_ := Aside0.mk (hbox); have n3_ := Aside0.mk ((by rw [hg]; exact (below_size (by repeat (first | (with_reducible first | exact HB.out | apply below_alloc | apply pw_below_drewN | apply below_drew1 | refine below_set ?_ GE587.out) | exact HB.out))) : w.heap.size ≤ gb588)); have n4_ := Aside0.mk ((by rw [hg]; exact (below_size (by repeat (first | (with_reducible first | exact HB.out | apply below_alloc | apply pw_below_drewN | apply below_drew1 | refine below_set ?_ GE587.out) | exact HB.out))) : w.heap.size ≤ gb588)); have n5_ := Aside0.mk ((by rw [hg]; exact Nat.ne_of_lt (blk_lt (g := gb587) (o := .cells #[.slice A0_0 l0_0.length c0_0] 29 (0, 0)) (by (with_reducible repeat (first | refine blk_drewN ?_ _ | refine blk_drew ?_ | refine blk_alloc ?_ _)); exact BK587.out)) : gb587 ≠ gb588)); have n6_ := Aside0.mk ((by rw [hg]; exact Nat.ne_of_gt (blk_lt (g := gb587) (o := .cells #[.slice A0_0 l0_0.length c0_0] 29 (0, 0)) (by (with_reducible repeat (first | refine blk_drewN ?_ _ | refine blk_drew ?_ | refine blk_alloc ?_ _)); exact BK587.out)) : gb588 ≠ gb587)); clear BK587; clear HB; have BK587 := n0_; have HB := n1_; have BK588 := n2_; have GW588 := n3_; have GE588 := n4_; have NB587_588 := n5_; have NB588_587 := n6_; clear n0_ n1_ n2_ n3_ n4_ n5_ n6_; clear hb hbox hg; have hnb17 := NB587_588.out; have hnc17 := NB588_587.out; have hcz18_0 : w16.cell? ⟨gb587, 0, none⟩ = some (.slice A0_0 l0_0.length c0_0) := (blk_cell BK587.out 0).trans rfl; have hfz18_0 := blk_frozen BK587.out 0) | ((with_reducible refine gate_callee (f := 47) rfl ?_); refine goesL_ (some 12) rfl rfl Try.func47 (by kernel_rfl) rfl #[.agg #[.slice A0_0 l0_0.length c0_0]] rfl (by (try simp only [List.map_toArray, List.map_cons, List.map_nil]); first | done | rfl | (simp only [List.length_drop, List.length_take]; rfl)) ?_; (with_reducible refine (spec_l7Of.calls k _ _ l0_0 t589 true _ ?side1 ?side2 A3.out).mono ?_); (case side1 => repeat (first | exact (Kd.C_below HR0_0.out HB.out) | (with_reducible refine Kd.C_alloc ?_ _) | (with_reducible refine Kd.C_drewN ?_ _) | (with_reducible refine Kd.C_drew ?_))); (case side2 => exact HC0_0.out); rintro e w19 ⟨v590, rfl, ho0, hb⟩; refine ⟨_, rfl, ?_⟩; have n0_ := Aside0.mk (Kd.R_lower ho0 (below_size (by repeat (first | (with_reducible first | exact HB.out | apply below_alloc | apply pw_below_drewN | apply below_drew1 | refine below_set ?_ GE587.out | refine below_set ?_ GE588.out) | exact HB.out)))); have n1_ := Aside0.mk (blk_below (g := gb587) (o := .cells #[.slice A0_0 l0_0.length c0_0] 29 (0, 0)) (by (with_reducible repeat (first | refine blk_drewN ?_ _ | refine blk_drew ?_ | refine blk_alloc ?_ _)); exact BK587.out) hb); have n2_ := Aside0.mk (blk_below (g := gb588) (o := .cells #[.slice none 0 0] 29 (0, 0)) (by (with_reducible repeat (first | refine blk_drewN ?_ _ | refine blk_drew ?_ | refine blk_alloc ?_ _)); exact BK588.out) hb); have n3_ := Aside0.mk (below_step (by repeat (first | (with_reducible first | exact HB.out | apply below_alloc | apply pw_below_drewN | apply below_drew1 | refine below_set ?_ GE587.out | refine below_set ?_ GE588.out) | exact HB.out)) hb); clear BK587; clear BK588; clear HB; have HO591 := n0_; have BK587 := n1_; have BK588 := n2_; have HB := n3_; clear n0_ n1_ n2_ n3_; (try clear hb); (try clear hb2); (try clear hk); (try clear hi); (try clear ho0); obtain ⟨Ao20, co20, eo20⟩ := Kd.R_slice HO591.out; subst eo20) | ((with_reducible refine gate_callee (f := 60) rfl ?_); refine goesL_ (some 18) rfl rfl Try.func60 (by kernel_rfl) rfl #[.slice Ao20 t589.length co20, .string a1] rfl (by (try simp only [List.map_toArray, List.map_cons, List.map_nil]); first | done | rfl | (simp only [List.length_drop, List.length_take]; rfl)) ?_; (with_reducible refine (spec_l7At.calls k _ _ t589 a1 t593 true _ ?side1 ?side2 A4.out).mono ?_); (case side1 => repeat (first | exact (Kd.R_reads' HO591.out).2.2 | (with_reducible refine Kd.C_alloc ?_ _) | (with_reducible refine Kd.C_drewN ?_ _) | (with_reducible refine Kd.C_drew ?_))); (case side2 => exact (Kd.R_reads' HO591.out).2.1); rintro e w' ⟨rfl, ⟨nd, rfl⟩⟩; refine ⟨_, rfl, ?_⟩; (try (rw [drewN_self w19]; generalize hq_ : World.drewN w19 _ = w19; have n0_ : Aside0 (Kd.R k74 74 w19 w.heap.size (fun _ => True) (.slice Ao20 t589.length co20) t589) := ⟨by rw [← hq_]; exact (by (with_reducible repeat (first | apply Kd.R_alloc | apply Kd.R_drewN | apply Kd.R_drew)); exact HO591.out)⟩; have n1_ : Aside0 (w19.heap[gb587]? = some (.cells #[.slice A0_0 l0_0.length c0_0] 29 (0, 0))) := ⟨by rw [← hq_]; exact (by (with_reducible repeat (first | refine blk_drewN ?_ _ | refine blk_drew ?_ | refine blk_alloc ?_ _)); exact BK587.out)⟩; have n2_ : Aside0 (w19.heap[gb588]? = some (.cells #[.slice none 0 0] 29 (0, 0))) := ⟨by rw [← hq_]; exact (by (with_reducible repeat (first | refine blk_drewN ?_ _ | refine blk_drew ?_ | refine blk_alloc ?_ _)); exact BK588.out)⟩; have n3_ : Aside0 (Below w.heap.size w w19) := ⟨by rw [← hq_]; exact (by repeat (first | (with_reducible first | exact HB.out | apply below_alloc | apply pw_below_drewN | apply below_drew1 | refine below_set ?_ GE587.out | refine below_set ?_ GE588.out) | exact HB.out))⟩; clear HO591 BK587 BK588 HB hq_; have HO591 := n0_; have BK587 := n1_; have BK588 := n2_; have HB := n3_; clear n0_ n1_ n2_ n3_))))
                  have n0_ := Aside0.mk (Kd.R_drew HO591.out)
                  have n1_ := Aside0.mk (blk_drew BK587.out)
                  have n2_ := Aside0.mk (blk_drew BK588.out)
                  have n3_ := Aside0.mk (below_drew1 HB.out)
                  clear HO591
                  clear BK587
                  clear BK588
                  clear HB
                  have HO591 := n0_
                  have BK587 := n1_
                  have BK588 := n2_
                  have HB := n3_
                  clear n0_ n1_ n2_ n3_
                  have q22 : (t593 : Int) ≤ ((t589.length : Int) : Int) := of_decide_eq_true (by first | (with_reducible assumption) | assumption)
                  obtain ⟨i022, hi022, _, hsz22, _⟩ := info_parts info74
                  have hroom22 : t589.length ≤ co20 := (Kd.R_reads' HO591.out).2.1
                  have hC22 : Kd.C k74 _ Ao20 t589.length t589 := (Kd.R_reads' HO591.out).2.2
                  have hcut22 := cut_to (P := Try.prog) 62 74 .i64 Try.underlying62 hi022 Ao20 t589.length co20 t593 (of_decide_eq_true (by first | (with_reducible assumption) | assumption)) q22 hroom22
                  have hr22 := Kd.C_take (m := (t593 : Int).toNat) hC22 (by omega)
                  have hy22 : y598.length = (t593 : Int).toNat := (by rw [Ny598.out, List.length_take]; omega)
                  rw [← Ny598.out] at hr22
                  rw [← hy22] at hcut22
                  have HR601 := Aside0.mk hr22
                  have HC601 := Aside0.mk (show y598.length ≤ co20 from by omega)
                  clear hr22 hC22 hroom22 hi022 hsz22
                  have KY22 := Aside0.mk hy22
                  clear hy22
                  have KL22 := Aside0.mk (show (t593 : Int).toNat ≤ t589.length from by omega)
                  replace q22 := eq_true q22
                  have q23 : ((ji10) : Int) ≤ ((t589.length : Int) : Int) := of_decide_eq_true (by first | (with_reducible assumption) | assumption)
                  obtain ⟨i023, hi023, _, hsz23, _⟩ := info_parts info74
                  have hroom23 : t589.length ≤ co20 := (Kd.R_reads' HO591.out).2.1
                  have hC23 : Kd.C k74 _ Ao20 t589.length t589 := (Kd.R_reads' HO591.out).2.2
                  have q023 : (0 : Int) ≤ ((ji10) : Int) := of_decide_eq_true (by first | (with_reducible assumption) | assumption)
                  have hcut23 := cut_from (P := Try.prog) 62 74 .i64 Try.underlying62 hi023 2 hsz23 Ao20 t589.length co20 (ji10) q023 q23
                  have hr23 := Kd.C_drop (m := ((ji10) : Int).toNat) (c := co20) hC23 (by omega) hroom23
                  obtain ⟨A23, hA23⟩ : ∃ A1, A1 = (if co20 = ((ji10) : Int).toNat then Ao20 else (Ao20 : Option Addr).map (·.add (((ji10) : Int).toNat * 2))) := ⟨_, rfl⟩
                  obtain ⟨c23, hc23⟩ : ∃ c1, c1 = co20 - ((ji10) : Int).toNat := ⟨_, rfl⟩
                  have hy23 : y605.length = t589.length - ((ji10) : Int).toNat := (by rw [Ny605.out, List.length_drop] <;> omega)
                  rw [show (t589).drop ((ji10) : Int).toNat = y605 from Ny605.out.symm] at hr23
                  replace hr23 : Kd.C k74 _ A23 y605.length y605 := (by rw [hA23]; exact hr23)
                  rw [← hy23, ← hA23, ← hc23] at hcut23
                  have HR608 := Aside0.mk hr23
                  have HC608 := Aside0.mk (show y605.length ≤ c23 from by rw [hy23, hc23]; exact Nat.sub_le_sub_right hroom23 _)
                  clear hr23 hC23 hroom23 hi023 hsz23 hc23
                  have KY23 := Aside0.mk hy23
                  have KA23 := Aside0.mk hA23
                  clear hy23 hA23
                  have KL23 := Aside0.mk (show ((ji10) : Int).toNat ≤ t589.length from by omega)
                  replace q23 := eq_true q23
                  refine start_ (n := 13) (S := fun w' => True) (ds := []) #[false, false, false, false, false, false, false, false, false, false, false, false, false] (by kernel_rfl) rfl rfl trivial (fun hHeld => ?_); refine with_tabW spec_CutKey.tab5 spec_CutKey.bits5 (fun HT_ HW_ => ?_)
                  generalize w19.drew = w21 at HO591 BK587 BK588 HB HR601 HR608 hHeld ⊢
                  refine pure_ (i := 1) (N := some 29) (v := ?_) (a' := ?_) #[false, true, false, false, false, false, false, false, false, false, false, false, false] rfl rfl (any_of HT_.out (by kernel_rfl)) (fun _ _ _ h => h) (Or.inl ⟨by rfl, ?_⟩) ?_ ?_
                  rotate_left
                  · intro w'
                    go_simp
                    with_reducible rfl
                  rotate_left
                  · simp only [Act.put, List.setIfInBounds_toArray, List.set_cons_zero, List.set_cons_succ, i64_w, i32_w]
                    rfl
                  refine pure_ (i := 2) (N := some 30) (v := ?_) (a' := ?_) #[false, true, true, false, false, false, false, false, false, false, false, false, false] rfl rfl (any_of HT_.out (by kernel_rfl)) (fun _ _ _ h => h) (Or.inl ⟨by rfl, ?_⟩) ?_ ?_
                  rotate_left
                  · intro w'
                    go_simp
                    with_reducible rfl
                  rotate_left
                  · simp only [Act.put, List.setIfInBounds_toArray, List.set_cons_zero, List.set_cons_succ, i64_w, i32_w]
                    rfl
                  refine pure_ (i := 3) (N := some 31) (v := ?_) (a' := ?_) #[false, true, true, true, false, false, false, false, false, false, false, false, false] rfl rfl (any_of HT_.out (by kernel_rfl)) (fun _ _ _ h => h) (Or.inl ⟨by rfl, ?_⟩) ?_ ?_
                  rotate_left
                  · intro w'
                    go_simp
                    with_reducible rfl
                  rotate_left
                  · simp only [Act.put, List.setIfInBounds_toArray, List.set_cons_zero, List.set_cons_succ, i64_w, i32_w]
                    rfl
                  refine pure_ (i := 5) (N := some 33) (v := ?_) (a' := ?_) #[false, true, true, true, false, true, false, false, false, false, false, false, false] rfl rfl (any_of HT_.out (by kernel_rfl)) (fun _ _ _ h => h) (Or.inl ⟨by rfl, ?_⟩) ?_ ?_
                  rotate_left
                  · intro w'
                    go_simp
                    with_reducible rfl
                  rotate_left
                  · simp only [Act.put, List.setIfInBounds_toArray, List.set_cons_zero, List.set_cons_succ, i64_w, i32_w]
                    rfl
                  refine pure_ (i := 6) (N := some 34) (v := ?_) (a' := ?_) #[false, true, true, true, false, true, true, false, false, false, false, false, false] rfl rfl (any_of HT_.out (by kernel_rfl)) (fun _ _ _ h => h) (Or.inl ⟨by rfl, ?_⟩) ?_ ?_
                  rotate_left
                  · intro w'
                    go_simp
                    with_reducible rfl
                  rotate_left
                  · simp only [Act.put, List.setIfInBounds_toArray, List.set_cons_zero, List.set_cons_succ, i64_w, i32_w]
                    rfl
                  refine pure_ (i := 7) (N := some 35) (v := ?_) (a' := ?_) #[false, true, true, true, false, true, true, true, false, false, false, false, false] rfl rfl (any_of HT_.out (by kernel_rfl)) (fun _ _ _ h => h) (Or.inl ⟨by rfl, ?_⟩) ?_ ?_
                  rotate_left
                  · intro w'
                    go_simp
                    with_reducible rfl
                  rotate_left
                  · simp only [Act.put, List.setIfInBounds_toArray, List.set_cons_zero, List.set_cons_succ, i64_w, i32_w]
                    rfl
                  refine pure_ (i := 8) (N := some 36) (v := ?_) (a' := ?_) #[false, true, true, true, false, true, true, true, true, false, false, false, false] rfl rfl (any_of HT_.out (by kernel_rfl)) (fun _ _ _ h => h) (Or.inl ⟨by rfl, ?_⟩) ?_ ?_
                  rotate_left
                  · intro w'
                    go_simp
                    with_reducible rfl
                  rotate_left
                  · simp only [Act.put, List.setIfInBounds_toArray, List.set_cons_zero, List.set_cons_succ, i64_w, i32_w]
                    rfl
                  refine one_ (i := 0) (N := some 28) #[true, true, true, true, false, true, true, true, true, false, false, false, false] rfl rfl (one_of HT_.out (by kernel_rfl)) (by decide) (fun K hK => ?_)
                  refine Kd.R_lit_step k74 _ 74 ?hg (N := 28) ?hd (xs := ([] : List (S74))) (inner := []) (ok := fun _ => True) (okp := fun _ => True) ?hr ?hp (fun _ hk => hk) trivial (Below.refl _ _) (Nat.le_refl _) (by simp) ?_; (case hd => rfl); (case hg => rfl); (case hr => first | (go_simp; done) | (go_simp; rfl)); (case hp => exact (Reps.none _ _))
                  intro v596 w24 ho25 hb hg_ hnew_
                  clear hg_ hnew_
                  (first | rw [← Ny595.out] at ho25 | (simp only [Int.reduceToNat] at ho25; rw [← Ny595.out] at ho25))
                  have n0_ := Aside0.mk (Kd.R_elder' (by (with_reducible repeat (first | apply Kd.R_alloc | apply Kd.R_drewN | apply Kd.R_drew)); exact HO591.out) (Kd.R_base ho25) hb)
                  have n1_ := Aside0.mk (Kd.R_lower (Kd.R_new' ho25 (Kd.R_lt (by (with_reducible repeat (first | apply Kd.R_alloc | apply Kd.R_drewN | apply Kd.R_drew)); exact HO591.out))) (below_size (by repeat (first | (with_reducible first | exact HB.out | apply below_alloc | apply pw_below_drewN | apply below_drew1 | refine below_set ?_ GE587.out | refine below_set ?_ GE588.out) | exact HB.out))))
                  have n2_ := Aside0.mk (blk_below (g := gb587) (o := .cells #[.slice A0_0 l0_0.length c0_0] 29 (0, 0)) (by (with_reducible repeat (first | refine blk_drewN ?_ _ | refine blk_drew ?_ | refine blk_alloc ?_ _)); exact BK587.out) hb)
                  have n3_ := Aside0.mk (blk_below (g := gb588) (o := .cells #[.slice none 0 0] 29 (0, 0)) (by (with_reducible repeat (first | refine blk_drewN ?_ _ | refine blk_drew ?_ | refine blk_alloc ?_ _)); exact BK588.out) hb)
                  have n4_ := Aside0.mk (Kd.C_below (by repeat (first | (with_reducible exact HR601.out) | (with_reducible refine Kd.C_alloc ?_ _) | (with_reducible refine Kd.C_drewN ?_ _) | (with_reducible refine Kd.C_drew ?_) | exact HR601.out)) hb)
                  have n5_ := Aside0.mk (Kd.C_below (by repeat (first | (with_reducible exact HR608.out) | (with_reducible refine Kd.C_alloc ?_ _) | (with_reducible refine Kd.C_drewN ?_ _) | (with_reducible refine Kd.C_drew ?_) | exact HR608.out)) hb)
                  have n6_ := Aside0.mk (below_step (by repeat (first | (with_reducible first | exact HB.out | apply below_alloc | apply pw_below_drewN | apply below_drew1 | refine below_set ?_ GE587.out | refine below_set ?_ GE588.out) | exact HB.out)) hb)
                  clear HO591
                  clear BK587
                  clear BK588
                  clear HR601
                  clear HR608
                  clear HB
                  have HO591 := n0_
                  have HO597 := n1_
                  have BK587 := n2_
                  have BK588 := n3_
                  have HR601 := n4_
                  have HR608 := n5_
                  have HB := n6_
                  clear n0_ n1_ n2_ n3_ n4_ n5_ n6_
                  clear hb ho25
                  refine hK.out _ _ trivial (fun hHeld => ?_)
                  clear hK K
                  refine norm_ (a' := ?_) ?_ ?_
                  rotate_left
                  · show Act.put _ (some 28) _ = _
                    simp only [Act.put, List.setIfInBounds_toArray, List.set_cons_zero, List.set_cons_succ, i64_w, i32_w]
                    rfl
                  refine one_ (i := 4) (N := some 32) #[true, true, true, true, true, true, true, true, true, false, false, false, false] rfl rfl (one_of HT_.out (by kernel_rfl)) (by decide) (fun K hK => ?_)
                  refine Kd.R_append_rows_step k74 (w0 := w) w.heap.size (by rfl) (.tmp 28) (.tmp 31) 62 74 (.agg #[(.string ⟨#[]⟩), (.string ⟨#[]⟩)]) 32 rfl Try.underlying62 info74 rfl (by decide) (by omega) v596 y595 y598 _ _ _ (fun k_ => some k_ ≠ (.slice Ao20 t589.length co20 : Value).ownBlock) (fun _ => False) rfl rfl ?aO ?aR (fun _ _ h => h) (fun _ h => h.elim) ?aF ?aB ?aS ?aL ?_
                  (case aR => repeat (first | exact (by repeat (first | (with_reducible exact HR601.out) | (with_reducible refine Kd.C_alloc ?_ _) | (with_reducible refine Kd.C_drewN ?_ _) | (with_reducible refine Kd.C_drew ?_) | exact HR601.out)) | (with_reducible refine Kd.C_alloc ?_ _) | (with_reducible refine Kd.C_drewN ?_ _) | (with_reducible refine Kd.C_drew ?_)))
                  (case aB => exact (by repeat (first | (with_reducible first | exact HB.out | apply below_alloc | apply pw_below_drewN | apply below_drew1 | refine below_set ?_ GE587.out | refine below_set ?_ GE588.out) | exact HB.out)))
                  (case aF => exact (fun k_ hk => Kd.fresh' (Kd.R_lt (by (with_reducible repeat (first | apply Kd.R_alloc | apply Kd.R_drewN | apply Kd.R_drew)); exact HO591.out)) k_ hk))
                  (case aO => exact (by (with_reducible repeat (first | apply Kd.R_alloc | apply Kd.R_drewN | apply Kd.R_drew)); exact Kd.R_mono HO597.out (fun _ hk => hk.2)))
                  (case aS => exact (below_size (by repeat (first | (with_reducible first | exact HB.out | apply below_alloc | apply pw_below_drewN | apply below_drew1 | refine below_set ?_ GE587.out | refine below_set ?_ GE588.out) | exact HB.out))))
                  (case aL => have := LMc9.out; omega)
                  intro v603 w26 ho hb hg hat
                  rw [← Ny602.out] at ho
                  have n0_ := Aside0.mk (blk_grown (g := gb587) (o := .cells #[.slice A0_0 l0_0.length c0_0] 29 (0, 0)) (by (with_reducible repeat (first | refine blk_drewN ?_ _ | refine blk_drew ?_ | refine blk_alloc ?_ _)); exact BK587.out) hg (Kd.R_ne HO597.out BK587.out (by decide)))
                  have n1_ := Aside0.mk (blk_grown (g := gb588) (o := .cells #[.slice none 0 0] 29 (0, 0)) (by (with_reducible repeat (first | refine blk_drewN ?_ _ | refine blk_drew ?_ | refine blk_alloc ?_ _)); exact BK588.out) hg (Kd.R_ne HO597.out BK588.out (by decide)))
                  have n2_ := Aside0.mk (Kd.R_after (ok := (fun _ => True)) (by (with_reducible repeat (first | apply Kd.R_alloc | apply Kd.R_drewN | apply Kd.R_drew)); exact HO591.out) hg hat)
                  have n3_ := Aside0.mk (hb)
                  have n4_ := Aside0.mk ((show Kd.C k74 w26 Ao20 y598.length y598 from by rw [Ny598.out]; exact Kd.C_take (m := (t593 : Int).toNat) ((Kd.R_reads' (Kd.R_after (ok := (fun _ => True)) (by (with_reducible repeat (first | apply Kd.R_alloc | apply Kd.R_drewN | apply Kd.R_drew)); exact HO591.out) hg hat)).2.2) KL22.out))
                  have n5_ := Aside0.mk ((show Kd.C k74 w26 A23 y605.length y605 from by rw [Ny605.out, KA23.out]; exact Kd.C_drop (m := ((ji10) : Int).toNat) (c := co20) ((Kd.R_reads' (Kd.R_after (ok := (fun _ => True)) (by (with_reducible repeat (first | apply Kd.R_alloc | apply Kd.R_drewN | apply Kd.R_drew)); exact HO591.out) hg hat)).2.2) KL23.out ((Kd.R_reads' (Kd.R_after (ok := (fun _ => True)) (by (with_reducible repeat (first | apply Kd.R_alloc | apply Kd.R_drewN | apply Kd.R_drew)); exact HO591.out) hg hat)).2.1)))
                  have n6_ := Aside0.mk (ho)
                  clear BK587
                  clear BK588
                  clear HO591
                  clear HB
                  clear HR601
                  clear HR608
                  clear HO597
                  have BK587 := n0_
                  have BK588 := n1_
                  have HO591 := n2_
                  have HB := n3_
                  have HR601 := n4_
                  have HR608 := n5_
                  have HO604 := n6_
                  clear n0_ n1_ n2_ n3_ n4_ n5_ n6_
                  clear ho hb hg hat
                  refine hK.out _ _ trivial (fun hHeld => ?_)
                  clear hK K
                  refine norm_ (a' := ?_) ?_ ?_
                  rotate_left
                  · show Act.put _ (some 32) _ = _
                    simp only [Act.put, List.setIfInBounds_toArray, List.set_cons_zero, List.set_cons_succ, i64_w, i32_w]
                    rfl
                  refine one_ (i := 9) (N := some 37) #[true, true, true, true, true, true, true, true, true, true, false, false, false] rfl rfl (one_of HT_.out (by kernel_rfl)) (by decide) (fun K hK => ?_)
                  refine Kd.R_append_rows_step k74 (w0 := w) w.heap.size (by rfl) (.tmp 32) (.tmp 36) 62 74 (.agg #[(.string ⟨#[]⟩), (.string ⟨#[]⟩)]) 32 rfl Try.underlying62 info74 rfl (by decide) (by omega) v603 y602 y605 _ _ _ (fun k_ => some k_ ≠ (.slice Ao20 t589.length co20 : Value).ownBlock) (fun _ => False) rfl rfl ?aO ?aR (fun _ _ h => h) (fun _ h => h.elim) ?aF ?aB ?aS ?aL ?_
                  (case aR => repeat (first | exact (by repeat (first | (with_reducible exact HR608.out) | (with_reducible refine Kd.C_alloc ?_ _) | (with_reducible refine Kd.C_drewN ?_ _) | (with_reducible refine Kd.C_drew ?_) | exact HR608.out)) | (with_reducible refine Kd.C_alloc ?_ _) | (with_reducible refine Kd.C_drewN ?_ _) | (with_reducible refine Kd.C_drew ?_)))
                  (case aB => exact (by repeat (first | (with_reducible first | exact HB.out | apply below_alloc | apply pw_below_drewN | apply below_drew1 | refine below_set ?_ GE587.out | refine below_set ?_ GE588.out) | exact HB.out)))
                  (case aF => exact (fun k_ hk => Kd.fresh' (Kd.R_lt (by (with_reducible repeat (first | apply Kd.R_alloc | apply Kd.R_drewN | apply Kd.R_drew)); exact HO591.out)) k_ hk))
                  (case aO => exact (by (with_reducible repeat (first | apply Kd.R_alloc | apply Kd.R_drewN | apply Kd.R_drew)); exact HO604.out))
                  (case aS => exact (below_size (by repeat (first | (with_reducible first | exact HB.out | apply below_alloc | apply pw_below_drewN | apply below_drew1 | refine below_set ?_ GE587.out | refine below_set ?_ GE588.out) | exact HB.out))))
                  (case aL => have := LMc13.out; omega)
                  intro v610 w27 ho hb hg hat
                  rw [← Ny609.out] at ho
                  have n0_ := Aside0.mk (blk_grown (g := gb587) (o := .cells #[.slice A0_0 l0_0.length c0_0] 29 (0, 0)) (by (with_reducible repeat (first | refine blk_drewN ?_ _ | refine blk_drew ?_ | refine blk_alloc ?_ _)); exact BK587.out) hg (Kd.R_ne HO604.out BK587.out (by decide)))
                  have n1_ := Aside0.mk (blk_grown (g := gb588) (o := .cells #[.slice none 0 0] 29 (0, 0)) (by (with_reducible repeat (first | refine blk_drewN ?_ _ | refine blk_drew ?_ | refine blk_alloc ?_ _)); exact BK588.out) hg (Kd.R_ne HO604.out BK588.out (by decide)))
                  have n2_ := Aside0.mk (Kd.R_after (ok := (fun _ => True)) (by (with_reducible repeat (first | apply Kd.R_alloc | apply Kd.R_drewN | apply Kd.R_drew)); exact HO591.out) hg hat)
                  have n3_ := Aside0.mk (hb)
                  have n4_ := Aside0.mk ((show Kd.C k74 w27 Ao20 y598.length y598 from by rw [Ny598.out]; exact Kd.C_take (m := (t593 : Int).toNat) ((Kd.R_reads' (Kd.R_after (ok := (fun _ => True)) (by (with_reducible repeat (first | apply Kd.R_alloc | apply Kd.R_drewN | apply Kd.R_drew)); exact HO591.out) hg hat)).2.2) KL22.out))
                  have n5_ := Aside0.mk ((show Kd.C k74 w27 A23 y605.length y605 from by rw [Ny605.out, KA23.out]; exact Kd.C_drop (m := ((ji10) : Int).toNat) (c := co20) ((Kd.R_reads' (Kd.R_after (ok := (fun _ => True)) (by (with_reducible repeat (first | apply Kd.R_alloc | apply Kd.R_drewN | apply Kd.R_drew)); exact HO591.out) hg hat)).2.2) KL23.out ((Kd.R_reads' (Kd.R_after (ok := (fun _ => True)) (by (with_reducible repeat (first | apply Kd.R_alloc | apply Kd.R_drewN | apply Kd.R_drew)); exact HO591.out) hg hat)).2.1)))
                  have n6_ := Aside0.mk (ho)
                  clear BK587
                  clear BK588
                  clear HO591
                  clear HB
                  clear HR601
                  clear HR608
                  clear HO604
                  have BK587 := n0_
                  have BK588 := n1_
                  have HO591 := n2_
                  have HB := n3_
                  have HR601 := n4_
                  have HR608 := n5_
                  have HO611 := n6_
                  clear n0_ n1_ n2_ n3_ n4_ n5_ n6_
                  clear ho hb hg hat
                  obtain ⟨Ao28, co28, eo28⟩ := Kd.R_slice HO611.out
                  (first | subst eo28 | (injection eo28 with f1_ f2_ f3_; have f4_ := f1_.symm; have f5_ := f3_.symm; clear f1_ f2_ f3_; subst f4_; subst f5_))
                  refine hK.out _ _ trivial (fun hHeld => ?_)
                  clear hK K
                  refine norm_ (a' := ?_) ?_ ?_
                  rotate_left
                  · show Act.put _ (some 37) _ = _
                    simp only [Act.put, List.setIfInBounds_toArray, List.set_cons_zero, List.set_cons_succ, i64_w, i32_w]
                    rfl
                  refine one_ (i := 10) (N := some 38) #[true, true, true, true, true, true, true, true, true, true, true, false, false] rfl rfl (one_of HT_.out (by kernel_rfl)) (by decide) (fun K hK => ?_)
                  refine goes_ Try.func56 (by kernel_rfl) rfl #[.slice Ao28 y609.length co28] (by rfl) rfl rfl (by (try simp only [List.map_toArray, List.map_cons, List.map_nil]); first | done | rfl | (simp only [List.length_drop, List.length_take]; rfl)) ?_
                  with_reducible refine (spec_l7Treap.calls _ _ y609 t612 _ ?side1 ?side2 A14.out).mono ?_
                  (case side1 => repeat (first | exact (Kd.R_reads' HO611.out).2.2 | (with_reducible refine Kd.C_alloc ?_ _) | (with_reducible refine Kd.C_drewN ?_ _) | (with_reducible refine Kd.C_drew ?_)))
                  (case side2 => exact (Kd.R_reads' HO611.out).2.1)
                  rintro e w29 ⟨v613, rfl, ho0, hb⟩
                  refine ⟨_, rfl, ?_⟩
                  have n0_ := Aside0.mk (Kd.R_below (by (with_reducible repeat (first | apply Kd.R_alloc | apply Kd.R_drewN | apply Kd.R_drew)); exact HO591.out) hb)
                  have n1_ := Aside0.mk (Kd.R_below (by (with_reducible repeat (first | apply Kd.R_alloc | apply Kd.R_drewN | apply Kd.R_drew)); exact HO611.out) hb)
                  have n2_ := Aside0.mk (Kd.R_lower ho0 (below_size (by repeat (first | (with_reducible first | exact HB.out | apply below_alloc | apply pw_below_drewN | apply below_drew1 | refine below_set ?_ GE587.out | refine below_set ?_ GE588.out) | exact HB.out))))
                  have n3_ := Aside0.mk (blk_below (g := gb587) (o := .cells #[.slice A0_0 l0_0.length c0_0] 29 (0, 0)) (by (with_reducible repeat (first | refine blk_drewN ?_ _ | refine blk_drew ?_ | refine blk_alloc ?_ _)); exact BK587.out) hb)
                  have n4_ := Aside0.mk (blk_below (g := gb588) (o := .cells #[.slice none 0 0] 29 (0, 0)) (by (with_reducible repeat (first | refine blk_drewN ?_ _ | refine blk_drew ?_ | refine blk_alloc ?_ _)); exact BK588.out) hb)
                  have n5_ := Aside0.mk (Kd.C_below (by repeat (first | (with_reducible exact HR601.out) | (with_reducible refine Kd.C_alloc ?_ _) | (with_reducible refine Kd.C_drewN ?_ _) | (with_reducible refine Kd.C_drew ?_) | exact HR601.out)) hb)
                  have n6_ := Aside0.mk (Kd.C_below (by repeat (first | (with_reducible exact HR608.out) | (with_reducible refine Kd.C_alloc ?_ _) | (with_reducible refine Kd.C_drewN ?_ _) | (with_reducible refine Kd.C_drew ?_) | exact HR608.out)) hb)
                  have n7_ := Aside0.mk (below_step (by repeat (first | (with_reducible first | exact HB.out | apply below_alloc | apply pw_below_drewN | apply below_drew1 | refine below_set ?_ GE587.out | refine below_set ?_ GE588.out) | exact HB.out)) hb)
                  clear HO591
                  clear HO611
                  clear BK587
                  clear BK588
                  clear HR601
                  clear HR608
                  clear HB
                  have HO591 := n0_
                  have HO611 := n1_
                  have HO614 := n2_
                  have BK587 := n3_
                  have BK588 := n4_
                  have HR601 := n5_
                  have HR608 := n6_
                  have HB := n7_
                  clear n0_ n1_ n2_ n3_ n4_ n5_ n6_ n7_
                  (try clear hb)
                  (try clear hb2)
                  (try clear hk)
                  (try clear hi)
                  (try clear ho0)
                  obtain ⟨Ao30, co30, eo30⟩ := Kd.R_slice HO614.out
                  (first | subst eo30 | (injection eo30 with f1_ f2_ f3_; have f4_ := f1_.symm; have f5_ := f3_.symm; clear f1_ f2_ f3_; subst f4_; subst f5_))
                  refine hK.out _ _ trivial (fun hHeld => ?_)
                  clear hK K
                  refine norm_ (a' := ?_) ?_ ?_
                  rotate_left
                  · show Act.put _ (some 38) _ = _
                    simp only [Act.put, List.setIfInBounds_toArray, List.set_cons_zero, List.set_cons_succ, i64_w, i32_w]
                    rfl
                  refine one_ (i := 11) (N := none) #[true, true, true, true, true, true, true, true, true, true, true, true, false] rfl rfl (one_of HT_.out (by kernel_rfl)) (by decide) (fun K hK => ?_)
                  have hs31 : w29.cell? ⟨gb588, 0, none⟩ = some (.slice none 0 0) := (blk_cell BK588.out 0).trans rfl
                  have hfs31 := blk_frozen BK588.out 0
                  have hns31_0 := NB587_588.out
                  have hms31_0 := NB588_587.out
                  refine skip_ (w1 := ?_) (by rfl) rfl ?_ ?_
                  rotate_left
                  · go_simp
                    rfl
                  refine hK.out _ _ trivial (fun hHeld => ?_)
                  clear hK K
                  refine pure_ (i := 12) (N := some 5) (v := ?_) (a' := ?_) #[true, true, true, true, true, true, true, true, true, true, true, true, true] rfl rfl (any_of HT_.out (by kernel_rfl)) (fun _ _ _ h => h) (Or.inl ⟨by rfl, ?_⟩) ?_ ?_
                  rotate_left
                  · intro w'
                    go_simp
                    with_reducible rfl
                  rotate_left
                  · simp only [Act.put, List.setIfInBounds_toArray, List.set_cons_zero, List.set_cons_succ, i64_w, i32_w]
                    rfl
                  refine done_ (done_of HT_.out (by kernel_rfl)) ?_
                  try go_wp2
                  refine bodyPost_ret (results_ct rfl _ _ gb588 29 #[.slice Ao30 t612.length co30] (0, 0) _ rfl (by (with_reducible repeat (first | refine blk_drewN ?_ _ | refine blk_drew ?_ | refine blk_alloc ?_ _)); refine blk_put (cs := #[.slice none 0 0]) ?_ 0 _ rfl; (with_reducible repeat (first | refine blk_drewN ?_ _ | refine blk_drew ?_ | refine blk_alloc ?_ _)); exact BK588.out) Try.underlying29 rfl (by kernel_rfl)) rfl ?_
                  exact ⟨_, by first | rfl | (simp [errW_none, errW_some] <;> rfl) | (simp only [← hji10]; first | rfl | (simp [errW_none, errW_some] <;> rfl)) | (simp [*, errW_none, errW_some] <;> rfl), by (with_reducible repeat (first | apply Kd.R_alloc | apply Kd.R_drewN | apply Kd.R_drew)); exact Kd.R_mono (Kd.R_far (p := ⟨gb588, 0, none⟩) (Kd.R_types HO614.out BK588.out (by decide)) (fun _ hk => hk.2) (.slice Ao30 t612.length co30)) (fun _ hk => trivial), by repeat (first | (with_reducible first | exact HB.out | apply below_alloc | apply pw_below_drewN | apply below_drew1 | refine below_set ?_ GE587.out | refine below_set ?_ GE588.out) | exact HB.out)⟩
                · rw [if_neg c13] at H
                  exact absurd H (by simp)
              · rw [if_neg c12] at H
                exact absurd H (by simp)
            · rw [if_neg c11] at H
              exact absurd H (by simp)
          · rw [if_neg c9] at H
            exact absurd H (by simp)
        · rw [if_neg c8] at H
          exact absurd H (by simp)
      · rw [if_neg c7] at H
        exact absurd H (by simp)
    · replace c6 := Bool.eq_false_iff.mpr c6
      subst c6
      have H1 : (some (([] : List (S71)), false)) = some (r1, r2) := by rw [if_neg (show ¬ (false = true) by decide)] at H; exact H
      clear H
      have H := H1
      clear H1
      simp only [Option.some.injEq, Prod.mk.injEq] at H
      obtain ⟨rfl, rfl⟩ := H
      go_enter Try.func33, Try.ntmps33
      go_wp2_with (first | ((with_reducible refine gate_dst (N := 2) rfl ?_); refine box_event ?hg (N := 2) ?hd (cs := #[.slice A0_0 l0_0.length c0_0]) (t := 29) ?hr ?_; (case hd => rfl); (case hg => rfl); (case hr => first | (go_simp; done) | (go_simp; rfl)); intro gb587 hg w32 hbox hb; have n0_ := Aside0.mk (below_step (by repeat (first | (with_reducible first | exact HB.out | apply below_alloc | apply pw_below_drewN | apply below_drew1) | exact HB.out)) hb); have n1_ := Aside0.mk (hbox); have n2_ := Aside0.mk ((by rw [hg]; exact (below_size (by repeat (first | (with_reducible first | exact HB.out | apply below_alloc | apply pw_below_drewN | apply below_drew1) | exact HB.out))) : w.heap.size ≤ gb587)); have n3_ := Aside0.mk ((by rw [hg]; exact (below_size (by repeat (first | (with_reducible first | exact HB.out | apply below_alloc | apply pw_below_drewN | apply below_drew1) | exact HB.out))) : w.heap.size ≤ gb587)); clear HB; have HB := n0_; have BK587 := n1_; have GW587 := n2_; have GE587 := n3_; clear n0_ n1_ n2_ n3_; clear hb hbox hg) | ((with_reducible refine gate_dst (N := 4) rfl ?_); refine box_event ?hg (N := 4) ?hd (cs := #[.slice none 0 0]) (t := 29) ?hr ?_; (case hd => rfl); (case hg => rfl); (case hr => first | (go_simp; done) | (go_simp; rfl)); intro gb588 hg w33 hbox hb; have n0_ := Aside0.mk (blk_below (g := gb587) (o := .cells #[.slice A0_0 l0_0.length c0_0] 29 (0, 0)) (by (with_reducible repeat (first | refine blk_drewN ?_ _ | refine blk_drew ?_ | refine blk_alloc ?_ _)); exact BK587.out) hb); have n1_ := Aside0.mk (below_step (by repeat (first | (with_reducible first | exact HB.out | apply below_alloc | apply pw_below_drewN | apply below_drew1 | refine below_set ?_ GE587.out) | exact HB.out)) hb); have n2_ := Aside0.mk (hbox); have n3_ := Aside0.mk ((by rw [hg]; exact (below_size (by repeat (first | (with_reducible first | exact HB.out | apply below_alloc | apply pw_below_drewN | apply below_drew1 | refine below_set ?_ GE587.out) | exact HB.out))) : w.heap.size ≤ gb588)); have n4_ := Aside0.mk ((by rw [hg]; exact (below_size (by repeat (first | (with_reducible first | exact HB.out | apply below_alloc | apply pw_below_drewN | apply below_drew1 | refine below_set ?_ GE587.out) | exact HB.out))) : w.heap.size ≤ gb588)); have n5_ := Aside0.mk ((by rw [hg]; exact Nat.ne_of_lt (blk_lt (g := gb587) (o := .cells #[.slice A0_0 l0_0.length c0_0] 29 (0, 0)) (by (with_reducible repeat (first | refine blk_drewN ?_ _ | refine blk_drew ?_ | refine blk_alloc ?_ _)); exact BK587.out)) : gb587 ≠ gb588)); have n6_ := Aside0.mk ((by rw [hg]; exact Nat.ne_of_gt (blk_lt (g := gb587) (o := .cells #[.slice A0_0 l0_0.length c0_0] 29 (0, 0)) (by (with_reducible repeat (first | refine blk_drewN ?_ _ | refine blk_drew ?_ | refine blk_alloc ?_ _)); exact BK587.out)) : gb588 ≠ gb587)); clear BK587; clear HB; have BK587 := n0_; have HB := n1_; have BK588 := n2_; have GW588 := n3_; have GE588 := n4_; have NB587_588 := n5_; have NB588_587 := n6_; clear n0_ n1_ n2_ n3_ n4_ n5_ n6_; clear hb hbox hg; have hnb34 := NB587_588.out; have hnc34 := NB588_587.out; have hcz35_0 : w33.cell? ⟨gb587, 0, none⟩ = some (.slice A0_0 l0_0.length c0_0) := (blk_cell BK587.out 0).trans rfl; have hfz35_0 := blk_frozen BK587.out 0) | ((with_reducible refine gate_callee (f := 47) rfl ?_); refine goesL_ (some 12) rfl rfl Try.func47 (by kernel_rfl) rfl #[.agg #[.slice A0_0 l0_0.length c0_0]] rfl (by (try simp only [List.map_toArray, List.map_cons, List.map_nil]); first | done | rfl | (simp only [List.length_drop, List.length_take]; rfl)) ?_; (with_reducible refine (spec_l7Of.calls k _ _ l0_0 t589 true _ ?side1 ?side2 A3.out).mono ?_); (case side1 => repeat (first | exact (Kd.C_below HR0_0.out HB.out) | (with_reducible refine Kd.C_alloc ?_ _) | (with_reducible refine Kd.C_drewN ?_ _) | (with_reducible refine Kd.C_drew ?_))); (case side2 => exact HC0_0.out); rintro e w36 ⟨v590, rfl, ho0, hb⟩; refine ⟨_, rfl, ?_⟩; have n0_ := Aside0.mk (Kd.R_lower ho0 (below_size (by repeat (first | (with_reducible first | exact HB.out | apply below_alloc | apply pw_below_drewN | apply below_drew1 | refine below_set ?_ GE587.out | refine below_set ?_ GE588.out) | exact HB.out)))); have n1_ := Aside0.mk (blk_below (g := gb587) (o := .cells #[.slice A0_0 l0_0.length c0_0] 29 (0, 0)) (by (with_reducible repeat (first | refine blk_drewN ?_ _ | refine blk_drew ?_ | refine blk_alloc ?_ _)); exact BK587.out) hb); have n2_ := Aside0.mk (blk_below (g := gb588) (o := .cells #[.slice none 0 0] 29 (0, 0)) (by (with_reducible repeat (first | refine blk_drewN ?_ _ | refine blk_drew ?_ | refine blk_alloc ?_ _)); exact BK588.out) hb); have n3_ := Aside0.mk (below_step (by repeat (first | (with_reducible first | exact HB.out | apply below_alloc | apply pw_below_drewN | apply below_drew1 | refine below_set ?_ GE587.out | refine below_set ?_ GE588.out) | exact HB.out)) hb); clear BK587; clear BK588; clear HB; have HO591 := n0_; have BK587 := n1_; have BK588 := n2_; have HB := n3_; clear n0_ n1_ n2_ n3_; (try clear hb); (try clear hb2); (try clear hk); (try clear hi); (try clear ho0); obtain ⟨Ao37, co37, eo37⟩ := Kd.R_slice HO591.out; subst eo37) | ((with_reducible refine gate_callee (f := 60) rfl ?_); refine goesL_ (some 18) rfl rfl Try.func60 (by kernel_rfl) rfl #[.slice Ao37 t589.length co37, .string a1] rfl (by (try simp only [List.map_toArray, List.map_cons, List.map_nil]); first | done | rfl | (simp only [List.length_drop, List.length_take]; rfl)) ?_; (with_reducible refine (spec_l7At.calls k _ _ t589 a1 t593 false _ ?side1 ?side2 A4.out).mono ?_); (case side1 => repeat (first | exact (Kd.R_reads' HO591.out).2.2 | (with_reducible refine Kd.C_alloc ?_ _) | (with_reducible refine Kd.C_drewN ?_ _) | (with_reducible refine Kd.C_drew ?_))); (case side2 => exact (Kd.R_reads' HO591.out).2.1); rintro e w' ⟨rfl, ⟨nd, rfl⟩⟩; refine ⟨_, rfl, ?_⟩; (try (rw [drewN_self w36]; generalize hq_ : World.drewN w36 _ = w36; have n0_ : Aside0 (Kd.R k74 74 w36 w.heap.size (fun _ => True) (.slice Ao37 t589.length co37) t589) := ⟨by rw [← hq_]; exact (by (with_reducible repeat (first | apply Kd.R_alloc | apply Kd.R_drewN | apply Kd.R_drew)); exact HO591.out)⟩; have n1_ : Aside0 (w36.heap[gb587]? = some (.cells #[.slice A0_0 l0_0.length c0_0] 29 (0, 0))) := ⟨by rw [← hq_]; exact (by (with_reducible repeat (first | refine blk_drewN ?_ _ | refine blk_drew ?_ | refine blk_alloc ?_ _)); exact BK587.out)⟩; have n2_ : Aside0 (w36.heap[gb588]? = some (.cells #[.slice none 0 0] 29 (0, 0))) := ⟨by rw [← hq_]; exact (by (with_reducible repeat (first | refine blk_drewN ?_ _ | refine blk_drew ?_ | refine blk_alloc ?_ _)); exact BK588.out)⟩; have n3_ : Aside0 (Below w.heap.size w w36) := ⟨by rw [← hq_]; exact (by repeat (first | (with_reducible first | exact HB.out | apply below_alloc | apply pw_below_drewN | apply below_drew1 | refine below_set ?_ GE587.out | refine below_set ?_ GE588.out) | exact HB.out))⟩; clear HO591 BK587 BK588 HB hq_; have HO591 := n0_; have BK587 := n1_; have BK588 := n2_; have HB := n3_; clear n0_ n1_ n2_ n3_)); have hcz38_0 : w36.cell? ⟨gb588, 0, none⟩ = some (.slice none 0 0) := (blk_cell BK588.out 0).trans rfl; have hfz38_0 := blk_frozen BK588.out 0))
      refine bodyPost_ret (results_ct rfl _ _ gb588 29 #[.slice none 0 0] (0, 0) _ rfl (by (with_reducible repeat (first | refine blk_drewN ?_ _ | refine blk_drew ?_ | refine blk_alloc ?_ _)); refine blk_put (cs := #[.slice none 0 0]) ?_ 0 _ rfl; (with_reducible repeat (first | refine blk_drewN ?_ _ | refine blk_drew ?_ | refine blk_alloc ?_ _)); exact BK588.out) Try.underlying29 rfl (by kernel_rfl)) rfl ?_
      exact ⟨_, by first | rfl | (simp [errW_none, errW_some] <;> rfl) | (simp [*, errW_none, errW_some] <;> rfl), by first | exact Kd.R_nil _ _ _ _ _ | exact Kd.N_nil _ _ _ _ _ | exact Kd.V_nil _ _ _ _ _ | exact Kd.Q_nil _ _ _ _ _ | exact Kd.S_nil _ _ _ _ _, by repeat (first | (with_reducible first | exact HB.out | apply below_alloc | apply pw_below_drewN | apply below_drew1 | refine below_set ?_ GE587.out | refine below_set ?_ GE588.out) | exact HB.out)⟩
  · replace c5 := Bool.eq_false_iff.mpr c5
    subst c5
    have H1 : (some (([] : List (S71)), false)) = some (r1, r2) := by rw [if_neg (show ¬ (false = true) by decide)] at H; exact H
    clear H
    have H := H1
    clear H1
    simp only [Option.some.injEq, Prod.mk.injEq] at H
    obtain ⟨rfl, rfl⟩ := H
    go_enter Try.func33, Try.ntmps33
    go_wp2_with (first | ((with_reducible refine gate_dst (N := 2) rfl ?_); refine box_event ?hg (N := 2) ?hd (cs := #[.slice A0_0 l0_0.length c0_0]) (t := 29) ?hr ?_; (case hd => rfl); (case hg => rfl); (case hr => first | (go_simp; done) | (go_simp; rfl)); intro gb587 hg w39 hbox hb; have n0_ := Aside0.mk (below_step (by repeat (first | (with_reducible first | exact HB.out | apply below_alloc | apply pw_below_drewN | apply below_drew1) | exact HB.out)) hb); have n1_ := Aside0.mk (hbox); have n2_ := Aside0.mk ((by rw [hg]; exact (below_size (by repeat (first | (with_reducible first | exact HB.out | apply below_alloc | apply pw_below_drewN | apply below_drew1) | exact HB.out))) : w.heap.size ≤ gb587)); have n3_ := Aside0.mk ((by rw [hg]; exact (below_size (by repeat (first | (with_reducible first | exact HB.out | apply below_alloc | apply pw_below_drewN | apply below_drew1) | exact HB.out))) : w.heap.size ≤ gb587)); clear HB; have HB := n0_; have BK587 := n1_; have GW587 := n2_; have GE587 := n3_; clear n0_ n1_ n2_ n3_; clear hb hbox hg) | ((with_reducible refine gate_dst (N := 4) rfl ?_); refine box_event ?hg (N := 4) ?hd (cs := #[.slice none 0 0]) (t := 29) ?hr ?_; (case hd => rfl); (case hg => rfl); (case hr => first | (go_simp; done) | (go_simp; rfl)); intro gb588 hg w40 hbox hb; have n0_ := Aside0.mk (blk_below (g := gb587) (o := .cells #[.slice A0_0 l0_0.length c0_0] 29 (0, 0)) (by (with_reducible repeat (first | refine blk_drewN ?_ _ | refine blk_drew ?_ | refine blk_alloc ?_ _)); exact BK587.out) hb); have n1_ := Aside0.mk (below_step (by repeat (first | (with_reducible first | exact HB.out | apply below_alloc | apply pw_below_drewN | apply below_drew1 | refine below_set ?_ GE587.out) | exact HB.out)) hb); have n2_ := Aside0.mk (hbox); have n3_ := Aside0.mk ((by rw [hg]; exact (below_size (by repeat (first | (with_reducible first | exact HB.out | apply below_alloc | apply pw_below_drewN | apply below_drew1 | refine below_set ?_ GE587.out) | exact HB.out))) : w.heap.size ≤ gb588)); have n4_ := Aside0.mk ((by rw [hg]; exact (below_size (by repeat (first | (with_reducible first | exact HB.out | apply below_alloc | apply pw_below_drewN | apply below_drew1 | refine below_set ?_ GE587.out) | exact HB.out))) : w.heap.size ≤ gb588)); have n5_ := Aside0.mk ((by rw [hg]; exact Nat.ne_of_lt (blk_lt (g := gb587) (o := .cells #[.slice A0_0 l0_0.length c0_0] 29 (0, 0)) (by (with_reducible repeat (first | refine blk_drewN ?_ _ | refine blk_drew ?_ | refine blk_alloc ?_ _)); exact BK587.out)) : gb587 ≠ gb588)); have n6_ := Aside0.mk ((by rw [hg]; exact Nat.ne_of_gt (blk_lt (g := gb587) (o := .cells #[.slice A0_0 l0_0.length c0_0] 29 (0, 0)) (by (with_reducible repeat (first | refine blk_drewN ?_ _ | refine blk_drew ?_ | refine blk_alloc ?_ _)); exact BK587.out)) : gb588 ≠ gb587)); clear BK587; clear HB; have BK587 := n0_; have HB := n1_; have BK588 := n2_; have GW588 := n3_; have GE588 := n4_; have NB587_588 := n5_; have NB588_587 := n6_; clear n0_ n1_ n2_ n3_ n4_ n5_ n6_; clear hb hbox hg; have hnb41 := NB587_588.out; have hnc41 := NB588_587.out; have hcz42_0 : w40.cell? ⟨gb587, 0, none⟩ = some (.slice A0_0 l0_0.length c0_0) := (blk_cell BK587.out 0).trans rfl; have hfz42_0 := blk_frozen BK587.out 0) | ((with_reducible refine gate_callee (f := 47) rfl ?_); refine goesL_ (some 12) rfl rfl Try.func47 (by kernel_rfl) rfl #[.agg #[.slice A0_0 l0_0.length c0_0]] rfl (by (try simp only [List.map_toArray, List.map_cons, List.map_nil]); first | done | rfl | (simp only [List.length_drop, List.length_take]; rfl)) ?_; (with_reducible refine (spec_l7Of.calls k _ _ l0_0 t589 false _ ?side1 ?side2 A3.out).mono ?_); (case side1 => repeat (first | exact (Kd.C_below HR0_0.out HB.out) | (with_reducible refine Kd.C_alloc ?_ _) | (with_reducible refine Kd.C_drewN ?_ _) | (with_reducible refine Kd.C_drew ?_))); (case side2 => exact HC0_0.out); rintro e w43 ⟨v590, rfl, ho0, hb⟩; refine ⟨_, rfl, ?_⟩; have n0_ := Aside0.mk (Kd.R_lower ho0 (below_size (by repeat (first | (with_reducible first | exact HB.out | apply below_alloc | apply pw_below_drewN | apply below_drew1 | refine below_set ?_ GE587.out | refine below_set ?_ GE588.out) | exact HB.out)))); have n1_ := Aside0.mk (blk_below (g := gb587) (o := .cells #[.slice A0_0 l0_0.length c0_0] 29 (0, 0)) (by (with_reducible repeat (first | refine blk_drewN ?_ _ | refine blk_drew ?_ | refine blk_alloc ?_ _)); exact BK587.out) hb); have n2_ := Aside0.mk (blk_below (g := gb588) (o := .cells #[.slice none 0 0] 29 (0, 0)) (by (with_reducible repeat (first | refine blk_drewN ?_ _ | refine blk_drew ?_ | refine blk_alloc ?_ _)); exact BK588.out) hb); have n3_ := Aside0.mk (below_step (by repeat (first | (with_reducible first | exact HB.out | apply below_alloc | apply pw_below_drewN | apply below_drew1 | refine below_set ?_ GE587.out | refine below_set ?_ GE588.out) | exact HB.out)) hb); clear BK587; clear BK588; clear HB; have HO591 := n0_; have BK587 := n1_; have BK588 := n2_; have HB := n3_; clear n0_ n1_ n2_ n3_; (try clear hb); (try clear hb2); (try clear hk); (try clear hi); (try clear ho0); obtain ⟨Ao44, co44, eo44⟩ := Kd.R_slice HO591.out; subst eo44) | ((with_reducible refine gate_callee (f := 60) rfl ?_); refine goesL_ (some 18) rfl rfl Try.func60 (by kernel_rfl) rfl #[.slice Ao44 t589.length co44, .string a1] rfl (by (try simp only [List.map_toArray, List.map_cons, List.map_nil]); first | done | rfl | (simp only [List.length_drop, List.length_take]; rfl)) ?_; (with_reducible refine (spec_l7At.calls k _ _ t589 a1 t593 t594 _ ?side1 ?side2 A4.out).mono ?_); (case side1 => repeat (first | exact (Kd.R_reads' HO591.out).2.2 | (with_reducible refine Kd.C_alloc ?_ _) | (with_reducible refine Kd.C_drewN ?_ _) | (with_reducible refine Kd.C_drew ?_))); (case side2 => exact (Kd.R_reads' HO591.out).2.1); rintro e w' ⟨rfl, ⟨nd, rfl⟩⟩; refine ⟨_, rfl, ?_⟩; (try (rw [drewN_self w43]; generalize hq_ : World.drewN w43 _ = w43; have n0_ : Aside0 (Kd.R k74 74 w43 w.heap.size (fun _ => True) (.slice Ao44 t589.length co44) t589) := ⟨by rw [← hq_]; exact (by (with_reducible repeat (first | apply Kd.R_alloc | apply Kd.R_drewN | apply Kd.R_drew)); exact HO591.out)⟩; have n1_ : Aside0 (w43.heap[gb587]? = some (.cells #[.slice A0_0 l0_0.length c0_0] 29 (0, 0))) := ⟨by rw [← hq_]; exact (by (with_reducible repeat (first | refine blk_drewN ?_ _ | refine blk_drew ?_ | refine blk_alloc ?_ _)); exact BK587.out)⟩; have n2_ : Aside0 (w43.heap[gb588]? = some (.cells #[.slice none 0 0] 29 (0, 0))) := ⟨by rw [← hq_]; exact (by (with_reducible repeat (first | refine blk_drewN ?_ _ | refine blk_drew ?_ | refine blk_alloc ?_ _)); exact BK588.out)⟩; have n3_ : Aside0 (Below w.heap.size w w43) := ⟨by rw [← hq_]; exact (by repeat (first | (with_reducible first | exact HB.out | apply below_alloc | apply pw_below_drewN | apply below_drew1 | refine below_set ?_ GE587.out | refine below_set ?_ GE588.out) | exact HB.out))⟩; clear HO591 BK587 BK588 HB hq_; have HO591 := n0_; have BK587 := n1_; have BK588 := n2_; have HB := n3_; clear n0_ n1_ n2_ n3_)); have hcz45_0 : w43.cell? ⟨gb588, 0, none⟩ = some (.slice none 0 0) := (blk_cell BK588.out 0).trans rfl; have hfz45_0 := blk_frozen BK588.out 0))
    refine bodyPost_ret (results_ct rfl _ _ gb588 29 #[.slice none 0 0] (0, 0) _ rfl (by (with_reducible repeat (first | refine blk_drewN ?_ _ | refine blk_drew ?_ | refine blk_alloc ?_ _)); refine blk_put (cs := #[.slice none 0 0]) ?_ 0 _ rfl; (with_reducible repeat (first | refine blk_drewN ?_ _ | refine blk_drew ?_ | refine blk_alloc ?_ _)); exact BK588.out) Try.underlying29 rfl (by kernel_rfl)) rfl ?_
    exact ⟨_, by first | rfl | (simp [errW_none, errW_some] <;> rfl) | (simp [*, errW_none, errW_some] <;> rfl), by first | exact Kd.R_nil _ _ _ _ _ | exact Kd.N_nil _ _ _ _ _ | exact Kd.V_nil _ _ _ _ _ | exact Kd.Q_nil _ _ _ _ _ | exact Kd.S_nil _ _ _ _ _, by repeat (first | (with_reducible first | exact HB.out | apply below_alloc | apply pw_below_drewN | apply below_drew1 | refine below_set ?_ GE587.out | refine below_set ?_ GE588.out) | exact HB.out)⟩

end Go.Proofs.Ytjknkeipginpcaa.PQ
end

section
-- Written by a program of this session (pprint.py) out of the translation's print; Lean checks it.
namespace Go.Proofs.Ytjknkeipginpcaa.PQ
open Go.RowKit Go.Proofs.YtjknkeipginpcaaW.PrintWords Go.Proofs.YtjknkeipginpcaaW.PrintLast Go.Proofs.YtjknkeipginpcaaW.PrintMore
attribute [local go_sem] max2_int min2_int max_two min_two max_three min_three max_four min_four   -- for this text's walks alone
set_option linter.unusedVariables false
set_option linter.unusedSimpArgs false

/-! ### spec_PutKey: function 40 -/
def spec_PutKey.j0 : Nat → ByteArray → ByteArray → List (S74) → Bool → Option ((List (S71)) × Bool)
  | 0, _, _, _, _ => none
  | k + 1, x1, x2, x8, x27 => if x27 = true then (some (([] : List (S71)), false)) else ((spec_l7Put.f k x8 x1 x2).bind fun t689 => (if (t689.length : Int) > 60 then (some (([] : List (S71)), false)) else ((spec_l7Treap.f t689).bind fun t692 => (some (t692, true)))))
def spec_PutKey.f (k : Nat) (l0_0 : List (S71)) (a1 : ByteArray) (a2 : ByteArray) : Option ((List (S71)) × Bool) := (spec_l7Of.f k l0_0).bind fun bt684 => (if bt684.2 = true then ((spec_l1In.f (a1.size : Int) 1 40).bind fun t688 => (if t688 = true then (spec_PutKey.j0 k a1 a2 bt684.1 (decide ((a2.size : Int) > 60))) else (spec_PutKey.j0 k a1 a2 bt684.1 true))) else (spec_PutKey.j0 k a1 a2 bt684.1 true))
theorem spec_PutKey.mono_l : ∀ k, (∀ y0 y1 y2 y3, LeO (spec_PutKey.j0 k y0 y1 y2 y3) (spec_PutKey.j0 (k + 1) y0 y1 y2 y3))
  | 0 => fun _ _ _ _ r h => by simp [spec_PutKey.j0] at h
  | k + 1 => by
    have ih0 := spec_PutKey.mono_l k
    · intro y0 y1 y2 y3
      unfold spec_PutKey.j0
      repeat' first
      | (with_reducible exact ih0 _ _ _ _)
      | (with_reducible exact spec_l7Of.mono _ _)
      | (with_reducible exact spec_l7Put.mono _ _ _ _)
      | (with_reducible exact LeO.refl _)
      | (with_reducible exact LeO.none _)
      | (with_reducible refine LeO.ite ?_ ?_)
      | (with_reducible refine LeO.bind ?_ (fun _ => ?_))
      | exact ih0 _ _ _ _
      | exact spec_l7Of.mono _ _
      | exact spec_l7Put.mono _ _ _ _
      | exact LeO.none _
      | refine LeO.ite ?_ ?_
      | refine LeO.bind ?_ (fun _ => ?_)
theorem spec_PutKey.mono : ∀ a0 a1 a2 k, LeO (spec_PutKey.f k a0 a1 a2) (spec_PutKey.f (k + 1) a0 a1 a2) := by
  intro a0 a1 a2 k
  have ih0 := spec_PutKey.mono_l k
  unfold spec_PutKey.f
  repeat' first
      | (with_reducible exact ih0 _ _ _ _)
      | (with_reducible exact spec_l7Of.mono _ _)
      | (with_reducible exact spec_l7Put.mono _ _ _ _)
      | (with_reducible exact LeO.refl _)
      | (with_reducible exact LeO.none _)
      | (with_reducible refine LeO.ite ?_ ?_)
      | (with_reducible refine LeO.bind ?_ (fun _ => ?_))
      | exact ih0 _ _ _ _
      | exact spec_l7Of.mono _ _
      | exact spec_l7Put.mono _ _ _ _
      | exact LeO.none _
      | refine LeO.ite ?_ ?_
      | refine LeO.bind ?_ (fun _ => ?_)
set_option maxHeartbeats 8000000 in
set_option maxRecDepth 100000 in
theorem spec_PutKey.calls (k : Nat) (A0_0 : Option Addr) (c0_0 : Nat) (l0_0 : List (S71)) (a1 : ByteArray) (a2 : ByteArray) (r1 : List (S71)) (r2 : Bool) (w : World) (hr0_0 : Kd.C k71 w A0_0 l0_0.length l0_0) (hc0_0 : l0_0.length ≤ c0_0) (h : spec_PutKey.f k l0_0 a1 a2 = some (r1, r2)) :
    Calls Try.prog 40 #[.agg #[.slice A0_0 l0_0.length c0_0], .string a1, .string a2] w fun e w' => ∃ v0_ : Value, e = .returned (.tuple #[.agg #[v0_], .bool r2]) ∧ Kd.R k71 71 w' w.heap.size (fun _ => True) v0_ r1 ∧ Below w.heap.size w w' := by
  have hu29 := Try.underlying29
  have hu74 := Try.underlying74
  have HR0_0 := Aside0.mk hr0_0
  have HC0_0 := Aside0.mk hc0_0
  clear hr0_0 hc0_0
  have HB := Aside0.mk (Below.refl w.heap.size w)
  have H : ((spec_l7Of.f k l0_0).bind fun bt684 => (if bt684.2 = true then ((spec_l1In.f (a1.size : Int) 1 40).bind fun t688 => (if t688 = true then (spec_PutKey.j0 k a1 a2 bt684.1 (decide ((a2.size : Int) > 60))) else (spec_PutKey.j0 k a1 a2 bt684.1 true))) else (spec_PutKey.j0 k a1 a2 bt684.1 true))) = some (r1, r2) := h
  clear h
  replace H := Option.bind_eq_some_iff.mp H
  obtain ⟨⟨t684, t687⟩, A40, H⟩ := H
  replace H : (if t687 = true then ((spec_l1In.f (a1.size : Int) 1 40).bind fun t688 => (if t688 = true then (spec_PutKey.j0 k a1 a2 t684 (decide ((a2.size : Int) > 60))) else (spec_PutKey.j0 k a1 a2 t684 true))) else (spec_PutKey.j0 k a1 a2 t684 true)) = some (r1, r2) := H
  have A4 := Aside0.mk A40
  clear A40
  have HC5 := Aside0.mk H
  clear H
  go_enter Try.func40, Try.ntmps40
  go_upto_region 2 with (first | ((with_reducible refine gate_dst (N := 3) rfl ?_); (try (refine gate_guard (by rfl) ?_; dsimp only)); refine box_event ?hg (N := 3) ?hd (cs := #[.slice A0_0 l0_0.length c0_0]) (t := 29) ?hr ?_; (case hd => rfl); (case hg => rfl); (case hr => first | (go_simp; done) | (go_simp; rfl)); intro gb682 hg w6 hbox hb; have n0_ := Aside0.mk (below_step (by repeat (first | (with_reducible first | exact HB.out | apply below_alloc | apply pw_below_drewN | apply below_drew1) | exact HB.out)) hb); have n1_ := Aside0.mk (hbox); have n2_ := Aside0.mk ((by rw [hg]; exact (below_size (by repeat (first | (with_reducible first | exact HB.out | apply below_alloc | apply pw_below_drewN | apply below_drew1) | exact HB.out))) : w.heap.size ≤ gb682)); have n3_ := Aside0.mk ((by rw [hg]; exact (below_size (by repeat (first | (with_reducible first | exact HB.out | apply below_alloc | apply pw_below_drewN | apply below_drew1) | exact HB.out))) : w.heap.size ≤ gb682)); clear HB; have HB := n0_; have BK682 := n1_; have GW682 := n2_; have GE682 := n3_; clear n0_ n1_ n2_ n3_; clear hb hbox hg) | ((with_reducible refine gate_dst (N := 6) rfl ?_); (try (refine gate_guard (by rfl) ?_; dsimp only)); refine box_event ?hg (N := 6) ?hd (cs := #[.slice none 0 0]) (t := 29) ?hr ?_; (case hd => rfl); (case hg => rfl); (case hr => first | (go_simp; done) | (go_simp; rfl)); intro gb683 hg w7 hbox hb; have n0_ := Aside0.mk (blk_below (g := gb682) (o := .cells #[.slice A0_0 l0_0.length c0_0] 29 (0, 0)) (by (with_reducible repeat (first | refine blk_drewN ?_ _ | refine blk_drew ?_ | refine blk_alloc ?_ _)); exact BK682.out) hb); have n1_ := Aside0.mk (below_step (by repeat (first | (with_reducible first | exact HB.out | apply below_alloc | apply pw_below_drewN | apply below_drew1 | refine below_set ?_ GE682.out) | exact HB.out)) hb); have n2_ := Aside0.mk (hbox); have n3_ := Aside0.mk ((by rw [hg]; exact (below_size (by repeat (first | (with_reducible first | exact HB.out | apply below_alloc | apply pw_below_drewN | apply below_drew1 | refine below_set ?_ GE682.out) | exact HB.out))) : w.heap.size ≤ gb683)); have n4_ := Aside0.mk ((by rw [hg]; exact (below_size (by repeat (first | (with_reducible first | exact HB.out | apply below_alloc | apply pw_below_drewN | apply below_drew1 | refine below_set ?_ GE682.out) | exact HB.out))) : w.heap.size ≤ gb683)); have n5_ := Aside0.mk ((by rw [hg]; exact Nat.ne_of_lt (blk_lt (g := gb682) (o := .cells #[.slice A0_0 l0_0.length c0_0] 29 (0, 0)) (by (with_reducible repeat (first | refine blk_drewN ?_ _ | refine blk_drew ?_ | refine blk_alloc ?_ _)); exact BK682.out)) : gb682 ≠ gb683)); have n6_ := Aside0.mk ((by rw [hg]; exact Nat.ne_of_gt (blk_lt (g := gb682) (o := .cells #[.slice A0_0 l0_0.length c0_0] 29 (0, 0)) (by (with_reducible repeat (first | refine blk_drewN ?_ _ | refine blk_drew ?_ | refine blk_alloc ?_ _)); exact BK682.out)) : gb683 ≠ gb682)); clear BK682; clear HB; have BK682 := n0_; have HB := n1_; have BK683 := n2_; have GW683 := n3_; have GE683 := n4_; have NB682_683 := n5_; have NB683_682 := n6_; clear n0_ n1_ n2_ n3_ n4_ n5_ n6_; clear hb hbox hg; have hnb8 := NB682_683.out; have hnc8 := NB683_682.out; have hcz9_0 : w7.cell? ⟨gb682, 0, none⟩ = some (.slice A0_0 l0_0.length c0_0) := (blk_cell BK682.out 0).trans rfl; have hfz9_0 := blk_frozen BK682.out 0) | ((with_reducible refine gate_callee (f := 47) rfl ?_); refine goesL_ (some 12) rfl rfl Try.func47 (by kernel_rfl) rfl #[.agg #[.slice A0_0 l0_0.length c0_0]] rfl (by (try simp only [List.map_toArray, List.map_cons, List.map_nil]); first | done | rfl | (simp only [List.length_drop, List.length_take]; rfl)) ?_; (with_reducible refine (spec_l7Of.calls k _ _ l0_0 t684 t687 _ ?side1 ?side2 A4.out).mono ?_); (case side1 => repeat (first | exact (Kd.C_below HR0_0.out HB.out) | (with_reducible refine Kd.C_alloc ?_ _) | (with_reducible refine Kd.C_drewN ?_ _) | (with_reducible refine Kd.C_drew ?_))); (case side2 => exact HC0_0.out); rintro e w10 ⟨v685, rfl, ho0, hb⟩; refine ⟨_, rfl, ?_⟩; have n0_ := Aside0.mk (Kd.R_lower ho0 (below_size (by repeat (first | (with_reducible first | exact HB.out | apply below_alloc | apply pw_below_drewN | apply below_drew1 | refine below_set ?_ GE682.out | refine below_set ?_ GE683.out) | exact HB.out)))); have n1_ := Aside0.mk (blk_below (g := gb682) (o := .cells #[.slice A0_0 l0_0.length c0_0] 29 (0, 0)) (by (with_reducible repeat (first | refine blk_drewN ?_ _ | refine blk_drew ?_ | refine blk_alloc ?_ _)); exact BK682.out) hb); have n2_ := Aside0.mk (blk_below (g := gb683) (o := .cells #[.slice none 0 0] 29 (0, 0)) (by (with_reducible repeat (first | refine blk_drewN ?_ _ | refine blk_drew ?_ | refine blk_alloc ?_ _)); exact BK683.out) hb); have n3_ := Aside0.mk (below_step (by repeat (first | (with_reducible first | exact HB.out | apply below_alloc | apply pw_below_drewN | apply below_drew1 | refine below_set ?_ GE682.out | refine below_set ?_ GE683.out) | exact HB.out)) hb); clear BK682; clear BK683; clear HB; have HO686 := n0_; have BK682 := n1_; have BK683 := n2_; have HB := n3_; clear n0_ n1_ n2_ n3_; (try clear hb); (try clear hb2); (try clear hk); (try clear hi); (try clear ho0)))
  (try simp only [Act.put, List.setIfInBounds_toArray, List.set_cons_zero, List.set_cons_succ])
  go_cut [27] (fun v27 wc => ∃ (kq : Nat) (x27_4 : Bool), v27 = .bool x27_4 ∧ Aside0 (spec_PutKey.j0 kq a1 a2 t684 x27_4 = some (r1, r2)) ∧ Aside0 (kq ≤ k) ∧ Aside0 (Kd.R k74 74 wc w.heap.size (fun _ => True) v685 t684) ∧ Aside0 (wc.heap[gb682]? = some (.cells #[(.slice A0_0 l0_0.length c0_0)] 29 (0, 0))) ∧ Aside0 (wc.heap[gb683]? = some (.cells #[(.slice none 0 0)] 29 (0, 0))) ∧ Aside0 (Below w.heap.size w wc))
  case first =>
    have H := HC5.out
    clear HC5
    by_cases c11 : t687 = true
    · subst c11
      have H1 : ((spec_l1In.f (a1.size : Int) 1 40).bind fun t688 => (if t688 = true then (spec_PutKey.j0 k a1 a2 t684 (decide ((a2.size : Int) > 60))) else (spec_PutKey.j0 k a1 a2 t684 true))) = some (r1, r2) := by rw [if_pos rfl] at H; exact H
      clear H
      have H := H1
      clear H1
      replace H := Option.bind_eq_some_iff.mp H
      obtain ⟨t688, A120, H⟩ := H
      replace H : (if t688 = true then (spec_PutKey.j0 k a1 a2 t684 (decide ((a2.size : Int) > 60))) else (spec_PutKey.j0 k a1 a2 t684 true)) = some (r1, r2) := H
      have A12 := Aside0.mk A120
      clear A120
      by_cases c13 : t688 = true
      · subst c13
        have H1 : (spec_PutKey.j0 k a1 a2 t684 (decide ((a2.size : Int) > 60))) = some (r1, r2) := by rw [if_pos rfl] at H; exact H
        clear H
        have H := H1
        clear H1
        have H' := Aside0.mk H
        clear H
        go_wp2_with (first | (go_at_call 68; (try simp only [i64_w]); (with_reducible refine (spec_l1In.calls (a1.size : Int) 1 40 true _ A12.out).mono ?_); rintro e w' ⟨rfl, ⟨nd, rfl⟩⟩))
        go_meet
        case rel => exact ⟨_, (decide ((a2.size : Int) > 60)), (by first | rfl | (simp; done) | (simp [*]; done)), H', ⟨by first | omega | exact Nat.le_refl _⟩, ⟨by (with_reducible repeat (first | apply Kd.R_alloc | apply Kd.R_drewN | apply Kd.R_drew)); exact HO686.out⟩, ⟨by (with_reducible repeat (first | refine blk_drewN ?_ _ | refine blk_drew ?_ | refine blk_alloc ?_ _)); exact BK682.out⟩, ⟨by (with_reducible repeat (first | refine blk_drewN ?_ _ | refine blk_drew ?_ | refine blk_alloc ?_ _)); exact BK683.out⟩, ⟨by repeat (first | (with_reducible first | exact HB.out | apply below_alloc | apply pw_below_drewN | apply below_drew1 | refine below_set ?_ GE682.out | refine below_set ?_ GE683.out) | exact HB.out)⟩⟩
      · replace c13 := Bool.eq_false_iff.mpr c13
        subst c13
        have H1 : (spec_PutKey.j0 k a1 a2 t684 true) = some (r1, r2) := by rw [if_neg (show ¬ (false = true) by decide)] at H; exact H
        clear H
        have H := H1
        clear H1
        have H' := Aside0.mk H
        clear H
        go_wp2_with (first | (go_at_call 68; (try simp only [i64_w]); (with_reducible refine (spec_l1In.calls (a1.size : Int) 1 40 false _ A12.out).mono ?_); rintro e w' ⟨rfl, ⟨nd, rfl⟩⟩))
        go_meet
        case rel => exact ⟨_, (true), (by first | rfl | (simp; done) | (simp [*]; done)), H', ⟨by first | omega | exact Nat.le_refl _⟩, ⟨by (with_reducible repeat (first | apply Kd.R_alloc | apply Kd.R_drewN | apply Kd.R_drew)); exact HO686.out⟩, ⟨by (with_reducible repeat (first | refine blk_drewN ?_ _ | refine blk_drew ?_ | refine blk_alloc ?_ _)); exact BK682.out⟩, ⟨by (with_reducible repeat (first | refine blk_drewN ?_ _ | refine blk_drew ?_ | refine blk_alloc ?_ _)); exact BK683.out⟩, ⟨by repeat (first | (with_reducible first | exact HB.out | apply below_alloc | apply pw_below_drewN | apply below_drew1 | refine below_set ?_ GE682.out | refine below_set ?_ GE683.out) | exact HB.out)⟩⟩
    · replace c11 := Bool.eq_false_iff.mpr c11
      subst c11
      have H1 : (spec_PutKey.j0 k a1 a2 t684 true) = some (r1, r2) := by rw [if_neg (show ¬ (false = true) by decide)] at H; exact H
      clear H
      have H := H1
      clear H1
      have H' := Aside0.mk H
      clear H
      go_wp2
      go_meet
      case rel => exact ⟨_, (true), (by first | rfl | (simp; done) | (simp [*]; done)), H', ⟨by first | omega | exact Nat.le_refl _⟩, ⟨by (with_reducible repeat (first | apply Kd.R_alloc | apply Kd.R_drewN | apply Kd.R_drew)); exact HO686.out⟩, ⟨by (with_reducible repeat (first | refine blk_drewN ?_ _ | refine blk_drew ?_ | refine blk_alloc ?_ _)); exact BK682.out⟩, ⟨by (with_reducible repeat (first | refine blk_drewN ?_ _ | refine blk_drew ?_ | refine blk_alloc ?_ _)); exact BK683.out⟩, ⟨by repeat (first | (with_reducible first | exact HB.out | apply below_alloc | apply pw_below_drewN | apply below_drew1 | refine below_set ?_ GE682.out | refine below_set ?_ GE683.out) | exact HB.out)⟩⟩
  case rest =>
    clear HC5
    try clear c1
    try clear p2
    try clear c4
    try clear c8
    try clear c11
    try clear c13
    try clear hcz9_0
    try clear hfz9_0
    obtain ⟨kq, x27_4, rfl, HA, HJ4, HO_8, BK682, BK683, HB⟩ := hcut
    cases kq with
    | zero => exact absurd HA.out (by simp [spec_PutKey.j0])
    | succ kj4 =>
      have H := HA.out
      clear HA
      simp only [spec_PutKey.j0] at H
      by_cases c14 : x27_4 = true
      · subst c14
        have H1 : (some (([] : List (S71)), false)) = some (r1, r2) := by rw [if_pos rfl] at H; exact H
        clear H
        have H := H1
        clear H1
        simp only [Option.some.injEq, Prod.mk.injEq] at H
        obtain ⟨rfl, rfl⟩ := H
        have hnb15 := NB683_682.out
        have hnc15 := NB682_683.out
        have hcz16_0 : wc.cell? ⟨gb683, 0, none⟩ = some (.slice none 0 0) := (blk_cell BK683.out 0).trans rfl
        have hfz16_0 := blk_frozen BK683.out 0
        go_wp2
        refine bodyPost_ret (results_ct rfl _ _ gb683 29 #[.slice none 0 0] (0, 0) _ rfl (by (with_reducible repeat (first | refine blk_drewN ?_ _ | refine blk_drew ?_ | refine blk_alloc ?_ _)); refine blk_put (cs := #[.slice none 0 0]) ?_ 0 _ rfl; (with_reducible repeat (first | refine blk_drewN ?_ _ | refine blk_drew ?_ | refine blk_alloc ?_ _)); exact BK683.out) Try.underlying29 rfl (by kernel_rfl)) rfl ?_
        exact ⟨_, by first | rfl | (simp [errW_none, errW_some] <;> rfl) | (simp [*, errW_none, errW_some] <;> rfl), by first | exact Kd.R_nil _ _ _ _ _ | exact Kd.N_nil _ _ _ _ _ | exact Kd.V_nil _ _ _ _ _ | exact Kd.Q_nil _ _ _ _ _ | exact Kd.S_nil _ _ _ _ _, by repeat (first | (with_reducible first | exact HB.out | apply below_alloc | apply pw_below_drewN | apply below_drew1 | refine below_set ?_ GE682.out | refine below_set ?_ GE683.out) | exact HB.out)⟩
      · replace c14 := Bool.eq_false_iff.mpr c14
        subst c14
        have H1 : ((spec_l7Put.f kj4 t684 a1 a2).bind fun t689 => (if (t689.length : Int) > 60 then (some (([] : List (S71)), false)) else ((spec_l7Treap.f t689).bind fun t692 => (some (t692, true))))) = some (r1, r2) := by rw [if_neg (show ¬ (false = true) by decide)] at H; exact H
        clear H
        have H := H1
        clear H1
        replace H := Option.bind_eq_some_iff.mp H
        obtain ⟨t689, A170, H⟩ := H
        replace H : (if (t689.length : Int) > 60 then (some (([] : List (S71)), false)) else ((spec_l7Treap.f t689).bind fun t692 => (some (t692, true)))) = some (r1, r2) := H
        have A17 := Aside0.mk A170
        clear A170
        by_cases c18 : (t689.length : Int) > 60
        · rw [if_pos c18] at H
          have c18b0 : decide (60 < (t689.length : Int)) = true := decide_eq_true c18
          have c18b1 : decide (60 < t689.length) = true := decide_eq_true (by omega)
          clear c18
          simp only [Option.some.injEq, Prod.mk.injEq] at H
          obtain ⟨rfl, rfl⟩ := H
          obtain ⟨Ao19, co19, eo19⟩ := Kd.R_slice HO_8.out
          subst eo19
          go_wp2_with (first | ((with_reducible refine gate_callee (f := 69) rfl ?_); refine goesL_ (some 33) rfl rfl Try.func69 (by kernel_rfl) rfl #[.slice Ao19 t684.length co19, .agg #[.string a1, .string a2]] rfl (by (try simp only [List.map_toArray, List.map_cons, List.map_nil]); first | done | rfl | (simp only [List.length_drop, List.length_take]; rfl)) ?_; (with_reducible refine (spec_l7Put.calls kj4 _ _ t684 a1 a2 t689 _ ?side1 ?side2 A17.out).mono ?_); (case side1 => repeat (first | exact (Kd.R_reads' HO_8.out).2.2 | (with_reducible refine Kd.C_alloc ?_ _) | (with_reducible refine Kd.C_drewN ?_ _) | (with_reducible refine Kd.C_drew ?_))); (case side2 => exact (Kd.R_reads' HO_8.out).2.1); rintro e w20 ⟨v690, rfl, ho0, hb⟩; refine ⟨_, rfl, ?_⟩; have n0_ := Aside0.mk (Kd.R_elder' (by (with_reducible repeat (first | apply Kd.R_alloc | apply Kd.R_drewN | apply Kd.R_drew)); exact HO_8.out) (Kd.R_base ho0) hb); have n1_ := Aside0.mk (Kd.R_lower (Kd.R_new' ho0 (Kd.R_lt (by (with_reducible repeat (first | apply Kd.R_alloc | apply Kd.R_drewN | apply Kd.R_drew)); exact HO_8.out))) (below_size (by repeat (first | (with_reducible first | exact HB.out | apply below_alloc | apply pw_below_drewN | apply below_drew1 | refine below_set ?_ GE682.out | refine below_set ?_ GE683.out) | exact HB.out)))); have n2_ := Aside0.mk (blk_below (g := gb682) (o := .cells #[.slice A0_0 l0_0.length c0_0] 29 (0, 0)) (by (with_reducible repeat (first | refine blk_drewN ?_ _ | refine blk_drew ?_ | refine blk_alloc ?_ _)); exact BK682.out) hb); have n3_ := Aside0.mk (blk_below (g := gb683) (o := .cells #[.slice none 0 0] 29 (0, 0)) (by (with_reducible repeat (first | refine blk_drewN ?_ _ | refine blk_drew ?_ | refine blk_alloc ?_ _)); exact BK683.out) hb); have n4_ := Aside0.mk (below_step (by repeat (first | (with_reducible first | exact HB.out | apply below_alloc | apply pw_below_drewN | apply below_drew1 | refine below_set ?_ GE682.out | refine below_set ?_ GE683.out) | exact HB.out)) hb); clear HO_8; clear BK682; clear BK683; clear HB; have HO_8 := n0_; have HO691 := n1_; have BK682 := n2_; have BK683 := n3_; have HB := n4_; clear n0_ n1_ n2_ n3_ n4_; (try clear hb); (try clear hb2); (try clear hk); (try clear hi); (try clear ho0); obtain ⟨Ao21, co21, eo21⟩ := Kd.R_slice HO691.out; subst eo21; have hnb22 := NB683_682.out; have hnc22 := NB682_683.out; have hcz23_0 : w20.cell? ⟨gb683, 0, none⟩ = some (.slice none 0 0) := (blk_cell BK683.out 0).trans rfl; have hfz23_0 := blk_frozen BK683.out 0))
          refine bodyPost_ret (results_ct rfl _ _ gb683 29 #[.slice none 0 0] (0, 0) _ rfl (by (with_reducible repeat (first | refine blk_drewN ?_ _ | refine blk_drew ?_ | refine blk_alloc ?_ _)); refine blk_put (cs := #[.slice none 0 0]) ?_ 0 _ rfl; (with_reducible repeat (first | refine blk_drewN ?_ _ | refine blk_drew ?_ | refine blk_alloc ?_ _)); exact BK683.out) Try.underlying29 rfl (by kernel_rfl)) rfl ?_
          exact ⟨_, by first | rfl | (simp [errW_none, errW_some] <;> rfl) | (simp [*, errW_none, errW_some] <;> rfl), by first | exact Kd.R_nil _ _ _ _ _ | exact Kd.N_nil _ _ _ _ _ | exact Kd.V_nil _ _ _ _ _ | exact Kd.Q_nil _ _ _ _ _ | exact Kd.S_nil _ _ _ _ _, by repeat (first | (with_reducible first | exact HB.out | apply below_alloc | apply pw_below_drewN | apply below_drew1 | refine below_set ?_ GE682.out | refine below_set ?_ GE683.out) | exact HB.out)⟩
        · rw [if_neg c18] at H
          have c18b0 : decide (60 < (t689.length : Int)) = false := decide_eq_false c18
          have c18b1 : decide (60 < t689.length) = false := decide_eq_false (by omega)
          clear c18
          replace H := Option.bind_eq_some_iff.mp H
          obtain ⟨t692, A240, H⟩ := H
          replace H : (some (t692, true)) = some (r1, r2) := H
          have A24 := Aside0.mk A240
          clear A240
          simp only [Option.some.injEq, Prod.mk.injEq] at H
          obtain ⟨rfl, rfl⟩ := H
          obtain ⟨Ao25, co25, eo25⟩ := Kd.R_slice HO_8.out
          subst eo25
          go_wp2_with (first | ((with_reducible refine gate_callee (f := 69) rfl ?_); refine goesL_ (some 33) rfl rfl Try.func69 (by kernel_rfl) rfl #[.slice Ao25 t684.length co25, .agg #[.string a1, .string a2]] rfl (by (try simp only [List.map_toArray, List.map_cons, List.map_nil]); first | done | rfl | (simp only [List.length_drop, List.length_take]; rfl)) ?_; (with_reducible refine (spec_l7Put.calls kj4 _ _ t684 a1 a2 t689 _ ?side1 ?side2 A17.out).mono ?_); (case side1 => repeat (first | exact (Kd.R_reads' HO_8.out).2.2 | (with_reducible refine Kd.C_alloc ?_ _) | (with_reducible refine Kd.C_drewN ?_ _) | (with_reducible refine Kd.C_drew ?_))); (case side2 => exact (Kd.R_reads' HO_8.out).2.1); rintro e w26 ⟨v690, rfl, ho0, hb⟩; refine ⟨_, rfl, ?_⟩; have n0_ := Aside0.mk (Kd.R_elder' (by (with_reducible repeat (first | apply Kd.R_alloc | apply Kd.R_drewN | apply Kd.R_drew)); exact HO_8.out) (Kd.R_base ho0) hb); have n1_ := Aside0.mk (Kd.R_lower (Kd.R_new' ho0 (Kd.R_lt (by (with_reducible repeat (first | apply Kd.R_alloc | apply Kd.R_drewN | apply Kd.R_drew)); exact HO_8.out))) (below_size (by repeat (first | (with_reducible first | exact HB.out | apply below_alloc | apply pw_below_drewN | apply below_drew1 | refine below_set ?_ GE682.out | refine below_set ?_ GE683.out) | exact HB.out)))); have n2_ := Aside0.mk (blk_below (g := gb682) (o := .cells #[.slice A0_0 l0_0.length c0_0] 29 (0, 0)) (by (with_reducible repeat (first | refine blk_drewN ?_ _ | refine blk_drew ?_ | refine blk_alloc ?_ _)); exact BK682.out) hb); have n3_ := Aside0.mk (blk_below (g := gb683) (o := .cells #[.slice none 0 0] 29 (0, 0)) (by (with_reducible repeat (first | refine blk_drewN ?_ _ | refine blk_drew ?_ | refine blk_alloc ?_ _)); exact BK683.out) hb); have n4_ := Aside0.mk (below_step (by repeat (first | (with_reducible first | exact HB.out | apply below_alloc | apply pw_below_drewN | apply below_drew1 | refine below_set ?_ GE682.out | refine below_set ?_ GE683.out) | exact HB.out)) hb); clear HO_8; clear BK682; clear BK683; clear HB; have HO_8 := n0_; have HO691 := n1_; have BK682 := n2_; have BK683 := n3_; have HB := n4_; clear n0_ n1_ n2_ n3_ n4_; (try clear hb); (try clear hb2); (try clear hk); (try clear hi); (try clear ho0); obtain ⟨Ao27, co27, eo27⟩ := Kd.R_slice HO691.out; subst eo27) | ((with_reducible refine gate_callee (f := 56) rfl ?_); refine goesL_ (some 39) rfl rfl Try.func56 (by kernel_rfl) rfl #[.slice Ao27 t689.length co27] rfl (by (try simp only [List.map_toArray, List.map_cons, List.map_nil]); first | done | rfl | (simp only [List.length_drop, List.length_take]; rfl)) ?_; (with_reducible refine (spec_l7Treap.calls _ _ t689 t692 _ ?side1 ?side2 A24.out).mono ?_); (case side1 => repeat (first | exact (Kd.R_reads' HO691.out).2.2 | (with_reducible refine Kd.C_alloc ?_ _) | (with_reducible refine Kd.C_drewN ?_ _) | (with_reducible refine Kd.C_drew ?_))); (case side2 => exact (Kd.R_reads' HO691.out).2.1); rintro e w28 ⟨v693, rfl, ho0, hb⟩; refine ⟨_, rfl, ?_⟩; have n0_ := Aside0.mk (Kd.R_below (by (with_reducible repeat (first | apply Kd.R_alloc | apply Kd.R_drewN | apply Kd.R_drew)); exact HO_8.out) hb); have n1_ := Aside0.mk (Kd.R_below (by (with_reducible repeat (first | apply Kd.R_alloc | apply Kd.R_drewN | apply Kd.R_drew)); exact HO691.out) hb); have n2_ := Aside0.mk (Kd.R_lower ho0 (below_size (by repeat (first | (with_reducible first | exact HB.out | apply below_alloc | apply pw_below_drewN | apply below_drew1 | refine below_set ?_ GE682.out | refine below_set ?_ GE683.out) | exact HB.out)))); have n3_ := Aside0.mk (blk_below (g := gb682) (o := .cells #[.slice A0_0 l0_0.length c0_0] 29 (0, 0)) (by (with_reducible repeat (first | refine blk_drewN ?_ _ | refine blk_drew ?_ | refine blk_alloc ?_ _)); exact BK682.out) hb); have n4_ := Aside0.mk (blk_below (g := gb683) (o := .cells #[.slice none 0 0] 29 (0, 0)) (by (with_reducible repeat (first | refine blk_drewN ?_ _ | refine blk_drew ?_ | refine blk_alloc ?_ _)); exact BK683.out) hb); have n5_ := Aside0.mk (below_step (by repeat (first | (with_reducible first | exact HB.out | apply below_alloc | apply pw_below_drewN | apply below_drew1 | refine below_set ?_ GE682.out | refine below_set ?_ GE683.out) | exact HB.out)) hb); clear HO_8; clear HO691; clear BK682; clear BK683; clear HB; have HO_8 := n0_; have HO691 := n1_; have HO694 := n2_; have BK682 := n3_; have BK683 := n4_; have HB := n5_; clear n0_ n1_ n2_ n3_ n4_ n5_; (try clear hb); (try clear hb2); (try clear hk); (try clear hi); (try clear ho0); obtain ⟨Ao29, co29, eo29⟩ := Kd.R_slice HO694.out; subst eo29; have hnb30 := NB683_682.out; have hnc30 := NB682_683.out; have hcz31_0 : w28.cell? ⟨gb683, 0, none⟩ = some (.slice none 0 0) := (blk_cell BK683.out 0).trans rfl; have hfz31_0 := blk_frozen BK683.out 0))
          refine bodyPost_ret (results_ct rfl _ _ gb683 29 #[.slice Ao29 t692.length co29] (0, 0) _ rfl (by (with_reducible repeat (first | refine blk_drewN ?_ _ | refine blk_drew ?_ | refine blk_alloc ?_ _)); refine blk_put (cs := #[.slice none 0 0]) ?_ 0 _ rfl; (with_reducible repeat (first | refine blk_drewN ?_ _ | refine blk_drew ?_ | refine blk_alloc ?_ _)); exact BK683.out) Try.underlying29 rfl (by kernel_rfl)) rfl ?_
          exact ⟨_, by first | rfl | (simp [errW_none, errW_some] <;> rfl) | (simp [*, errW_none, errW_some] <;> rfl), by (with_reducible repeat (first | apply Kd.R_alloc | apply Kd.R_drewN | apply Kd.R_drew)); exact Kd.R_mono (Kd.R_far (p := ⟨gb683, 0, none⟩) (Kd.R_types HO694.out BK683.out (by decide)) (fun _ hk => hk.2) (.slice Ao29 t692.length co29)) (fun _ hk => trivial), by repeat (first | (with_reducible first | exact HB.out | apply below_alloc | apply pw_below_drewN | apply below_drew1 | refine below_set ?_ GE682.out | refine below_set ?_ GE683.out) | exact HB.out)⟩

end Go.Proofs.Ytjknkeipginpcaa.PQ
end

section
-- Written by a program of this session (pprint.py) out of the translation's print; Lean checks it.
namespace Go.Proofs.Ytjknkeipginpcaa.PQ
open Go.RowKit Go.Proofs.YtjknkeipginpcaaW.PrintWords Go.Proofs.YtjknkeipginpcaaW.PrintLast Go.Proofs.YtjknkeipginpcaaW.PrintMore
attribute [local go_sem] max2_int min2_int max_two min_two max_three min_three max_four min_four   -- for this text's walks alone
set_option linter.unusedVariables false
set_option linter.unusedSimpArgs false

/-! ### spec_SplitTreap: function 31 -/
def spec_SplitTreap.f (k : Nat) (l0_0 : List (S71)) (a1 : ByteArray) : Option ((List (S71)) × (List (S71)) × Bool) := (spec_l7Of.f k l0_0).bind fun bt485 => (if bt485.2 = true then ((spec_l7At.f k bt485.1 a1).bind fun bt489 => (if 0 ≤ bt489.1 then (if bt489.1 ≤ (bt485.1.length : Int) then ((spec_l7Treap.f (bt485.1.take (bt489.1 : Int).toNat)).bind fun t495 => ((spec_l7Treap.f (bt485.1.drop (bt489.1 : Int).toNat)).bind fun t502 => (some (t495, t502, true)))) else (none)) else (none))) else (some (([] : List (S71)), ([] : List (S71)), false)))
theorem spec_SplitTreap.mono : ∀ a0 a1 k, LeO (spec_SplitTreap.f k a0 a1) (spec_SplitTreap.f (k + 1) a0 a1) := by
  intro a0 a1 k
  unfold spec_SplitTreap.f
  repeat' first
      | (with_reducible exact spec_l7At.mono _ _ _)
      | (with_reducible exact spec_l7Of.mono _ _)
      | (with_reducible exact LeO.refl _)
      | (with_reducible exact LeO.none _)
      | (with_reducible refine LeO.ite ?_ ?_)
      | (with_reducible refine LeO.bind ?_ (fun _ => ?_))
      | exact spec_l7At.mono _ _ _
      | exact spec_l7Of.mono _ _
      | exact LeO.none _
      | refine LeO.ite ?_ ?_
      | refine LeO.bind ?_ (fun _ => ?_)
def spec_SplitTreap.T5 : Bool × List (List Nat × List Nat) := (true, [([], []), ([], []), ([0, 1], [0, 1]), ([2], [2]), ([], []), ([], []), ([4, 5], [4, 5]), ([6, 3], [6]), ([3, 7, 0, 1, 2, 3], [3]), ([7, 8, 0, 1, 2, 3, 4, 5, 6, 7, 8], [7]), ([9, 0, 1, 2, 3, 4, 5, 6, 7, 8, 9], [])])
def spec_SplitTreap.B5 : List Nat := [0, 0, 3, 7, 0, 0, 48, 127, 255, 511, 1023]
theorem spec_SplitTreap.tab5 : rtab .any (opsOf Try.f31 5) = spec_SplitTreap.T5 := by kernel_rfl
theorem spec_SplitTreap.bits5 : waitsOk spec_SplitTreap.T5.2 spec_SplitTreap.B5 = true := by kernel_rfl
set_option maxHeartbeats 8000000 in
set_option maxRecDepth 100000 in
theorem spec_SplitTreap.calls (k : Nat) (A0_0 : Option Addr) (c0_0 : Nat) (l0_0 : List (S71)) (a1 : ByteArray) (r1 : List (S71)) (r2 : List (S71)) (r3 : Bool) (w : World) (hr0_0 : Kd.C k71 w A0_0 l0_0.length l0_0) (hc0_0 : l0_0.length ≤ c0_0) (h : spec_SplitTreap.f k l0_0 a1 = some (r1, r2, r3)) :
    Calls Try.prog 31 #[.agg #[.slice A0_0 l0_0.length c0_0], .string a1] w fun e w' => ∃ v0_ v1_ : Value, e = .returned (.tuple #[.agg #[v0_], .agg #[v1_], .bool r3]) ∧ Kd.R k71 71 w' w.heap.size (fun k_ => some k_ ≠ (v1_ : Value).ownBlock) v0_ r1 ∧ Kd.R k71 71 w' w.heap.size (fun k_ => some k_ ≠ (v0_ : Value).ownBlock) v1_ r2 ∧ Below w.heap.size w w' := by
  have hu29 := Try.underlying29
  have HR0_0 := Aside0.mk hr0_0
  have HC0_0 := Aside0.mk hc0_0
  clear hr0_0 hc0_0
  have HB := Aside0.mk (Below.refl w.heap.size w)
  have H : ((spec_l7Of.f k l0_0).bind fun bt485 => (if bt485.2 = true then ((spec_l7At.f k bt485.1 a1).bind fun bt489 => (if 0 ≤ bt489.1 then (if bt489.1 ≤ (bt485.1.length : Int) then ((spec_l7Treap.f (bt485.1.take (bt489.1 : Int).toNat)).bind fun t495 => ((spec_l7Treap.f (bt485.1.drop (bt489.1 : Int).toNat)).bind fun t502 => (some (t495, t502, true)))) else (none)) else (none))) else (some (([] : List (S71)), ([] : List (S71)), false)))) = some (r1, r2, r3) := h
  clear h
  replace H := Option.bind_eq_some_iff.mp H
  obtain ⟨⟨t485, t488⟩, A30, H⟩ := H
  replace H : (if t488 = true then ((spec_l7At.f k t485 a1).bind fun bt489 => (if 0 ≤ bt489.1 then (if bt489.1 ≤ (t485.length : Int) then ((spec_l7Treap.f (t485.take (bt489.1 : Int).toNat)).bind fun t495 => ((spec_l7Treap.f (t485.drop (bt489.1 : Int).toNat)).bind fun t502 => (some (t495, t502, true)))) else (none)) else (none))) else (some (([] : List (S71)), ([] : List (S71)), false))) = some (r1, r2, r3) := H
  have A3 := Aside0.mk A30
  clear A30
  by_cases c4 : t488 = true
  · subst c4
    have H1 : ((spec_l7At.f k t485 a1).bind fun bt489 => (if 0 ≤ bt489.1 then (if bt489.1 ≤ (t485.length : Int) then ((spec_l7Treap.f (t485.take (bt489.1 : Int).toNat)).bind fun t495 => ((spec_l7Treap.f (t485.drop (bt489.1 : Int).toNat)).bind fun t502 => (some (t495, t502, true)))) else (none)) else (none))) = some (r1, r2, r3) := by rw [if_pos rfl] at H; exact H
    clear H
    have H := H1
    clear H1
    replace H := Option.bind_eq_some_iff.mp H
    obtain ⟨⟨t489, t490⟩, A50, H⟩ := H
    replace H : (if 0 ≤ t489 then (if t489 ≤ (t485.length : Int) then ((spec_l7Treap.f (t485.take (t489 : Int).toNat)).bind fun t495 => ((spec_l7Treap.f (t485.drop (t489 : Int).toNat)).bind fun t502 => (some (t495, t502, true)))) else (none)) else (none)) = some (r1, r2, r3) := H
    have A5 := Aside0.mk A50
    clear A50
    by_cases c6 : 0 ≤ t489
    · rw [if_pos c6] at H
      have c6b0 := eq_true c6
      have c6b1 : decide (0 ≤ t489) = true := decide_eq_true c6
      clear c6
      by_cases c7 : t489 ≤ (t485.length : Int)
      · rw [if_pos c7] at H
        have c7b0 := eq_true c7
        have c7b1 : decide (t489 ≤ (t485.length : Int)) = true := decide_eq_true c7
        clear c7
        obtain ⟨y491, hy491⟩ : ∃ y_ : List (S74), y_ = (t485.take (t489 : Int).toNat) := ⟨_, rfl⟩
        replace H : ((spec_l7Treap.f y491).bind fun t495 => ((spec_l7Treap.f (t485.drop (t489 : Int).toNat)).bind fun t502 => (some (t495, t502, true)))) = some (r1, r2, r3) := by first | (rw [hy491]; with_reducible exact H) | (have H2_ := (Option.bind_some _ _).symm.trans H; rw [hy491]; with_reducible exact H2_) | (have H2_ := (Option.bind_some _ _).symm.trans H; with_reducible exact H2_) | with_reducible exact H | (rw [hy491]; exact H) | exact H
        have Ny491 := Aside0.mk hy491
        clear hy491
        replace H := Option.bind_eq_some_iff.mp H
        obtain ⟨t495, A80, H⟩ := H
        replace H : ((spec_l7Treap.f (t485.drop (t489 : Int).toNat)).bind fun t502 => (some (t495, t502, true))) = some (r1, r2, r3) := H
        have A8 := Aside0.mk A80
        clear A80
        have c9b0 := eq_true (of_decide_eq_true (by first | (with_reducible assumption) | assumption) : 0 ≤ t489)
        have c10b0 := eq_true (of_decide_eq_true (by first | (with_reducible assumption) | assumption) : t489 ≤ (t485.length : Int))
        obtain ⟨y498, hy498⟩ : ∃ y_ : List (S74), y_ = (t485.drop (t489 : Int).toNat) := ⟨_, rfl⟩
        replace H : ((spec_l7Treap.f y498).bind fun t502 => (some (t495, t502, true))) = some (r1, r2, r3) := by first | (rw [hy498]; with_reducible exact H) | (have H2_ := (Option.bind_some _ _).symm.trans H; rw [hy498]; with_reducible exact H2_) | (have H2_ := (Option.bind_some _ _).symm.trans H; with_reducible exact H2_) | with_reducible exact H | (rw [hy498]; exact H) | exact H
        have Ny498 := Aside0.mk hy498
        clear hy498
        replace H := Option.bind_eq_some_iff.mp H
        obtain ⟨t502, A110, H⟩ := H
        replace H : (some (t495, t502, true)) = some (r1, r2, r3) := H
        have A11 := Aside0.mk A110
        clear A110
        simp only [Option.some.injEq, Prod.mk.injEq] at H
        obtain ⟨rfl, rfl, rfl⟩ := H
        go_enter Try.func31, Try.ntmps31
        try go_wp2_with (first | ((with_reducible refine gate_dst (N := 2) rfl ?_); refine box_event ?hg (N := 2) ?hd (cs := #[.slice A0_0 l0_0.length c0_0]) (t := 29) ?hr ?_; (case hd => rfl); (case hg => rfl); (case hr => first | (go_simp; done) | (go_simp; rfl)); intro gb482 hg w12 hbox hb; have n0_ := Aside0.mk (below_step (by repeat (first | (with_reducible first | exact HB.out | apply below_alloc | apply pw_below_drewN | apply below_drew1) | exact HB.out)) hb); have n1_ := Aside0.mk (hbox); have n2_ := Aside0.mk ((by rw [hg]; exact (below_size (by repeat (first | (with_reducible first | exact HB.out | apply below_alloc | apply pw_below_drewN | apply below_drew1) | exact HB.out))) : w.heap.size ≤ gb482)); have n3_ := Aside0.mk ((by rw [hg]; exact (below_size (by repeat (first | (with_reducible first | exact HB.out | apply below_alloc | apply pw_below_drewN | apply below_drew1) | exact HB.out))) : w.heap.size ≤ gb482)); clear HB; have HB := n0_; have BK482 := n1_; have GW482 := n2_; have GE482 := n3_; clear n0_ n1_ n2_ n3_; clear hb hbox hg) | ((with_reducible refine gate_dst (N := 4) rfl ?_); refine box_event ?hg (N := 4) ?hd (cs := #[.slice none 0 0]) (t := 29) ?hr ?_; (case hd => rfl); (case hg => rfl); (case hr => first | (go_simp; done) | (go_simp; rfl)); intro gb483 hg w13 hbox hb; have n0_ := Aside0.mk (blk_below (g := gb482) (o := .cells #[.slice A0_0 l0_0.length c0_0] 29 (0, 0)) (by (with_reducible repeat (first | refine blk_drewN ?_ _ | refine blk_drew ?_ | refine blk_alloc ?_ _)); exact BK482.out) hb); have n1_ := Aside0.mk (below_step (by repeat (first | (with_reducible first | exact HB.out | apply below_alloc | apply pw_below_drewN | apply below_drew1 | refine below_set ?_ GE482.out) | exact HB.out)) hb); have n2_ := Aside0.mk (hbox); have n3_ := Aside0.mk ((by rw [hg]; exact (below_size (by repeat (first | (with_reducible first | exact HB.out | apply below_alloc | apply pw_below_drewN | apply below_drew1 | refine below_set ?_ GE482.out) | exact HB.out))) : w.heap.size ≤ gb483)); have n4_ := Aside0.mk ((by rw [hg]; exact (below_size (by repeat (first | (with_reducible first | exact HB.out | apply below_alloc | apply pw_below_drewN | apply below_drew1 | refine below_set ?_ GE482.out) | exact HB.out))) : w.heap.size ≤ gb483)); have n5_ := Aside0.mk ((by rw [hg]; exact Nat.ne_of_lt (blk_lt (g := gb482) (o := .cells #[.slice A0_0 l0_0.length c0_0] 29 (0, 0)) (by (with_reducible repeat (first | refine blk_drewN ?_ _ | refine blk_drew ?_ | refine blk_alloc ?_ _)); exact BK482.out)) : gb482 ≠ gb483)); have n6_ := Aside0.mk ((by rw [hg]; exact Nat.ne_of_gt (blk_lt (g := gb482) (o := .cells #[.slice A0_0 l0_0.length c0_0] 29 (0, 0)) (by (with_reducible repeat (first | refine blk_drewN ?_ _ | refine blk_drew ?_ | refine blk_alloc ?_ _)); exact BK482.out)) : gb483 ≠ gb482)); clear BK482; clear HB; have BK482 := n0_; have HB := n1_; have BK483 := n2_; have GW483 := n3_; have GE483 := n4_; have NB482_483 := n5_; have NB483_482 := n6_; clear n0_ n1_ n2_ n3_ n4_ n5_ n6_; clear hb hbox hg) | ((with_reducible refine gate_dst (N := 5) rfl ?_); refine box_event ?hg (N := 5) ?hd (cs := #[.slice none 0 0]) (t := 29) ?hr ?_; (case hd => rfl); (case hg => rfl); (case hr => first | (go_simp; done) | (go_simp; rfl)); intro gb484 hg w14 hbox hb; have n0_ := Aside0.mk (blk_below (g := gb482) (o := .cells #[.slice A0_0 l0_0.length c0_0] 29 (0, 0)) (by (with_reducible repeat (first | refine blk_drewN ?_ _ | refine blk_drew ?_ | refine blk_alloc ?_ _)); exact BK482.out) hb); have n1_ := Aside0.mk (blk_below (g := gb483) (o := .cells #[.slice none 0 0] 29 (0, 0)) (by (with_reducible repeat (first | refine blk_drewN ?_ _ | refine blk_drew ?_ | refine blk_alloc ?_ _)); exact BK483.out) hb); have n2_ := Aside0.mk (below_step (by repeat (first | (with_reducible first | exact HB.out | apply below_alloc | apply pw_below_drewN | apply below_drew1 | refine below_set ?_ GE482.out | refine below_set ?_ GE483.out) | exact HB.out)) hb); have n3_ := Aside0.mk (hbox); have n4_ := Aside0.mk ((by rw [hg]; exact (below_size (by repeat (first | (with_reducible first | exact HB.out | apply below_alloc | apply pw_below_drewN | apply below_drew1 | refine below_set ?_ GE482.out | refine below_set ?_ GE483.out) | exact HB.out))) : w.heap.size ≤ gb484)); have n5_ := Aside0.mk ((by rw [hg]; exact (below_size (by repeat (first | (with_reducible first | exact HB.out | apply below_alloc | apply pw_below_drewN | apply below_drew1 | refine below_set ?_ GE482.out | refine below_set ?_ GE483.out) | exact HB.out))) : w.heap.size ≤ gb484)); have n6_ := Aside0.mk ((by rw [hg]; exact Nat.ne_of_lt (blk_lt (g := gb482) (o := .cells #[.slice A0_0 l0_0.length c0_0] 29 (0, 0)) (by (with_reducible repeat (first | refine blk_drewN ?_ _ | refine blk_drew ?_ | refine blk_alloc ?_ _)); exact BK482.out)) : gb482 ≠ gb484)); have n7_ := Aside0.mk ((by rw [hg]; exact Nat.ne_of_gt (blk_lt (g := gb482) (o := .cells #[.slice A0_0 l0_0.length c0_0] 29 (0, 0)) (by (with_reducible repeat (first | refine blk_drewN ?_ _ | refine blk_drew ?_ | refine blk_alloc ?_ _)); exact BK482.out)) : gb484 ≠ gb482)); have n8_ := Aside0.mk ((by rw [hg]; exact Nat.ne_of_lt (blk_lt (g := gb483) (o := .cells #[.slice none 0 0] 29 (0, 0)) (by (with_reducible repeat (first | refine blk_drewN ?_ _ | refine blk_drew ?_ | refine blk_alloc ?_ _)); exact BK483.out)) : gb483 ≠ gb484)); have n9_ := Aside0.mk ((by rw [hg]; exact Nat.ne_of_gt (blk_lt (g := gb483) (o := .cells #[.slice none 0 0] 29 (0, 0)) (by (with_reducible repeat (first | refine blk_drewN ?_ _ | refine blk_drew ?_ | refine blk_alloc ?_ _)); exact BK483.out)) : gb484 ≠ gb483)); clear BK482; clear BK483; clear HB; have BK482 := n0_; have BK483 := n1_; have HB := n2_; have BK484 := n3_; have GW484 := n4_; have GE484 := n5_; have NB482_484 := n6_; have NB484_482 := n7_; have NB483_484 := n8_; have NB484_483 := n9_; clear n0_ n1_ n2_ n3_ n4_ n5_ n6_ n7_ n8_ n9_; clear hb hbox hg; have hnb15 := NB482_483.out; have hnc15 := NB483_482.out; have hnb16 := NB482_484.out; have hnc16 := NB484_482.out; have hcz17_0 : w14.cell? ⟨gb482, 0, none⟩ = some (.slice A0_0 l0_0.length c0_0) := (blk_cell BK482.out 0).trans rfl; have hfz17_0 := blk_frozen BK482.out 0) | ((with_reducible refine gate_callee (f := 47) rfl ?_); refine goesL_ (some 13) rfl rfl Try.func47 (by kernel_rfl) rfl #[.agg #[.slice A0_0 l0_0.length c0_0]] rfl (by (try simp only [List.map_toArray, List.map_cons, List.map_nil]); first | done | rfl | (simp only [List.length_drop, List.length_take]; rfl)) ?_; (with_reducible refine (spec_l7Of.calls k _ _ l0_0 t485 true _ ?side1 ?side2 A3.out).mono ?_); (case side1 => repeat (first | exact (Kd.C_below HR0_0.out HB.out) | (with_reducible refine Kd.C_alloc ?_ _) | (with_reducible refine Kd.C_drewN ?_ _) | (with_reducible refine Kd.C_drew ?_))); (case side2 => exact HC0_0.out); rintro e w18 ⟨v486, rfl, ho0, hb⟩; refine ⟨_, rfl, ?_⟩; have n0_ := Aside0.mk (Kd.R_lower ho0 (below_size (by repeat (first | (with_reducible first | exact HB.out | apply below_alloc | apply pw_below_drewN | apply below_drew1 | refine below_set ?_ GE482.out | refine below_set ?_ GE483.out | refine below_set ?_ GE484.out) | exact HB.out)))); have n1_ := Aside0.mk (blk_below (g := gb482) (o := .cells #[.slice A0_0 l0_0.length c0_0] 29 (0, 0)) (by (with_reducible repeat (first | refine blk_drewN ?_ _ | refine blk_drew ?_ | refine blk_alloc ?_ _)); exact BK482.out) hb); have n2_ := Aside0.mk (blk_below (g := gb483) (o := .cells #[.slice none 0 0] 29 (0, 0)) (by (with_reducible repeat (first | refine blk_drewN ?_ _ | refine blk_drew ?_ | refine blk_alloc ?_ _)); exact BK483.out) hb); have n3_ := Aside0.mk (blk_below (g := gb484) (o := .cells #[.slice none 0 0] 29 (0, 0)) (by (with_reducible repeat (first | refine blk_drewN ?_ _ | refine blk_drew ?_ | refine blk_alloc ?_ _)); exact BK484.out) hb); have n4_ := Aside0.mk (below_step (by repeat (first | (with_reducible first | exact HB.out | apply below_alloc | apply pw_below_drewN | apply below_drew1 | refine below_set ?_ GE482.out | refine below_set ?_ GE483.out | refine below_set ?_ GE484.out) | exact HB.out)) hb); clear BK482; clear BK483; clear BK484; clear HB; have HO487 := n0_; have BK482 := n1_; have BK483 := n2_; have BK484 := n3_; have HB := n4_; clear n0_ n1_ n2_ n3_ n4_; (try clear hb); (try clear hb2); (try clear hk); (try clear hi); (try clear ho0); obtain ⟨Ao19, co19, eo19⟩ := Kd.R_slice HO487.out; subst eo19) | ((with_reducible refine gate_callee (f := 60) rfl ?_); refine goesL_ (some 23) rfl rfl Try.func60 (by kernel_rfl) rfl #[.slice Ao19 t485.length co19, .string a1] rfl (by (try simp only [List.map_toArray, List.map_cons, List.map_nil]); first | done | rfl | (simp only [List.length_drop, List.length_take]; rfl)) ?_; (with_reducible refine (spec_l7At.calls k _ _ t485 a1 t489 t490 _ ?side1 ?side2 A5.out).mono ?_); (case side1 => repeat (first | exact (Kd.R_reads' HO487.out).2.2 | (with_reducible refine Kd.C_alloc ?_ _) | (with_reducible refine Kd.C_drewN ?_ _) | (with_reducible refine Kd.C_drew ?_))); (case side2 => exact (Kd.R_reads' HO487.out).2.1); rintro e w' ⟨rfl, ⟨nd, rfl⟩⟩; refine ⟨_, rfl, ?_⟩; (try (rw [drewN_self w18]; generalize hq_ : World.drewN w18 _ = w18; have n0_ : Aside0 (Kd.R k74 74 w18 w.heap.size (fun _ => True) (.slice Ao19 t485.length co19) t485) := ⟨by rw [← hq_]; exact (by (with_reducible repeat (first | apply Kd.R_alloc | apply Kd.R_drewN | apply Kd.R_drew)); exact HO487.out)⟩; have n1_ : Aside0 (w18.heap[gb482]? = some (.cells #[.slice A0_0 l0_0.length c0_0] 29 (0, 0))) := ⟨by rw [← hq_]; exact (by (with_reducible repeat (first | refine blk_drewN ?_ _ | refine blk_drew ?_ | refine blk_alloc ?_ _)); exact BK482.out)⟩; have n2_ : Aside0 (w18.heap[gb483]? = some (.cells #[.slice none 0 0] 29 (0, 0))) := ⟨by rw [← hq_]; exact (by (with_reducible repeat (first | refine blk_drewN ?_ _ | refine blk_drew ?_ | refine blk_alloc ?_ _)); exact BK483.out)⟩; have n3_ : Aside0 (w18.heap[gb484]? = some (.cells #[.slice none 0 0] 29 (0, 0))) := ⟨by rw [← hq_]; exact (by (with_reducible repeat (first | refine blk_drewN ?_ _ | refine blk_drew ?_ | refine blk_alloc ?_ _)); exact BK484.out)⟩; have n4_ : Aside0 (Below w.heap.size w w18) := ⟨by rw [← hq_]; exact (by repeat (first | (with_reducible first | exact HB.out | apply below_alloc | apply pw_below_drewN | apply below_drew1 | refine below_set ?_ GE482.out | refine below_set ?_ GE483.out | refine below_set ?_ GE484.out) | exact HB.out))⟩; clear HO487 BK482 BK483 BK484 HB hq_; have HO487 := n0_; have BK482 := n1_; have BK483 := n2_; have BK484 := n3_; have HB := n4_; clear n0_ n1_ n2_ n3_ n4_))))
        have n0_ := Aside0.mk (Kd.R_drew HO487.out)
        have n1_ := Aside0.mk (blk_drew BK482.out)
        have n2_ := Aside0.mk (blk_drew BK483.out)
        have n3_ := Aside0.mk (blk_drew BK484.out)
        have n4_ := Aside0.mk (below_drew1 HB.out)
        clear HO487
        clear BK482
        clear BK483
        clear BK484
        clear HB
        have HO487 := n0_
        have BK482 := n1_
        have BK483 := n2_
        have BK484 := n3_
        have HB := n4_
        clear n0_ n1_ n2_ n3_ n4_
        have q21 : (t489 : Int) ≤ ((t485.length : Int) : Int) := of_decide_eq_true (by first | (with_reducible assumption) | assumption)
        obtain ⟨i021, hi021, _, hsz21, _⟩ := info_parts info74
        have hroom21 : t485.length ≤ co19 := (Kd.R_reads' HO487.out).2.1
        have hC21 : Kd.C k74 _ Ao19 t485.length t485 := (Kd.R_reads' HO487.out).2.2
        have hcut21 := cut_to (P := Try.prog) 62 74 .i64 Try.underlying62 hi021 Ao19 t485.length co19 t489 (of_decide_eq_true (by first | (with_reducible assumption) | assumption)) q21 hroom21
        have hr21 := Kd.C_take (m := (t489 : Int).toNat) hC21 (by omega)
        have hy21 : y491.length = (t489 : Int).toNat := (by rw [Ny491.out, List.length_take]; omega)
        rw [← Ny491.out] at hr21
        rw [← hy21] at hcut21
        have HR494 := Aside0.mk hr21
        have HC494 := Aside0.mk (show y491.length ≤ co19 from by omega)
        clear hr21 hC21 hroom21 hi021 hsz21
        have KY21 := Aside0.mk hy21
        clear hy21
        have KL21 := Aside0.mk (show (t489 : Int).toNat ≤ t485.length from by omega)
        replace q21 := eq_true q21
        have q22 : (t489 : Int) ≤ ((t485.length : Int) : Int) := of_decide_eq_true (by first | (with_reducible assumption) | assumption)
        obtain ⟨i022, hi022, _, hsz22, _⟩ := info_parts info74
        have hroom22 : t485.length ≤ co19 := (Kd.R_reads' HO487.out).2.1
        have hC22 : Kd.C k74 _ Ao19 t485.length t485 := (Kd.R_reads' HO487.out).2.2
        have q022 : (0 : Int) ≤ (t489 : Int) := of_decide_eq_true (by first | (with_reducible assumption) | assumption)
        have hcut22 := cut_from (P := Try.prog) 62 74 .i64 Try.underlying62 hi022 2 hsz22 Ao19 t485.length co19 t489 q022 q22
        have hr22 := Kd.C_drop (m := (t489 : Int).toNat) (c := co19) hC22 (by omega) hroom22
        obtain ⟨A22, hA22⟩ : ∃ A1, A1 = (if co19 = (t489 : Int).toNat then Ao19 else (Ao19 : Option Addr).map (·.add ((t489 : Int).toNat * 2))) := ⟨_, rfl⟩
        obtain ⟨c22, hc22⟩ : ∃ c1, c1 = co19 - (t489 : Int).toNat := ⟨_, rfl⟩
        have hy22 : y498.length = t485.length - (t489 : Int).toNat := (by rw [Ny498.out, List.length_drop] <;> omega)
        rw [show (t485).drop (t489 : Int).toNat = y498 from Ny498.out.symm] at hr22
        replace hr22 : Kd.C k74 _ A22 y498.length y498 := (by rw [hA22]; exact hr22)
        rw [← hy22, ← hA22, ← hc22] at hcut22
        have HR501 := Aside0.mk hr22
        have HC501 := Aside0.mk (show y498.length ≤ c22 from by rw [hy22, hc22]; exact Nat.sub_le_sub_right hroom22 _)
        clear hr22 hC22 hroom22 hi022 hsz22 hc22
        have KY22 := Aside0.mk hy22
        have KA22 := Aside0.mk hA22
        clear hy22 hA22
        have KL22 := Aside0.mk (show (t489 : Int).toNat ≤ t485.length from by omega)
        replace q22 := eq_true q22
        refine start_ (n := 11) (S := fun w' => True) (ds := []) #[false, false, false, false, false, false, false, false, false, false, false] (by kernel_rfl) rfl rfl trivial (fun hHeld => ?_); refine with_tabW spec_SplitTreap.tab5 spec_SplitTreap.bits5 (fun HT_ HW_ => ?_)
        generalize w18.drew = w20 at HO487 BK482 BK483 BK484 HB HR494 HR501 hHeld ⊢
        refine pure_ (i := 0) (N := some 26) (v := ?_) (a' := ?_) #[true, false, false, false, false, false, false, false, false, false, false] rfl rfl (any_of HT_.out (by kernel_rfl)) (fun _ _ _ h => h) (Or.inl ⟨by rfl, ?_⟩) ?_ ?_
        rotate_left
        · intro w'
          go_simp
          with_reducible rfl
        rotate_left
        · simp only [Act.put, List.setIfInBounds_toArray, List.set_cons_zero, List.set_cons_succ, i64_w, i32_w]
          rfl
        refine pure_ (i := 1) (N := some 27) (v := ?_) (a' := ?_) #[true, true, false, false, false, false, false, false, false, false, false] rfl rfl (any_of HT_.out (by kernel_rfl)) (fun _ _ _ h => h) (Or.inl ⟨by rfl, ?_⟩) ?_ ?_
        rotate_left
        · intro w'
          go_simp
          with_reducible rfl
        rotate_left
        · simp only [Act.put, List.setIfInBounds_toArray, List.set_cons_zero, List.set_cons_succ, i64_w, i32_w]
          rfl
        refine pure_ (i := 2) (N := some 28) (v := ?_) (a' := ?_) #[true, true, true, false, false, false, false, false, false, false, false] rfl rfl (any_of HT_.out (by kernel_rfl)) (fun _ _ _ h => h) (Or.inl ⟨by rfl, ?_⟩) ?_ ?_
        rotate_left
        · intro w'
          go_simp
          with_reducible rfl
        rotate_left
        · simp only [Act.put, List.setIfInBounds_toArray, List.set_cons_zero, List.set_cons_succ, i64_w, i32_w]
          rfl
        refine pure_ (i := 4) (N := some 30) (v := ?_) (a' := ?_) #[true, true, true, false, true, false, false, false, false, false, false] rfl rfl (any_of HT_.out (by kernel_rfl)) (fun _ _ _ h => h) (Or.inl ⟨by rfl, ?_⟩) ?_ ?_
        rotate_left
        · intro w'
          go_simp
          with_reducible rfl
        rotate_left
        · simp only [Act.put, List.setIfInBounds_toArray, List.set_cons_zero, List.set_cons_succ, i64_w, i32_w]
          rfl
        refine pure_ (i := 5) (N := some 31) (v := ?_) (a' := ?_) #[true, true, true, false, true, true, false, false, false, false, false] rfl rfl (any_of HT_.out (by kernel_rfl)) (fun _ _ _ h => h) (Or.inl ⟨by rfl, ?_⟩) ?_ ?_
        rotate_left
        · intro w'
          go_simp
          with_reducible rfl
        rotate_left
        · simp only [Act.put, List.setIfInBounds_toArray, List.set_cons_zero, List.set_cons_succ, i64_w, i32_w]
          rfl
        refine pure_ (i := 6) (N := some 32) (v := ?_) (a' := ?_) #[true, true, true, false, true, true, true, false, false, false, false] rfl rfl (any_of HT_.out (by kernel_rfl)) (fun _ _ _ h => h) (Or.inl ⟨by rfl, ?_⟩) ?_ ?_
        rotate_left
        · intro w'
          go_simp
          with_reducible rfl
        rotate_left
        · simp only [Act.put, List.setIfInBounds_toArray, List.set_cons_zero, List.set_cons_succ, i64_w, i32_w]
          rfl
        refine one_ (i := 3) (N := some 29) #[true, true, true, true, true, true, true, false, false, false, false] rfl rfl (one_of HT_.out (by kernel_rfl)) (by decide) (fun K hK => ?_)
        refine goes_ Try.func56 (by kernel_rfl) rfl #[.slice Ao19 y491.length co19] (by rfl) rfl rfl (by (try simp only [List.map_toArray, List.map_cons, List.map_nil]); first | done | rfl | (simp only [List.length_drop, List.length_take]; rfl)) ?_
        with_reducible refine (spec_l7Treap.calls _ _ y491 t495 _ ?side1 ?side2 A8.out).mono ?_
        (case side1 => repeat (first | exact (by repeat (first | (with_reducible exact HR494.out) | (with_reducible refine Kd.C_alloc ?_ _) | (with_reducible refine Kd.C_drewN ?_ _) | (with_reducible refine Kd.C_drew ?_) | exact HR494.out)) | (with_reducible refine Kd.C_alloc ?_ _) | (with_reducible refine Kd.C_drewN ?_ _) | (with_reducible refine Kd.C_drew ?_)))
        (case side2 => exact HC494.out)
        rintro e w23 ⟨v496, rfl, ho0, hb⟩
        refine ⟨_, rfl, ?_⟩
        have n0_ := Aside0.mk (Kd.R_below (by (with_reducible repeat (first | apply Kd.R_alloc | apply Kd.R_drewN | apply Kd.R_drew)); exact HO487.out) hb)
        have n1_ := Aside0.mk (Kd.R_lower ho0 (below_size (by repeat (first | (with_reducible first | exact HB.out | apply below_alloc | apply pw_below_drewN | apply below_drew1 | refine below_set ?_ GE482.out | refine below_set ?_ GE483.out | refine below_set ?_ GE484.out) | exact HB.out))))
        have n2_ := Aside0.mk (blk_below (g := gb482) (o := .cells #[.slice A0_0 l0_0.length c0_0] 29 (0, 0)) (by (with_reducible repeat (first | refine blk_drewN ?_ _ | refine blk_drew ?_ | refine blk_alloc ?_ _)); exact BK482.out) hb)
        have n3_ := Aside0.mk (blk_below (g := gb483) (o := .cells #[.slice none 0 0] 29 (0, 0)) (by (with_reducible repeat (first | refine blk_drewN ?_ _ | refine blk_drew ?_ | refine blk_alloc ?_ _)); exact BK483.out) hb)
        have n4_ := Aside0.mk (blk_below (g := gb484) (o := .cells #[.slice none 0 0] 29 (0, 0)) (by (with_reducible repeat (first | refine blk_drewN ?_ _ | refine blk_drew ?_ | refine blk_alloc ?_ _)); exact BK484.out) hb)
        have n5_ := Aside0.mk (Kd.C_below (by repeat (first | (with_reducible exact HR494.out) | (with_reducible refine Kd.C_alloc ?_ _) | (with_reducible refine Kd.C_drewN ?_ _) | (with_reducible refine Kd.C_drew ?_) | exact HR494.out)) hb)
        have n6_ := Aside0.mk (Kd.C_below (by repeat (first | (with_reducible exact HR501.out) | (with_reducible refine Kd.C_alloc ?_ _) | (with_reducible refine Kd.C_drewN ?_ _) | (with_reducible refine Kd.C_drew ?_) | exact HR501.out)) hb)
        have n7_ := Aside0.mk (below_step (by repeat (first | (with_reducible first | exact HB.out | apply below_alloc | apply pw_below_drewN | apply below_drew1 | refine below_set ?_ GE482.out | refine below_set ?_ GE483.out | refine below_set ?_ GE484.out) | exact HB.out)) hb)
        clear HO487
        clear BK482
        clear BK483
        clear BK484
        clear HR494
        clear HR501
        clear HB
        have HO487 := n0_
        have HO497 := n1_
        have BK482 := n2_
        have BK483 := n3_
        have BK484 := n4_
        have HR494 := n5_
        have HR501 := n6_
        have HB := n7_
        clear n0_ n1_ n2_ n3_ n4_ n5_ n6_ n7_
        (try clear hb)
        (try clear hb2)
        (try clear hk)
        (try clear hi)
        (try clear ho0)
        refine hK.out _ _ trivial (fun hHeld => ?_)
        clear hK K
        refine norm_ (a' := ?_) ?_ ?_
        rotate_left
        · show Act.put _ (some 29) _ = _
          simp only [Act.put, List.setIfInBounds_toArray, List.set_cons_zero, List.set_cons_succ, i64_w, i32_w]
          rfl
        refine one_ (i := 7) (N := some 33) #[true, true, true, true, true, true, true, true, false, false, false] rfl rfl (one_of HT_.out (by kernel_rfl)) (by decide) (fun K hK => ?_)
        refine goes_ Try.func56 (by kernel_rfl) rfl #[.slice A22 y498.length c22] (by rfl) rfl rfl (by (try simp only [List.map_toArray, List.map_cons, List.map_nil]); first | done | rfl | (simp only [List.length_drop, List.length_take]; rfl)) ?_
        with_reducible refine (spec_l7Treap.calls _ _ y498 t502 _ ?side1 ?side2 A11.out).mono ?_
        (case side1 => repeat (first | exact (by repeat (first | (with_reducible exact HR501.out) | (with_reducible refine Kd.C_alloc ?_ _) | (with_reducible refine Kd.C_drewN ?_ _) | (with_reducible refine Kd.C_drew ?_) | exact HR501.out)) | (with_reducible refine Kd.C_alloc ?_ _) | (with_reducible refine Kd.C_drewN ?_ _) | (with_reducible refine Kd.C_drew ?_)))
        (case side2 => exact HC501.out)
        rintro e w24 ⟨v503, rfl, ho0, hb⟩
        refine ⟨_, rfl, ?_⟩
        have n0_ := Aside0.mk (Kd.R_below (by (with_reducible repeat (first | apply Kd.R_alloc | apply Kd.R_drewN | apply Kd.R_drew)); exact HO487.out) hb)
        have n1_ := Aside0.mk (Kd.R_elder' (by (with_reducible repeat (first | apply Kd.R_alloc | apply Kd.R_drewN | apply Kd.R_drew)); exact HO497.out) (Kd.R_base ho0) hb)
        have n2_ := Aside0.mk (Kd.R_lower (Kd.R_new' ho0 (Kd.R_lt (by (with_reducible repeat (first | apply Kd.R_alloc | apply Kd.R_drewN | apply Kd.R_drew)); exact HO497.out))) (below_size (by repeat (first | (with_reducible first | exact HB.out | apply below_alloc | apply pw_below_drewN | apply below_drew1 | refine below_set ?_ GE482.out | refine below_set ?_ GE483.out | refine below_set ?_ GE484.out) | exact HB.out))))
        have n3_ := Aside0.mk (blk_below (g := gb482) (o := .cells #[.slice A0_0 l0_0.length c0_0] 29 (0, 0)) (by (with_reducible repeat (first | refine blk_drewN ?_ _ | refine blk_drew ?_ | refine blk_alloc ?_ _)); exact BK482.out) hb)
        have n4_ := Aside0.mk (blk_below (g := gb483) (o := .cells #[.slice none 0 0] 29 (0, 0)) (by (with_reducible repeat (first | refine blk_drewN ?_ _ | refine blk_drew ?_ | refine blk_alloc ?_ _)); exact BK483.out) hb)
        have n5_ := Aside0.mk (blk_below (g := gb484) (o := .cells #[.slice none 0 0] 29 (0, 0)) (by (with_reducible repeat (first | refine blk_drewN ?_ _ | refine blk_drew ?_ | refine blk_alloc ?_ _)); exact BK484.out) hb)
        have n6_ := Aside0.mk (Kd.C_below (by repeat (first | (with_reducible exact HR494.out) | (with_reducible refine Kd.C_alloc ?_ _) | (with_reducible refine Kd.C_drewN ?_ _) | (with_reducible refine Kd.C_drew ?_) | exact HR494.out)) hb)
        have n7_ := Aside0.mk (Kd.C_below (by repeat (first | (with_reducible exact HR501.out) | (with_reducible refine Kd.C_alloc ?_ _) | (with_reducible refine Kd.C_drewN ?_ _) | (with_reducible refine Kd.C_drew ?_) | exact HR501.out)) hb)
        have n8_ := Aside0.mk (below_step (by repeat (first | (with_reducible first | exact HB.out | apply below_alloc | apply pw_below_drewN | apply below_drew1 | refine below_set ?_ GE482.out | refine below_set ?_ GE483.out | refine below_set ?_ GE484.out) | exact HB.out)) hb)
        clear HO487
        clear HO497
        clear BK482
        clear BK483
        clear BK484
        clear HR494
        clear HR501
        clear HB
        have HO487 := n0_
        have HO497 := n1_
        have HO504 := n2_
        have BK482 := n3_
        have BK483 := n4_
        have BK484 := n5_
        have HR494 := n6_
        have HR501 := n7_
        have HB := n8_
        clear n0_ n1_ n2_ n3_ n4_ n5_ n6_ n7_ n8_
        (try clear hb)
        (try clear hb2)
        (try clear hk)
        (try clear hi)
        (try clear ho0)
        obtain ⟨Ao25, co25, eo25⟩ := Kd.R_slice HO497.out
        (first | subst eo25 | (injection eo25 with f1_ f2_ f3_; have f4_ := f1_.symm; have f5_ := f3_.symm; clear f1_ f2_ f3_; subst f4_; subst f5_))
        obtain ⟨Ao27, co27, eo27⟩ := Kd.R_slice HO504.out
        (first | subst eo27 | (injection eo27 with f1_ f2_ f3_; have f4_ := f1_.symm; have f5_ := f3_.symm; clear f1_ f2_ f3_; subst f4_; subst f5_))
        refine hK.out _ _ trivial (fun hHeld => ?_)
        clear hK K
        refine norm_ (a' := ?_) ?_ ?_
        rotate_left
        · show Act.put _ (some 33) _ = _
          simp only [Act.put, List.setIfInBounds_toArray, List.set_cons_zero, List.set_cons_succ, i64_w, i32_w]
          rfl
        refine one_ (i := 8) (N := none) #[true, true, true, true, true, true, true, true, true, false, false] rfl rfl (one_of HT_.out (by kernel_rfl)) (by decide) (fun K hK => ?_)
        have hs26 : w24.cell? ⟨gb483, 0, none⟩ = some (.slice none 0 0) := (blk_cell BK483.out 0).trans rfl
        have hfs26 := blk_frozen BK483.out 0
        have hns26_0 := NB482_483.out
        have hns26_2 := NB484_483.out
        have hms26_0 := NB483_482.out
        have hms26_2 := NB483_484.out
        refine skip_ (w1 := ?_) (by rfl) rfl ?_ ?_
        rotate_left
        · go_simp
          rfl
        refine hK.out _ _ trivial (fun hHeld => ?_)
        clear hK K
        refine one_ (i := 9) (N := none) #[true, true, true, true, true, true, true, true, true, true, false] rfl rfl (one_of HT_.out (by kernel_rfl)) (by decide) (fun K hK => ?_)
        have hs28 : w24.cell? ⟨gb484, 0, none⟩ = some (.slice none 0 0) := (blk_cell BK484.out 0).trans rfl
        have hfs28 := blk_frozen BK484.out 0
        have hns28_0 := NB482_484.out
        have hns28_1 := NB483_484.out
        have hms28_0 := NB484_482.out
        have hms28_1 := NB484_483.out
        refine skip_ (w1 := ?_) (by rfl) rfl ?_ ?_
        rotate_left
        · go_simp
          rfl
        refine hK.out _ _ trivial (fun hHeld => ?_)
        clear hK K
        refine pure_ (i := 10) (N := some 6) (v := ?_) (a' := ?_) #[true, true, true, true, true, true, true, true, true, true, true] rfl rfl (any_of HT_.out (by kernel_rfl)) (fun _ _ _ h => h) (Or.inl ⟨by rfl, ?_⟩) ?_ ?_
        rotate_left
        · intro w'
          go_simp
          with_reducible rfl
        rotate_left
        · simp only [Act.put, List.setIfInBounds_toArray, List.set_cons_zero, List.set_cons_succ, i64_w, i32_w]
          rfl
        refine done_ (done_of HT_.out (by kernel_rfl)) ?_
        try go_wp2
        refine bodyPost_ret (results_list (rs := [.cell 4 29, .cell 5 29, .tmp 6]) rfl (by simp) (.cell gb483 29 #[.slice Ao25 t495.length co25] (0, 0) _ rfl (by (with_reducible repeat (first | refine blk_drewN ?_ _ | refine blk_drew ?_ | refine blk_alloc ?_ _)); refine blk_far ?_ NB483_484.out _; (with_reducible repeat (first | refine blk_drewN ?_ _ | refine blk_drew ?_ | refine blk_alloc ?_ _)); refine blk_put (cs := #[.slice none 0 0]) ?_ 0 _ rfl; (with_reducible repeat (first | refine blk_drewN ?_ _ | refine blk_drew ?_ | refine blk_alloc ?_ _)); exact BK483.out) Try.underlying29 rfl (by kernel_rfl) (.cell gb484 29 #[.slice Ao27 t502.length co27] (0, 0) _ rfl (by (with_reducible repeat (first | refine blk_drewN ?_ _ | refine blk_drew ?_ | refine blk_alloc ?_ _)); refine blk_put (cs := #[.slice none 0 0]) ?_ 0 _ rfl; (with_reducible repeat (first | refine blk_drewN ?_ _ | refine blk_drew ?_ | refine blk_alloc ?_ _)); refine blk_far ?_ NB484_483.out _; (with_reducible repeat (first | refine blk_drewN ?_ _ | refine blk_drew ?_ | refine blk_alloc ?_ _)); exact BK484.out) Try.underlying29 rfl (by kernel_rfl) (.tmp .nil)))) rfl ?_
        exact ⟨_, _, by first | rfl | (simp [errW_none, errW_some] <;> rfl) | (simp [*, errW_none, errW_some] <;> rfl), by (with_reducible repeat (first | apply Kd.R_alloc | apply Kd.R_drewN | apply Kd.R_drew)); exact Kd.R_mono (Kd.R_far (p := ⟨gb484, 0, none⟩) (Kd.R_far (p := ⟨gb483, 0, none⟩) (Kd.R_types (Kd.R_types HO497.out BK483.out (by decide)) BK484.out (by decide)) (fun _ hk => hk.1.2) (.slice Ao25 t495.length co25)) (fun _ hk => hk.2) (.slice Ao27 t502.length co27)) (fun _ hk => hk.1.1.2), by (with_reducible repeat (first | apply Kd.R_alloc | apply Kd.R_drewN | apply Kd.R_drew)); exact Kd.R_mono (Kd.R_far (p := ⟨gb484, 0, none⟩) (Kd.R_far (p := ⟨gb483, 0, none⟩) (Kd.R_types (Kd.R_types HO504.out BK483.out (by decide)) BK484.out (by decide)) (fun _ hk => hk.1.2) (.slice Ao25 t495.length co25)) (fun _ hk => hk.2) (.slice Ao27 t502.length co27)) (fun _ hk => hk.1.1.2), by repeat (first | (with_reducible first | exact HB.out | apply below_alloc | apply pw_below_drewN | apply below_drew1 | refine below_set ?_ GE482.out | refine below_set ?_ GE483.out | refine below_set ?_ GE484.out) | exact HB.out)⟩
      · rw [if_neg c7] at H
        exact absurd H (by simp)
    · rw [if_neg c6] at H
      exact absurd H (by simp)
  · replace c4 := Bool.eq_false_iff.mpr c4
    subst c4
    have H1 : (some (([] : List (S71)), ([] : List (S71)), false)) = some (r1, r2, r3) := by rw [if_neg (show ¬ (false = true) by decide)] at H; exact H
    clear H
    have H := H1
    clear H1
    simp only [Option.some.injEq, Prod.mk.injEq] at H
    obtain ⟨rfl, rfl, rfl⟩ := H
    go_enter Try.func31, Try.ntmps31
    go_wp2_with (first | ((with_reducible refine gate_dst (N := 2) rfl ?_); refine box_event ?hg (N := 2) ?hd (cs := #[.slice A0_0 l0_0.length c0_0]) (t := 29) ?hr ?_; (case hd => rfl); (case hg => rfl); (case hr => first | (go_simp; done) | (go_simp; rfl)); intro gb482 hg w29 hbox hb; have n0_ := Aside0.mk (below_step (by repeat (first | (with_reducible first | exact HB.out | apply below_alloc | apply pw_below_drewN | apply below_drew1) | exact HB.out)) hb); have n1_ := Aside0.mk (hbox); have n2_ := Aside0.mk ((by rw [hg]; exact (below_size (by repeat (first | (with_reducible first | exact HB.out | apply below_alloc | apply pw_below_drewN | apply below_drew1) | exact HB.out))) : w.heap.size ≤ gb482)); have n3_ := Aside0.mk ((by rw [hg]; exact (below_size (by repeat (first | (with_reducible first | exact HB.out | apply below_alloc | apply pw_below_drewN | apply below_drew1) | exact HB.out))) : w.heap.size ≤ gb482)); clear HB; have HB := n0_; have BK482 := n1_; have GW482 := n2_; have GE482 := n3_; clear n0_ n1_ n2_ n3_; clear hb hbox hg) | ((with_reducible refine gate_dst (N := 4) rfl ?_); refine box_event ?hg (N := 4) ?hd (cs := #[.slice none 0 0]) (t := 29) ?hr ?_; (case hd => rfl); (case hg => rfl); (case hr => first | (go_simp; done) | (go_simp; rfl)); intro gb483 hg w30 hbox hb; have n0_ := Aside0.mk (blk_below (g := gb482) (o := .cells #[.slice A0_0 l0_0.length c0_0] 29 (0, 0)) (by (with_reducible repeat (first | refine blk_drewN ?_ _ | refine blk_drew ?_ | refine blk_alloc ?_ _)); exact BK482.out) hb); have n1_ := Aside0.mk (below_step (by repeat (first | (with_reducible first | exact HB.out | apply below_alloc | apply pw_below_drewN | apply below_drew1 | refine below_set ?_ GE482.out) | exact HB.out)) hb); have n2_ := Aside0.mk (hbox); have n3_ := Aside0.mk ((by rw [hg]; exact (below_size (by repeat (first | (with_reducible first | exact HB.out | apply below_alloc | apply pw_below_drewN | apply below_drew1 | refine below_set ?_ GE482.out) | exact HB.out))) : w.heap.size ≤ gb483)); have n4_ := Aside0.mk ((by rw [hg]; exact (below_size (by repeat (first | (with_reducible first | exact HB.out | apply below_alloc | apply pw_below_drewN | apply below_drew1 | refine below_set ?_ GE482.out) | exact HB.out))) : w.heap.size ≤ gb483)); have n5_ := Aside0.mk ((by rw [hg]; exact Nat.ne_of_lt (blk_lt (g := gb482) (o := .cells #[.slice A0_0 l0_0.length c0_0] 29 (0, 0)) (by (with_reducible repeat (first | refine blk_drewN ?_ _ | refine blk_drew ?_ | refine blk_alloc ?_ _)); exact BK482.out)) : gb482 ≠ gb483)); have n6_ := Aside0.mk ((by rw [hg]; exact Nat.ne_of_gt (blk_lt (g := gb482) (o := .cells #[.slice A0_0 l0_0.length c0_0] 29 (0, 0)) (by (with_reducible repeat (first | refine blk_drewN ?_ _ | refine blk_drew ?_ | refine blk_alloc ?_ _)); exact BK482.out)) : gb483 ≠ gb482)); clear BK482; clear HB; have BK482 := n0_; have HB := n1_; have BK483 := n2_; have GW483 := n3_; have GE483 := n4_; have NB482_483 := n5_; have NB483_482 := n6_; clear n0_ n1_ n2_ n3_ n4_ n5_ n6_; clear hb hbox hg) | ((with_reducible refine gate_dst (N := 5) rfl ?_); refine box_event ?hg (N := 5) ?hd (cs := #[.slice none 0 0]) (t := 29) ?hr ?_; (case hd => rfl); (case hg => rfl); (case hr => first | (go_simp; done) | (go_simp; rfl)); intro gb484 hg w31 hbox hb; have n0_ := Aside0.mk (blk_below (g := gb482) (o := .cells #[.slice A0_0 l0_0.length c0_0] 29 (0, 0)) (by (with_reducible repeat (first | refine blk_drewN ?_ _ | refine blk_drew ?_ | refine blk_alloc ?_ _)); exact BK482.out) hb); have n1_ := Aside0.mk (blk_below (g := gb483) (o := .cells #[.slice none 0 0] 29 (0, 0)) (by (with_reducible repeat (first | refine blk_drewN ?_ _ | refine blk_drew ?_ | refine blk_alloc ?_ _)); exact BK483.out) hb); have n2_ := Aside0.mk (below_step (by repeat (first | (with_reducible first | exact HB.out | apply below_alloc | apply pw_below_drewN | apply below_drew1 | refine below_set ?_ GE482.out | refine below_set ?_ GE483.out) | exact HB.out)) hb); have n3_ := Aside0.mk (hbox); have n4_ := Aside0.mk ((by rw [hg]; exact (below_size (by repeat (first | (with_reducible first | exact HB.out | apply below_alloc | apply pw_below_drewN | apply below_drew1 | refine below_set ?_ GE482.out | refine below_set ?_ GE483.out) | exact HB.out))) : w.heap.size ≤ gb484)); have n5_ := Aside0.mk ((by rw [hg]; exact (below_size (by repeat (first | (with_reducible first | exact HB.out | apply below_alloc | apply pw_below_drewN | apply below_drew1 | refine below_set ?_ GE482.out | refine below_set ?_ GE483.out) | exact HB.out))) : w.heap.size ≤ gb484)); have n6_ := Aside0.mk ((by rw [hg]; exact Nat.ne_of_lt (blk_lt (g := gb482) (o := .cells #[.slice A0_0 l0_0.length c0_0] 29 (0, 0)) (by (with_reducible repeat (first | refine blk_drewN ?_ _ | refine blk_drew ?_ | refine blk_alloc ?_ _)); exact BK482.out)) : gb482 ≠ gb484)); have n7_ := Aside0.mk ((by rw [hg]; exact Nat.ne_of_gt (blk_lt (g := gb482) (o := .cells #[.slice A0_0 l0_0.length c0_0] 29 (0, 0)) (by (with_reducible repeat (first | refine blk_drewN ?_ _ | refine blk_drew ?_ | refine blk_alloc ?_ _)); exact BK482.out)) : gb484 ≠ gb482)); have n8_ := Aside0.mk ((by rw [hg]; exact Nat.ne_of_lt (blk_lt (g := gb483) (o := .cells #[.slice none 0 0] 29 (0, 0)) (by (with_reducible repeat (first | refine blk_drewN ?_ _ | refine blk_drew ?_ | refine blk_alloc ?_ _)); exact BK483.out)) : gb483 ≠ gb484)); have n9_ := Aside0.mk ((by rw [hg]; exact Nat.ne_of_gt (blk_lt (g := gb483) (o := .cells #[.slice none 0 0] 29 (0, 0)) (by (with_reducible repeat (first | refine blk_drewN ?_ _ | refine blk_drew ?_ | refine blk_alloc ?_ _)); exact BK483.out)) : gb484 ≠ gb483)); clear BK482; clear BK483; clear HB; have BK482 := n0_; have BK483 := n1_; have HB := n2_; have BK484 := n3_; have GW484 := n4_; have GE484 := n5_; have NB482_484 := n6_; have NB484_482 := n7_; have NB483_484 := n8_; have NB484_483 := n9_; clear n0_ n1_ n2_ n3_ n4_ n5_ n6_ n7_ n8_ n9_; clear hb hbox hg; have hnb32 := NB482_483.out; have hnc32 := NB483_482.out; have hnb33 := NB482_484.out; have hnc33 := NB484_482.out; have hcz34_0 : w31.cell? ⟨gb482, 0, none⟩ = some (.slice A0_0 l0_0.length c0_0) := (blk_cell BK482.out 0).trans rfl; have hfz34_0 := blk_frozen BK482.out 0) | ((with_reducible refine gate_callee (f := 47) rfl ?_); refine goesL_ (some 13) rfl rfl Try.func47 (by kernel_rfl) rfl #[.agg #[.slice A0_0 l0_0.length c0_0]] rfl (by (try simp only [List.map_toArray, List.map_cons, List.map_nil]); first | done | rfl | (simp only [List.length_drop, List.length_take]; rfl)) ?_; (with_reducible refine (spec_l7Of.calls k _ _ l0_0 t485 false _ ?side1 ?side2 A3.out).mono ?_); (case side1 => repeat (first | exact (Kd.C_below HR0_0.out HB.out) | (with_reducible refine Kd.C_alloc ?_ _) | (with_reducible refine Kd.C_drewN ?_ _) | (with_reducible refine Kd.C_drew ?_))); (case side2 => exact HC0_0.out); rintro e w35 ⟨v486, rfl, ho0, hb⟩; refine ⟨_, rfl, ?_⟩; have n0_ := Aside0.mk (Kd.R_lower ho0 (below_size (by repeat (first | (with_reducible first | exact HB.out | apply below_alloc | apply pw_below_drewN | apply below_drew1 | refine below_set ?_ GE482.out | refine below_set ?_ GE483.out | refine below_set ?_ GE484.out) | exact HB.out)))); have n1_ := Aside0.mk (blk_below (g := gb482) (o := .cells #[.slice A0_0 l0_0.length c0_0] 29 (0, 0)) (by (with_reducible repeat (first | refine blk_drewN ?_ _ | refine blk_drew ?_ | refine blk_alloc ?_ _)); exact BK482.out) hb); have n2_ := Aside0.mk (blk_below (g := gb483) (o := .cells #[.slice none 0 0] 29 (0, 0)) (by (with_reducible repeat (first | refine blk_drewN ?_ _ | refine blk_drew ?_ | refine blk_alloc ?_ _)); exact BK483.out) hb); have n3_ := Aside0.mk (blk_below (g := gb484) (o := .cells #[.slice none 0 0] 29 (0, 0)) (by (with_reducible repeat (first | refine blk_drewN ?_ _ | refine blk_drew ?_ | refine blk_alloc ?_ _)); exact BK484.out) hb); have n4_ := Aside0.mk (below_step (by repeat (first | (with_reducible first | exact HB.out | apply below_alloc | apply pw_below_drewN | apply below_drew1 | refine below_set ?_ GE482.out | refine below_set ?_ GE483.out | refine below_set ?_ GE484.out) | exact HB.out)) hb); clear BK482; clear BK483; clear BK484; clear HB; have HO487 := n0_; have BK482 := n1_; have BK483 := n2_; have BK484 := n3_; have HB := n4_; clear n0_ n1_ n2_ n3_ n4_; (try clear hb); (try clear hb2); (try clear hk); (try clear hi); (try clear ho0); have hnb36 := NB483_484.out; have hnc36 := NB484_483.out; have hcz37_0 : w35.cell? ⟨gb483, 0, none⟩ = some (.slice none 0 0) := (blk_cell BK483.out 0).trans rfl; have hfz37_0 := blk_frozen BK483.out 0; have hcz38_0 : w35.cell? ⟨gb484, 0, none⟩ = some (.slice none 0 0) := (blk_cell BK484.out 0).trans rfl; have hfz38_0 := blk_frozen BK484.out 0))
    refine bodyPost_ret (results_list (rs := [.cell 4 29, .cell 5 29, .tmp 6]) rfl (by simp) (.cell gb483 29 #[.slice none 0 0] (0, 0) _ rfl (by (with_reducible repeat (first | refine blk_drewN ?_ _ | refine blk_drew ?_ | refine blk_alloc ?_ _)); refine blk_far ?_ NB483_484.out _; (with_reducible repeat (first | refine blk_drewN ?_ _ | refine blk_drew ?_ | refine blk_alloc ?_ _)); refine blk_put (cs := #[.slice none 0 0]) ?_ 0 _ rfl; (with_reducible repeat (first | refine blk_drewN ?_ _ | refine blk_drew ?_ | refine blk_alloc ?_ _)); exact BK483.out) Try.underlying29 rfl (by kernel_rfl) (.cell gb484 29 #[.slice none 0 0] (0, 0) _ rfl (by (with_reducible repeat (first | refine blk_drewN ?_ _ | refine blk_drew ?_ | refine blk_alloc ?_ _)); refine blk_put (cs := #[.slice none 0 0]) ?_ 0 _ rfl; (with_reducible repeat (first | refine blk_drewN ?_ _ | refine blk_drew ?_ | refine blk_alloc ?_ _)); refine blk_far ?_ NB484_483.out _; (with_reducible repeat (first | refine blk_drewN ?_ _ | refine blk_drew ?_ | refine blk_alloc ?_ _)); exact BK484.out) Try.underlying29 rfl (by kernel_rfl) (.tmp .nil)))) rfl ?_
    exact ⟨_, _, by first | rfl | (simp [errW_none, errW_some] <;> rfl) | (simp [*, errW_none, errW_some] <;> rfl), by first | exact Kd.R_nil _ _ _ _ _ | exact Kd.N_nil _ _ _ _ _ | exact Kd.V_nil _ _ _ _ _ | exact Kd.Q_nil _ _ _ _ _ | exact Kd.S_nil _ _ _ _ _, by first | exact Kd.R_nil _ _ _ _ _ | exact Kd.N_nil _ _ _ _ _ | exact Kd.V_nil _ _ _ _ _ | exact Kd.Q_nil _ _ _ _ _ | exact Kd.S_nil _ _ _ _ _, by repeat (first | (with_reducible first | exact HB.out | apply below_alloc | apply pw_below_drewN | apply below_drew1 | refine below_set ?_ GE482.out | refine below_set ?_ GE483.out | refine below_set ?_ GE484.out) | exact HB.out)⟩

end Go.Proofs.Ytjknkeipginpcaa.PQ
end

section
-- Written by a program of this session (pprint.py) out of the translation's print; Lean checks it.
namespace Go.Proofs.Ytjknkeipginpcaa.PQ
open Go.RowKit Go.Proofs.YtjknkeipginpcaaW.PrintWords Go.Proofs.YtjknkeipginpcaaW.PrintLast Go.Proofs.YtjknkeipginpcaaW.PrintMore
attribute [local go_sem] max2_int min2_int max_two min_two max_three min_three max_four min_four   -- for this text's walks alone
set_option linter.unusedVariables false
set_option linter.unusedSimpArgs false

--OWNPART impl_treapOf
/-! ### impl_treapOf: function 57, by hand -/
--NEEDS loop.example/g00274/impl.heavier
--NEEDS loop.example/g00274/spec.l7Above
--IMPORT TrO
def impl_treapOf.f (l0 : List (S80)) : Option (List (S71)) := if (l0.length ≤ 1048576 ∧ ∀ x ∈ l0, x.f0.size ≤ 1048576) then some (Tr.enc l0.length 0 (l0.map BuI.kv)) else none
theorem impl_treapOf.calls (A0 : Option Addr) (c0 : Nat) (l0 : List (S80)) (r : List (S71)) (w : World) (hr0 : Kd.C k80 w A0 l0.length l0) (hc0 : l0.length ≤ c0) (h : impl_treapOf.f l0 = some r) :
    Calls Try.prog 57 #[.slice A0 l0.length c0] w fun e w' => ∃ v0_ : Value, e = .returned (.agg #[v0_]) ∧ Kd.R k71 71 w' w.heap.size (fun _ => True) v0_ r ∧ Below w.heap.size w w' := by
  unfold impl_treapOf.f at h
  split at h
  · rename_i hs
    obtain rfl := Option.some.inj h
    refine Tr.treapI l0 A0 c0 w hr0 hc0 hs.1 (fun i hi => ?_)
    have e : rd_T80 l0 (i : Int) = l0[i] := by
      unfold rd_T80
      simp [hi]
    rw [e]
    exact hs.2 _ (List.getElem_mem hi)
  · cases h

end Go.Proofs.Ytjknkeipginpcaa.PQ
end

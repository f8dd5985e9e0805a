/- Several texts in one: what the claim's last text rests on. No conditions. -/
import Derived.Test.YtaomjndfjmfelaaMAb11
import Derived.Test.YtaomjndfjmfelaaMAb9
import Derived.Test.YtaomjndfjmfelaaMAb6
import Derived.Test.YtaomjndfjmfelaaMAb7
section
namespace Go.Proofs.Ytaomjndfjmfelaa.SoB
set_option linter.unusedVariables false
set_option linter.unusedSimpArgs false
open Go.RowKit Go.Shelf Go.Lib Go.Sort Go.Proofs.Ytaomjndfjmfelaa.PQ Go.Proofs.YtaomjndfjmfelaaW.PrintWords Go.Proofs.YtaomjndfjmfelaaW.PrintLast Go.Proofs.YtaomjndfjmfelaaW.PrintMore Go.Proofs.Ytaomjndfjmfelaa.Pre
abbrev Rk := S77
/-- Those met in one list, in all of them. -/
def metR (L : List Rk) (l : List Sc) (acc : List Sc) : List Sc := l.foldl (fun a s => Meet.met L s.f0 a) acc
def metA (L : List Rk) (l : List Rk) (acc : List Sc) : List Sc := l.foldl (fun a r => metR L r.f0 a) acc
theorem met_len (L : List Rk) (id : Int) (acc : List Sc) : (Meet.met L id acc).length ≤ acc.length + 1 := by
 unfold Meet.met
 split
 ·
  omega
 ·
  simp
theorem take_last {α : Type} (l : List α) (i : Nat) (h : i < l.length) : l.take (i + 1) = l.take i ++ [l[i]] := List.take_succ_eq_append_getElem h
theorem metR_step (L : List Rk) (l : List Sc) (j : Nat) (h : j < l.length) (acc : List Sc) : metR L (l.take (j + 1)) acc = Meet.met L l[j].f0 (metR L (l.take j) acc) := by
 unfold metR
 rw [take_last l j h, List.foldl_append]
 rfl
theorem metA_step (L : List Rk) (l : List Rk) (i : Nat) (h : i < l.length) (acc : List Sc) : metA L (l.take (i + 1)) acc = metR L l[i].f0 (metA L (l.take i) acc) := by
 unfold metA
 rw [take_last l i h, List.foldl_append]
 rfl
theorem good_facts {L : List Rk} (h : RankG.good L = true) : L.length ≤ 5 ∧ ∀ x ∈ L, x.f0.length ≤ 60 := by
 unfold RankG.good at h
 rw [Bool.and_eq_true, decide_eq_true_eq] at h
 refine ⟨h.1, fun x hx => ?_⟩
 have h2 := h.2
 rw [Bool.not_eq_true', List.any_eq_false] at h2
 have h3 := h2 x hx
 unfold RankG.bad Rank.rankOK at h3
 simp only [Bool.not_eq_true', Bool.not_eq_false', Bool.and_eq_true, decide_eq_true_eq, Bool.not_eq_true, Bool.not_eq_false] at h3
 exact h3.1
set_option maxRecDepth 100000 in
set_option maxHeartbeats 8000000 in
theorem allBest_yes (L : List Rk) (A : Option Addr) (c k : Nat) (w : World) (hr : Kd.C k77 w A L.length L) (hc : L.length ≤ c) (hg : RankG.good L = true) (hk : k ≤ 60) :
  Calls Try.prog 48 #[.slice A L.length c, .int .i64 (k : Int)] w fun e w' => ∃ v : Value, e = .returned (.tuple #[v, .bool true]) ∧ Kd.R k79 79 w' w.heap.size (fun _ => True) v (((metA L L []).mergeSort le).take k) ∧ Below w.heap.size w w' := by
 have HR := aM hr
 have HC := aM hc
 have HK := aM hk
 have HF := aM (good_facts hg)
 have HG := aM (RankG.calls A c L w hr hc)
 rw [hg] at HG
 have HWI := aM (fun W => Rank.within_calls (k : Int) 0 60 true W (decide_eq_true (by omega)))
 have hlen : (L.length : Int) ≤ 5 := by have := HF.out.1; omega
 clear hr hc hk hg
 go_enter Try.func48, Try.ntmps48
 go_upto_region 4 with (first | (go_at_call 58; go_loud ((with_reducible refine HG.out.mono ?_); rintro e w1 ⟨rfl, hb1⟩; have HB1 := aM hb1; clear hb1)) | (go_at_call 88; go_loud ((with_reducible refine (HWI.out _).mono ?_); rintro e w2 ⟨rfl, hb2⟩; have HB2 := aM (below_step HB1.out hb2); clear hb2)))
 obtain ⟨w3, hw3⟩ : ∃ W_, W_ = w2.alloc (.cells #[.slice A L.length c, .slice none 0 0] 123) := ⟨_, rfl⟩
 rw [← hw3]
 have HBB := aM (show w.heap.size ≤ w2.heap.size from HB2.out.size)
 have HM3 := aM (show w3.heap[w2.heap.size]? = some (.cells #[.slice A L.length c, .slice none 0 0] 123 (0, 0)) by rw [hw3]; exact Meet.at_new w2 _)
 have HB3 := aM (show Below w.heap.size w w3 by rw [hw3]; exact below_alloc HB2.out _)
 clear hw3
 go_wp2
 go_loopg [23] L.length (fun kq v23 w' => ∃ (i : Nat) (v : Value) (list : List Sc), v23 = .int .i64 (i : Int) ∧ i ≤ L.length ∧ kq = L.length - i ∧ Aside0 (w'.heap[w2.heap.size]? = some (.cells #[.slice A L.length c, v] 123 (0, 0))) ∧ Aside0 (Kd.R k79 79 w' w.heap.size (fun _ => True) v list) ∧ Aside0 (Below w.heap.size w w') ∧ Aside0 (list = metA L (L.take i) []) ∧ Aside0 (list.length ≤ i * 60))
 case atStart => exact ⟨0, _, [], rfl, Nat.zero_le _, rfl, HM3, ⟨Kd.R_nil _ _ _ _ _⟩, HB3, ⟨rfl⟩, ⟨Nat.zero_le _⟩⟩
 case round =>
  obtain ⟨i, v, list, rfl, hi, hkq, HM, HO, HB, HE, HLn⟩ := hrel
  have HKQ := aM hkq
  clear hkq
  by_cases hlt : i < L.length
  ·
   obtain ⟨ad, A0, c0, ead, hcell, hc0, hC0⟩ := at_T77 HR.out (i : Int) (by omega) (by omega)
   replace hcell := (HB.out.cell (World.block_lt_of_cell? w _ hcell)).trans hcell
   subst ead
   have HLT := aM hlt
   have hrd : rd_T77 L (i : Int) = L[i]'HLT.out := RankP.rd_atR L i hlt
   rw [Int.toNat_natCast, hrd] at hcell
   rw [hrd] at hc0 hC0
   obtain ⟨r, hrr⟩ : ∃ r, r = (L[i]'HLT.out).f0 := ⟨_, rfl⟩
   rw [← hrr] at hcell hc0 hC0
   have HRR := aM hrr
   have hr60 : r.length ≤ 60 := by rw [hrr]; exact HF.out.2 _ (List.getElem_mem hlt)
   have HR60 := aM hr60
   have HC0 := aM hC0
   have HCC := aM hc0
   have hi5 : (i : Int) ≤ 5 := by omega
   have hrl : (r.length : Int) ≤ 60 := by omega
   have hlt2 : (i : Int) < (L.length : Int) := by omega
   clear hrd hrr hr60 hC0 hlt hi
   go_wp2
   obtain ⟨w4, hw4⟩ : ∃ W_, W_ = wr.alloc (.cells #[.slice A0 r.length c0] 77) := ⟨_, rfl⟩
   rw [← hw4]
   have hb4 : Below wr.heap.size wr w4 := by rw [hw4]; exact below_alloc (Below.refl _ _) _
   have HM4 := aM ((hb4.block _ (blk_lt HM.out)).trans HM.out)
   have HO4 := aM (Kd.R_below HO.out hb4)
   have HB4 := aM (below_step HB.out hb4)
   clear hw4 hb4 hcell
   go_loopg [30] r.length (fun kq v30 w' => ∃ (j : Nat) (u : Value) (l2 : List Sc), v30 = .int .i64 (j : Int) ∧ j ≤ r.length ∧ kq = r.length - j ∧ Aside0 (w'.heap[w2.heap.size]? = some (.cells #[.slice (some ad) L.length c, u] 123 (0, 0))) ∧ Aside0 (Kd.R k79 79 w' w.heap.size (fun _ => True) u l2) ∧ Aside0 (Below w.heap.size w w') ∧ Aside0 (l2 = metR L (r.take j) list) ∧ Aside0 (l2.length ≤ i * 60 + j))
   case atStart => exact ⟨0, v, list, rfl, Nat.zero_le _, rfl, HM4, HO4, HB4, ⟨rfl⟩, ⟨by have := HLn.out; omega⟩⟩
   case round =>
    clear HM4 HO4 HB4
    obtain ⟨j, u, l2, rfl, hj, hkq2, HM5, HO5, HB5, HE5, HL5⟩ := hrel
    have HKQ2 := aM hkq2
    clear hkq2
    by_cases hjt : j < r.length
    ·
     obtain ⟨ad2, ead2, hs0, hs1⟩ := at_T79 (Kd.C_below HC0.out HB5.out) (j : Int) (by omega) (by omega)
     subst ead2
     have HJ := aM hjt
     have hrd2 : rd_T79 r (j : Int) = r[j]'HJ.out := RankP.rd_at r j hjt
     rw [Int.toNat_natCast, hrd2] at hs0 hs1
     have HST := aM (metR_step L r j HJ.out list)
     obtain ⟨x, hx⟩ : ∃ x, x = r[j]'HJ.out := ⟨_, rfl⟩
     rw [← hx] at hs0 hs1 HST
     have hj60 : (j : Int) ≤ 60 := by omega
     have hjt2 : (j : Int) < (r.length : Int) := by omega
     have HMC := aM (fun W (hW : W = wr.alloc (.cells #[.int .i64 x.f0, .int .i64 x.f1] 79)) => Meet.meet_calls w (some ad) c L w2.heap.size u l2 x.f0 W (by rw [hW]; exact below_alloc HB5.out _) HR.out HC.out (by have := HF.out.1; omega) (fun y hy => by have := HF.out.2 y hy; omega) HBB.out (by rw [hW]; exact blk_alloc HM5.out _) (by rw [hW]; exact Kd.R_alloc HO5.out _) (by have := HL5.out; omega))
     clear hrd2 hx hj hjt
     go_wp2_with (go_at_call 100; go_loud ((refine (HMC.out _ rfl).mono ?_); rintro e w6 ⟨rfl, v6, hm6, ho6, hb6⟩; have HM6 := aM hm6; have HO6 := aM ho6; have HB6 := aM hb6; clear hm6 ho6 hb6))
     go_roundg (r.length - (j + 1))
     case measure => have := HKQ2.out; have := HJ.out; omega
     case rel => exact ⟨j + 1, v6, _, by go_num, HJ.out, rfl, HM6, HO6, HB6, ⟨by rw [HST.out, HE5.out]⟩, ⟨by have := met_len L x.f0 l2; have := HL5.out; omega⟩⟩
    ·
     obtain rfl : j = r.length := by omega
     clear hj hjt
     go_wp2
     go_roundg (L.length - (i + 1))
     case measure => have := HKQ.out; have := HLT.out; omega
     case rel => exact ⟨i + 1, u, l2, by go_num, HLT.out, rfl, HM5, HO5, HB5, ⟨by rw [HE5.out, List.take_length, HE.out, HRR.out, metA_step L L i HLT.out]⟩, ⟨by have := HL5.out; have := HR60.out; omega⟩⟩
  ·
   obtain rfl : i = L.length := by omega
   have HBC := aM (fun W (hW : W = wr) => best_calls w (.slice A L.length c) w2.heap.size v list k W (by rw [hW]; exact HB.out) HBB.out (by rw [hW]; exact HM.out) (by rw [hW]; exact HO.out) (by have := HLn.out; have := HF.out.1; omega) (by have := HK.out; omega))
   have HWS := aM HB.out.size
   clear hi hlt
   go_wp2_with (go_at_call 101; go_loud ((refine (HBC.out _ rfl).mono ?_); rintro e w7 ⟨v7, rfl, ho7, hb7⟩; have HO7 := aM ho7; have HB7 := aM hb7; clear ho7 hb7))
   go_ret2
   refine ⟨_, rfl, ?_, HB7.out⟩
   have he := HE.out
   rw [List.take_length] at he
   rw [← he]
   exact Kd.R_lower HO7.out HWS.out
end Go.Proofs.Ytaomjndfjmfelaa.SoB
end

section
namespace Go.Proofs.Ytaomjndfjmfelaa.SoB
set_option linter.unusedVariables false
set_option linter.unusedSimpArgs false
open Go.RowKit Go.Sort Go.Proofs.Ytaomjndfjmfelaa.PQ Go.Proofs.YtaomjndfjmfelaaW.PrintWords Go.Proofs.YtaomjndfjmfelaaW.PrintLast Go.Proofs.Ytaomjndfjmfelaa.Pre
theorem le_ahead (x y : Sc) : le x y = !(Rank.ahead y x) := by
 unfold le Rank.ahead
 rw [lt_bf]
 congr 1
 exact decide_eq_decide.2 (by omega)
theorem ah_iff (y x : Sc) : Rank.ahead y x = true ↔ (x.f1 < y.f1 ∨ (x.f1 = y.f1 ∧ y.f0 < x.f0)) := by
 unfold Rank.ahead
 exact decide_eq_true_iff
theorem le_iff (x y : Sc) : le x y = true ↔ ¬ (x.f1 < y.f1 ∨ (x.f1 = y.f1 ∧ y.f0 < x.f0)) := by
 rw [le_ahead, Bool.not_eq_true', ← Bool.not_eq_true, ah_iff]
theorem le_trans {x y z : Sc} (h1 : le x y = true) (h2 : le y z = true) : le x z = true := by
 rw [le_iff] at *
 omega
theorem le_total (x y : Sc) : (le x y || le y x) = true := by
 rw [Bool.or_eq_true, le_iff, le_iff]
 omega
theorem le_anti {x y : Sc} (h1 : le x y = true) (h2 : le y x = true) : x = y := by
 rw [le_iff] at *
 have e1 : x.f1 = y.f1 := by omega
 have e0 : x.f0 = y.f0 := by omega
 cases x; cases y
 simp_all
/-- In order. -/
def Ord (l : List Sc) : Prop := l.Pairwise (fun a b => le a b = true)
theorem ord_sort (l : List Sc) : Ord (l.mergeSort le) := by
 have h := List.pairwise_mergeSort (le := le) (fun a b c h1 h2 => SoB.le_trans (x := a) (y := b) (z := c) h1 h2) (fun a b => SoB.le_total a b) l
 exact h
theorem ord_uniq : ∀ {l m : List Sc}, l.Perm m → Ord l → Ord m → l = m
 | [], m, h, _, _ => (List.Perm.nil_eq h)
 | a :: l, [], h, _, _ => by have := h.length_eq; simp at this
 | a :: l, b :: m, h, h1, h2 => by
  have hab : a = b := by
   have ha : a ∈ b :: m := h.subset (List.mem_cons_self ..)
   have hb : b ∈ a :: l := h.symm.subset (List.mem_cons_self ..)
   rcases List.mem_cons.1 ha with e | ha
   ·
    exact e
   ·
    rcases List.mem_cons.1 hb with e | hb
    ·
     exact e.symm
    ·
     exact le_anti ((List.pairwise_cons.1 h1).1 b hb) ((List.pairwise_cons.1 h2).1 a ha)
  subst hab
  rw [ord_uniq ((List.perm_cons a).1 h) (List.pairwise_cons.1 h1).2 (List.pairwise_cons.1 h2).2]
/-- One put to its place. -/
def ins (l : List Sc) (s : Sc) : List Sc := l.takeWhile (fun y => Rank.ahead y s) ++ s :: l.dropWhile (fun y => Rank.ahead y s)
theorem ins_cons (a : Sc) (l : List Sc) (s : Sc) : ins (a :: l) s = if Rank.ahead a s = true then a :: ins l s else s :: a :: l := by
 unfold ins
 rw [List.takeWhile_cons, List.dropWhile_cons]
 split <;> rfl
theorem ins_perm (s : Sc) : ∀ l : List Sc, (ins l s).Perm (s :: l)
 | [] => List.Perm.refl _
 | a :: l => by
  rw [ins_cons]
  split
  ·
   exact ((ins_perm s l).cons a).trans (List.Perm.swap s a l)
  ·
   exact List.Perm.refl _
theorem ins_ord (s : Sc) : ∀ l : List Sc, Ord l → Ord (ins l s)
 | [], _ => List.pairwise_cons.2 ⟨fun _ h => (by cases h), List.Pairwise.nil⟩
 | a :: l, h => by
  obtain ⟨h1, h2⟩ := List.pairwise_cons.1 h
  rw [ins_cons]
  split
  ·
   rename_i ha
   refine List.pairwise_cons.2 ⟨fun x hx => ?_, ins_ord s l h2⟩
   rcases List.mem_cons.1 ((ins_perm s l).subset hx) with e | hx
   ·
    rw [e, le_iff]
    rw [ah_iff] at ha
    omega
   ·
    exact h1 x hx
  ·
   rename_i ha
   have hs : le s a = true := by rw [le_ahead]; simpa using ha
   refine List.pairwise_cons.2 ⟨fun x hx => ?_, h⟩
   rcases List.mem_cons.1 hx with e | hx
   ·
    rw [e]; exact hs
   ·
    exact le_trans hs (h1 x hx)
/-- One put, once. -/
def putS (l : List Sc) (s : Sc) : List Sc := if l.any (Meet.isId s.f0) = true then l else ins l s
theorem putS_sort (acc : List Sc) (s : Sc) : putS (acc.mergeSort le) s = (if acc.any (Meet.isId s.f0) = true then acc else acc ++ [s]).mergeSort le := by
 have hp := List.mergeSort_perm acc le
 have ha : (acc.mergeSort le).any (Meet.isId s.f0) = acc.any (Meet.isId s.f0) := by
  rw [Bool.eq_iff_iff, List.any_eq_true, List.any_eq_true]
  constructor
  ·
   rintro ⟨x, hx, h⟩; exact ⟨x, hp.subset hx, h⟩
  ·
   rintro ⟨x, hx, h⟩; exact ⟨x, hp.symm.subset hx, h⟩
 unfold putS
 rw [ha]
 split
 ·
  rfl
 ·
  refine ord_uniq ?_ (ins_ord s _ (ord_sort acc)) (ord_sort _)
  exact ((ins_perm s _).trans (hp.cons s)).trans (((List.perm_append_singleton s acc).symm).trans (List.mergeSort_perm _ le).symm)
theorem met_sort (L : List Rk) (id : Int) (acc : List Sc) : (Meet.met L id acc).mergeSort le = putS (acc.mergeSort le) ⟨id, RankS.sumR id L⟩ := by
 rw [putS_sort]
 rfl
theorem ins_at (s : Sc) : ∀ (l : List Sc) (i : Nat), i ≤ l.length → (∀ (j : Nat) (h : j < l.length), j < i → Rank.ahead l[j] s = true) → (∀ h : i < l.length, Rank.ahead l[i] s = false) → ins l s = l.take i ++ s :: l.drop i
 | [], i, hi, _, _ => by
  have : i = 0 := by simpa using hi
  subst this
  rfl
 | a :: l, 0, hi, _, h2 => by
  have := h2 (by simp)
  rw [ins_cons, if_neg (by rw [show Rank.ahead a s = false from this]; decide)]
  rfl
 | a :: l, i + 1, hi, h1, h2 => by
  have h0 : Rank.ahead a s = true := h1 0 (by simp) (by omega)
  rw [ins_cons, if_pos h0, ins_at s l i (by simpa using hi) (fun j h hj => h1 (j + 1) (by simpa using h) (by omega)) (fun h => h2 (by simpa using h))]
  rfl
theorem put_ev (l : List Sc) (hl : l.length ≤ 1048576) (id sc : Int) : Evt (fun k => spec_l11Put.f k l id sc) (putS l ⟨id, sc⟩) := by
 unfold spec_l11Put.f putS
 have find : ∀ (m i : Nat), i + m = l.length → (∀ (j : Nat) (h : j < l.length), j < i → Rank.ahead l[j] ⟨id, sc⟩ = true) → Evt (fun k => spec_l11Put.l1 k l (i : Int) id sc) (ins l ⟨id, sc⟩) := by
  intro m
  induction m with
  | zero =>
   intro i hi hj
   have e := ins_at ⟨id, sc⟩ l i (by omega) hj (fun h => by omega)
   refine Evt.step (fun k => spec_l11Put.l1.eq_2 _ _ _ _ k) (Evt.neg (by omega) (Evt.pos (by omega) (Evt.pos (by omega) (Evt.bsome (Evt.pos (by simp; omega) (Evt.bsome (Evt.pos (by simp; omega) (Evt.bsome (Evt.bsome (Evt.pos (by simp; omega) ((Evt.const _).eq ?_)))))))))))
   rw [e, Int.toNat_natCast]
   simp
  | succ m ih =>
   intro i hi hj
   have hil : i < l.length := by omega
   refine Evt.step (fun k => spec_l11Put.l1.eq_2 _ _ _ _ k) (Evt.pos (by omega) (Evt.pos (by omega) ?_))
   rw [RankP.rd_at l i hil, show spec_l11Less.f l[i].f0 l[i].f1 id sc = some (Rank.ahead l[i] ⟨id, sc⟩) from RankP.less_ev l[i] ⟨id, sc⟩]
   refine Evt.bsome ?_
   cases ha : Rank.ahead l[i] ⟨id, sc⟩ with
   | true =>
    refine Evt.pos rfl ?_
    rw [w64 (n := (i : Int) + 1) (by omega) (by omega), show (i : Int) + 1 = ((i + 1 : Nat) : Int) by omega]
    refine ih (i + 1) (by omega) (fun j h hji => ?_)
    rcases Nat.lt_or_ge j i with h3 | h3
    ·
     exact hj j h h3
    ·
     obtain rfl : j = i := by omega
     exact ha
   | false =>
    have e := ins_at ⟨id, sc⟩ l i (by omega) hj (fun _ => ha)
    refine Evt.neg (by decide) (Evt.pos (by omega) (Evt.bsome (Evt.pos (by simp; omega) (Evt.bsome (Evt.pos (by simp; omega) (Evt.bsome (Evt.bsome (Evt.pos (by simp; omega) ((Evt.const _).eq ?_)))))))))
    rw [e, Int.toNat_natCast]
    simp
 have key : ∀ (m i : Nat), i + m = l.length → (l.take i).any (Meet.isId id) = false → Evt (fun k => spec_l11Put.l0 k l l (l.length : Int) (i : Int) id sc) (if l.any (Meet.isId id) = true then l else ins l ⟨id, sc⟩) := by
  intro m
  induction m with
  | zero =>
   intro i hi ha
   rw [List.take_of_length_le (by omega)] at ha
   rw [if_neg (by rw [ha]; decide)]
   exact Evt.step (fun k => spec_l11Put.l0.eq_2 _ _ _ _ _ _ k) (Evt.neg (by omega) (find l.length 0 (by omega) (fun j h hj => absurd hj (Nat.not_lt_zero _))))
  | succ m ih =>
   intro i hi ha
   have hil : i < l.length := by omega
   refine Evt.step (fun k => spec_l11Put.l0.eq_2 _ _ _ _ _ _ k) (Evt.pos (by omega) (Evt.pos (by omega) (Evt.pos (by omega) ?_)))
   rw [RankP.rd_at l i hil]
   by_cases he : l[i].f0 = id
   ·
    refine Evt.pos he ((Evt.const _).eq ?_)
    rw [if_pos]
    rw [List.any_eq_true]
    exact ⟨l[i], List.getElem_mem hil, by unfold Meet.isId; rw [he]; exact beq_self_eq_true _⟩
   ·
    refine Evt.neg he ?_
    rw [w64 (n := (i : Int) + 1) (by omega) (by omega), show (i : Int) + 1 = ((i + 1 : Nat) : Int) by omega]
    refine ih (i + 1) (by omega) ?_
    rw [take_last l i hil, List.any_append, ha, Bool.false_or]
    simp [Meet.isId, he]
 exact key l.length 0 (by omega) rfl
theorem first_ev (l : List Sc) (hl : l.length ≤ 1048576) (k : Nat) (hk : k ≤ 60) : spec_l11First.f l (k : Int) = some (l.take k) := by
 unfold spec_l11First.f
 by_cases h : (l.length : Int) > (k : Int)
 ·
  rw [if_pos h, if_pos (by omega), if_pos (by omega), Option.bind_some, Option.bind_some, if_pos (by simp; omega), Int.toNat_natCast, List.nil_append]
 ·
  rw [if_neg h, Option.bind_some, if_pos (by simp; omega), List.nil_append, List.take_of_length_le (by omega)]
/-- All put, one by one. -/
def accR (L : List Rk) (l : List Sc) (acc : List Sc) : List Sc := l.foldl (fun a s => putS a ⟨s.f0, RankS.sumR s.f0 L⟩) acc
def accA (L : List Rk) (l : List Rk) (acc : List Sc) : List Sc := l.foldl (fun a r => accR L r.f0 a) acc
theorem accR_sort (L : List Rk) : ∀ (l : List Sc) (acc : List Sc), accR L l (acc.mergeSort le) = (metR L l acc).mergeSort le
 | [], acc => rfl
 | s :: l, acc => by
  show accR L l (putS (acc.mergeSort le) ⟨s.f0, RankS.sumR s.f0 L⟩) = (metR L l (Meet.met L s.f0 acc)).mergeSort le
  rw [← met_sort, accR_sort L l]
theorem accA_sort (L : List Rk) : ∀ (l : List Rk) (acc : List Sc), accA L l (acc.mergeSort le) = (metA L l acc).mergeSort le
 | [], acc => rfl
 | r :: l, acc => by
  show accA L l (accR L r.f0 (acc.mergeSort le)) = (metA L l (metR L r.f0 acc)).mergeSort le
  rw [accR_sort, accA_sort L l]
theorem putS_len (l : List Sc) (s : Sc) : (putS l s).length ≤ l.length + 1 := by
 unfold putS
 split
 ·
  omega
 ·
  have := (ins_perm s l).length_eq
  rw [List.length_cons] at this
  omega
theorem accR_len (L : List Rk) : ∀ (l : List Sc) (acc : List Sc), (accR L l acc).length ≤ acc.length + l.length
 | [], acc => Nat.le_refl _
 | s :: l, acc => by
  have h1 := accR_len L l (putS acc ⟨s.f0, RankS.sumR s.f0 L⟩)
  have h2 := putS_len acc ⟨s.f0, RankS.sumR s.f0 L⟩
  show (accR L l (putS acc ⟨s.f0, RankS.sumR s.f0 L⟩)).length ≤ _
  rw [List.length_cons]
  omega
theorem all_1 (L : List Rk) (hL : L.length ≤ 5) (hx : ∀ x ∈ L, x.f0.length ≤ 60) (k1 : Int) (l : List Sc) (hl : l.length ≤ 60) (x10 : List Rk) (x11 x12 : Int) (r : List Sc) : ∀ (n j : Nat) (acc : List Sc), j + n = l.length → acc.length ≤ 1000 + j →
  Evt (fun k => spec_l11All.l0 k L k1 (accR L (l.drop j) acc) x10 x11 (wrap64 (x12 + 1))) r → Evt (fun k => spec_l11All.l1 k L k1 acc x10 x11 x12 l (l.length : Int) (j : Int)) r := by
 intro n
 induction n with
 | zero =>
  intro j acc hj ha h
  rw [List.drop_eq_nil_of_le (by omega)] at h
  exact Evt.step (fun k => spec_l11All.l1.eq_2 _ _ _ _ _ _ _ _ _ k) (Evt.neg (by omega) h)
 | succ n ih =>
  intro j acc hj ha h
  have hjl : j < l.length := by omega
  refine Evt.step (fun k => spec_l11All.l1.eq_2 _ _ _ _ _ _ _ _ _ k) (Evt.pos (by omega) (Evt.pos (by omega) (Evt.pos (by omega) ?_)))
  rw [RankP.rd_at l j hjl]
  refine Evt.bind (RankS.spec_l11Sum_ev l[j].f0 L (by omega) (fun x h => by have := hx x h; omega)) (Evt.bind (put_ev acc (by omega) l[j].f0 _) ?_)
  rw [w64 (n := (j : Int) + 1) (by omega) (by omega), show (j : Int) + 1 = ((j + 1 : Nat) : Int) by omega]
  refine ih (j + 1) _ (by omega) (by have := putS_len acc ⟨l[j].f0, RankS.sumR l[j].f0 L⟩; omega) ?_
  rw [List.drop_eq_getElem_cons hjl] at h
  exact h
theorem all_ev (L : List Rk) (hL : L.length ≤ 5) (hx : ∀ x ∈ L, x.f0.length ≤ 60) (k1 : Nat) (hk : k1 ≤ 60) : Evt (fun k => spec_l11All.f k L (k1 : Int)) (((metA L L []).mergeSort le).take k1) := by
 unfold spec_l11All.f
 have key : ∀ (m i : Nat) (acc : List Sc), i + m = L.length → acc.length ≤ i * 60 → Evt (fun k => spec_l11All.l0 k L (k1 : Int) acc L (L.length : Int) (i : Int)) ((accA L (L.drop i) acc).take k1) := by
  intro m
  induction m with
  | zero =>
   intro i acc hi ha
   rw [List.drop_eq_nil_of_le (by omega)]
   refine Evt.step (fun k => spec_l11All.l0.eq_2 _ _ _ _ _ _ k) (Evt.neg (by omega) ?_)
   rw [first_ev acc (by omega) k1 hk]
   exact Evt.bsome (Evt.const _)
  | succ m ih =>
   intro i acc hi ha
   have hil : i < L.length := by omega
   refine Evt.step (fun k => spec_l11All.l0.eq_2 _ _ _ _ _ _ k) (Evt.pos (by omega) (Evt.pos (by omega) (Evt.pos (by omega) ?_)))
   rw [RankP.rd_atR L i hil]
   have h60 := hx _ (List.getElem_mem hil)
   refine all_1 L hL hx (k1 : Int) L[i].f0 h60 L (L.length : Int) (i : Int) _ L[i].f0.length 0 acc (by omega) (by omega) ?_
   rw [w64 (n := (i : Int) + 1) (by omega) (by omega), show (i : Int) + 1 = ((i + 1 : Nat) : Int) by omega, List.drop_zero, List.drop_eq_getElem_cons hil]
   exact ih (i + 1) _ (by omega) (by have := accR_len L L[i].f0 acc; omega)
 have h := key L.length 0 [] (by omega) (Nat.zero_le _)
 rw [List.drop_zero, show ([] : List Sc) = ([] : List Sc).mergeSort le by simp, accA_sort] at h
 simpa using h
/-- What AllBest answers. -/
def ansAB (L : List Rk) (k : Int) : List Sc × Bool := if RankG.good L = true ∧ (0 ≤ k ∧ k ≤ 60) then (((metA L L []).mergeSort le).take k.toNat, true) else ([], false)
theorem ansAB_len (L : List Rk) (k : Int) : (ansAB L k).1.length ≤ 1048576 := by
 unfold ansAB
 split
 ·
  rename_i h
  show ((((metA L L []).mergeSort le).take k.toNat).length) ≤ 1048576
  rw [List.length_take]
  have := h.2.2
  omega
 ·
  exact Nat.zero_le _
theorem allBestS_ev (L : List Rk) (hL : L.length ≤ 1048576) (hl : ∀ x ∈ L, x.f0.length ≤ 1048576) (k : Int) : Evt (fun n => spec_AllBest.f n L k) (ansAB L k) := by
 unfold spec_AllBest.f ansAB
 refine Evt.bind (RankP.spec_ev L hL hl) ?_
 by_cases hg : RankG.good L = true
 ·
  refine Evt.pos hg ?_
  rw [RankP.in_ev]
  refine Evt.bsome ?_
  by_cases hk : 0 ≤ k ∧ k ≤ 60
  ·
   rw [if_pos ⟨hg, hk⟩]
   obtain ⟨n, rfl⟩ := Int.eq_ofNat_of_zero_le hk.1
   obtain ⟨h5, h60⟩ := good_facts hg
   exact Evt.pos (decide_eq_true hk) (Evt.bind (all_ev L h5 h60 n (by omega)) (Evt.const _))
  ·
   rw [if_neg (fun h => hk h.2)]
   exact Evt.neg (by rw [decide_eq_true_eq]; exact hk) (Evt.const _)
 ·
  rw [if_neg (fun h => hg h.1)]
  exact Evt.neg hg (Evt.const _)
end Go.Proofs.Ytaomjndfjmfelaa.SoB
end

section
namespace Go.Proofs.Ytaomjndfjmfelaa.SoB
set_option linter.unusedVariables false
set_option linter.unusedSimpArgs false
open Go.RowKit Go.Shelf Go.Lib Go.Sort Go.Proofs.Ytaomjndfjmfelaa.PQ Go.Proofs.YtaomjndfjmfelaaW.PrintWords Go.Proofs.YtaomjndfjmfelaaW.PrintLast Go.Proofs.YtaomjndfjmfelaaW.PrintMore Go.Proofs.Ytaomjndfjmfelaa.Pre
set_option maxRecDepth 100000 in
set_option maxHeartbeats 2000000 in
theorem allBest_no (L : List Rk) (A : Option Addr) (c : Nat) (k : Int) (w : World) (hr : Kd.C k77 w A L.length L) (hc : L.length ≤ c) (h : ¬ (RankG.good L = true ∧ (0 ≤ k ∧ k ≤ 60))) :
  Calls Try.prog 48 #[.slice A L.length c, .int .i64 k] w fun e w' => ∃ v : Value, e = .returned (.tuple #[v, .bool false]) ∧ Kd.R k79 79 w' w.heap.size (fun _ => True) v [] ∧ Below w.heap.size w w' := by
 have HG := aM (RankG.calls A c L w hr hc)
 by_cases hg : RankG.good L = true
 ·
  rw [hg] at HG
  have HWI := aM (fun W => Rank.within_calls k 0 60 false W (decide_eq_false (fun h2 => h ⟨hg, h2⟩)))
  clear hr hc hg h
  go_enter Try.func48, Try.ntmps48
  go_wp2_with (first | (go_at_call 58; go_loud ((with_reducible refine HG.out.mono ?_); rintro e w1 ⟨rfl, hb1⟩; have HB1 := aM hb1; clear hb1)) | (go_at_call 88; go_loud ((with_reducible refine (HWI.out _).mono ?_); rintro e w2 ⟨rfl, hb2⟩; have HB2 := aM (below_step HB1.out hb2); clear hb2)))
  go_ret2
  exact ⟨_, rfl, Kd.R_nil _ _ _ _ _, HB2.out⟩
 ·
  rw [Bool.not_eq_true] at hg
  rw [hg] at HG
  clear hr hc hg h
  go_enter Try.func48, Try.ntmps48
  go_wp2_with (go_at_call 58; go_loud ((with_reducible refine HG.out.mono ?_); rintro e w1 ⟨rfl, hb1⟩; have HB1 := aM hb1; clear hb1))
  go_ret2
  exact ⟨_, rfl, Kd.R_nil _ _ _ _ _, HB1.out⟩
/-- impl.AllBest. -/
theorem allBestI (L : List Rk) (A : Option Addr) (c : Nat) (k : Int) (w : World) (hr : Kd.C k77 w A L.length L) (hc : L.length ≤ c) :
  Calls Try.prog 48 #[.slice A L.length c, .int .i64 k] w fun e w' => ∃ v : Value, e = .returned (.tuple #[v, .bool (ansAB L k).2]) ∧ Kd.R k79 79 w' w.heap.size (fun _ => True) v (ansAB L k).1 ∧ Below w.heap.size w w' := by
 unfold ansAB
 by_cases h : RankG.good L = true ∧ (0 ≤ k ∧ k ≤ 60)
 ·
  rw [if_pos h]
  obtain ⟨n, rfl⟩ := Int.eq_ofNat_of_zero_le h.2.1
  rw [Int.toNat_natCast]
  exact allBest_yes L A c n w hr hc h.1 (by omega)
 ·
  rw [if_neg h]
  exact allBest_no L A c k w hr hc h
end Go.Proofs.Ytaomjndfjmfelaa.SoB
end

section
namespace Go.Proofs.Ytaomjndfjmfelaa.LwAB
set_option linter.unusedVariables false
set_option linter.unusedSimpArgs false
open Go.RowKit Go.Proofs.Ytaomjndfjmfelaa.PQ Go.Proofs.YtaomjndfjmfelaaW.PrintWords Go.Proofs.YtaomjndfjmfelaaW.PrintLast Go.Proofs.YtaomjndfjmfelaaW.PrintMore Go.Proofs.Ytaomjndfjmfelaa.Pre Go.Proofs.Ytaomjndfjmfelaa.Shp Go.Proofs.Ytaomjndfjmfelaa.LwK
theorem reads_q {W : World} {base : Nat} {ok : Nat → Prop} {Ag : Option Addr} {n cg : Nat} {q : List SoB.Sc1} (h : Kd.R k79 79 W base ok (.slice Ag n cg) q) : n = q.length ∧ Kd.C k79 W Ag q.length q := ⟨(Kd.R_reads' h).1, (Kd.R_reads' h).2.2⟩
set_option maxRecDepth 100000 in
set_option maxHeartbeats 8000000 in
theorem calls (A : Option Addr) (c : Nat) (l : List RankT.Rl) (a : Int) (w : World) (hr : Kd.C k119 w A l.length l) (hc : l.length ≤ c) (hw : l.length ≤ 9223372036854775807 ∧ ∀ x ∈ l, x.f0.length ≤ 9223372036854775807) :
  Calls Try.prog 8 #[.slice A l.length c, .int .i64 a] w fun e w' => e = .returned (.bool true) ∧ Below w.heap.size w w' := by
 have HR := aM hr
 have HC := aM hc
 obtain ⟨r, hev, hsm⟩ := RankT.sz_ev l hw.1 hw.2
 obtain ⟨k0, hk0⟩ := hev.ex
 have E0 := aM hk0
 by_cases hneg : r < 0
 ·
  have hnb : decide (r < 0) = true := decide_eq_true hneg
  clear hr hc hw hsm hk0 hev
  go_enter Try.func8, Try.ntmps8
  go_wp2_with (first | (go_at_call 45; go_loud ((with_reducible refine (laws_szRankingS.calls k0 A c l 1048576 r _ HR.out HC.out E0.out).mono ?_); rintro e w1 ⟨rfl, hb⟩; have HA1 := aM hb; clear hb)))
  go_ret
  exact ⟨rfl, HA1.out⟩
 ·
  have hnb : decide (r < 0) = false := decide_eq_false hneg
  have hs := hsm (by omega)
  have hsl := RankT.map_small l hs.1 hs.2
  obtain ⟨k1, hk1⟩ := (RankT.toR_ev l hs.1 hs.2).ex
  obtain ⟨lR, hlR⟩ : ∃ lR, lR = l.map RankT.cvR := ⟨_, rfl⟩
  rw [← hlR] at hsl hk1
  obtain ⟨k2, hk2⟩ := (SoB.allBestS_ev lR hsl.1 hsl.2 a).ex
  have hpl : (SoB.ansAB lR a).1.length ≤ 1048576 := SoB.ansAB_len lR a
  obtain ⟨p, hp⟩ : ∃ p, p = (SoB.ansAB lR a).1 := ⟨_, rfl⟩
  obtain ⟨b, hb⟩ : ∃ b, b = (SoB.ansAB lR a).2 := ⟨_, rfl⟩
  have hpb : SoB.ansAB lR a = (p, b) := by rw [hp, hb]
  have hk2 : spec_AllBest.f k2 lR a = some (p, b) := hk2.trans (by rw [hpb])
  rw [← hp] at hpl
  obtain ⟨k3, hk3⟩ := (RankT.eqC_ev p p hpl rfl).ex
  obtain ⟨k4, hk4⟩ := (RankT.eqR_ev lR hsl.1 hsl.2).ex
  obtain ⟨k5, hk5⟩ := (SoB.mark_evC p 1 (by omega) hpl).ex
  obtain ⟨k6, hk6⟩ := (SoB.held_evC p.length 1 (by omega) hpl).ex
  obtain ⟨q, hq⟩ : ∃ q, q = SoB.mkC p.length 1 := ⟨_, rfl⟩
  have hql : q.length = p.length := by rw [hq, SoB.mkC_len]
  obtain ⟨z, hz⟩ : ∃ z : Int, z = ((1 + 2 * p.length : Nat) : Int) := ⟨_, rfl⟩
  rw [← hq, ← hz, show ((1 : Nat) : Int) = 1 from rfl] at hk5 hk6
  have hzb : decide (z < 0) = false := decide_eq_false (by omega)
  have E1 := aM hk1
  have E2 := aM hk2
  have E3 := aM hk3
  have E4 := aM hk4
  have E5 := aM hk5
  have E6 := aM hk6
  have EP := aM hpb
  have ESL := aM hsl.1
  have ESX := aM hsl.2
  have EQ := aM hql
  clear hr hc hw hsm hk0 hev hneg hs hsl hlR hk1 hk2 hpl hp hb hpb hk3 hk4 hk5 hk6 hq hql hz
  go_enter Try.func8, Try.ntmps8
  go_upto_region 6 with (first | (go_at_call 45; go_loud ((with_reducible refine (laws_szRankingS.calls k0 A c l 1048576 r _ HR.out HC.out E0.out).mono ?_); rintro e w1 ⟨rfl, hb⟩; have HA1 := aM hb; clear hb)) | (go_at_call 47; go_loud ((with_reducible refine (laws_toRankingS.calls k1 A c l lR _ (Kd.C_below HR.out HA1.out) HC.out E1.out).mono ?_); rintro e w2 ⟨v2, rfl, ho, hb⟩; have HA2 := aM (below_step HA1.out hb); clear HA1; obtain ⟨A2, c2, rfl, hl2, hC2⟩ := Kd.S_reads ho; have HC2 := aM hC2; have HL2 := aM hl2; clear ho hb hC2 hl2)) | (go_at_call 46; go_loud ((with_reducible refine (spec_AllBest.calls k2 A2 c2 lR a p b _ HC2.out HL2.out E2.out).mono ?_); rintro e w3 ⟨v3, rfl, ho, hb⟩; have HA3 := aM (below_step HA2.out hb); clear HA2; obtain ⟨As, cs, rfl, hls, hCs⟩ := Kd.R_reads ho; have HCS := aM hCs; have HLS := aM hls; clear ho hb hCs hls)))
  go_upto_region 10 with (first | (go_at_call 47; go_loud ((with_reducible refine (laws_toRankingS.calls k1 A c l lR _ (Kd.C_below HR.out HA3.out) HC.out E1.out).mono ?_); rintro e w4 ⟨v4, rfl, ho, hb⟩; have HA4 := aM (below_step HA3.out hb); have HS4 := aM hb; obtain ⟨Ax, cx, rfl, hlx, hCx⟩ := Kd.S_reads ho; have HLX := aM hlx; have HX4 := aM (R_in (Kd.S_R ho)); clear ho hb hCx hlx)) | (go_at_call 48; go_loud (have hcal := SoB.allBestI lR Ax cx a w4 (Kd.R_reads' HX4.out).2.2 HLX.out; rw [EP.out] at hcal; (with_reducible refine (hcal).mono ?_); rintro e w5 ⟨vg, rfl, ho, hb⟩; have HG5 := aM (R_in ho); have HA5 := aM (below_step HA4.out hb); have HS5 := aM (below_step HS4.out hb); have HX5 := aM (Kd.R_below HX4.out hb); obtain ⟨Ag, cg, rfl, hlg, hCg⟩ := Kd.R_reads ho; have HLG := aM hlg; clear ho hb hCg hlg hcal)) | (go_at_call 49; go_loud ((with_reducible refine (laws_eqScoredS.calls k3 Ag cg p As cs p true _ (Kd.R_reads' HG5.out).2.2 HLG.out (Kd.C_below HCS.out HS5.out) HLS.out E3.out).mono ?_); rintro e w6 ⟨rfl, hb⟩; have HA6 := aM (below_step HA5.out hb); have HS6 := aM (below_step HS5.out hb); have HX6 := aM (Kd.R_below HX5.out hb); have HG6 := aM (Kd.R_below HG5.out hb); clear HA5 HS5 HX5 HG5; clear hb)))
  go_upto_region 14 with (first | (go_at_call 47; go_loud ((with_reducible refine (laws_toRankingS.calls k1 A c l lR _ (Kd.C_below HR.out HA6.out) HC.out E1.out).mono ?_); rintro e w7 ⟨v7, rfl, ho, hb⟩; have HA7 := aM (below_step HA6.out hb); have HS7 := aM (below_step HS6.out hb); have HX7 := aM (Kd.R_below HX6.out hb); have HG7 := aM (Kd.R_below HG6.out hb); clear HA6 HS6 HX6 HG6; obtain ⟨A7, c7, rfl, hl7, hC7⟩ := Kd.S_reads ho; have HC7 := aM hC7; have HL7 := aM hl7; clear ho hb hC7 hl7)) | (go_at_call 50; go_loud ((with_reducible refine (laws_eqRankingS.calls k4 Ax cx lR A7 c7 lR true _ (Kd.R_reads' HX7.out).2.2 HLX.out HC7.out HL7.out E4.out).mono ?_); rintro e w8 ⟨rfl, hb⟩; have HA8 := aM (below_step HA7.out hb); have HS8 := aM (below_step HS7.out hb); have HX8 := aM (Kd.R_below HX7.out hb); have HG8 := aM (Kd.R_below HG7.out hb); clear HA7 HS7 HX7 HG7; clear hb)) | (go_at_call 51; go_loud (have hcal := MkR.mkR_calls w3.heap.size _ (.slice Ax lR.length cx) lR 1 w8 HX8.out ESL.out ESX.out (by decide); rw [show ((1 : Nat) : Int) = 1 from rfl] at hcal; (with_reducible refine (hcal).mono ?_); rintro e w9 ⟨⟨r9, hr0, hr1, rfl⟩, hm⟩; have HA9 := aM (hm.under HA8.out (below_size HA8.out) (fun k hk => Nat.le_trans (below_size HA3.out) hk.1)); have HS9 := aM (hm.under HS8.out (below_size HS8.out) (fun k hk => hk.1)); have HG9 := aM (Kd.R_kept HG8.out hm.2.1 (fun k hk hs => Nat.lt_irrefl _ (Nat.lt_of_lt_of_le hs.2 hk.1))); have hr9b : decide (r9 < 0) = false := decide_eq_false (by omega); clear hm hr0 hr1 hcal HX8 HA8 HS8 HG8)))
  go_upto_region 24 with (first | (go_at_call 49; go_loud ((with_reducible refine (laws_eqScoredS.calls k3 Ag cg p As cs p true _ (Kd.R_reads' HG9.out).2.2 HLG.out (Kd.C_below HCS.out HS9.out) HLS.out E3.out).mono ?_); rintro e w10 ⟨rfl, hb⟩; have HA10 := aM (below_step HA9.out hb); have HS10 := aM (below_step HS9.out hb); have HG10 := aM (Kd.R_below HG9.out hb); clear HA9 HS9 HG9; clear hb)) | (go_at_call 52; go_loud ((with_reducible refine (laws_markScoredS.calls k5 (fun k_ => some k_ = (Value.slice Ag p.length cg).ownBlock) (.slice Ag p.length cg) p 1 z q w _ HA10.out (Kd.R_tight rfl (Kd.R_lower HG10.out (below_size HA4.out))) E5.out).mono ?_); rintro e w11 ⟨rfl, hy, hb, hkp⟩; have HA11 := aM (under2 HA10.out (below_size HA10.out) hkp HA10.out hb (fun k hk => Nat.le_trans (below_size HA4.out) (HG10.out.1 k hk.symm).1)); have HS11 := aM (under2 HS10.out (below_size HS10.out) hkp HA10.out hb (fun k hk => Nat.le_trans (below_size HS4.out) (HG10.out.1 k hk.symm).1)); have HQ11 := aM (Kd.R_mono (ok' := fun _ => True) hy (fun _ _ => trivial)); clear hy hb hkp HA10 HS10 HG10)) | (go_at_call 53; go_loud (have hcal := laws_heldScoredS.calls k6 Ag cg q 1 z w11 (reads_q HQ11.out).2 (by rw [EQ.out]; exact HLG.out) E6.out; rw [EQ.out] at hcal; (with_reducible refine (hcal).mono ?_); rintro e w12 ⟨rfl, hd⟩; have HA12 := aM (below_step HA11.out hd.below); have HS12 := aM (below_step HS11.out hd.below); have HQ12 := aM (Kd.R_below HQ11.out hd.below); clear HA11 HS11 HQ11; clear hd hcal)))
  go_wp2_with (first | (go_at_call 47; go_loud ((with_reducible refine (laws_toRankingS.calls k1 A c l lR _ (Kd.C_below HR.out HA12.out) HC.out E1.out).mono ?_); rintro e w13 ⟨v13, rfl, ho, hb⟩; have HA13 := aM (below_step HA12.out hb); have HS13 := aM (below_step HS12.out hb); have HQ13 := aM (Kd.R_below HQ12.out hb); clear HA12 HS12 HQ12; obtain ⟨A13, c13, rfl, hl13, hC13⟩ := Kd.S_reads ho; have HC13 := aM hC13; have HL13 := aM hl13; clear ho hb hC13 hl13)) | (go_at_call 48; go_loud (have hcal := SoB.allBestI lR A13 c13 a w13 HC13.out HL13.out; rw [EP.out] at hcal; (with_reducible refine (hcal).mono ?_); rintro e w14 ⟨vh, rfl, ho, hb⟩; have HA14 := aM (below_step HA13.out hb); have HS14 := aM (below_step HS13.out hb); have HQ14 := aM (Kd.R_below HQ13.out hb); clear HA13 HS13 HQ13; obtain ⟨Ah, ch, rfl, hlh, hCh⟩ := Kd.R_reads ho; have HCH := aM hCh; have HLH := aM hlh; clear ho hb hCh hlh hcal)) | (go_at_call 49; go_loud ((with_reducible refine (laws_eqScoredS.calls k3 Ah ch p As cs p true _ HCH.out HLH.out (Kd.C_below HCS.out HS14.out) HLS.out E3.out).mono ?_); rintro e w15 ⟨rfl, hb⟩; have HA15 := aM (below_step HA14.out hb); have HS15 := aM (below_step HS14.out hb); have HQ15 := aM (Kd.R_below HQ14.out hb); clear HA14 HS14 HQ14; clear hb)) | (go_at_call 53; go_loud (have hcal := laws_heldScoredS.calls k6 Ag cg q 1 z w15 (reads_q HQ15.out).2 (by rw [EQ.out]; exact HLG.out) E6.out; rw [EQ.out] at hcal; (with_reducible refine (hcal).mono ?_); rintro e w16 ⟨rfl, hd⟩; have HA16 := aM (below_step HA15.out hd.below); have HS16 := aM (below_step HS15.out hd.below); have HQ16 := aM (Kd.R_below HQ15.out hd.below); clear HA15 HS15 HQ15; clear hd hcal)))
  go_ret
  exact ⟨rfl, HA16.out⟩
end Go.Proofs.Ytaomjndfjmfelaa.LwAB
end

section
namespace Go.Proofs.Ytaomjndfjmfelaa.PQ
open Go.RowKit Go.Proofs.YtaomjndfjmfelaaW.PrintWords Go.Proofs.YtaomjndfjmfelaaW.PrintLast Go.Proofs.YtaomjndfjmfelaaW.PrintMore
attribute [local go_sem] max2_int min2_int max_two min_two max_three min_three max_four min_four
set_option linter.unusedVariables false
set_option linter.unusedSimpArgs false
def laws_FnExactAllBest.Pure : Prop := True
theorem laws_FnExactAllBest.walk (P : laws_FnExactAllBest.Pure) (A0 : Option Addr) (c0 : Nat) (l0 : List (S119)) (a1 : Int) (w : World) (hr0 : Kd.C k119 w A0 l0.length l0) (hc0 : l0.length ≤ c0) (w0 : (l0.length ≤ maxLen ∧ ∀ x_ ∈ l0, (x_.f0.length ≤ maxLen ∧ ∀ xx_ ∈ x_.f0, ((Lit.int .i64 xx_.f0).wf = true ∧ (Lit.int .i64 xx_.f1).wf = true)))) (w1 : (Lit.int .i64 a1).wf = true) :
  Calls Try.prog 8 #[.slice A0 l0.length c0, .int .i64 a1] w fun e w' => e = .returned (.bool true) ∧ Below w.heap.size w w' :=
 LwAB.calls A0 c0 l0 a1 w hr0 hc0 ⟨w0.1, fun x hx => (w0.2 x hx).1⟩

end Go.Proofs.Ytaomjndfjmfelaa.PQ
end

section
namespace Go.Proofs.Ytaomjndfjmfelaa.Pure
open Go.Proofs.Ytaomjndfjmfelaa.PQ
theorem FnExactAllBest : laws_FnExactAllBest.Pure := trivial
end Go.Proofs.Ytaomjndfjmfelaa.Pure
end

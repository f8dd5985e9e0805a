/- Several texts in one: what the claim's last text rests on. No conditions. -/
import Derived.Test.YtaomjndfjmfelaaMTh11
import Derived.Test.YtaomjndfjmfelaaMTh9
import Derived.Test.YtaomjndfjmfelaaMTh6
import Derived.Test.YtaomjndfjmfelaaMTh7
import Derived.Test.YtaomjndfjmfelaaMTh4
section
namespace Go.Proofs.Ytaomjndfjmfelaa.SoB
set_option linter.unusedVariables false
set_option linter.unusedSimpArgs false
open Go.RowKit Go.Shelf Go.Lib Go.Sort Go.Proofs.Ytaomjndfjmfelaa.PQ Go.Proofs.YtaomjndfjmfelaaW.PrintWords Go.Proofs.YtaomjndfjmfelaaW.PrintLast Go.Proofs.YtaomjndfjmfelaaW.PrintMore Go.Proofs.Ytaomjndfjmfelaa.Pre
abbrev Rk := S77
/-- Those met in one list, in all of them. -/
def metR (L : List Rk) (l : List Sc) (acc : List Sc) : List Sc := l.foldl (fun a s => Meet.met L s.f0 a) acc
def metA (L : List Rk) (l : List Rk) (acc : List Sc) : List Sc := l.foldl (fun a r => metR L r.f0 a) acc
theorem met_len (L : List Rk) (id : Int) (acc : List Sc) : (Meet.met L id acc).length ≤ acc.length + 1 := by
 unfold Meet.met
 split
 ·
  omega
 ·
  simp
theorem take_last {α : Type} (l : List α) (i : Nat) (h : i < l.length) : l.take (i + 1) = l.take i ++ [l[i]] := List.take_succ_eq_append_getElem h
theorem metR_step (L : List Rk) (l : List Sc) (j : Nat) (h : j < l.length) (acc : List Sc) : metR L (l.take (j + 1)) acc = Meet.met L l[j].f0 (metR L (l.take j) acc) := by
 unfold metR
 rw [take_last l j h, List.foldl_append]
 rfl
theorem metA_step (L : List Rk) (l : List Rk) (i : Nat) (h : i < l.length) (acc : List Sc) : metA L (l.take (i + 1)) acc = metR L l[i].f0 (metA L (l.take i) acc) := by
 unfold metA
 rw [take_last l i h, List.foldl_append]
 rfl
theorem good_facts {L : List Rk} (h : RankG.good L = true) : L.length ≤ 5 ∧ ∀ x ∈ L, x.f0.length ≤ 60 := by
 unfold RankG.good at h
 rw [Bool.and_eq_true, decide_eq_true_eq] at h
 refine ⟨h.1, fun x hx => ?_⟩
 have h2 := h.2
 rw [Bool.not_eq_true', List.any_eq_false] at h2
 have h3 := h2 x hx
 unfold RankG.bad Rank.rankOK at h3
 simp only [Bool.not_eq_true', Bool.not_eq_false', Bool.and_eq_true, decide_eq_true_eq, Bool.not_eq_true, Bool.not_eq_false] at h3
 exact h3.1
set_option maxRecDepth 100000 in
set_option maxHeartbeats 8000000 in
theorem allBest_yes (L : List Rk) (A : Option Addr) (c k : Nat) (w : World) (hr : Kd.C k77 w A L.length L) (hc : L.length ≤ c) (hg : RankG.good L = true) (hk : k ≤ 60) :
  Calls Try.prog 48 #[.slice A L.length c, .int .i64 (k : Int)] w fun e w' => ∃ v : Value, e = .returned (.tuple #[v, .bool true]) ∧ Kd.R k79 79 w' w.heap.size (fun _ => True) v (((metA L L []).mergeSort le).take k) ∧ Below w.heap.size w w' := by
 have HR := aM hr
 have HC := aM hc
 have HK := aM hk
 have HF := aM (good_facts hg)
 have HG := aM (RankG.goodR_calls A c L w hr hc)
 rw [hg] at HG
 have HWI := aM (fun W => Rank.within_calls (k : Int) 0 60 true W (decide_eq_true (by omega)))
 have hlen : (L.length : Int) ≤ 5 := by have := HF.out.1; omega
 clear hr hc hk hg
 go_enter Try.func48, Try.ntmps48
 go_upto_region 4 with (first | (go_at_call 58; go_loud ((with_reducible refine HG.out.mono ?_); rintro e w1 ⟨rfl, hb1⟩; have HB1 := aM hb1; clear hb1)) | (go_at_call 88; go_loud ((with_reducible refine (HWI.out _).mono ?_); rintro e w2 ⟨rfl, hb2⟩; have HB2 := aM (below_step HB1.out hb2); clear hb2)))
 obtain ⟨w3, hw3⟩ : ∃ W_, W_ = w2.alloc (.cells #[.slice A L.length c, .slice none 0 0] 123) := ⟨_, rfl⟩
 rw [← hw3]
 have HBB := aM (show w.heap.size ≤ w2.heap.size from HB2.out.size)
 have HM3 := aM (show w3.heap[w2.heap.size]? = some (.cells #[.slice A L.length c, .slice none 0 0] 123 (0, 0)) by rw [hw3]; exact Meet.at_new w2 _)
 have HB3 := aM (show Below w.heap.size w w3 by rw [hw3]; exact below_alloc HB2.out _)
 clear hw3
 go_wp2
 go_loopg [23] L.length (fun kq v23 w' => ∃ (i : Nat) (v : Value) (list : List Sc), v23 = .int .i64 (i : Int) ∧ i ≤ L.length ∧ kq = L.length - i ∧ Aside0 (w'.heap[w2.heap.size]? = some (.cells #[.slice A L.length c, v] 123 (0, 0))) ∧ Aside0 (Kd.R k79 79 w' w.heap.size (fun _ => True) v list) ∧ Aside0 (Below w.heap.size w w') ∧ Aside0 (list = metA L (L.take i) []) ∧ Aside0 (list.length ≤ i * 60))
 case atStart => exact ⟨0, _, [], rfl, Nat.zero_le _, rfl, HM3, ⟨Kd.R_nil _ _ _ _ _⟩, HB3, ⟨rfl⟩, ⟨Nat.zero_le _⟩⟩
 case round =>
  obtain ⟨i, v, list, rfl, hi, hkq, HM, HO, HB, HE, HLn⟩ := hrel
  have HKQ := aM hkq
  clear hkq
  by_cases hlt : i < L.length
  ·
   obtain ⟨ad, A0, c0, ead, hcell, hc0, hC0⟩ := at_T77 HR.out (i : Int) (by omega) (by omega)
   replace hcell := (HB.out.cell (World.block_lt_of_cell? w _ hcell)).trans hcell
   subst ead
   have HLT := aM hlt
   have hrd : rd_T77 L (i : Int) = L[i]'HLT.out := RankP.rd_atR L i hlt
   rw [Int.toNat_natCast, hrd] at hcell
   rw [hrd] at hc0 hC0
   obtain ⟨r, hrr⟩ : ∃ r, r = (L[i]'HLT.out).f0 := ⟨_, rfl⟩
   rw [← hrr] at hcell hc0 hC0
   have HRR := aM hrr
   have hr60 : r.length ≤ 60 := by rw [hrr]; exact HF.out.2 _ (List.getElem_mem hlt)
   have HR60 := aM hr60
   have HC0 := aM hC0
   have HCC := aM hc0
   have hi5 : (i : Int) ≤ 5 := by omega
   have hrl : (r.length : Int) ≤ 60 := by omega
   have hlt2 : (i : Int) < (L.length : Int) := by omega
   clear hrd hrr hr60 hC0 hlt hi
   go_wp2
   obtain ⟨w4, hw4⟩ : ∃ W_, W_ = wr.alloc (.cells #[.slice A0 r.length c0] 77) := ⟨_, rfl⟩
   rw [← hw4]
   have hb4 : Below wr.heap.size wr w4 := by rw [hw4]; exact below_alloc (Below.refl _ _) _
   have HM4 := aM ((hb4.block _ (blk_lt HM.out)).trans HM.out)
   have HO4 := aM (Kd.R_below HO.out hb4)
   have HB4 := aM (below_step HB.out hb4)
   clear hw4 hb4 hcell
   go_loopg [30] r.length (fun kq v30 w' => ∃ (j : Nat) (u : Value) (l2 : List Sc), v30 = .int .i64 (j : Int) ∧ j ≤ r.length ∧ kq = r.length - j ∧ Aside0 (w'.heap[w2.heap.size]? = some (.cells #[.slice (some ad) L.length c, u] 123 (0, 0))) ∧ Aside0 (Kd.R k79 79 w' w.heap.size (fun _ => True) u l2) ∧ Aside0 (Below w.heap.size w w') ∧ Aside0 (l2 = metR L (r.take j) list) ∧ Aside0 (l2.length ≤ i * 60 + j))
   case atStart => exact ⟨0, v, list, rfl, Nat.zero_le _, rfl, HM4, HO4, HB4, ⟨rfl⟩, ⟨by have := HLn.out; omega⟩⟩
   case round =>
    clear HM4 HO4 HB4
    obtain ⟨j, u, l2, rfl, hj, hkq2, HM5, HO5, HB5, HE5, HL5⟩ := hrel
    have HKQ2 := aM hkq2
    clear hkq2
    by_cases hjt : j < r.length
    ·
     obtain ⟨ad2, ead2, hs0, hs1⟩ := at_T79 (Kd.C_below HC0.out HB5.out) (j : Int) (by omega) (by omega)
     subst ead2
     have HJ := aM hjt
     have hrd2 : rd_T79 r (j : Int) = r[j]'HJ.out := RankP.rd_at r j hjt
     rw [Int.toNat_natCast, hrd2] at hs0 hs1
     have HST := aM (metR_step L r j HJ.out list)
     obtain ⟨x, hx⟩ : ∃ x, x = r[j]'HJ.out := ⟨_, rfl⟩
     rw [← hx] at hs0 hs1 HST
     have hj60 : (j : Int) ≤ 60 := by omega
     have hjt2 : (j : Int) < (r.length : Int) := by omega
     have HMC := aM (fun W (hW : W = wr.alloc (.cells #[.int .i64 x.f0, .int .i64 x.f1] 79)) => Meet.meet_calls w (some ad) c L w2.heap.size u l2 x.f0 W (by rw [hW]; exact below_alloc HB5.out _) HR.out HC.out (by have := HF.out.1; omega) (fun y hy => by have := HF.out.2 y hy; omega) HBB.out (by rw [hW]; exact blk_alloc HM5.out _) (by rw [hW]; exact Kd.R_alloc HO5.out _) (by have := HL5.out; omega))
     clear hrd2 hx hj hjt
     go_wp2_with (go_at_call 100; go_loud ((refine (HMC.out _ rfl).mono ?_); rintro e w6 ⟨rfl, v6, hm6, ho6, hb6⟩; have HM6 := aM hm6; have HO6 := aM ho6; have HB6 := aM hb6; clear hm6 ho6 hb6))
     go_roundg (r.length - (j + 1))
     case measure => have := HKQ2.out; have := HJ.out; omega
     case rel => exact ⟨j + 1, v6, _, by go_num, HJ.out, rfl, HM6, HO6, HB6, ⟨by rw [HST.out, HE5.out]⟩, ⟨by have := met_len L x.f0 l2; have := HL5.out; omega⟩⟩
    ·
     obtain rfl : j = r.length := by omega
     clear hj hjt
     go_wp2
     go_roundg (L.length - (i + 1))
     case measure => have := HKQ.out; have := HLT.out; omega
     case rel => exact ⟨i + 1, u, l2, by go_num, HLT.out, rfl, HM5, HO5, HB5, ⟨by rw [HE5.out, List.take_length, HE.out, HRR.out, metA_step L L i HLT.out]⟩, ⟨by have := HL5.out; have := HR60.out; omega⟩⟩
  ·
   obtain rfl : i = L.length := by omega
   have HBC := aM (fun W (hW : W = wr) => best_calls w (.slice A L.length c) w2.heap.size v list k W (by rw [hW]; exact HB.out) HBB.out (by rw [hW]; exact HM.out) (by rw [hW]; exact HO.out) (by have := HLn.out; have := HF.out.1; omega) (by have := HK.out; omega))
   have HWS := aM HB.out.size
   clear hi hlt
   go_wp2_with (go_at_call 101; go_loud ((refine (HBC.out _ rfl).mono ?_); rintro e w7 ⟨v7, rfl, ho7, hb7⟩; have HO7 := aM ho7; have HB7 := aM hb7; clear ho7 hb7))
   go_ret2
   refine ⟨_, rfl, ?_, HB7.out⟩
   have he := HE.out
   rw [List.take_length] at he
   rw [← he]
   exact Kd.R_lower HO7.out HWS.out
end Go.Proofs.Ytaomjndfjmfelaa.SoB
end

section
namespace Go.Proofs.Ytaomjndfjmfelaa.SoB
set_option linter.unusedVariables false
set_option linter.unusedSimpArgs false
open Go.RowKit Go.Sort Go.Proofs.Ytaomjndfjmfelaa.PQ Go.Proofs.YtaomjndfjmfelaaW.PrintWords Go.Proofs.YtaomjndfjmfelaaW.PrintLast Go.Proofs.Ytaomjndfjmfelaa.Pre
theorem le_ahead (x y : Sc) : le x y = !(Rank.ahead y x) := by
 unfold le Rank.ahead
 rw [lt_bf]
 congr 1
 exact decide_eq_decide.2 (by omega)
theorem ah_iff (y x : Sc) : Rank.ahead y x = true ↔ (x.f1 < y.f1 ∨ (x.f1 = y.f1 ∧ y.f0 < x.f0)) := by
 unfold Rank.ahead
 exact decide_eq_true_iff
theorem le_iff (x y : Sc) : le x y = true ↔ ¬ (x.f1 < y.f1 ∨ (x.f1 = y.f1 ∧ y.f0 < x.f0)) := by
 rw [le_ahead, Bool.not_eq_true', ← Bool.not_eq_true, ah_iff]
theorem le_trans {x y z : Sc} (h1 : le x y = true) (h2 : le y z = true) : le x z = true := by
 rw [le_iff] at *
 omega
theorem le_total (x y : Sc) : (le x y || le y x) = true := by
 rw [Bool.or_eq_true, le_iff, le_iff]
 omega
theorem le_anti {x y : Sc} (h1 : le x y = true) (h2 : le y x = true) : x = y := by
 rw [le_iff] at *
 have e1 : x.f1 = y.f1 := by omega
 have e0 : x.f0 = y.f0 := by omega
 cases x; cases y
 simp_all
/-- In order. -/
def Ord (l : List Sc) : Prop := l.Pairwise (fun a b => le a b = true)
theorem ord_sort (l : List Sc) : Ord (l.mergeSort le) := by
 have h := List.pairwise_mergeSort (le := le) (fun a b c h1 h2 => SoB.le_trans (x := a) (y := b) (z := c) h1 h2) (fun a b => SoB.le_total a b) l
 exact h
theorem ord_uniq : ∀ {l m : List Sc}, l.Perm m → Ord l → Ord m → l = m
 | [], m, h, _, _ => (List.Perm.nil_eq h)
 | a :: l, [], h, _, _ => by have := h.length_eq; simp at this
 | a :: l, b :: m, h, h1, h2 => by
  have hab : a = b := by
   have ha : a ∈ b :: m := h.subset (List.mem_cons_self ..)
   have hb : b ∈ a :: l := h.symm.subset (List.mem_cons_self ..)
   rcases List.mem_cons.1 ha with e | ha
   ·
    exact e
   ·
    rcases List.mem_cons.1 hb with e | hb
    ·
     exact e.symm
    ·
     exact le_anti ((List.pairwise_cons.1 h1).1 b hb) ((List.pairwise_cons.1 h2).1 a ha)
  subst hab
  rw [ord_uniq ((List.perm_cons a).1 h) (List.pairwise_cons.1 h1).2 (List.pairwise_cons.1 h2).2]
/-- One put to its place. -/
def ins (l : List Sc) (s : Sc) : List Sc := l.takeWhile (fun y => Rank.ahead y s) ++ s :: l.dropWhile (fun y => Rank.ahead y s)
theorem ins_cons (a : Sc) (l : List Sc) (s : Sc) : ins (a :: l) s = if Rank.ahead a s = true then a :: ins l s else s :: a :: l := by
 unfold ins
 rw [List.takeWhile_cons, List.dropWhile_cons]
 split <;> rfl
theorem ins_perm (s : Sc) : ∀ l : List Sc, (ins l s).Perm (s :: l)
 | [] => List.Perm.refl _
 | a :: l => by
  rw [ins_cons]
  split
  ·
   exact ((ins_perm s l).cons a).trans (List.Perm.swap s a l)
  ·
   exact List.Perm.refl _
theorem ins_ord (s : Sc) : ∀ l : List Sc, Ord l → Ord (ins l s)
 | [], _ => List.pairwise_cons.2 ⟨fun _ h => (by cases h), List.Pairwise.nil⟩
 | a :: l, h => by
  obtain ⟨h1, h2⟩ := List.pairwise_cons.1 h
  rw [ins_cons]
  split
  ·
   rename_i ha
   refine List.pairwise_cons.2 ⟨fun x hx => ?_, ins_ord s l h2⟩
   rcases List.mem_cons.1 ((ins_perm s l).subset hx) with e | hx
   ·
    rw [e, le_iff]
    rw [ah_iff] at ha
    omega
   ·
    exact h1 x hx
  ·
   rename_i ha
   have hs : le s a = true := by rw [le_ahead]; simpa using ha
   refine List.pairwise_cons.2 ⟨fun x hx => ?_, h⟩
   rcases List.mem_cons.1 hx with e | hx
   ·
    rw [e]; exact hs
   ·
    exact le_trans hs (h1 x hx)
/-- One put, once. -/
def putS (l : List Sc) (s : Sc) : List Sc := if l.any (Meet.isId s.f0) = true then l else ins l s
theorem putS_sort (acc : List Sc) (s : Sc) : putS (acc.mergeSort le) s = (if acc.any (Meet.isId s.f0) = true then acc else acc ++ [s]).mergeSort le := by
 have hp := List.mergeSort_perm acc le
 have ha : (acc.mergeSort le).any (Meet.isId s.f0) = acc.any (Meet.isId s.f0) := by
  rw [Bool.eq_iff_iff, List.any_eq_true, List.any_eq_true]
  constructor
  ·
   rintro ⟨x, hx, h⟩; exact ⟨x, hp.subset hx, h⟩
  ·
   rintro ⟨x, hx, h⟩; exact ⟨x, hp.symm.subset hx, h⟩
 unfold putS
 rw [ha]
 split
 ·
  rfl
 ·
  refine ord_uniq ?_ (ins_ord s _ (ord_sort acc)) (ord_sort _)
  exact ((ins_perm s _).trans (hp.cons s)).trans (((List.perm_append_singleton s acc).symm).trans (List.mergeSort_perm _ le).symm)
theorem met_sort (L : List Rk) (id : Int) (acc : List Sc) : (Meet.met L id acc).mergeSort le = putS (acc.mergeSort le) ⟨id, RankS.sumR id L⟩ := by
 rw [putS_sort]
 rfl
theorem ins_at (s : Sc) : ∀ (l : List Sc) (i : Nat), i ≤ l.length → (∀ (j : Nat) (h : j < l.length), j < i → Rank.ahead l[j] s = true) → (∀ h : i < l.length, Rank.ahead l[i] s = false) → ins l s = l.take i ++ s :: l.drop i
 | [], i, hi, _, _ => by
  have : i = 0 := by simpa using hi
  subst this
  rfl
 | a :: l, 0, hi, _, h2 => by
  have := h2 (by simp)
  rw [ins_cons, if_neg (by rw [show Rank.ahead a s = false from this]; decide)]
  rfl
 | a :: l, i + 1, hi, h1, h2 => by
  have h0 : Rank.ahead a s = true := h1 0 (by simp) (by omega)
  rw [ins_cons, if_pos h0, ins_at s l i (by simpa using hi) (fun j h hj => h1 (j + 1) (by simpa using h) (by omega)) (fun h => h2 (by simpa using h))]
  rfl
theorem put_ev (l : List Sc) (hl : l.length ≤ 1048576) (id sc : Int) : Evt (fun k => spec_l11Put.f k l id sc) (putS l ⟨id, sc⟩) := by
 unfold spec_l11Put.f putS
 have find : ∀ (m i : Nat), i + m = l.length → (∀ (j : Nat) (h : j < l.length), j < i → Rank.ahead l[j] ⟨id, sc⟩ = true) → Evt (fun k => spec_l11Put.l1 k l (i : Int) id sc) (ins l ⟨id, sc⟩) := by
  intro m
  induction m with
  | zero =>
   intro i hi hj
   have e := ins_at ⟨id, sc⟩ l i (by omega) hj (fun h => by omega)
   refine Evt.step (fun k => spec_l11Put.l1.eq_2 _ _ _ _ k) (Evt.neg (by omega) (Evt.pos (by omega) (Evt.pos (by omega) (Evt.bsome (Evt.pos (by simp; omega) (Evt.bsome (Evt.pos (by simp; omega) (Evt.bsome (Evt.bsome (Evt.pos (by simp; omega) ((Evt.const _).eq ?_)))))))))))
   rw [e, Int.toNat_natCast]
   simp
  | succ m ih =>
   intro i hi hj
   have hil : i < l.length := by omega
   refine Evt.step (fun k => spec_l11Put.l1.eq_2 _ _ _ _ k) (Evt.pos (by omega) (Evt.pos (by omega) ?_))
   rw [RankP.rd_at l i hil, show spec_l11Less.f l[i].f0 l[i].f1 id sc = some (Rank.ahead l[i] ⟨id, sc⟩) from RankP.less_ev l[i] ⟨id, sc⟩]
   refine Evt.bsome ?_
   cases ha : Rank.ahead l[i] ⟨id, sc⟩ with
   | true =>
    refine Evt.pos rfl ?_
    rw [w64 (n := (i : Int) + 1) (by omega) (by omega), show (i : Int) + 1 = ((i + 1 : Nat) : Int) by omega]
    refine ih (i + 1) (by omega) (fun j h hji => ?_)
    rcases Nat.lt_or_ge j i with h3 | h3
    ·
     exact hj j h h3
    ·
     obtain rfl : j = i := by omega
     exact ha
   | false =>
    have e := ins_at ⟨id, sc⟩ l i (by omega) hj (fun _ => ha)
    refine Evt.neg (by decide) (Evt.pos (by omega) (Evt.bsome (Evt.pos (by simp; omega) (Evt.bsome (Evt.pos (by simp; omega) (Evt.bsome (Evt.bsome (Evt.pos (by simp; omega) ((Evt.const _).eq ?_)))))))))
    rw [e, Int.toNat_natCast]
    simp
 have key : ∀ (m i : Nat), i + m = l.length → (l.take i).any (Meet.isId id) = false → Evt (fun k => spec_l11Put.l0 k l l (l.length : Int) (i : Int) id sc) (if l.any (Meet.isId id) = true then l else ins l ⟨id, sc⟩) := by
  intro m
  induction m with
  | zero =>
   intro i hi ha
   rw [List.take_of_length_le (by omega)] at ha
   rw [if_neg (by rw [ha]; decide)]
   exact Evt.step (fun k => spec_l11Put.l0.eq_2 _ _ _ _ _ _ k) (Evt.neg (by omega) (find l.length 0 (by omega) (fun j h hj => absurd hj (Nat.not_lt_zero _))))
  | succ m ih =>
   intro i hi ha
   have hil : i < l.length := by omega
   refine Evt.step (fun k => spec_l11Put.l0.eq_2 _ _ _ _ _ _ k) (Evt.pos (by omega) (Evt.pos (by omega) (Evt.pos (by omega) ?_)))
   rw [RankP.rd_at l i hil]
   by_cases he : l[i].f0 = id
   ·
    refine Evt.pos he ((Evt.const _).eq ?_)
    rw [if_pos]
    rw [List.any_eq_true]
    exact ⟨l[i], List.getElem_mem hil, by unfold Meet.isId; rw [he]; exact beq_self_eq_true _⟩
   ·
    refine Evt.neg he ?_
    rw [w64 (n := (i : Int) + 1) (by omega) (by omega), show (i : Int) + 1 = ((i + 1 : Nat) : Int) by omega]
    refine ih (i + 1) (by omega) ?_
    rw [take_last l i hil, List.any_append, ha, Bool.false_or]
    simp [Meet.isId, he]
 exact key l.length 0 (by omega) rfl
theorem first_ev (l : List Sc) (hl : l.length ≤ 1048576) (k : Nat) (hk : k ≤ 60) : spec_l11First.f l (k : Int) = some (l.take k) := by
 unfold spec_l11First.f
 by_cases h : (l.length : Int) > (k : Int)
 ·
  rw [if_pos h, if_pos (by omega), if_pos (by omega), Option.bind_some, Option.bind_some, if_pos (by simp; omega), Int.toNat_natCast, List.nil_append]
 ·
  rw [if_neg h, Option.bind_some, if_pos (by simp; omega), List.nil_append, List.take_of_length_le (by omega)]
theorem putS_len (l : List Sc) (s : Sc) : (putS l s).length ≤ l.length + 1 := by
 unfold putS
 split
 ·
  omega
 ·
  have := (ins_perm s l).length_eq
  rw [List.length_cons] at this
  omega
/-- What AllBest answers. -/
def ansAB (L : List Rk) (k : Int) : List Sc × Bool := if RankG.good L = true ∧ (0 ≤ k ∧ k ≤ 60) then (((metA L L []).mergeSort le).take k.toNat, true) else ([], false)
end Go.Proofs.Ytaomjndfjmfelaa.SoB
end

section
namespace Go.Proofs.Ytaomjndfjmfelaa.TopB
set_option linter.unusedVariables false
set_option linter.unusedSimpArgs false
open Go.RowKit Go.Sort Go.Proofs.Ytaomjndfjmfelaa.PQ Go.Proofs.YtaomjndfjmfelaaW.PrintWords Go.Proofs.YtaomjndfjmfelaaW.PrintLast Go.Proofs.Ytaomjndfjmfelaa.Pre
abbrev Sc := SoB.Sc
abbrev Rk := SoB.Rk
/-- One depth's look: those met, the threshold. -/
def rowD (L : List Rk) (d : Nat) (l : List Rk) (acc : List Sc) : List Sc := l.foldl (fun a r => if h : d < r.f0.length then Meet.met L (r.f0[d]).f0 a else a) acc
def thrD (d : Nat) (l : List Rk) (s : Int) : Int := l.foldl (fun s r => if h : d < r.f0.length then wrap64 (s + (r.f0[d]).f1) else s) s
def anyD (d : Nat) (l : List Rk) : Bool := l.any (fun r => decide (d < r.f0.length))
def depths (l : List Rk) : Nat := l.foldl (fun m r => max m r.f0.length) 0
def above (t : Int) (acc : List Sc) : Nat := acc.countP (fun x => decide (t < x.f1))
def topI (L : List Rk) (k : Nat) : Nat → Nat → List Sc → List Sc × Int
 | 0, d, acc => ((acc.mergeSort SoB.le).take k, (d : Int))
 | n + 1, d, acc => if k ≤ above (thrD d L 0) (rowD L d L acc) then (((rowD L d L acc).mergeSort SoB.le).take k, ((d + 1 : Nat) : Int)) else topI L k n (d + 1) (rowD L d L acc)
def ansT (L : List Rk) (k : Nat) : List Sc × Int := if k = 0 then ([], 0) else topI L k (depths L) 0 []
def ansTB (L : List Rk) (k : Int) : List Sc × Int × Bool := if RankG.good L = true ∧ (0 ≤ k ∧ k ≤ 60) then ((ansT L k.toNat).1, (ansT L k.toNat).2, true) else ([], 0, false)
theorem rowD_cons (L : List Rk) (d : Nat) (r : Rk) (l : List Rk) (acc : List Sc) : rowD L d (r :: l) acc = rowD L d l (if h : d < r.f0.length then Meet.met L (r.f0[d]).f0 acc else acc) := rfl
theorem thrD_cons (d : Nat) (r : Rk) (l : List Rk) (s : Int) : thrD d (r :: l) s = thrD d l (if h : d < r.f0.length then wrap64 (s + (r.f0[d]).f1) else s) := rfl
theorem rowD_len (L : List Rk) (d : Nat) : ∀ (l : List Rk) (acc : List Sc), (rowD L d l acc).length ≤ acc.length + l.length
 | [], acc => Nat.le_refl _
 | r :: l, acc => by
  rw [rowD_cons, List.length_cons]
  refine Nat.le_trans (rowD_len L d l _) ?_
  split
  ·
   have := SoB.met_len L (r.f0[d]).f0 acc
   omega
  ·
   omega
theorem depths_le : ∀ (l : List Rk) (m n : Nat), m ≤ n → (∀ x ∈ l, x.f0.length ≤ n) → l.foldl (fun m r => max m r.f0.length) m ≤ n
 | [], m, n, h, _ => h
 | r :: l, m, n, h, hx => depths_le l _ n (Nat.max_le.2 ⟨h, hx r (List.mem_cons_self ..)⟩) (fun x hm => hx x (List.mem_cons_of_mem _ hm))
theorem le_depths : ∀ (l : List Rk) (m : Nat), m ≤ l.foldl (fun m r => max m r.f0.length) m ∧ ∀ x ∈ l, x.f0.length ≤ l.foldl (fun m r => max m r.f0.length) m
 | [], m => ⟨Nat.le_refl _, fun _ h => by cases h⟩
 | r :: l, m => by
  obtain ⟨h1, h2⟩ := le_depths l (max m r.f0.length)
  refine ⟨Nat.le_trans (Nat.le_max_left _ _) h1, fun x hx => ?_⟩
  rcases List.mem_cons.1 hx with rfl | hx
  ·
   exact Nat.le_trans (Nat.le_max_right _ _) h1
  ·
   exact h2 x hx
theorem depths_mem : ∀ (l : List Rk) (m d : Nat), d < l.foldl (fun m r => max m r.f0.length) m → d < m ∨ ∃ x ∈ l, d < x.f0.length
 | [], m, d, h => .inl h
 | r :: l, m, d, h => by
  rcases depths_mem l (max m r.f0.length) d h with h | ⟨x, hx, h⟩
  ·
   rcases Nat.lt_or_ge d m with h1 | h1
   ·
    exact .inl h1
   ·
    refine .inr ⟨r, List.mem_cons_self .., ?_⟩
    rcases Nat.le_total m r.f0.length with h2 | h2
    ·
     rwa [Nat.max_eq_right h2] at h
    ·
     rw [Nat.max_eq_left h2] at h; omega
  ·
   exact .inr ⟨x, List.mem_cons_of_mem _ hx, h⟩
theorem any_true {L : List Rk} {d : Nat} (h : d < depths L) : anyD d L = true := by
 rcases depths_mem L 0 d h with h | ⟨x, hx, h⟩
 ·
  omega
 ·
  exact List.any_eq_true.2 ⟨x, hx, decide_eq_true h⟩
theorem any_false {L : List Rk} : anyD (depths L) L = false := by
 refine List.any_eq_false.2 (fun x hx => ?_)
 rw [decide_eq_true_eq]
 exact Nat.not_lt.2 ((le_depths L 0).2 x hx)
theorem rowD_none (L : List Rk) (d : Nat) : ∀ (l : List Rk) (acc : List Sc), anyD d l = false → rowD L d l acc = acc
 | [], acc, _ => rfl
 | r :: l, acc, h => by
  unfold anyD at h
  rw [List.any_cons, Bool.or_eq_false_iff, decide_eq_false_iff_not] at h
  rw [rowD_cons, dif_neg h.1]
  exact rowD_none L d l acc h.2
/-- The scores that are good, and their sum. -/
theorem good_scores {L : List Rk} (h : RankG.good L = true) : ∀ x ∈ L, ∀ y ∈ x.f0, 0 ≤ y.f0 ∧ y.f0 ≤ 1000 ∧ 1 ≤ y.f1 ∧ y.f1 ≤ 1000000 := by
 intro x hx y hy
 unfold RankG.good at h
 rw [Bool.and_eq_true, Bool.not_eq_true', List.any_eq_false] at h
 have h3 := h.2 x hx
 unfold RankG.bad Rank.rankOK at h3
 simp only [Bool.not_eq_true', Bool.not_eq_false, Bool.and_eq_true, decide_eq_true_eq] at h3
 obtain ⟨i, hi, rfl⟩ := List.mem_iff_getElem.1 hy
 have h4 := (List.all_eq_true.1 h3.2) i (List.mem_range.2 hi)
 unfold Rank.entryOK at h4
 simp only [Bool.and_eq_true, decide_eq_true_eq] at h4
 rw [RankP.rd_at x.f0 i hi] at h4
 exact ⟨h4.1.1.1.1, h4.1.1.1.2, h4.1.1.2.1, h4.1.1.2.2⟩
set_option maxRecDepth 100000 in
theorem thr_bound (d : Nat) : ∀ (l : List Rk) (s : Int), l.length ≤ 1000 → (∀ x ∈ l, ∀ y ∈ x.f0, 0 ≤ y.f1 ∧ y.f1 ≤ 1000000) → 0 ≤ s → s + l.length * 1000000 ≤ 1000000000000 → s ≤ thrD d l s ∧ thrD d l s ≤ s + l.length * 1000000
 | [], s, _, _, _, _ => ⟨Int.le_refl _, by show s ≤ s + ((0 : Nat) : Int) * 1000000; omega⟩
 | r :: l, s, hl, h, h0, h1 => by
  rw [thrD_cons, List.length_cons]
  rw [List.length_cons] at hl h1
  have hx := fun x hm => h x (List.mem_cons_of_mem _ hm)
  split
  ·
   rename_i hd
   have hy := h r (List.mem_cons_self ..) _ (List.getElem_mem hd)
   obtain ⟨y, ey⟩ : ∃ y, y = r.f0[d].f1 := ⟨_, rfl⟩
   rw [← ey] at hy ⊢
   clear ey h hd
   obtain ⟨n, en⟩ : ∃ n, n = l.length := ⟨_, rfl⟩
   rw [← en] at hl h1
   have a1 : s + (n : Int) * 1000000 + 1000000 ≤ 1000000000000 := by omega
   have a2 : 0 ≤ (n : Int) * 1000000 := by omega
   have a3 : wrap64 (s + y) = s + y := w64 (by omega) (by omega)
   rw [a3]
   have ih := thr_bound d l (s + y) (by rw [← en]; omega) hx (by omega) (by rw [← en]; omega)
   rw [← en] at ih ⊢
   clear hx a3
   omega
  ·
   have ih := thr_bound d l s (by omega) hx h0 (by omega)
   omega
theorem above_iff (t : Int) : ∀ (S : List Sc) (k : Nat), S.Pairwise (fun a b => b.f1 ≤ a.f1) → (k + 1 ≤ above t S ↔ ∃ h : k < S.length, t < S[k].f1)
 | [], k, _ => ⟨fun h => absurd h (Nat.not_succ_le_zero k), fun ⟨h, _⟩ => absurd h (Nat.not_lt_zero k)⟩
 | a :: S, k, hp => by
  obtain ⟨h1, h2⟩ := List.pairwise_cons.1 hp
  unfold above
  rw [List.countP_cons]
  by_cases ha : t < a.f1
  ·
   rw [if_pos (decide_eq_true ha)]
   cases k with
   | zero => exact ⟨fun _ => ⟨by simp, ha⟩, fun _ => by omega⟩
   | succ k =>
    have ih := above_iff t S k h2
    unfold above at ih
    constructor
    ·
     intro h
     obtain ⟨q, hq⟩ := ih.1 (by omega)
     exact ⟨by simpa using q, by simpa using hq⟩
    ·
     rintro ⟨q, hq⟩
     have := ih.2 ⟨by simpa using q, by simpa using hq⟩
     omega
  ·
   have h0 : S.countP (fun x => decide (t < x.f1)) = 0 := by
    rw [List.countP_eq_zero]
    intro x hx
    rw [decide_eq_true_eq]
    have := h1 x hx
    omega
   rw [if_neg (by rw [decide_eq_true_eq]; exact ha), h0]
   constructor
   ·
    intro h; omega
   ·
    rintro ⟨q, hq⟩
    exfalso
    cases k with
    | zero => exact ha hq
    | succ k =>
     have hm : S[k]'(by simpa using q) ∈ S := List.getElem_mem _
     have := h1 _ hm
     have hq2 : t < (S[k]'(by simpa using q)).f1 := by simpa using hq
     omega
theorem ord_falls {S : List Sc} (h : SoB.Ord S) : S.Pairwise (fun a b => b.f1 ≤ a.f1) := by
 refine List.Pairwise.imp (fun {a b} hab => ?_) h
 rw [SoB.le_iff] at hab
 omega
theorem above_sort (t : Int) (acc : List Sc) : above t (acc.mergeSort SoB.le) = above t acc := (List.mergeSort_perm acc SoB.le).countP_eq _
theorem any_cons (d : Nat) (r : Rk) (l : List Rk) : anyD d (r :: l) = (decide (d < r.f0.length) || anyD d l) := rfl
theorem spec_1 (L : List Rk) (hL : L.length ≤ 5) (hx : ∀ x ∈ L, x.f0.length ≤ 60) (k1 : Int) (d : Nat) (r : List Sc × Int × Bool) : ∀ (n i : Nat) (acc : List Sc) (s : Int) (b : Bool), i + n = L.length → acc.length + n ≤ 1000 →
  Evt (fun k => spec_TopBest.l1 k L k1 ((rowD L d (L.drop i) acc).mergeSort SoB.le) (d : Int) (thrD d (L.drop i) s) (b || anyD d (L.drop i)) L (L.length : Int) (L.length : Int)) r →
  Evt (fun k => spec_TopBest.l1 k L k1 (acc.mergeSort SoB.le) (d : Int) s b L (L.length : Int) (i : Int)) r := by
 intro n
 induction n with
 | zero =>
  intro i acc s b hi ha h
  rw [List.drop_eq_nil_of_le (by omega), show (b || anyD d []) = b from Bool.or_false b] at h
  rw [show i = L.length by omega]
  exact h
 | succ n ih =>
  intro i acc s b hi ha h
  have hil : i < L.length := by omega
  have h60 := hx _ (List.getElem_mem hil)
  rw [List.drop_eq_getElem_cons hil, rowD_cons, thrD_cons, any_cons] at h
  refine Evt.step (fun k => spec_TopBest.l1.eq_2 _ _ _ _ _ _ _ _ _ k) (Evt.pos (by omega) (Evt.pos (by omega) (Evt.pos (by omega) ?_)))
  rw [RankP.rd_atR L i hil, w64 (n := (i : Int) + 1) (by omega) (by omega), show (i : Int) + 1 = ((i + 1 : Nat) : Int) by omega]
  by_cases hd : d < L[i].f0.length
  ·
   rw [dif_pos hd, dif_pos hd, decide_eq_true hd, Bool.true_or, Bool.or_true] at h
   refine Evt.pos (by omega) (Evt.pos (by omega) ?_)
   rw [RankP.rd_at L[i].f0 d hd]
   refine Evt.bind (RankS.spec_l11Sum_ev L[i].f0[d].f0 L (by omega) (fun x h => by have := hx x h; omega)) (Evt.bind (SoB.put_ev (acc.mergeSort SoB.le) (by rw [List.length_mergeSort]; omega) L[i].f0[d].f0 _) ?_)
   rw [← SoB.met_sort]
   exact ih (i + 1) _ _ true (by omega) (by have := SoB.met_len L L[i].f0[d].f0 acc; omega) h
  ·
   rw [dif_neg hd, dif_neg hd, decide_eq_false hd, Bool.false_or] at h
   exact Evt.neg (by omega) (ih (i + 1) acc s b (by omega) (by omega) h)
theorem spec_0 (L : List Rk) (hL : L.length ≤ 5) (hx : ∀ x ∈ L, x.f0.length ≤ 60) (hs : ∀ x ∈ L, ∀ y ∈ x.f0, 0 ≤ y.f1 ∧ y.f1 ≤ 1000000) (k1 : Nat) (hk0 : 0 < k1) (hk : k1 ≤ 60) : ∀ (n d : Nat) (acc : List Sc), d + n = depths L → acc.length ≤ d * 5 →
  Evt (fun k => spec_TopBest.l0 k L (k1 : Int) (acc.mergeSort SoB.le) (d : Int)) ((topI L k1 n d acc).1, (topI L k1 n d acc).2, true) := by
 have hD : depths L ≤ 60 := depths_le L 0 60 (Nat.zero_le _) hx
 intro n
 induction n with
 | zero =>
  intro d acc hd ha
  refine Evt.step (fun k => spec_TopBest.l0.eq_2 _ _ _ _ k) (spec_1 L hL hx (k1 : Int) d _ L.length 0 acc 0 false (by omega) (by omega) ?_)
  rw [List.drop_zero, Bool.false_or, show d = depths L by omega, any_false, rowD_none L _ L acc any_false]
  refine Evt.step (fun k => spec_TopBest.l1.eq_2 _ _ _ _ _ _ _ _ _ k) (Evt.neg (by omega) (Evt.neg (by decide) ?_))
  rw [SoB.first_ev _ (by rw [List.length_mergeSort]; omega) k1 hk]
  exact Evt.bsome (Evt.const _)
 | succ n ih =>
  intro d acc hd ha
  refine Evt.step (fun k => spec_TopBest.l0.eq_2 _ _ _ _ k) (spec_1 L hL hx (k1 : Int) d _ L.length 0 acc 0 false (by omega) (by omega) ?_)
  have hlen := rowD_len L d L acc
  have hth := thr_bound d L 0 (by omega) hs (by omega) (by omega)
  rw [List.drop_zero, Bool.false_or, any_true (L := L) (d := d) (by omega)]
  obtain ⟨S, hS⟩ : ∃ S, S = (rowD L d L acc).mergeSort SoB.le := ⟨_, rfl⟩
  have hSl : S.length = (rowD L d L acc).length := by rw [hS, List.length_mergeSort]
  have habove : above (thrD d L 0) (rowD L d L acc) = above (thrD d L 0) S := by rw [hS, above_sort]
  have hiff := above_iff (thrD d L 0) S (k1 - 1) (ord_falls (by rw [hS]; exact SoB.ord_sort _))
  rw [show k1 - 1 + 1 = k1 by omega] at hiff
  have next : ¬ k1 ≤ above (thrD d L 0) (rowD L d L acc) → Evt (fun k => spec_TopBest.l0 k L (k1 : Int) S (wrap64 ((d : Int) + 1))) ((topI L k1 (n + 1) d acc).1, (topI L k1 (n + 1) d acc).2, true) := by
   intro hno
   have e : topI L k1 (n + 1) d acc = topI L k1 n (d + 1) (rowD L d L acc) := by
    show (if _ then _ else _) = _
    rw [if_neg hno]
   rw [e, hS, w64 (n := (d : Int) + 1) (by omega) (by omega), show (d : Int) + 1 = ((d + 1 : Nat) : Int) by omega]
   exact ih (d + 1) _ (by omega) (by omega)
  rw [← hS]
  refine Evt.step (fun k => spec_TopBest.l1.eq_2 _ _ _ _ _ _ _ _ _ k) (Evt.neg (by omega) (Evt.pos rfl ?_))
  rw [w64 (n := (k1 : Int) - 1) (by omega) (by omega), w64 (n := thrD d L 0 + 1) (by omega) (by omega), show (k1 : Int) - 1 = ((k1 - 1 : Nat) : Int) by omega]
  by_cases hlk : k1 ≤ S.length
  ·
   refine Evt.pos (by omega) (Evt.pos (by omega) (Evt.pos (by omega) ?_))
   rw [RankP.rd_at S (k1 - 1) (by omega)]
   by_cases ht : thrD d L 0 + 1 ≤ (S[k1 - 1]'(by omega)).f1
   ·
    have hyes : k1 ≤ above (thrD d L 0) (rowD L d L acc) := by rw [habove]; exact hiff.2 ⟨by omega, by omega⟩
    refine Evt.pos ht ?_
    rw [SoB.first_ev _ (by omega) k1 hk, w64 (n := (d : Int) + 1) (by omega) (by omega), show (d : Int) + 1 = ((d + 1 : Nat) : Int) by omega]
    have e : topI L k1 (n + 1) d acc = (S.take k1, ((d + 1 : Nat) : Int)) := by
     show (if _ then _ else _) = _
     rw [if_pos hyes, hS]
    rw [e]
    exact Evt.bsome (Evt.const _)
   ·
    refine Evt.neg ht (next (fun h => ht ?_))
    rw [habove] at h
    obtain ⟨_, h⟩ := hiff.1 h
    omega
  ·
   refine Evt.neg (by omega) (next (fun h => hlk ?_))
   rw [habove] at h
   obtain ⟨h, _⟩ := hiff.1 h
   omega
theorem topBestS_ev (L : List Rk) (hL : L.length ≤ 1048576) (hl : ∀ x ∈ L, x.f0.length ≤ 1048576) (k : Int) : Evt (fun n => spec_TopBest.f n L k) (ansTB L k) := by
 unfold spec_TopBest.f ansTB
 refine Evt.bind (RankP.spec_ev L hL hl) ?_
 by_cases hg : RankG.good L = true
 ·
  refine Evt.pos hg ?_
  rw [RankP.in_ev]
  refine Evt.bsome ?_
  by_cases hk : 0 ≤ k ∧ k ≤ 60
  ·
   rw [if_pos ⟨hg, hk⟩, decide_eq_true hk]
   obtain ⟨n, rfl⟩ := Int.eq_ofNat_of_zero_le hk.1
   obtain ⟨h5, h60⟩ := SoB.good_facts hg
   refine Evt.step (fun k => spec_TopBest.j0.eq_2 _ _ _ k) (Evt.neg (by decide) ?_)
   rw [Int.toNat_natCast]
   unfold ansT
   by_cases h0 : n = 0
   ·
    subst h0
    exact Evt.pos rfl (Evt.const _)
   ·
    rw [if_neg h0]
    refine Evt.neg (by omega) ?_
    have h := spec_0 L h5 h60 (fun x hx y hy => by have := good_scores hg x hx y hy; omega) n (by omega) (by omega) (depths L) 0 [] (by omega) (Nat.zero_le _)
    rw [show ([] : List Sc).mergeSort SoB.le = [] by simp] at h
    exact h
  ·
   rw [if_neg (fun h => hk h.2), decide_eq_false hk]
   exact Evt.step (fun k => spec_TopBest.j0.eq_2 _ _ _ k) (Evt.pos rfl (Evt.const _))
 ·
  rw [if_neg (fun h => hg h.1)]
  exact Evt.neg hg (Evt.step (fun k => spec_TopBest.j0.eq_2 _ _ _ k) (Evt.pos rfl (Evt.const _)))
end Go.Proofs.Ytaomjndfjmfelaa.TopB
end

section
namespace Go.Proofs.Ytaomjndfjmfelaa.TopB
set_option linter.unusedVariables false
set_option linter.unusedSimpArgs false
open Go.RowKit Go.Shelf Go.Lib Go.Sort Go.Proofs.Ytaomjndfjmfelaa.PQ Go.Proofs.YtaomjndfjmfelaaW.PrintWords Go.Proofs.YtaomjndfjmfelaaW.PrintLast Go.Proofs.YtaomjndfjmfelaaW.PrintMore Go.Proofs.Ytaomjndfjmfelaa.Pre Go.Proofs.Ytaomjndfjmfelaa.SoB
attribute [local go_sem] max2_int max_two
theorem depths_step (L : List Rk) (i : Nat) (h : i < L.length) : depths (L.take (i + 1)) = max (depths (L.take i)) L[i].f0.length := by
 unfold depths
 rw [take_last L i h, List.foldl_append]
 rfl
theorem rowD_step (L : List Rk) (d : Nat) (l : List Rk) (i : Nat) (h : i < l.length) (acc : List Sc) : rowD L d (l.take (i + 1)) acc = if h2 : d < l[i].f0.length then Meet.met L (l[i].f0[d]).f0 (rowD L d (l.take i) acc) else rowD L d (l.take i) acc := by
 unfold rowD
 rw [take_last l i h, List.foldl_append]
 rfl
theorem thrD_step (d : Nat) (l : List Rk) (i : Nat) (h : i < l.length) (s : Int) : thrD d (l.take (i + 1)) s = if h2 : d < l[i].f0.length then wrap64 (thrD d (l.take i) s + (l[i].f0[d]).f1) else thrD d (l.take i) s := by
 unfold thrD
 rw [take_last l i h, List.foldl_append]
 rfl
theorem above_step (t : Int) (l : List Sc) (j : Nat) (h : j < l.length) : above t (l.take (j + 1)) = if t < l[j].f1 then above t (l.take j) + 1 else above t (l.take j) := by
 unfold above
 rw [take_last l j h, List.countP_append, List.countP_singleton]
 by_cases hx : t < l[j].f1
 ·
  rw [if_pos hx, if_pos (decide_eq_true hx)]
 ·
  rw [if_neg hx, if_neg (by rw [decide_eq_true_eq]; exact hx)]
  rfl
theorem above_le (t : Int) (l : List Sc) : above t l ≤ l.length := List.countP_le_length
set_option maxRecDepth 100000 in
set_option maxHeartbeats 8000000 in
theorem topBest_calls (L : List Rk) (A : Option Addr) (c k : Nat) (w : World) (hr : Kd.C k77 w A L.length L) (hc : L.length ≤ c) (h5 : L.length ≤ 5) (h60 : ∀ x ∈ L, x.f0.length ≤ 60) (hk : k ≤ 60) :
  Calls Try.prog 107 #[.slice A L.length c, .int .i64 (k : Int)] w fun e w' => ∃ v : Value, e = .returned (.tuple #[v, .int .i64 (ansT L k).2]) ∧ Kd.R k79 79 w' w.heap.size (fun _ => True) v (ansT L k).1 ∧ Below w.heap.size w w' := by
 have HR := aM hr
 have HC := aM hc
 have HK := aM hk
 have HF : Aside0 (L.length ≤ 5 ∧ ∀ x ∈ L, x.f0.length ≤ 60) := ⟨⟨h5, h60⟩⟩
 have hlen : (L.length : Int) ≤ 5 := by omega
 have hk60 : (k : Int) ≤ 60 := by omega
 obtain ⟨D, hD⟩ : ∃ D, D = depths L := ⟨_, rfl⟩
 have HDD := aM hD
 have hD60 : (D : Int) ≤ 60 := by
  have := depths_le L 0 60 (Nat.zero_le _) h60
  rw [hD]
  unfold depths
  omega
 have HD60 := aM hD60
 clear hr hc hk h5 h60 hD
 go_enter Try.func107, Try.ntmps107
 go_upto_region 2 with (fail)
 obtain ⟨w3, hw3⟩ : ∃ W_, W_ = w.alloc (.cells #[.slice A L.length c, .slice none 0 0] 123) := ⟨_, rfl⟩
 rw [← hw3]
 have HM3 := aM (show w3.heap[w.heap.size]? = some (.cells #[.slice A L.length c, .slice none 0 0] 123 (0, 0)) by rw [hw3]; exact Meet.at_new w _)
 have HB3 := aM (show Below w.heap.size w w3 by rw [hw3]; exact below_alloc (Below.refl _ _) _)
 clear hw3
 go_wp2
 go_loopg [7, 21] L.length (fun kq v7 v21 w' => ∃ (i m : Nat), v7 = .int .i64 (m : Int) ∧ v21 = .int .i64 (i : Int) ∧ i ≤ L.length ∧ kq = L.length - i ∧ Aside0 (m = depths (L.take i)) ∧ Aside0 (w'.heap[w.heap.size]? = some (.cells #[.slice A L.length c, .slice none 0 0] 123 (0, 0))) ∧ Aside0 (Below w.heap.size w w'))
 case atStart => exact ⟨0, 0, rfl, rfl, Nat.zero_le _, rfl, ⟨rfl⟩, HM3, HB3⟩
 case round =>
  clear HM3 HB3
  obtain ⟨i, m, rfl, rfl, hi, hkq, HE, HM, HB⟩ := hrel
  have HKQ := aM hkq
  clear hkq
  by_cases hlt : i < L.length
  ·
   obtain ⟨ad, A0, c0, ead, hcell, hc0, hC0⟩ := at_T77 HR.out (i : Int) (by omega) (by omega)
   replace hcell := (HB.out.cell (World.block_lt_of_cell? w _ hcell)).trans hcell
   subst ead
   have HLT := aM hlt
   have hrd : rd_T77 L (i : Int) = L[i]'HLT.out := RankP.rd_atR L i hlt
   rw [Int.toNat_natCast, hrd] at hcell
   obtain ⟨r, hrr⟩ : ∃ r, r = (L[i]'HLT.out).f0 := ⟨_, rfl⟩
   rw [← hrr] at hcell
   have HST := aM (depths_step L i HLT.out)
   rw [← hrr] at HST
   have hlt2 : (i : Int) < (L.length : Int) := by omega
   by_cases hml : m < r.length
   ·
    have hml2 : (m : Int) < (r.length : Int) := by omega
    have HMX : Aside0 (r.length = max m r.length) := ⟨by omega⟩
    clear hrd hrr hlt hi hc0 hC0 hml
    go_wp2
    go_roundg (L.length - (i + 1))
    case measure => have := HKQ.out; have := HLT.out; omega
    case rel => exact ⟨i + 1, r.length, rfl, by go_num, HLT.out, rfl, ⟨by rw [HST.out, ← HE.out]; exact HMX.out⟩, ⟨blk_alloc HM.out _⟩, ⟨below_alloc HB.out _⟩⟩
   ·
    have hml2 : ¬ ((m : Int) < (r.length : Int)) := by omega
    have HMX : Aside0 (m = max m r.length) := ⟨by omega⟩
    clear hrd hrr hlt hi hc0 hC0 hml
    go_wp2
    go_roundg (L.length - (i + 1))
    case measure => have := HKQ.out; have := HLT.out; omega
    case rel => exact ⟨i + 1, m, rfl, by go_num, HLT.out, rfl, ⟨by rw [HST.out, ← HE.out]; exact HMX.out⟩, ⟨blk_alloc HM.out _⟩, ⟨below_alloc HB.out _⟩⟩
  ·
   obtain rfl : i = L.length := by omega
   have hmD : D = m := by rw [HE.out, List.take_length, HDD.out]
   subst hmD
   clear hi hlt
   by_cases hk0 : k = 0
   ·
    have hkb : ((k : Int) == 0) = true := by rw [hk0]; rfl
    have HK0 := aM hk0
    clear hk0
    go_wp2
    go_ret2
    rw [show ansT L k = ([], 0) by unfold ansT; rw [if_pos HK0.out]]
    exact ⟨_, rfl, Kd.R_nil _ _ _ _ _, HB.out⟩
   ·
    have hkb : ((k : Int) == 0) = false := by rw [beq_eq_false_iff_ne]; omega
    have HK0 := aM hk0
    clear hk0
    go_wp2
    clear hkb
    go_loopg [34] D (fun kq v34 w' => ∃ (d : Nat) (v : Value) (acc : List Sc), v34 = .int .i64 (d : Int) ∧ d ≤ D ∧ kq = D - d ∧ Aside0 (w'.heap[w.heap.size]? = some (.cells #[.slice A L.length c, v] 123 (0, 0))) ∧ Aside0 (Kd.R k79 79 w' w.heap.size (fun _ => True) v acc) ∧ Aside0 (Below w.heap.size w w') ∧ Aside0 (topI L k (D - d) d acc = ansT L k) ∧ Aside0 (acc.length ≤ d * 5))
    case atStart => exact ⟨0, _, [], rfl, Nat.zero_le _, rfl, HM, ⟨Kd.R_nil _ _ _ _ _⟩, HB, ⟨by unfold ansT; rw [if_neg HK0.out, HDD.out]; rfl⟩, ⟨Nat.zero_le _⟩⟩
    case round =>
     clear HM HB HE HKQ
     obtain ⟨d, v, acc, rfl, hdD, hkq, HM, HO, HB, HT, HLn⟩ := hrel
     have HKQ := aM hkq
     clear hkq
     by_cases hlt : d < D
     ·
      have HLT := aM hlt
      have hlt2 : (d : Int) < (D : Int) := by omega
      have hd60 : (d : Int) < 60 := by omega
      clear hlt hdD
      go_wp2
      go_loopg [11, 39] L.length (fun kq v11 v39 w' => ∃ (i : Nat) (z : Int) (u : Value) (l2 : List Sc), v11 = .int .i64 z ∧ v39 = .int .i64 (i : Int) ∧ i ≤ L.length ∧ kq = L.length - i ∧ Aside0 (z = thrD d (L.take i) 0) ∧ Aside0 (w'.heap[w.heap.size]? = some (.cells #[.slice A L.length c, u] 123 (0, 0))) ∧ Aside0 (Kd.R k79 79 w' w.heap.size (fun _ => True) u l2) ∧ Aside0 (Below w.heap.size w w') ∧ Aside0 (l2 = rowD L d (L.take i) acc) ∧ Aside0 (l2.length ≤ d * 5 + i))
      case atStart => exact ⟨0, 0, v, acc, rfl, rfl, Nat.zero_le _, rfl, ⟨rfl⟩, HM, HO, HB, ⟨rfl⟩, ⟨by have := HLn.out; omega⟩⟩
      case round =>
       clear HM HO HB
       obtain ⟨i, z, u, l2, rfl, rfl, hi, hkq2, HZ, HM, HO, HB, HE, HL5⟩ := hrel
       have HKQ2 := aM hkq2
       clear hkq2
       by_cases hit : i < L.length
       ·
        obtain ⟨ad, A0, c0, ead, hcell, hc0, hC0⟩ := at_T77 HR.out (i : Int) (by omega) (by omega)
        replace hcell := (HB.out.cell (World.block_lt_of_cell? w _ hcell)).trans hcell
        subst ead
        have HIT := aM hit
        have hrd : rd_T77 L (i : Int) = L[i]'HIT.out := RankP.rd_atR L i hit
        rw [Int.toNat_natCast, hrd] at hcell
        rw [hrd] at hc0 hC0
        have HSR := aM (rowD_step L d L i HIT.out acc)
        have HSZ := aM (thrD_step d L i HIT.out 0)
        obtain ⟨r, hrr⟩ : ∃ r, r = (L[i]'HIT.out).f0 := ⟨_, rfl⟩
        have hr60 : r.length ≤ 60 := by rw [hrr]; exact HF.out.2 _ (List.getElem_mem hit)
        simp only [← hrr] at hcell hc0 hC0 HSR HSZ
        have HC0 := aM hC0
        have hit2 : (i : Int) < (L.length : Int) := by omega
        have hrl : (r.length : Int) ≤ 60 := by omega
        by_cases hd : d < r.length
        ·
         have HDR := aM hd
         obtain ⟨ad2, ead2, hs0, hs1⟩ := at_T79 (Kd.C_below HC0.out HB.out) (d : Int) (by omega) (by omega)
         subst ead2
         have hrd2 : rd_T79 r (d : Int) = r[d]'HDR.out := RankP.rd_at r d hd
         rw [Int.toNat_natCast, hrd2] at hs0 hs1
         rw [dif_pos HDR.out] at HSR HSZ
         obtain ⟨x, hx⟩ : ∃ x, x = r[d]'HDR.out := ⟨_, rfl⟩
         rw [← hx] at hs0 hs1 HSR HSZ
         have hd2 : (d : Int) < (r.length : Int) := by omega
         have hba : Below wr.heap.size wr (wr.alloc (.cells #[.slice (some ad2) r.length c0] 77)) := below_alloc (Below.refl _ _) _
         replace hs0 := (hba.cell (World.block_lt_of_cell? wr _ hs0)).trans hs0
         replace hs1 := (hba.cell (World.block_lt_of_cell? wr _ hs1)).trans hs1
         clear hba
         have HMC := aM (fun W (hW : W = wr.alloc (.cells #[.slice (some ad2) r.length c0] 77)) => Meet.meet_calls w (some ad) c L w.heap.size u l2 x.f0 W (by rw [hW]; exact below_alloc HB.out _) HR.out HC.out (by have := HF.out.1; omega) (fun y hy => by have := HF.out.2 y hy; omega) (Nat.le_refl _) (by rw [hW]; exact blk_alloc HM.out _) (by rw [hW]; exact Kd.R_alloc HO.out _) (by have := HL5.out; have := HF.out.1; have := HLT.out; have := HD60.out; omega))
         clear hrd hrd2 hx hd hit hi hrr hr60 hC0
         go_wp2_with (go_at_call 100; go_loud ((refine (HMC.out _ rfl).mono ?_); rintro e w6 ⟨rfl, v6, hm6, ho6, hb6⟩; have HM6 := aM hm6; have HO6 := aM ho6; have HB6 := aM hb6; clear hm6 ho6 hb6))
         go_roundg (L.length - (i + 1))
         case measure => have := HKQ2.out; have := HIT.out; omega
         case rel => exact ⟨i + 1, _, v6, _, rfl, by go_num, HIT.out, rfl, ⟨by rw [HSZ.out, HZ.out]⟩, HM6, HO6, HB6, ⟨by rw [HSR.out, HE.out]⟩, ⟨by have := met_len L x.f0 l2; have := HL5.out; omega⟩⟩
        ·
         have HDR := aM hd
         rw [dif_neg HDR.out] at HSR HSZ
         have hd2 : ¬ ((d : Int) < (r.length : Int)) := by omega
         have hd3 : decide ((d : Int) < (r.length : Int)) = false := decide_eq_false hd2
         clear hrd hd hit hi hrr hr60 hC0
         go_wp2
         go_roundg (L.length - (i + 1))
         case measure => have := HKQ2.out; have := HIT.out; omega
         case rel => exact ⟨i + 1, z, u, l2, rfl, by go_num, HIT.out, rfl, ⟨by rw [HSZ.out, HZ.out]⟩, ⟨blk_alloc HM.out _⟩, ⟨Kd.R_alloc HO.out _⟩, ⟨below_alloc HB.out _⟩, ⟨by rw [HSR.out, HE.out]⟩, ⟨by have := HL5.out; omega⟩⟩
       ·
        obtain rfl : i = L.length := by omega
        have HE2 : Aside0 (l2 = rowD L d L acc) := ⟨by rw [HE.out, List.take_length]⟩
        have HZ2 : Aside0 (z = thrD d L 0) := ⟨by rw [HZ.out, List.take_length]⟩
        clear hi hit HE HZ HKQ2
        obtain ⟨Au, cu, rfl⟩ := Kd.R_slice HO.out
        have hcl1 : wr.cell? ⟨w.heap.size, 1, none⟩ = some (.slice Au l2.length cu) := Meet.cell1 HM.out
        have hl2 : (l2.length : Int) ≤ 1000 := by have := HL5.out; have := HF.out.1; omega
        go_wp2
        go_loopg [12, 67] l2.length (fun kq v12 v67 w' => ∃ (j m : Nat), v12 = .int .i64 (m : Int) ∧ v67 = .int .i64 (j : Int) ∧ j ≤ l2.length ∧ kq = l2.length - j ∧ Aside0 (m = above z (l2.take j)) ∧ Aside0 (w'.heap[w.heap.size]? = some (.cells #[.slice A L.length c, .slice Au l2.length cu] 123 (0, 0))) ∧ Aside0 (Kd.R k79 79 w' w.heap.size (fun _ => True) (.slice Au l2.length cu) l2) ∧ Aside0 (Below w.heap.size w w'))
        case atStart => exact ⟨0, 0, rfl, rfl, Nat.zero_le _, rfl, ⟨rfl⟩, HM, HO, HB⟩
        case round =>
         clear HM HO HB hcl1
         obtain ⟨j, m, rfl, rfl, hj, hkq3, HMJ, HM, HO, HB⟩ := hrel
         have HKQ3 := aM hkq3
         clear hkq3
         have hm60 : m ≤ 1000 := by
          have h1 := above_le z (l2.take j)
          rw [← HMJ.out, List.length_take] at h1
          omega
         by_cases hjt : j < l2.length
         ·
          obtain ⟨ad2, ead2, hs0, hs1⟩ := at_T79 (Kd.R_reads' HO.out).2.2 (j : Int) (by omega) (by omega)
          subst ead2
          have HJT := aM hjt
          have hrd2 : rd_T79 l2 (j : Int) = l2[j]'HJT.out := RankP.rd_at l2 j hjt
          rw [Int.toNat_natCast, hrd2] at hs0 hs1
          have HST := aM (above_step z l2 j HJT.out)
          obtain ⟨x, hx⟩ : ∃ x, x = l2[j]'HJT.out := ⟨_, rfl⟩
          rw [← hx] at hs0 hs1 HST
          have hj2 : (j : Int) < (l2.length : Int) := by omega
          have hm2 : (m : Int) ≤ 1000 := by omega
          by_cases ht : z < x.f1
          ·
           have htb : decide (z < x.f1) = true := decide_eq_true ht
           rw [if_pos ht] at HST
           clear hrd2 hx hjt hj hm60
           go_wp2
           go_roundg (l2.length - (j + 1))
           case measure => have := HKQ3.out; have := HJT.out; omega
           case rel => exact ⟨j + 1, m + 1, by go_num, by go_num, HJT.out, rfl, ⟨by rw [HST.out, HMJ.out]⟩, ⟨blk_alloc HM.out _⟩, ⟨Kd.R_alloc HO.out _⟩, ⟨below_alloc HB.out _⟩⟩
          ·
           have htb : decide (z < x.f1) = false := decide_eq_false ht
           rw [if_neg ht] at HST
           clear hrd2 hx hjt hj hm60
           go_wp2
           go_roundg (l2.length - (j + 1))
           case measure => have := HKQ3.out; have := HJT.out; omega
           case rel => exact ⟨j + 1, m, rfl, by go_num, HJT.out, rfl, ⟨by rw [HST.out, HMJ.out]⟩, ⟨blk_alloc HM.out _⟩, ⟨Kd.R_alloc HO.out _⟩, ⟨below_alloc HB.out _⟩⟩
         ·
          obtain rfl : j = l2.length := by omega
          have HMA : Aside0 (m = above (thrD d L 0) (rowD L d L acc)) := ⟨by rw [HMJ.out, List.take_length, HZ2.out, HE2.out]⟩
          have HSTEP : Aside0 (ansT L k = if k ≤ m then ((l2.mergeSort le).take k, ((d + 1 : Nat) : Int)) else topI L k (D - (d + 1)) (d + 1) l2) := ⟨by
           rw [← HT.out, show D - d = (D - (d + 1)) + 1 by have := HLT.out; omega, HMA.out, HE2.out]
           rfl⟩
          clear hj hjt HMJ
          by_cases hkm : k ≤ m
          ·
           rw [if_pos hkm] at HSTEP
           have HBC := aM (fun W (hW : W = wr) => best_calls w (.slice A L.length c) w.heap.size (.slice Au l2.length cu) l2 k W (by rw [hW]; exact HB.out) (Nat.le_refl _) (by rw [hW]; exact HM.out) (by rw [hW]; exact HO.out) (by have := HL5.out; have := HF.out.1; have := HLT.out; have := HD60.out; omega) (by have := HK.out; omega))
           have HWS := aM HB.out.size
           clear hm60
           go_wp2_with (go_at_call 101; go_loud ((refine (HBC.out _ rfl).mono ?_); rintro e w7 ⟨v7, rfl, ho7, hb7⟩; have HO7 := aM ho7; have HB7 := aM hb7; clear ho7 hb7))
           go_ret2
           rw [HSTEP.out]
           exact ⟨_, rfl, Kd.R_lower HO7.out HWS.out, HB7.out⟩
          ·
           rw [if_neg hkm] at HSTEP
           clear hm60
           go_wp2
           go_roundg (D - (d + 1))
           case measure => have := HKQ.out; have := HLT.out; omega
           case rel => exact ⟨d + 1, _, l2, by go_num, HLT.out, rfl, HM, HO, HB, ⟨HSTEP.out.symm⟩, ⟨by have := HL5.out; have := HF.out.1; omega⟩⟩
     ·
      obtain rfl : d = D := by omega
      have HBC := aM (fun W (hW : W = wr) => best_calls w (.slice A L.length c) w.heap.size v acc k W (by rw [hW]; exact HB.out) (Nat.le_refl _) (by rw [hW]; exact HM.out) (by rw [hW]; exact HO.out) (by have := HLn.out; have := HD60.out; omega) (by have := HK.out; omega))
      have HWS := aM HB.out.size
      have HSTEP : Aside0 (ansT L k = ((acc.mergeSort le).take k, (d : Int))) := ⟨by rw [← HT.out, Nat.sub_self]; rfl⟩
      clear hdD hlt
      go_wp2_with (go_at_call 101; go_loud ((refine (HBC.out _ rfl).mono ?_); rintro e w7 ⟨v7, rfl, ho7, hb7⟩; have HO7 := aM ho7; have HB7 := aM hb7; clear ho7 hb7))
      go_ret2
      rw [HSTEP.out]
      exact ⟨_, rfl, Kd.R_lower HO7.out HWS.out, HB7.out⟩
end Go.Proofs.Ytaomjndfjmfelaa.TopB
end

section
namespace Go.Proofs.Ytaomjndfjmfelaa.TopB
set_option linter.unusedVariables false
set_option linter.unusedSimpArgs false
open Go.RowKit Go.Shelf Go.Lib Go.Sort Go.Proofs.Ytaomjndfjmfelaa.PQ Go.Proofs.YtaomjndfjmfelaaW.PrintWords Go.Proofs.YtaomjndfjmfelaaW.PrintLast Go.Proofs.YtaomjndfjmfelaaW.PrintMore Go.Proofs.Ytaomjndfjmfelaa.Pre Go.Proofs.Ytaomjndfjmfelaa.SoB
set_option maxRecDepth 100000 in
set_option maxHeartbeats 2000000 in
theorem topBestI (L : List Rk) (A : Option Addr) (c : Nat) (a : Int) (w : World) (hr : Kd.C k77 w A L.length L) (hc : L.length ≤ c) :
  Calls Try.prog 55 #[.slice A L.length c, .int .i64 a] w fun e w' => ∃ v : Value, e = .returned (.tuple #[v, .int .i64 (ansTB L a).2.1, .bool (ansTB L a).2.2]) ∧ Kd.R k79 79 w' w.heap.size (fun _ => True) v (ansTB L a).1 ∧ Below w.heap.size w w' := by
 have HR := aM hr
 have HC := aM hc
 have HG := aM (RankG.goodR_calls A c L w hr hc)
 have HWI := aM (fun W (b : Bool) (hb : decide (0 ≤ a ∧ a ≤ 60) = b) => Rank.within_calls a 0 60 b W hb)
 by_cases hg : RankG.good L = true
 ·
  have HGF := aM (good_facts hg)
  rw [hg] at HG
  by_cases hk : 0 ≤ a ∧ a ≤ 60
  ·
   have hans : ansTB L a = ((ansT L a.toNat).1, (ansT L a.toNat).2, true) := by unfold ansTB; rw [if_pos ⟨hg, hk⟩]
   rw [hans]
   obtain ⟨n, rfl⟩ := Int.eq_ofNat_of_zero_le hk.1
   rw [Int.toNat_natCast]
   have HKD := aM (show decide (0 ≤ (n : Int) ∧ (n : Int) ≤ 60) = true from decide_eq_true hk)
   have HN : Aside0 (n ≤ 60) := ⟨by omega⟩
   clear hr hc hg hk hans
   go_enter Try.func55, Try.ntmps55
   go_wp2_with (first | (go_at_call 58; go_loud ((with_reducible refine HG.out.mono ?_); rintro e w1 ⟨rfl, hb1⟩; have HB1 := aM hb1; clear hb1)) | (go_at_call 88; go_loud ((with_reducible refine (HWI.out _ true HKD.out).mono ?_); rintro e w2 ⟨rfl, hb2⟩; have HB2 := aM (below_step HB1.out hb2); clear hb2)) | (go_at_call 107; go_loud ((with_reducible refine (topBest_calls L A c n _ (Kd.C_below HR.out HB2.out) HC.out HGF.out.1 HGF.out.2 HN.out).mono ?_); rintro e w3 ⟨v3, rfl, ho3, hb3⟩; have HO3 := aM ho3; have HB3 := aM (below_step HB2.out hb3); clear ho3 hb3)))
   go_ret3
   exact ⟨_, rfl, Kd.R_lower HO3.out HB2.out.size, HB3.out⟩
  ·
   have hans : ansTB L a = ([], 0, false) := by unfold ansTB; rw [if_neg (fun h => hk h.2)]
   rw [hans]
   have HKD := aM (show decide (0 ≤ a ∧ a ≤ 60) = false from decide_eq_false hk)
   clear hr hc hg hk hans
   go_enter Try.func55, Try.ntmps55
   go_wp2_with (first | (go_at_call 58; go_loud ((with_reducible refine HG.out.mono ?_); rintro e w1 ⟨rfl, hb1⟩; have HB1 := aM hb1; clear hb1)) | (go_at_call 88; go_loud ((with_reducible refine (HWI.out _ false HKD.out).mono ?_); rintro e w2 ⟨rfl, hb2⟩; have HB2 := aM (below_step HB1.out hb2); clear hb2)))
   go_ret3
   exact ⟨_, rfl, Kd.R_nil _ _ _ _ _, HB2.out⟩
 ·
  have hans : ansTB L a = ([], 0, false) := by unfold ansTB; rw [if_neg (fun h => hg h.1)]
  rw [hans]
  rw [Bool.not_eq_true] at hg
  rw [hg] at HG
  clear hr hc hg hans
  go_enter Try.func55, Try.ntmps55
  go_wp2_with (go_at_call 58; go_loud ((with_reducible refine HG.out.mono ?_); rintro e w1 ⟨rfl, hb1⟩; have HB1 := aM hb1; clear hb1))
  go_ret3
  exact ⟨_, rfl, Kd.R_nil _ _ _ _ _, HB1.out⟩
end Go.Proofs.Ytaomjndfjmfelaa.TopB
end

section
namespace Go.Proofs.Ytaomjndfjmfelaa.SoB
set_option linter.unusedVariables false
set_option linter.unusedSimpArgs false
open Go.RowKit Go.Shelf Go.Lib Go.Sort Go.Proofs.Ytaomjndfjmfelaa.PQ Go.Proofs.YtaomjndfjmfelaaW.PrintWords Go.Proofs.YtaomjndfjmfelaaW.PrintLast Go.Proofs.YtaomjndfjmfelaaW.PrintMore Go.Proofs.Ytaomjndfjmfelaa.Pre
set_option maxRecDepth 100000 in
set_option maxHeartbeats 2000000 in
theorem allBest_no (L : List Rk) (A : Option Addr) (c : Nat) (k : Int) (w : World) (hr : Kd.C k77 w A L.length L) (hc : L.length ≤ c) (h : ¬ (RankG.good L = true ∧ (0 ≤ k ∧ k ≤ 60))) :
  Calls Try.prog 48 #[.slice A L.length c, .int .i64 k] w fun e w' => ∃ v : Value, e = .returned (.tuple #[v, .bool false]) ∧ Kd.R k79 79 w' w.heap.size (fun _ => True) v [] ∧ Below w.heap.size w w' := by
 have HG := aM (RankG.goodR_calls A c L w hr hc)
 by_cases hg : RankG.good L = true
 ·
  rw [hg] at HG
  have HWI := aM (fun W => Rank.within_calls k 0 60 false W (decide_eq_false (fun h2 => h ⟨hg, h2⟩)))
  clear hr hc hg h
  go_enter Try.func48, Try.ntmps48
  go_wp2_with (first | (go_at_call 58; go_loud ((with_reducible refine HG.out.mono ?_); rintro e w1 ⟨rfl, hb1⟩; have HB1 := aM hb1; clear hb1)) | (go_at_call 88; go_loud ((with_reducible refine (HWI.out _).mono ?_); rintro e w2 ⟨rfl, hb2⟩; have HB2 := aM (below_step HB1.out hb2); clear hb2)))
  go_ret2
  exact ⟨_, rfl, Kd.R_nil _ _ _ _ _, HB2.out⟩
 ·
  rw [Bool.not_eq_true] at hg
  rw [hg] at HG
  clear hr hc hg h
  go_enter Try.func48, Try.ntmps48
  go_wp2_with (go_at_call 58; go_loud ((with_reducible refine HG.out.mono ?_); rintro e w1 ⟨rfl, hb1⟩; have HB1 := aM hb1; clear hb1))
  go_ret2
  exact ⟨_, rfl, Kd.R_nil _ _ _ _ _, HB1.out⟩
/-- impl.AllBest. -/
theorem allBestI (L : List Rk) (A : Option Addr) (c : Nat) (k : Int) (w : World) (hr : Kd.C k77 w A L.length L) (hc : L.length ≤ c) :
  Calls Try.prog 48 #[.slice A L.length c, .int .i64 k] w fun e w' => ∃ v : Value, e = .returned (.tuple #[v, .bool (ansAB L k).2]) ∧ Kd.R k79 79 w' w.heap.size (fun _ => True) v (ansAB L k).1 ∧ Below w.heap.size w w' := by
 unfold ansAB
 by_cases h : RankG.good L = true ∧ (0 ≤ k ∧ k ≤ 60)
 ·
  rw [if_pos h]
  obtain ⟨n, rfl⟩ := Int.eq_ofNat_of_zero_le h.2.1
  rw [Int.toNat_natCast]
  exact allBest_yes L A c n w hr hc h.1 (by omega)
 ·
  rw [if_neg h]
  exact allBest_no L A c k w hr hc h
end Go.Proofs.Ytaomjndfjmfelaa.SoB
end

section
namespace Go.Proofs.Ytaomjndfjmfelaa.TopB
set_option linter.unusedVariables false
set_option linter.unusedSimpArgs false
open Go.RowKit Go.Sort Go.Proofs.Ytaomjndfjmfelaa.PQ Go.Proofs.YtaomjndfjmfelaaW.PrintWords Go.Proofs.YtaomjndfjmfelaaW.PrintLast Go.Proofs.Ytaomjndfjmfelaa.Pre
/-- What is met of a row of ids. -/
def metF (L : List Rk) (ids : List Int) (acc : List Sc) : List Sc := ids.foldl (fun a id => Meet.met L id a) acc
def mk (L : List Rk) (id : Int) : Sc := ⟨id, RankS.sumR id L⟩
theorem metR_F (L : List Rk) : ∀ (l : List Sc) (acc : List Sc), SoB.metR L l acc = metF L (l.map (·.f0)) acc
 | [], acc => rfl
 | s :: l, acc => metR_F L l (Meet.met L s.f0 acc)
theorem metF_app (L : List Rk) (a b : List Int) (acc : List Sc) : metF L (a ++ b) acc = metF L b (metF L a acc) := by
 unfold metF
 rw [List.foldl_append]
theorem metA_F (L : List Rk) : ∀ (l : List Rk) (acc : List Sc), SoB.metA L l acc = metF L (l.flatMap (fun r => r.f0.map (·.f0))) acc
 | [], acc => rfl
 | r :: l, acc => by
  rw [List.flatMap_cons, metF_app, ← metR_F]
  exact metA_F L l (SoB.metR L r.f0 acc)
def seqD (d : Nat) (l : List Rk) : List Int := l.flatMap (fun r => if h : d < r.f0.length then [(r.f0[d]).f0] else [])
theorem rowD_F (L : List Rk) (d : Nat) : ∀ (l : List Rk) (acc : List Sc), rowD L d l acc = metF L (seqD d l) acc
 | [], acc => rfl
 | r :: l, acc => by
  rw [rowD_cons, rowD_F L d l]
  unfold seqD
  rw [List.flatMap_cons, metF_app]
  split <;> rfl
/-- The met list is made of unlike ids, all of them and no others. -/
def Met (L : List Rk) (P : Int → Prop) (acc : List Sc) : Prop := ∃ ids : List Int, ids.Nodup ∧ (∀ i, i ∈ ids ↔ P i) ∧ acc = ids.map (mk L)
theorem met_nil (L : List Rk) : Met L (fun _ => False) [] := ⟨[], List.nodup_nil, fun i => by simp, rfl⟩
theorem any_is (L : List Rk) (id : Int) (ids : List Int) : (ids.map (mk L)).any (Meet.isId id) = true ↔ id ∈ ids := by
 rw [List.any_eq_true]
 constructor
 ·
  rintro ⟨x, hx, h⟩
  obtain ⟨i, hi, rfl⟩ := List.mem_map.1 hx
  unfold Meet.isId mk at h
  have : i = id := by simpa using h
  rw [← this]
  exact hi
 ·
  intro h
  refine ⟨mk L id, List.mem_map.2 ⟨id, h, rfl⟩, ?_⟩
  unfold Meet.isId mk
  simp
theorem Met.met {L : List Rk} {P : Int → Prop} {acc : List Sc} (h : Met L P acc) (id : Int) : Met L (fun i => P i ∨ i = id) (Meet.met L id acc) := by
 obtain ⟨ids, hn, hm, rfl⟩ := h
 unfold Meet.met
 by_cases hi : id ∈ ids
 ·
  rw [if_pos ((any_is L id ids).2 hi)]
  refine ⟨ids, hn, fun i => ⟨fun h => .inl ((hm i).1 h), fun h => ?_⟩, rfl⟩
  rcases h with h | rfl
  ·
   exact (hm i).2 h
  ·
   exact hi
 ·
  rw [if_neg (fun h => hi ((any_is L id ids).1 h))]
  refine ⟨ids ++ [id], ?_, fun i => ?_, by rw [List.map_append]; rfl⟩
  ·
   rw [List.nodup_append]
   refine ⟨hn, by simp, fun a ha b hb => ?_⟩
   rw [List.mem_singleton] at hb
   rintro rfl
   exact hi (hb ▸ ha)
  ·
   rw [List.mem_append, List.mem_singleton, hm]
theorem Met.metF {L : List Rk} : ∀ (ids : List Int) {P : Int → Prop} {acc : List Sc}, Met L P acc → Met L (fun i => P i ∨ i ∈ ids) (metF L ids acc)
 | [], P, acc, h => by
  obtain ⟨l, hn, hm, e⟩ := h
  exact ⟨l, hn, fun i => by rw [hm]; simp, e⟩
 | id :: ids, P, acc, h => by
  obtain ⟨l, hn, hm, e⟩ := (h.met id).metF ids
  refine ⟨l, hn, fun i => ?_, e⟩
  rw [hm]
  show ((P i ∨ i = id) ∨ i ∈ ids) ↔ (P i ∨ i ∈ id :: ids)
  rw [List.mem_cons, or_assoc]
theorem Met.congr {L : List Rk} {P Q : Int → Prop} {acc : List Sc} (h : Met L P acc) (e : ∀ i, P i ↔ Q i) : Met L Q acc := by
 obtain ⟨l, hn, hm, h⟩ := h
 exact ⟨l, hn, fun i => by rw [hm, e], h⟩
theorem Met.perm {L : List Rk} {P : Int → Prop} {a b : List Sc} (ha : Met L P a) (hb : Met L P b) : a.Perm b := by
 obtain ⟨l, hn, hm, rfl⟩ := ha
 obtain ⟨l2, hn2, hm2, rfl⟩ := hb
 refine List.Perm.map _ ((List.perm_ext_iff_of_nodup hn hn2).2 (fun i => ?_))
 rw [hm, hm2]
theorem Met.sort {L : List Rk} {P : Int → Prop} {a b : List Sc} (ha : Met L P a) (hb : Met L P b) : a.mergeSort SoB.le = b.mergeSort SoB.le :=
 SoB.ord_uniq ((List.mergeSort_perm a SoB.le).trans ((ha.perm hb).trans (List.mergeSort_perm b SoB.le).symm)) (SoB.ord_sort a) (SoB.ord_sort b)
/-- Behind k that are more than t nothing else counts. -/
theorem take_sort (t : Int) (k : Nat) (A B : List Sc) (hA : k ≤ above t A) (hB : ∀ y ∈ B, y.f1 ≤ t) : ((A ++ B).mergeSort SoB.le).take k = (A.mergeSort SoB.le).take k := by
 obtain ⟨S, hS⟩ : ∃ S, S = A.mergeSort SoB.le := ⟨_, rfl⟩
 have hO : SoB.Ord S := by rw [hS]; exact SoB.ord_sort A
 have hP : S.Perm A := by rw [hS]; exact List.mergeSort_perm A SoB.le
 have hk : k ≤ above t S := by rw [hS, above_sort]; exact hA
 have hlen : k ≤ S.length := Nat.le_trans hk List.countP_le_length
 have hfirst : ∀ a ∈ S.take k, t < a.f1 := by
  intro a ha
  obtain ⟨i, hi, rfl⟩ := List.mem_iff_getElem.1 ha
  rw [List.length_take] at hi
  rw [List.getElem_take]
  obtain ⟨_, h⟩ := (above_iff t S i (ord_falls hO)).1 (by omega)
  exact h
 have hSk : SoB.Ord (S.take k) := List.Pairwise.sublist (List.take_sublist k S) hO
 have hsp : (A ++ B).mergeSort SoB.le = S.take k ++ (S.drop k ++ B).mergeSort SoB.le := by
  refine SoB.ord_uniq ?_ (SoB.ord_sort _) ?_
  ·
   refine (List.mergeSort_perm _ _).trans ?_
   refine List.Perm.trans ?_ (List.Perm.append_left (S.take k) (List.mergeSort_perm (S.drop k ++ B) SoB.le).symm)
   rw [← List.append_assoc, List.take_append_drop]
   exact List.Perm.append_right B hP.symm
  ·
   refine List.pairwise_append.2 ⟨hSk, SoB.ord_sort _, fun a ha b hb => ?_⟩
   rcases List.mem_append.1 ((List.mergeSort_perm (S.drop k ++ B) SoB.le).subset hb) with hb | hb
   ·
    have h2 : SoB.Ord (S.take k ++ S.drop k) := by rw [List.take_append_drop]; exact hO
    exact (List.pairwise_append.1 h2).2.2 a ha b hb
   ·
    have h1 := hfirst a ha
    have h2 := hB b hb
    rw [SoB.le_iff]
    omega
 rw [hsp, hS, List.take_append_of_le_length (by rw [List.length_take, ← hS]; omega), List.take_take, Nat.min_self]
/-- A list of scores that fall, their ids unlike. -/
def Rank1 (l : List Sc) : Prop := l.Pairwise (fun a b => b.f1 ≤ a.f1 ∧ a.f0 ≠ b.f0) ∧ ∀ y ∈ l, 1 ≤ y.f1 ∧ y.f1 ≤ 1000000
def Ranks (L : List Rk) : Prop := L.length ≤ 5 ∧ ∀ x ∈ L, x.f0.length ≤ 60 ∧ Rank1 x.f0
theorem sum1_out (id : Int) : ∀ (l : List Sc) (s : Int), (∀ y ∈ l, y.f0 ≠ id) → RankS.sum1 id s l = s
 | [], s, _ => rfl
 | a :: l, s, h => by
  unfold RankS.sum1
  rw [List.foldl_cons, if_neg (h a (List.mem_cons_self ..))]
  exact sum1_out id l s (fun y hy => h y (List.mem_cons_of_mem _ hy))
theorem sum1_at (id : Int) : ∀ (l : List Sc) (s : Int) (j : Nat) (hj : j < l.length), l.Pairwise (fun a b => a.f0 ≠ b.f0) → l[j].f0 = id → RankS.sum1 id s l = wrap64 (s + l[j].f1)
 | a :: l, s, 0, hj, hp, h => by
  have h2 : a.f0 = id := h
  unfold RankS.sum1
  rw [List.foldl_cons, if_pos h2]
  refine sum1_out id l _ (fun y hy e => (List.pairwise_cons.1 hp).1 y hy ?_)
  rw [e]
  exact h2
 | a :: l, s, j + 1, hj, hp, h => by
  have hj2 : j < l.length := by simpa using hj
  have h2 : l[j].f0 = id := h
  unfold RankS.sum1
  rw [List.foldl_cons, if_neg (fun e => (List.pairwise_cons.1 hp).1 _ (List.getElem_mem hj2) (by rw [e, h2]))]
  exact sum1_at id l s j hj2 (List.pairwise_cons.1 hp).2 h2
/-- Who was not met so far has no more than the threshold. -/
theorem sum_thr (id : Int) (d : Nat) : ∀ (l : List Rk) (s t : Int), l.length ≤ 5 → (∀ x ∈ l, Rank1 x.f0) → (∀ x ∈ l, ∀ j (h : j < x.f0.length), j ≤ d → x.f0[j].f0 ≠ id) → 0 ≤ s → s ≤ t → t + (l.length : Int) * 1000000 ≤ 10000000 →
  l.foldl (fun s x => RankS.sum1 id s x.f0) s ≤ thrD d l t
 | [], s, t, _, _, _, _, h, _ => h
 | r :: l, s, t, hl, hR, hN, h0, hst, ht => by
  rw [List.length_cons] at hl ht
  rw [List.foldl_cons, thrD_cons]
  have hr := hR r (List.mem_cons_self ..)
  have hn := hN r (List.mem_cons_self ..)
  have hR2 := fun x hx => hR x (List.mem_cons_of_mem _ hx)
  have hN2 := fun x hx => hN x (List.mem_cons_of_mem _ hx)
  have hne : r.f0.Pairwise (fun a b => a.f0 ≠ b.f0) := hr.1.imp (fun h => h.2)
  by_cases hm : ∃ j, ∃ h : j < r.f0.length, r.f0[j].f0 = id
  ·
   obtain ⟨j, hj, e⟩ := hm
   have hdj : d < j := Nat.lt_of_not_le (fun h => hn j hj h e)
   have hd : d < r.f0.length := by omega
   have h1 := (hr.2 _ (List.getElem_mem hj))
   have h2 := (hr.2 _ (List.getElem_mem hd))
   have h3 := (List.pairwise_iff_getElem.1 hr.1 d j hd hj hdj).1
   rw [sum1_at id r.f0 s j hj hne e, dif_pos hd]
   obtain ⟨y, hy⟩ : ∃ y, y = r.f0[j].f1 := ⟨_, rfl⟩
   obtain ⟨z, hz⟩ : ∃ z, z = (r.f0[d]).f1 := ⟨_, rfl⟩
   rw [← hy] at h1 h3 ⊢
   rw [← hz] at h2 h3 ⊢
   rw [w64 (n := s + y) (by omega) (by omega), w64 (n := t + z) (by omega) (by omega)]
   exact sum_thr id d l _ _ (by omega) hR2 hN2 (by omega) (by omega) (by omega)
  ·
   rw [sum1_out id r.f0 s (fun y hy e => by
    obtain ⟨j, hj, rfl⟩ := List.mem_iff_getElem.1 hy
    exact hm ⟨j, hj, e⟩)]
   by_cases hd : d < r.f0.length
   ·
    have h2 := (hr.2 _ (List.getElem_mem hd))
    rw [dif_pos hd]
    obtain ⟨z, hz⟩ : ∃ z, z = (r.f0[d]).f1 := ⟨_, rfl⟩
    rw [← hz] at h2 ⊢
    rw [w64 (n := t + z) (by omega) (by omega)]
    exact sum_thr id d l _ _ (by omega) hR2 hN2 h0 (by omega) (by omega)
   ·
    rw [dif_neg hd]
    exact sum_thr id d l _ _ (by omega) hR2 hN2 h0 hst (by omega)
/-- Those at depths below d. -/
def Upto (L : List Rk) (d : Nat) (i : Int) : Prop := ∃ r ∈ L, ∃ j, ∃ h : j < r.f0.length, j < d ∧ r.f0[j].f0 = i
theorem mem_seq (L : List Rk) (d : Nat) (i : Int) : i ∈ seqD d L ↔ ∃ r ∈ L, ∃ h : d < r.f0.length, r.f0[d].f0 = i := by
 unfold seqD
 rw [List.mem_flatMap]
 constructor
 ·
  rintro ⟨r, hr, h⟩
  refine ⟨r, hr, ?_⟩
  split at h
  ·
   rename_i hd
   exact ⟨hd, (List.mem_singleton.1 h).symm⟩
  ·
   cases h
 ·
  rintro ⟨r, hr, hd, e⟩
  refine ⟨r, hr, ?_⟩
  rw [dif_pos hd]
  exact List.mem_singleton.2 e.symm
theorem upto_step (L : List Rk) (d : Nat) (i : Int) : (Upto L d i ∨ i ∈ seqD d L) ↔ Upto L (d + 1) i := by
 rw [mem_seq]
 constructor
 ·
  rintro (⟨r, hr, j, hj, hd, e⟩ | ⟨r, hr, hd, e⟩)
  ·
   exact ⟨r, hr, j, hj, by omega, e⟩
  ·
   exact ⟨r, hr, d, hd, by omega, e⟩
 ·
  rintro ⟨r, hr, j, hj, hd, e⟩
  by_cases h : j = d
  ·
   subst h
   exact .inr ⟨r, hr, hj, e⟩
  ·
   exact .inl ⟨r, hr, j, hj, by omega, e⟩
def Any (L : List Rk) (i : Int) : Prop := ∃ r ∈ L, ∃ y ∈ r.f0, y.f0 = i
theorem metA_met (L : List Rk) : Met L (Any L) (SoB.metA L L []) := by
 rw [metA_F]
 refine ((met_nil L).metF _).congr (fun i => ?_)
 rw [List.mem_flatMap]
 constructor
 ·
  rintro (h | ⟨r, hr, h⟩)
  ·
   cases h
  ·
   obtain ⟨y, hy, e⟩ := List.mem_map.1 h
   exact ⟨r, hr, y, hy, e⟩
 ·
  rintro ⟨r, hr, y, hy, e⟩
  exact .inr ⟨r, hr, List.mem_map.2 ⟨y, hy, e⟩⟩
theorem upto_all (L : List Rk) (i : Int) : Upto L (depths L) i ↔ Any L i := by
 constructor
 ·
  rintro ⟨r, hr, j, hj, _, e⟩
  exact ⟨r, hr, _, List.getElem_mem hj, e⟩
 ·
  rintro ⟨r, hr, y, hy, e⟩
  obtain ⟨j, hj, rfl⟩ := List.mem_iff_getElem.1 hy
  exact ⟨r, hr, j, hj, Nat.lt_of_lt_of_le hj ((le_depths L 0).2 r hr), e⟩
theorem topI_all (L : List Rk) (hR : Ranks L) (k : Nat) : ∀ (n d : Nat) (acc : List Sc), d + n = depths L → Met L (Upto L d) acc → (topI L k n d acc).1 = ((SoB.metA L L []).mergeSort SoB.le).take k
 | 0, d, acc, hd, hm => by
  have : d = depths L := by omega
  subst this
  show (acc.mergeSort SoB.le).take k = _
  rw [(hm.congr (upto_all L)).sort (metA_met L)]
 | n + 1, d, acc, hd, hm => by
  have hm2 : Met L (Upto L (d + 1)) (rowD L d L acc) := by
   rw [rowD_F]
   exact (hm.metF _).congr (upto_step L d)
  show (if _ then _ else _ : List Sc × Int).1 = _
  by_cases ha : k ≤ above (thrD d L 0) (rowD L d L acc)
  ·
   rw [if_pos ha]
   obtain ⟨ids, hn, hmi, he⟩ := hm2
   obtain ⟨all, hn2, hmi2, he2⟩ := metA_met L
   obtain ⟨rest, hrest⟩ : ∃ rest, rest = all.filter (fun i => decide (i ∉ ids)) := ⟨_, rfl⟩
   have hperm : all.Perm (ids ++ rest) := by
    refine (List.perm_ext_iff_of_nodup hn2 ?_).2 (fun i => ?_)
    ·
     rw [List.nodup_append]
     refine ⟨hn, by rw [hrest]; exact hn2.filter _, fun a ha b hb => ?_⟩
     rintro rfl
     rw [hrest, List.mem_filter, decide_eq_true_eq] at hb
     exact hb.2 ha
    ·
     rw [List.mem_append, hrest, List.mem_filter, decide_eq_true_eq]
     constructor
     ·
      intro h
      by_cases h2 : i ∈ ids
      ·
       exact .inl h2
      ·
       exact .inr ⟨h, h2⟩
     ·
      rintro (h | ⟨h, _⟩)
      ·
       rw [hmi2]
       obtain ⟨r, hr, j, hj, _, e⟩ := (hmi i).1 h
       exact ⟨r, hr, _, List.getElem_mem hj, e⟩
      ·
       exact h
   have hsort : (SoB.metA L L []).mergeSort SoB.le = (ids.map (mk L) ++ rest.map (mk L)).mergeSort SoB.le := by
    rw [he2]
    have hp : (all.map (mk L)).Perm (ids.map (mk L) ++ rest.map (mk L)) := by
     rw [← List.map_append]
     exact hperm.map _
    exact SoB.ord_uniq ((List.mergeSort_perm _ SoB.le).trans (hp.trans (List.mergeSort_perm _ SoB.le).symm)) (SoB.ord_sort _) (SoB.ord_sort _)
   rw [hsort, he]
   refine (take_sort (thrD d L 0) k _ _ (by rw [← he]; exact ha) (fun y hy => ?_)).symm
   obtain ⟨i, hi, rfl⟩ := List.mem_map.1 hy
   rw [hrest, List.mem_filter, decide_eq_true_eq, hmi] at hi
   refine sum_thr i d L 0 0 hR.1 (fun x hx => (hR.2 x hx).2) (fun x hx j hj hjd e => hi.2 ⟨x, hx, j, hj, by omega, e⟩) (Int.le_refl _) (Int.le_refl _) ?_
   have := hR.1
   omega
  ·
   rw [if_neg ha]
   exact topI_all L hR k n (d + 1) _ (by omega) hm2
theorem ansT_all (L : List Rk) (hR : Ranks L) (k : Nat) : (ansT L k).1 = ((SoB.metA L L []).mergeSort SoB.le).take k := by
 unfold ansT
 by_cases h : k = 0
 ·
  rw [if_pos h, h, List.take_zero]
 ·
  rw [if_neg h]
  refine topI_all L hR k (depths L) 0 [] (by omega) ((met_nil L).congr (fun i => ⟨fun h => h.elim, ?_⟩))
  rintro ⟨r, hr, j, hj, hd, _⟩
  exact Nat.not_lt_zero _ hd
theorem good_list {l : List Sc} (h : Rank.rankOK l = true) : l.length ≤ 60 ∧ Rank1 l := by
 unfold Rank.rankOK at h
 rw [Bool.and_eq_true, decide_eq_true_eq, List.all_eq_true] at h
 obtain ⟨h60, h⟩ := h
 have hat : ∀ i (hi : i < l.length), (0 ≤ l[i].f0 ∧ l[i].f0 ≤ 1000) ∧ (1 ≤ l[i].f1 ∧ l[i].f1 ≤ 1000000) ∧ l[i].f0 ∉ (l.take i).map (·.f0) ∧ (∀ h0 : 0 < i, l[i].f1 ≤ (l[i - 1]'(by omega)).f1) := by
  intro i hi
  have h4 := h i (List.mem_range.2 hi)
  unfold Rank.entryOK at h4
  simp only [Bool.and_eq_true, decide_eq_true_eq, Bool.not_eq_true', decide_eq_false_iff_not, Bool.or_eq_true] at h4
  rw [RankP.rd_at l i hi] at h4
  refine ⟨h4.1.1.1, h4.1.1.2, h4.1.2, fun h0 => ?_⟩
  rcases h4.2 with h5 | h5
  ·
   omega
  ·
   rw [show (i : Int) - 1 = ((i - 1 : Nat) : Int) by omega, RankP.rd_at l (i - 1) (by omega)] at h5
   omega
 have hfall : ∀ (n i : Nat) (hj : i + n < l.length), l[i + n].f1 ≤ (l[i]'(by omega)).f1 := by
  intro n
  induction n with
  | zero => intro i hj; exact Int.le_refl _
  | succ n ih =>
   intro i hj
   have h1 := ih i (by omega)
   have h2 := (hat (i + (n + 1)) hj).2.2.2 (by omega)
   have e : (l[i + (n + 1) - 1]'(by omega)) = l[i + n]'(by omega) := by congr 1
   rw [e] at h2
   omega
 refine ⟨h60, List.pairwise_iff_getElem.2 (fun i j hi hj hij => ⟨?_, fun e => ?_⟩), fun y hy => ?_⟩
 ·
  have := hfall (j - i) i (by omega)
  have e : (l[i + (j - i)]'(by omega)) = l[j] := by congr 1; omega
  rw [e] at this
  exact this
 ·
  refine (hat j hj).2.2.1 (List.mem_map.2 ⟨l[i], ?_, e⟩)
  rw [List.mem_take_iff_getElem]
  exact ⟨i, by omega, rfl⟩
 ·
  obtain ⟨i, hi, rfl⟩ := List.mem_iff_getElem.1 hy
  exact (hat i hi).2.1
theorem good_ranks {L : List Rk} (h : RankG.good L = true) : Ranks L := by
 unfold RankG.good at h
 rw [Bool.and_eq_true, decide_eq_true_eq, Bool.not_eq_true', List.any_eq_false] at h
 refine ⟨h.1, fun x hx => ?_⟩
 have h3 := h.2 x hx
 unfold RankG.bad at h3
 exact good_list (by simpa using h3)
/-- One of the best few: its id stands in a list, its score is the sum. -/
theorem best_mem (L : List Rk) (k : Nat) (s : Sc) (h : s ∈ ((SoB.metA L L []).mergeSort SoB.le).take k) : s.f1 = RankS.sumR s.f0 L ∧ Any L s.f0 := by
 have h2 := (List.mergeSort_perm _ SoB.le).subset (List.mem_of_mem_take h)
 obtain ⟨ids, _, hm, e⟩ := metA_met L
 rw [e] at h2
 obtain ⟨i, hi, rfl⟩ := List.mem_map.1 h2
 exact ⟨rfl, (hm i).1 hi⟩
theorem any_id {L : List Rk} (h : RankG.good L = true) {i : Int} (ha : Any L i) : 0 ≤ i ∧ i ≤ 1000 := by
 obtain ⟨r, hr, y, hy, rfl⟩ := ha
 have := good_scores h r hr y hy
 exact ⟨this.1, this.2.1⟩
/-- The best few fall. -/
theorem best_falls (L : List Rk) (k i : Nat) (h : i + 1 < (((SoB.metA L L []).mergeSort SoB.le).take k).length) : ((((SoB.metA L L []).mergeSort SoB.le).take k)[i + 1]).f1 ≤ ((((SoB.metA L L []).mergeSort SoB.le).take k)[i]'(by omega)).f1 := by
 have h1 : (((SoB.metA L L []).mergeSort SoB.le).take k).Pairwise (fun a b => b.f1 ≤ a.f1) := (ord_falls (SoB.ord_sort _)).sublist (List.take_sublist _ _)
 exact List.pairwise_iff_getElem.1 h1 i (i + 1) (by omega) h (by omega)
/-- Nobody else has more. -/
theorem best_rest (L : List Rk) (k : Nat) (hk : 0 < k) (hl : (((SoB.metA L L []).mergeSort SoB.le).take k).length = k) (i : Int) (ha : Any L i) (hn : ∀ o ∈ ((SoB.metA L L []).mergeSort SoB.le).take k, o.f0 ≠ i) :
  RankS.sumR i L ≤ ((((SoB.metA L L []).mergeSort SoB.le).take k)[k - 1]'(by omega)).f1 := by
 obtain ⟨S, hS⟩ : ∃ S, S = (SoB.metA L L []).mergeSort SoB.le := ⟨_, rfl⟩
 simp only [← hS] at hl hn ⊢
 have hO : SoB.Ord S := by rw [hS]; exact SoB.ord_sort _
 have hm : mk L i ∈ S := by
  rw [hS]
  refine (List.mergeSort_perm _ SoB.le).symm.subset ?_
  obtain ⟨ids, _, hm, e⟩ := metA_met L
  rw [e]
  exact List.mem_map.2 ⟨i, (hm i).2 ha, rfl⟩
 have h2 : mk L i ∈ S.take k ++ S.drop k := by rw [List.take_append_drop]; exact hm
 rcases List.mem_append.1 h2 with h2 | h2
 ·
  exact absurd rfl (hn _ h2)
 ·
  have h3 : SoB.Ord (S.take k ++ S.drop k) := by rw [List.take_append_drop]; exact hO
  have h4 := (List.pairwise_append.1 h3).2.2 _ (List.getElem_mem (show k - 1 < (S.take k).length by omega)) _ h2
  rw [SoB.le_iff] at h4
  have e : (mk L i).f1 = RankS.sumR i L := rfl
  rw [e] at h4
  omega
theorem topI_d (L : List Rk) (k : Nat) : ∀ (n d : Nat) (acc : List Sc), d + n = depths L → 0 ≤ (topI L k n d acc).2 ∧ (topI L k n d acc).2 ≤ (depths L : Int)
 | 0, d, acc, h => by
  unfold topI
  show 0 ≤ (d : Int) ∧ (d : Int) ≤ (depths L : Int)
  omega
 | n + 1, d, acc, h => by
  unfold topI
  split
  ·
   show 0 ≤ ((d + 1 : Nat) : Int) ∧ ((d + 1 : Nat) : Int) ≤ (depths L : Int)
   omega
  ·
   exact topI_d L k n (d + 1) _ (by omega)
theorem ansT_d (L : List Rk) (k : Nat) : (ansT L k).2 ≤ (depths L : Int) := by
 unfold ansT
 split
 ·
  show (0 : Int) ≤ _
  omega
 ·
  exact (topI_d L k (depths L) 0 [] (by omega)).2
end Go.Proofs.Ytaomjndfjmfelaa.TopB
end

section
namespace Go.Proofs.Ytaomjndfjmfelaa.Drk
set_option linter.unusedVariables false
set_option linter.unusedSimpArgs false
open Go.RowKit Go.Proofs.Ytaomjndfjmfelaa.PQ Go.Proofs.YtaomjndfjmfelaaW.PrintWords Go.Proofs.YtaomjndfjmfelaaW.PrintLast Go.Proofs.Ytaomjndfjmfelaa.Pre Go.Proofs.Ytaomjndfjmfelaa.Cur
abbrev Sc := SoB.Sc
abbrev Rk := SoB.Rk
theorem list_ev {l : List Int} (hb : Bytes l) (x3 : List Rk) (h3 : x3.length ≤ 100) (x4 : Int) : ∀ (m : Nat) (acc : List Sc) (a s : Int), m ≤ 100 → acc.length + m ≤ 100 → 0 ≤ a → a + 4 * (m : Int) ≤ 2000000000 →
  ∃ (a' s' : Int) (acc' : List Sc), acc'.length ≤ acc.length + m ∧ a ≤ a' ∧ a' ≤ a + 4 * m ∧ ∀ r, Evt (fun k => spec_l1Cur_rankings.l0 k (x3 ++ [(⟨acc'⟩ : Rk)]) (wrap64 (x4 - 1)) l a' s') r → Evt (fun k => spec_l1Cur_rankings.l1 k x3 x4 (m : Int) l a s acc) r
 | 0, acc, a, s, hm, ha, h0, h1 => ⟨a, s, acc, Nat.le_refl _, Int.le_refl _, by omega, fun r h => Evt.step (fun k => spec_l1Cur_rankings.l1.eq_2 _ _ _ _ _ _ _ k) (Evt.neg (by omega) (Evt.pos (by omega) h))⟩
 | m + 1, acc, a, s, hm, ha, h0, h1 => by
  obtain ⟨x, a1, s1, e1, hx0, hx1, ha1, ha2⟩ := pick_ev hb a s 12 h0 (by omega)
  obtain ⟨y, a2, s2, e2, hy0, hy1, hb1, hb2⟩ := pick_ev hb a1 s1 30 (by omega) (by omega)
  have hput := SoB.put_ev acc (by omega) x (wrap64 (1 + y))
  have hpl := SoB.putS_len acc ⟨x, wrap64 (1 + y)⟩
  obtain ⟨a', s', acc', hl, h2, h3', hr⟩ := list_ev hb x3 h3 x4 m (SoB.putS acc ⟨x, wrap64 (1 + y)⟩) a2 s2 (by omega) (by omega) (by omega) (by omega)
  refine ⟨a', s', acc', by omega, by omega, by omega, fun r h => ?_⟩
  refine Evt.step (fun k => spec_l1Cur_rankings.l1.eq_2 _ _ _ _ _ _ _ k) (Evt.pos (by omega) ?_)
  rw [e1]
  refine Evt.bsome ?_
  rw [e2]
  refine Evt.bsome (Evt.bind hput ?_)
  rw [w64 (n := ((m + 1 : Nat) : Int) - 1) (by omega) (by omega), show ((m + 1 : Nat) : Int) - 1 = (m : Int) by omega]
  exact hr r h
theorem lists_ev {l : List Int} (hb : Bytes l) : ∀ (m : Nat) (L : List Rk) (a s : Int), m ≤ 100 → L.length + m ≤ 100 → (∀ x ∈ L, x.f0.length ≤ 9) → 0 ≤ a → a ≤ 1000000 * (101 - m) →
  ∃ (L' : List Rk) (a' s' : Int), L'.length ≤ L.length + m ∧ (∀ x ∈ L', x.f0.length ≤ 9) ∧ 0 ≤ a' ∧ a' ≤ 1000000000 ∧ Evt (fun k => spec_l1Cur_rankings.l0 k L (m : Int) l a s) (L', a', s')
 | 0, L, a, s, hm, hL, hx, h0, h1 => by
  by_cases hp : 0 < L.length
  ·
   have hr0 : rd_T77 L 0 = L[0] := RankP.rd_atR L 0 hp
   by_cases hq : 0 < L[0].f0.length
   ·
    obtain ⟨x, a1, s1, e1, hx0, hx1, ha1, ha2⟩ := pick_ev hb a s 20 h0 (by omega)
    have eone : spec_l1Cur_one.f l a s 20 = some ((x == 0), a1, s1) := by
     unfold spec_l1Cur_one.f
     rw [e1]
     rfl
    by_cases hz : (x == 0) = true
    ·
     obtain ⟨y, a2, s2, e2, hy0, hy1, hb1, hb2⟩ := pick_ev hb a1 s1 3 (by omega) (by omega)
     have eam : spec_l1Cur_among.f l a1 s1 ([0, 1, 1000001] : List Int) = some (rd [0, 1, 1000001] y, a2, s2) := by
      unfold spec_l1Cur_among.f
      rw [show (([0, 1, 1000001] : List Int).length : Int) = 3 from rfl, e2]
      show (if 0 ≤ y then (if y < 3 then some _ else none) else none) = _
      rw [if_pos hy0, if_pos (by omega)]
     refine ⟨L.set (0 : Int).toNat (⟨L[0].f0.set (0 : Int).toNat (⟨(rd_T79 L[0].f0 0).f0, rd [0, 1, 1000001] y⟩ : Sc)⟩ : Rk), a2, s2, ?_, ?_, by omega, by omega, Evt.step (fun k => spec_l1Cur_rankings.l0.eq_2 _ _ _ _ _ k) (Evt.neg (by omega) (Evt.pos (by omega) (Evt.pos (by omega) ?_)))⟩
     ·
      rw [List.length_set]
      omega
     ·
      intro z hz2
      rcases List.mem_or_eq_of_mem_set hz2 with h | rfl
      ·
       exact hx z h
      ·
       show (L[0].f0.set _ _).length ≤ 9
       rw [List.length_set]
       exact hx _ (List.getElem_mem hp)
     ·
      rw [hr0]
      refine Evt.pos (by omega) ?_
      rw [eone]
      refine Evt.bsome (Evt.pos hz ?_)
      rw [eam]
      exact Evt.bsome (Evt.pos (by omega) (Evt.const _))
    ·
     refine ⟨L, a1, s1, by omega, hx, by omega, by omega, Evt.step (fun k => spec_l1Cur_rankings.l0.eq_2 _ _ _ _ _ k) (Evt.neg (by omega) (Evt.pos (by omega) (Evt.pos (by omega) ?_)))⟩
     rw [hr0]
     refine Evt.pos (by omega) ?_
     rw [eone]
     exact Evt.bsome (Evt.neg hz (Evt.const _))
   ·
    refine ⟨L, a, s, by omega, hx, by omega, by omega, Evt.step (fun k => spec_l1Cur_rankings.l0.eq_2 _ _ _ _ _ k) (Evt.neg (by omega) (Evt.pos (by omega) (Evt.pos (by omega) ?_)))⟩
    rw [hr0]
    exact Evt.neg (by omega) (Evt.const _)
  ·
   exact ⟨L, a, s, by omega, hx, by omega, by omega, Evt.step (fun k => spec_l1Cur_rankings.l0.eq_2 _ _ _ _ _ k) (Evt.neg (by omega) (Evt.neg (by omega) (Evt.const _)))⟩
 | m + 1, L, a, s, hm, hL, hx, h0, h1 => by
  obtain ⟨x, a1, s1, e1, hx0, hx1, ha1, ha2⟩ := pick_ev hb a s 9 h0 (by omega)
  obtain ⟨n, rfl⟩ := Int.eq_ofNat_of_zero_le hx0
  obtain ⟨a', s', acc', hl, h2, h3, hr⟩ := list_ev hb L (by omega) ((m + 1 : Nat) : Int) n [] a1 s1 (by omega) (by simp; omega) (by omega) (by omega)
  rw [List.length_nil] at hl
  obtain ⟨L', a2, s2, hL', hx', hz0, hz1, he⟩ := lists_ev hb m (L ++ [(⟨acc'⟩ : Rk)]) a' s' (by omega) (by rw [List.length_append, List.length_singleton]; omega) (fun z hz => by
   rcases List.mem_append.1 hz with hz | hz
   ·
    exact hx z hz
   ·
    rw [List.mem_singleton.1 hz]
    show acc'.length ≤ 9
    omega) (by omega) (by omega)
  rw [List.length_append, List.length_singleton] at hL'
  refine ⟨L', a2, s2, by omega, hx', hz0, hz1, Evt.step (fun k => spec_l1Cur_rankings.l0.eq_2 _ _ _ _ _ k) (Evt.pos (by omega) ?_)⟩
  rw [e1]
  refine Evt.bsome (hr _ ?_)
  rw [w64 (n := ((m + 1 : Nat) : Int) - 1) (by omega) (by omega), show ((m + 1 : Nat) : Int) - 1 = (m : Int) by omega]
  exact he
theorem rankings_ev {l : List Int} (hb : Bytes l) : ∃ (L : List Rk) (a' s' : Int), L.length ≤ 5 ∧ (∀ x ∈ L, x.f0.length ≤ 9) ∧ 0 ≤ a' ∧ a' ≤ 1000000000 ∧ Evt (fun k => spec_l1Cur_rankings.f k l 0 0) (L, a', s') := by
 unfold spec_l1Cur_rankings.f
 obtain ⟨x, a1, s1, e1, hx0, hx1, ha1, ha2⟩ := pick_ev hb 0 0 5 (by omega) (by omega)
 obtain ⟨n, rfl⟩ := Int.eq_ofNat_of_zero_le hx0
 obtain ⟨L', a2, s2, hL', hx', hz0, hz1, he⟩ := lists_ev hb n [] a1 s1 (by omega) (by simp; omega) (fun _ h => by cases h) (by omega) (by omega)
 rw [List.length_nil] at hL'
 refine ⟨L', a2, s2, by omega, hx', hz0, hz1, ?_⟩
 rw [e1]
 exact Evt.bsome he
end Go.Proofs.Ytaomjndfjmfelaa.Drk
end

section
namespace Go.Proofs.Ytaomjndfjmfelaa.LwTh
set_option linter.unusedVariables false
set_option linter.unusedSimpArgs false
open Go.RowKit Go.Proofs.Ytaomjndfjmfelaa.PQ Go.Proofs.YtaomjndfjmfelaaW.PrintWords Go.Proofs.YtaomjndfjmfelaaW.PrintLast Go.Proofs.YtaomjndfjmfelaaW.PrintMore Go.Proofs.Ytaomjndfjmfelaa.Pre Go.Proofs.Ytaomjndfjmfelaa.TopB
theorem same_ev (p : List Sc) (hl : p.length ≤ 1048576) : Evt (fun k => laws_sameScored.f k p p) true := by
 unfold laws_sameScored.f
 refine Evt.pos rfl ?_
 have key : ∀ (m i : Nat), i + m = p.length → Evt (fun k => laws_sameScored.l0 k p p (p.length : Int) (i : Int)) true := by
  intro m
  induction m with
  | zero => intro i hi; exact Evt.step (fun k => laws_sameScored.l0.eq_2 _ _ _ _ k) (Evt.neg (by omega) (Evt.const _))
  | succ m ih =>
   intro i hi
   refine Evt.step (fun k => laws_sameScored.l0.eq_2 _ _ _ _ k) (Evt.pos (by omega) (Evt.pos (by omega) (Evt.pos (by omega) (Evt.pos (by omega) (Evt.neg (by simp) ?_)))))
   rw [w64 (n := (i : Int) + 1) (by omega) (by omega)]
   exact ih (i + 1) (by omega)
 exact key p.length 0 (by omega)
theorem sumof_ev (L : List Rk) (hg : RankG.good L = true) (id : Int) (hi : 0 ≤ id ∧ id ≤ 1000) : Evt (fun k => impl_SumOf.f k L id) (RankS.sumR id L, true) := by
 have hR := good_ranks hg
 unfold impl_SumOf.f impl_GoodRankings.f
 refine Evt.bsome (Evt.pos hg ?_)
 rw [show impl_within.f id 0 1000 = some (decide (0 ≤ id ∧ id ≤ 1000)) by
  unfold impl_within.f
  rw [if_pos hi.1, decide_eq_true hi.2, decide_eq_true hi]]
 exact Evt.bsome (Evt.pos (decide_eq_true hi) (Evt.bind (RankS.impl_sumOf_ev id L (by have := hR.1; omega) (fun x hx => by have := (hR.2 x hx).1; omega)) (Evt.const _)))
theorem draw_ev {l : List Int} (hb : Cur.Bytes l) : ∃ (L : List Rk) (kk : Int), L.length ≤ 5 ∧ (∀ x ∈ L, x.f0.length ≤ 9) ∧ ∃ k, spec_DrawTopBest.f k l = some (L, kk) := by
 obtain ⟨L, a, s, h5, h9, h0, h1, he⟩ := Drk.rankings_ev hb
 obtain ⟨y, a2, s2, e2, hy0, hy1, _, _⟩ := Cur.pick_ev hb a s 8 h0 (by omega)
 have eam : spec_l1Cur_among.f l a s spec_DrawAllBest.nums = some (rd spec_DrawAllBest.nums y, a2, s2) := by
  unfold spec_l1Cur_among.f
  rw [show ((spec_DrawAllBest.nums).length : Int) = 8 from rfl, e2]
  show (if 0 ≤ y then (if y < 8 then some _ else none) else none) = _
  rw [if_pos hy0, if_pos (by omega)]
 refine ⟨L, rd spec_DrawAllBest.nums y, h5, h9, ?_⟩
 have h : Evt (fun k => spec_DrawTopBest.f k l) (L, rd spec_DrawAllBest.nums y) := by
  unfold spec_DrawTopBest.f spec_DrawAllBest.f
  refine Evt.bind (a := (L, rd spec_DrawAllBest.nums y)) (Evt.bind he ?_) (Evt.const _)
  rw [eam]
  exact Evt.bsome (Evt.const _)
 exact h.ex
theorem any_step (p : List Sc) (id : Int) (j : Nat) (h : j < p.length) : (p.take (j + 1)).any (fun o => o.f0 == id) = ((p.take j).any (fun o => o.f0 == id) || (p[j].f0 == id)) := by
 rw [SoB.take_last p j h, List.any_append]
 simp
set_option maxRecDepth 100000 in
set_option maxHeartbeats 16000000 in
theorem calls (A0 : Option Addr) (c0 : Nat) (l0 : List Int) (A1 : Option Addr) (c1 : Nat) (l1 : List Int) (w : World) (hr0 : Kd.C (Kd.int .u8) w A0 l0.length l0) (hc0 : l0.length ≤ c0) (hb0 : Cur.Bytes l0) :
  Calls Try.prog 10 #[.slice A0 l0.length c0, .slice A1 l1.length c1] w fun e w' => e = .returned (.bool true) ∧ Below w.heap.size w w' := by
 have HR0 := aM hr0
 have HC0 := aM hc0
 by_cases hbig : wrap64 ((l0.length : Int) + (l1.length : Int)) > 1048576
 ·
  have hnb : decide (wrap64 ((l0.length : Int) + (l1.length : Int)) > 1048576) = true := decide_eq_true hbig
  clear hr0 hc0 hb0
  go_enter Try.func10, Try.ntmps10
  go_wp2
  go_ret
  exact ⟨rfl, Below.refl _ _⟩
 ·
  have hnb : decide (wrap64 ((l0.length : Int) + (l1.length : Int)) > 1048576) = false := decide_eq_false hbig
  obtain ⟨L, kk, h5, h9, kd, hkd⟩ := draw_ev hb0
  have E0 := aM hkd
  obtain ⟨ks, hks⟩ := (topBestS_ev L (by omega) (fun x hx => by have := h9 x hx; omega) kk).ex
  obtain ⟨kg, hkg⟩ := (RankP.spec_ev L (by omega) (fun x hx => by have := h9 x hx; omega)).ex
  obtain ⟨gg, hgg⟩ : ∃ gg, gg = RankG.good L := ⟨_, rfl⟩
  rw [← hgg] at hkg
  have EGS := aM hkg
  have EG : Aside0 (impl_GoodRankings.f L = some gg) := ⟨by unfold impl_GoodRankings.f; rw [hgg]⟩
  by_cases hok : RankG.good L = true ∧ (0 ≤ kk ∧ kk ≤ 60)
  ·
   obtain ⟨n, rfl⟩ := Int.eq_ofNat_of_zero_le hok.2.1
   have hR := good_ranks hok.1
   obtain ⟨p, hp⟩ : ∃ p, p = ((SoB.metA L L []).mergeSort SoB.le).take n := ⟨_, rfl⟩
   obtain ⟨d, hd⟩ : ∃ d, d = (ansT L n).2 := ⟨_, rfl⟩
   obtain ⟨b, hb⟩ : ∃ b : Bool, b = true := ⟨_, rfl⟩
   have hTB : ansTB L (n : Int) = (p, d, b) := by unfold ansTB; rw [if_pos hok, Int.toNat_natCast, ansT_all L hR, ← hp, ← hd, hb]
   have hAB : SoB.ansAB L (n : Int) = (p, b) := by unfold SoB.ansAB; rw [if_pos hok, Int.toNat_natCast, ← hp, hb]
   rw [hTB] at hks
   have hpn : p.length ≤ n := by rw [hp, List.length_take]; exact Nat.min_le_left _ _
   obtain ⟨kss, hkss⟩ := (same_ev p (by omega)).ex
   have EP := aM hTB
   have EA := aM hAB
   have ES := aM hks
   have ESS := aM hkss
   obtain ⟨D, hD⟩ : ∃ D, D = depths L := ⟨_, rfl⟩
   have hdD : d ≤ (D : Int) := by rw [hd, hD]; exact ansT_d L n
   have hD60 := depths_le L 0 9 (Nat.zero_le _) h9
   have HDD := aM hD
   have HDL := aM hdD
   have HOK := aM hok.1
   have HPP := aM hp
   have HL5 := aM h5
   have HL9 := aM h9
   have HPN := aM hpn
   have HN60 : Aside0 (n ≤ 60) := ⟨by omega⟩
   subst hb
   have hL5 : (L.length : Int) ≤ 5 := by omega
   clear hr0 hc0 hb0 hbig h5 h9 hkd hks hkg hgg hok hR hp hd hTB hAB hpn hkss hD hdD hD60
   go_enter Try.func10, Try.ntmps10
   go_upto_region 9 with (first | (go_at_call 56; go_loud ((with_reducible refine (spec_DrawTopBest.calls kd A0 c0 l0 L (n : Int) w HR0.out HC0.out E0.out).mono ?_); rintro e w1 ⟨v1, rfl, ho, hb⟩; have HA1 := aM hb; obtain ⟨A, c, rfl, hc, hC⟩ := Kd.S_reads ho; have HC := aM hc; have HR1 := aM hC; clear ho hb hc hC)) | (go_at_call 55; go_loud (have hcal := TopB.topBestI L A c (n : Int) w1 HR1.out HC.out; rw [EP.out] at hcal; (with_reducible refine (hcal).mono ?_); rintro e w2 ⟨v2, rfl, ho, hb⟩; have HA2 := aM (below_step HA1.out hb); have HR2 := aM (Kd.C_below HR1.out hb); clear HA1 HR1; obtain ⟨At, ct, rfl, hc, hC⟩ := Kd.R_reads ho; have HCT := aM hc; have HT2 := aM hC; clear ho hb hc hC hcal)) | (go_at_call 54; go_loud ((with_reducible refine (spec_TopBest.calls ks A c L (n : Int) p d true _ HR2.out HC.out ES.out).mono ?_); rintro e w3 ⟨v3, rfl, ho, hb⟩; have HA3 := aM (below_step HA2.out hb); have HR3 := aM (Kd.C_below HR2.out hb); have HT3 := aM (Kd.C_below HT2.out hb); clear HA2 HR2 HT2; obtain ⟨Aw, cw, rfl, hc, hC⟩ := Kd.R_reads ho; have HCW := aM hc; have HW3 := aM hC; clear ho hb hc hC)) | (go_at_call 48; go_loud (have hcal := SoB.allBestI L A c (n : Int) w3 HR3.out HC.out; rw [EA.out] at hcal; (with_reducible refine (hcal).mono ?_); rintro e w4 ⟨v4, rfl, ho, hb⟩; have HA4 := aM (below_step HA3.out hb); have HR4 := aM (Kd.C_below HR3.out hb); have HT4 := aM (Kd.C_below HT3.out hb); have HW4 := aM (Kd.C_below HW3.out hb); clear HA3 HR3 HT3 HW3; obtain ⟨Aq, cq, rfl, hc, hC⟩ := Kd.R_reads ho; have HCQ := aM hc; have HQ4 := aM hC; clear ho hb hc hC hcal)) | (go_at_call 57; go_loud ((with_reducible refine (laws_sameScored.calls kss At ct p Aw cw p true _ HT4.out HCT.out HW4.out HCW.out ESS.out).mono ?_); rintro e w5 ⟨rfl, hd⟩; have HA5 := aM (below_step HA4.out hd.below); have HR5 := aM (Kd.C_below HR4.out hd.below); have HT5 := aM (Kd.C_below HT4.out hd.below); have HQ5 := aM (Kd.C_below HQ4.out hd.below); clear HA4 HR4 HT4 HQ4; clear hd)) | (go_at_call 58; go_loud ((with_reducible refine (impl_GoodRankings.calls A c L gg _ HR5.out HC.out EG.out).mono ?_); rintro e w6 ⟨rfl, hb⟩; have HA6 := aM (below_step HA5.out hb); have HR6 := aM (Kd.C_below HR5.out hb); have HT6 := aM (Kd.C_below HT5.out hb); have HQ6 := aM (Kd.C_below HQ5.out hb); clear HA5 HR5 HT5 HQ5; clear hb)) | (go_at_call 59; go_loud ((with_reducible refine (spec_GoodRankings.calls kg A c L gg _ HR6.out HC.out EGS.out).mono ?_); rintro e w7 ⟨rfl, hb⟩; have HA7 := aM (below_step HA6.out hb); have HR7 := aM (Kd.C_below HR6.out hb); have HT7 := aM (Kd.C_below HT6.out hb); have HQ7 := aM (Kd.C_below HQ6.out hb); clear HA6 HR6 HT6 HQ6; clear hb)))
   go_upto_region 12 with (fail)
   go_wp2
   go_loopg [15, 95] L.length (fun kq v15 v95 w' => ∃ (i m : Nat), v15 = .int .i64 (m : Int) ∧ v95 = .int .i64 (i : Int) ∧ i ≤ L.length ∧ kq = L.length - i ∧ Aside0 (m = depths (L.take i)) ∧ Aside0 (Below w.heap.size w w') ∧ Aside0 (Kd.C k77 w' A L.length L) ∧ Aside0 (Kd.C k79 w' At p.length p) ∧ Aside0 (Kd.C k79 w' Aq p.length p))
   case atStart => exact ⟨0, 0, rfl, rfl, Nat.zero_le _, rfl, ⟨rfl⟩, HA7, HR7, HT7, HQ7⟩
   case round =>
    clear HA7 HR7 HT7 HQ7
    obtain ⟨i, m, rfl, rfl, hi, hkq, HE, HA, HR, HT, HQ⟩ := hrel
    have HKQ := aM hkq
    clear hkq
    by_cases hlt : i < L.length
    ·
     obtain ⟨ad, Ar, cr, ead, hcell, hcr, hCr⟩ := at_T77 HR.out (i : Int) (by omega) (by omega)
     subst ead
     have HLT := aM hlt
     have hrd : rd_T77 L (i : Int) = L[i]'HLT.out := RankP.rd_atR L i hlt
     rw [Int.toNat_natCast, hrd] at hcell
     obtain ⟨r, hrr⟩ : ∃ r, r = (L[i]'HLT.out).f0 := ⟨_, rfl⟩
     rw [← hrr] at hcell
     have HST := aM (depths_step L i HLT.out)
     rw [← hrr] at HST
     have hlt2 : (i : Int) < (L.length : Int) := by omega
     by_cases hml : m < r.length
     ·
      have hml2 : decide ((r.length : Int) > (m : Int)) = true := decide_eq_true (by omega)
      have HMX : Aside0 (r.length = max m r.length) := ⟨by omega⟩
      clear hrd hrr hlt hi hcr hCr
      go_wp2
      go_roundg (L.length - (i + 1))
      case measure => have := HKQ.out; have := HLT.out; omega
      case rel => exact ⟨i + 1, r.length, rfl, by go_num, HLT.out, rfl, ⟨by rw [HST.out, ← HE.out]; exact HMX.out⟩, ⟨below_alloc HA.out _⟩, ⟨Kd.C_alloc HR.out _⟩, ⟨Kd.C_alloc HT.out _⟩, ⟨Kd.C_alloc HQ.out _⟩⟩
     ·
      have hml2 : decide ((r.length : Int) > (m : Int)) = false := decide_eq_false (by omega)
      have HMX : Aside0 (m = max m r.length) := ⟨by omega⟩
      clear hrd hrr hlt hi hcr hCr
      go_wp2
      go_roundg (L.length - (i + 1))
      case measure => have := HKQ.out; have := HLT.out; omega
      case rel => exact ⟨i + 1, m, rfl, by go_num, HLT.out, rfl, ⟨by rw [HST.out, ← HE.out]; exact HMX.out⟩, ⟨below_alloc HA.out _⟩, ⟨Kd.C_alloc HR.out _⟩, ⟨Kd.C_alloc HT.out _⟩, ⟨Kd.C_alloc HQ.out _⟩⟩
    ·
     obtain rfl : i = L.length := by omega
     have hmD : D = m := by rw [HE.out, List.take_length, HDD.out]
     subst hmD
     have hdd : decide (d > (D : Int)) = false := decide_eq_false (by have := HDL.out; omega)
     clear hi hlt HE HKQ
     go_upto_region 20 with (first | (go_at_call 57; go_loud ((with_reducible refine (laws_sameScored.calls kss At ct p Aq cq p true _ HT.out HCT.out HQ.out HCQ.out ESS.out).mono ?_); rintro e w8 ⟨rfl, hd⟩; have HA8 := aM (below_step HA.out hd.below); have HR8 := aM (Kd.C_below HR.out hd.below); have HQ8 := aM (Kd.C_below HQ.out hd.below); clear hd HA HR HT HQ)))
     clear hdd
     go_wp2
     have hpl : (p.length : Int) ≤ 60 := by have := HPN.out; have := HN60.out; omega
     go_loopg [119] p.length (fun kq v119 w' => ∃ (i : Nat), v119 = .int .i64 (i : Int) ∧ i ≤ p.length ∧ kq = p.length - i ∧ Aside0 (Below w.heap.size w w') ∧ Aside0 (Kd.C k77 w' A L.length L) ∧ Aside0 (Kd.C k79 w' Aq p.length p))
     case atStart => exact ⟨0, rfl, Nat.zero_le _, rfl, HA8, HR8, HQ8⟩
     case round =>
      clear HA8 HR8 HQ8
      obtain ⟨i, rfl, hi, hkq, HA, HR, HQ⟩ := hrel
      have HKQ := aM hkq
      clear hkq
      by_cases hlt : i < p.length
      ·
       have HLT := aM hlt
       obtain ⟨ad, ead, hs0, hs1⟩ := at_T79 HQ.out (i : Int) (by omega) (by omega)
       subst ead
       have hrd : rd_T79 p (i : Int) = p[i]'HLT.out := RankP.rd_at p i hlt
       rw [Int.toNat_natCast, hrd] at hs0 hs1
       obtain ⟨x, hx⟩ : ∃ x, x = p[i]'HLT.out := ⟨_, rfl⟩
       rw [← hx] at hs0 hs1
       have HX := aM hx
       obtain ⟨hsx, hax⟩ := best_mem L n x (by have h9 : x ∈ p := (by rw [hx]; exact List.getElem_mem _); rw [HPP.out] at h9; exact h9)
       obtain ⟨ksm, hksm⟩ := (sumof_ev L HOK.out x.f0 (any_id HOK.out hax)).ex
       obtain ⟨n9, hn9⟩ : ∃ n9, n9 = x.f1 := ⟨_, rfl⟩
       rw [← hsx, ← hn9] at hksm
       have ESM := aM hksm
       have HN9 := aM hn9
       have hlt2 : (i : Int) < (p.length : Int) := by omega
       obtain ⟨wb, hwb⟩ : ∃ W_, W_ = wr.alloc (.cells #[.int .i64 x.f0, .int .i64 x.f1] 79) := ⟨_, rfl⟩
       have HAB : Aside0 (Below w.heap.size w wb) := ⟨by rw [hwb]; exact below_alloc HA.out _⟩
       have HRB : Aside0 (Kd.C k77 wb A L.length L) := ⟨by rw [hwb]; exact Kd.C_alloc HR.out _⟩
       have HQB : Aside0 (Kd.C k79 wb (some ad) p.length p) := ⟨by rw [hwb]; exact Kd.C_alloc HQ.out _⟩
       have HBX : Aside0 (wb.heap[wr.heap.size]? = some (.cells #[.int .i64 x.f0, .int .i64 x.f1] 79 (0, 0))) := ⟨by rw [hwb]; exact Meet.at_new wr _⟩
       clear hrd hx hsx hax hksm hn9 hlt hi
       go_upto_region 24 with (first | (go_at_call 60; go_loud (rw [← hwb]; (with_reducible refine (impl_SumOf.calls ksm A c L x.f0 n9 true _ HRB.out HC.out ESM.out).mono ?_); rintro e ws ⟨rfl, hb⟩; have HAS := aM (below_step HAB.out hb); have HRS := aM (Kd.C_below HRB.out hb); have HQS := aM (Kd.C_below HQB.out hb); have HBS := aM (hb.block _ (Meet.lt_some HBX.out) |>.trans HBX.out); clear hb HAB HRB HQB HBX)))
       clear hs0 hs1 hwb
       obtain ⟨bx, hbx⟩ : ∃ bx, bx = wr.heap.size := ⟨_, rfl⟩
       rw [← hbx] at HBS ⊢
       clear hbx
       have hq1 : ws.drew.cell? ⟨bx, 1, none⟩ = some (.int .i64 x.f1) := ((Below.refl ws.heap.size ws).drew.cell (Meet.lt_some HBS.out)).trans (Meet.cell1 HBS.out)
       have hn9 := HN9.out
       subst hn9
       have hne9 : (x.f1 != x.f1) = false := by simp
       by_cases hi0 : i = 0
       ·
        have hgt : decide ((i : Int) > 0) = false := decide_eq_false (by omega)
        have hgn : decide (0 < i) = false := decide_eq_false (by omega)
        have hgm : decide ((0 : Int) < (i : Int)) = false := decide_eq_false (by omega)
        clear hi0
        refine start_ (n := 23) (S := fun w' => w'.cell? ⟨bx, 1, none⟩ = some (.int .i64 x.f1)) (ds := []) (bq 23 0) (by kernel_rfl) rfl (by kernel_rfl) (hq1) (fun hHeld => ?_)
        refine pure_ (i := 0) (N := some 131) (v := ?_) (a' := ?_) (bq 23 1) rfl rfl (by kernel_rfl) (fun _ _ _ h => h) (Or.inl ⟨by rfl, ?_⟩) ?_ ?_; rotate_left; (intro w'; go_simp; (with_reducible rfl)); rotate_left; (simp only [Act.put, zSA, zSB, zSC, i64_w, i32_w]; rfl)
        refine pure_ (i := 1) (N := some 132) (v := ?_) (a' := ?_) (bq 23 3) rfl rfl (by kernel_rfl) (fun _ _ _ h => h) (Or.inl ⟨by rfl, ?_⟩) ?_ ?_; rotate_left; (intro w'; go_simp; (with_reducible rfl)); rotate_left; (simp only [Act.put, zSA, zSB, zSC, i64_w, i32_w]; rfl)
        refine pure_ (i := 2) (N := some 133) (v := ?_) (a' := ?_) (bq 23 7) rfl rfl (by kernel_rfl) (fun _ _ _ h => h) (Or.inl ⟨by rfl, ?_⟩) ?_ ?_; rotate_left; (intro w'; go_simp; (with_reducible rfl)); rotate_left; (simp only [Act.put, zSA, zSB, zSC, i64_w, i32_w]; rfl)
        refine pure_ (i := 3) (N := some 134) (v := ?_) (a' := ?_) (bq 23 15) rfl rfl (by kernel_rfl) (fun _ _ _ h => h) (Or.inl ⟨by rfl, ?_⟩) ?_ ?_; rotate_left; (intro w'; go_simp; (with_reducible rfl)); rotate_left; (simp only [Act.put, zSA, zSB, zSC, i64_w, i32_w]; rfl)
        refine pure_ (i := 4) (N := some 135) (v := ?_) (a' := ?_) (bq 23 31) rfl rfl (by kernel_rfl) (fun _ _ _ h => h) (Or.inl ⟨by rfl, ?_⟩) ?_ ?_; rotate_left; (intro w'; go_simp; (with_reducible rfl)); rotate_left; (simp only [Act.put, zSA, zSB, zSC, i64_w, i32_w]; rfl)
        refine take_ (i := 5) (N := some 136) (v := ?_) (a' := ?_) (bq 23 63) rfl rfl (by kernel_rfl) (fun _ _ _ h => h) (Or.inl ⟨by rfl, ?_⟩) hHeld ?_ ?_; rotate_left; (intro w' s0; go_simp; (with_reducible rfl)); rotate_left; (simp only [Act.put, zSA, zSB, zSC, i64_w, i32_w]; rfl)
        refine pure_ (i := 6) (N := some 137) (v := ?_) (a' := ?_) (bq 23 127) rfl rfl (by kernel_rfl) (fun _ _ _ h => h) (Or.inl ⟨by rfl, ?_⟩) ?_ ?_; rotate_left; (intro w'; go_simp; (with_reducible rfl)); rotate_left; (simp only [Act.put, zSA, zSB, zSC, i64_w, i32_w]; rfl)
        refine pure_ (i := 7) (N := some 138) (v := ?_) (a' := ?_) (bq 23 255) rfl rfl (by kernel_rfl) (fun _ _ _ h => h) (Or.inl ⟨by rfl, ?_⟩) ?_ ?_; rotate_left; (intro w'; go_simp; (with_reducible rfl)); rotate_left; (simp only [Act.put, zSA, zSB, zSC, i64_w, i32_w]; rfl)
        refine pure_ (i := 8) (N := some 139) (v := ?_) (a' := ?_) (bq 23 511) rfl rfl (by kernel_rfl) (fun _ _ _ h => h) (Or.inl ⟨by rfl, ?_⟩) ?_ ?_; rotate_left; (intro w'; go_simp; (with_reducible rfl)); rotate_left; (simp only [Act.put, zSA, zSB, zSC, i64_w, i32_w]; rfl)
        refine pure_ (i := 9) (N := some 140) (v := ?_) (a' := ?_) (bq 23 1023) rfl rfl (by kernel_rfl) (fun _ _ _ h => h) (Or.inl ⟨by rfl, ?_⟩) ?_ ?_; rotate_left; (intro w'; go_simp; (with_reducible rfl)); rotate_left; (simp only [Act.put, zSA, zSB, zSC, i64_w, i32_w]; rfl)
        refine pure_ (i := 10) (N := some 141) (v := ?_) (a' := ?_) (bq 23 2047) rfl rfl (by kernel_rfl) (fun _ _ _ h => h) (Or.inl ⟨by rfl, ?_⟩) ?_ ?_; rotate_left; (intro w'; go_simp; (with_reducible rfl)); rotate_left; (simp only [Act.put, zSA, zSB, zSC, i64_w, i32_w]; rfl)
        refine pure_ (i := 11) (N := some 142) (v := ?_) (a' := ?_) (bq 23 4095) rfl rfl (by kernel_rfl) (fun _ _ _ h => h) (Or.inl ⟨by rfl, ?_⟩) ?_ ?_; rotate_left; (intro w'; go_simp; (with_reducible rfl)); rotate_left; (simp only [Act.put, zSA, zSB, zSC, i64_w, i32_w]; rfl)
        refine pure_ (i := 12) (N := some 143) (v := undef) (a' := ?_) (bq 23 8191) rfl rfl (by kernel_rfl) (fun _ _ _ h => h) (Or.inr ⟨by rfl, rfl⟩) ?_ ?_
        rotate_left
        ·
         simp only [Act.put, zSA, zSB, zSC, i64_w, i32_w]
         rfl
        refine pure_ (i := 13) (N := some 144) (v := undef) (a' := ?_) (bq 23 16383) rfl rfl (by kernel_rfl) (fun _ _ _ h => h) (Or.inr ⟨by rfl, rfl⟩) ?_ ?_
        rotate_left
        ·
         simp only [Act.put, zSA, zSB, zSC, i64_w, i32_w]
         rfl
        refine pure_ (i := 14) (N := some 145) (v := undef) (a' := ?_) (bq 23 32767) rfl rfl (by kernel_rfl) (fun _ _ _ h => h) (Or.inr ⟨by rfl, rfl⟩) ?_ ?_
        rotate_left
        ·
         simp only [Act.put, zSA, zSB, zSC, i64_w, i32_w]
         rfl
        refine pure_ (i := 15) (N := some 146) (v := undef) (a' := ?_) (bq 23 65535) rfl rfl (by kernel_rfl) (fun _ _ _ h => h) (Or.inr ⟨by rfl, rfl⟩) ?_ ?_
        rotate_left
        ·
         simp only [Act.put, zSA, zSB, zSC, i64_w, i32_w]
         rfl
        refine pure_ (i := 16) (N := some 147) (v := undef) (a' := ?_) (bq 23 131071) rfl rfl (by kernel_rfl) (fun _ _ _ h => h) (Or.inr ⟨by rfl, rfl⟩) ?_ ?_
        rotate_left
        ·
         simp only [Act.put, zSA, zSB, zSC, i64_w, i32_w]
         rfl
        refine pure_ (i := 17) (N := some 148) (v := undef) (a' := ?_) (bq 23 262143) rfl rfl (by kernel_rfl) (fun _ _ _ h => h) (Or.inr ⟨by rfl, rfl⟩) ?_ ?_
        rotate_left
        ·
         simp only [Act.put, zSA, zSB, zSC, i64_w, i32_w]
         rfl
        refine pure_ (i := 18) (N := some 149) (v := undef) (a' := ?_) (bq 23 524287) rfl rfl (by kernel_rfl) (fun _ _ _ h => h) (Or.inr ⟨by rfl, rfl⟩) ?_ ?_
        rotate_left
        ·
         simp only [Act.put, zSA, zSB, zSC, i64_w, i32_w]
         rfl
        refine pure_ (i := 19) (N := some 150) (v := undef) (a' := ?_) (bq 23 1048575) rfl rfl (by kernel_rfl) (fun _ _ _ h => h) (Or.inr ⟨by rfl, rfl⟩) ?_ ?_
        rotate_left
        ·
         simp only [Act.put, zSA, zSB, zSC, i64_w, i32_w]
         rfl
        refine pure_ (i := 20) (N := some 151) (v := undef) (a' := ?_) (bq 23 2097151) rfl rfl (by kernel_rfl) (fun _ _ _ h => h) (Or.inr ⟨by rfl, rfl⟩) ?_ ?_
        rotate_left
        ·
         simp only [Act.put, zSA, zSB, zSC, i64_w, i32_w]
         rfl
        refine pure_ (i := 21) (N := some 152) (v := ?_) (a' := ?_) (bq 23 4194303) rfl rfl (by kernel_rfl) (fun _ _ _ h => h) (Or.inl ⟨by rfl, ?_⟩) ?_ ?_; rotate_left; (intro w'; go_simp; (with_reducible rfl)); rotate_left; (simp only [Act.put, zSA, zSB, zSC, i64_w, i32_w]; rfl)
        refine pure_ (i := 22) (N := some 153) (v := ?_) (a' := ?_) (bq 23 8388607) rfl rfl (by kernel_rfl) (fun _ _ _ h => h) (Or.inl ⟨by rfl, ?_⟩) ?_ ?_; rotate_left; (intro w'; go_simp; (with_reducible rfl)); rotate_left; (simp only [Act.put, zSA, zSB, zSC, i64_w, i32_w]; rfl)
        refine done_ (by kernel_rfl) ?_
        go_wp2
        go_roundg (p.length - (i + 1))
        case measure => have := HKQ.out; have := HLT.out; omega
        case rel => exact ⟨i + 1, by go_num, HLT.out, rfl, ⟨HAS.out.drew⟩, ⟨Kd.C_drew HRS.out⟩, ⟨Kd.C_drew HQS.out⟩⟩
       ·
        obtain ⟨j, rfl⟩ : ∃ j, i = j + 1 := ⟨i - 1, by omega⟩
        have hfl := best_falls L n j (by have := HLT.out; simp only [HPP.out] at this; exact this)
        obtain ⟨y, hy⟩ : ∃ y, y = p[j]'(Nat.lt_of_succ_lt HLT.out) := ⟨_, rfl⟩
        have hfl2 : x.f1 ≤ y.f1 := by rw [HX.out, hy]; simp only [HPP.out]; exact hfl
        obtain ⟨ad', ead', _, hq2⟩ := at_T79 (Kd.C_drew HQS.out) (j : Int) (by omega) (by have := HLT.out; omega)
        injection ead' with ead'
        subst ead'
        rw [Int.toNat_natCast, RankP.rd_at p j (Nat.lt_of_succ_lt HLT.out), ← hy] at hq2
        have hgt : decide (((j + 1 : Nat) : Int) > 0) = true := decide_eq_true (by omega)
        have hyx : decide (y.f1 < x.f1) = false := decide_eq_false (by omega)
        have hj3 : (j : Int) < (p.length : Int) := Int.ofNat_lt.2 (Nat.lt_of_succ_lt HLT.out)
        have hj2 : wrap64 (j : Int) = (j : Int) := by rw [w64 (by omega) (by omega)]
        clear hi0 hfl hy hfl2
        refine start_ (n := 23) (S := fun w' => w'.cell? ⟨bx, 1, none⟩ = some (.int .i64 x.f1) ∧ w'.cell? ⟨(ad.add (j * 2)).block, (ad.add (j * 2)).off + 1, none⟩ = some (.int .i64 y.f1)) (ds := []) (bq 23 0) (by kernel_rfl) rfl (by kernel_rfl) ⟨hq1, hq2⟩ (fun hHeld => ?_)
        refine pure_ (i := 0) (N := some 131) (v := ?_) (a' := ?_) (bq 23 1) rfl rfl (by kernel_rfl) (fun _ _ _ h => h) (Or.inl ⟨by rfl, ?_⟩) ?_ ?_; rotate_left; (intro w'; go_simp; (with_reducible rfl)); rotate_left; (simp only [Act.put, zSA, zSB, zSC, i64_w, i32_w]; rfl)
        refine pure_ (i := 1) (N := some 132) (v := ?_) (a' := ?_) (bq 23 3) rfl rfl (by kernel_rfl) (fun _ _ _ h => h) (Or.inl ⟨by rfl, ?_⟩) ?_ ?_; rotate_left; (intro w'; go_simp; (with_reducible rfl)); rotate_left; (simp only [Act.put, zSA, zSB, zSC, i64_w, i32_w]; rfl)
        refine pure_ (i := 2) (N := some 133) (v := ?_) (a' := ?_) (bq 23 7) rfl rfl (by kernel_rfl) (fun _ _ _ h => h) (Or.inl ⟨by rfl, ?_⟩) ?_ ?_; rotate_left; (intro w'; go_simp; (with_reducible rfl)); rotate_left; (simp only [Act.put, zSA, zSB, zSC, i64_w, i32_w]; rfl)
        refine pure_ (i := 3) (N := some 134) (v := ?_) (a' := ?_) (bq 23 15) rfl rfl (by kernel_rfl) (fun _ _ _ h => h) (Or.inl ⟨by rfl, ?_⟩) ?_ ?_; rotate_left; (intro w'; go_simp; (with_reducible rfl)); rotate_left; (simp only [Act.put, zSA, zSB, zSC, i64_w, i32_w]; rfl)
        refine pure_ (i := 4) (N := some 135) (v := ?_) (a' := ?_) (bq 23 31) rfl rfl (by kernel_rfl) (fun _ _ _ h => h) (Or.inl ⟨by rfl, ?_⟩) ?_ ?_; rotate_left; (intro w'; go_simp; (with_reducible rfl)); rotate_left; (simp only [Act.put, zSA, zSB, zSC, i64_w, i32_w]; rfl)
        refine take_ (i := 5) (N := some 136) (v := ?_) (a' := ?_) (bq 23 63) rfl rfl (by kernel_rfl) (fun _ _ _ h => h) (Or.inl ⟨by rfl, ?_⟩) hHeld ?_ ?_; rotate_left; (rintro w' ⟨s0, s1⟩; go_simp; (with_reducible rfl)); rotate_left; (simp only [Act.put, zSA, zSB, zSC, i64_w, i32_w]; rfl)
        refine pure_ (i := 6) (N := some 137) (v := ?_) (a' := ?_) (bq 23 127) rfl rfl (by kernel_rfl) (fun _ _ _ h => h) (Or.inl ⟨by rfl, ?_⟩) ?_ ?_; rotate_left; (intro w'; go_simp; (with_reducible rfl)); rotate_left; (simp only [Act.put, zSA, zSB, zSC, i64_w, i32_w]; rfl)
        refine pure_ (i := 7) (N := some 138) (v := ?_) (a' := ?_) (bq 23 255) rfl rfl (by kernel_rfl) (fun _ _ _ h => h) (Or.inl ⟨by rfl, ?_⟩) ?_ ?_; rotate_left; (intro w'; go_simp; (with_reducible rfl)); rotate_left; (simp only [Act.put, zSA, zSB, zSC, i64_w, i32_w]; rfl)
        refine pure_ (i := 8) (N := some 139) (v := ?_) (a' := ?_) (bq 23 511) rfl rfl (by kernel_rfl) (fun _ _ _ h => h) (Or.inl ⟨by rfl, ?_⟩) ?_ ?_; rotate_left; (intro w'; go_simp; (with_reducible rfl)); rotate_left; (simp only [Act.put, zSA, zSB, zSC, i64_w, i32_w]; rfl)
        refine pure_ (i := 9) (N := some 140) (v := ?_) (a' := ?_) (bq 23 1023) rfl rfl (by kernel_rfl) (fun _ _ _ h => h) (Or.inl ⟨by rfl, ?_⟩) ?_ ?_; rotate_left; (intro w'; go_simp; (with_reducible rfl)); rotate_left; (simp only [Act.put, zSA, zSB, zSC, i64_w, i32_w]; rfl)
        refine pure_ (i := 10) (N := some 141) (v := ?_) (a' := ?_) (bq 23 2047) rfl rfl (by kernel_rfl) (fun _ _ _ h => h) (Or.inl ⟨by rfl, ?_⟩) ?_ ?_; rotate_left; (intro w'; go_simp; (with_reducible rfl)); rotate_left; (simp only [Act.put, zSA, zSB, zSC, i64_w, i32_w]; rfl)
        refine pure_ (i := 11) (N := some 142) (v := ?_) (a' := ?_) (bq 23 4095) rfl rfl (by kernel_rfl) (fun _ _ _ h => h) (Or.inl ⟨by rfl, ?_⟩) ?_ ?_; rotate_left; (intro w'; go_simp; (with_reducible rfl)); rotate_left; (simp only [Act.put, zSA, zSB, zSC, i64_w, i32_w]; rfl)
        refine pure_ (i := 12) (N := some 143) (v := ?_) (a' := ?_) (bq 23 8191) rfl rfl (by kernel_rfl) (fun _ _ _ h => h) (Or.inl ⟨by rfl, ?_⟩) ?_ ?_; rotate_left; (intro w'; go_simp; (with_reducible rfl)); rotate_left; (simp only [Act.put, zSA, zSB, zSC, i64_w, i32_w]; rfl)
        refine pure_ (i := 13) (N := some 144) (v := ?_) (a' := ?_) (bq 23 16383) rfl rfl (by kernel_rfl) (fun _ _ _ h => h) (Or.inl ⟨by rfl, ?_⟩) ?_ ?_; rotate_left; (intro w'; go_simp; (with_reducible rfl)); rotate_left; (simp only [Act.put, zSA, zSB, zSC, i64_w, i32_w]; rfl)
        refine pure_ (i := 14) (N := some 145) (v := ?_) (a' := ?_) (bq 23 32767) rfl rfl (by kernel_rfl) (fun _ _ _ h => h) (Or.inl ⟨by rfl, ?_⟩) ?_ ?_; rotate_left; (intro w'; go_simp; (with_reducible rfl)); rotate_left; (simp only [Act.put, zSA, zSB, zSC, i64_w, i32_w]; rfl)
        refine pure_ (i := 15) (N := some 146) (v := ?_) (a' := ?_) (bq 23 65535) rfl rfl (by kernel_rfl) (fun _ _ _ h => h) (Or.inl ⟨by rfl, ?_⟩) ?_ ?_; rotate_left; (intro w'; go_simp; (with_reducible rfl)); rotate_left; (simp only [Act.put, zSA, zSB, zSC, i64_w, i32_w]; rfl)
        refine pure_ (i := 16) (N := some 147) (v := ?_) (a' := ?_) (bq 23 131071) rfl rfl (by kernel_rfl) (fun _ _ _ h => h) (Or.inl ⟨by rfl, ?_⟩) ?_ ?_; rotate_left; (intro w'; go_simp; (with_reducible rfl)); rotate_left; (simp only [Act.put, zSA, zSB, zSC, i64_w, i32_w]; rfl)
        refine pure_ (i := 18) (N := some 149) (v := ?_) (a' := ?_) (bq 23 393215) rfl rfl (by kernel_rfl) (fun _ _ _ h => h) (Or.inl ⟨by rfl, ?_⟩) ?_ ?_; rotate_left; (intro w'; go_simp; (with_reducible rfl)); rotate_left; (simp only [Act.put, zSA, zSB, zSC, i64_w, i32_w]; rfl)
        refine take_ (i := 17) (N := some 148) (v := ?_) (a' := ?_) (bq 23 524287) rfl rfl (by kernel_rfl) (fun _ _ _ h => h) (Or.inl ⟨by rfl, ?_⟩) hHeld ?_ ?_; rotate_left; (rintro w' ⟨s0, s1⟩; go_simp; (with_reducible rfl)); rotate_left; (simp only [Act.put, zSA, zSB, zSC, i64_w, i32_w]; rfl)
        refine take_ (i := 19) (N := some 150) (v := ?_) (a' := ?_) (bq 23 1048575) rfl rfl (by kernel_rfl) (fun _ _ _ h => h) (Or.inl ⟨by rfl, ?_⟩) hHeld ?_ ?_; rotate_left; (rintro w' ⟨s0, s1⟩; go_simp; (with_reducible rfl)); rotate_left; (simp only [Act.put, zSA, zSB, zSC, i64_w, i32_w]; rfl)
        refine pure_ (i := 20) (N := some 151) (v := ?_) (a' := ?_) (bq 23 2097151) rfl rfl (by kernel_rfl) (fun _ _ _ h => h) (Or.inl ⟨by rfl, ?_⟩) ?_ ?_; rotate_left; (intro w'; go_simp; (with_reducible rfl)); rotate_left; (simp only [Act.put, zSA, zSB, zSC, i64_w, i32_w]; rfl)
        refine pure_ (i := 21) (N := some 152) (v := ?_) (a' := ?_) (bq 23 4194303) rfl rfl (by kernel_rfl) (fun _ _ _ h => h) (Or.inl ⟨by rfl, ?_⟩) ?_ ?_; rotate_left; (intro w'; go_simp; (with_reducible rfl)); rotate_left; (simp only [Act.put, zSA, zSB, zSC, i64_w, i32_w]; rfl)
        refine pure_ (i := 22) (N := some 153) (v := ?_) (a' := ?_) (bq 23 8388607) rfl rfl (by kernel_rfl) (fun _ _ _ h => h) (Or.inl ⟨by rfl, ?_⟩) ?_ ?_; rotate_left; (intro w'; go_simp; (with_reducible rfl)); rotate_left; (simp only [Act.put, zSA, zSB, zSC, i64_w, i32_w]; rfl)
        refine done_ (by kernel_rfl) ?_
        go_wp2
        go_roundg (p.length - (j + 1 + 1))
        case measure => have := HKQ.out; have := HLT.out; omega
        case rel => exact ⟨j + 1 + 1, by go_num, HLT.out, rfl, ⟨HAS.out.drew⟩, ⟨Kd.C_drew HRS.out⟩, ⟨Kd.C_drew HQS.out⟩⟩
      ·
       obtain rfl : i = p.length := by omega
       clear hi hlt HKQ
       by_cases hpk : p.length = n ∧ 0 < n
       ·
        obtain ⟨q, rfl⟩ : ∃ q, n = q + 1 := ⟨n - 1, by omega⟩
        have hb1 : ((p.length : Int) == ((q + 1 : Nat) : Int)) = true := by rw [hpk.1]; exact beq_self_eq_true _
        have hb2 : ((p.length : Int) == (q : Int) + 1) = true := by rw [hpk.1]; exact beq_iff_eq.2 (by omega)
        have hb3 : decide ((q : Int) + 1 > 0) = true := decide_eq_true (by omega)
        have hb4 : decide (((q + 1 : Nat) : Int) > 0) = true := decide_eq_true (by omega)
        have HPL := aM hpk.1
        have hpl1 : p.length = q + 1 := hpk.1
        clear hpk hpl1
        go_wp2
        clear hb1 hb2 hb3 hb4
        go_loopg [165] L.length (fun kq v165 w' => ∃ (i : Nat), v165 = .int .i64 (i : Int) ∧ i ≤ L.length ∧ kq = L.length - i ∧ Aside0 (Below w.heap.size w w') ∧ Aside0 (Kd.C k77 w' A L.length L) ∧ Aside0 (Kd.C k79 w' Aq p.length p))
        case atStart => exact ⟨0, rfl, Nat.zero_le _, rfl, HA, HR, HQ⟩
        case round =>
         clear HA HR HQ
         obtain ⟨i, rfl, hi, hkq, HA, HR, HQ⟩ := hrel
         have HKQ := aM hkq
         clear hkq
         by_cases hlt : i < L.length
         ·
          obtain ⟨ad, Ar, cr, ead, hcell, hcr, hCr⟩ := at_T77 HR.out (i : Int) (by omega) (by omega)
          subst ead
          have HLT := aM hlt
          have hrd : rd_T77 L (i : Int) = L[i]'HLT.out := RankP.rd_atR L i hlt
          rw [Int.toNat_natCast, hrd] at hcell
          rw [hrd] at hCr
          obtain ⟨r, hrr⟩ : ∃ r, r = (L[i]'HLT.out).f0 := ⟨_, rfl⟩
          rw [← hrr] at hcell hCr
          have HRR := aM hrr
          have hr9 : (r.length : Int) ≤ 9 := by have := HL9.out _ (List.getElem_mem hlt); rw [← hrr] at this; omega
          have HCR := aM hCr
          have hlt2 : (i : Int) < (L.length : Int) := by omega
          clear hrd hrr hlt hi hcr hCr
          go_wp2
          obtain ⟨wc, hwc⟩ : ∃ W_, W_ = wr.alloc (.cells #[.slice Ar r.length cr] 77) := ⟨_, rfl⟩
          rw [← hwc]
          have HAC : Aside0 (Below w.heap.size w wc) := ⟨by rw [hwc]; exact below_alloc HA.out _⟩
          have HRC : Aside0 (Kd.C k77 wc (some ad) L.length L) := ⟨by rw [hwc]; exact Kd.C_alloc HR.out _⟩
          have HQC : Aside0 (Kd.C k79 wc Aq p.length p) := ⟨by rw [hwc]; exact Kd.C_alloc HQ.out _⟩
          have HXC : Aside0 (Kd.C k79 wc Ar r.length r) := ⟨by rw [hwc]; exact Kd.C_alloc HCR.out _⟩
          clear hwc hcell HA HR HQ HCR
          go_loopg [172] r.length (fun kq v172 w' => ∃ (j : Nat), v172 = .int .i64 (j : Int) ∧ j ≤ r.length ∧ kq = r.length - j ∧ Aside0 (Below w.heap.size w w') ∧ Aside0 (Kd.C k77 w' (some ad) L.length L) ∧ Aside0 (Kd.C k79 w' Aq p.length p) ∧ Aside0 (Kd.C k79 w' Ar r.length r))
          case atStart => exact ⟨0, rfl, Nat.zero_le _, rfl, HAC, HRC, HQC, HXC⟩
          case round =>
           clear HAC HRC HQC HXC
           obtain ⟨j, rfl, hj, hkq2, HA, HR, HQ, HXR⟩ := hrel
           have HKQ2 := aM hkq2
           clear hkq2
           by_cases hjt : j < r.length
           ·
            have HJT := aM hjt
            obtain ⟨ar, ear, hs0, hs1⟩ := at_T79 HXR.out (j : Int) (by omega) (by omega)
            subst ear
            have hrd : rd_T79 r (j : Int) = r[j]'HJT.out := RankP.rd_at r j hjt
            rw [Int.toNat_natCast, hrd] at hs0 hs1
            obtain ⟨x, hx⟩ : ∃ x, x = r[j]'HJT.out := ⟨_, rfl⟩
            rw [← hx] at hs0 hs1
            have hax : Any L x.f0 := ⟨_, List.getElem_mem HLT.out, x, by rw [← HRR.out, hx]; exact List.getElem_mem _, rfl⟩
            have HAX := aM hax
            obtain ⟨ksm, hksm⟩ := (sumof_ev L HOK.out x.f0 (any_id HOK.out hax)).ex
            obtain ⟨n9, hn9⟩ : ∃ n9, n9 = RankS.sumR x.f0 L := ⟨_, rfl⟩
            rw [← hn9] at hksm
            have ESM := aM hksm
            have HN9 := aM hn9
            have hjt2 : (j : Int) < (r.length : Int) := by omega
            obtain ⟨wb, hwb⟩ : ∃ W_, W_ = wr.alloc (.cells #[.int .i64 x.f0, .int .i64 x.f1] 79) := ⟨_, rfl⟩
            have HAB : Aside0 (Below w.heap.size w wb) := ⟨by rw [hwb]; exact below_alloc HA.out _⟩
            have HRB : Aside0 (Kd.C k77 wb (some ad) L.length L) := ⟨by rw [hwb]; exact Kd.C_alloc HR.out _⟩
            have HQB : Aside0 (Kd.C k79 wb Aq p.length p) := ⟨by rw [hwb]; exact Kd.C_alloc HQ.out _⟩
            have HXB : Aside0 (Kd.C k79 wb (some ar) r.length r) := ⟨by rw [hwb]; exact Kd.C_alloc HXR.out _⟩
            have HBX : Aside0 (wb.heap[wr.heap.size]? = some (.cells #[.int .i64 x.f0, .int .i64 x.f1] 79 (0, 0))) := ⟨by rw [hwb]; exact Meet.at_new wr _⟩
            clear hrd hx hax hksm hn9 hjt hj
            go_upto_region 36 with (first | (go_at_call 60; go_loud (rw [← hwb]; (with_reducible refine (impl_SumOf.calls ksm (some ad) c L x.f0 n9 true _ HRB.out HC.out ESM.out).mono ?_); rintro e ws ⟨rfl, hb⟩; have HAS := aM (below_step HAB.out hb); have HRS := aM (Kd.C_below HRB.out hb); have HQS := aM (Kd.C_below HQB.out hb); have HBS := aM (hb.block _ (Meet.lt_some HBX.out) |>.trans HBX.out); have HXS := aM (Kd.C_below HXB.out hb); clear hb HAB HRB HQB HBX HXB)))
            clear hs0 hs1 hwb HA HR HQ HXR
            obtain ⟨bx, hbx⟩ : ∃ bx, bx = wr.heap.size := ⟨_, rfl⟩
            rw [← hbx] at HBS ⊢
            clear hbx
            go_wp2
            go_loopg [28, 185] p.length (fun kq v28 v185 w' => ∃ (th : Bool) (m : Nat), v28 = .bool th ∧ Aside0 (th = (p.take m).any (fun o => o.f0 == x.f0)) ∧ v185 = .int .i64 (m : Int) ∧ m ≤ p.length ∧ kq = p.length - m ∧ Aside0 (Below w.heap.size w w') ∧ Aside0 (Kd.C k77 w' (some ad) L.length L) ∧ Aside0 (Kd.C k79 w' Aq p.length p) ∧ Aside0 (Kd.C k79 w' (some ar) r.length r) ∧ Aside0 (w'.heap[bx]? = some (.cells #[.int .i64 x.f0, .int .i64 x.f1] 79 (0, 0))))
            case atStart => exact ⟨false, 0, rfl, ⟨rfl⟩, rfl, Nat.zero_le _, rfl, HAS, HRS, HQS, HXS, HBS⟩
            case round =>
             clear HAS HRS HQS HXS HBS
             obtain ⟨th, m, rfl, HTH, rfl, hm, hkq3, HA, HR, HQ, HXR, HBX⟩ := hrel
             have HKQ3 := aM hkq3
             clear hkq3
             by_cases hmt : m < p.length
             ·
              have HMT := aM hmt
              obtain ⟨aq, eaq, hs0, hs1⟩ := at_T79 HQ.out (m : Int) (by omega) (by omega)
              subst eaq
              have hrd : rd_T79 p (m : Int) = p[m]'HMT.out := RankP.rd_at p m hmt
              rw [Int.toNat_natCast, hrd] at hs0 hs1
              have HST := aM (any_step p x.f0 m HMT.out)
              obtain ⟨y, hy⟩ : ∃ y, y = p[m]'HMT.out := ⟨_, rfl⟩
              rw [← hy] at hs0 hs1 HST
              have hmt2 : (m : Int) < (p.length : Int) := by omega
              have hbx0 : (wr.alloc (.cells #[.int .i64 y.f0, .int .i64 y.f1] 79)).cell? ⟨bx, 0, none⟩ = some (.int .i64 x.f0) := Meet.cell0 (blk_alloc HBX.out _)
              clear hrd hy hmt hm
              cases th with
              | true =>
               go_wp2
               go_roundg (p.length - (m + 1))
               case measure => have := HKQ3.out; have := HMT.out; omega
               case rel => exact ⟨true, m + 1, rfl, ⟨by rw [HST.out, ← HTH.out]; rfl⟩, by go_num, HMT.out, rfl, ⟨below_alloc HA.out _⟩, ⟨Kd.C_alloc HR.out _⟩, ⟨Kd.C_alloc HQ.out _⟩, ⟨Kd.C_alloc HXR.out _⟩, ⟨blk_alloc HBX.out _⟩⟩
              | false =>
               obtain ⟨bb, hbb⟩ : ∃ bb, bb = (y.f0 == x.f0) := ⟨_, rfl⟩
               have hbb2 : (y.f0 == x.f0) = bb := hbb.symm
               have HBB := aM hbb
               clear hbb
               go_wp2
               go_roundg (p.length - (m + 1))
               case measure => have := HKQ3.out; have := HMT.out; omega
               case rel => exact ⟨bb, m + 1, rfl, ⟨by rw [HST.out, ← HTH.out, HBB.out]; rfl⟩, by go_num, HMT.out, rfl, ⟨below_alloc HA.out _⟩, ⟨Kd.C_alloc HR.out _⟩, ⟨Kd.C_alloc HQ.out _⟩, ⟨Kd.C_alloc HXR.out _⟩, ⟨blk_alloc HBX.out _⟩⟩
             ·
              obtain rfl : m = p.length := by omega
              have HTE : Aside0 (th = p.any (fun o => o.f0 == x.f0)) := ⟨by rw [HTH.out, List.take_length]⟩
              clear hm hmt HTH HKQ3
              cases th with
              | true =>
               go_wp2
               go_roundg (r.length - (j + 1))
               case measure => have := HKQ2.out; have := HJT.out; omega
               case rel => exact ⟨j + 1, by go_num, HJT.out, rfl, HA, HR, HQ, HXR⟩
              | false =>
               have hql : q < p.length := by rw [HPL.out]; exact Nat.lt_succ_self q
               have HQL := aM hql
               obtain ⟨aq, eaq, _, hs1⟩ := at_T79 HQ.out (q : Int) (by omega) (by omega)
               subst eaq
               rw [Int.toNat_natCast, RankP.rd_at p q HQL.out] at hs1
               have hrest := best_rest L (q + 1) (Nat.succ_pos q) (by rw [← HPP.out]; exact HPL.out) x.f0 HAX.out (fun o ho e => by
                have h1 : p.any (fun o => o.f0 == x.f0) = true := List.any_eq_true.2 ⟨o, by rw [HPP.out]; exact ho, by rw [e]; exact beq_self_eq_true _⟩
                rw [← HTE.out] at h1
                cases h1)
               obtain ⟨y, hy⟩ : ∃ y, y = p[q]'HQL.out := ⟨_, rfl⟩
               have hny : n9 ≤ y.f1 := by rw [HN9.out, hy]; simp only [HPP.out]; exact hrest
               rw [← hy] at hs1
               have hd9 : decide (n9 > y.f1) = false := decide_eq_false (by omega)
               have hq3 : (q : Int) < (p.length : Int) := Int.ofNat_lt.2 HQL.out
               have hq2 : wrap64 (q : Int) = (q : Int) := by have := HN60.out; rw [w64 (by omega) (by omega)]
               clear hql hrest hy hny
               go_wp2
               go_roundg (r.length - (j + 1))
               case measure => have := HKQ2.out; have := HJT.out; omega
               case rel => exact ⟨j + 1, by go_num, HJT.out, rfl, HA, HR, HQ, HXR⟩
           ·
            obtain rfl : j = r.length := by omega
            clear hj hjt
            go_wp2
            go_roundg (L.length - (i + 1))
            case measure => have := HKQ.out; have := HLT.out; omega
            case rel => exact ⟨i + 1, by go_num, HLT.out, rfl, HA, HR, HQ⟩
         ·
          obtain rfl : i = L.length := by omega
          clear hi hlt
          go_wp2
          go_ret
          exact ⟨rfl, HA.out⟩
       ·
        by_cases hpn : p.length = n
        ·
         have hb1 : ((p.length : Int) == (n : Int)) = true := by rw [hpn]; exact beq_self_eq_true _
         have hn0 : n = 0 := by omega
         have hb2 : decide ((n : Int) > 0) = false := decide_eq_false (by omega)
         have hb3 : decide (0 < n) = false := decide_eq_false (by omega)
         clear hpk hpn hn0
         go_wp2
         go_ret
         exact ⟨rfl, HA.out⟩
        ·
         have hb1 : ((p.length : Int) == (n : Int)) = false := by rw [beq_eq_false_iff_ne]; omega
         clear hpk hpn
         go_wp2
         go_ret
         exact ⟨rfl, HA.out⟩
  ·
   obtain ⟨p, hp⟩ : ∃ p : List Sc, p = [] := ⟨_, rfl⟩
   obtain ⟨d, hd⟩ : ∃ d : Int, d = 0 := ⟨_, rfl⟩
   have hTB : ansTB L kk = (p, d, false) := by unfold ansTB; rw [if_neg hok, hp, hd]
   have hAB : SoB.ansAB L kk = (p, false) := by unfold SoB.ansAB; rw [if_neg hok, hp]
   rw [hTB] at hks
   obtain ⟨kss, hkss⟩ := (same_ev p (by rw [hp]; exact Nat.zero_le _)).ex
   have EP := aM hTB
   have EA := aM hAB
   have ES := aM hks
   have ESS := aM hkss
   have HPP := aM hp
   clear hr0 hc0 hb0 hbig h5 h9 hkd hks hkg hgg hok hp hd hTB hAB hkss
   go_enter Try.func10, Try.ntmps10
   go_upto_region 9 with (first | (go_at_call 56; go_loud ((with_reducible refine (spec_DrawTopBest.calls kd A0 c0 l0 L kk w HR0.out HC0.out E0.out).mono ?_); rintro e w1 ⟨v1, rfl, ho, hb⟩; have HA1 := aM hb; obtain ⟨A, c, rfl, hc, hC⟩ := Kd.S_reads ho; have HC := aM hc; have HR1 := aM hC; clear ho hb hc hC)) | (go_at_call 55; go_loud (have hcal := TopB.topBestI L A c kk w1 HR1.out HC.out; rw [EP.out] at hcal; (with_reducible refine (hcal).mono ?_); rintro e w2 ⟨v2, rfl, ho, hb⟩; have HA2 := aM (below_step HA1.out hb); have HR2 := aM (Kd.C_below HR1.out hb); clear HA1 HR1; obtain ⟨At, ct, rfl, hc, hC⟩ := Kd.R_reads ho; have HCT := aM hc; have HT2 := aM hC; clear ho hb hc hC hcal)) | (go_at_call 54; go_loud ((with_reducible refine (spec_TopBest.calls ks A c L kk p d false _ HR2.out HC.out ES.out).mono ?_); rintro e w3 ⟨v3, rfl, ho, hb⟩; have HA3 := aM (below_step HA2.out hb); have HR3 := aM (Kd.C_below HR2.out hb); have HT3 := aM (Kd.C_below HT2.out hb); clear HA2 HR2 HT2; obtain ⟨Aw, cw, rfl, hc, hC⟩ := Kd.R_reads ho; have HCW := aM hc; have HW3 := aM hC; clear ho hb hc hC)) | (go_at_call 48; go_loud (have hcal := SoB.allBestI L A c kk w3 HR3.out HC.out; rw [EA.out] at hcal; (with_reducible refine (hcal).mono ?_); rintro e w4 ⟨v4, rfl, ho, hb⟩; have HA4 := aM (below_step HA3.out hb); have HR4 := aM (Kd.C_below HR3.out hb); have HT4 := aM (Kd.C_below HT3.out hb); have HW4 := aM (Kd.C_below HW3.out hb); clear HA3 HR3 HT3 HW3; obtain ⟨Aq, cq, rfl, hc, hC⟩ := Kd.R_reads ho; have HCQ := aM hc; have HQ4 := aM hC; clear ho hb hc hC hcal)) | (go_at_call 57; go_loud ((with_reducible refine (laws_sameScored.calls kss At ct p Aw cw p true _ HT4.out HCT.out HW4.out HCW.out ESS.out).mono ?_); rintro e w5 ⟨rfl, hd⟩; have HA5 := aM (below_step HA4.out hd.below); have HR5 := aM (Kd.C_below HR4.out hd.below); have HT5 := aM (Kd.C_below HT4.out hd.below); have HQ5 := aM (Kd.C_below HQ4.out hd.below); clear HA4 HR4 HT4 HQ4; clear hd)) | (go_at_call 58; go_loud ((with_reducible refine (impl_GoodRankings.calls A c L gg _ HR5.out HC.out EG.out).mono ?_); rintro e w6 ⟨rfl, hb⟩; have HA6 := aM (below_step HA5.out hb); have HR6 := aM (Kd.C_below HR5.out hb); have HT6 := aM (Kd.C_below HT5.out hb); have HQ6 := aM (Kd.C_below HQ5.out hb); clear HA5 HR5 HT5 HQ5; clear hb)) | (go_at_call 59; go_loud ((with_reducible refine (spec_GoodRankings.calls kg A c L gg _ HR6.out HC.out EGS.out).mono ?_); rintro e w7 ⟨rfl, hb⟩; have HA7 := aM (below_step HA6.out hb); have HR7 := aM (Kd.C_below HR6.out hb); have HT7 := aM (Kd.C_below HT6.out hb); have HQ7 := aM (Kd.C_below HQ6.out hb); clear HA6 HR6 HT6 HQ6; clear hb)))
   have hb1 : ((p.length : Int) == 0) = true := by rw [HPP.out]; rfl
   go_wp2
   go_ret
   exact ⟨rfl, HA7.out⟩
end Go.Proofs.Ytaomjndfjmfelaa.LwTh
end

section
namespace Go.Proofs.Ytaomjndfjmfelaa.PQ
open Go.RowKit Go.Proofs.YtaomjndfjmfelaaW.PrintWords Go.Proofs.YtaomjndfjmfelaaW.PrintLast Go.Proofs.YtaomjndfjmfelaaW.PrintMore
attribute [local go_sem] max2_int min2_int max_two min_two max_three min_three max_four min_four
set_option linter.unusedVariables false
set_option linter.unusedSimpArgs false
def laws_FnThreshold.Pure : Prop := True
theorem laws_FnThreshold.walk (P : laws_FnThreshold.Pure) (a0 : Option Addr) (c0 : Nat) (l0 : List Int) (a1 : Option Addr) (c1 : Nat) (l1 : List Int) (w : World) (hr0 : Kd.C (Kd.int .u8) w a0 l0.length l0) (hc0 : l0.length ≤ c0) (w0 : l0.length ≤ maxLen ∧ ∀ x_ ∈ l0, (Lit.int .u8 x_).wf = true) (hr1 : Kd.C (Kd.int .u8) w a1 l1.length l1) (hc1 : l1.length ≤ c1) (w1 : l1.length ≤ maxLen ∧ ∀ x_ ∈ l1, (Lit.int .u8 x_).wf = true) :
  Calls Try.prog 10 #[.slice a0 l0.length c0, .slice a1 l1.length c1] w fun e w' => e = .returned (.bool true) ∧ Below w.heap.size w w' :=
 LwTh.calls a0 c0 l0 a1 c1 l1 w hr0 hc0 (Cur.bytes_wf w0.2)

end Go.Proofs.Ytaomjndfjmfelaa.PQ
end

section
namespace Go.Proofs.Ytaomjndfjmfelaa.Pure
open Go.Proofs.Ytaomjndfjmfelaa.PQ
theorem FnThreshold : laws_FnThreshold.Pure := trivial
end Go.Proofs.Ytaomjndfjmfelaa.Pure
end

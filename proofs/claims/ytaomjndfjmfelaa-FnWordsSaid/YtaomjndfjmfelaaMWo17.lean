/- Several texts in one: what the claim's last text rests on. No conditions. -/
import Derived.Test.YtaomjndfjmfelaaMWo16
import Derived.Test.YtaomjndfjmfelaaMWo14
import Derived.Test.YtaomjndfjmfelaaMWo5
import Derived.BigRegion
import Derived.Test.YtaomjndfjmfelaaMWo9
import Derived.Test.YtaomjndfjmfelaaMWo15
import Derived.Test.YtaomjndfjmfelaaMWo7
import Derived.Test.YtaomjndfjmfelaaMWo6
import Derived.Test.YtaomjndfjmfelaaMWo3
section
namespace Go.Proofs.Ytaomjndfjmfelaa.IdR
set_option linter.unusedVariables false
set_option linter.unusedSimpArgs false
open Go.RowKit Go.Proofs.Ytaomjndfjmfelaa.PQ Go.Proofs.YtaomjndfjmfelaaW.PrintWords Go.Proofs.YtaomjndfjmfelaaW.PrintLast Go.Proofs.YtaomjndfjmfelaaW.PrintMore Go.Proofs.Ytaomjndfjmfelaa.Pre Go.Proofs.Ytaomjndfjmfelaa.EntW Go.Proofs.Ytaomjndfjmfelaa.Posts Go.Proofs.Ytaomjndfjmfelaa.GoodW Go.Proofs.Ytaomjndfjmfelaa.PostW Go.Proofs.Ytaomjndfjmfelaa.Raw Go.Proofs.Ytaomjndfjmfelaa.CmpL Go.Proofs.Ytaomjndfjmfelaa.Cou Go.Proofs.Ytaomjndfjmfelaa.EnI Go.Proofs.Ytaomjndfjmfelaa.Idx Go.Proofs.Ytaomjndfjmfelaa.WordsW
/-- Where the walk stands: the result's block, the words' block, the entries. -/
structure St (w W : World) (n : Nat) (v : Value) (l : List En) (P0 : Nat → Prop) : Prop where
 below : Below w.heap.size w W
 res : W.heap[w.heap.size]? = some (.cells #[.int .i64 0, .slice none 0 0] 33 (0, 0))
 out : W.heap[w.heap.size + 1]? = some (.cells #[.int .i64 (n : Int), v] 33 (0, 0))
 S : Kd.S k102 102 W (w.heap.size + 2) P0 v l
theorem St.big {w W : World} {n : Nat} {v : Value} {l : List En} {P0 : Nat → Prop} (h : St w W n v l P0) : w.heap.size + 1 < W.heap.size := blk_lt h.out
theorem St.step {w W W2 : World} {n : Nat} {v : Value} {l : List En} {P0 : Nat → Prop} (h : St w W n v l P0) (hb : Below W.heap.size W W2) : St w W2 n v l P0 :=
 ⟨below_step h.below hb, (hb.block _ (by have := h.big; omega)).trans h.res, (hb.block _ h.big).trans h.out, Kd.S_below h.S hb⟩
theorem St.mono {w W : World} {n : Nat} {v : Value} {l : List En} {P0 P1 : Nat → Prop} (h : St w W n v l P0) (hp : ∀ q, P0 q → P1 q) : St w W n v l P1 := ⟨h.below, h.res, h.out, Kd.S_mono h.S hp⟩
/-- Other entries, behind a step that keeps what is not theirs. -/
theorem St.next {w W W2 : World} {n : Nat} {v v2 : Value} {l l2 : List En} {P0 P1 : Nat → Prop} (h : St w W n v l P0) (hb : Below (w.heap.size + 2) W W2) (hS : Kd.S k102 102 W2 (w.heap.size + 2) P1 v2 l2) (hP : ∀ q, P1 q → w.heap.size + 2 ≤ q) :
  St w (W2.setCell ⟨w.heap.size + 1, 1, none⟩ v2) n v2 l2 P1 := by
 have h1 := (hb.block (w.heap.size + 1) (by omega)).trans h.out
 have h0 := (hb.block w.heap.size (by omega)).trans h.res
 have hbw : Below w.heap.size w W2 := ⟨hb.os.trans h.below.os, hb.tape.trans h.below.tape, hb.output.trans h.below.output, Nat.le_trans h.below.size hb.size, fun k hk => (hb.block k (by omega)).trans (h.below.block k hk)⟩
 exact ⟨hbw.setCell (p := ⟨w.heap.size + 1, 1, none⟩) (Nat.le_succ _) _, blk_far h0 (show w.heap.size ≠ w.heap.size + 1 by omega) _, blk_put h1 1 _ rfl, Kd.S_far hS (p := ⟨w.heap.size + 1, 1, none⟩) (fun k hk e => by have := hP k hk; have e : k = w.heap.size + 1 := e; omega) _⟩
theorem psOK_len : ∀ (ps : List Po) (i lo : Int), lo ≤ i + 1 → ps.Pairwise (fun a b => a.f0 < b.f0) → (∀ p ∈ ps, lo ≤ p.f0 ∧ p.f0 ≤ i) → (ps.length : Int) ≤ i + 1 - lo
 | [], i, lo, h, _, _ => by simp; omega
 | p :: ps, i, lo, h, hp, hb => by
  have h1 := hb p List.mem_cons_self
  have h2 := List.pairwise_cons.1 hp
  have := psOK_len ps i (p.f0 + 1) (by omega) h2.2 (fun q hq => ⟨by have := h2.1 q hq; omega, (hb q (List.mem_cons_of_mem _ hq)).2⟩)
  rw [List.length_cons]
  omega
theorem inv_small {i : Int} {l : List En} (h : Inv i l) (h0 : -1 ≤ i) : ∀ e ∈ l, (e.f1.length : Int) ≤ i + 1 := fun e he => by
 obtain ⟨_, _, h3⟩ := h.each e he
 have := psOK_len e.f1 i 0 (by omega) h3.rise (fun p hp => ⟨(h3.each p hp).1, (h3.each p hp).2.1⟩)
 omega
theorem inv_rise {i : Int} {l : List En} (h : Inv i l) : Rise l := fun a b hb hab => List.pairwise_iff_getElem.1 h.rise a b (by omega) hb hab
theorem cnt_len (l : List En) (t : ByteArray) (i : Int) : (cnt l t i).length ≤ l.length + 1 := by
 unfold cnt
 split
 ·rw [List.length_set]
  omega
 ·rw [List.length_append, List.length_cons, List.length_take, List.length_drop]
  omega
theorem fold_len (i : Int) : ∀ (ws : List ByteArray) (l : List En), (ws.foldl (fun l t => cnt l t i) l).length ≤ l.length + ws.length
 | [], l => Nat.le_refl _
 | t :: ws, l => by
  have h1 := fold_len i ws (cnt l t i)
  have h2 := cnt_len l t i
  rw [List.foldl_cons, List.length_cons]
  omega
theorem idxTo_len (ts : List ByteArray) (hw : ∀ s ∈ ts, (wordsOf s).length ≤ 100) : ∀ k, k ≤ ts.length → (idxTo ts k).length ≤ 100 * k
 | 0, _ => Nat.le_refl _
 | k + 1, hk => by
  have h1 := idxTo_len ts hw k (by omega)
  have h2 := fold_len (k : Int) (wordsOf (ts.getD k ByteArray.empty)) (idxTo ts k)
  have h3 : (wordsOf (ts.getD k ByteArray.empty)).length ≤ 100 := by
   rw [List.getD_eq_getElem?_getD, List.getElem?_eq_getElem (show k < ts.length by omega)]
   exact hw _ (List.getElem_mem _)
  show ((wordsOf (ts.getD k ByteArray.empty)).foldl (fun l t => cnt l t (k : Int)) (idxTo ts k)).length ≤ _
  omega
theorem str_at {w : World} {A : Option Addr} {xs : List ByteArray} (h : Kd.C Kd.string w A xs.length xs) (i : Nat) (hi : i < xs.length) : ∃ ad, A = some ad ∧ w.cell? (ad.add i) = some (.string xs[i]) := by
 obtain ⟨ad, c, e, _, hK, hc0⟩ := Kd.C_get h ByteArray.empty (i : Int) (by omega) (by omega)
 rw [Int.toNat_natCast, List.getD_eq_getElem?_getD, List.getElem?_eq_getElem hi] at hK
 rw [Int.toNat_natCast] at hc0
 have hk : c = [.string xs[i]] := hK
 subst hk
 refine ⟨ad, e, ?_⟩
 have h1 := hc0 0 _ rfl
 rw [show Kd.string.sz = 1 from rfl, Nat.mul_one, Nat.add_zero] at h1
 exact h1
theorem start_in {w W W2 : World} {n : Nat} {v v2 : Value} {l : List En} {ws : List ByteArray} (h : St w W n v l (fun q => w.heap.size + 2 ≤ q)) (ho : Kd.string.R 9 W2 W.heap.size (fun _ => True) v2 ws) (hb : Below W.heap.size W W2) : St w W2 n v l (fun q => w.heap.size + 2 ≤ q ∧ some q ≠ v2.ownBlock) :=
 (St.mono (P1 := fun q => w.heap.size + 2 ≤ q ∧ some q ≠ v2.ownBlock) ⟨h.below, h.res, h.out, Kd.S_bound h.S⟩ (fun q hq => ⟨hq.1, fun e => by have h1 := hq.2.2.1; have h2 := Kd.R_base ho q e.symm; omega⟩)).step hb
theorem idxTo_take (ts : List ByteArray) (n : Nat) : ∀ k, k ≤ n → idxTo (ts.take n) k = idxTo ts k
 | 0, _ => rfl
 | k + 1, hk => by
  have e : (ts.take n).getD k ByteArray.empty = ts.getD k ByteArray.empty := by
   rw [List.getD_eq_getElem?_getD, List.getD_eq_getElem?_getD, List.getElem?_take, if_pos (by omega)]
  show ((wordsOf ((ts.take n).getD k ByteArray.empty)).foldl (fun l t => cnt l t (k : Int)) (idxTo (ts.take n) k)) = ((wordsOf (ts.getD k ByteArray.empty)).foldl (fun l t => cnt l t (k : Int)) (idxTo ts k))
  rw [e, idxTo_take ts n k (by omega)]
/-- The entries ahead of a word are in order and few. -/
theorem inv_at (ts : List ByteArray) (i m : Nat) (hi : i < ts.length) (h200 : ∀ j, ∀ h : j < ts.length, j < i → ts[j].size ≤ 200) (hx : ts[i].size ≤ 200) :
  Inv (i : Int) (((wordsOf ts[i]).take m).foldl (fun l t => cnt l t (i : Int)) (idxTo ts i)) ∧ (((wordsOf ts[i]).take m).foldl (fun l t => cnt l t (i : Int)) (idxTo ts i)).length ≤ 100 * (i + 1) := by
 have hT : ∀ s ∈ ts.take (i + 1), s.size ≤ 200 := fun s hs => by
  obtain ⟨j, hj, rfl⟩ := List.getElem_of_mem hs
  rw [List.getElem_take]
  rw [List.length_take] at hj
  by_cases e : j = i
  ·subst e
   exact hx
  ·exact h200 j (by omega) (by omega)
 have hTl : (ts.take (i + 1)).length = i + 1 := by rw [List.length_take]; omega
 obtain ⟨h1, h2⟩ := idx_inv (ts.take (i + 1)) (fun s hs => ⟨words_100 s (hT s hs), words_are s⟩) i (by omega)
 have h3 := idxTo_len (ts.take (i + 1)) (fun s hs => words_100 s (hT s hs)) i (by omega)
 rw [idxTo_take ts (i + 1) i (by omega)] at h1 h2 h3
 have h4 := words_100 ts[i] hx
 have h5 : ((wordsOf ts[i]).take m).length ≤ 100 := by rw [List.length_take]; omega
 refine ⟨(text_inv (by omega) _ _ (by have := h1.next; rwa [show (i : Int) - 1 + 1 = (i : Int) by omega] at this) (fun t ht => words_are _ t (List.mem_of_mem_take ht)) (fun t => ?_)).1, ?_⟩
 ·have := h2 t i
  rw [if_neg (by omega)] at this
  rw [this]
  omega
 ·have := fold_len (i : Int) ((wordsOf ts[i]).take m) (idxTo ts i)
  omega
theorem idx_of_at {l : List En} {t : ByteArray} {k : Nat} (h : At l t k) : idx l t = k := idx_at t l k h.1 (fun j hj hjk => h.2.1 j hj hjk) (fun hk => h.2.2 k hk (Nat.le_refl _))
theorem cnt_no {l : List En} {t : ByteArray} {k : Nat} (i : Int) (h : At l t k) (hb : isAt l t k = false) : cnt l t i = l.take k ++ ⟨t, [⟨i, 1⟩]⟩ :: l.drop k := by
 unfold cnt
 rw [idx_of_at h, if_neg]
 rintro ⟨h1, h2⟩
 rw [List.getD_eq_getElem?_getD, List.getElem?_eq_getElem h1] at h2
 have := of_decide_eq_false hb
 exact this ⟨h1, h2⟩
theorem cnt_yes {l : List En} {t : ByteArray} {k : Nat} (i : Int) (h : At l t k) (hb : isAt l t k = true) : ∃ hk : k < l.length, l[k].f0 = t ∧ cnt l t i = l.set k ⟨t, bump l[k].f1 i⟩ := by
 obtain ⟨h1, h2⟩ := of_decide_eq_true hb
 refine ⟨h1, h2, ?_⟩
 have e : l.getD k ⟨t, []⟩ = l[k] := by rw [List.getD_eq_getElem?_getD, List.getElem?_eq_getElem h1]; rfl
 unfold cnt
 rw [idx_of_at h, e, if_pos ⟨h1, h2⟩]
theorem new_size (W : World) (o : Obj) : (W.alloc o).heap.size = W.heap.size + 1 := by
 show (W.heap.push o).size = _
 rw [Array.size_push]
theorem keepW {W W2 : World} {T b : Nat} {v : Value} {ws : List ByteArray} (h : Kd.string.R T W b (fun _ => True) v ws) (hk : ∀ q, v.ownBlock = some q → q < W.heap.size → b ≤ q → W2.heap[q]? = W.heap[q]?) : Kd.string.R T W2 b (fun _ => True) v ws :=
 Kd.R_mono (Kd.R_move (Kd.R_tight rfl h) (fun q hq => hk q hq.symm (Kd.R_lt h q hq.symm) (Kd.R_base h q hq.symm))) (fun _ _ => trivial)
theorem set_ins (l : List En) (k : Nat) (x y : En) (hk : k ≤ l.length) : (l.take k ++ x :: l.drop k).set k y = l.take k ++ y :: l.drop k := by
 have h : (l.take k).length = k := by rw [List.length_take]; omega
 rw [List.set_append_right _ _ (by omega), h, Nat.sub_self]
 rfl
/-- Other entries in the same row. -/
theorem St.swap {w W W2 : World} {n : Nat} {v : Value} {l l2 : List En} {P0 P1 : Nat → Prop} (h : St w W n v l P0) (hb : Below (w.heap.size + 2) W W2) (hS : Kd.S k102 102 W2 (w.heap.size + 2) P1 v l2) : St w W2 n v l2 P1 :=
 ⟨⟨hb.os.trans h.below.os, hb.tape.trans h.below.tape, hb.output.trans h.below.output, Nat.le_trans h.below.size hb.size, fun k hk => (hb.block k (by omega)).trans (h.below.block k hk)⟩, (hb.block _ (by omega)).trans h.res, (hb.block _ (by omega)).trans h.out, hS⟩
theorem Opn.putn {W : World} {lo W0 : Nat} {P0 OKI : Nat → Prop} {g c k g2 c2 m n : Nat} {l : List En} {x : ByteArray} {ps : List Po} (hn : ps.length = n) (h : Opn W lo W0 P0 OKI g c k l x (.slice (some ⟨g2, 0, none⟩) n c2) ps) (hm : m < ps.length) (y : Int) :
  W.cell? ⟨g2, m * 2, none⟩ = some (.int .i64 ps[m].f0) ∧ W.cell? ⟨g2, m * 2 + 1, none⟩ = some (.int .i64 ps[m].f1) ∧ W.frozen? ⟨g2, m * 2 + 1, none⟩ = false ∧
  Opn (W.setCell ⟨g2, m * 2 + 1, none⟩ (.int .i64 y)) lo W0 P0 OKI g c k l x (.slice (some ⟨g2, 0, none⟩) n c2) (ps.set m ⟨ps[m].f0, y⟩) ∧ W.grownBy (W.setCell ⟨g2, m * 2 + 1, none⟩ (.int .i64 y)) (some g2) ∧ (P0 g2 ∨ W0 ≤ g2) := by
 subst hn
 exact h.put hm y
theorem ans_bad {ts : List ByteArray} (h : ¬ (ts.length ≤ 40 ∧ (∀ s ∈ ts, s.size ≤ 200) ∧ (idxTo ts ts.length).length ≤ 200)) : ansIdx ts = (0, [], false) := if_neg h
set_option maxHeartbeats 4000000 in
set_option maxRecDepth 100000 in
theorem indexOf_calls (A : Option Addr) (c : Nat) (ts : List ByteArray) (w : World) (hr : Kd.C Kd.string w A ts.length ts) (hc : ts.length ≤ c) (hs : ∀ s ∈ ts, s.size ≤ 1048576) :
  Calls Try.prog 33 #[.slice A ts.length c] w fun e w' => ∃ v : Value, e = .returned (.tuple #[.agg #[.int .i64 (ansIdx ts).1, v], .bool (ansIdx ts).2.2]) ∧ Kd.S k102 102 w' w.heap.size (fun _ => True) v (ansIdx ts).2.1 ∧ Below w.heap.size w w' := by
 have HC := aM hr
 have HS := aM hs
 by_cases h40 : ts.length ≤ 40
 ·have hgt : decide ((ts.length : Int) > 40) = false := decide_eq_false (by omega)
  have H40 := aM h40
  clear hr hc hs h40
  go_enter Try.func33, Try.ntmps33
  go_wp2
  go_loopg [24] ts.length (fun kq v24 w' => ∃ (i : Nat) (l : List En) (v : Value), v24 = .int .i64 (i : Int) ∧ i ≤ ts.length ∧ kq = ts.length - i ∧ Aside0 (l = idxTo ts i) ∧ Aside0 (∀ j, ∀ h : j < ts.length, j < i → ts[j].size ≤ 200) ∧ Aside0 (St w w' ts.length v l (fun q => w.heap.size + 2 ≤ q)))
  case atStart =>
   refine ⟨0, [], .slice none 0 0, rfl, by omega, by omega, ⟨rfl⟩, ⟨fun j _ h => absurd h (Nat.not_lt_zero _)⟩, ⟨?_, ?_, ?_, Kd.S_nil _ _ _ _ _⟩⟩
   ·exact below_alloc (below_alloc (Below.refl _ _) _) _
   ·show ((w.heap.push _).push _)[w.heap.size]? = _
    simp [Array.getElem?_push]
   ·show ((w.heap.push _).push _)[w.heap.size + 1]? = _
    rw [Array.getElem?_push, if_pos (by simp)]
  case round =>
   obtain ⟨i, l, v, rfl, hi, hk, HL, H200, HT⟩ := hrel
   by_cases hlt : i < ts.length
   ·have HI := aM hlt
    obtain ⟨ad, hA, hx0⟩ := str_at HC.out i hlt
    obtain ⟨x, hxe⟩ : ∃ x, x = ts[i] := ⟨_, rfl⟩
    rw [← hxe] at hx0
    have HXE := aM hxe
    clear hxe
    subst hA
    replace hx0 := (HT.out.below.cell (World.block_lt_of_cell? w _ hx0)).trans hx0
    have p1 : (0 : Int) ≤ (i : Int) := by omega
    have q1 : (i : Int) < (ts.length : Int) := by omega
    by_cases h2 : x.size ≤ 200
    ·rename World => W1
     obtain ⟨ws, hws⟩ : ∃ ws, ws = wordsOf x := ⟨_, rfl⟩
     have EW := aM (show impl_WordsIn.f x = some (ws, true) from by unfold impl_WordsIn.f; rw [if_neg (by omega), show impl_wordsIn.f x = some (wordsOf x) from if_pos h2, hws]; rfl)
     have HWS := aM hws
     have HW100 : Aside0 (ws.length ≤ 100) := ⟨by rw [hws]; exact words_100 x h2⟩
     have HWW : Aside0 (∀ t ∈ ws, isW t = true) := ⟨by rw [hws]; exact words_are x⟩
     have H2X := aM h2
     clear hws h2
     go_upto_region 10 with (first | (go_at_call 39; go_loud ((with_reducible refine (impl_WordsIn.calls x ws true _ EW.out).mono ?_); rintro e w2 ⟨v2, rfl, ho, hb⟩; obtain ⟨A2, c2, e2⟩ := Kd.R_slice ho; subst e2; have HO2 := aM ho; have HT2 := aM (start_in HT.out ho hb); have HSZ2 := aM hb.size; have HSZ := aM (show w.heap.size + 1 < W1.heap.size from HT.out.big); clear ho hb)))
     go_wp2
     go_loopg [39] ws.length (fun kq v39 w' => ∃ (m : Nat) (l' : List En) (v' : Value), v39 = .int .i64 (m : Int) ∧ m ≤ ws.length ∧ kq = ws.length - m ∧ Aside0 (l' = (ws.take m).foldl (fun l t => cnt l t (i : Int)) l) ∧ Aside0 (St w w' ts.length v' l' (fun q => w.heap.size + 2 ≤ q ∧ some q ≠ (Value.slice A2 ws.length c2).ownBlock)) ∧ Aside0 (Kd.string.R 9 w' W1.heap.size (fun _ => True) (.slice A2 ws.length c2) ws) ∧ Aside0 (w2.heap.size ≤ w'.heap.size))
     case atStart => exact ⟨0, l, v, rfl, Nat.zero_le _, rfl, ⟨rfl⟩, HT2, HO2, ⟨Nat.le_refl _⟩⟩
     case round =>
      obtain ⟨m, l', v', rfl, hm, hkm, HL', HT', HO', HSZ'⟩ := hrel
      by_cases hlm : m < ws.length
      ·have HM := aM hlm
       have HKM := aM hkm
       obtain ⟨ad2, hA2, hx2⟩ := str_at (Kd.R_reads' HO'.out).2.2 m hlm
       obtain ⟨t, hte⟩ : ∃ t, t = ws[m] := ⟨_, rfl⟩
       rw [← hte] at hx2
       have HTE := aM hte
       clear hte
       obtain ⟨hinv, hlen⟩ := inv_at ts i m HI.out H200.out (by rw [← HXE.out]; exact H2X.out)
       rw [← HXE.out, ← HWS.out, ← HL.out, ← HL'.out] at hinv hlen
       have HINV := aM hinv
       have HLEN : Aside0 (l'.length ≤ 4100) := ⟨by have := H40.out; have := HI.out; omega⟩
       obtain ⟨A5, c5, e5⟩ := Kd.S_slice HT'.out.S
       subst e5
       have HR5 := aM (Kd.S_reads' HT'.out.S)
       have co0 : wr.cell? ⟨w.heap.size + 1, 0, none⟩ = some (.int .i64 (ts.length : Int)) := (blk_cell HT'.out.out 0).trans rfl
       have co1 : wr.cell? ⟨w.heap.size + 1, 1, none⟩ = some (.slice A5 l'.length c5) := (blk_cell HT'.out.out 1).trans rfl
       have p3 : (0 : Int) ≤ (m : Int) := by omega
       have q3 : (m : Int) < (ws.length : Int) := by omega
       clear hinv hlen hkm hm
       subst hA2
       go_upto_region 14 with (first | (go_at_call 81; go_loud ((with_reducible refine (entryOf_calls A5 c5 l' t _ HR5.out.2.2 HR5.out.2.1 (by have := HLEN.out; omega) (inv_rise HINV.out)).mono ?_); rintro e w5 ⟨k, HA, rfl, hb⟩; obtain ⟨b, hbb⟩ : ∃ b, b = isAt l' t k := ⟨_, rfl⟩; rw [← hbb]; have HBB := aM hbb; have HAT := aM HA; have HKL : Aside0 (k ≤ l'.length) := ⟨HA.1⟩; have HT5 := aM (HT'.out.step hb); have HO5 := aM (Kd.R_below HO'.out hb); have HSZ5 := aM (Nat.le_trans HSZ'.out hb.size); clear hbb HA hb)))
       cases b with
       | false =>
        have HS5 := aM (Kd.S_alloc (Kd.S_bound HT5.out.S) (.cells #[.string t, .slice none 0 0] 102))
        have cw0 : w5.cell? ⟨w.heap.size + 1, 0, none⟩ = some (.int .i64 (ts.length : Int)) := (blk_cell HT5.out.out 0).trans rfl
        have cw1 : w5.cell? ⟨w.heap.size + 1, 1, none⟩ = some (.slice A5 l'.length c5) := (blk_cell HT5.out.out 1).trans rfl
        have HINS := aM (ins_S _ _ k w5.heap.size A5 c5 l' t _ HS5.out HKL.out (by have := HLEN.out; omega) (by have := HT5.out.big; simp; omega) (by show (w5.heap.push _)[w5.heap.size]? = _; simp) (fun h => Nat.lt_irrefl _ h.2.2.1) (fun q h => by have := h.2.2.1; simp; omega))
        go_upto_region 16 with (first | (go_at_call 82; go_loud ((with_reducible refine (HINS.out).mono ?_); rintro e w6 ⟨v6, rfl, hS6, hB6, hK6⟩; obtain ⟨l6, hl6⟩ : ∃ l6, l6 = l'.take k ++ (⟨t, []⟩ : En) :: l'.drop k := ⟨_, rfl⟩; rw [← hl6] at hS6; have HL6 := aM hl6; clear hl6; obtain ⟨A6, c6, e6⟩ := Kd.S_slice hS6; subst e6; have HS6 := aM hS6; have HB6 := aM hB6; have HK6 := aM hK6; have co6 : w6.heap[w.heap.size + 1]? = _ := (hB6.block (w.heap.size + 1) (by omega)).trans ((below_alloc (Below.refl w5.heap.size w5) _).block (w.heap.size + 1) HT5.out.big |>.trans HT5.out.out); have ck1 : w6.cell? ⟨w.heap.size + 1, 1, none⟩ = some (.slice A5 l'.length c5) := (blk_cell co6 1).trans rfl; have fk1 : w6.frozen? ⟨w.heap.size + 1, 1, none⟩ = false := blk_frozen co6 1; clear co6 hS6 hB6 hK6)))
        have HT7 := aM (St.mono (P1 := fun q => w.heap.size + 2 ≤ q ∧ some q ≠ (Value.slice (some ad2) ws.length c2).ownBlock) (St.next (HT5.out.step (below_alloc (Below.refl w5.heap.size w5) (.cells #[.string t, .slice none 0 0] 102))) HB6.out HS6.out (fun q hq => by rcases hq with h | h <;> first | exact h.1.1 | (have := HT5.out.big; simp at h; omega))) (fun q hq => by
         rcases hq with h | h
         ·exact h.1
         ·have h1 := HT5.out.big
          rw [new_size] at h
          exact ⟨by omega, fun e => by have := Kd.R_lt HO5.out q e.symm; omega⟩))
        have HO7 := aM (keepW HO5.out (W2 := w6.setCell ⟨w.heap.size + 1, 1, none⟩ (.slice A6 l6.length c6)) (fun q hq hlt hb => by
         have h1 := HSZ.out
         rw [Below.heap_setCell _ _ _ _ (show q ≠ w.heap.size + 1 by omega), HK6.out.2 q (by rw [new_size]; omega) (fun h => h.1.2 hq.symm)]
         exact (below_alloc (Below.refl w5.heap.size w5) _).block q hlt))
        have HSZ7 : Aside0 (w2.heap.size ≤ (w6.setCell ⟨w.heap.size + 1, 1, none⟩ (.slice A6 l6.length c6)).heap.size) := ⟨by have h1 := HSZ5.out; have h2 := HK6.out.1; rw [new_size] at h2; simp [World.setCell]; omega⟩
        have hkl : k < l6.length := by rw [HL6.out, List.length_append, List.length_take, List.length_cons]; have := HKL.out; omega
        have hlk : l6[k] = (⟨t, []⟩ : En) := by
         have e : l6[k]? = some (⟨t, []⟩ : En) := by rw [HL6.out, List.getElem?_append_right (by rw [List.length_take]; omega), List.length_take, Nat.min_eq_left HKL.out, Nat.sub_self]; rfl
         rw [List.getElem?_eq_getElem hkl] at e
         exact Option.some.inj e
        have HCNT : Aside0 (l6.set k ⟨t, [⟨(i : Int), 1⟩]⟩ = cnt l' t (i : Int)) := ⟨by rw [cnt_no _ HAT.out HBB.out.symm, HL6.out, set_ins _ _ _ _ HKL.out]⟩
        obtain ⟨g, OKI, pv, eA, hop⟩ := open_at HT7.out.S k hkl
        rw [hlk] at hop
        obtain ⟨Ap, cp, ep⟩ := Kd.R_slice hop.R
        subst ep
        obtain ⟨W7, hW7⟩ : ∃ W7, W7 = w6.setCell ⟨w.heap.size + 1, 1, none⟩ (.slice A6 l6.length c6) := ⟨_, rfl⟩
        rw [← hW7] at HT7 HO7 HSZ7 hop ⊢
        clear hW7 ck1 fk1 cw0 cw1
        subst eA
        obtain ⟨hq0, hq1, hqf⟩ := hop.cells
        have HOP : Aside0 (Opn W7 (w.heap.size + 2) W7.heap.size (fun q => w.heap.size + 2 ≤ q ∧ some q ≠ (Value.slice (some ad2) ws.length c2).ownBlock) OKI g c6 k l6 t (.slice Ap 0 cp) []) := ⟨hop⟩
        replace hq1 : W7.cell? ⟨g, k * 2 + 1, none⟩ = some (.slice Ap 0 cp) := hq1
        replace hq0 : W7.cell? ⟨g, k * 2, none⟩ = some (.string t) := hq0
        have cz1 : W7.cell? ⟨w.heap.size + 1, 1, none⟩ = some (.slice (some ⟨g, 0, none⟩) l6.length c6) := (blk_cell HT7.out.out 1).trans rfl
        have pk : (0 : Int) ≤ (k : Int) := by omega
        have qk : (k : Int) < (l6.length : Int) := by omega
        have HKL6 := aM hkl
        clear hop hkl hlk
        have pi0 : (0 : Int) ≤ (i : Int) := by omega
        go_upto_region 20 with (((with_reducible refine gate_builtin (b := .append) (xs := #[.tmp 88, .tmp 91]) rfl ?_); at_builtin; go_loud (refine Kd.R_append k56 (w0 := W7) (W := W7) (w.heap.size + 2) rfl (.tmp 88) (.tmp 91) 52 56 (.agg #[.int .i64 0, .int .i64 0]) 16 rfl Try.underlying52 info56 rfl (by decide) (by omega) (.slice Ap 0 cp) ([] : List Po) (⟨(i : Int), 0⟩ : Po) [.int .i64 (i : Int), .int .i64 0] OKI (fun _ => False) rfl rfl (k56_mkM _ _ _ _) (fun _ h => h.elim) HOP.out.new HOP.out.R (Below.refl _ _) (by have := HT7.out.big; omega) (by first | (simp; done) | (have := HPL.out; omega)) ?_; intro v4 w4 ho4 hb4 hg4 hat4; obtain ⟨A4, c4, e4⟩ := Kd.R_slice ho4; obtain ⟨ps1, hps1⟩ : ∃ ps1, ps1 = ([] : List Po) ++ [(⟨(i : Int), 0⟩ : Po)] := ⟨_, rfl⟩; rw [← hps1] at e4 ho4; have HPS1 := aM hps1; have hl1 : ps1.length = 1 := (by rw [hps1]; first | rfl | (rw [List.length_append, HPN.out, HN1.out]; rfl)); rw [hl1] at e4; have HL1 := aM hl1; subst e4; clear hl1 hps1; have HO4 := aM ho4; have HB4 := aM hb4; have HG4 := aM hg4; have HAT4 := aM hat4; clear ho4 hb4 hg4 hat4; have HH4 := aM (Kd.H_grown HOP.out.H HG4.out (fun q hq => HOP.out.R.1 q hq)); obtain ⟨hcl4, hfr4⟩ := H_cell2 HH4.out HKL6.out rfl 1 _ rfl)))
        obtain ⟨hop9, hsz9, hk9⟩ := HOP.out.grown HG4.out HO4.out rfl HAT4.out (Nat.le_refl _)
        have hB9 : Below (w.heap.size + 2) W7 (w4.setCell ⟨g, k * 2 + 1, none⟩ (.slice A4 1 c4)) := Below.setCell (p := ⟨g, k * 2 + 1, none⟩) HB4.out hop9.hg.2.2 _
        obtain ⟨W9, hW9⟩ : ∃ W9, W9 = w4.setCell ⟨g, k * 2 + 1, none⟩ (.slice A4 1 c4) := ⟨_, rfl⟩
        rw [← hW9] at hop9 hsz9 hk9 hB9 ⊢
        have HK9 := aM (⟨hsz9, hk9⟩ : _ ∧ _)
        have HB9 := aM hB9
        clear hW9 hsz9 hk9 hB9 hcl4 hfr4 hq0 hq1 hqf cz1
        obtain ⟨g4, c4', e4', _, _, _⟩ := Kd.R_form hop9.R (by rw [HL1.out]; first | exact Nat.one_pos | (rw [HN1.out]; exact Nat.succ_pos _))
        rw [HL1.out] at e4'
        injection e4' with e4a _ e4b
        subst e4a
        subst e4b
        obtain ⟨r0, r1, rf⟩ := hop9.cells
        obtain ⟨s0, s1, sf, hopE, hgE, hpE⟩ := Opn.putn HL1.out hop9 (m := 0) (by rw [HL1.out]; first | exact Nat.one_pos | (rw [HN1.out]; exact Nat.lt_succ_self _)) (1)
        have hgB4 := Kd.R_base hop9.R g4 (by simp [Value.ownBlock])
        have HGB4 := aM hgB4
        have hps : ps1[0]'(by rw [HL1.out]; first | exact Nat.one_pos | (rw [HN1.out]; exact Nat.lt_succ_self _)) = (⟨(i : Int), 0⟩ : Po) := by simp only [HPS1.out]; rfl
        rw [hps] at s1 s0 hopE
        have HOPE := aM hopE
        have HGE := aM hgE
        have HPE := aM hpE
        have s1 : W9.cell? ⟨g4, 0 * 2 + 1, none⟩ = some (.int .i64 0) := s1
        clear hps hopE hgE hpE hop9 hgB4 s0
        try simp only [Nat.zero_mul, Nat.zero_add] at s1 sf
        go_region
        try clear pw hnm hnl hn0
        have hown : ∀ q, (Value.slice (some ad2) ws.length c2).ownBlock = some q → q < W7.heap.size := fun q hq => Kd.R_lt HO7.out q hq
        have hsh := Kd.S_mono (ok' := fun q => w.heap.size + 2 ≤ q ∧ some q ≠ (Value.slice (some ad2) ws.length c2).ownBlock) (Kd.S_drew HOPE.out.shut) (fun q hq => by
         rcases hq with h | h
         ·exact h
         ·have h1 := HT7.out.big
          exact ⟨by omega, fun e => by have := hown q e.symm; omega⟩)
        have hke : ∀ q, (Value.slice (some ad2) ws.length c2).ownBlock = some q → (W9.setCell ⟨g4, 0 * 2 + 1, none⟩ (.int .i64 (1))).heap[q]? = W7.heap[q]? := fun q hq => by
         have hlt := hown q hq
         have h1 := HGE.out.block q (Nat.lt_of_lt_of_le hlt HK9.out.1) (fun e => by
          injection e with e
          rcases HPE.out with h | h
          ·exact h.2 (by rw [← e]; exact hq.symm)
          ·omega)
         exact h1.trans (HK9.out.2 q hlt (fun h => by rcases h with h | h; exact h.2 hq.symm; omega))
        have hcn : l6.set k ⟨t, ps1.set (0) ⟨(i : Int), 1⟩⟩ = cnt l' t (i : Int) := by rw [HPS1.out, ← HCNT.out]; rfl
        rw [hcn] at hsh
        have HSH := aM hsh
        have HKE := aM hke
        clear hsh hke hcn hown
        go_wp2
        go_roundg (ws.length - (m + 1))
        case measure => have := HKM.out; have := HM.out; omega
        case rel =>
         refine ⟨m + 1, cnt l' t (i : Int), _, by first | go_num | (rw [w64 (by have := HM.out; have := HW100.out; omega) (by have := HM.out; have := HW100.out; omega)]; go_num), HM.out, rfl, ⟨?_⟩, ⟨HT7.out.swap (below_drew (Below.setCell (p := ⟨g4, 0 * 2 + 1, none⟩) HB9.out HGB4.out (.int .i64 (1)))) HSH.out⟩, ⟨keepW HO7.out (fun q hq _ _ => HKE.out q hq)⟩, ⟨?_⟩⟩
         ·rw [List.take_succ_eq_append_getElem HM.out, List.foldl_append, ← HL'.out, ← HTE.out]
          rfl
         ·exact Nat.le_trans HSZ7.out (Nat.le_trans HK9.out.1 HGE.out.size)
       | true =>
        obtain ⟨hkl, hlt5, hcnt⟩ := cnt_yes (i : Int) HAT.out HBB.out.symm
        have HCNT := aM hcnt
        obtain ⟨hisw, hne, hpso⟩ := HINV.out.each l'[k] (List.getElem_mem hkl)
        have hsm := inv_small HINV.out (by omega) l'[k] (List.getElem_mem hkl)
        have hpk : ∀ p ∈ l'[k].f1, 1 ≤ p.f1 ∧ p.f1 ≤ 100 := fun p hp => (hpso.each p hp).2.2
        obtain ⟨g, OKI, pv, eA, hop⟩ := open_at HT5.out.S k hkl
        rw [hlt5] at hop
        obtain ⟨ps, hps⟩ : ∃ ps, ps = l'[k].f1 := ⟨_, rfl⟩
        rw [← hps] at hop hne hsm hpk HCNT
        obtain ⟨g2, cp, ep, _, _, _⟩ := Kd.R_form hop.R (List.length_pos_iff.2 hne)
        subst ep
        obtain ⟨m2, hm2'⟩ : ∃ m2, ps.length = m2 + 1 := ⟨ps.length - 1, by have := List.length_pos_iff.2 hne; omega⟩
        obtain ⟨nn, hm2⟩ : ∃ nn, ps.length = nn := ⟨_, rfl⟩
        obtain ⟨n1, hn1⟩ : ∃ n1, n1 = nn + 1 := ⟨_, rfl⟩
        have HPN := aM hm2
        have HNM : Aside0 (nn = m2 + 1) := ⟨by omega⟩
        have HN1 := aM hn1
        have hmlt : m2 < ps.length := by omega
        clear hm2' hn1
        have HMLT := aM hmlt
        have HPL : Aside0 (ps.length ≤ 100) := ⟨by have := H40.out; have := HI.out; omega⟩
        rw [hm2] at hop
        obtain ⟨y, hy⟩ : ∃ y, y = ps[m2]'HMLT.out := ⟨_, rfl⟩
        have HY := aM hy
        have HY1 := aM (hpk y (by rw [hy]; exact List.getElem_mem _))
        have HBU : Aside0 (bump ps (i : Int) = if y.f0 = (i : Int) then ps.set m2 ⟨y.f0, wrap64 (y.f1 + 1)⟩ else ps ++ [⟨(i : Int), 1⟩]) := ⟨by
         have h9 : ps.length - 1 = m2 := by have h1 := HNM.out; have h2 := HPN.out; omega
         have e : ps.getD (ps.length - 1) ⟨0, 0⟩ = y := by rw [HY.out, h9, List.getD_eq_getElem?_getD, List.getElem?_eq_getElem HMLT.out]; rfl
         unfold bump
         rw [e, h9]⟩
        obtain ⟨s0, s1, sf, hopE, hgE, hpE⟩ := Opn.putn HPN.out hop (m := m2) HMLT.out (wrap64 (y.f1 + 1))
        rw [← hy] at s0 s1 hopE
        have HOPE := aM hopE
        have HGE := aM hgE
        have HPE := aM hpE
        have hgB4 := Kd.R_base hop.R g2 (by simp [Value.ownBlock])
        have HGB4 := aM hgB4
        have HOP := aM hop
        subst eA
        obtain ⟨hq0, hq1, hqf⟩ := hop.cells
        have cz1 : w5.cell? ⟨w.heap.size + 1, 1, none⟩ = some (.slice (some ⟨g, 0, none⟩) l'.length c5) := (blk_cell HT5.out.out 1).trans rfl
        have pk : (0 : Int) ≤ (k : Int) := by omega
        have qk : (k : Int) < (l'.length : Int) := by omega
        have pi0 : (0 : Int) ≤ (i : Int) := by omega
        have HKL6 := aM hkl
        have pm0 : (0 : Int) ≤ (m2 : Int) := Int.natCast_nonneg m2
        have pm1 : (m2 : Int) < (nn : Int) := by have h1 := HNM.out; omega
        clear hisw hop hkl hlt5 hcnt hne hpso hsm hpk hps hm2 hmlt hy hopE hgE hpE hgB4
        have hb0 : ((nn : Int) == 0) = false := by rw [beq_eq_false_iff_ne]; have h1 := HNM.out; omega
        have hnm : (nn : Int) - 1 = (m2 : Int) := by have h1 := HNM.out; omega
        have pw : wrap64 (m2 : Int) = (m2 : Int) := by have h1 := HPL.out; have h2 := HPN.out; have h3 := HNM.out; clear hb0 hnm; exact w64 (by omega) (by omega)
        by_cases hyi : y.f0 = (i : Int)
        ·have hyb : (y.f0 != (i : Int)) = false := by rw [hyi]; exact bne_self_eq_false _
         rw [if_pos hyi] at HBU
         have HCN : Aside0 (cnt l' t (i : Int) = l'.set k ⟨t, ps.set m2 ⟨y.f0, wrap64 (y.f1 + 1)⟩⟩) := ⟨by rw [HCNT.out, HBU.out]⟩
         clear hyi
         go_upto_region 20 with (fail)
         go_region
         clear hb0 hyb pw hnm s0 s1 sf hq0 hq1 hqf cz1 pm1
         have hown : ∀ q, (Value.slice (some ad2) ws.length c2).ownBlock = some q → q < w5.heap.size := fun q hq => Kd.R_lt HO5.out q hq
         have hsh := Kd.S_mono (ok' := fun q => w.heap.size + 2 ≤ q ∧ some q ≠ (Value.slice (some ad2) ws.length c2).ownBlock) (Kd.S_drew HOPE.out.shut) (fun q hq => by
          rcases hq with h | h
          ·exact h
          ·have h1 := HT5.out.big
           exact ⟨by omega, fun e => by have := hown q e.symm; omega⟩)
         have hke : ∀ q, (Value.slice (some ad2) ws.length c2).ownBlock = some q → (w5.setCell ⟨g2, m2 * 2 + 1, none⟩ (.int .i64 (wrap64 (y.f1 + 1)))).heap[q]? = w5.heap[q]? := fun q hq => by
          have hlt := hown q hq
          have h1 := HGE.out.block q (Nat.lt_of_lt_of_le hlt (Nat.le_refl _)) (fun e => by
           injection e with e
           rcases HPE.out with h | h
           ·exact h.2 (by rw [← e]; exact hq.symm)
           ·omega)
          exact h1
         have hcn : l'.set k ⟨t, ps.set m2 ⟨y.f0, wrap64 (y.f1 + 1)⟩⟩ = cnt l' t (i : Int) := by rw [← HCN.out]
         rw [hcn] at hsh
         have HSH := aM hsh
         have HKE := aM hke
         clear hsh hke hcn hown
         go_wp2
         go_roundg (ws.length - (m + 1))
         case measure => have := HKM.out; have := HM.out; omega
         case rel =>
          refine ⟨m + 1, cnt l' t (i : Int), _, by first | go_num | (rw [w64 (by have := HM.out; have := HW100.out; omega) (by have := HM.out; have := HW100.out; omega)]; go_num), HM.out, rfl, ⟨?_⟩, ⟨HT5.out.swap (below_drew (Below.setCell (p := ⟨g2, m2 * 2 + 1, none⟩) (Below.refl _ _) HGB4.out (.int .i64 (wrap64 (y.f1 + 1))))) HSH.out⟩, ⟨keepW HO5.out (fun q hq _ _ => HKE.out q hq)⟩, ⟨?_⟩⟩
          ·rw [List.take_succ_eq_append_getElem HM.out, List.foldl_append, ← HL'.out, ← HTE.out]
           rfl
          ·exact Nat.le_trans HSZ5.out (Nat.le_trans (Nat.le_refl _) HGE.out.size)
        ·have hyb : (y.f0 != (i : Int)) = true := by rw [bne_iff_ne]; exact hyi
         rw [if_neg hyi] at HBU
         clear hyi HOPE HGE HPE HGB4
         go_upto_region 19 with (fail)
         clear hb0 hyb pw hnm s0 s1 sf pm0 pm1
         have hn0 : (0 : Int) ≤ (nn : Int) := by omega
         have hnl : (nn : Int) < (n1 : Int) := by have h1 := HN1.out; omega
         have hnm : (n1 : Int) - 1 = (nn : Int) := by have h1 := HN1.out; omega
         have pw : wrap64 (nn : Int) = (nn : Int) := by have h1 := HPL.out; have h2 := HPN.out; clear hnm hnl; exact w64 (by omega) (by omega)
         go_upto_region 20 with (((with_reducible refine gate_builtin (b := .append) (xs := #[.tmp 88, .tmp 91]) rfl ?_); at_builtin; go_loud (refine Kd.R_append k56 (w0 := w5) (W := w5) (w.heap.size + 2) rfl (.tmp 88) (.tmp 91) 52 56 (.agg #[.int .i64 0, .int .i64 0]) 16 rfl Try.underlying52 info56 rfl (by decide) (by omega) (.slice (some ⟨g2, 0, none⟩) nn cp) ps (⟨(i : Int), 0⟩ : Po) [.int .i64 (i : Int), .int .i64 0] OKI (fun _ => False) rfl rfl (k56_mkM _ _ _ _) (fun _ h => h.elim) HOP.out.new HOP.out.R (Below.refl _ _) (by have := HT5.out.big; omega) (by first | (simp; done) | (have := HPL.out; omega)) ?_; intro v4 w4 ho4 hb4 hg4 hat4; obtain ⟨A4, c4, e4⟩ := Kd.R_slice ho4; obtain ⟨ps1, hps1⟩ : ∃ ps1, ps1 = ps ++ [(⟨(i : Int), 0⟩ : Po)] := ⟨_, rfl⟩; rw [← hps1] at e4 ho4; have HPS1 := aM hps1; have hl1 : ps1.length = n1 := (by rw [hps1]; first | rfl | (rw [List.length_append, HPN.out, HN1.out]; rfl)); rw [hl1] at e4; have HL1 := aM hl1; subst e4; clear hl1 hps1; have HO4 := aM ho4; have HB4 := aM hb4; have HG4 := aM hg4; have HAT4 := aM hat4; clear ho4 hb4 hg4 hat4; have HH4 := aM (Kd.H_grown HOP.out.H HG4.out (fun q hq => HOP.out.R.1 q hq)); obtain ⟨hcl4, hfr4⟩ := H_cell2 HH4.out HKL6.out rfl 1 _ rfl)))
         obtain ⟨hop9, hsz9, hk9⟩ := HOP.out.grown HG4.out HO4.out rfl HAT4.out (Nat.le_refl _)
         have hB9 : Below (w.heap.size + 2) w5 (w4.setCell ⟨g, k * 2 + 1, none⟩ (.slice A4 n1 c4)) := Below.setCell (p := ⟨g, k * 2 + 1, none⟩) HB4.out hop9.hg.2.2 _
         obtain ⟨W9, hW9⟩ : ∃ W9, W9 = w4.setCell ⟨g, k * 2 + 1, none⟩ (.slice A4 n1 c4) := ⟨_, rfl⟩
         rw [← hW9] at hop9 hsz9 hk9 hB9 ⊢
         have HK9 := aM (⟨hsz9, hk9⟩ : _ ∧ _)
         have HB9 := aM hB9
         clear hW9 hsz9 hk9 hB9 hcl4 hfr4 hq0 hq1 hqf cz1
         obtain ⟨g4, c4', e4', _, _, _⟩ := Kd.R_form hop9.R (by rw [HL1.out]; first | exact Nat.one_pos | (rw [HN1.out]; exact Nat.succ_pos _))
         rw [HL1.out] at e4'
         injection e4' with e4a _ e4b
         subst e4a
         subst e4b
         obtain ⟨r0, r1, rf⟩ := hop9.cells
         obtain ⟨s0, s1, sf, hopE, hgE, hpE⟩ := Opn.putn HL1.out hop9 (m := nn) (by rw [HL1.out]; first | exact Nat.one_pos | (rw [HN1.out]; exact Nat.lt_succ_self _)) (1)
         have hgB4 := Kd.R_base hop9.R g4 (by simp [Value.ownBlock])
         have HGB4 := aM hgB4
         have hps : ps1[nn]'(by rw [HL1.out]; first | exact Nat.one_pos | (rw [HN1.out]; exact Nat.lt_succ_self _)) = (⟨(i : Int), 0⟩ : Po) := by simp only [HPS1.out]; rw [List.getElem_append_right (by rw [HPN.out]; exact Nat.le_refl _)]; simp [HPN.out]
         rw [hps] at s1 s0 hopE
         have HOPE := aM hopE
         have HGE := aM hgE
         have HPE := aM hpE
         have s1 : W9.cell? ⟨g4, nn * 2 + 1, none⟩ = some (.int .i64 0) := s1
         clear hps hopE hgE hpE hop9 hgB4 s0
         try simp only [Nat.zero_mul, Nat.zero_add] at s1 sf
         go_region
         try clear pw hnm hnl hn0
         have hown : ∀ q, (Value.slice (some ad2) ws.length c2).ownBlock = some q → q < w5.heap.size := fun q hq => Kd.R_lt HO5.out q hq
         have hsh := Kd.S_mono (ok' := fun q => w.heap.size + 2 ≤ q ∧ some q ≠ (Value.slice (some ad2) ws.length c2).ownBlock) (Kd.S_drew HOPE.out.shut) (fun q hq => by
          rcases hq with h | h
          ·exact h
          ·have h1 := HT5.out.big
           exact ⟨by omega, fun e => by have := hown q e.symm; omega⟩)
         have hke : ∀ q, (Value.slice (some ad2) ws.length c2).ownBlock = some q → (W9.setCell ⟨g4, nn * 2 + 1, none⟩ (.int .i64 (1))).heap[q]? = w5.heap[q]? := fun q hq => by
          have hlt := hown q hq
          have h1 := HGE.out.block q (Nat.lt_of_lt_of_le hlt HK9.out.1) (fun e => by
           injection e with e
           rcases HPE.out with h | h
           ·exact h.2 (by rw [← e]; exact hq.symm)
           ·omega)
          exact h1.trans (HK9.out.2 q hlt (fun h => by rcases h with h | h; exact h.2 hq.symm; omega))
         have hcn : l'.set k ⟨t, ps1.set (nn) ⟨(i : Int), 1⟩⟩ = cnt l' t (i : Int) := by rw [HCNT.out, HBU.out, HPS1.out, List.set_append_right _ _ (by rw [HPN.out]; exact Nat.le_refl _), HPN.out, Nat.sub_self]; rfl
         rw [hcn] at hsh
         have HSH := aM hsh
         have HKE := aM hke
         clear hsh hke hcn hown
         go_wp2
         go_roundg (ws.length - (m + 1))
         case measure => have := HKM.out; have := HM.out; omega
         case rel =>
          refine ⟨m + 1, cnt l' t (i : Int), _, by first | go_num | (rw [w64 (by have := HM.out; have := HW100.out; omega) (by have := HM.out; have := HW100.out; omega)]; go_num), HM.out, rfl, ⟨?_⟩, ⟨HT5.out.swap (below_drew (Below.setCell (p := ⟨g4, nn * 2 + 1, none⟩) HB9.out HGB4.out (.int .i64 (1)))) HSH.out⟩, ⟨keepW HO5.out (fun q hq _ _ => HKE.out q hq)⟩, ⟨?_⟩⟩
          ·rw [List.take_succ_eq_append_getElem HM.out, List.foldl_append, ← HL'.out, ← HTE.out]
           rfl
          ·exact Nat.le_trans HSZ5.out (Nat.le_trans HK9.out.1 HGE.out.size)
      ·obtain rfl : m = ws.length := by omega
       have HL2 : Aside0 (l' = idxTo ts (i + 1)) := ⟨by
        rw [HL'.out, List.take_length]
        show _ = (wordsOf (ts.getD i ByteArray.empty)).foldl (fun l t => cnt l t (i : Int)) (idxTo ts i)
        rw [List.getD_eq_getElem?_getD, List.getElem?_eq_getElem HI.out, HWS.out, HXE.out, HL.out]
        rfl⟩
       clear hm hkm hlm
       go_wp2
       go_roundg (ts.length - (i + 1))
       case measure => have := HI.out; omega
       case rel =>
        refine ⟨i + 1, l', v', by first | go_num | (rw [w64 (by have := H40.out; have := HI.out; omega) (by have := H40.out; have := HI.out; omega)]; go_num), HI.out, rfl, HL2, ⟨fun j hj hji => ?_⟩, ⟨HT'.out.mono (fun q hq => hq.1)⟩⟩
        by_cases e : j = i
        ·subst e
         rw [← HXE.out]
         exact H2X.out
        ·exact H200.out j hj (by omega)
    ·have EW := aM (show impl_WordsIn.f x = some ([], false) from if_pos (by omega))
     have HBAD := aM (ans_bad (ts := ts) (fun h => h2 (by rw [HXE.out]; exact h.2.1 _ (List.getElem_mem _))))
     clear h2
     go_wp2_with (first | (go_at_call 39; go_loud ((with_reducible refine (impl_WordsIn.calls x [] false _ EW.out).mono ?_); rintro e w2 ⟨v2, rfl, ho, hb⟩; obtain ⟨A2, c2, e2⟩ := Kd.R_slice ho; subst e2; have HT2 := aM (HT.out.step hb); have cr0 : w2.cell? ⟨w.heap.size, 0, none⟩ = some (.int .i64 0) := (blk_cell HT2.out.res 0).trans rfl; have cr1 : w2.cell? ⟨w.heap.size, 1, none⟩ = some (.slice none 0 0) := (blk_cell HT2.out.res 1).trans rfl; have fr0 : w2.frozen? ⟨w.heap.size, 0, none⟩ = false := blk_frozen HT2.out.res 0; have fr1 : w2.frozen? ⟨w.heap.size, 1, none⟩ = false := blk_frozen HT2.out.res 1; clear ho hb)))
     refine bodyPost_ret (results_ct rfl _ _ w.heap.size 33 #[.int .i64 0, .slice none 0 0] (0, 0) _ rfl (blk_put (blk_put HT2.out.res 0 _ rfl) 1 _ rfl) Try.underlying33 rfl (by kernel_rfl)) rfl ?_
     rw [HBAD.out]
     exact ⟨_, rfl, Kd.S_nil _ _ _ _ _, (HT2.out.below.setCell (p := ⟨w.heap.size, 0, none⟩) (Nat.le_refl _) _).setCell (p := ⟨w.heap.size, 1, none⟩) (Nat.le_refl _) _⟩
   ·obtain rfl : i = ts.length := by omega
    have H2A := aM (show ∀ s ∈ ts, s.size ≤ 200 from fun s hs => by obtain ⟨j, hj, rfl⟩ := List.getElem_of_mem hs; exact H200.out j hj hj)
    obtain ⟨A1, c1, e1⟩ := Kd.S_slice HT.out.S
    subst e1
    obtain ⟨n1, hn1⟩ : ∃ n1, n1 = l.length := ⟨_, rfl⟩
    rw [← hn1] at HT
    have HN1 := aM hn1
    have co0 : wr.cell? ⟨w.heap.size + 1, 0, none⟩ = some (.int .i64 (ts.length : Int)) := (blk_cell HT.out.out 0).trans rfl
    have co1 : wr.cell? ⟨w.heap.size + 1, 1, none⟩ = some (.slice A1 n1 c1) := (blk_cell HT.out.out 1).trans rfl
    have cr0 : wr.cell? ⟨w.heap.size, 0, none⟩ = some (.int .i64 0) := (blk_cell HT.out.res 0).trans rfl
    have cr1 : wr.cell? ⟨w.heap.size, 1, none⟩ = some (.slice none 0 0) := (blk_cell HT.out.res 1).trans rfl
    have fr0 : wr.frozen? ⟨w.heap.size, 0, none⟩ = false := blk_frozen HT.out.res 0
    have fr1 : wr.frozen? ⟨w.heap.size, 1, none⟩ = false := blk_frozen HT.out.res 1
    clear hlt hi hk hn1
    by_cases hbig : n1 ≤ 200
    ·have hg2 : decide ((n1 : Int) > 200) = false := decide_eq_false (by omega)
     have HANS : Aside0 (ansIdx ts = ((ts.length : Int), l, true)) := ⟨by unfold ansIdx; rw [if_pos ⟨H40.out, H2A.out, by rw [← HL.out, ← HN1.out]; exact hbig⟩, HL.out]⟩
     clear hbig
     go_wp2
     refine bodyPost_ret (results_ct rfl _ _ w.heap.size 33 #[.int .i64 (ts.length : Int), .slice A1 n1 c1] (0, 0) _ rfl (blk_put (blk_put HT.out.res 0 _ rfl) 1 _ rfl) Try.underlying33 rfl (by kernel_rfl)) rfl ?_
     rw [HANS.out]
     have h1 := Kd.S_far HT.out.S (p := ⟨w.heap.size, 0, none⟩) (fun k hk e => by have e : k = w.heap.size := e; omega) (.int .i64 (ts.length : Int))
     have h2 := Kd.S_far h1 (p := ⟨w.heap.size, 1, none⟩) (fun k hk e => by have e : k = w.heap.size := e; omega) (.slice A1 n1 c1)
     exact ⟨_, rfl, Kd.S_mono (Kd.S_lower h2 (by omega)) (fun _ _ => trivial), (HT.out.below.setCell (p := ⟨w.heap.size, 0, none⟩) (Nat.le_refl _) _).setCell (p := ⟨w.heap.size, 1, none⟩) (Nat.le_refl _) _⟩
    ·have hg2 : decide ((n1 : Int) > 200) = true := decide_eq_true (by omega)
     have HBAD := aM (ans_bad (ts := ts) (fun h => hbig (by rw [HN1.out, HL.out]; exact h.2.2)))
     clear hbig
     go_wp2
     refine bodyPost_ret (results_ct rfl _ _ w.heap.size 33 #[.int .i64 0, .slice none 0 0] (0, 0) _ rfl (blk_put (blk_put HT.out.res 0 _ rfl) 1 _ rfl) Try.underlying33 rfl (by kernel_rfl)) rfl ?_
     rw [HBAD.out]
     exact ⟨_, rfl, Kd.S_nil _ _ _ _ _, (HT.out.below.setCell (p := ⟨w.heap.size, 0, none⟩) (Nat.le_refl _) _).setCell (p := ⟨w.heap.size, 1, none⟩) (Nat.le_refl _) _⟩
 ·have hgt : decide ((ts.length : Int) > 40) = true := decide_eq_true (by omega)
  rw [ans_bad (fun h => h40 h.1)]
  clear hr hc hs h40
  go_enter Try.func33, Try.ntmps33
  go_wp2
  refine bodyPost_ret (results_ct rfl _ _ w.heap.size 33 #[.int .i64 0, .slice none 0 0] (0, 0) _ rfl (by show (w.heap.push _)[w.heap.size]? = _; simp) Try.underlying33 rfl (by kernel_rfl)) rfl ?_
  exact ⟨_, rfl, Kd.S_nil _ _ _ _ _, below_alloc (Below.refl _ _) _⟩
end Go.Proofs.Ytaomjndfjmfelaa.IdR
end

section
namespace Go.Proofs.Ytaomjndfjmfelaa.IdS
set_option linter.unusedVariables false
set_option linter.unusedSimpArgs false
open Go.RowKit Go.Proofs.Ytaomjndfjmfelaa.PQ Go.Proofs.YtaomjndfjmfelaaW.PrintWords Go.Proofs.YtaomjndfjmfelaaW.PrintLast Go.Proofs.YtaomjndfjmfelaaW.PrintMore Go.Proofs.Ytaomjndfjmfelaa.Pre Go.Proofs.Ytaomjndfjmfelaa.EntW Go.Proofs.Ytaomjndfjmfelaa.Posts Go.Proofs.Ytaomjndfjmfelaa.GoodW Go.Proofs.Ytaomjndfjmfelaa.CmpL Go.Proofs.Ytaomjndfjmfelaa.Cou Go.Proofs.Ytaomjndfjmfelaa.Idx Go.Proofs.Ytaomjndfjmfelaa.WordsW Go.Proofs.Ytaomjndfjmfelaa.IdR
theorem rd_str (l : List ByteArray) (i : Nat) (h : i < l.length) : rdOf ByteArray.empty l (i : Int) = l[i] := by
 unfold rdOf
 simp [h]
theorem word_size {x : ByteArray} (h : isW x = true) : x.size ≤ 20 := by
 unfold isW at h
 rw [Bool.and_eq_true, decide_eq_true_eq] at h
 exact h.1.2
theorem inv_sm {i : Int} {l : List En} (h : Inv i l) (h0 : -1 ≤ i) (h1 : i ≤ 1000) (hl : l.length ≤ 1000000) : Small l := ⟨by omega, fun e he => ⟨by have := word_size (h.each e he).1; omega, by have := inv_small h h0 e he; omega⟩⟩
theorem count_ev {i : Int} {l : List En} (h : Inv i l) (h0 : -1 ≤ i) (h1 : i ≤ 1000) (hl : l.length ≤ 1000000) (t : ByteArray) : spec_l10Count.f l t i = some (cnt l t i) := by
 unfold spec_l10Count.f
 rw [if_pos]
 refine ⟨by omega, fun e he => ⟨List.length_pos_iff.2 (h.each e he).2.1, ?_⟩⟩
 have := inv_small h h0 e he
 omega
theorem ts_get (ts : List ByteArray) (i : Nat) (h : i < ts.length) : ts.getD i ByteArray.empty = ts[i] := by
 rw [List.getD_eq_getElem?_getD, List.getElem?_eq_getElem h]
 rfl
theorem specIdx_ev (ts : List ByteArray) (hl : ts.length ≤ 1048576) (hs : ∀ s ∈ ts, s.size ≤ 1048576) : Evt (fun k => spec_IndexOf.f k ts) (ansIdx ts) := by
 unfold spec_IndexOf.f
 by_cases h40 : ts.length ≤ 40
 ·refine Evt.neg (by omega) ?_
  have key : ∀ (m i : Nat), i + m = ts.length → (∀ j, ∀ h : j < ts.length, j < i → ts[j].size ≤ 200) → Evt (fun k => spec_IndexOf.l0 k ts (ts.length : Int) (i : Int) (ts.length : Int) (idxTo ts i)) (ansIdx ts) := by
   intro m
   induction m with
   | zero =>
    intro i hi h200
    obtain rfl : i = ts.length := by omega
    have hA : ∀ s ∈ ts, s.size ≤ 200 := fun s hs => by
     obtain ⟨j, hj, rfl⟩ := List.getElem_of_mem hs
     exact h200 j hj hj
    obtain ⟨h1, h2⟩ := idx_inv ts (fun s hs => ⟨words_100 s (hA s hs), words_are s⟩) ts.length (Nat.le_refl _)
    have h3 := idxTo_len ts (fun s hs => words_100 s (hA s hs)) ts.length (Nat.le_refl _)
    have hsm := inv_sm h1 (by omega) (by omega) (by omega)
    refine Evt.step (fun k => spec_IndexOf.l0.eq_2 _ _ _ _ _ k) (Evt.neg (by omega) (Evt.bind (GoodW.spec_ev _ _ hsm) ?_))
    by_cases hb : (idxTo ts ts.length).length ≤ 200
    ·rw [good_of h1 (by omega) hb]
     refine Evt.pos rfl ((Evt.const _).eq ?_)
     unfold ansIdx
     rw [if_pos ⟨h40, hA, hb⟩]
    ·have hg : goodW (ts.length : Int) (idxTo ts ts.length) = false := by
      unfold goodW
      rw [decide_eq_false hb, Bool.and_false, Bool.false_and]
     rw [hg]
     refine Evt.neg (by simp) ((Evt.const _).eq ?_)
     rw [ans_bad (fun h => hb h.2.2)]
   | succ m ih =>
    intro i hi h200
    have hlt : i < ts.length := by omega
    refine Evt.step (fun k => spec_IndexOf.l0.eq_2 _ _ _ _ _ k) (Evt.pos (by omega) (Evt.pos (by omega) (Evt.pos (by omega) ?_)))
    rw [rd_str ts i hlt]
    by_cases hx : ts[i].size ≤ 200
    ·refine Evt.neg (by omega) (Evt.bind (spec_words ts[i] (by omega)) ?_)
     have hn := ih (i + 1) (by omega) (fun j hj hji => by
      by_cases e : j = i
      ·subst e
       exact hx
      ·exact h200 j hj (by omega))
     have hw100 := words_100 ts[i] hx
     have tk : ∀ (n j : Nat), j + n = (wordsOf ts[i]).length → Evt (fun k => spec_IndexOf.l1 k (i : Int) ts (ts.length : Int) (i : Int) (wordsOf ts[i]) ((wordsOf ts[i]).length : Int) (j : Int) (ts.length : Int) (((wordsOf ts[i]).take j).foldl (fun l t => cnt l t (i : Int)) (idxTo ts i))) (ansIdx ts) := by
      intro n
      induction n with
      | zero =>
       intro j hj
       refine Evt.step (fun k => spec_IndexOf.l1.eq_2 _ _ _ _ _ _ _ _ _ k) (Evt.neg (by omega) ?_)
       rw [w64 (n := (i : Int) + 1) (by omega) (by omega), show (i : Int) + 1 = ((i + 1 : Nat) : Int) by omega, List.take_of_length_le (by omega)]
       have e : (wordsOf ts[i]).foldl (fun l t => cnt l t (i : Int)) (idxTo ts i) = idxTo ts (i + 1) := by
        show _ = (wordsOf (ts.getD i ByteArray.empty)).foldl (fun l t => cnt l t (i : Int)) (idxTo ts i)
        rw [ts_get ts i hlt]
       rw [e]
       exact hn
      | succ n ih2 =>
       intro j hj
       have hjl : j < (wordsOf ts[i]).length := by omega
       obtain ⟨hinv, hlen⟩ := inv_at ts i j hlt h200 hx
       refine Evt.step (fun k => spec_IndexOf.l1.eq_2 _ _ _ _ _ _ _ _ _ k) (Evt.pos (by omega) (Evt.pos (by omega) (Evt.pos (by omega) ?_)))
       rw [rd_str _ j hjl, count_ev hinv (by omega) (by omega) (by omega)]
       refine Evt.bsome ?_
       have h := ih2 (j + 1) (by omega)
       rw [List.take_succ_eq_append_getElem hjl, List.foldl_append] at h
       rw [w64 (n := (j : Int) + 1) (by omega) (by omega)]
       exact h
     exact tk (wordsOf ts[i]).length 0 (by omega)
    ·refine Evt.pos (by omega) ((Evt.const _).eq ?_)
     rw [ans_bad (fun h => hx (h.2.1 _ (List.getElem_mem hlt)))]
  exact key ts.length 0 (by omega) (fun j _ h => by omega)
 ·refine Evt.pos (by omega) ((Evt.const _).eq ?_)
  rw [ans_bad (fun h => h40 h.1)]
/-- What is answered is small. -/
theorem ans_small (ts : List ByteArray) : Small (ansIdx ts).2.1 ∧ (ansIdx ts).2.1.length ≤ 200 ∧ ∀ e ∈ (ansIdx ts).2.1, e.f1.length ≤ 1000 := by
 unfold ansIdx
 by_cases h : ts.length ≤ 40 ∧ (∀ s ∈ ts, s.size ≤ 200) ∧ (idxTo ts ts.length).length ≤ 200
 ·rw [if_pos h]
  obtain ⟨h1, h2⟩ := idx_inv ts (fun s hs => ⟨words_100 s (h.2.1 s hs), words_are s⟩) ts.length (Nat.le_refl _)
  exact ⟨inv_sm h1 (by omega) (by omega) (Nat.le_trans h.2.2 (by decide)), h.2.2, fun e he => by have := inv_small h1 (by omega) e he; omega⟩
 ·rw [if_neg h]
  exact ⟨⟨by simp, fun e he => by cases he⟩, by simp, fun e he => by cases he⟩
end Go.Proofs.Ytaomjndfjmfelaa.IdS
end

section
namespace Go.Proofs.Ytaomjndfjmfelaa.WdP
set_option linter.unusedVariables false
set_option linter.unusedSimpArgs false
open Go.RowKit Go.Proofs.Ytaomjndfjmfelaa.PQ Go.Proofs.YtaomjndfjmfelaaW.PrintWords Go.Proofs.YtaomjndfjmfelaaW.PrintLast Go.Proofs.YtaomjndfjmfelaaW.PrintMore Go.Proofs.Ytaomjndfjmfelaa.Pre Go.Proofs.Ytaomjndfjmfelaa.EntW Go.Proofs.Ytaomjndfjmfelaa.Posts Go.Proofs.Ytaomjndfjmfelaa.GoodW Go.Proofs.Ytaomjndfjmfelaa.PostW Go.Proofs.Ytaomjndfjmfelaa.CmpL Go.Proofs.Ytaomjndfjmfelaa.Cou Go.Proofs.Ytaomjndfjmfelaa.Idx Go.Proofs.Ytaomjndfjmfelaa.WordsW Go.Proofs.Ytaomjndfjmfelaa.Ask Go.Proofs.Ytaomjndfjmfelaa.Cnt Go.Proofs.Ytaomjndfjmfelaa.ByD
theorem rd_i (l : List Int) (i : Nat) (h : i < l.length) : rd l (i : Int) = l[i] := by
 unfold rd
 simp [h]
/-- The last that is told of a text. -/
def lastT (ps : List Po) (k : Int) : Int := ps.foldl (fun a p => if p.f0 = k then p.f1 else a) 0
theorem lastT_step (ps : List Po) (k : Int) (m : Nat) (h : m < ps.length) : lastT (ps.take (m + 1)) k = if ps[m].f0 = k then ps[m].f1 else lastT (ps.take m) k := by
 unfold lastT
 rw [List.take_succ_eq_append_getElem h, List.foldl_append]
 rfl
theorem fold_none (k : Int) : ∀ (ps : List Po) (a : Int), (∀ p ∈ ps, p.f0 ≠ k) → ps.foldl (fun a p => if p.f0 = k then p.f1 else a) a = a
 | [], a, _ => rfl
 | p :: ps, a, h => by
  rw [List.foldl_cons, if_neg (h p List.mem_cons_self)]
  exact fold_none k ps a (fun q hq => h q (List.mem_cons_of_mem _ hq))
theorem fold_tm (k : Int) : ∀ (ps : List Po) (a : Int), ps.Pairwise (fun a b => a.f0 < b.f0) → ps.foldl (fun a p => if p.f0 = k then p.f1 else a) a = if (ps.any (fun p => decide (p.f0 = k))) = true then tmP ps k else a
 | [], a, _ => rfl
 | p :: ps, a, h => by
  have h2 := List.pairwise_cons.1 h
  rw [List.foldl_cons, List.any_cons]
  by_cases e : p.f0 = k
  ·rw [if_pos e, decide_eq_true e, Bool.true_or, if_pos rfl, fold_none k ps p.f1 (fun q hq he => by have := h2.1 q hq; omega)]
   unfold tmP
   have h3 : (p :: ps).find? (fun p => decide (p.f0 = k)) = some p := List.find?_cons_of_pos (decide_eq_true e)
   rw [h3]
  ·rw [if_neg e, decide_eq_false e, Bool.false_or, fold_tm k ps a h2.2]
   unfold tmP
   have h3 : (p :: ps).find? (fun p => decide (p.f0 = k)) = ps.find? (fun p => decide (p.f0 = k)) := List.find?_cons_of_neg (by simpa using e)
   rw [h3]
theorem tm_any {i : Int} {ps : List Po} (h : PsOK i ps) (k : Int) : (ps.any (fun p => decide (p.f0 = k))) = decide (0 < tmP ps k) := by
 unfold tmP
 cases hf : ps.find? (fun p => decide (p.f0 = k)) with
 | none =>
  rw [List.find?_eq_none] at hf
  have : (ps.any (fun p => decide (p.f0 = k))) = false := by
   rw [List.any_eq_false]
   exact hf
  rw [this]
  rfl
 | some p =>
  have h1 := List.mem_of_find?_eq_some hf
  have h2 := List.find?_some hf
  have h3 := h.each p h1
  rw [List.any_eq_true.2 ⟨p, h1, h2⟩]
  exact (decide_eq_true (by dsimp only; omega)).symm
theorem lastT_tm {i : Int} {ps : List Po} (h : PsOK i ps) (k : Int) : lastT ps k = tmP ps k := by
 unfold lastT
 rw [fold_tm k ps 0 h.rise, tm_any h]
 by_cases e : 0 < tmP ps k
 ·rw [decide_eq_true e, if_pos rfl]
 ·rw [decide_eq_false e, if_neg (by simp)]
  unfold tmP at *
  cases hf : ps.find? (fun p => decide (p.f0 = k)) with
  | none => rfl
  | some p =>
   rw [hf] at e
   have h3 := h.each p (List.mem_of_find?_eq_some hf)
   dsimp only at e
   omega
theorem posts_psok {i : Int} {l : List En} (h : Inv i l) (t : ByteArray) : PsOK i (posts l t) := by
 unfold posts
 cases hf : l.find? (fun e => decide (e.f0 = t)) with
 | none => exact ⟨List.Pairwise.nil, fun p hp => by cases hp⟩
 | some e => exact (h.each e (List.mem_of_find?_eq_some hf)).2.2
/-- How often asked words stand in a text: how many of the first stand there at all. -/
def haveN (lk ws : List ByteArray) : Nat := ws.countP (fun t => decide (0 < times lk t))
theorem haveN_step (lk ws : List ByteArray) (m : Nat) (h : m < ws.length) : haveN lk (ws.take (m + 1)) = if 0 < times lk ws[m] then haveN lk (ws.take m) + 1 else haveN lk (ws.take m) := by
 unfold haveN
 rw [List.take_succ_eq_append_getElem h, List.countP_append, List.countP_singleton]
 by_cases e : 0 < times lk ws[m]
 ·rw [if_pos e, if_pos (decide_eq_true e)]
 ·rw [if_neg e, if_neg (by simpa using e), Nat.add_zero]
theorem haveN_le (lk ws : List ByteArray) : haveN lk ws ≤ ws.length := List.countP_le_length
theorem times_le (lk : List ByteArray) (t : ByteArray) : times lk t ≤ lk.length := List.countP_le_length
theorem times_step (lk : List ByteArray) (t : ByteArray) (m : Nat) (h : m < lk.length) : times (lk.take (m + 1)) t = if lk[m] = t then times (lk.take m) t + 1 else times (lk.take m) t := by
 unfold times
 rw [List.take_succ_eq_append_getElem h, List.countP_append, List.countP_singleton]
 by_cases e : lk[m] = t
 ·rw [if_pos e, if_pos (decide_eq_true e)]
 ·rw [if_neg e, if_neg (by simpa using e), Nat.add_zero]
theorem inc_ne (o : List Int) (k : Nat) (x : Int) (h0 : 0 ≤ x) (h : x ≠ (k : Int)) : (inc o x).getD k 0 = o.getD k 0 := by
 unfold inc
 rw [List.getD_eq_getElem?_getD, List.getElem?_set_ne (by omega), ← List.getD_eq_getElem?_getD]
theorem incAll_none (k : Nat) : ∀ (ps : List Po) (o : List Int), (∀ p ∈ ps, 0 ≤ p.f0 ∧ p.f0 ≠ (k : Int)) → (incAll o ps).getD k 0 = o.getD k 0
 | [], o, _ => rfl
 | p :: ps, o, h => by
  have hp := h p List.mem_cons_self
  show (incAll (inc o p.f0) ps).getD k 0 = _
  rw [incAll_none k ps _ (fun q hq => h q (List.mem_cons_of_mem _ hq)), inc_ne o k p.f0 hp.1 hp.2]
theorem incAll_get (k : Nat) : ∀ (ps : List Po) (o : List Int), ps.Pairwise (fun a b => a.f0 < b.f0) → (∀ p ∈ ps, 0 ≤ p.f0) → k < o.length → 0 ≤ o.getD k 0 → o.getD k 0 ≤ 1000 → (incAll o ps).getD k 0 = o.getD k 0 + if (ps.any (fun p => decide (p.f0 = (k : Int)))) = true then 1 else 0
 | [], o, _, _, _, _, _ => by
  show o.getD k 0 = o.getD k 0 + 0
  omega
 | p :: ps, o, h1, h2, h3, h4, h5 => by
  have hr := List.pairwise_cons.1 h1
  have hp := h2 p List.mem_cons_self
  show (incAll (inc o p.f0) ps).getD k 0 = _
  rw [List.any_cons]
  by_cases e : p.f0 = (k : Int)
  ·have hg : (inc o p.f0).getD k 0 = o.getD k 0 + 1 := by
    unfold inc
    rw [e, Int.toNat_natCast, w64 (n := o.getD k 0 + 1) (by omega) (by omega), List.getD_eq_getElem?_getD, List.getElem?_set_self h3]
    rfl
   rw [incAll_none k ps _ (fun q hq => ⟨h2 q (List.mem_cons_of_mem _ hq), fun he => by have := hr.1 q hq; omega⟩), hg, decide_eq_true e, Bool.true_or, if_pos rfl]
  ·have hg := inc_ne o k p.f0 hp e
   rw [incAll_get k ps (inc o p.f0) hr.2 (fun q hq => h2 q (List.mem_cons_of_mem _ hq)) (by rw [inc_len]; exact h3) (by rw [hg]; exact h4) (by rw [hg]; exact h5), hg, decide_eq_false e, Bool.false_or]
theorem marks_get (l : List En) (k : Nat) (i : Int) (hI : Inv i l) : ∀ (ws : List ByteArray) (o : List Int), k < o.length → 0 ≤ o.getD k 0 → o.getD k 0 + ws.length ≤ 1000 →
  (ws.foldl (fun o t => incAll o (posts l t)) o).getD k 0 = o.getD k 0 + (ws.countP (fun t => (posts l t).any (fun p => decide (p.f0 = (k : Int)))) : Int)
 | [], o, _, _, _ => by simp
 | t :: ws, o, h1, h2, h3 => by
  have hp := posts_psok hI t
  have hg := incAll_get k (posts l t) o hp.rise (fun p h => (hp.each p h).1) h1 h2 (by rw [List.length_cons] at h3; omega)
  rw [List.length_cons] at h3
  have hle : (if ((posts l t).any (fun p => decide (p.f0 = (k : Int)))) = true then (1 : Int) else 0) ≤ 1 ∧ 0 ≤ (if ((posts l t).any (fun p => decide (p.f0 = (k : Int)))) = true then (1 : Int) else 0) := by split <;> omega
  rw [List.foldl_cons, marks_get l k i hI ws (incAll o (posts l t)) (by rw [incAll_len]; exact h1) (by omega) (by omega), hg, List.countP_cons]
  split <;> simp_all <;> omega
theorem keep_any (p : Int → Bool) (ms : List Int) (k : Nat) (h : k < ms.length) : (keep p ms).any (fun x => decide (x = (k : Int))) = p (ms.getD k 0) := by
 unfold keep keepTo
 rw [Bool.eq_iff_iff, List.any_eq_true]
 constructor
 ·rintro ⟨x, hx, hk⟩
  obtain ⟨j, hj, rfl⟩ := List.mem_map.1 hx
  have hjk : j = k := by have := of_decide_eq_true hk; omega
  subst hjk
  exact (List.mem_filter.1 hj).2
 ·intro hp
  exact ⟨(k : Int), List.mem_map.2 ⟨k, List.mem_filter.2 ⟨List.mem_range.2 h, hp⟩, rfl⟩, decide_eq_true rfl⟩
theorem has_ev (l : List Int) (a : Int) (hl : l.length ≤ 1048576) : Evt (fun k => laws_has.f k l a) (l.any (fun x => decide (x = a))) := by
 unfold laws_has.f
 have key : ∀ (n i : Nat), i + n = l.length → Evt (fun k => laws_has.l0 k a l (l.length : Int) (i : Int)) ((l.drop i).any (fun x => decide (x = a))) := by
  intro n
  induction n with
  | zero =>
   intro i hi
   refine Evt.step (fun k => laws_has.l0.eq_2 _ _ _ _ k) (Evt.neg (by omega) ((Evt.const _).eq ?_))
   rw [List.drop_of_length_le (by omega)]
   rfl
  | succ n ih =>
   intro i hi
   have hlt : i < l.length := by omega
   refine Evt.step (fun k => laws_has.l0.eq_2 _ _ _ _ k) (Evt.pos (by omega) (Evt.pos (by omega) (Evt.pos (by omega) ?_)))
   rw [rd_i l i hlt, w64 (n := (i : Int) + 1) (by omega) (by omega), List.drop_eq_getElem_cons hlt, List.any_cons]
   by_cases e : l[i] = a
   ·refine Evt.pos e ((Evt.const _).eq ?_)
    rw [decide_eq_true e, Bool.true_or]
   ·refine Evt.neg e ((ih (i + 1) (by omega)).eq ?_)
    rw [decide_eq_false e, Bool.false_or]
 exact key l.length 0 (by omega)
theorem sameI_ev (l : List Int) (hl : l.length ≤ 1048576) : Evt (fun k => laws_sameInts.f k l l) true := by
 unfold laws_sameInts.f
 refine Evt.pos rfl ?_
 have key : ∀ (m i : Nat), i + m = l.length → Evt (fun k => laws_sameInts.l0 k l l (l.length : Int) (i : Int)) true := by
  intro m
  induction m with
  | zero => intro i hi; exact Evt.step (fun k => laws_sameInts.l0.eq_2 _ _ _ _ k) (Evt.neg (by omega) (Evt.const _))
  | succ m ih =>
   intro i hi
   refine Evt.step (fun k => laws_sameInts.l0.eq_2 _ _ _ _ k) (Evt.pos (by omega) (Evt.pos (by omega) (Evt.pos (by omega) (Evt.pos (by omega) (Evt.pos rfl ?_)))))
   rw [w64 (n := (i : Int) + 1) (by omega) (by omega)]
   exact ih (i + 1) (by omega)
 exact key l.length 0 (by omega)
theorem rd_p (l : List Po) (i : Nat) (h : i < l.length) : rd_T56 l (i : Int) = l[i] := by
 unfold rd_T56
 simp [h]
theorem sameP_ev (l : List Po) (hl : l.length ≤ 1048576) : Evt (fun k => laws_samePostings.f k l l) true := by
 unfold laws_samePostings.f
 refine Evt.pos rfl ?_
 have key : ∀ (m i : Nat), i + m = l.length → Evt (fun k => laws_samePostings.l0 k l l (l.length : Int) (i : Int)) true := by
  intro m
  induction m with
  | zero => intro i hi; exact Evt.step (fun k => laws_samePostings.l0.eq_2 _ _ _ _ k) (Evt.neg (by omega) (Evt.const _))
  | succ m ih =>
   intro i hi
   refine Evt.step (fun k => laws_samePostings.l0.eq_2 _ _ _ _ k) (Evt.pos (by omega) (Evt.pos (by omega) (Evt.pos (by omega) (Evt.pos (by omega) (Evt.neg (by simp) ?_)))))
   rw [w64 (n := (i : Int) + 1) (by omega) (by omega)]
   exact ih (i + 1) (by omega)
 exact key l.length 0 (by omega)
theorem sameW_ev (x : Int) (l : List En) (hl : Small l) : Evt (fun k => laws_sameWords.f k x l x l) true := by
 have hl1 := hl.1
 unfold laws_sameWords.f
 refine Evt.pos rfl (Evt.step (fun k => laws_sameWords.j0.eq_2 _ _ _ _ _ k) (Evt.neg (by simp) ?_))
 have key : ∀ (m i : Nat), i + m = l.length → Evt (fun k => laws_sameWords.l0 k (l.length : Int) (i : Int) x l x l) true := by
  intro m
  induction m with
  | zero => intro i hi; exact Evt.step (fun k => laws_sameWords.l0.eq_2 _ _ _ _ _ _ k) (Evt.neg (by omega) (Evt.const _))
  | succ m ih =>
   intro i hi
   have hlt : i < l.length := by omega
   refine Evt.step (fun k => laws_sameWords.l0.eq_2 _ _ _ _ _ _ k) (Evt.pos (by omega) (Evt.pos (by omega) (Evt.pos (by omega) (Evt.pos (by omega) (Evt.pos rfl ?_)))))
   rw [rd_en l i hlt]
   refine Evt.bind (sameP_ev _ (hl.2 _ (List.getElem_mem hlt)).2) (Evt.pos rfl ?_)
   rw [w64 (n := (i : Int) + 1) (by omega) (by omega)]
   exact ih (i + 1) (by omega)
 exact key l.length 0 (by omega)
/-- What is known of an index that was made. -/
structure Made (ts : List ByteArray) (x : Int) (l : List En) : Prop where
 xe : x = (ts.length : Int)
 few : ts.length ≤ 40
 short : ∀ s ∈ ts, s.size ≤ 200
 good : goodW x l = true
 inv : Inv ((ts.length : Int) - 1) l
 tm : ∀ k (hk : k < ts.length) t, tm l t (k : Int) = (times (wordsOf ts[k]) t : Int)
theorem made {ts : List ByteArray} {x : Int} {l : List En} (h : ansIdx ts = (x, l, true)) : Made ts x l := by
 unfold ansIdx at h
 by_cases hc : ts.length ≤ 40 ∧ (∀ s ∈ ts, s.size ≤ 200) ∧ (idxTo ts ts.length).length ≤ 200
 ·rw [if_pos hc] at h
  injection h with h1 h2
  injection h2 with h2 _
  subst h1
  subst h2
  obtain ⟨h1, h2⟩ := idx_inv ts (fun s hs => ⟨words_100 s (hc.2.1 s hs), words_are s⟩) ts.length (Nat.le_refl _)
  refine ⟨rfl, hc.1, hc.2.1, good_of h1 (by omega) hc.2.2, h1, fun k hk t => ?_⟩
  have := h2 t k
  rw [if_pos hk, IdS.ts_get ts k hk] at this
  exact this
 ·rw [if_neg hc] at h
  injection h with _ h
  injection h with _ h
  cases h
theorem Made.post {ts : List ByteArray} {x : Int} {l : List En} (h : Made ts x l) {k : Nat} (hk : k < ts.length) (t : ByteArray) (ht : (PostW.postsOf x l t).2 = true) : lastT (PostW.postsOf x l t).1 (k : Int) = (times (wordsOf ts[k]) t : Int) := by
 unfold PostW.postsOf at ht ⊢
 by_cases hc : goodW x l = true ∧ isW t = true
 ·rw [if_pos hc, ← h.tm k hk t, lastT_tm (posts_psok h.inv t)]
  rfl
 ·rw [if_neg hc] at ht
  cases ht
theorem Made.marks {ts : List ByteArray} {x : Int} {l : List En} (h : Made ts x l) {k : Nat} (hk : k < ts.length) (ws : List ByteArray) (hw : ws.length ≤ 1000) : (marks x l ws).getD k 0 = (haveN (wordsOf ts[k]) ws : Int) := by
 unfold Cnt.marks
 have hz : (List.replicate x.toNat (0 : Int)).getD k 0 = 0 := by
  rw [List.getD_eq_getElem?_getD, List.getElem?_replicate]
  split <;> rfl
 rw [marks_get l k _ h.inv ws _ (by rw [List.length_replicate, h.xe]; omega) (by rw [hz]; omega) (by rw [hz]; omega), hz, Int.zero_add]
 unfold haveN
 congr 2
 funext t
 rw [tm_any (posts_psok h.inv t)]
 have := h.tm k hk t
 unfold Idx.tm at this
 rw [this]
 congr 1
 simp
theorem Made.all {ts : List ByteArray} {x : Int} {l : List En} (h : Made ts x l) {k : Nat} (hk : k < ts.length) (ws : List ByteArray) (ha : asked x l ws 20 = true) (hw : ws.length ≤ 1000) : (ByAll.ans x l ws).1.any (fun y => decide (y = (k : Int))) = ((haveN (wordsOf ts[k]) ws : Int) == (ws.length : Int)) := by
 unfold ByAll.ans
 simp only [ha, if_true]
 rw [keep_any _ _ k (by rw [marks_len, h.xe]; omega), h.marks hk ws hw]
 rfl
theorem Made.any {ts : List ByteArray} {x : Int} {l : List En} (h : Made ts x l) {k : Nat} (hk : k < ts.length) (ws : List ByteArray) (ha : asked x l ws 20 = true) (hw : ws.length ≤ 1000) : (ByAny.ans x l ws).1.any (fun y => decide (y = (k : Int))) = decide (0 < (haveN (wordsOf ts[k]) ws : Int)) := by
 unfold ByAny.ans
 simp only [ha, if_true]
 rw [keep_any _ _ k (by rw [marks_len, h.xe]; omega), h.marks hk ws hw]
 rfl
theorem Made.no {ts : List ByteArray} {x : Int} {l : List En} (h : Made ts x l) {k : Nat} (hk : k < ts.length) (ws : List ByteArray) (ha : asked x l ws 20 = true) (hw : ws.length ≤ 1000) : (ByNot.ans x l ws).1.any (fun y => decide (y = (k : Int))) = ((haveN (wordsOf ts[k]) ws : Int) == 0) := by
 unfold ByNot.ans
 simp only [ha, if_true]
 rw [keep_any _ _ k (by rw [marks_len, h.xe]; omega), h.marks hk ws hw]
 rfl
end Go.Proofs.Ytaomjndfjmfelaa.WdP
end

section
namespace Go.Proofs.Ytaomjndfjmfelaa.LwWd
attribute [local go_sem] Go.Proofs.Ytaomjndfjmfelaa.StrO.leq_s Go.Proofs.Ytaomjndfjmfelaa.StrO.gtr_s Go.Proofs.Ytaomjndfjmfelaa.StrO.geq_s
set_option linter.unusedVariables false
set_option linter.unusedSimpArgs false
open Go.RowKit Go.Proofs.Ytaomjndfjmfelaa.PQ Go.Proofs.YtaomjndfjmfelaaW.PrintWords Go.Proofs.YtaomjndfjmfelaaW.PrintLast Go.Proofs.YtaomjndfjmfelaaW.PrintMore Go.Proofs.Ytaomjndfjmfelaa.Pre Go.Proofs.Ytaomjndfjmfelaa.Posts Go.Proofs.Ytaomjndfjmfelaa.GoodW Go.Proofs.Ytaomjndfjmfelaa.PostW Go.Proofs.Ytaomjndfjmfelaa.Ask Go.Proofs.Ytaomjndfjmfelaa.Idx Go.Proofs.Ytaomjndfjmfelaa.WordsW Go.Proofs.Ytaomjndfjmfelaa.WdP
theorem postsOf_len (x : Int) (l : List En) (t : ByteArray) (hl : Small l) : (PostW.postsOf x l t).1.length ≤ 1048576 := by
 unfold PostW.postsOf
 split
 ·show (posts l t).length ≤ _
  unfold posts
  cases hf : l.find? (fun e => decide (e.f0 = t)) with
  | none => exact Nat.zero_le _
  | some e => exact (hl.2 e (List.mem_of_find?_eq_some hf)).2
 ·exact Nat.zero_le _
set_option maxRecDepth 100000 in
theorem big (A0 : Option Addr) (c0 : Nat) (l0 : List Int) (B0 : Option Addr) (d0 : Nat) (l1 : List Int) (w : World) (z : Int) (hs : wrap64 ((l0.length : Int) + (l1.length : Int)) = z) (hl : z > 1048576) :
  Calls Try.prog 7 #[.slice A0 l0.length c0, .slice B0 l1.length d0] w fun e w' => e = .returned (.bool true) ∧ Below w.heap.size w w' := by
 have hb : decide (z > 1048576) = true := decide_eq_true hl
 clear hl
 go_enter Try.func7, Try.ntmps7
 go_wp2
 go_ret
 exact ⟨rfl, Below.refl _ _⟩
set_option maxRecDepth 100000 in
set_option maxHeartbeats 16000000 in
theorem calls0 (A0 : Option Addr) (c0 : Nat) (l0 : List Int) (B0 : Option Addr) (d0 : Nat) (l1 : List Int) (w : World) (hr0 : Kd.C (Kd.int .u8) w A0 l0.length l0) (hc0 : l0.length ≤ c0) (hr1 : Kd.C (Kd.int .u8) w B0 l1.length l1) (hc1 : l1.length ≤ d0) (zz : Int) (hs : wrap64 ((l0.length : Int) + (l1.length : Int)) = zz) (hl : ¬ zz > 1048576)
  (k1 k2 k3 k5 k6 k7 k8 k9 ka : Nat) (ts : List ByteArray) (x : Int) (l : List En) (b : Bool) (y : Int) (en : List En) (ws : List ByteArray) (one : Bool) (la ly ln : List Int)
  (h1 : spec_DrawIndexOf.f k1 l0 = some ts) (hp : ansIdx ts = (x, l, b)) (h2 : spec_IndexOf.f k2 ts = some (x, l, b)) (h3 : laws_sameWords.f k3 x l x l = some true) (h5 : spec_DrawWithAll.f k5 l1 = some (y, en, ws)) (h5' : spec_DrawWithout.f k5 l1 = some (y, en, ws))
  (hts : ts.length ≤ 100 ∧ ∀ s ∈ ts, s.size ≤ 1000) (hsm : Small l) (hsn : Small en) (hws : ws.length ≤ 11 ∧ ∀ s ∈ ws, s.size ≤ 10) (h6 : spec_WithAll.f k6 x l ws = some (la, one)) (hla : ByAll.ans x l ws = (la, one)) (hly : ByAny.ans x l ws = (ly, one)) (hln : ByNot.ans x l ws = (ln, one)) (h7 : impl_GoodWords.f k7 x l = some (goodW x l))
  (hne : one = asked x l ws 20) (kb kc kd ke : Nat) (lq : List Int) (oq gq : Bool) (hq : ByNot.ans y en ws = (lq, oq)) (h8 : spec_Without.f kb y en ws = some (lq, oq)) (h9 : laws_sameInts.f kc lq lq = some true) (ha : impl_GoodWords.f kd y en = some gq) (hb : spec_GoodWords.f ke y en = some gq) :
  Calls Try.prog 7 #[.slice A0 l0.length c0, .slice B0 l1.length d0] w fun e w' => e = .returned (.bool true) ∧ Below w.heap.size w w' := by
 have HR0 := aM hr0
 have HC0 := aM hc0
 have HR1 := aM hr1
 have HC1 := aM hc1
 have E1 := aM h1
 have EP := aM hp
 have E2 := aM h2
 have E3 := aM h3
 have E5 := aM h5
 have E5' := aM h5'
 have E6 := aM h6
 have E7 := aM h7
 have EA := aM hla
 have EY := aM hly
 have EN := aM hln
 have EONE := aM hne
 have EQ := aM hq
 have E8 := aM h8
 have E9 := aM h9
 have EGA := aM ha
 have EGB := aM hb
 have ETL := aM hts.1
 have ESZ : Aside0 (∀ s ∈ ts, s.size ≤ 1048576) := ⟨fun s hs => Nat.le_trans (hts.2 s hs) (by decide)⟩
 have ESM := aM hsm
 have ESN := aM hsn
 have EWN := aM hws.1
 have EWS := aM hws.2
 have ESW : Aside0 (SmallS ws) := ⟨⟨Nat.le_trans hws.1 (by decide), fun s hs => Nat.le_trans (hws.2 s hs) (by decide)⟩⟩
 have hsb : decide (zz > 1048576) = false := decide_eq_false hl
 clear hq h8 h9 ha hb hr0 hc0 hr1 hc1 h1 hp h2 h3 h5 h5' h6 h7 hla hly hln hne hts hsm hsn hws hl
 go_enter Try.func7, Try.ntmps7
 go_upto_region 5 with (first | (go_at_call 35; go_loud ((with_reducible refine (spec_DrawIndexOf.calls k1 A0 c0 l0 ts _ HR0.out HC0.out E1.out).mono ?_); rintro e w1 ⟨v1, rfl, ho, hb⟩; have HA1 := aM hb; obtain ⟨A1, c1, rfl, hl1, hC1⟩ := Kd.R_reads ho; have HT := aM hC1; have HTL := aM hl1; clear ho hb hC1 hl1)) | (go_at_call 33; go_loud (have hcal := IdR.indexOf_calls A1 c1 ts w1 HT.out HTL.out ESZ.out; rw [EP.out] at hcal; (with_reducible refine (hcal).mono ?_); rintro e w2 ⟨vg, rfl, ho, hb⟩; have HA2 := aM (below_step HA1.out hb); have HT2 := aM (Kd.C_below HT.out hb); obtain ⟨Ag, cg, rfl, hlg, hCg⟩ := Kd.S_reads ho; have HG2 := aM hCg; have HLG := aM hlg; clear ho hb hCg hlg hcal)))
 clear hs hsb
 obtain ⟨W3, hW3⟩ : ∃ W3, W3 = w2.alloc (.cells #[.int .i64 x, .slice Ag l.length cg] 33) := ⟨_, rfl⟩
 rw [← hW3]
 have HBx : Aside0 (W3.heap[w2.heap.size]? = some (.cells #[.int .i64 x, .slice Ag l.length cg] 33 (0, 0))) := ⟨by rw [hW3]; exact blk_new w2 _⟩
 have HA23 : Aside0 (Below w2.heap.size w2 W3) := ⟨by rw [hW3]; exact below_alloc (Below.refl _ _) _⟩
 have HA3 := aM (below_step HA2.out HA23.out)
 have HT3 := aM (Kd.C_below HT2.out HA23.out)
 have HG3 := aM (Kd.C_below HG2.out HA23.out)
 have H33 := aM (Below.refl W3.heap.size W3)
 clear hW3
 go_upto_region 6 with (first | (go_at_call 32; go_loud ((with_reducible refine (spec_IndexOf.calls k2 A1 c1 ts x l b _ HT3.out HTL.out E2.out).mono ?_); rintro e w4 ⟨v4, rfl, ho, hb⟩; have HA4 := aM (below_step HA3.out hb); have H34 := aM (below_step H33.out hb); obtain ⟨As, cs, rfl, hls, hCs⟩ := Kd.S_reads ho; have HCS := aM hCs; have HLS := aM hls; clear ho hb hCs hls)))
 obtain ⟨W5, hW5⟩ : ∃ W5, W5 = w4.alloc (.cells #[.int .i64 x, .slice As l.length cs] 33) := ⟨_, rfl⟩
 rw [← hW5]
 have HBy : Aside0 (W5.heap[w4.heap.size]? = some (.cells #[.int .i64 x, .slice As l.length cs] 33 (0, 0))) := ⟨by rw [hW5]; exact blk_new w4 _⟩
 have HA45 : Aside0 (Below w4.heap.size w4 W5) := ⟨by rw [hW5]; exact below_alloc (Below.refl _ _) _⟩
 have HA5 := aM (below_step HA4.out HA45.out)
 have H35 := aM (below_step H34.out HA45.out)
 have HG5 := aM (Kd.C_below HG3.out H35.out)
 have HCS5 := aM (Kd.C_below HCS.out HA45.out)
 clear hW5
 have c60 : W5.cell? ⟨w2.heap.size, 0, none⟩ = some (.int .i64 x) := (blk_cell (blk_below HBx.out H35.out) 0).trans rfl
 have c61 : W5.cell? ⟨w2.heap.size, 1, none⟩ = some (.slice Ag l.length cg) := (blk_cell (blk_below HBx.out H35.out) 1).trans rfl
 have c80 : W5.cell? ⟨w4.heap.size, 0, none⟩ = some (.int .i64 x) := (blk_cell HBy.out 0).trans rfl
 have c81 : W5.cell? ⟨w4.heap.size, 1, none⟩ = some (.slice As l.length cs) := (blk_cell HBy.out 1).trans rfl
 go_upto_region 8 with (first | (go_at_call 36; go_loud ((with_reducible refine (laws_sameWords.calls k3 x Ag cg l x As cs l true _ HG5.out HLG.out HCS5.out HLS.out E3.out).mono ?_); rintro e w6 ⟨rfl, hb⟩; have HA6 := aM (below_step HA5.out hb); have H36 := aM (below_step H35.out hb); clear hb)))
 clear c60 c61 c80 c81
 go_upto_region 9 with (first | (go_at_call 37; go_loud ((with_reducible refine (spec_DrawWithAll.calls k5 B0 d0 l1 y en ws _ (Kd.C_below HR1.out HA6.out) HC1.out E5.out).mono ?_); rintro e w7 ⟨v7, u7, rfl, ho, hp, hb⟩; have HA7 := aM (below_step HA6.out hb); have H37 := aM (below_step H36.out hb); obtain ⟨An, cn, rfl, _, _⟩ := Kd.S_reads ho; obtain ⟨B1, d1, rfl, hlw, hCw⟩ := Kd.R_reads hp; have HW7 := aM hCw; have HWL := aM hlw; clear ho hp hb hCw hlw)))
 obtain ⟨W8, hW8⟩ : ∃ W8, W8 = w7.alloc (.cells #[.int .i64 y, .slice An en.length cn] 33) := ⟨_, rfl⟩
 rw [← hW8]
 have HA78 : Aside0 (Below w7.heap.size w7 W8) := ⟨by rw [hW8]; exact below_alloc (Below.refl _ _) _⟩
 have HA8 := aM (below_step HA7.out HA78.out)
 have H38 := aM (below_step H37.out HA78.out)
 have HG8 := aM (Kd.C_below HG3.out H38.out)
 have HT8 := aM (Kd.C_below HT3.out H38.out)
 have HW8 := aM (Kd.C_below HW7.out HA78.out)
 have HB8 := aM (blk_below HBx.out H38.out)
 clear hW8
 cases b with
 | false =>
  have HAT := HA8
  go_upto_region 50 with (first | (go_at_call 42; go_loud ((with_reducible refine (spec_DrawWithout.calls k5 B0 d0 l1 y en ws _ (Kd.C_below HR1.out HAT.out) HC1.out E5'.out).mono ?_); rintro e w20 ⟨v20, u20, rfl, ho, hp, hb⟩; have HA20 := aM (below_step HAT.out hb); obtain ⟨Am, cm, rfl, h1_, h2_⟩ := Kd.S_reads ho; obtain ⟨Bm, dm, rfl, h3_, h4_⟩ := Kd.R_reads hp; have HM20 := aM h2_; have HML := aM h1_; have HN20 := aM h4_; have HNL := aM h3_; clear ho hp hb h1_ h2_ h3_ h4_)))
  obtain ⟨W21, hW21⟩ : ∃ W21, W21 = w20.alloc (.cells #[.int .i64 y, .slice Am en.length cm] 33) := ⟨_, rfl⟩
  rw [← hW21]
  have HBz : Aside0 (W21.heap[w20.heap.size]? = some (.cells #[.int .i64 y, .slice Am en.length cm] 33 (0, 0))) := ⟨by rw [hW21]; exact blk_new w20 _⟩
  have HAZ : Aside0 (Below w20.heap.size w20 W21) := ⟨by rw [hW21]; exact below_alloc (Below.refl _ _) _⟩
  have HA21 := aM (below_step HA20.out HAZ.out)
  have HM21 := aM (Kd.C_below HM20.out HAZ.out)
  have HN21 := aM (Kd.C_below HN20.out HAZ.out)
  have HXC : Aside0 (∀ w', Below W21.heap.size W21 w' → w'.cell? ⟨w20.heap.size, 0, none⟩ = some (.int .i64 y) ∧ w'.cell? ⟨w20.heap.size, 1, none⟩ = some (.slice Am en.length cm)) := ⟨fun w' hb => ⟨(blk_cell (blk_below HBz.out hb) 0).trans rfl, (blk_cell (blk_below HBz.out hb) 1).trans rfl⟩⟩
  clear hW21
  obtain ⟨z0, z1⟩ := HXC.out W21 (Below.refl _ _)
  go_upto_region 51 with (first | (go_at_call 31; go_loud (have hcal := ByNot.calls y Am cm en Bm dm ws W21 HM21.out HML.out ESN.out HN21.out ESW.out; rw [EQ.out] at hcal; (with_reducible refine (hcal).mono ?_); rintro e w22 ⟨v22, rfl, ho, hb⟩; have H222 := aM hb; have HA22 := aM (below_step HA21.out hb); obtain ⟨Aq, cq, rfl, h1_, h2_⟩ := Kd.R_reads ho; have HQ22 := aM h2_; have HQL := aM h1_; clear ho hb h1_ h2_ hcal)))
  clear z0 z1
  obtain ⟨z0, z1⟩ := HXC.out w22 H222.out
  go_upto_region 52 with (first | (go_at_call 30; go_loud ((with_reducible refine (spec_Without.calls kb y Am cm en Bm dm ws lq oq _ (Kd.C_below HM21.out H222.out) HML.out (Kd.C_below HN21.out H222.out) HNL.out E8.out).mono ?_); rintro e w23 ⟨v23, rfl, ho, hb⟩; have H223 := aM (below_step H222.out hb); have HA23 := aM (below_step HA22.out hb); have HQ23 := aM (Kd.C_below HQ22.out hb); obtain ⟨Ar, cr, rfl, h1_, h2_⟩ := Kd.R_reads ho; have HR23 := aM h2_; have HRL := aM h1_; clear ho hb h1_ h2_)))
  clear z0 z1
  refine start_ (n := 16) (S := fun w' => w'.cell? ⟨w20.heap.size, 0, none⟩ = some (.int .i64 y) ∧ w'.cell? ⟨w20.heap.size, 1, none⟩ = some (.slice Am en.length cm)) (ds := []) (bq 16 0) (by kernel_rfl) rfl (by kernel_rfl) ⟨(HXC.out w23.drew H223.out.drew).1, (HXC.out w23.drew H223.out.drew).2⟩ (fun hHeld => ?_)
  refine pX 16 1 0 223 ?_
  refine pX 16 3 1 224 ?_
  refine pX 16 7 2 225 ?_
  refine pX 16 15 3 226 ?_
  refine pX 16 31 4 227 ?_
  refine pX 16 63 5 228 ?_
  refine one_ (i := 6) (N := some 229) (bq 16 127) rfl rfl (by kernel_rfl) (by decide) (fun K hK => ?_)
  refine gA Try.func43 #[.slice Aq lq.length cq, .slice Ar lq.length cr] ?_
  with_reducible refine (laws_sameInts.calls kc Aq cq lq Ar cr lq true _ (Kd.C_below HQ23.out (Below.refl _ _).drew) HQL.out (Kd.C_below HR23.out (Below.refl _ _).drew) HRL.out E9.out).mono ?_
  rintro e w24 ⟨rfl, hd⟩
  refine ⟨_, rfl, ?_⟩
  have H224 := aM (below_step H223.out.drew hd.below)
  have HA24 := aM (below_step HA23.out.drew hd.below)
  clear hd
  refine hK.out _ _ ⟨(HXC.out w24 H224.out).1, (HXC.out w24 H224.out).2⟩ (fun hHeld => ?_)
  clear hK K
  refine nM 229 ?_
  refine pX 16 255 7 230 ?_
  refine pX 16 511 8 231 ?_
  refine sX2 16 1023 9 232 hHeld ?_
  refine sX2 16 3071 11 234 hHeld ?_
  refine one_ (i := 10) (N := some 233) (bq 16 4095) rfl rfl (by kernel_rfl) (by decide) (fun K hK => ?_)
  refine gA Try.func38 #[.agg #[.int .i64 y, .slice Am en.length cm]] ?_
  with_reducible refine (impl_GoodWords.calls kd y Am cm en gq _ (Kd.C_below HM21.out H224.out) HML.out EGA.out).mono ?_
  rintro e w25 ⟨rfl, hb⟩
  refine ⟨_, rfl, ?_⟩
  have H225 := aM (below_step H224.out hb)
  have HA25 := aM (below_step HA24.out hb)
  clear hb
  refine hK.out _ _ ⟨(HXC.out w25 H225.out).1, (HXC.out w25 H225.out).2⟩ (fun hHeld => ?_)
  clear hK K
  refine nM 233 ?_
  refine one_ (i := 12) (N := some 235) (bq 16 8191) rfl rfl (by kernel_rfl) (by decide) (fun K hK => ?_)
  refine gA Try.func44 #[.agg #[.int .i64 y, .slice Am en.length cm]] ?_
  with_reducible refine (spec_GoodWords.calls ke y Am cm en gq _ (Kd.C_below HM21.out H225.out) HML.out EGB.out).mono ?_
  rintro e w26 ⟨rfl, hb⟩
  refine ⟨_, rfl, ?_⟩
  have HA26 := aM (below_step HA25.out hb)
  have H226 := aM (below_step H225.out hb)
  clear hb
  refine hK.out _ _ ⟨(HXC.out w26 H226.out).1, (HXC.out w26 H226.out).2⟩ (fun hHeld => ?_)
  clear hK K
  refine nM 235 ?_
  refine pX 16 16383 13 236 ?_
  refine pX 16 32767 14 237 ?_
  refine pX 16 65535 15 4 ?_
  refine done_ (by kernel_rfl) ?_
  go_wp2
  go_ret
  exact ⟨by first | rfl | (simp; done) | (simp [*]; done), HA26.out⟩
 | true =>
  have HMD := aM (made EP.out)
  have c60 : W8.cell? ⟨w2.heap.size, 0, none⟩ = some (.int .i64 x) := (blk_cell HB8.out 0).trans rfl
  have c61 : W8.cell? ⟨w2.heap.size, 1, none⟩ = some (.slice Ag l.length cg) := (blk_cell HB8.out 1).trans rfl
  go_upto_region 11 with (first | (go_at_call 20; go_loud (have hcal := ByAll.calls x Ag cg l B1 d1 ws W8 HG8.out HLG.out ESM.out HW8.out ESW.out; rw [EA.out] at hcal; (with_reducible refine (hcal).mono ?_); rintro e w10 ⟨v10, rfl, ho, hb⟩; have H810 := aM (hb); have HG10 := aM (Kd.C_below HG8.out hb); have HW10 := aM (Kd.C_below HW8.out hb); have HT10 := aM (Kd.C_below HT8.out hb); obtain ⟨Aa, ca, rfl, h1_, h2_⟩ := Kd.R_reads ho; have HLla := aM h1_; have HRla10 := aM h2_; clear ho hb h1_ h2_ hcal)))
  clear c60 c61
  have c60 : w10.cell? ⟨w2.heap.size, 0, none⟩ = some (.int .i64 x) := (blk_cell (blk_below HB8.out H810.out) 0).trans rfl
  have c61 : w10.cell? ⟨w2.heap.size, 1, none⟩ = some (.slice Ag l.length cg) := (blk_cell (blk_below HB8.out H810.out) 1).trans rfl
  go_upto_region 12 with (first | (go_at_call 29; go_loud (have hcal := ByAny.calls x Ag cg l B1 d1 ws w10 HG10.out HLG.out ESM.out HW10.out ESW.out; rw [EY.out] at hcal; (with_reducible refine (hcal).mono ?_); rintro e w11 ⟨v11, rfl, ho, hb⟩; have H811 := aM (below_step H810.out hb); have HG11 := aM (Kd.C_below HG10.out hb); have HW11 := aM (Kd.C_below HW10.out hb); have HT11 := aM (Kd.C_below HT10.out hb); have HRla11 := aM (Kd.C_below HRla10.out hb); obtain ⟨Ay, cy, rfl, h1_, h2_⟩ := Kd.R_reads ho; have HLly := aM h1_; have HRly11 := aM h2_; clear ho hb h1_ h2_ hcal)))
  clear c60 c61
  have c60 : w11.cell? ⟨w2.heap.size, 0, none⟩ = some (.int .i64 x) := (blk_cell (blk_below HB8.out H811.out) 0).trans rfl
  have c61 : w11.cell? ⟨w2.heap.size, 1, none⟩ = some (.slice Ag l.length cg) := (blk_cell (blk_below HB8.out H811.out) 1).trans rfl
  go_upto_region 13 with (first | (go_at_call 31; go_loud (have hcal := ByNot.calls x Ag cg l B1 d1 ws w11 HG11.out HLG.out ESM.out HW11.out ESW.out; rw [EN.out] at hcal; (with_reducible refine (hcal).mono ?_); rintro e w12 ⟨v12, rfl, ho, hb⟩; have H812 := aM (below_step H811.out hb); have HG12 := aM (Kd.C_below HG11.out hb); have HW12 := aM (Kd.C_below HW11.out hb); have HT12 := aM (Kd.C_below HT11.out hb); have HRla12 := aM (Kd.C_below HRla11.out hb); have HRly12 := aM (Kd.C_below HRly11.out hb); obtain ⟨Az, cz, rfl, h1_, h2_⟩ := Kd.R_reads ho; have HLln := aM h1_; have HRln12 := aM h2_; clear ho hb h1_ h2_ hcal)))
  clear c60 c61
  have c60 : w12.cell? ⟨w2.heap.size, 0, none⟩ = some (.int .i64 x) := (blk_cell (blk_below HB8.out H812.out) 0).trans rfl
  have c61 : w12.cell? ⟨w2.heap.size, 1, none⟩ = some (.slice Ag l.length cg) := (blk_cell (blk_below HB8.out H812.out) 1).trans rfl
  go_upto_region 14 with (first | (go_at_call 17; go_loud ((with_reducible refine (spec_WithAll.calls k6 x Ag cg l B1 d1 ws la one _ HG12.out HLG.out HW12.out HWL.out E6.out).mono ?_); rintro e w13 ⟨v13, rfl, _, hb⟩; have H813 := aM (below_step H812.out hb); have HG13 := aM (Kd.C_below HG12.out hb); have HW13 := aM (Kd.C_below HW12.out hb); have HT13 := aM (Kd.C_below HT12.out hb); have HRla13 := aM (Kd.C_below HRla12.out hb); have HRly13 := aM (Kd.C_below HRly12.out hb); have HRln13 := aM (Kd.C_below HRln12.out hb); clear hb)))
  clear c60 c61
  have c60 : w13.cell? ⟨w2.heap.size, 0, none⟩ = some (.int .i64 x) := (blk_cell (blk_below HB8.out H813.out) 0).trans rfl
  have c61 : w13.cell? ⟨w2.heap.size, 1, none⟩ = some (.slice Ag l.length cg) := (blk_cell (blk_below HB8.out H813.out) 1).trans rfl
  have hgw : goodW x l = true := HMD.out.good
  rw [hgw] at E7
  go_upto_region 17 with (first | (go_at_call 38; go_loud ((with_reducible refine (impl_GoodWords.calls k7 x Ag cg l true _ HG13.out HLG.out E7.out).mono ?_); rintro e w14 ⟨rfl, hb⟩; have H814 := aM (below_step H813.out hb); have HB14 := aM hb; clear hb)))
  clear c60 c61 hgw
  have HAB := aM (below_then HA8.out HA8.out.size H814.out)
  have HG14 := aM (Kd.C_below HG13.out HB14.out)
  have HT14 := aM (Kd.C_below HT13.out HB14.out)
  have HW14 := aM (Kd.C_below HW13.out HB14.out)
  have HRla14 := aM (Kd.C_below HRla13.out HB14.out)
  have HRly14 := aM (Kd.C_below HRly13.out HB14.out)
  have HRln14 := aM (Kd.C_below HRln13.out HB14.out)
  have HBX := aM (blk_below HB8.out H814.out)
  go_wp2
  go_loopg [118] ts.length (fun kq v118 w' => ∃ k : Nat, v118 = .int .i64 (k : Int) ∧ k ≤ ts.length ∧ kq = ts.length - k ∧ Aside0 (Below w14.heap.size w14 w'))
  case atStart => exact ⟨0, rfl, Nat.zero_le _, rfl, ⟨Below.refl _ _⟩⟩
  case round =>
   obtain ⟨k, rfl, hk, hkq, HL1⟩ := hrel
   have HKQ := aM hkq
   by_cases hlt : k < ts.length
   ·have HLT := aM hlt
    rename World => W1
    obtain ⟨ad, hA1, hx⟩ := Ask.str_at (Kd.C_below HT14.out HL1.out) k hlt
    obtain ⟨s, hs⟩ : ∃ s, s = ts[k]'HLT.out := ⟨_, rfl⟩
    rw [← hs] at hx
    have HSX := aM hs
    have hs2 : s.size ≤ 200 := by rw [hs]; exact HMD.out.short _ (List.getElem_mem _)
    obtain ⟨lk, hlk⟩ : ∃ lk, lk = wordsOf s := ⟨_, rfl⟩
    have HLK := aM hlk
    have HLK100 : Aside0 (lk.length ≤ 100) := ⟨by rw [hlk]; exact words_100 s hs2⟩
    have EW := aM (show impl_WordsIn.f s = some (lk, true) from by unfold impl_WordsIn.f; rw [if_neg (by omega), show impl_wordsIn.f s = some (wordsOf s) from if_pos hs2, hlk]; rfl)
    have p1 : (0 : Int) ≤ (k : Int) := by omega
    have p2 : (k : Int) < (ts.length : Int) := by omega
    have hw118 : wrap64 ((k : Int) + 1) = (k : Int) + 1 := by have := ETL.out; rw [w64 (by omega) (by omega)]
    have HW118 := aM hw118
    subst hA1
    clear hw118 hs hs2 hlk hk hkq hlt
    go_upto_region 24 with (first | (go_at_call 39; go_loud ((with_reducible refine (impl_WordsIn.calls s lk true _ EW.out).mono ?_); rintro e w19 ⟨v19, rfl, ho, hb⟩; have HL19 := aM (below_step HL1.out hb); obtain ⟨Ak, ck, rfl, h1_, h2_⟩ := Kd.R_reads ho; have HKL := aM h1_; have HK19 := aM h2_; clear ho hb h1_ h2_)))
    clear p1 p2 hx
    go_wp2
    go_loopg [24, 132] ws.length (fun kq v24 v132 w' => ∃ m : Nat, v24 = .int .i64 (haveN lk (ws.take m) : Int) ∧ v132 = .int .i64 (m : Int) ∧ m ≤ ws.length ∧ kq = ws.length - m ∧ Aside0 (Below w19.heap.size w19 w'))
    case atStart => exact ⟨0, rfl, rfl, Nat.zero_le _, rfl, ⟨Below.refl _ _⟩⟩
    case round =>
     obtain ⟨m, rfl, rfl, hm, hkm, HL2⟩ := hrel
     have HKM := aM hkm
     rename World => W2
     have HL14 := aM (below_step HL19.out HL2.out)
     by_cases hlm : m < ws.length
     ·have HLM := aM hlm
      obtain ⟨ad2, hB1, hy⟩ := Ask.str_at (Kd.C_below HW14.out HL14.out) m hlm
      obtain ⟨t, ht⟩ : ∃ t, t = ws[m]'HLM.out := ⟨_, rfl⟩
      rw [← ht] at hy
      have HTX := aM ht
      have HTS : Aside0 (t.size ≤ 1048576) := ⟨by rw [ht]; exact Nat.le_trans (EWS.out _ (List.getElem_mem _)) (by decide)⟩
      have hst := haveN_step lk ws m hlm
      rw [← ht] at hst
      have HST := aM hst
      have hhl : haveN lk (ws.take m) ≤ 11 := by have h1 := haveN_le lk (ws.take m); have h2 := EWN.out; rw [List.length_take] at h1; omega
      obtain ⟨h, hh⟩ : ∃ h, h = haveN lk (ws.take m) := ⟨_, rfl⟩
      rw [← hh] at HST hhl ⊢
      have HH := aM hh
      have HHL := aM hhl
      have p3 : (0 : Int) ≤ (m : Int) := by omega
      have p4 : (m : Int) < (ws.length : Int) := by omega
      have hw132 : wrap64 ((m : Int) + 1) = (m : Int) + 1 := by have := EWN.out; rw [w64 (by omega) (by omega)]
      have HW132 := aM hw132
      subst hB1
      clear hw132 ht hst hh hhl hm hkm hlm
      go_upto_region 28 with (fail)
      clear p3 p4 hy
      go_wp2
      go_loopg [27, 138] lk.length (fun kq v27 v138 w' => ∃ j : Nat, v27 = .int .i64 (times (lk.take j) t : Int) ∧ v138 = .int .i64 (j : Int) ∧ j ≤ lk.length ∧ kq = lk.length - j ∧ w' = W2)
      case atStart => exact ⟨0, rfl, rfl, Nat.zero_le _, rfl, rfl⟩
      case round =>
       obtain ⟨j, rfl, rfl, hj, hkj, rfl⟩ := hrel
       by_cases hlj : j < lk.length
       ·have HLJ := aM hlj
        have HKJ := aM hkj
        obtain ⟨ad3, hAk, hz⟩ := Ask.str_at (Kd.C_below HK19.out HL2.out) j hlj
        have hts := times_step lk t j hlj
        obtain ⟨o, ho⟩ : ∃ o, o = lk[j]'HLJ.out := ⟨_, rfl⟩
        rw [← ho] at hz hts
        have HTS2 := aM hts
        have hnl : times (lk.take j) t ≤ 100 := by have h1 := times_le (lk.take j) t; have h2 := HLK100.out; rw [List.length_take] at h1; omega
        obtain ⟨n, hn⟩ : ∃ n, n = times (lk.take j) t := ⟨_, rfl⟩
        rw [← hn] at HTS2 hnl ⊢
        have p5 : (0 : Int) ≤ (j : Int) := by omega
        have p6 : (j : Int) < (lk.length : Int) := by omega
        have hw138 : wrap64 ((j : Int) + 1) = (j : Int) + 1 := by have := HLK100.out; rw [w64 (by omega) (by omega)]
        have hw27 : wrap64 ((n : Int) + 1) = (n : Int) + 1 := by rw [w64 (by omega) (by omega)]
        subst hAk
        clear ho hts hn hj hkj hlj hnl
        by_cases hot : o = t
        ·have hob : (o.toList == t.toList) = true := by rw [hot]; exact beq_self_eq_true _
         rw [if_pos hot] at HTS2
         clear hot
         go_wp2
         go_roundg (lk.length - (j + 1))
         case measure => have := HKJ.out; have := HLJ.out; omega
         case rel => exact ⟨j + 1, by rw [HTS2.out]; first | go_num | (rw [hw27]; go_num), by first | go_num | (rw [hw138]; go_num), HLJ.out, rfl, rfl⟩
        ·have hob : (o.toList == t.toList) = false := beq_eq_false_iff_ne.2 (fun h => hot (Byt.toList_inj h))
         rw [if_neg hot] at HTS2
         clear hot
         go_wp2
         go_roundg (lk.length - (j + 1))
         case measure => have := HKJ.out; have := HLJ.out; omega
         case rel => exact ⟨j + 1, by rw [HTS2.out], by first | go_num | (rw [hw138]; go_num), HLJ.out, rfl, rfl⟩
       ·obtain rfl : j = lk.length := by omega
        rw [List.take_length]
        clear hj hkj hlj
        rename World => W3
        have hn100 : times lk t ≤ 100 := Nat.le_trans (times_le lk t) HLK100.out
        have htt := HMD.out.post HLT.out t
        rw [← HSX.out, ← HLK.out] at htt
        have hpl := postsOf_len x l t ESM.out
        obtain ⟨n, hn⟩ : ∃ n, n = times lk t := ⟨_, rfl⟩
        rw [← hn] at HST hn100 htt ⊢
        obtain ⟨ps, fv, hpo⟩ : ∃ ps fv, PostW.postsOf x l t = (ps, fv) := ⟨_, _, rfl⟩
        rw [hpo] at htt hpl
        have HPO := aM hpo
        have HTT := aM htt
        have HPL := aM hpl
        have hw24 : wrap64 ((h : Int) + 1) = (h : Int) + 1 := by have := HHL.out; rw [w64 (by omega) (by omega)]
        have c60 : W3.cell? ⟨w2.heap.size, 0, none⟩ = some (.int .i64 x) := (blk_cell (blk_below HBX.out HL14.out) 0).trans rfl
        have c61 : W3.cell? ⟨w2.heap.size, 1, none⟩ = some (.slice Ag l.length cg) := (blk_cell (blk_below HBX.out HL14.out) 1).trans rfl
        by_cases hn0 : 0 < n
        ·rw [if_pos hn0] at HST
         clear hn hn100 htt hpl hpo
         go_upto_region 36 with (first | (go_at_call 40; go_loud (have hcal := PostW.calls x Ag cg l t W3 (Kd.C_below HG14.out HL14.out) HLG.out ESM.out HTS.out; rw [HPO.out] at hcal; (with_reducible refine (hcal).mono ?_); rintro e w35 ⟨v35, rfl, ho, hb⟩; have HL235 := aM (below_step HL2.out hb); obtain ⟨Ap, cp, rfl, h1_, h2_⟩ := Kd.R_reads ho; have HP35 := aM h2_; clear ho hb h1_ h2_ hcal)))
         clear c60 c61 hn0 hw24
         go_wp2
         go_loopg [32, 160] ps.length (fun kq v32 v160 w' => ∃ j : Nat, v32 = .int .i64 (lastT (ps.take j) (k : Int)) ∧ v160 = .int .i64 (j : Int) ∧ j ≤ ps.length ∧ kq = ps.length - j ∧ Aside0 (Below w35.heap.size w35 w'))
         case atStart => exact ⟨0, rfl, rfl, Nat.zero_le _, rfl, ⟨Below.refl _ _⟩⟩
         case round =>
          obtain ⟨j, rfl, rfl, hj, hkj, HL4⟩ := hrel
          rename World => W4
          by_cases hlj : j < ps.length
          ·have HLJ := aM hlj
           have HKJ := aM hkj
           obtain ⟨ad4, hAp, hz0, hz1⟩ := at_T56 (Kd.C_below HP35.out HL4.out) (j : Int) (by omega) (by omega)
           rw [Int.toNat_natCast, rd_p ps j hlj] at hz0 hz1
           have hls := lastT_step ps (k : Int) j hlj
           obtain ⟨p, hp⟩ : ∃ p, p = ps[j]'HLJ.out := ⟨_, rfl⟩
           rw [← hp] at hz0 hz1 hls
           have HLS := aM hls
           obtain ⟨lt, hlt⟩ : ∃ lt, lt = lastT (ps.take j) (k : Int) := ⟨_, rfl⟩
           rw [← hlt] at HLS ⊢
           have p5 : (0 : Int) ≤ (j : Int) := by omega
           have p6 : (j : Int) < (ps.length : Int) := by omega
           have hw160 : wrap64 ((j : Int) + 1) = (j : Int) + 1 := by have := HPL.out; rw [w64 (by omega) (by omega)]
           subst hAp
           clear hp hls hj hkj hlj hlt
           have hna := aM (below_step HL4.out (below_alloc (Below.refl W4.heap.size W4) (.cells #[.int .i64 p.f0, .int .i64 p.f1] 56)))
           by_cases hpk : p.f0 = (k : Int)
           ·have hpb : (p.f0 == (k : Int)) = true := by rw [hpk]; exact beq_self_eq_true _
            rw [if_pos hpk] at HLS
            clear hpk
            go_wp2
            go_roundg (ps.length - (j + 1))
            case measure => have := HKJ.out; have := HLJ.out; omega
            case rel => exact ⟨j + 1, by rw [HLS.out], by first | go_num | (rw [hw160]; go_num), HLJ.out, rfl, hna⟩
           ·have hpb : (p.f0 == (k : Int)) = false := beq_eq_false_iff_ne.2 hpk
            rw [if_neg hpk] at HLS
            clear hpk
            go_wp2
            go_roundg (ps.length - (j + 1))
            case measure => have := HKJ.out; have := HLJ.out; omega
            case rel => exact ⟨j + 1, by rw [HLS.out], by first | go_num | (rw [hw160]; go_num), HLJ.out, rfl, hna⟩
          ·obtain rfl : j = ps.length := by omega
           rw [List.take_length]
           clear hj hkj hlj
           obtain ⟨lt, hlt⟩ : ∃ lt, lt = lastT ps (k : Int) := ⟨_, rfl⟩
           rw [← hlt] at HTT ⊢
           have hw132 := HW132.out
           clear hlt
           cases fv with
           | true =>
            have hltn : (lt != (n : Int)) = false := by rw [HTT.out rfl]; exact bne_self_eq_false _
            go_wp2
            go_roundg (ws.length - (m + 1))
            case measure => have := HKM.out; have := HLM.out; omega
            case rel => exact ⟨m + 1, by first | (rw [HST.out]; done) | (rw [HST.out]; go_num), by first | go_num | (rw [hw132]; go_num), HLM.out, rfl, ⟨below_step HL235.out HL4.out⟩⟩
           | false =>
            go_wp2
            go_roundg (ws.length - (m + 1))
            case measure => have := HKM.out; have := HLM.out; omega
            case rel => exact ⟨m + 1, by first | (rw [HST.out]; done) | (rw [HST.out]; go_num), by first | go_num | (rw [hw132]; go_num), HLM.out, rfl, ⟨below_step HL235.out HL4.out⟩⟩
        ·rw [if_neg hn0] at HST
         clear hn hn100 htt hpl hpo
         go_upto_region 36 with (first | (go_at_call 40; go_loud (have hcal := PostW.calls x Ag cg l t W3 (Kd.C_below HG14.out HL14.out) HLG.out ESM.out HTS.out; rw [HPO.out] at hcal; (with_reducible refine (hcal).mono ?_); rintro e w35 ⟨v35, rfl, ho, hb⟩; have HL235 := aM (below_step HL2.out hb); obtain ⟨Ap, cp, rfl, h1_, h2_⟩ := Kd.R_reads ho; have HP35 := aM h2_; clear ho hb h1_ h2_ hcal)))
         clear c60 c61 hn0 hw24
         go_wp2
         go_loopg [32, 160] ps.length (fun kq v32 v160 w' => ∃ j : Nat, v32 = .int .i64 (lastT (ps.take j) (k : Int)) ∧ v160 = .int .i64 (j : Int) ∧ j ≤ ps.length ∧ kq = ps.length - j ∧ Aside0 (Below w35.heap.size w35 w'))
         case atStart => exact ⟨0, rfl, rfl, Nat.zero_le _, rfl, ⟨Below.refl _ _⟩⟩
         case round =>
          obtain ⟨j, rfl, rfl, hj, hkj, HL4⟩ := hrel
          rename World => W4
          by_cases hlj : j < ps.length
          ·have HLJ := aM hlj
           have HKJ := aM hkj
           obtain ⟨ad4, hAp, hz0, hz1⟩ := at_T56 (Kd.C_below HP35.out HL4.out) (j : Int) (by omega) (by omega)
           rw [Int.toNat_natCast, rd_p ps j hlj] at hz0 hz1
           have hls := lastT_step ps (k : Int) j hlj
           obtain ⟨p, hp⟩ : ∃ p, p = ps[j]'HLJ.out := ⟨_, rfl⟩
           rw [← hp] at hz0 hz1 hls
           have HLS := aM hls
           obtain ⟨lt, hlt⟩ : ∃ lt, lt = lastT (ps.take j) (k : Int) := ⟨_, rfl⟩
           rw [← hlt] at HLS ⊢
           have p5 : (0 : Int) ≤ (j : Int) := by omega
           have p6 : (j : Int) < (ps.length : Int) := by omega
           have hw160 : wrap64 ((j : Int) + 1) = (j : Int) + 1 := by have := HPL.out; rw [w64 (by omega) (by omega)]
           subst hAp
           clear hp hls hj hkj hlj hlt
           have hna := aM (below_step HL4.out (below_alloc (Below.refl W4.heap.size W4) (.cells #[.int .i64 p.f0, .int .i64 p.f1] 56)))
           by_cases hpk : p.f0 = (k : Int)
           ·have hpb : (p.f0 == (k : Int)) = true := by rw [hpk]; exact beq_self_eq_true _
            rw [if_pos hpk] at HLS
            clear hpk
            go_wp2
            go_roundg (ps.length - (j + 1))
            case measure => have := HKJ.out; have := HLJ.out; omega
            case rel => exact ⟨j + 1, by rw [HLS.out], by first | go_num | (rw [hw160]; go_num), HLJ.out, rfl, hna⟩
           ·have hpb : (p.f0 == (k : Int)) = false := beq_eq_false_iff_ne.2 hpk
            rw [if_neg hpk] at HLS
            clear hpk
            go_wp2
            go_roundg (ps.length - (j + 1))
            case measure => have := HKJ.out; have := HLJ.out; omega
            case rel => exact ⟨j + 1, by rw [HLS.out], by first | go_num | (rw [hw160]; go_num), HLJ.out, rfl, hna⟩
          ·obtain rfl : j = ps.length := by omega
           rw [List.take_length]
           clear hj hkj hlj
           obtain ⟨lt, hlt⟩ : ∃ lt, lt = lastT ps (k : Int) := ⟨_, rfl⟩
           rw [← hlt] at HTT ⊢
           have hw132 := HW132.out
           clear hlt
           cases fv with
           | true =>
            have hltn : (lt != (n : Int)) = false := by rw [HTT.out rfl]; exact bne_self_eq_false _
            go_wp2
            go_roundg (ws.length - (m + 1))
            case measure => have := HKM.out; have := HLM.out; omega
            case rel => exact ⟨m + 1, by first | (rw [HST.out]; done) | (rw [HST.out]; go_num), by first | go_num | (rw [hw132]; go_num), HLM.out, rfl, ⟨below_step HL235.out HL4.out⟩⟩
           | false =>
            go_wp2
            go_roundg (ws.length - (m + 1))
            case measure => have := HKM.out; have := HLM.out; omega
            case rel => exact ⟨m + 1, by first | (rw [HST.out]; done) | (rw [HST.out]; go_num), by first | go_num | (rw [hw132]; go_num), HLM.out, rfl, ⟨below_step HL235.out HL4.out⟩⟩
     ·obtain rfl : m = ws.length := by omega
      rw [List.take_length]
      clear hm hkm hlm
      obtain ⟨h, hh⟩ : ∃ h, h = haveN lk ws := ⟨_, rfl⟩
      rw [← hh]
      have HW118b := HW118.out
      cases one with
      | false =>
       clear hh
       go_wp2
       go_roundg (ts.length - (k + 1))
       case measure => have := HKQ.out; have := HLT.out; omega
       case rel => exact ⟨k + 1, by first | go_num | (rw [HW118b]; go_num), HLT.out, rfl, ⟨below_step HL19.out HL2.out⟩⟩
      | true =>
       have h1 := HMD.out.all HLT.out ws EONE.out.symm (Nat.le_trans EWN.out (by decide))
       have h2 := HMD.out.any HLT.out ws EONE.out.symm (Nat.le_trans EWN.out (by decide))
       have h3 := HMD.out.no HLT.out ws EONE.out.symm (Nat.le_trans EWN.out (by decide))
       rw [← HSX.out, ← HLK.out, ← hh] at h1 h2 h3
       rw [EA.out] at h1
       rw [EY.out] at h2
       rw [EN.out] at h3
       have q1 := ByAll.ans_len x l ws
       have q2 := ByAny.ans_len x l ws
       have q3 := ByNot.ans_len x l ws
       rw [EA.out] at q1
       rw [EY.out] at q2
       rw [EN.out] at q3
       obtain ⟨ka, hka⟩ := (has_ev la (k : Int) q1).ex
       obtain ⟨ky, hky⟩ := (has_ev ly (k : Int) q2).ex
       obtain ⟨kn, hkn⟩ := (has_ev ln (k : Int) q3).ex
       obtain ⟨ra, hra⟩ : ∃ ra, ((h : Int) == (ws.length : Int)) = ra := ⟨_, rfl⟩
       obtain ⟨ry, hry⟩ : ∃ ry, decide (0 < h) = ry := ⟨_, rfl⟩
       obtain ⟨rn, hrn⟩ : ∃ rn, ((h : Int) == 0) = rn := ⟨_, rfl⟩
       have F1 := aM (show laws_has.f ka la (k : Int) = some ra from hka.trans (by rw [← hra]; exact congrArg some h1))
       have F2 := aM (show laws_has.f ky ly (k : Int) = some ry from hky.trans (by rw [← hry]; exact congrArg some (h2.trans (by rw [Bool.eq_iff_iff, decide_eq_true_eq, decide_eq_true_eq]; omega))))
       have F3 := aM (show laws_has.f kn ln (k : Int) = some rn from hkn.trans (by rw [← hrn]; exact congrArg some h3))
       have HS46 := aM (below_step HL19.out HL2.out)
       have g1 := aM (Kd.C_below HRla14.out HS46.out)
       have g2 := aM (Kd.C_below HRly14.out HS46.out)
       have g3 := aM (Kd.C_below HRln14.out HS46.out)
       clear hh h1 h2 h3 q1 q2 q3 hka hky hkn
       go_wp2_with (first | (go_at_call 41; go_loud ((with_reducible refine (laws_has.calls ka Aa ca la (k : Int) ra _ g1.out HLla.out F1.out).mono ?_); rintro e wh1 ⟨rfl, hd⟩; have HD1 := aM (hd.below); clear hd)) | (go_at_call 41; go_loud ((with_reducible refine (laws_has.calls ky Ay cy ly (k : Int) ry _ (Kd.C_below g2.out HD1.out) HLly.out F2.out).mono ?_); rintro e wh2 ⟨rfl, hd⟩; have HD2 := aM (below_step HD1.out hd.below); clear hd)) | (go_at_call 41; go_loud ((with_reducible refine (laws_has.calls kn Az cz ln (k : Int) rn _ (Kd.C_below g3.out HD2.out) HLln.out F3.out).mono ?_); rintro e wh3 ⟨rfl, hd⟩; have HD3 := aM (below_step HD2.out hd.below); clear hd)))
       go_roundg (ts.length - (k + 1))
       case measure => have := HKQ.out; have := HLT.out; omega
       case rel => exact ⟨k + 1, by first | go_num | (rw [HW118b]; go_num), HLT.out, rfl, ⟨below_step HS46.out HD3.out⟩⟩
   ·obtain rfl : k = ts.length := by omega
    clear hk hkq hlt
    have HAT := aM (below_step HAB.out HL1.out)
    go_upto_region 50 with (first | (go_at_call 42; go_loud ((with_reducible refine (spec_DrawWithout.calls k5 B0 d0 l1 y en ws _ (Kd.C_below HR1.out HAT.out) HC1.out E5'.out).mono ?_); rintro e w20 ⟨v20, u20, rfl, ho, hp, hb⟩; have HA20 := aM (below_step HAT.out hb); obtain ⟨Am, cm, rfl, h1_, h2_⟩ := Kd.S_reads ho; obtain ⟨Bm, dm, rfl, h3_, h4_⟩ := Kd.R_reads hp; have HM20 := aM h2_; have HML := aM h1_; have HN20 := aM h4_; have HNL := aM h3_; clear ho hp hb h1_ h2_ h3_ h4_)))
    obtain ⟨W21, hW21⟩ : ∃ W21, W21 = w20.alloc (.cells #[.int .i64 y, .slice Am en.length cm] 33) := ⟨_, rfl⟩
    rw [← hW21]
    have HBz : Aside0 (W21.heap[w20.heap.size]? = some (.cells #[.int .i64 y, .slice Am en.length cm] 33 (0, 0))) := ⟨by rw [hW21]; exact blk_new w20 _⟩
    have HAZ : Aside0 (Below w20.heap.size w20 W21) := ⟨by rw [hW21]; exact below_alloc (Below.refl _ _) _⟩
    have HA21 := aM (below_step HA20.out HAZ.out)
    have HM21 := aM (Kd.C_below HM20.out HAZ.out)
    have HN21 := aM (Kd.C_below HN20.out HAZ.out)
    have HXC : Aside0 (∀ w', Below W21.heap.size W21 w' → w'.cell? ⟨w20.heap.size, 0, none⟩ = some (.int .i64 y) ∧ w'.cell? ⟨w20.heap.size, 1, none⟩ = some (.slice Am en.length cm)) := ⟨fun w' hb => ⟨(blk_cell (blk_below HBz.out hb) 0).trans rfl, (blk_cell (blk_below HBz.out hb) 1).trans rfl⟩⟩
    clear hW21
    obtain ⟨z0, z1⟩ := HXC.out W21 (Below.refl _ _)
    go_upto_region 51 with (first | (go_at_call 31; go_loud (have hcal := ByNot.calls y Am cm en Bm dm ws W21 HM21.out HML.out ESN.out HN21.out ESW.out; rw [EQ.out] at hcal; (with_reducible refine (hcal).mono ?_); rintro e w22 ⟨v22, rfl, ho, hb⟩; have H222 := aM hb; have HA22 := aM (below_step HA21.out hb); obtain ⟨Aq, cq, rfl, h1_, h2_⟩ := Kd.R_reads ho; have HQ22 := aM h2_; have HQL := aM h1_; clear ho hb h1_ h2_ hcal)))
    clear z0 z1
    obtain ⟨z0, z1⟩ := HXC.out w22 H222.out
    go_upto_region 52 with (first | (go_at_call 30; go_loud ((with_reducible refine (spec_Without.calls kb y Am cm en Bm dm ws lq oq _ (Kd.C_below HM21.out H222.out) HML.out (Kd.C_below HN21.out H222.out) HNL.out E8.out).mono ?_); rintro e w23 ⟨v23, rfl, ho, hb⟩; have H223 := aM (below_step H222.out hb); have HA23 := aM (below_step HA22.out hb); have HQ23 := aM (Kd.C_below HQ22.out hb); obtain ⟨Ar, cr, rfl, h1_, h2_⟩ := Kd.R_reads ho; have HR23 := aM h2_; have HRL := aM h1_; clear ho hb h1_ h2_)))
    clear z0 z1
    refine start_ (n := 16) (S := fun w' => w'.cell? ⟨w20.heap.size, 0, none⟩ = some (.int .i64 y) ∧ w'.cell? ⟨w20.heap.size, 1, none⟩ = some (.slice Am en.length cm)) (ds := []) (bq 16 0) (by kernel_rfl) rfl (by kernel_rfl) ⟨(HXC.out w23.drew H223.out.drew).1, (HXC.out w23.drew H223.out.drew).2⟩ (fun hHeld => ?_)
    refine pX 16 1 0 223 ?_
    refine pX 16 3 1 224 ?_
    refine pX 16 7 2 225 ?_
    refine pX 16 15 3 226 ?_
    refine pX 16 31 4 227 ?_
    refine pX 16 63 5 228 ?_
    refine one_ (i := 6) (N := some 229) (bq 16 127) rfl rfl (by kernel_rfl) (by decide) (fun K hK => ?_)
    refine gA Try.func43 #[.slice Aq lq.length cq, .slice Ar lq.length cr] ?_
    with_reducible refine (laws_sameInts.calls kc Aq cq lq Ar cr lq true _ (Kd.C_below HQ23.out (Below.refl _ _).drew) HQL.out (Kd.C_below HR23.out (Below.refl _ _).drew) HRL.out E9.out).mono ?_
    rintro e w24 ⟨rfl, hd⟩
    refine ⟨_, rfl, ?_⟩
    have H224 := aM (below_step H223.out.drew hd.below)
    have HA24 := aM (below_step HA23.out.drew hd.below)
    clear hd
    refine hK.out _ _ ⟨(HXC.out w24 H224.out).1, (HXC.out w24 H224.out).2⟩ (fun hHeld => ?_)
    clear hK K
    refine nM 229 ?_
    refine pX 16 255 7 230 ?_
    refine pX 16 511 8 231 ?_
    refine sX2 16 1023 9 232 hHeld ?_
    refine sX2 16 3071 11 234 hHeld ?_
    refine one_ (i := 10) (N := some 233) (bq 16 4095) rfl rfl (by kernel_rfl) (by decide) (fun K hK => ?_)
    refine gA Try.func38 #[.agg #[.int .i64 y, .slice Am en.length cm]] ?_
    with_reducible refine (impl_GoodWords.calls kd y Am cm en gq _ (Kd.C_below HM21.out H224.out) HML.out EGA.out).mono ?_
    rintro e w25 ⟨rfl, hb⟩
    refine ⟨_, rfl, ?_⟩
    have H225 := aM (below_step H224.out hb)
    have HA25 := aM (below_step HA24.out hb)
    clear hb
    refine hK.out _ _ ⟨(HXC.out w25 H225.out).1, (HXC.out w25 H225.out).2⟩ (fun hHeld => ?_)
    clear hK K
    refine nM 233 ?_
    refine one_ (i := 12) (N := some 235) (bq 16 8191) rfl rfl (by kernel_rfl) (by decide) (fun K hK => ?_)
    refine gA Try.func44 #[.agg #[.int .i64 y, .slice Am en.length cm]] ?_
    with_reducible refine (spec_GoodWords.calls ke y Am cm en gq _ (Kd.C_below HM21.out H225.out) HML.out EGB.out).mono ?_
    rintro e w26 ⟨rfl, hb⟩
    refine ⟨_, rfl, ?_⟩
    have HA26 := aM (below_step HA25.out hb)
    have H226 := aM (below_step H225.out hb)
    clear hb
    refine hK.out _ _ ⟨(HXC.out w26 H226.out).1, (HXC.out w26 H226.out).2⟩ (fun hHeld => ?_)
    clear hK K
    refine nM 235 ?_
    refine pX 16 16383 13 236 ?_
    refine pX 16 32767 14 237 ?_
    refine pX 16 65535 15 4 ?_
    refine done_ (by kernel_rfl) ?_
    go_wp2
    go_ret
    exact ⟨by first | rfl | (simp; done) | (simp [*]; done), HA26.out⟩
theorem calls (A0 : Option Addr) (c0 : Nat) (l0 : List Int) (B0 : Option Addr) (d0 : Nat) (l1 : List Int) (w : World) (hr0 : Kd.C (Kd.int .u8) w A0 l0.length l0) (hc0 : l0.length ≤ c0) (hw0 : ∀ x ∈ l0, (Lit.int .u8 x).wf = true) (hr1 : Kd.C (Kd.int .u8) w B0 l1.length l1) (hc1 : l1.length ≤ d0) (hw1 : ∀ x ∈ l1, (Lit.int .u8 x).wf = true) :
  Calls Try.prog 7 #[.slice A0 l0.length c0, .slice B0 l1.length d0] w fun e w' => e = .returned (.bool true) ∧ Below w.heap.size w w' := by
 by_cases hz : wrap64 ((l0.length : Int) + (l1.length : Int)) > 1048576
 ·exact big A0 c0 l0 B0 d0 l1 w _ rfl hz
 ·obtain ⟨ts, a1, s1, ht1, ht2, _, _, e1⟩ := Drw.texts_ev (Cur.bytes_wf hw0) 0 0 (by omega) (by omega)
  obtain ⟨k1, h1⟩ := (show Evt (fun k => spec_DrawIndexOf.f k l0) ts from Evt.bind e1 (Evt.const _)).ex
  obtain ⟨k2, h2⟩ := (IdS.specIdx_ev ts (by omega) (fun s hs => Nat.le_trans (ht2 s hs) (by decide))).ex
  obtain ⟨hsm, _, _⟩ := IdS.ans_small ts
  obtain ⟨k3, h3⟩ := (sameW_ev (ansIdx ts).1 (ansIdx ts).2.1 hsm).ex
  obtain ⟨y, en, a2, s2, hsn, ha2, hb2, e2⟩ := Drw.words_ev (Cur.bytes_wf hw1) 0 0 (by omega) (by omega)
  obtain ⟨ws, a3, s3, hws1, hws2, _, _, e3⟩ := Drw.asked_ev (Cur.bytes_wf hw1) a2 s2 (by omega) (by omega)
  have e5 : Evt (fun k => spec_DrawWithAll.f k l1) (y, en, ws) := Evt.bind e2 (Evt.bind e3 (Evt.const _))
  obtain ⟨k5, h5⟩ := e5.ex
  have h5' : spec_DrawWithout.f k5 l1 = some (y, en, ws) := by
   unfold spec_DrawWithout.f
   rw [h5]
   rfl
  have hss : SmallS ws := ⟨Nat.le_trans hws1 (by decide), fun s hs => Nat.le_trans (hws2 s hs) (by decide)⟩
  obtain ⟨k6, h6⟩ := (ByAll.spec_of (ansIdx ts).1 (ansIdx ts).2.1 hsm ws hss).ex
  obtain ⟨k7, h7⟩ := (GoodW.impl_ev (ansIdx ts).1 (ansIdx ts).2.1 hsm).ex
  obtain ⟨kb, h8⟩ := (ByNot.spec_of y en hsn ws hss).ex
  obtain ⟨kc, h9⟩ := (sameI_ev (ByNot.ans y en ws).1 (ByNot.ans_len y en ws)).ex
  obtain ⟨kd, ha⟩ := (GoodW.impl_ev y en hsn).ex
  obtain ⟨ke, hb⟩ := (GoodW.spec_ev y en hsn).ex
  exact calls0 A0 c0 l0 B0 d0 l1 w hr0 hc0 hr1 hc1 _ rfl hz k1 k2 k3 k5 k6 k7 0 0 0 ts (ansIdx ts).1 (ansIdx ts).2.1 (ansIdx ts).2.2 y en ws (asked (ansIdx ts).1 (ansIdx ts).2.1 ws 20) (ByAll.ans (ansIdx ts).1 (ansIdx ts).2.1 ws).1 (ByAny.ans (ansIdx ts).1 (ansIdx ts).2.1 ws).1 (ByNot.ans (ansIdx ts).1 (ansIdx ts).2.1 ws).1
   h1 rfl h2 h3 h5 h5' ⟨ht1, ht2⟩ hsm hsn ⟨hws1, hws2⟩ h6 rfl rfl rfl h7 rfl kb kc kd ke (ByNot.ans y en ws).1 (ByNot.ans y en ws).2 (goodW y en) rfl h8 h9 ha hb
end Go.Proofs.Ytaomjndfjmfelaa.LwWd
end

section
namespace Go.Proofs.Ytaomjndfjmfelaa.PQ
open Go.RowKit Go.Proofs.YtaomjndfjmfelaaW.PrintWords Go.Proofs.YtaomjndfjmfelaaW.PrintLast Go.Proofs.YtaomjndfjmfelaaW.PrintMore
attribute [local go_sem] max2_int min2_int max_two min_two max_three min_three max_four min_four
set_option linter.unusedVariables false
set_option linter.unusedSimpArgs false
def laws_FnWords.Pure : Prop := True
theorem laws_FnWords.walk (P : laws_FnWords.Pure) (a0 : Option Addr) (c0 : Nat) (l0 : List Int) (a1 : Option Addr) (c1 : Nat) (l1 : List Int) (w : World) (hr0 : Kd.C (Kd.int .u8) w a0 l0.length l0) (hc0 : l0.length ≤ c0) (w0 : l0.length ≤ maxLen ∧ ∀ x_ ∈ l0, (Lit.int .u8 x_).wf = true) (hr1 : Kd.C (Kd.int .u8) w a1 l1.length l1) (hc1 : l1.length ≤ c1) (w1 : l1.length ≤ maxLen ∧ ∀ x_ ∈ l1, (Lit.int .u8 x_).wf = true) :
  Calls Try.prog 7 #[.slice a0 l0.length c0, .slice a1 l1.length c1] w fun e w' => e = .returned (.bool true) ∧ Below w.heap.size w w' :=
 LwWd.calls a0 c0 l0 a1 c1 l1 w hr0 hc0 w0.2 hr1 hc1 w1.2

end Go.Proofs.Ytaomjndfjmfelaa.PQ
end

section
namespace Go.Proofs.Ytaomjndfjmfelaa.Pure
open Go.Proofs.Ytaomjndfjmfelaa.PQ
theorem FnWords : laws_FnWords.Pure := trivial
end Go.Proofs.Ytaomjndfjmfelaa.Pure
end

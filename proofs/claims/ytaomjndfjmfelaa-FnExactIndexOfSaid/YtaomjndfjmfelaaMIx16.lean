/- Several texts in one: what the claim's last text rests on. No conditions. -/
import Derived.Test.YtaomjndfjmfelaaMIx15
import Derived.Test.YtaomjndfjmfelaaMIx14
import Derived.Test.YtaomjndfjmfelaaMIx5
import Derived.BigRegion
import Derived.Test.YtaomjndfjmfelaaMIx9
import Derived.Test.YtaomjndfjmfelaaMIx12
import Derived.Test.YtaomjndfjmfelaaMIx6
section
namespace Go.Proofs.Ytaomjndfjmfelaa.IdR
set_option linter.unusedVariables false
set_option linter.unusedSimpArgs false
open Go.RowKit Go.Proofs.Ytaomjndfjmfelaa.PQ Go.Proofs.YtaomjndfjmfelaaW.PrintWords Go.Proofs.YtaomjndfjmfelaaW.PrintLast Go.Proofs.YtaomjndfjmfelaaW.PrintMore Go.Proofs.Ytaomjndfjmfelaa.Pre Go.Proofs.Ytaomjndfjmfelaa.EntW Go.Proofs.Ytaomjndfjmfelaa.Posts Go.Proofs.Ytaomjndfjmfelaa.GoodW Go.Proofs.Ytaomjndfjmfelaa.PostW Go.Proofs.Ytaomjndfjmfelaa.Raw Go.Proofs.Ytaomjndfjmfelaa.CmpL Go.Proofs.Ytaomjndfjmfelaa.Cou Go.Proofs.Ytaomjndfjmfelaa.EnI Go.Proofs.Ytaomjndfjmfelaa.Idx Go.Proofs.Ytaomjndfjmfelaa.WordsW
/-- Where the walk stands: the result's block, the words' block, the entries. -/
structure St (w W : World) (n : Nat) (v : Value) (l : List En) (P0 : Nat → Prop) : Prop where
 below : Below w.heap.size w W
 res : W.heap[w.heap.size]? = some (.cells #[.int .i64 0, .slice none 0 0] 33 (0, 0))
 out : W.heap[w.heap.size + 1]? = some (.cells #[.int .i64 (n : Int), v] 33 (0, 0))
 S : Kd.S k102 102 W (w.heap.size + 2) P0 v l
theorem St.big {w W : World} {n : Nat} {v : Value} {l : List En} {P0 : Nat → Prop} (h : St w W n v l P0) : w.heap.size + 1 < W.heap.size := blk_lt h.out
theorem St.step {w W W2 : World} {n : Nat} {v : Value} {l : List En} {P0 : Nat → Prop} (h : St w W n v l P0) (hb : Below W.heap.size W W2) : St w W2 n v l P0 :=
 ⟨below_step h.below hb, (hb.block _ (by have := h.big; omega)).trans h.res, (hb.block _ h.big).trans h.out, Kd.S_below h.S hb⟩
theorem St.mono {w W : World} {n : Nat} {v : Value} {l : List En} {P0 P1 : Nat → Prop} (h : St w W n v l P0) (hp : ∀ q, P0 q → P1 q) : St w W n v l P1 := ⟨h.below, h.res, h.out, Kd.S_mono h.S hp⟩
/-- Other entries, behind a step that keeps what is not theirs. -/
theorem St.next {w W W2 : World} {n : Nat} {v v2 : Value} {l l2 : List En} {P0 P1 : Nat → Prop} (h : St w W n v l P0) (hb : Below (w.heap.size + 2) W W2) (hS : Kd.S k102 102 W2 (w.heap.size + 2) P1 v2 l2) (hP : ∀ q, P1 q → w.heap.size + 2 ≤ q) :
  St w (W2.setCell ⟨w.heap.size + 1, 1, none⟩ v2) n v2 l2 P1 := by
 have h1 := (hb.block (w.heap.size + 1) (by omega)).trans h.out
 have h0 := (hb.block w.heap.size (by omega)).trans h.res
 have hbw : Below w.heap.size w W2 := ⟨hb.os.trans h.below.os, hb.tape.trans h.below.tape, hb.output.trans h.below.output, Nat.le_trans h.below.size hb.size, fun k hk => (hb.block k (by omega)).trans (h.below.block k hk)⟩
 exact ⟨hbw.setCell (p := ⟨w.heap.size + 1, 1, none⟩) (Nat.le_succ _) _, blk_far h0 (show w.heap.size ≠ w.heap.size + 1 by omega) _, blk_put h1 1 _ rfl, Kd.S_far hS (p := ⟨w.heap.size + 1, 1, none⟩) (fun k hk e => by have := hP k hk; have e : k = w.heap.size + 1 := e; omega) _⟩
theorem psOK_len : ∀ (ps : List Po) (i lo : Int), lo ≤ i + 1 → ps.Pairwise (fun a b => a.f0 < b.f0) → (∀ p ∈ ps, lo ≤ p.f0 ∧ p.f0 ≤ i) → (ps.length : Int) ≤ i + 1 - lo
 | [], i, lo, h, _, _ => by simp; omega
 | p :: ps, i, lo, h, hp, hb => by
  have h1 := hb p List.mem_cons_self
  have h2 := List.pairwise_cons.1 hp
  have := psOK_len ps i (p.f0 + 1) (by omega) h2.2 (fun q hq => ⟨by have := h2.1 q hq; omega, (hb q (List.mem_cons_of_mem _ hq)).2⟩)
  rw [List.length_cons]
  omega
theorem inv_small {i : Int} {l : List En} (h : Inv i l) (h0 : -1 ≤ i) : ∀ e ∈ l, (e.f1.length : Int) ≤ i + 1 := fun e he => by
 obtain ⟨_, _, h3⟩ := h.each e he
 have := psOK_len e.f1 i 0 (by omega) h3.rise (fun p hp => ⟨(h3.each p hp).1, (h3.each p hp).2.1⟩)
 omega
theorem inv_rise {i : Int} {l : List En} (h : Inv i l) : Rise l := fun a b hb hab => List.pairwise_iff_getElem.1 h.rise a b (by omega) hb hab
theorem cnt_len (l : List En) (t : ByteArray) (i : Int) : (cnt l t i).length ≤ l.length + 1 := by
 unfold cnt
 split
 ·rw [List.length_set]
  omega
 ·rw [List.length_append, List.length_cons, List.length_take, List.length_drop]
  omega
theorem fold_len (i : Int) : ∀ (ws : List ByteArray) (l : List En), (ws.foldl (fun l t => cnt l t i) l).length ≤ l.length + ws.length
 | [], l => Nat.le_refl _
 | t :: ws, l => by
  have h1 := fold_len i ws (cnt l t i)
  have h2 := cnt_len l t i
  rw [List.foldl_cons, List.length_cons]
  omega
theorem idxTo_len (ts : List ByteArray) (hw : ∀ s ∈ ts, (wordsOf s).length ≤ 100) : ∀ k, k ≤ ts.length → (idxTo ts k).length ≤ 100 * k
 | 0, _ => Nat.le_refl _
 | k + 1, hk => by
  have h1 := idxTo_len ts hw k (by omega)
  have h2 := fold_len (k : Int) (wordsOf (ts.getD k ByteArray.empty)) (idxTo ts k)
  have h3 : (wordsOf (ts.getD k ByteArray.empty)).length ≤ 100 := by
   rw [List.getD_eq_getElem?_getD, List.getElem?_eq_getElem (show k < ts.length by omega)]
   exact hw _ (List.getElem_mem _)
  show ((wordsOf (ts.getD k ByteArray.empty)).foldl (fun l t => cnt l t (k : Int)) (idxTo ts k)).length ≤ _
  omega
theorem str_at {w : World} {A : Option Addr} {xs : List ByteArray} (h : Kd.C Kd.string w A xs.length xs) (i : Nat) (hi : i < xs.length) : ∃ ad, A = some ad ∧ w.cell? (ad.add i) = some (.string xs[i]) := by
 obtain ⟨ad, c, e, _, hK, hc0⟩ := Kd.C_get h ByteArray.empty (i : Int) (by omega) (by omega)
 rw [Int.toNat_natCast, List.getD_eq_getElem?_getD, List.getElem?_eq_getElem hi] at hK
 rw [Int.toNat_natCast] at hc0
 have hk : c = [.string xs[i]] := hK
 subst hk
 refine ⟨ad, e, ?_⟩
 have h1 := hc0 0 _ rfl
 rw [show Kd.string.sz = 1 from rfl, Nat.mul_one, Nat.add_zero] at h1
 exact h1
theorem start_in {w W W2 : World} {n : Nat} {v v2 : Value} {l : List En} {ws : List ByteArray} (h : St w W n v l (fun q => w.heap.size + 2 ≤ q)) (ho : Kd.string.R 9 W2 W.heap.size (fun _ => True) v2 ws) (hb : Below W.heap.size W W2) : St w W2 n v l (fun q => w.heap.size + 2 ≤ q ∧ some q ≠ v2.ownBlock) :=
 (St.mono (P1 := fun q => w.heap.size + 2 ≤ q ∧ some q ≠ v2.ownBlock) ⟨h.below, h.res, h.out, Kd.S_bound h.S⟩ (fun q hq => ⟨hq.1, fun e => by have h1 := hq.2.2.1; have h2 := Kd.R_base ho q e.symm; omega⟩)).step hb
theorem idxTo_take (ts : List ByteArray) (n : Nat) : ∀ k, k ≤ n → idxTo (ts.take n) k = idxTo ts k
 | 0, _ => rfl
 | k + 1, hk => by
  have e : (ts.take n).getD k ByteArray.empty = ts.getD k ByteArray.empty := by
   rw [List.getD_eq_getElem?_getD, List.getD_eq_getElem?_getD, List.getElem?_take, if_pos (by omega)]
  show ((wordsOf ((ts.take n).getD k ByteArray.empty)).foldl (fun l t => cnt l t (k : Int)) (idxTo (ts.take n) k)) = ((wordsOf (ts.getD k ByteArray.empty)).foldl (fun l t => cnt l t (k : Int)) (idxTo ts k))
  rw [e, idxTo_take ts n k (by omega)]
/-- The entries ahead of a word are in order and few. -/
theorem inv_at (ts : List ByteArray) (i m : Nat) (hi : i < ts.length) (h200 : ∀ j, ∀ h : j < ts.length, j < i → ts[j].size ≤ 200) (hx : ts[i].size ≤ 200) :
  Inv (i : Int) (((wordsOf ts[i]).take m).foldl (fun l t => cnt l t (i : Int)) (idxTo ts i)) ∧ (((wordsOf ts[i]).take m).foldl (fun l t => cnt l t (i : Int)) (idxTo ts i)).length ≤ 100 * (i + 1) := by
 have hT : ∀ s ∈ ts.take (i + 1), s.size ≤ 200 := fun s hs => by
  obtain ⟨j, hj, rfl⟩ := List.getElem_of_mem hs
  rw [List.getElem_take]
  rw [List.length_take] at hj
  by_cases e : j = i
  ·subst e
   exact hx
  ·exact h200 j (by omega) (by omega)
 have hTl : (ts.take (i + 1)).length = i + 1 := by rw [List.length_take]; omega
 obtain ⟨h1, h2⟩ := idx_inv (ts.take (i + 1)) (fun s hs => ⟨words_100 s (hT s hs), words_are s⟩) i (by omega)
 have h3 := idxTo_len (ts.take (i + 1)) (fun s hs => words_100 s (hT s hs)) i (by omega)
 rw [idxTo_take ts (i + 1) i (by omega)] at h1 h2 h3
 have h4 := words_100 ts[i] hx
 have h5 : ((wordsOf ts[i]).take m).length ≤ 100 := by rw [List.length_take]; omega
 refine ⟨(text_inv (by omega) _ _ (by have := h1.next; rwa [show (i : Int) - 1 + 1 = (i : Int) by omega] at this) (fun t ht => words_are _ t (List.mem_of_mem_take ht)) (fun t => ?_)).1, ?_⟩
 ·have := h2 t i
  rw [if_neg (by omega)] at this
  rw [this]
  omega
 ·have := fold_len (i : Int) ((wordsOf ts[i]).take m) (idxTo ts i)
  omega
theorem idx_of_at {l : List En} {t : ByteArray} {k : Nat} (h : At l t k) : idx l t = k := idx_at t l k h.1 (fun j hj hjk => h.2.1 j hj hjk) (fun hk => h.2.2 k hk (Nat.le_refl _))
theorem cnt_no {l : List En} {t : ByteArray} {k : Nat} (i : Int) (h : At l t k) (hb : isAt l t k = false) : cnt l t i = l.take k ++ ⟨t, [⟨i, 1⟩]⟩ :: l.drop k := by
 unfold cnt
 rw [idx_of_at h, if_neg]
 rintro ⟨h1, h2⟩
 rw [List.getD_eq_getElem?_getD, List.getElem?_eq_getElem h1] at h2
 have := of_decide_eq_false hb
 exact this ⟨h1, h2⟩
theorem cnt_yes {l : List En} {t : ByteArray} {k : Nat} (i : Int) (h : At l t k) (hb : isAt l t k = true) : ∃ hk : k < l.length, l[k].f0 = t ∧ cnt l t i = l.set k ⟨t, bump l[k].f1 i⟩ := by
 obtain ⟨h1, h2⟩ := of_decide_eq_true hb
 refine ⟨h1, h2, ?_⟩
 have e : l.getD k ⟨t, []⟩ = l[k] := by rw [List.getD_eq_getElem?_getD, List.getElem?_eq_getElem h1]; rfl
 unfold cnt
 rw [idx_of_at h, e, if_pos ⟨h1, h2⟩]
theorem new_size (W : World) (o : Obj) : (W.alloc o).heap.size = W.heap.size + 1 := by
 show (W.heap.push o).size = _
 rw [Array.size_push]
theorem keepW {W W2 : World} {T b : Nat} {v : Value} {ws : List ByteArray} (h : Kd.string.R T W b (fun _ => True) v ws) (hk : ∀ q, v.ownBlock = some q → q < W.heap.size → b ≤ q → W2.heap[q]? = W.heap[q]?) : Kd.string.R T W2 b (fun _ => True) v ws :=
 Kd.R_mono (Kd.R_move (Kd.R_tight rfl h) (fun q hq => hk q hq.symm (Kd.R_lt h q hq.symm) (Kd.R_base h q hq.symm))) (fun _ _ => trivial)
theorem set_ins (l : List En) (k : Nat) (x y : En) (hk : k ≤ l.length) : (l.take k ++ x :: l.drop k).set k y = l.take k ++ y :: l.drop k := by
 have h : (l.take k).length = k := by rw [List.length_take]; omega
 rw [List.set_append_right _ _ (by omega), h, Nat.sub_self]
 rfl
/-- Other entries in the same row. -/
theorem St.swap {w W W2 : World} {n : Nat} {v : Value} {l l2 : List En} {P0 P1 : Nat → Prop} (h : St w W n v l P0) (hb : Below (w.heap.size + 2) W W2) (hS : Kd.S k102 102 W2 (w.heap.size + 2) P1 v l2) : St w W2 n v l2 P1 :=
 ⟨⟨hb.os.trans h.below.os, hb.tape.trans h.below.tape, hb.output.trans h.below.output, Nat.le_trans h.below.size hb.size, fun k hk => (hb.block k (by omega)).trans (h.below.block k hk)⟩, (hb.block _ (by omega)).trans h.res, (hb.block _ (by omega)).trans h.out, hS⟩
theorem Opn.putn {W : World} {lo W0 : Nat} {P0 OKI : Nat → Prop} {g c k g2 c2 m n : Nat} {l : List En} {x : ByteArray} {ps : List Po} (hn : ps.length = n) (h : Opn W lo W0 P0 OKI g c k l x (.slice (some ⟨g2, 0, none⟩) n c2) ps) (hm : m < ps.length) (y : Int) :
  W.cell? ⟨g2, m * 2, none⟩ = some (.int .i64 ps[m].f0) ∧ W.cell? ⟨g2, m * 2 + 1, none⟩ = some (.int .i64 ps[m].f1) ∧ W.frozen? ⟨g2, m * 2 + 1, none⟩ = false ∧
  Opn (W.setCell ⟨g2, m * 2 + 1, none⟩ (.int .i64 y)) lo W0 P0 OKI g c k l x (.slice (some ⟨g2, 0, none⟩) n c2) (ps.set m ⟨ps[m].f0, y⟩) ∧ W.grownBy (W.setCell ⟨g2, m * 2 + 1, none⟩ (.int .i64 y)) (some g2) ∧ (P0 g2 ∨ W0 ≤ g2) := by
 subst hn
 exact h.put hm y
theorem ans_bad {ts : List ByteArray} (h : ¬ (ts.length ≤ 40 ∧ (∀ s ∈ ts, s.size ≤ 200) ∧ (idxTo ts ts.length).length ≤ 200)) : ansIdx ts = (0, [], false) := if_neg h
set_option maxHeartbeats 4000000 in
set_option maxRecDepth 100000 in
theorem indexOf_calls (A : Option Addr) (c : Nat) (ts : List ByteArray) (w : World) (hr : Kd.C Kd.string w A ts.length ts) (hc : ts.length ≤ c) (hs : ∀ s ∈ ts, s.size ≤ 1048576) :
  Calls Try.prog 33 #[.slice A ts.length c] w fun e w' => ∃ v : Value, e = .returned (.tuple #[.agg #[.int .i64 (ansIdx ts).1, v], .bool (ansIdx ts).2.2]) ∧ Kd.S k102 102 w' w.heap.size (fun _ => True) v (ansIdx ts).2.1 ∧ Below w.heap.size w w' := by
 have HC := aM hr
 have HS := aM hs
 by_cases h40 : ts.length ≤ 40
 ·have hgt : decide ((ts.length : Int) > 40) = false := decide_eq_false (by omega)
  have H40 := aM h40
  clear hr hc hs h40
  go_enter Try.func33, Try.ntmps33
  go_wp2
  go_loopg [24] ts.length (fun kq v24 w' => ∃ (i : Nat) (l : List En) (v : Value), v24 = .int .i64 (i : Int) ∧ i ≤ ts.length ∧ kq = ts.length - i ∧ Aside0 (l = idxTo ts i) ∧ Aside0 (∀ j, ∀ h : j < ts.length, j < i → ts[j].size ≤ 200) ∧ Aside0 (St w w' ts.length v l (fun q => w.heap.size + 2 ≤ q)))
  case atStart =>
   refine ⟨0, [], .slice none 0 0, rfl, by omega, by omega, ⟨rfl⟩, ⟨fun j _ h => absurd h (Nat.not_lt_zero _)⟩, ⟨?_, ?_, ?_, Kd.S_nil _ _ _ _ _⟩⟩
   ·exact below_alloc (below_alloc (Below.refl _ _) _) _
   ·show ((w.heap.push _).push _)[w.heap.size]? = _
    simp [Array.getElem?_push]
   ·show ((w.heap.push _).push _)[w.heap.size + 1]? = _
    rw [Array.getElem?_push, if_pos (by simp)]
  case round =>
   obtain ⟨i, l, v, rfl, hi, hk, HL, H200, HT⟩ := hrel
   by_cases hlt : i < ts.length
   ·have HI := aM hlt
    obtain ⟨ad, hA, hx0⟩ := str_at HC.out i hlt
    obtain ⟨x, hxe⟩ : ∃ x, x = ts[i] := ⟨_, rfl⟩
    rw [← hxe] at hx0
    have HXE := aM hxe
    clear hxe
    subst hA
    replace hx0 := (HT.out.below.cell (World.block_lt_of_cell? w _ hx0)).trans hx0
    have p1 : (0 : Int) ≤ (i : Int) := by omega
    have q1 : (i : Int) < (ts.length : Int) := by omega
    by_cases h2 : x.size ≤ 200
    ·rename World => W1
     obtain ⟨ws, hws⟩ : ∃ ws, ws = wordsOf x := ⟨_, rfl⟩
     have EW := aM (show impl_WordsIn.f x = some (ws, true) from by unfold impl_WordsIn.f; rw [if_neg (by omega), show impl_wordsIn.f x = some (wordsOf x) from if_pos h2, hws]; rfl)
     have HWS := aM hws
     have HW100 : Aside0 (ws.length ≤ 100) := ⟨by rw [hws]; exact words_100 x h2⟩
     have HWW : Aside0 (∀ t ∈ ws, isW t = true) := ⟨by rw [hws]; exact words_are x⟩
     have H2X := aM h2
     clear hws h2
     go_upto_region 10 with (first | (go_at_call 39; go_loud ((with_reducible refine (impl_WordsIn.calls x ws true _ EW.out).mono ?_); rintro e w2 ⟨v2, rfl, ho, hb⟩; obtain ⟨A2, c2, e2⟩ := Kd.R_slice ho; subst e2; have HO2 := aM ho; have HT2 := aM (start_in HT.out ho hb); have HSZ2 := aM hb.size; have HSZ := aM (show w.heap.size + 1 < W1.heap.size from HT.out.big); clear ho hb)))
     go_wp2
     go_loopg [39] ws.length (fun kq v39 w' => ∃ (m : Nat) (l' : List En) (v' : Value), v39 = .int .i64 (m : Int) ∧ m ≤ ws.length ∧ kq = ws.length - m ∧ Aside0 (l' = (ws.take m).foldl (fun l t => cnt l t (i : Int)) l) ∧ Aside0 (St w w' ts.length v' l' (fun q => w.heap.size + 2 ≤ q ∧ some q ≠ (Value.slice A2 ws.length c2).ownBlock)) ∧ Aside0 (Kd.string.R 9 w' W1.heap.size (fun _ => True) (.slice A2 ws.length c2) ws) ∧ Aside0 (w2.heap.size ≤ w'.heap.size))
     case atStart => exact ⟨0, l, v, rfl, Nat.zero_le _, rfl, ⟨rfl⟩, HT2, HO2, ⟨Nat.le_refl _⟩⟩
     case round =>
      obtain ⟨m, l', v', rfl, hm, hkm, HL', HT', HO', HSZ'⟩ := hrel
      by_cases hlm : m < ws.length
      ·have HM := aM hlm
       have HKM := aM hkm
       obtain ⟨ad2, hA2, hx2⟩ := str_at (Kd.R_reads' HO'.out).2.2 m hlm
       obtain ⟨t, hte⟩ : ∃ t, t = ws[m] := ⟨_, rfl⟩
       rw [← hte] at hx2
       have HTE := aM hte
       clear hte
       obtain ⟨hinv, hlen⟩ := inv_at ts i m HI.out H200.out (by rw [← HXE.out]; exact H2X.out)
       rw [← HXE.out, ← HWS.out, ← HL.out, ← HL'.out] at hinv hlen
       have HINV := aM hinv
       have HLEN : Aside0 (l'.length ≤ 4100) := ⟨by have := H40.out; have := HI.out; omega⟩
       obtain ⟨A5, c5, e5⟩ := Kd.S_slice HT'.out.S
       subst e5
       have HR5 := aM (Kd.S_reads' HT'.out.S)
       have co0 : wr.cell? ⟨w.heap.size + 1, 0, none⟩ = some (.int .i64 (ts.length : Int)) := (blk_cell HT'.out.out 0).trans rfl
       have co1 : wr.cell? ⟨w.heap.size + 1, 1, none⟩ = some (.slice A5 l'.length c5) := (blk_cell HT'.out.out 1).trans rfl
       have p3 : (0 : Int) ≤ (m : Int) := by omega
       have q3 : (m : Int) < (ws.length : Int) := by omega
       clear hinv hlen hkm hm
       subst hA2
       go_upto_region 14 with (first | (go_at_call 81; go_loud ((with_reducible refine (entryOf_calls A5 c5 l' t _ HR5.out.2.2 HR5.out.2.1 (by have := HLEN.out; omega) (inv_rise HINV.out)).mono ?_); rintro e w5 ⟨k, HA, rfl, hb⟩; obtain ⟨b, hbb⟩ : ∃ b, b = isAt l' t k := ⟨_, rfl⟩; rw [← hbb]; have HBB := aM hbb; have HAT := aM HA; have HKL : Aside0 (k ≤ l'.length) := ⟨HA.1⟩; have HT5 := aM (HT'.out.step hb); have HO5 := aM (Kd.R_below HO'.out hb); have HSZ5 := aM (Nat.le_trans HSZ'.out hb.size); clear hbb HA hb)))
       cases b with
       | false =>
        have HS5 := aM (Kd.S_alloc (Kd.S_bound HT5.out.S) (.cells #[.string t, .slice none 0 0] 102))
        have cw0 : w5.cell? ⟨w.heap.size + 1, 0, none⟩ = some (.int .i64 (ts.length : Int)) := (blk_cell HT5.out.out 0).trans rfl
        have cw1 : w5.cell? ⟨w.heap.size + 1, 1, none⟩ = some (.slice A5 l'.length c5) := (blk_cell HT5.out.out 1).trans rfl
        have HINS := aM (ins_S _ _ k w5.heap.size A5 c5 l' t _ HS5.out HKL.out (by have := HLEN.out; omega) (by have := HT5.out.big; simp; omega) (by show (w5.heap.push _)[w5.heap.size]? = _; simp) (fun h => Nat.lt_irrefl _ h.2.2.1) (fun q h => by have := h.2.2.1; simp; omega))
        go_upto_region 16 with (first | (go_at_call 82; go_loud ((with_reducible refine (HINS.out).mono ?_); rintro e w6 ⟨v6, rfl, hS6, hB6, hK6⟩; obtain ⟨l6, hl6⟩ : ∃ l6, l6 = l'.take k ++ (⟨t, []⟩ : En) :: l'.drop k := ⟨_, rfl⟩; rw [← hl6] at hS6; have HL6 := aM hl6; clear hl6; obtain ⟨A6, c6, e6⟩ := Kd.S_slice hS6; subst e6; have HS6 := aM hS6; have HB6 := aM hB6; have HK6 := aM hK6; have co6 : w6.heap[w.heap.size + 1]? = _ := (hB6.block (w.heap.size + 1) (by omega)).trans ((below_alloc (Below.refl w5.heap.size w5) _).block (w.heap.size + 1) HT5.out.big |>.trans HT5.out.out); have ck1 : w6.cell? ⟨w.heap.size + 1, 1, none⟩ = some (.slice A5 l'.length c5) := (blk_cell co6 1).trans rfl; have fk1 : w6.frozen? ⟨w.heap.size + 1, 1, none⟩ = false := blk_frozen co6 1; clear co6 hS6 hB6 hK6)))
        have HT7 := aM (St.mono (P1 := fun q => w.heap.size + 2 ≤ q ∧ some q ≠ (Value.slice (some ad2) ws.length c2).ownBlock) (St.next (HT5.out.step (below_alloc (Below.refl w5.heap.size w5) (.cells #[.string t, .slice none 0 0] 102))) HB6.out HS6.out (fun q hq => by rcases hq with h | h <;> first | exact h.1.1 | (have := HT5.out.big; simp at h; omega))) (fun q hq => by
         rcases hq with h | h
         ·exact h.1
         ·have h1 := HT5.out.big
          rw [new_size] at h
          exact ⟨by omega, fun e => by have := Kd.R_lt HO5.out q e.symm; omega⟩))
        have HO7 := aM (keepW HO5.out (W2 := w6.setCell ⟨w.heap.size + 1, 1, none⟩ (.slice A6 l6.length c6)) (fun q hq hlt hb => by
         have h1 := HSZ.out
         rw [Below.heap_setCell _ _ _ _ (show q ≠ w.heap.size + 1 by omega), HK6.out.2 q (by rw [new_size]; omega) (fun h => h.1.2 hq.symm)]
         exact (below_alloc (Below.refl w5.heap.size w5) _).block q hlt))
        have HSZ7 : Aside0 (w2.heap.size ≤ (w6.setCell ⟨w.heap.size + 1, 1, none⟩ (.slice A6 l6.length c6)).heap.size) := ⟨by have h1 := HSZ5.out; have h2 := HK6.out.1; rw [new_size] at h2; simp [World.setCell]; omega⟩
        have hkl : k < l6.length := by rw [HL6.out, List.length_append, List.length_take, List.length_cons]; have := HKL.out; omega
        have hlk : l6[k] = (⟨t, []⟩ : En) := by
         have e : l6[k]? = some (⟨t, []⟩ : En) := by rw [HL6.out, List.getElem?_append_right (by rw [List.length_take]; omega), List.length_take, Nat.min_eq_left HKL.out, Nat.sub_self]; rfl
         rw [List.getElem?_eq_getElem hkl] at e
         exact Option.some.inj e
        have HCNT : Aside0 (l6.set k ⟨t, [⟨(i : Int), 1⟩]⟩ = cnt l' t (i : Int)) := ⟨by rw [cnt_no _ HAT.out HBB.out.symm, HL6.out, set_ins _ _ _ _ HKL.out]⟩
        obtain ⟨g, OKI, pv, eA, hop⟩ := open_at HT7.out.S k hkl
        rw [hlk] at hop
        obtain ⟨Ap, cp, ep⟩ := Kd.R_slice hop.R
        subst ep
        obtain ⟨W7, hW7⟩ : ∃ W7, W7 = w6.setCell ⟨w.heap.size + 1, 1, none⟩ (.slice A6 l6.length c6) := ⟨_, rfl⟩
        rw [← hW7] at HT7 HO7 HSZ7 hop ⊢
        clear hW7 ck1 fk1 cw0 cw1
        subst eA
        obtain ⟨hq0, hq1, hqf⟩ := hop.cells
        have HOP : Aside0 (Opn W7 (w.heap.size + 2) W7.heap.size (fun q => w.heap.size + 2 ≤ q ∧ some q ≠ (Value.slice (some ad2) ws.length c2).ownBlock) OKI g c6 k l6 t (.slice Ap 0 cp) []) := ⟨hop⟩
        replace hq1 : W7.cell? ⟨g, k * 2 + 1, none⟩ = some (.slice Ap 0 cp) := hq1
        replace hq0 : W7.cell? ⟨g, k * 2, none⟩ = some (.string t) := hq0
        have cz1 : W7.cell? ⟨w.heap.size + 1, 1, none⟩ = some (.slice (some ⟨g, 0, none⟩) l6.length c6) := (blk_cell HT7.out.out 1).trans rfl
        have pk : (0 : Int) ≤ (k : Int) := by omega
        have qk : (k : Int) < (l6.length : Int) := by omega
        have HKL6 := aM hkl
        clear hop hkl hlk
        have pi0 : (0 : Int) ≤ (i : Int) := by omega
        go_upto_region 20 with (((with_reducible refine gate_builtin (b := .append) (xs := #[.tmp 88, .tmp 91]) rfl ?_); at_builtin; go_loud (refine Kd.R_append k56 (w0 := W7) (W := W7) (w.heap.size + 2) rfl (.tmp 88) (.tmp 91) 52 56 (.agg #[.int .i64 0, .int .i64 0]) 16 rfl Try.underlying52 info56 rfl (by decide) (by omega) (.slice Ap 0 cp) ([] : List Po) (⟨(i : Int), 0⟩ : Po) [.int .i64 (i : Int), .int .i64 0] OKI (fun _ => False) rfl rfl (k56_mkM _ _ _ _) (fun _ h => h.elim) HOP.out.new HOP.out.R (Below.refl _ _) (by have := HT7.out.big; omega) (by first | (simp; done) | (have := HPL.out; omega)) ?_; intro v4 w4 ho4 hb4 hg4 hat4; obtain ⟨A4, c4, e4⟩ := Kd.R_slice ho4; obtain ⟨ps1, hps1⟩ : ∃ ps1, ps1 = ([] : List Po) ++ [(⟨(i : Int), 0⟩ : Po)] := ⟨_, rfl⟩; rw [← hps1] at e4 ho4; have HPS1 := aM hps1; have hl1 : ps1.length = 1 := (by rw [hps1]; first | rfl | (rw [List.length_append, HPN.out, HN1.out]; rfl)); rw [hl1] at e4; have HL1 := aM hl1; subst e4; clear hl1 hps1; have HO4 := aM ho4; have HB4 := aM hb4; have HG4 := aM hg4; have HAT4 := aM hat4; clear ho4 hb4 hg4 hat4; have HH4 := aM (Kd.H_grown HOP.out.H HG4.out (fun q hq => HOP.out.R.1 q hq)); obtain ⟨hcl4, hfr4⟩ := H_cell2 HH4.out HKL6.out rfl 1 _ rfl)))
        obtain ⟨hop9, hsz9, hk9⟩ := HOP.out.grown HG4.out HO4.out rfl HAT4.out (Nat.le_refl _)
        have hB9 : Below (w.heap.size + 2) W7 (w4.setCell ⟨g, k * 2 + 1, none⟩ (.slice A4 1 c4)) := Below.setCell (p := ⟨g, k * 2 + 1, none⟩) HB4.out hop9.hg.2.2 _
        obtain ⟨W9, hW9⟩ : ∃ W9, W9 = w4.setCell ⟨g, k * 2 + 1, none⟩ (.slice A4 1 c4) := ⟨_, rfl⟩
        rw [← hW9] at hop9 hsz9 hk9 hB9 ⊢
        have HK9 := aM (⟨hsz9, hk9⟩ : _ ∧ _)
        have HB9 := aM hB9
        clear hW9 hsz9 hk9 hB9 hcl4 hfr4 hq0 hq1 hqf cz1
        obtain ⟨g4, c4', e4', _, _, _⟩ := Kd.R_form hop9.R (by rw [HL1.out]; first | exact Nat.one_pos | (rw [HN1.out]; exact Nat.succ_pos _))
        rw [HL1.out] at e4'
        injection e4' with e4a _ e4b
        subst e4a
        subst e4b
        obtain ⟨r0, r1, rf⟩ := hop9.cells
        obtain ⟨s0, s1, sf, hopE, hgE, hpE⟩ := Opn.putn HL1.out hop9 (m := 0) (by rw [HL1.out]; first | exact Nat.one_pos | (rw [HN1.out]; exact Nat.lt_succ_self _)) (1)
        have hgB4 := Kd.R_base hop9.R g4 (by simp [Value.ownBlock])
        have HGB4 := aM hgB4
        have hps : ps1[0]'(by rw [HL1.out]; first | exact Nat.one_pos | (rw [HN1.out]; exact Nat.lt_succ_self _)) = (⟨(i : Int), 0⟩ : Po) := by simp only [HPS1.out]; rfl
        rw [hps] at s1 s0 hopE
        have HOPE := aM hopE
        have HGE := aM hgE
        have HPE := aM hpE
        have s1 : W9.cell? ⟨g4, 0 * 2 + 1, none⟩ = some (.int .i64 0) := s1
        clear hps hopE hgE hpE hop9 hgB4 s0
        try simp only [Nat.zero_mul, Nat.zero_add] at s1 sf
        go_region
        try clear pw hnm hnl hn0
        have hown : ∀ q, (Value.slice (some ad2) ws.length c2).ownBlock = some q → q < W7.heap.size := fun q hq => Kd.R_lt HO7.out q hq
        have hsh := Kd.S_mono (ok' := fun q => w.heap.size + 2 ≤ q ∧ some q ≠ (Value.slice (some ad2) ws.length c2).ownBlock) (Kd.S_drew HOPE.out.shut) (fun q hq => by
         rcases hq with h | h
         ·exact h
         ·have h1 := HT7.out.big
          exact ⟨by omega, fun e => by have := hown q e.symm; omega⟩)
        have hke : ∀ q, (Value.slice (some ad2) ws.length c2).ownBlock = some q → (W9.setCell ⟨g4, 0 * 2 + 1, none⟩ (.int .i64 (1))).heap[q]? = W7.heap[q]? := fun q hq => by
         have hlt := hown q hq
         have h1 := HGE.out.block q (Nat.lt_of_lt_of_le hlt HK9.out.1) (fun e => by
          injection e with e
          rcases HPE.out with h | h
          ·exact h.2 (by rw [← e]; exact hq.symm)
          ·omega)
         exact h1.trans (HK9.out.2 q hlt (fun h => by rcases h with h | h; exact h.2 hq.symm; omega))
        have hcn : l6.set k ⟨t, ps1.set (0) ⟨(i : Int), 1⟩⟩ = cnt l' t (i : Int) := by rw [HPS1.out, ← HCNT.out]; rfl
        rw [hcn] at hsh
        have HSH := aM hsh
        have HKE := aM hke
        clear hsh hke hcn hown
        go_wp2
        go_roundg (ws.length - (m + 1))
        case measure => have := HKM.out; have := HM.out; omega
        case rel =>
         refine ⟨m + 1, cnt l' t (i : Int), _, by first | go_num | (rw [w64 (by have := HM.out; have := HW100.out; omega) (by have := HM.out; have := HW100.out; omega)]; go_num), HM.out, rfl, ⟨?_⟩, ⟨HT7.out.swap (below_drew (Below.setCell (p := ⟨g4, 0 * 2 + 1, none⟩) HB9.out HGB4.out (.int .i64 (1)))) HSH.out⟩, ⟨keepW HO7.out (fun q hq _ _ => HKE.out q hq)⟩, ⟨?_⟩⟩
         ·rw [List.take_succ_eq_append_getElem HM.out, List.foldl_append, ← HL'.out, ← HTE.out]
          rfl
         ·exact Nat.le_trans HSZ7.out (Nat.le_trans HK9.out.1 HGE.out.size)
       | true =>
        obtain ⟨hkl, hlt5, hcnt⟩ := cnt_yes (i : Int) HAT.out HBB.out.symm
        have HCNT := aM hcnt
        obtain ⟨hisw, hne, hpso⟩ := HINV.out.each l'[k] (List.getElem_mem hkl)
        have hsm := inv_small HINV.out (by omega) l'[k] (List.getElem_mem hkl)
        have hpk : ∀ p ∈ l'[k].f1, 1 ≤ p.f1 ∧ p.f1 ≤ 100 := fun p hp => (hpso.each p hp).2.2
        obtain ⟨g, OKI, pv, eA, hop⟩ := open_at HT5.out.S k hkl
        rw [hlt5] at hop
        obtain ⟨ps, hps⟩ : ∃ ps, ps = l'[k].f1 := ⟨_, rfl⟩
        rw [← hps] at hop hne hsm hpk HCNT
        obtain ⟨g2, cp, ep, _, _, _⟩ := Kd.R_form hop.R (List.length_pos_iff.2 hne)
        subst ep
        obtain ⟨m2, hm2'⟩ : ∃ m2, ps.length = m2 + 1 := ⟨ps.length - 1, by have := List.length_pos_iff.2 hne; omega⟩
        obtain ⟨nn, hm2⟩ : ∃ nn, ps.length = nn := ⟨_, rfl⟩
        obtain ⟨n1, hn1⟩ : ∃ n1, n1 = nn + 1 := ⟨_, rfl⟩
        have HPN := aM hm2
        have HNM : Aside0 (nn = m2 + 1) := ⟨by omega⟩
        have HN1 := aM hn1
        have hmlt : m2 < ps.length := by omega
        clear hm2' hn1
        have HMLT := aM hmlt
        have HPL : Aside0 (ps.length ≤ 100) := ⟨by have := H40.out; have := HI.out; omega⟩
        rw [hm2] at hop
        obtain ⟨y, hy⟩ : ∃ y, y = ps[m2]'HMLT.out := ⟨_, rfl⟩
        have HY := aM hy
        have HY1 := aM (hpk y (by rw [hy]; exact List.getElem_mem _))
        have HBU : Aside0 (bump ps (i : Int) = if y.f0 = (i : Int) then ps.set m2 ⟨y.f0, wrap64 (y.f1 + 1)⟩ else ps ++ [⟨(i : Int), 1⟩]) := ⟨by
         have h9 : ps.length - 1 = m2 := by have h1 := HNM.out; have h2 := HPN.out; omega
         have e : ps.getD (ps.length - 1) ⟨0, 0⟩ = y := by rw [HY.out, h9, List.getD_eq_getElem?_getD, List.getElem?_eq_getElem HMLT.out]; rfl
         unfold bump
         rw [e, h9]⟩
        obtain ⟨s0, s1, sf, hopE, hgE, hpE⟩ := Opn.putn HPN.out hop (m := m2) HMLT.out (wrap64 (y.f1 + 1))
        rw [← hy] at s0 s1 hopE
        have HOPE := aM hopE
        have HGE := aM hgE
        have HPE := aM hpE
        have hgB4 := Kd.R_base hop.R g2 (by simp [Value.ownBlock])
        have HGB4 := aM hgB4
        have HOP := aM hop
        subst eA
        obtain ⟨hq0, hq1, hqf⟩ := hop.cells
        have cz1 : w5.cell? ⟨w.heap.size + 1, 1, none⟩ = some (.slice (some ⟨g, 0, none⟩) l'.length c5) := (blk_cell HT5.out.out 1).trans rfl
        have pk : (0 : Int) ≤ (k : Int) := by omega
        have qk : (k : Int) < (l'.length : Int) := by omega
        have pi0 : (0 : Int) ≤ (i : Int) := by omega
        have HKL6 := aM hkl
        have pm0 : (0 : Int) ≤ (m2 : Int) := Int.natCast_nonneg m2
        have pm1 : (m2 : Int) < (nn : Int) := by have h1 := HNM.out; omega
        clear hisw hop hkl hlt5 hcnt hne hpso hsm hpk hps hm2 hmlt hy hopE hgE hpE hgB4
        have hb0 : ((nn : Int) == 0) = false := by rw [beq_eq_false_iff_ne]; have h1 := HNM.out; omega
        have hnm : (nn : Int) - 1 = (m2 : Int) := by have h1 := HNM.out; omega
        have pw : wrap64 (m2 : Int) = (m2 : Int) := by have h1 := HPL.out; have h2 := HPN.out; have h3 := HNM.out; clear hb0 hnm; exact w64 (by omega) (by omega)
        by_cases hyi : y.f0 = (i : Int)
        ·have hyb : (y.f0 != (i : Int)) = false := by rw [hyi]; exact bne_self_eq_false _
         rw [if_pos hyi] at HBU
         have HCN : Aside0 (cnt l' t (i : Int) = l'.set k ⟨t, ps.set m2 ⟨y.f0, wrap64 (y.f1 + 1)⟩⟩) := ⟨by rw [HCNT.out, HBU.out]⟩
         clear hyi
         go_upto_region 20 with (fail)
         go_region
         clear hb0 hyb pw hnm s0 s1 sf hq0 hq1 hqf cz1 pm1
         have hown : ∀ q, (Value.slice (some ad2) ws.length c2).ownBlock = some q → q < w5.heap.size := fun q hq => Kd.R_lt HO5.out q hq
         have hsh := Kd.S_mono (ok' := fun q => w.heap.size + 2 ≤ q ∧ some q ≠ (Value.slice (some ad2) ws.length c2).ownBlock) (Kd.S_drew HOPE.out.shut) (fun q hq => by
          rcases hq with h | h
          ·exact h
          ·have h1 := HT5.out.big
           exact ⟨by omega, fun e => by have := hown q e.symm; omega⟩)
         have hke : ∀ q, (Value.slice (some ad2) ws.length c2).ownBlock = some q → (w5.setCell ⟨g2, m2 * 2 + 1, none⟩ (.int .i64 (wrap64 (y.f1 + 1)))).heap[q]? = w5.heap[q]? := fun q hq => by
          have hlt := hown q hq
          have h1 := HGE.out.block q (Nat.lt_of_lt_of_le hlt (Nat.le_refl _)) (fun e => by
           injection e with e
           rcases HPE.out with h | h
           ·exact h.2 (by rw [← e]; exact hq.symm)
           ·omega)
          exact h1
         have hcn : l'.set k ⟨t, ps.set m2 ⟨y.f0, wrap64 (y.f1 + 1)⟩⟩ = cnt l' t (i : Int) := by rw [← HCN.out]
         rw [hcn] at hsh
         have HSH := aM hsh
         have HKE := aM hke
         clear hsh hke hcn hown
         go_wp2
         go_roundg (ws.length - (m + 1))
         case measure => have := HKM.out; have := HM.out; omega
         case rel =>
          refine ⟨m + 1, cnt l' t (i : Int), _, by first | go_num | (rw [w64 (by have := HM.out; have := HW100.out; omega) (by have := HM.out; have := HW100.out; omega)]; go_num), HM.out, rfl, ⟨?_⟩, ⟨HT5.out.swap (below_drew (Below.setCell (p := ⟨g2, m2 * 2 + 1, none⟩) (Below.refl _ _) HGB4.out (.int .i64 (wrap64 (y.f1 + 1))))) HSH.out⟩, ⟨keepW HO5.out (fun q hq _ _ => HKE.out q hq)⟩, ⟨?_⟩⟩
          ·rw [List.take_succ_eq_append_getElem HM.out, List.foldl_append, ← HL'.out, ← HTE.out]
           rfl
          ·exact Nat.le_trans HSZ5.out (Nat.le_trans (Nat.le_refl _) HGE.out.size)
        ·have hyb : (y.f0 != (i : Int)) = true := by rw [bne_iff_ne]; exact hyi
         rw [if_neg hyi] at HBU
         clear hyi HOPE HGE HPE HGB4
         go_upto_region 19 with (fail)
         clear hb0 hyb pw hnm s0 s1 sf pm0 pm1
         have hn0 : (0 : Int) ≤ (nn : Int) := by omega
         have hnl : (nn : Int) < (n1 : Int) := by have h1 := HN1.out; omega
         have hnm : (n1 : Int) - 1 = (nn : Int) := by have h1 := HN1.out; omega
         have pw : wrap64 (nn : Int) = (nn : Int) := by have h1 := HPL.out; have h2 := HPN.out; clear hnm hnl; exact w64 (by omega) (by omega)
         go_upto_region 20 with (((with_reducible refine gate_builtin (b := .append) (xs := #[.tmp 88, .tmp 91]) rfl ?_); at_builtin; go_loud (refine Kd.R_append k56 (w0 := w5) (W := w5) (w.heap.size + 2) rfl (.tmp 88) (.tmp 91) 52 56 (.agg #[.int .i64 0, .int .i64 0]) 16 rfl Try.underlying52 info56 rfl (by decide) (by omega) (.slice (some ⟨g2, 0, none⟩) nn cp) ps (⟨(i : Int), 0⟩ : Po) [.int .i64 (i : Int), .int .i64 0] OKI (fun _ => False) rfl rfl (k56_mkM _ _ _ _) (fun _ h => h.elim) HOP.out.new HOP.out.R (Below.refl _ _) (by have := HT5.out.big; omega) (by first | (simp; done) | (have := HPL.out; omega)) ?_; intro v4 w4 ho4 hb4 hg4 hat4; obtain ⟨A4, c4, e4⟩ := Kd.R_slice ho4; obtain ⟨ps1, hps1⟩ : ∃ ps1, ps1 = ps ++ [(⟨(i : Int), 0⟩ : Po)] := ⟨_, rfl⟩; rw [← hps1] at e4 ho4; have HPS1 := aM hps1; have hl1 : ps1.length = n1 := (by rw [hps1]; first | rfl | (rw [List.length_append, HPN.out, HN1.out]; rfl)); rw [hl1] at e4; have HL1 := aM hl1; subst e4; clear hl1 hps1; have HO4 := aM ho4; have HB4 := aM hb4; have HG4 := aM hg4; have HAT4 := aM hat4; clear ho4 hb4 hg4 hat4; have HH4 := aM (Kd.H_grown HOP.out.H HG4.out (fun q hq => HOP.out.R.1 q hq)); obtain ⟨hcl4, hfr4⟩ := H_cell2 HH4.out HKL6.out rfl 1 _ rfl)))
         obtain ⟨hop9, hsz9, hk9⟩ := HOP.out.grown HG4.out HO4.out rfl HAT4.out (Nat.le_refl _)
         have hB9 : Below (w.heap.size + 2) w5 (w4.setCell ⟨g, k * 2 + 1, none⟩ (.slice A4 n1 c4)) := Below.setCell (p := ⟨g, k * 2 + 1, none⟩) HB4.out hop9.hg.2.2 _
         obtain ⟨W9, hW9⟩ : ∃ W9, W9 = w4.setCell ⟨g, k * 2 + 1, none⟩ (.slice A4 n1 c4) := ⟨_, rfl⟩
         rw [← hW9] at hop9 hsz9 hk9 hB9 ⊢
         have HK9 := aM (⟨hsz9, hk9⟩ : _ ∧ _)
         have HB9 := aM hB9
         clear hW9 hsz9 hk9 hB9 hcl4 hfr4 hq0 hq1 hqf cz1
         obtain ⟨g4, c4', e4', _, _, _⟩ := Kd.R_form hop9.R (by rw [HL1.out]; first | exact Nat.one_pos | (rw [HN1.out]; exact Nat.succ_pos _))
         rw [HL1.out] at e4'
         injection e4' with e4a _ e4b
         subst e4a
         subst e4b
         obtain ⟨r0, r1, rf⟩ := hop9.cells
         obtain ⟨s0, s1, sf, hopE, hgE, hpE⟩ := Opn.putn HL1.out hop9 (m := nn) (by rw [HL1.out]; first | exact Nat.one_pos | (rw [HN1.out]; exact Nat.lt_succ_self _)) (1)
         have hgB4 := Kd.R_base hop9.R g4 (by simp [Value.ownBlock])
         have HGB4 := aM hgB4
         have hps : ps1[nn]'(by rw [HL1.out]; first | exact Nat.one_pos | (rw [HN1.out]; exact Nat.lt_succ_self _)) = (⟨(i : Int), 0⟩ : Po) := by simp only [HPS1.out]; rw [List.getElem_append_right (by rw [HPN.out]; exact Nat.le_refl _)]; simp [HPN.out]
         rw [hps] at s1 s0 hopE
         have HOPE := aM hopE
         have HGE := aM hgE
         have HPE := aM hpE
         have s1 : W9.cell? ⟨g4, nn * 2 + 1, none⟩ = some (.int .i64 0) := s1
         clear hps hopE hgE hpE hop9 hgB4 s0
         try simp only [Nat.zero_mul, Nat.zero_add] at s1 sf
         go_region
         try clear pw hnm hnl hn0
         have hown : ∀ q, (Value.slice (some ad2) ws.length c2).ownBlock = some q → q < w5.heap.size := fun q hq => Kd.R_lt HO5.out q hq
         have hsh := Kd.S_mono (ok' := fun q => w.heap.size + 2 ≤ q ∧ some q ≠ (Value.slice (some ad2) ws.length c2).ownBlock) (Kd.S_drew HOPE.out.shut) (fun q hq => by
          rcases hq with h | h
          ·exact h
          ·have h1 := HT5.out.big
           exact ⟨by omega, fun e => by have := hown q e.symm; omega⟩)
         have hke : ∀ q, (Value.slice (some ad2) ws.length c2).ownBlock = some q → (W9.setCell ⟨g4, nn * 2 + 1, none⟩ (.int .i64 (1))).heap[q]? = w5.heap[q]? := fun q hq => by
          have hlt := hown q hq
          have h1 := HGE.out.block q (Nat.lt_of_lt_of_le hlt HK9.out.1) (fun e => by
           injection e with e
           rcases HPE.out with h | h
           ·exact h.2 (by rw [← e]; exact hq.symm)
           ·omega)
          exact h1.trans (HK9.out.2 q hlt (fun h => by rcases h with h | h; exact h.2 hq.symm; omega))
         have hcn : l'.set k ⟨t, ps1.set (nn) ⟨(i : Int), 1⟩⟩ = cnt l' t (i : Int) := by rw [HCNT.out, HBU.out, HPS1.out, List.set_append_right _ _ (by rw [HPN.out]; exact Nat.le_refl _), HPN.out, Nat.sub_self]; rfl
         rw [hcn] at hsh
         have HSH := aM hsh
         have HKE := aM hke
         clear hsh hke hcn hown
         go_wp2
         go_roundg (ws.length - (m + 1))
         case measure => have := HKM.out; have := HM.out; omega
         case rel =>
          refine ⟨m + 1, cnt l' t (i : Int), _, by first | go_num | (rw [w64 (by have := HM.out; have := HW100.out; omega) (by have := HM.out; have := HW100.out; omega)]; go_num), HM.out, rfl, ⟨?_⟩, ⟨HT5.out.swap (below_drew (Below.setCell (p := ⟨g4, nn * 2 + 1, none⟩) HB9.out HGB4.out (.int .i64 (1)))) HSH.out⟩, ⟨keepW HO5.out (fun q hq _ _ => HKE.out q hq)⟩, ⟨?_⟩⟩
          ·rw [List.take_succ_eq_append_getElem HM.out, List.foldl_append, ← HL'.out, ← HTE.out]
           rfl
          ·exact Nat.le_trans HSZ5.out (Nat.le_trans HK9.out.1 HGE.out.size)
      ·obtain rfl : m = ws.length := by omega
       have HL2 : Aside0 (l' = idxTo ts (i + 1)) := ⟨by
        rw [HL'.out, List.take_length]
        show _ = (wordsOf (ts.getD i ByteArray.empty)).foldl (fun l t => cnt l t (i : Int)) (idxTo ts i)
        rw [List.getD_eq_getElem?_getD, List.getElem?_eq_getElem HI.out, HWS.out, HXE.out, HL.out]
        rfl⟩
       clear hm hkm hlm
       go_wp2
       go_roundg (ts.length - (i + 1))
       case measure => have := HI.out; omega
       case rel =>
        refine ⟨i + 1, l', v', by first | go_num | (rw [w64 (by have := H40.out; have := HI.out; omega) (by have := H40.out; have := HI.out; omega)]; go_num), HI.out, rfl, HL2, ⟨fun j hj hji => ?_⟩, ⟨HT'.out.mono (fun q hq => hq.1)⟩⟩
        by_cases e : j = i
        ·subst e
         rw [← HXE.out]
         exact H2X.out
        ·exact H200.out j hj (by omega)
    ·have EW := aM (show impl_WordsIn.f x = some ([], false) from if_pos (by omega))
     have HBAD := aM (ans_bad (ts := ts) (fun h => h2 (by rw [HXE.out]; exact h.2.1 _ (List.getElem_mem _))))
     clear h2
     go_wp2_with (first | (go_at_call 39; go_loud ((with_reducible refine (impl_WordsIn.calls x [] false _ EW.out).mono ?_); rintro e w2 ⟨v2, rfl, ho, hb⟩; obtain ⟨A2, c2, e2⟩ := Kd.R_slice ho; subst e2; have HT2 := aM (HT.out.step hb); have cr0 : w2.cell? ⟨w.heap.size, 0, none⟩ = some (.int .i64 0) := (blk_cell HT2.out.res 0).trans rfl; have cr1 : w2.cell? ⟨w.heap.size, 1, none⟩ = some (.slice none 0 0) := (blk_cell HT2.out.res 1).trans rfl; have fr0 : w2.frozen? ⟨w.heap.size, 0, none⟩ = false := blk_frozen HT2.out.res 0; have fr1 : w2.frozen? ⟨w.heap.size, 1, none⟩ = false := blk_frozen HT2.out.res 1; clear ho hb)))
     refine bodyPost_ret (results_ct rfl _ _ w.heap.size 33 #[.int .i64 0, .slice none 0 0] (0, 0) _ rfl (blk_put (blk_put HT2.out.res 0 _ rfl) 1 _ rfl) Try.underlying33 rfl (by kernel_rfl)) rfl ?_
     rw [HBAD.out]
     exact ⟨_, rfl, Kd.S_nil _ _ _ _ _, (HT2.out.below.setCell (p := ⟨w.heap.size, 0, none⟩) (Nat.le_refl _) _).setCell (p := ⟨w.heap.size, 1, none⟩) (Nat.le_refl _) _⟩
   ·obtain rfl : i = ts.length := by omega
    have H2A := aM (show ∀ s ∈ ts, s.size ≤ 200 from fun s hs => by obtain ⟨j, hj, rfl⟩ := List.getElem_of_mem hs; exact H200.out j hj hj)
    obtain ⟨A1, c1, e1⟩ := Kd.S_slice HT.out.S
    subst e1
    obtain ⟨n1, hn1⟩ : ∃ n1, n1 = l.length := ⟨_, rfl⟩
    rw [← hn1] at HT
    have HN1 := aM hn1
    have co0 : wr.cell? ⟨w.heap.size + 1, 0, none⟩ = some (.int .i64 (ts.length : Int)) := (blk_cell HT.out.out 0).trans rfl
    have co1 : wr.cell? ⟨w.heap.size + 1, 1, none⟩ = some (.slice A1 n1 c1) := (blk_cell HT.out.out 1).trans rfl
    have cr0 : wr.cell? ⟨w.heap.size, 0, none⟩ = some (.int .i64 0) := (blk_cell HT.out.res 0).trans rfl
    have cr1 : wr.cell? ⟨w.heap.size, 1, none⟩ = some (.slice none 0 0) := (blk_cell HT.out.res 1).trans rfl
    have fr0 : wr.frozen? ⟨w.heap.size, 0, none⟩ = false := blk_frozen HT.out.res 0
    have fr1 : wr.frozen? ⟨w.heap.size, 1, none⟩ = false := blk_frozen HT.out.res 1
    clear hlt hi hk hn1
    by_cases hbig : n1 ≤ 200
    ·have hg2 : decide ((n1 : Int) > 200) = false := decide_eq_false (by omega)
     have HANS : Aside0 (ansIdx ts = ((ts.length : Int), l, true)) := ⟨by unfold ansIdx; rw [if_pos ⟨H40.out, H2A.out, by rw [← HL.out, ← HN1.out]; exact hbig⟩, HL.out]⟩
     clear hbig
     go_wp2
     refine bodyPost_ret (results_ct rfl _ _ w.heap.size 33 #[.int .i64 (ts.length : Int), .slice A1 n1 c1] (0, 0) _ rfl (blk_put (blk_put HT.out.res 0 _ rfl) 1 _ rfl) Try.underlying33 rfl (by kernel_rfl)) rfl ?_
     rw [HANS.out]
     have h1 := Kd.S_far HT.out.S (p := ⟨w.heap.size, 0, none⟩) (fun k hk e => by have e : k = w.heap.size := e; omega) (.int .i64 (ts.length : Int))
     have h2 := Kd.S_far h1 (p := ⟨w.heap.size, 1, none⟩) (fun k hk e => by have e : k = w.heap.size := e; omega) (.slice A1 n1 c1)
     exact ⟨_, rfl, Kd.S_mono (Kd.S_lower h2 (by omega)) (fun _ _ => trivial), (HT.out.below.setCell (p := ⟨w.heap.size, 0, none⟩) (Nat.le_refl _) _).setCell (p := ⟨w.heap.size, 1, none⟩) (Nat.le_refl _) _⟩
    ·have hg2 : decide ((n1 : Int) > 200) = true := decide_eq_true (by omega)
     have HBAD := aM (ans_bad (ts := ts) (fun h => hbig (by rw [HN1.out, HL.out]; exact h.2.2)))
     clear hbig
     go_wp2
     refine bodyPost_ret (results_ct rfl _ _ w.heap.size 33 #[.int .i64 0, .slice none 0 0] (0, 0) _ rfl (blk_put (blk_put HT.out.res 0 _ rfl) 1 _ rfl) Try.underlying33 rfl (by kernel_rfl)) rfl ?_
     rw [HBAD.out]
     exact ⟨_, rfl, Kd.S_nil _ _ _ _ _, (HT.out.below.setCell (p := ⟨w.heap.size, 0, none⟩) (Nat.le_refl _) _).setCell (p := ⟨w.heap.size, 1, none⟩) (Nat.le_refl _) _⟩
 ·have hgt : decide ((ts.length : Int) > 40) = true := decide_eq_true (by omega)
  rw [ans_bad (fun h => h40 h.1)]
  clear hr hc hs h40
  go_enter Try.func33, Try.ntmps33
  go_wp2
  refine bodyPost_ret (results_ct rfl _ _ w.heap.size 33 #[.int .i64 0, .slice none 0 0] (0, 0) _ rfl (by show (w.heap.push _)[w.heap.size]? = _; simp) Try.underlying33 rfl (by kernel_rfl)) rfl ?_
  exact ⟨_, rfl, Kd.S_nil _ _ _ _ _, below_alloc (Below.refl _ _) _⟩
end Go.Proofs.Ytaomjndfjmfelaa.IdR
end

section
namespace Go.Proofs.Ytaomjndfjmfelaa.IdS
set_option linter.unusedVariables false
set_option linter.unusedSimpArgs false
open Go.RowKit Go.Proofs.Ytaomjndfjmfelaa.PQ Go.Proofs.YtaomjndfjmfelaaW.PrintWords Go.Proofs.YtaomjndfjmfelaaW.PrintLast Go.Proofs.YtaomjndfjmfelaaW.PrintMore Go.Proofs.Ytaomjndfjmfelaa.Pre Go.Proofs.Ytaomjndfjmfelaa.EntW Go.Proofs.Ytaomjndfjmfelaa.Posts Go.Proofs.Ytaomjndfjmfelaa.GoodW Go.Proofs.Ytaomjndfjmfelaa.CmpL Go.Proofs.Ytaomjndfjmfelaa.Cou Go.Proofs.Ytaomjndfjmfelaa.Idx Go.Proofs.Ytaomjndfjmfelaa.WordsW Go.Proofs.Ytaomjndfjmfelaa.IdR
theorem rd_str (l : List ByteArray) (i : Nat) (h : i < l.length) : rdOf ByteArray.empty l (i : Int) = l[i] := by
 unfold rdOf
 simp [h]
theorem word_size {x : ByteArray} (h : isW x = true) : x.size ≤ 20 := by
 unfold isW at h
 rw [Bool.and_eq_true, decide_eq_true_eq] at h
 exact h.1.2
theorem inv_sm {i : Int} {l : List En} (h : Inv i l) (h0 : -1 ≤ i) (h1 : i ≤ 1000) (hl : l.length ≤ 1000000) : Small l := ⟨by omega, fun e he => ⟨by have := word_size (h.each e he).1; omega, by have := inv_small h h0 e he; omega⟩⟩
theorem count_ev {i : Int} {l : List En} (h : Inv i l) (h0 : -1 ≤ i) (h1 : i ≤ 1000) (hl : l.length ≤ 1000000) (t : ByteArray) : spec_l10Count.f l t i = some (cnt l t i) := by
 unfold spec_l10Count.f
 rw [if_pos]
 refine ⟨by omega, fun e he => ⟨List.length_pos_iff.2 (h.each e he).2.1, ?_⟩⟩
 have := inv_small h h0 e he
 omega
theorem ts_get (ts : List ByteArray) (i : Nat) (h : i < ts.length) : ts.getD i ByteArray.empty = ts[i] := by
 rw [List.getD_eq_getElem?_getD, List.getElem?_eq_getElem h]
 rfl
theorem specIdx_ev (ts : List ByteArray) (hl : ts.length ≤ 1048576) (hs : ∀ s ∈ ts, s.size ≤ 1048576) : Evt (fun k => spec_IndexOf.f k ts) (ansIdx ts) := by
 unfold spec_IndexOf.f
 by_cases h40 : ts.length ≤ 40
 ·refine Evt.neg (by omega) ?_
  have key : ∀ (m i : Nat), i + m = ts.length → (∀ j, ∀ h : j < ts.length, j < i → ts[j].size ≤ 200) → Evt (fun k => spec_IndexOf.l0 k ts (ts.length : Int) (i : Int) (ts.length : Int) (idxTo ts i)) (ansIdx ts) := by
   intro m
   induction m with
   | zero =>
    intro i hi h200
    obtain rfl : i = ts.length := by omega
    have hA : ∀ s ∈ ts, s.size ≤ 200 := fun s hs => by
     obtain ⟨j, hj, rfl⟩ := List.getElem_of_mem hs
     exact h200 j hj hj
    obtain ⟨h1, h2⟩ := idx_inv ts (fun s hs => ⟨words_100 s (hA s hs), words_are s⟩) ts.length (Nat.le_refl _)
    have h3 := idxTo_len ts (fun s hs => words_100 s (hA s hs)) ts.length (Nat.le_refl _)
    have hsm := inv_sm h1 (by omega) (by omega) (by omega)
    refine Evt.step (fun k => spec_IndexOf.l0.eq_2 _ _ _ _ _ k) (Evt.neg (by omega) (Evt.bind (GoodW.spec_ev _ _ hsm) ?_))
    by_cases hb : (idxTo ts ts.length).length ≤ 200
    ·rw [good_of h1 (by omega) hb]
     refine Evt.pos rfl ((Evt.const _).eq ?_)
     unfold ansIdx
     rw [if_pos ⟨h40, hA, hb⟩]
    ·have hg : goodW (ts.length : Int) (idxTo ts ts.length) = false := by
      unfold goodW
      rw [decide_eq_false hb, Bool.and_false, Bool.false_and]
     rw [hg]
     refine Evt.neg (by simp) ((Evt.const _).eq ?_)
     rw [ans_bad (fun h => hb h.2.2)]
   | succ m ih =>
    intro i hi h200
    have hlt : i < ts.length := by omega
    refine Evt.step (fun k => spec_IndexOf.l0.eq_2 _ _ _ _ _ k) (Evt.pos (by omega) (Evt.pos (by omega) (Evt.pos (by omega) ?_)))
    rw [rd_str ts i hlt]
    by_cases hx : ts[i].size ≤ 200
    ·refine Evt.neg (by omega) (Evt.bind (spec_words ts[i] (by omega)) ?_)
     have hn := ih (i + 1) (by omega) (fun j hj hji => by
      by_cases e : j = i
      ·subst e
       exact hx
      ·exact h200 j hj (by omega))
     have hw100 := words_100 ts[i] hx
     have tk : ∀ (n j : Nat), j + n = (wordsOf ts[i]).length → Evt (fun k => spec_IndexOf.l1 k (i : Int) ts (ts.length : Int) (i : Int) (wordsOf ts[i]) ((wordsOf ts[i]).length : Int) (j : Int) (ts.length : Int) (((wordsOf ts[i]).take j).foldl (fun l t => cnt l t (i : Int)) (idxTo ts i))) (ansIdx ts) := by
      intro n
      induction n with
      | zero =>
       intro j hj
       refine Evt.step (fun k => spec_IndexOf.l1.eq_2 _ _ _ _ _ _ _ _ _ k) (Evt.neg (by omega) ?_)
       rw [w64 (n := (i : Int) + 1) (by omega) (by omega), show (i : Int) + 1 = ((i + 1 : Nat) : Int) by omega, List.take_of_length_le (by omega)]
       have e : (wordsOf ts[i]).foldl (fun l t => cnt l t (i : Int)) (idxTo ts i) = idxTo ts (i + 1) := by
        show _ = (wordsOf (ts.getD i ByteArray.empty)).foldl (fun l t => cnt l t (i : Int)) (idxTo ts i)
        rw [ts_get ts i hlt]
       rw [e]
       exact hn
      | succ n ih2 =>
       intro j hj
       have hjl : j < (wordsOf ts[i]).length := by omega
       obtain ⟨hinv, hlen⟩ := inv_at ts i j hlt h200 hx
       refine Evt.step (fun k => spec_IndexOf.l1.eq_2 _ _ _ _ _ _ _ _ _ k) (Evt.pos (by omega) (Evt.pos (by omega) (Evt.pos (by omega) ?_)))
       rw [rd_str _ j hjl, count_ev hinv (by omega) (by omega) (by omega)]
       refine Evt.bsome ?_
       have h := ih2 (j + 1) (by omega)
       rw [List.take_succ_eq_append_getElem hjl, List.foldl_append] at h
       rw [w64 (n := (j : Int) + 1) (by omega) (by omega)]
       exact h
     exact tk (wordsOf ts[i]).length 0 (by omega)
    ·refine Evt.pos (by omega) ((Evt.const _).eq ?_)
     rw [ans_bad (fun h => hx (h.2.1 _ (List.getElem_mem hlt)))]
  exact key ts.length 0 (by omega) (fun j _ h => by omega)
 ·refine Evt.pos (by omega) ((Evt.const _).eq ?_)
  rw [ans_bad (fun h => h40 h.1)]
/-- What is answered is small. -/
theorem ans_small (ts : List ByteArray) : Small (ansIdx ts).2.1 ∧ (ansIdx ts).2.1.length ≤ 200 ∧ ∀ e ∈ (ansIdx ts).2.1, e.f1.length ≤ 1000 := by
 unfold ansIdx
 by_cases h : ts.length ≤ 40 ∧ (∀ s ∈ ts, s.size ≤ 200) ∧ (idxTo ts ts.length).length ≤ 200
 ·rw [if_pos h]
  obtain ⟨h1, h2⟩ := idx_inv ts (fun s hs => ⟨words_100 s (h.2.1 s hs), words_are s⟩) ts.length (Nat.le_refl _)
  exact ⟨inv_sm h1 (by omega) (by omega) (Nat.le_trans h.2.2 (by decide)), h.2.2, fun e he => by have := inv_small h1 (by omega) e he; omega⟩
 ·rw [if_neg h]
  exact ⟨⟨by simp, fun e he => by cases he⟩, by simp, fun e he => by cases he⟩
end Go.Proofs.Ytaomjndfjmfelaa.IdS
end

section
namespace Go.Proofs.Ytaomjndfjmfelaa.LwIx
set_option linter.unusedVariables false
set_option linter.unusedSimpArgs false
open Go.RowKit Go.Proofs.Ytaomjndfjmfelaa.PQ Go.Proofs.YtaomjndfjmfelaaW.PrintWords Go.Proofs.YtaomjndfjmfelaaW.PrintLast Go.Proofs.YtaomjndfjmfelaaW.PrintMore Go.Proofs.Ytaomjndfjmfelaa.Pre Go.Proofs.Ytaomjndfjmfelaa.Posts Go.Proofs.Ytaomjndfjmfelaa.GoodW Go.Proofs.Ytaomjndfjmfelaa.EntT Go.Proofs.Ytaomjndfjmfelaa.PostW Go.Proofs.Ytaomjndfjmfelaa.Shp Go.Proofs.Ytaomjndfjmfelaa.LwK Go.Proofs.Ytaomjndfjmfelaa.Idx
theorem S_in {α : Type} {d : Kd α} {e : Nat} {W : World} {base : Nat} {v : Value} {xs : List α} (h : Kd.S d e W base (fun _ => True) v xs) : Kd.S d e W base (fun k => base ≤ k ∧ k < W.heap.size) v xs := Kd.S_mono (Kd.S_bound h) (fun k hk => ⟨hk.2.1, hk.2.2.1⟩)
theorem reads_q {W : World} {base : Nat} {ok : Nat → Prop} {Ag : Option Addr} {n cg : Nat} {q : List (S102)} (h : Kd.S k102 102 W base ok (.slice Ag n cg) q) : n = q.length ∧ Kd.C k102 W Ag q.length q := ⟨(Kd.S_reads' h).1, (Kd.S_reads' h).2.2⟩
theorem row1 {W : World} {base : Nat} {ok : Nat → Prop} {v : Value} {xs : List ByteArray} (h : Kd.string.R 9 W base ok v xs) : Row W 9 xs.length 1 v := Row.of_R h
set_option maxRecDepth 100000 in
set_option maxHeartbeats 8000000 in
theorem calls (A : Option Addr) (c : Nat) (ts : List ByteArray) (w : World) (hr : Kd.C Kd.string w A ts.length ts) (hc : ts.length ≤ c) (hw : ts.length ≤ 9223372036854775807 ∧ ∀ s ∈ ts, s.size ≤ 9223372036854775807) :
  Calls Try.prog 6 #[.slice A ts.length c] w fun e w' => e = .returned (.bool true) ∧ Below w.heap.size w w' := by
 have HR := aM hr
 have HC := aM hc
 obtain ⟨r, hev, hsm⟩ := MkS.szS_ev ts hw.1 hw.2 1048576 (by omega) (by omega)
 obtain ⟨k0, hk0⟩ := hev.ex
 have E0 := aM hk0
 by_cases hneg : r < 0
 ·have hnb : decide (r < 0) = true := decide_eq_true hneg
  clear hr hc hw hsm hk0 hev
  go_enter Try.func6, Try.ntmps6
  go_wp2_with (first | (go_at_call 16; go_loud ((with_reducible refine (laws_szStringS.calls k0 A c ts 1048576 r _ HR.out HC.out E0.out).mono ?_); rintro e w1 ⟨rfl, hd⟩; have HA1 := aM hd.below; clear hd)))
  go_ret
  exact ⟨rfl, HA1.out⟩
 ·have hnb : decide (r < 0) = false := decide_eq_false hneg
  have hs := hsm (by omega)
  obtain ⟨k1, hk1⟩ := (MkS.toS_ev ts hs.1).ex
  obtain ⟨k2, hk2⟩ := (IdS.specIdx_ev ts hs.1 hs.2).ex
  obtain ⟨hsl, hpl, hpx⟩ := IdS.ans_small ts
  obtain ⟨x, l, b, hp⟩ : ∃ x l b, ansIdx ts = (x, l, b) := ⟨_, _, _, rfl⟩
  have EP := aM hp
  rw [hp] at hk2 hsl hpl hpx
  obtain ⟨k3, hk3⟩ := (EntT.eq_ev x l hsl).ex
  obtain ⟨k4, hk4⟩ := (Strs.eq_self ts hs.1).ex
  obtain ⟨k6, hk6⟩ := (MkX.heldW_ev x l 1 (Nat.le_trans hpl (by decide)) hpx (by decide)).ex
  obtain ⟨q, hq⟩ : ∃ q, q = MkX.mkE 1 l := ⟨_, rfl⟩
  have hql : q.length = l.length := by rw [hq, MkX.mkE_len]
  obtain ⟨z, hz⟩ : ∃ z : Int, z = ((1 + MkX.tot l : Nat) : Int) := ⟨_, rfl⟩
  rw [← hq, ← hz, show ((1 : Nat) : Int) = 1 from rfl] at hk6
  have E1 := aM hk1
  have E2 := aM (show spec_IndexOf.f k2 ts = some (x, l, b) from hk2)
  have E3 := aM hk3
  have E4 := aM hk4
  have E5 := aM hz.symm
  have EQQ := aM hq.symm
  have E6 := aM hk6
  have EPL : Aside0 (l.length ≤ 1000) := ⟨Nat.le_trans hpl (by decide)⟩
  have EPX : Aside0 (∀ e ∈ l, e.f1.length ≤ 1000) := ⟨hpx⟩
  have ETL := aM hs.1
  have ESZ := aM hs.2
  have EQ := aM hql
  have hzb : decide (z < 0) = false := decide_eq_false (by omega)
  clear hr hc hw hsm hk0 hev hneg hs hsl hpl hpx hp hk1 hk2 hk3 hk4 hk6 hq hql hz
  go_enter Try.func6, Try.ntmps6
  go_upto_region 6 with (first | (go_at_call 16; go_loud ((with_reducible refine (laws_szStringS.calls k0 A c ts 1048576 r _ HR.out HC.out E0.out).mono ?_); rintro e w1 ⟨rfl, hd⟩; have HA1 := aM hd.below; clear hd)) | (go_at_call 19; go_loud ((with_reducible refine (laws_toStringS.calls k1 A c ts ts _ (Kd.C_below HR.out HA1.out) HC.out E1.out).mono ?_); rintro e w2 ⟨v2, rfl, ho, hb⟩; have HA2 := aM (below_step HA1.out hb); obtain ⟨A2, c2, rfl, hd2, hD2⟩ := Kd.R_reads ho; have HD2 := aM hD2; have HE2 := aM hd2; clear ho hb hD2 hd2)) | (go_at_call 32; go_loud ((with_reducible refine (spec_IndexOf.calls k2 A2 c2 ts x l b _ HD2.out HE2.out E2.out).mono ?_); rintro e w3 ⟨v3, rfl, ho, hb⟩; have HA3 := aM (below_step HA2.out hb); obtain ⟨As, cs, rfl, hls, hCs⟩ := Kd.S_reads ho; have HCS := aM hCs; have HLS := aM hls; clear ho hb hCs hls)))
  obtain ⟨W4, hW4⟩ : ∃ W4, W4 = w3.alloc (.cells #[.int .i64 x, .slice As l.length cs] 33) := ⟨_, rfl⟩
  rw [← hW4]
  have HB4 : Aside0 (W4.heap[w3.heap.size]? = some (.cells #[.int .i64 x, .slice As l.length cs] 33 (0, 0))) := ⟨by rw [hW4]; exact blk_new w3 _⟩
  have HA34 : Aside0 (Below w3.heap.size w3 W4) := ⟨by rw [hW4]; exact below_alloc (Below.refl _ _) _⟩
  have HZ34 := aM HA34.out.size
  have HA4 := aM (below_step HA3.out HA34.out)
  clear hW4
  go_upto_region 8 with (first | (go_at_call 19; go_loud ((with_reducible refine (laws_toStringS.calls k1 A c ts ts _ (Kd.C_below HR.out HA4.out) HC.out E1.out).mono ?_); rintro e w5 ⟨v5, rfl, ho, hb⟩; have HA5 := aM (below_step HA4.out hb); have HS5 := aM hb; obtain ⟨A5, c5, rfl, hd5, hD5⟩ := Kd.R_reads ho; have HE5 := aM hd5; have HX5 := aM (R_in ho); clear ho hb hD5 hd5)) | (go_at_call 33; go_loud (have hcal := IdR.indexOf_calls A5 c5 ts w5 (Kd.R_reads' HX5.out).2.2 HE5.out ESZ.out; rw [EP.out] at hcal; (with_reducible refine (hcal).mono ?_); rintro e w6 ⟨vg, rfl, ho, hb⟩; have HG6 := aM (S_in ho); have HA6 := aM (below_step HA5.out hb); have HS6 := aM (below_step HS5.out hb); have HX6 := aM (Kd.R_below HX5.out hb); obtain ⟨Ag, cg, rfl, hlg, hCg⟩ := Kd.S_reads ho; have HLG := aM hlg; have HZ56 := aM hb.size; clear ho hb hCg hlg hcal)))
  obtain ⟨W7, hW7⟩ : ∃ W7, W7 = w6.alloc (.cells #[.int .i64 x, .slice Ag l.length cg] 33) := ⟨_, rfl⟩
  rw [← hW7]
  have H77 : Aside0 (W7.heap[w6.heap.size]? = some (.cells #[.int .i64 x, .slice Ag l.length cg] 33 (0, 0))) := ⟨by rw [hW7]; exact blk_new w6 _⟩
  have HA67 : Aside0 (Below w6.heap.size w6 W7) := ⟨by rw [hW7]; exact below_alloc (Below.refl _ _) _⟩
  have HA7 := aM (below_step HA6.out HA67.out)
  have HS7 := aM (below_step HS6.out HA67.out)
  have HX7 := aM (Kd.R_below HX6.out HA67.out)
  have HG7 := aM (Kd.S_below HG6.out HA67.out)
  clear hW7
  have c40 : W7.cell? ⟨w3.heap.size, 0, none⟩ = some (.int .i64 x) := (blk_cell (blk_below HB4.out HS7.out) 0).trans rfl
  have c41 : W7.cell? ⟨w3.heap.size, 1, none⟩ = some (.slice As l.length cs) := (blk_cell (blk_below HB4.out HS7.out) 1).trans rfl
  have c70 : W7.cell? ⟨w6.heap.size, 0, none⟩ = some (.int .i64 x) := (blk_cell H77.out 0).trans rfl
  have c71 : W7.cell? ⟨w6.heap.size, 1, none⟩ = some (.slice Ag l.length cg) := (blk_cell H77.out 1).trans rfl
  go_upto_region 10 with (first | (go_at_call 22; go_loud ((with_reducible refine (laws_eqWords.calls k3 x Ag cg l x As cs l true _ (Kd.S_reads' HG7.out).2.2 HLG.out (Kd.C_below HCS.out (below_then HA34.out HZ34.out HS7.out)) HLS.out E3.out).mono ?_); rintro e w8 ⟨rfl, hb⟩; have HA8 := aM (below_step HA7.out hb); have HS8 := aM (below_step HS7.out hb); have HX8 := aM (Kd.R_below HX7.out hb); have HG8 := aM (Kd.S_below HG7.out hb); have H78 := aM (blk_below H77.out hb); clear hb)))
  clear c40 c41 c70 c71
  go_upto_region 14 with (first | (go_at_call 19; go_loud ((with_reducible refine (laws_toStringS.calls k1 A c ts ts _ (Kd.C_below HR.out HA8.out) HC.out E1.out).mono ?_); rintro e w9 ⟨v9, rfl, ho, hb⟩; have HA9 := aM (below_step HA8.out hb); have HS9 := aM (below_step HS8.out hb); have HX9 := aM (Kd.R_below HX8.out hb); have HG9 := aM (Kd.S_below HG8.out hb); have H79 := aM (blk_below H78.out hb); obtain ⟨A9, c9, rfl, hd9, hD9⟩ := Kd.R_reads ho; have HD9 := aM hD9; have HE9 := aM hd9; clear ho hb hD9 hd9)) | (go_at_call 23; go_loud ((with_reducible refine (laws_eqStringS.calls k4 A5 c5 ts A9 c9 ts true _ (Kd.R_reads' HX9.out).2.2 HE5.out HD9.out HE9.out E4.out).mono ?_); rintro e w10 ⟨rfl, hd⟩; have HA10 := aM (below_step HA9.out hd.below); have HS10 := aM (below_step HS9.out hd.below); have HX10 := aM (Kd.R_below HX9.out hd.below); have HG10 := aM (Kd.S_below HG9.out hd.below); have H710 := aM (blk_below H79.out hd.below); clear hd)) | (go_at_call 25; go_loud (have hcal := MkS.mkS_calls (.slice A5 ts.length c5) ts.length 1 w10 (row1 HX10.out) ETL.out (by decide); rw [show ((1 : Nat) : Int) = 1 from rfl] at hcal; (with_reducible refine (hcal).mono ?_); rintro e w11 ⟨⟨r11, hr0, rfl⟩, hm⟩; have HA11 := aM (hm.under HA10.out (below_size HA10.out) (fun k hk => Nat.le_trans (below_size HA4.out) (HX10.out.1 k hk.symm).1)); have HS11 := aM (hm.under HS10.out (below_size HS10.out) (fun k hk => (HX10.out.1 k hk.symm).1)); have HG11 := aM (Kd.S_kept HG10.out hm.2.1 (fun k hk hs => Nat.lt_irrefl _ (Nat.lt_of_lt_of_le (HX10.out.1 k hs.symm).2 hk.1))); have H711 := aM (blk_kept H710.out hm.2.1 (fun hs => Nat.lt_irrefl _ (Nat.lt_of_lt_of_le (HX10.out.1 _ hs.symm).2 HZ56.out))); have hr11b : decide (r11 < 0) = false := decide_eq_false (by omega); clear hm hr0 hcal)))
  have c40 : w11.cell? ⟨w3.heap.size, 0, none⟩ = some (.int .i64 x) := (blk_cell (blk_below HB4.out HS11.out) 0).trans rfl
  have c41 : w11.cell? ⟨w3.heap.size, 1, none⟩ = some (.slice As l.length cs) := (blk_cell (blk_below HB4.out HS11.out) 1).trans rfl
  have c70 : w11.cell? ⟨w6.heap.size, 0, none⟩ = some (.int .i64 x) := (blk_cell H711.out 0).trans rfl
  have c71 : w11.cell? ⟨w6.heap.size, 1, none⟩ = some (.slice Ag l.length cg) := (blk_cell H711.out 1).trans rfl
  go_upto_region 17 with (first | (go_at_call 22; go_loud ((with_reducible refine (laws_eqWords.calls k3 x Ag cg l x As cs l true _ (Kd.S_reads' HG11.out).2.2 HLG.out (Kd.C_below HCS.out (below_then HA34.out HZ34.out HS11.out)) HLS.out E3.out).mono ?_); rintro e w12 ⟨rfl, hb⟩; have HA12 := aM (below_step HA11.out hb); have HS12 := aM (below_step HS11.out hb); have HG12 := aM (Kd.S_below HG11.out hb); have H712 := aM (blk_below H711.out hb); clear hb)))
  clear c40 c41 c70 c71
  have c70 : w12.cell? ⟨w6.heap.size, 0, none⟩ = some (.int .i64 x) := (blk_cell H712.out 0).trans rfl
  have c71 : w12.cell? ⟨w6.heap.size, 1, none⟩ = some (.slice Ag l.length cg) := (blk_cell H712.out 1).trans rfl
  go_upto_region 19 with (first | (go_at_call 24; go_loud (have hcal := MkX.mkW_calls w (fun k => w5.heap.size ≤ k ∧ k < w6.heap.size) x (.slice Ag l.length cg) l 1 w12 HA12.out (Kd.S_lower HG12.out (below_size HA5.out)) EPL.out EPX.out (by decide); rw [show ((1 : Nat) : Int) = 1 from rfl, E5.out, EQQ.out] at hcal; (with_reducible refine (hcal).mono ?_); rintro e w13 ⟨rfl, hy, hb, hkp⟩; have HA13 := aM (under2 HA12.out (below_size HA12.out) hkp HA12.out hb (fun k hk => Nat.le_trans (below_size HA5.out) hk.1)); have HS13 := aM (under2 HS12.out (below_size HS12.out) hkp HA12.out hb (fun k hk => Nat.le_trans (below_size HS5.out) hk.1)); have H713 := aM (blk_kept H712.out hkp (fun hs => Nat.lt_irrefl _ hs.2)); have HM13 := aM (Kd.S_mono (ok' := fun _ => True) hy (fun _ _ => trivial)); clear hy hb hkp hcal)))
  clear c70 c71
  have c70 : w13.cell? ⟨w6.heap.size, 0, none⟩ = some (.int .i64 x) := (blk_cell H713.out 0).trans rfl
  have c71 : w13.cell? ⟨w6.heap.size, 1, none⟩ = some (.slice Ag l.length cg) := (blk_cell H713.out 1).trans rfl
  go_upto_region 24 with (first | (go_at_call 34; go_loud (have hcal := laws_heldWords.calls k6 x Ag cg q 1 z w13 (reads_q HM13.out).2 (by rw [EQ.out]; exact HLG.out) E6.out; rw [EQ.out] at hcal; (with_reducible refine (hcal).mono ?_); rintro e w14 ⟨rfl, hb⟩; have HA14 := aM (below_step HA13.out hb); have HS14 := aM (below_step HS13.out hb); have H714 := aM (blk_below H713.out hb); have HM14 := aM (Kd.S_below HM13.out hb); clear hb hcal)))
  clear c70 c71
  go_upto_region 25 with (first | (go_at_call 19; go_loud ((with_reducible refine (laws_toStringS.calls k1 A c ts ts _ (Kd.C_below HR.out HA14.out) HC.out E1.out).mono ?_); rintro e w15 ⟨v15, rfl, ho, hb⟩; have HA15 := aM (below_step HA14.out hb); have HS15 := aM (below_step HS14.out hb); have H715 := aM (blk_below H714.out hb); have HM15 := aM (Kd.S_below HM14.out hb); obtain ⟨A15, c15, rfl, hd15, hD15⟩ := Kd.R_reads ho; have HD15 := aM hD15; have HE15 := aM hd15; clear ho hb hD15 hd15)) | (go_at_call 33; go_loud (have hcal := IdR.indexOf_calls A15 c15 ts w15 HD15.out HE15.out ESZ.out; rw [EP.out] at hcal; (with_reducible refine (hcal).mono ?_); rintro e w16 ⟨vh, rfl, ho, hb⟩; have HA16 := aM (below_step HA15.out hb); have HS16 := aM (below_step HS15.out hb); have H716 := aM (blk_below H715.out hb); have HM16 := aM (Kd.S_below HM15.out hb); obtain ⟨Ah, ch, rfl, hlh, hCh⟩ := Kd.S_reads ho; have HCH := aM hCh; have HLH := aM hlh; clear ho hb hCh hlh hcal)))
  obtain ⟨W17, hW17⟩ : ∃ W17, W17 = w16.alloc (.cells #[.int .i64 x, .slice Ah l.length ch] 33) := ⟨_, rfl⟩
  rw [← hW17]
  have H1217 : Aside0 (W17.heap[w16.heap.size]? = some (.cells #[.int .i64 x, .slice Ah l.length ch] 33 (0, 0))) := ⟨by rw [hW17]; exact blk_new w16 _⟩
  have HAX : Aside0 (Below w16.heap.size w16 W17) := ⟨by rw [hW17]; exact below_alloc (Below.refl _ _) _⟩
  have HA17 := aM (below_step HA16.out HAX.out)
  have HS17 := aM (below_step HS16.out HAX.out)
  have H717 := aM (blk_below H716.out HAX.out)
  have HM17 := aM (Kd.S_below HM16.out HAX.out)
  have HCH17 := aM (Kd.C_below HCH.out HAX.out)
  clear hW17
  have cc0 : W17.cell? ⟨w16.heap.size, 0, none⟩ = some (.int .i64 x) := (blk_cell H1217.out 0).trans rfl
  have cc1 : W17.cell? ⟨w16.heap.size, 1, none⟩ = some (.slice Ah l.length ch) := (blk_cell H1217.out 1).trans rfl
  have c40 : W17.cell? ⟨w3.heap.size, 0, none⟩ = some (.int .i64 x) := (blk_cell (blk_below HB4.out HS17.out) 0).trans rfl
  have c41 : W17.cell? ⟨w3.heap.size, 1, none⟩ = some (.slice As l.length cs) := (blk_cell (blk_below HB4.out HS17.out) 1).trans rfl
  go_upto_region 28 with (first | (go_at_call 22; go_loud ((with_reducible refine (laws_eqWords.calls k3 x Ah ch l x As cs l true _ HCH17.out HLH.out (Kd.C_below HCS.out (below_then HA34.out HZ34.out HS17.out)) HLS.out E3.out).mono ?_); rintro e w18 ⟨rfl, hb⟩; have HA18 := aM (below_step HA17.out hb); have HS18 := aM (below_step HS17.out hb); have H718 := aM (blk_below H717.out hb); have HM18 := aM (Kd.S_below HM17.out hb); clear hb)))
  clear c40 c41 cc0 cc1
  have c70 : w18.cell? ⟨w6.heap.size, 0, none⟩ = some (.int .i64 x) := (blk_cell H718.out 0).trans rfl
  have c71 : w18.cell? ⟨w6.heap.size, 1, none⟩ = some (.slice Ag l.length cg) := (blk_cell H718.out 1).trans rfl
  go_wp2_with (first | (go_at_call 34; go_loud (have hcal := laws_heldWords.calls k6 x Ag cg q 1 z w18 (reads_q HM18.out).2 (by rw [EQ.out]; exact HLG.out) E6.out; rw [EQ.out] at hcal; (with_reducible refine (hcal).mono ?_); rintro e w19 ⟨rfl, hb⟩; have HA19 := aM (below_step HA18.out hb); clear hb hcal)))
  go_ret
  exact ⟨rfl, HA19.out⟩
end Go.Proofs.Ytaomjndfjmfelaa.LwIx
end

section
namespace Go.Proofs.Ytaomjndfjmfelaa.PQ
open Go.RowKit Go.Proofs.YtaomjndfjmfelaaW.PrintWords Go.Proofs.YtaomjndfjmfelaaW.PrintLast Go.Proofs.YtaomjndfjmfelaaW.PrintMore
attribute [local go_sem] max2_int min2_int max_two min_two max_three min_three max_four min_four
set_option linter.unusedVariables false
set_option linter.unusedSimpArgs false
def laws_FnExactIndexOf.Pure : Prop := True
theorem laws_FnExactIndexOf.walk (P : laws_FnExactIndexOf.Pure) (a0 : Option Addr) (c0 : Nat) (l0 : List ByteArray) (w : World) (hr0 : Kd.C Kd.string w a0 l0.length l0) (hc0 : l0.length ≤ c0) (w0 : (l0.length ≤ maxLen ∧ ∀ x_ ∈ l0, x_.size ≤ maxLen)) :
  Calls Try.prog 6 #[.slice a0 l0.length c0] w fun e w' => e = .returned (.bool true) ∧ Below w.heap.size w w' :=
 LwIx.calls a0 c0 l0 w hr0 hc0 w0

end Go.Proofs.Ytaomjndfjmfelaa.PQ
end

section
namespace Go.Proofs.Ytaomjndfjmfelaa.Pure
open Go.Proofs.Ytaomjndfjmfelaa.PQ
theorem FnExactIndexOf : laws_FnExactIndexOf.Pure := trivial
end Go.Proofs.Ytaomjndfjmfelaa.Pure
end

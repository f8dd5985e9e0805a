/- Several texts in one: what the claim's last text rests on. No conditions. -/
import Derived.Test.YtjknkeipginpcaaMTi8
import Derived.OneCell
import Derived.Test.YtjknkeipginpcaaMTi6
import Derived.Test.YtjknkeipginpcaaMTi5
import Derived.Test.YtjknkeipginpcaaMTi3
section
namespace Go.Proofs.Ytjknkeipginpcaa.Tr
set_option linter.unusedVariables false
set_option linter.unusedSimpArgs false
open Go.RowKit Go.Proofs.Ytjknkeipginpcaa.PQ Go.Proofs.YtjknkeipginpcaaW.PrintWords Go.Proofs.YtjknkeipginpcaaW.PrintLast Go.Proofs.YtjknkeipginpcaaW.PrintMore Go.Proofs.Ytjknkeipginpcaa.Pre
theorem at_new (w : World) (o : Obj) : (w.alloc o).heap[w.heap.size]? = some o := by
 show (w.heap.push o)[w.heap.size]? = some o
 simp
theorem new_size (w : World) (o : Obj) : (w.alloc o).heap.size = w.heap.size + 1 := by
 show (w.heap.push o).size = _
 simp
theorem one_cell {w : World} {b : Nat} {v : Value} {t : TypeId} (h : w.heap[b]? = some (.cells #[v] t (0, 0))) : w.cell? ⟨b, 0, none⟩ = some v ∧ w.frozen? ⟨b, 0, none⟩ = false := ⟨by simp [World.cell?, h], by simp [World.frozen?, h]⟩
set_option maxHeartbeats 1000000 in
set_option maxRecDepth 100000 in
theorem treapI (l : List S80) (A0 : Option Addr) (c0 : Nat) (w : World) (hC : Kd.C k80 w A0 l.length l) (hc : l.length ≤ c0) (hl : l.length ≤ 1048576) (hks : ∀ i : Nat, i < l.length → (rd_T80 l (i : Int)).f0.size ≤ 1048576) :
  Calls Try.prog 57 #[.slice A0 l.length c0] w fun e w' => ∃ v0_ : Value, e = .returned (.agg #[v0_]) ∧ Kd.R k71 71 w' w.heap.size (fun _ => True) v0_ (enc l.length 0 (l.map BuI.kv)) ∧ Below w.heap.size w w' := by
 obtain ⟨wA, hwA⟩ : ∃ wA, wA = w.alloc (.cells #[.slice none 0 0] 29) := ⟨_, rfl⟩
 have hA1 : wA.heap.size = w.heap.size + 1 := by rw [hwA]; exact new_size _ _
 have hA2 : wA.heap[w.heap.size]? = some (.cells #[.slice none 0 0] 29 (0, 0)) := by rw [hwA]; exact at_new _ _
 have hA3 : Below w.heap.size w wA := by rw [hwA]; exact below_alloc (Below.refl _ _) _
 have HW := aM hwA
 have HA1 := aM hA1
 have HA2 := aM hA2
 have HA3 := aM hA3
 have HB := aM (BuI.calls l.length l A0 c0 (.slice none 0 0) [] w wA wA.heap.size (Nat.le_refl _) hC hc hA3 (by omega) (Nat.le_refl _) (Kd.R_nil _ _ _ _ _) (by simpa using hl) hks)
 obtain ⟨zs, hzs⟩ : ∃ zs, zs = enc l.length 0 (l.map BuI.kv) := ⟨_, rfl⟩
 rw [← hzs]
 have HZ := aM hzs
 clear hwA hA1 hA2 hA3 hC hc hl hks hzs
 go_enter Try.func57, Try.ntmps57
 go_upto_region 2 with (go_at_call 79; rw [← HW.out]; go_loud ((with_reducible refine HB.out.mono ?_); rintro e w4 ⟨v4, rfl, ho, hb⟩; have HO4 := aM (show Kd.R k71 71 w4 wA.heap.size (fun _ => True) v4 zs by rw [HZ.out]; exact ho); have HB4 := aM hb; clear ho hb))
 have hblk : w4.heap[w.heap.size]? = some (.cells #[.slice none 0 0] 29 (0, 0)) := (HB4.out.block w.heap.size (by have := HA1.out; omega)).trans HA2.out
 obtain ⟨hc0, hf0⟩ := one_cell hblk
 obtain ⟨A4, c4, e4⟩ := Kd.R_slice HO4.out
 subst e4
 have HBK := aM (one_setCell hblk (u := .slice A4 zs.length c4))
 clear hblk
 go_wp2
 refine bodyPost_ret (results_cell_row rfl _ _ w.heap.size 29 #[.slice A4 zs.length c4] (0, 0) _ rfl HBK.out Try.underlying29 rfl (by kernel_rfl)) rfl ?_
 refine ⟨_, rfl, ?_, ?_⟩
 ·
  have h1 := Kd.R_far (p := ⟨w.heap.size, 0, none⟩) (Kd.R_bound HO4.out) (fun k hk => by have h1 := hk.2.1; have h2 := HA1.out; show k ≠ w.heap.size; omega) (.slice A4 zs.length c4)
  exact Kd.R_mono (Kd.R_lower h1 (by have := HA1.out; omega)) (fun _ _ => trivial)
 ·
  exact (HA3.out.trans (HB4.out.mono (by have := HA1.out; omega))).setCell (Nat.le_refl _) _
set_option maxHeartbeats 1000000 in
set_option maxRecDepth 100000 in
theorem treapS (l : List S74) (A0 : Option Addr) (c0 : Nat) (w : World) (hC : Kd.C k74 w A0 l.length l) (hc : l.length ≤ c0) (hl : l.length ≤ 1048576) (hks : ∀ i : Nat, i < l.length → (rd_T74 l (i : Int)).f0.size ≤ 1048576) :
  Calls Try.prog 56 #[.slice A0 l.length c0] w fun e w' => ∃ v0_ : Value, e = .returned (.agg #[v0_]) ∧ Kd.R k71 71 w' w.heap.size (fun _ => True) v0_ (enc l.length 0 (l.map BuS.kv)) ∧ Below w.heap.size w w' := by
 obtain ⟨wA, hwA⟩ : ∃ wA, wA = w.alloc (.cells #[.slice none 0 0] 29) := ⟨_, rfl⟩
 have hA1 : wA.heap.size = w.heap.size + 1 := by rw [hwA]; exact new_size _ _
 have hA2 : wA.heap[w.heap.size]? = some (.cells #[.slice none 0 0] 29 (0, 0)) := by rw [hwA]; exact at_new _ _
 have hA3 : Below w.heap.size w wA := by rw [hwA]; exact below_alloc (Below.refl _ _) _
 have HW := aM hwA
 have HA1 := aM hA1
 have HA2 := aM hA2
 have HA3 := aM hA3
 have HB := aM (BuS.calls l.length l A0 c0 (.slice none 0 0) [] w wA wA.heap.size (Nat.le_refl _) hC hc hA3 (by omega) (Nat.le_refl _) (Kd.R_nil _ _ _ _ _) (by simpa using hl) hks)
 obtain ⟨zs, hzs⟩ : ∃ zs, zs = enc l.length 0 (l.map BuS.kv) := ⟨_, rfl⟩
 rw [← hzs]
 have HZ := aM hzs
 clear hwA hA1 hA2 hA3 hC hc hl hks hzs
 go_enter Try.func56, Try.ntmps56
 go_upto_region 2 with (go_at_call 78; rw [← HW.out]; go_loud ((with_reducible refine HB.out.mono ?_); rintro e w4 ⟨v4, rfl, ho, hb⟩; have HO4 := aM (show Kd.R k71 71 w4 wA.heap.size (fun _ => True) v4 zs by rw [HZ.out]; exact ho); have HB4 := aM hb; clear ho hb))
 have hblk : w4.heap[w.heap.size]? = some (.cells #[.slice none 0 0] 29 (0, 0)) := (HB4.out.block w.heap.size (by have := HA1.out; omega)).trans HA2.out
 obtain ⟨hc0, hf0⟩ := one_cell hblk
 obtain ⟨A4, c4, e4⟩ := Kd.R_slice HO4.out
 subst e4
 have HBK := aM (one_setCell hblk (u := .slice A4 zs.length c4))
 clear hblk
 go_wp2
 refine bodyPost_ret (results_cell_row rfl _ _ w.heap.size 29 #[.slice A4 zs.length c4] (0, 0) _ rfl HBK.out Try.underlying29 rfl (by kernel_rfl)) rfl ?_
 refine ⟨_, rfl, ?_, ?_⟩
 ·
  have h1 := Kd.R_far (p := ⟨w.heap.size, 0, none⟩) (Kd.R_bound HO4.out) (fun k hk => by have h1 := hk.2.1; have h2 := HA1.out; show k ≠ w.heap.size; omega) (.slice A4 zs.length c4)
  exact Kd.R_mono (Kd.R_lower h1 (by have := HA1.out; omega)) (fun _ _ => trivial)
 ·
  exact (HA3.out.trans (HB4.out.mono (by have := HA1.out; omega))).setCell (Nat.le_refl _) _
end Go.Proofs.Ytjknkeipginpcaa.Tr
end

section
namespace Go.Proofs.Ytjknkeipginpcaa.Pr
set_option linter.unusedVariables false
set_option linter.unusedSimpArgs false
open Go.RowKit Go.Proofs.Ytjknkeipginpcaa.PQ Go.Proofs.YtjknkeipginpcaaW.PrintWords Go.Proofs.YtjknkeipginpcaaW.PrintLast Go.Proofs.YtjknkeipginpcaaW.PrintMore Go.Proofs.Ytjknkeipginpcaa.Pre Go.Proofs.Ytjknkeipginpcaa.Tr
abbrev Pa := S80
/-- The keys below a limb, rising, and the limb that stands next. -/
def prs (L : List Lb) : Nat → Int → Nat → Option (List Pa × Nat)
 | 0, k, nx => if k = -1 then some ([], nx) else none
 | f + 1, k, nx => if k = -1 then some ([], nx) else if k = (nx : Int) ∧ nx < L.length then (prs L f (rd_T71 L (nx : Int)).f2 (nx + 1)).bind fun a => (prs L f (rd_T71 L (nx : Int)).f3 a.2).bind fun b => some (a.1 ++ ⟨(rd_T71 L (nx : Int)).f0, (rd_T71 L (nx : Int)).f1⟩ :: b.1, b.2) else none
theorem prs_end (L : List Lb) (f nx : Nat) : prs L f (-1) nx = some ([], nx) := by
 cases f <;> simp [prs]
theorem prs_bad (L : List Lb) (f nx : Nat) (k : Int) (h1 : k ≠ -1) (h2 : ¬ (k = (nx : Int) ∧ nx < L.length)) : prs L f k nx = none := by
 cases f with
 | zero => simp [prs, h1]
 | succ f =>
  unfold prs
  rw [if_neg h1, if_neg h2]
theorem prs_len (L : List Lb) : ∀ (f : Nat) (k : Int) (nx : Nat) (ps : List Pa) (n2 : Nat), nx ≤ L.length → prs L f k nx = some (ps, n2) → ps.length + nx = n2 ∧ n2 ≤ L.length
 | 0, k, nx, ps, n2, hn, h => by
  unfold prs at h
  split at h
  ·
   simp only [Option.some.injEq, Prod.mk.injEq] at h
   obtain ⟨rfl, rfl⟩ := h
   simp
   omega
  ·
   cases h
 | f + 1, k, nx, ps, n2, hn, h => by
  unfold prs at h
  split at h
  ·
   simp only [Option.some.injEq, Prod.mk.injEq] at h
   obtain ⟨rfl, rfl⟩ := h
   simp
   omega
  ·
   split at h
   ·
    rename_i hk
    obtain ⟨⟨a, n1⟩, h1, h⟩ := Option.bind_eq_some_iff.1 h
    obtain ⟨⟨b, n3⟩, h2, h⟩ := Option.bind_eq_some_iff.1 h
    simp only [Option.some.injEq, Prod.mk.injEq] at h
    obtain ⟨rfl, rfl⟩ := h
    have i1 := prs_len L f _ _ _ _ (by omega) h1
    have i2 := prs_len L f _ _ _ _ i1.2 h2
    simp
    omega
   ·
    cases h

theorem cells3 {W : World} {b t : Nat} {u v y z : Value} (h : W.heap[b]? = some (.cells #[u, v, y, z] t (0, 0))) : W.cell? ⟨b, 0, none⟩ = some u ∧ W.cell? ⟨b, 1, none⟩ = some v ∧ W.cell? ⟨b, 3, none⟩ = some z :=
 ⟨(blk_cell h 0).trans rfl, (blk_cell h 1).trans rfl, (blk_cell h 3).trans rfl⟩
theorem xblk_drew {W : World} {b : Nat} {o : Obj} (h : W.heap[b]? = some o) : W.drew.heap[b]? = some o := h
theorem xblk_alloc {W : World} {b : Nat} {o : Obj} (h : W.heap[b]? = some o) (o2 : Obj) : (W.alloc o2).heap[b]? = some o := ((below_alloc (Below.refl W.heap.size W) o2).block b (blk_lt h)).trans h
theorem xblk_kept {W W2 : World} {b : Nat} {o : Obj} {S : Nat → Prop} (h : W.heap[b]? = some o) (hk : Kept W W2 S) (hn : ¬ S b) : W2.heap[b]? = some o := (hk.2 b (blk_lt h) hn).trans h
theorem xblk_grown {W W4 : World} {g t e base : Nat} {α : Type} {d : Kd α} {ok : Nat → Prop} {v : Value} {xs : List α} {cells : Array Value} (h : W.heap[g]? = some (.cells cells t (0, 0))) (ho : d.R e W base ok v xs) (hg : W.grownBy W4 v.ownBlock) (ht : e ≠ t) : W4.heap[g]? = some (.cells cells t (0, 0)) :=
 (hg.block g (blk_lt h) (Kd.R_ne ho h ht)).trans h
theorem HB05 {w0 w W3 W4 W5 : World} {nb lo tb : Nat} (h0 : Below w0.heap.size w0 w) (h3 : Below nb w W3) (h4 : Below nb W3 W4) (h5 : Below lo W4 W5) (hn : w0.heap.size ≤ tb ∧ tb < nb ∧ nb < lo ∧ lo ≤ w.heap.size) : Below w0.heap.size w0 W5 :=
 ((h0.trans (h3.mono (by omega))).trans (h4.mono (by omega))).trans (h5.mono (by omega))
theorem HT5 {w w0 W4 W5 : World} {nb lo tb : Nat} {o : Obj} (ht : W4.heap[tb]? = some o) (h5 : Below lo W4 W5) (hn : w0.heap.size ≤ tb ∧ tb < nb ∧ nb < lo ∧ lo ≤ w.heap.size) : W5.heap[tb]? = some o := (h5.block tb (by omega)).trans ht
theorem HT5n {w w0 W4 W5 : World} {nb lo tb : Nat} {o : Obj} (ht : W4.heap[nb]? = some o) (h5 : Below lo W4 W5) (hn : w0.heap.size ≤ tb ∧ tb < nb ∧ nb < lo ∧ lo ≤ w.heap.size) : W5.heap[nb]? = some o := (h5.block nb (by omega)).trans ht

/-- What a call tells. -/
def Tells (L : List Lb) (f : Nat) (kx : Int) (nx : Nat) (out out' : List Pa) (nx' : Nat) (ok : Bool) : Prop :=
 (prs L f kx nx = none ∧ ok = false) ∨ ∃ ps, prs L f kx nx = some (ps, nx') ∧ ok = true ∧ out' = out ++ ps

set_option maxRecDepth 100000 in
theorem stop (f : Nat) (kx : Int) (nx : Nat) (v : Value) (out : List Pa) (w0 w : World) (A : Option Addr) (c : Nat) (L : List Lb) (tb nb lo : Nat) (ht : w.heap[tb]? = some (.cells #[.slice A L.length c] 29 (0, 0))) (hn : w.heap[nb]? = some (.cells #[.int .i64 (nx : Int)] 3 (0, 0))) (hR : Kd.R k80 80 w lo (fun _ => True) v out) (hk : kx = -1 ∨ ¬ (kx = (nx : Int) ∧ nx < L.length)) :
  Calls Try.prog 75 #[.pointer (some ⟨tb, 0, none⟩), v, .int .i64 kx, .pointer (some ⟨nb, 0, none⟩)] w fun e w' => ∃ (v' : Value) (out' : List Pa) (nx' : Nat) (ok : Bool), e = .returned (.tuple #[v', .bool ok]) ∧ Tells L f kx nx out out' nx' ok ∧ Kd.R k80 80 w' lo (fun _ => True) v' out' ∧ w'.heap[nb]? = some (.cells #[.int .i64 (nx' : Int)] 3 (0, 0)) ∧ Kept w w' (fun k => k = nb ∨ some k = v.ownBlock) ∧ Below nb w w' ∧ (∀ k, v'.ownBlock = some k → some k = v.ownBlock ∨ w.heap.size ≤ k) := by
 have HR := aM hR
 have HN := aM hn
 by_cases h1 : kx = -1
 ·
  subst h1
  clear hR hk ht hn
  go_enter Try.func75, Try.ntmps75
  go_wp2
  go_ret2
  exact ⟨v, out, nx, true, rfl, .inr ⟨[], prs_end L f nx, rfl, (List.append_nil _).symm⟩, HR.out, HN.out, Kept.refl _ _, Below.refl _ _, fun k hk => .inl hk.symm⟩
 ·
  have hk2 : ¬ (kx = (nx : Int) ∧ nx < L.length) := hk.resolve_left h1
  have HT := aM (prs_bad L f nx kx h1 hk2)
  have k1 : (kx == -1) = false := beq_eq_false_iff_ne.2 h1
  have c1 : w.cell? ⟨nb, 0, none⟩ = some (.int .i64 (nx : Int)) := (blk_cell hn 0).trans rfl
  have c2 : w.cell? ⟨tb, 0, none⟩ = some (.slice A L.length c) := (blk_cell ht 0).trans rfl
  clear hR hk ht hn
  by_cases h2 : kx = (nx : Int)
  ·
   have h3 : ¬ nx < L.length := fun h => hk2 ⟨h2, h⟩
   have k2 : (kx != (nx : Int)) = false := by simp [h2]
   have k3 : decide ((L.length : Int) ≤ kx) = true := decide_eq_true (by omega)
   have k4 : (L.length : Int) ≤ kx := by omega
   have h1' : ¬ kx = -1 := h1
   clear hk2 h1 h3 h2
   go_enter Try.func75, Try.ntmps75
   go_wp2
   go_ret2
   exact ⟨_, [], nx, false, rfl, .inl ⟨HT.out, rfl⟩, Kd.R_nil _ _ _ _ _, HN.out, Kept.refl _ _, Below.refl _ _, fun k hk => by cases hk⟩
  ·
   have k2 : (kx != (nx : Int)) = true := by simp [h2]
   have h1' : ¬ kx = -1 := h1
   clear hk2 h1
   go_enter Try.func75, Try.ntmps75
   go_wp2
   go_ret2
   exact ⟨_, [], nx, false, rfl, .inl ⟨HT.out, rfl⟩, Kd.R_nil _ _ _ _ _, HN.out, Kept.refl _ _, Below.refl _ _, fun k hk => by cases hk⟩

set_option maxHeartbeats 4000000 in
set_option maxRecDepth 100000 in
theorem calls : ∀ (f : Nat) (kx : Int) (nx : Nat) (v : Value) (out : List Pa) (w0 w : World) (A : Option Addr) (c : Nat) (L : List Lb) (tb nb lo : Nat), L.length ≤ nx + f → Kd.C k71 w0 A L.length L → L.length ≤ c → Below w0.heap.size w0 w → w0.heap.size ≤ tb → tb < nb → nb < lo → lo ≤ w.heap.size →
  w.heap[tb]? = some (.cells #[.slice A L.length c] 29 (0, 0)) → w.heap[nb]? = some (.cells #[.int .i64 (nx : Int)] 3 (0, 0)) → Kd.R k80 80 w lo (fun _ => True) v out → out.length + L.length ≤ 1048576 + nx → L.length ≤ 1048576 → nx ≤ L.length →
  Calls Try.prog 75 #[.pointer (some ⟨tb, 0, none⟩), v, .int .i64 kx, .pointer (some ⟨nb, 0, none⟩)] w fun e w' => ∃ (v' : Value) (out' : List Pa) (nx' : Nat) (ok : Bool), e = .returned (.tuple #[v', .bool ok]) ∧ Tells L f kx nx out out' nx' ok ∧ Kd.R k80 80 w' lo (fun _ => True) v' out' ∧ w'.heap[nb]? = some (.cells #[.int .i64 (nx' : Int)] 3 (0, 0)) ∧ Kept w w' (fun k => k = nb ∨ some k = v.ownBlock) ∧ Below nb w w' ∧ (∀ k, v'.ownBlock = some k → some k = v.ownBlock ∨ w.heap.size ≤ k) := by
 intro f
 induction f with
 | zero =>
  intro kx nx v out w0 w A c L tb nb lo hf hC hc1 hB0 h1 h2 h3 h4 ht hn hR hsz hLL hnx
  exact stop 0 kx nx v out w0 w A c L tb nb lo ht hn hR (.inr (fun h => by omega))
 | succ f ih =>
  intro kx nx v out w0 w A c L tb nb lo hf hC hc1 hB0 h1 h2 h3 h4 ht hn hR hsz hLL hnx
  by_cases hk : kx = (nx : Int) ∧ nx < L.length
  ·
   obtain ⟨rfl, hlt⟩ := hk
   have HIH := aM ih
   have HC := aM hC
   have HC1 := aM hc1
   have HB0 := aM hB0
   have HN := aM (⟨h1, h2, h3, h4⟩ : w0.heap.size ≤ tb ∧ tb < nb ∧ nb < lo ∧ lo ≤ w.heap.size)
   have HT := aM ht
   have HNB := aM hn
   have HR := aM hR
   have HSZ := aM (⟨hsz, hf, hnx, hlt⟩ : out.length + L.length ≤ 1048576 + nx ∧ L.length ≤ nx + (f + 1) ∧ nx ≤ L.length ∧ nx < L.length)
   have HLL := aM hLL
   obtain ⟨W1, hW1⟩ : ∃ W1, W1 = w.setCell ⟨nb, 0, none⟩ (.int .i64 ((nx : Int) + 1)) := ⟨_, rfl⟩
   have HW1 := aM hW1
   have c1 : w.cell? ⟨nb, 0, none⟩ = some (.int .i64 (nx : Int)) := (blk_cell hn 0).trans rfl
   have f1 : w.frozen? ⟨nb, 0, none⟩ = false := blk_frozen hn 0
   have c2 : w.cell? ⟨tb, 0, none⟩ = some (.slice A L.length c) := (blk_cell ht 0).trans rfl
   have HB1 := aM (show Below nb w W1 by rw [hW1]; exact (Below.refl nb w).setCell (Nat.le_refl _) _)
   have HN1 := aM (show W1.heap[nb]? = some (.cells #[.int .i64 ((nx + 1 : Nat) : Int)] 3 (0, 0)) by rw [hW1, show ((nx + 1 : Nat) : Int) = (nx : Int) + 1 by omega]; exact blk_put hn 0 _ rfl)
   have HT1 := aM (show W1.heap[tb]? = some (.cells #[.slice A L.length c] 29 (0, 0)) from (HB1.out.block tb h2).trans ht)
   have hs1 : W1.heap.size = w.heap.size := by rw [hW1]; simp [World.setCell]
   have HS1 := aM hs1
   have HK1 := aM (show Kept w W1 (fun k => k = nb ∨ some k = v.ownBlock) by rw [hW1]; exact (Kept.refl _ _).setCell (.inl (.inl rfl)) _)
   have HR1 := aM (show Kd.R k80 80 W1 lo (fun k => k < w.heap.size ∧ lo ≤ k) v out by rw [hW1]; exact Kd.R_mono (Kd.R_far (p := ⟨nb, 0, none⟩) (Kd.R_bound hR) (fun k hk => by have := hk.2.1; show k ≠ nb; omega) _) (fun k hk => ⟨hk.2.2.1, hk.2.1⟩))
   have hc3 : W1.cell? ⟨tb, 0, none⟩ = some (.slice A L.length c) := (blk_cell HT1.out 0).trans rfl
   obtain ⟨ad, eA, g0, g1, g2, g3⟩ := at_T71 hC (nx : Int) (by omega) (by omega)
   rw [Int.toNat_natCast] at g0 g1 g2 g3
   subst eA
   obtain ⟨x, hx⟩ : ∃ x, x = rd_T71 L (nx : Int) := ⟨_, rfl⟩
   rw [← hx] at g0 g1 g2 g3
   have HX := aM hx
   have HBW1 := aM (hB0.trans (HB1.out.mono (by omega)))
   have q0 := (HBW1.out.cell (World.block_lt_of_cell? w0 _ g0)).trans g0
   have q1 := (HBW1.out.cell (World.block_lt_of_cell? w0 _ g1)).trans g1
   have q2 := (HBW1.out.cell (World.block_lt_of_cell? w0 _ g2)).trans g2
   have q3 := (HBW1.out.cell (World.block_lt_of_cell? w0 _ g3)).trans g3
   have hlt2 : (nx : Int) < (L.length : Int) := by omega
   have hlb : (L.length : Int) ≤ 1048576 := by omega
   rw [hW1] at q0 q1 q2 q3 hc3
   clear ih hC hc1 hB0 h1 h2 h3 h4 ht hn hR hsz hf hnx hlt hLL hW1 hs1 hx g0 g1 g2 g3
   go_enter Try.func75, Try.ntmps75
   go_upto_region 6 with (fail)
   rw [← HW1.out] at q0 q1 q2 q3 hc3 ⊢
   go_upto_region 7 with ((with_reducible refine gate_dst (N := 10) rfl ?_); go_loud (refine box_event ?hg (N := 10) ?hd (cs := #[.string (⟨#[]⟩ : ByteArray), .string (⟨#[]⟩ : ByteArray), .int .i64 0, .int .i64 0]) (t := 71) ?hr ?_; (case hd => rfl); (case hg => rfl); (case hr => first | (go_simp; done) | (go_simp; rfl)); intro xb hxb W2 hbox hb; have HXB := aM hbox; have HXG := aM hxb; have HB2 := aM hb; have hz0 : W2.cell? ⟨xb, 0, none⟩ = some (.string (⟨#[]⟩ : ByteArray)) := (blk_cell hbox 0).trans rfl; have hz1 : W2.cell? ⟨xb, 1, none⟩ = some (.string (⟨#[]⟩ : ByteArray)) := (blk_cell hbox 1).trans rfl; have hz2 : W2.cell? ⟨xb, 2, none⟩ = some (.int .i64 0) := (blk_cell hbox 2).trans rfl; have hz3 : W2.cell? ⟨xb, 3, none⟩ = some (.int .i64 0) := (blk_cell hbox 3).trans rfl; have hf0 := blk_frozen hbox 0; have hf1 := blk_frozen hbox 1; have hf2 := blk_frozen hbox 2; have hf3 := blk_frozen hbox 3; clear hbox hxb hb))
   obtain ⟨W3, hW3⟩ : ∃ W3, W3 = (((W2.setCell ⟨xb, 0, none⟩ (.string x.f0)).setCell ⟨xb, 1, none⟩ (.string x.f1)).setCell ⟨xb, 2, none⟩ (.int .i64 x.f2)).setCell ⟨xb, 3, none⟩ (.int .i64 x.f3) := ⟨_, rfl⟩
   rw [← hW3]
   have hX3 : W3.heap[xb]? = some (.cells #[.string x.f0, .string x.f1, .int .i64 x.f2, .int .i64 x.f3] 71 (0, 0)) := by
    rw [hW3]
    exact blk_put (blk_put (blk_put (blk_put HXB.out 0 _ rfl) 1 _ rfl) 2 _ rfl) 3 _ rfl
   have HX3 := aM hX3
   have hB23 : Below W1.heap.size W1 W3 := by
    rw [hW3]
    have hle : W1.heap.size ≤ xb := by rw [HXG.out]; exact Nat.le_refl _
    exact (((HB2.out.setCell (p := ⟨xb, 0, none⟩) hle _).setCell (p := ⟨xb, 1, none⟩) hle _).setCell (p := ⟨xb, 2, none⟩) hle _).setCell (p := ⟨xb, 3, none⟩) hle _
   have HB23 := aM hB23
   have HB3 := aM (HB1.out.trans (hB23.mono (by have h1 := HN.out; have h2 := HS1.out; omega)))
   have HN3 := aM ((hB23.block nb (by have h1 := HN.out; have h2 := HS1.out; omega)).trans HN1.out)
   have HT3 := aM ((hB23.block tb (by have h1 := HN.out; have h2 := HS1.out; omega)).trans HT1.out)
   have HR3 := aM (Kd.R_below HR1.out hB23)
   have HK3 := aM (HK1.out.below hB23)
   have HL3 := aM (show lo ≤ W3.heap.size from Nat.le_trans HN.out.2.2.2 (by rw [← HS1.out]; exact hB23.size))
   have q7 : W3.cell? ⟨xb, 2, none⟩ = some (.int .i64 x.f2) := (blk_cell hX3 2).trans rfl
   have HH := aM (HIH.out x.f2 (nx + 1) v out w0 W3 (some ad) c L tb nb lo (by have := HSZ.out; omega) HC.out HC1.out (HBW1.out.trans (hB23.mono (by have h1 := HN.out; have h2 := HS1.out; omega))) HN.out.1 HN.out.2.1 HN.out.2.2.1 HL3.out HT3.out HN3.out (Kd.R_mono HR3.out (fun _ _ => trivial)) (by have := HSZ.out; omega) HLL.out (by have := HSZ.out; omega))
   clear hW3 hX3 hB23 q0 q1 q2 q3 hc3 c1 c2 f1 hz0 hz1 hz2 hz3 hf0 hf1 hf2 hf3
   go_upto_region 8 with (go_at_call 75; go_loud ((with_reducible refine HH.out.mono ?_); rintro e W4 ⟨v4, out4, nx4, ok4, rfl, hp4, ho4, hn4, hk4, hb4, hv4⟩; have HP4 := aM hp4; have HO4 := aM ho4; have HNB4 := aM hn4; have HK4 := aM hk4; have HB4 := aM hb4; have HV4 := aM hv4; clear hp4 ho4 hn4 hk4 hb4 hv4))
   have hxbw : w.heap.size ≤ xb := by rw [HXG.out, HS1.out]; exact Nat.le_refl _
   have HXN := aM (show ¬ xb = nb from fun h => by have := HN.out; omega)
   have hvb : ∀ k, v.ownBlock = some k → k < w.heap.size := fun k hk => (HR1.out.1 k hk).1
   have HVB := aM hvb
   have HX4 := aM (xblk_kept HX3.out HK4.out (fun h => h.elim HXN.out (fun h => by have := hvb xb h.symm; omega)))
   have HT4 := aM ((HB4.out.block tb HN.out.2.1).trans HT3.out)
   have HLo4 := aM (Nat.le_trans HL3.out HB4.out.size)
   have HK04 := aM (HK3.out.then_ HK4.out (fun k hk => .inl hk))
   have HB04 := aM (HB3.out.trans HB4.out)
   have hv4 : ∀ k, v4.ownBlock = some k → some k = v.ownBlock ∨ w.heap.size ≤ k := fun k hk => (HV4.out k hk).imp id (fun h => Nat.le_trans (by rw [← HS1.out]; exact HB23.out.size) h)
   have HV04 := aM hv4
   clear hv4 hvb hxbw
   rcases HP4.out with ⟨hp, hok⟩ | ⟨ps, hp, hok, hout⟩
   ·
    subst hok
    have HPP := aM hp
    clear hp
    go_wp2
    go_ret2
    refine ⟨_, [], nx4, false, rfl, .inl ⟨?_, rfl⟩, Kd.R_nil _ _ _ _ _, HNB4.out, HK04.out, HB04.out, fun k hk => by cases hk⟩
    unfold prs
    rw [if_neg (by omega), if_pos ⟨rfl, HSZ.out.2.2.2⟩, ← HX.out, HPP.out]
    rfl
   ·
    subst hok
    have HPP := aM hp
    have hpl := prs_len L f _ _ _ _ (by have := HSZ.out; omega) hp
    have HSZ4 := aM (show out4.length + 1 + L.length ≤ 1048576 + nx4 by rw [hout, List.length_append]; have := HSZ.out; omega)
    have HNX4 := aM (show nx4 ≤ L.length ∧ L.length ≤ nx4 + f by have := HSZ.out; omega)
    have HOUT := aM hout
    clear hp hpl hout
    go_upto_region 10 with (fail)
    refine start_ (n := 17) (S := fun w' => w'.cell? ⟨xb, 0, none⟩ = some (.string x.f0) ∧ w'.cell? ⟨xb, 1, none⟩ = some (.string x.f1) ∧ w'.cell? ⟨xb, 3, none⟩ = some (.int .i64 x.f3)) (ds := []) #[false, false, false, false, false, false, false, false, false, false, false, false, false, false, false, false, false] (by kernel_rfl) rfl rfl ⟨(cells3 (xblk_drew HX4.out)).1, (cells3 (xblk_drew HX4.out)).2.1, (cells3 (xblk_drew HX4.out)).2.2⟩ (fun hHeld => ?_)
    refine pure_ (i := 0) (N := some 52) (v := ?_) (a' := ?_) #[true, false, false, false, false, false, false, false, false, false, false, false, false, false, false, false, false] rfl rfl (by kernel_rfl) (fun _ _ _ h => h) (Or.inl ⟨by rfl, ?_⟩) ?_ ?_
    rotate_left
    ·
     intro w'
     go_simp
     with_reducible rfl
    rotate_left
    ·
     simp only [Act.put, zSA, zSB, zSC, i64_w, i32_w]
     rfl
    refine pure_ (i := 1) (N := some 53) (v := ?_) (a' := ?_) #[true, true, false, false, false, false, false, false, false, false, false, false, false, false, false, false, false] rfl rfl (by kernel_rfl) (fun _ _ _ h => h) (Or.inl ⟨by rfl, ?_⟩) ?_ ?_
    rotate_left
    ·
     intro w'
     go_simp
     with_reducible rfl
    rotate_left
    ·
     simp only [Act.put, zSA, zSB, zSC, i64_w, i32_w]
     rfl
    refine pure_ (i := 2) (N := some 54) (v := ?_) (a' := ?_) #[true, true, true, false, false, false, false, false, false, false, false, false, false, false, false, false, false] rfl rfl (by kernel_rfl) (fun _ _ _ h => h) (Or.inl ⟨by rfl, ?_⟩) ?_ ?_
    rotate_left
    ·
     intro w'
     go_simp
     with_reducible rfl
    rotate_left
    ·
     simp only [Act.put, zSA, zSB, zSC, i64_w, i32_w]
     rfl
    refine pure_ (i := 4) (N := some 56) (v := ?_) (a' := ?_) #[true, true, true, false, true, false, false, false, false, false, false, false, false, false, false, false, false] rfl rfl (by kernel_rfl) (fun _ _ _ h => h) (Or.inl ⟨by rfl, ?_⟩) ?_ ?_
    rotate_left
    ·
     intro w'
     go_simp
     with_reducible rfl
    rotate_left
    ·
     simp only [Act.put, zSA, zSB, zSC, i64_w, i32_w]
     rfl
    refine pure_ (i := 9) (N := some 61) (v := ?_) (a' := ?_) #[true, true, true, false, true, false, false, false, false, true, false, false, false, false, false, false, false] rfl rfl (by kernel_rfl) (fun _ _ _ h => h) (Or.inl ⟨by rfl, ?_⟩) ?_ ?_
    rotate_left
    ·
     intro w'
     go_simp
     with_reducible rfl
    rotate_left
    ·
     simp only [Act.put, zSA, zSB, zSC, i64_w, i32_w]
     rfl
    refine pure_ (i := 11) (N := some 63) (v := ?_) (a' := ?_) #[true, true, true, false, true, false, false, false, false, true, false, true, false, false, false, false, false] rfl rfl (by kernel_rfl) (fun _ _ _ h => h) (Or.inl ⟨by rfl, ?_⟩) ?_ ?_
    rotate_left
    ·
     intro w'
     go_simp
     with_reducible rfl
    rotate_left
    ·
     simp only [Act.put, zSA, zSB, zSC, i64_w, i32_w]
     rfl
    refine take_ (i := 3) (N := some 55) (v := ?_) (a' := ?_) #[true, true, true, true, true, false, false, false, false, true, false, true, false, false, false, false, false] rfl rfl (by kernel_rfl) (fun _ _ _ h => h) (Or.inl ⟨by rfl, ?_⟩) hHeld ?_ ?_
    rotate_left
    ·
     rintro w' ⟨s0, s1, s2⟩
     go_simp
     with_reducible rfl
    rotate_left
    ·
     simp only [Act.put, zSA, zSB, zSC, i64_w, i32_w]
     rfl
    refine take_ (i := 5) (N := some 57) (v := ?_) (a' := ?_) #[true, true, true, true, true, true, false, false, false, true, false, true, false, false, false, false, false] rfl rfl (by kernel_rfl) (fun _ _ _ h => h) (Or.inl ⟨by rfl, ?_⟩) hHeld ?_ ?_
    rotate_left
    ·
     rintro w' ⟨s0, s1, s2⟩
     go_simp
     with_reducible rfl
    rotate_left
    ·
     simp only [Act.put, zSA, zSB, zSC, i64_w, i32_w]
     rfl
    refine pure_ (i := 6) (N := some 58) (v := ?_) (a' := ?_) #[true, true, true, true, true, true, true, false, false, true, false, true, false, false, false, false, false] rfl rfl (by kernel_rfl) (fun _ _ _ h => h) (Or.inl ⟨by rfl, ?_⟩) ?_ ?_
    rotate_left
    ·
     intro w'
     go_simp
     with_reducible rfl
    rotate_left
    ·
     simp only [Act.put, zSA, zSB, zSC, i64_w, i32_w]
     rfl
    refine take_ (i := 10) (N := some 62) (v := ?_) (a' := ?_) #[true, true, true, true, true, true, true, false, false, true, true, true, false, false, false, false, false] rfl rfl (by kernel_rfl) (fun _ _ _ h => h) (Or.inl ⟨by rfl, ?_⟩) hHeld ?_ ?_
    rotate_left
    ·
     rintro w' ⟨s0, s1, s2⟩
     go_simp
     with_reducible rfl
    rotate_left
    ·
     simp only [Act.put, zSA, zSB, zSC, i64_w, i32_w]
     rfl
    refine one_ (i := 7) (N := some 59) #[true, true, true, true, true, true, true, true, false, true, true, true, false, false, false, false, false] rfl rfl (by kernel_rfl) (by decide) (fun K hK => ?_)
    refine value_ (w1 := ?_) (v := ?_) (by rfl) rfl ?_ ?_
    rotate_left 2
    ·
     go_simp
     constructor
     ·
      rfl
     ·
      rfl
    refine hK.out _ _ ⟨(cells3 (xblk_alloc (xblk_drew HX4.out) _)).1, (cells3 (xblk_alloc (xblk_drew HX4.out) _)).2.1, (cells3 (xblk_alloc (xblk_drew HX4.out) _)).2.2⟩ (fun hHeld => ?_)
    clear hK K
    refine norm_ (a' := ?_) ?_ ?_
    rotate_left
    ·
     show Act.put _ (some 59) _ = _
     simp only [Act.put, zSA, zSB, zSC, i64_w, i32_w]
     rfl
    refine one_ (i := 8) (N := some 60) #[true, true, true, true, true, true, true, true, true, true, true, true, false, false, false, false, false] rfl rfl (by kernel_rfl) (by decide) (fun K hK => ?_)
    refine Kd.R_append_step k80 (w0 := W4) lo (by rfl) (.tmp 53) (.tmp 59) 66 80 (.agg #[(.string ⟨#[]⟩), (.string ⟨#[]⟩)]) 32 rfl Try.underlying66 info80 rfl (by decide) (by omega) v4 out4 (⟨x.f0, x.f1⟩ : S80) _ (fun _ => True) (fun _ => False) rfl rfl (k80_mkM _ _ _ _) (fun _ h => h.elim) (fun _ _ => trivial) (Kd.R_drew HO4.out) (Below.refl lo W4).drew HLo4.out (by have := HSZ4.out; have := HNX4.out; have := HLL.out; omega) ?_
    intro v5 W5 ho1 hb1 hg1 hat1
    have HO5 := aM ho1
    have HB5 := aM hb1
    have HG5 := aM hg1
    have HV5 := aM hat1
    have HX5 := aM (xblk_grown (xblk_drew HX4.out) (Kd.R_drew HO4.out) hg1 (by decide))
    clear hat1 hg1 ho1 hb1
    refine hK.out _ _ ⟨(cells3 HX5.out).1, (cells3 HX5.out).2.1, (cells3 HX5.out).2.2⟩ (fun hHeld => ?_)
    clear hK K
    refine norm_ (a' := ?_) ?_ ?_
    rotate_left
    ·
     show Act.put _ (some 60) _ = _
     simp only [Act.put, zSA, zSB, zSC, i64_w, i32_w]
     rfl
    refine one_ (i := 12) (N := some 64) #[true, true, true, true, true, true, true, true, true, true, true, true, true, false, false, false, false] rfl rfl (by kernel_rfl) (by decide) (fun K hK => ?_)
    refine goes_ Try.func75 (by kernel_rfl) rfl #[.pointer (some ⟨tb, 0, none⟩), v5, .int .i64 x.f3, .pointer (some ⟨nb, 0, none⟩)] (by rfl) rfl rfl (by simp only [List.map_toArray, List.map_cons, List.map_nil]; rfl) ?_
    with_reducible refine ((HIH.out _ _ _ _ w0 W5 (some ad) c L tb nb lo (by have := HNX4.out; omega) HC.out HC1.out (HB05 HB0.out HB3.out HB4.out HB5.out HN.out) HN.out.1 HN.out.2.1 HN.out.2.2.1 (Nat.le_trans HLo4.out (HB5.out.size)) (HT5 HT4.out HB5.out HN.out) (HT5n HNB4.out HB5.out HN.out) HO5.out (by have := HSZ4.out; rw [List.length_append]; simp; omega) HLL.out (by have := HNX4.out; omega))).mono ?_
    rintro e W6 ⟨v6, out6, nx6, ok6, rfl, hp6, ho6, hn6, hk6, hb6, hv6⟩
    refine ⟨_, rfl, ?_⟩
    have HP6 := aM hp6
    have HO6 := aM ho6
    have HN6 := aM hn6
    have HK6 := aM hk6
    have HB6 := aM hb6
    have HV6 := aM hv6
    have HX6 := aM (xblk_kept HX5.out hk6 (fun h => h.elim (fun h => HXN.out h) (fun h => Kd.R_ne HO5.out HX5.out (by decide) h)))
    clear hp6 ho6 hn6 hk6 hb6 hv6
    refine hK.out _ _ ⟨(cells3 HX6.out).1, (cells3 HX6.out).2.1, (cells3 HX6.out).2.2⟩ (fun hHeld => ?_)
    clear hK K
    refine norm_ (a' := ?_) ?_ ?_
    rotate_left
    ·
     show Act.put _ (some 64) _ = _
     simp only [Act.put, zSA, zSB, zSC, i64_w, i32_w]
     rfl
    refine pure_ (i := 13) (N := some 65) (v := ?_) (a' := ?_) #[true, true, true, true, true, true, true, true, true, true, true, true, true, true, false, false, false] rfl rfl (by kernel_rfl) (fun _ _ _ h => h) (Or.inl ⟨by rfl, ?_⟩) ?_ ?_
    rotate_left
    ·
     intro w'
     go_simp
     with_reducible rfl
    rotate_left
    ·
     simp only [Act.put, zSA, zSB, zSC, i64_w, i32_w]
     rfl
    refine pure_ (i := 14) (N := some 66) (v := ?_) (a' := ?_) #[true, true, true, true, true, true, true, true, true, true, true, true, true, true, true, false, false] rfl rfl (by kernel_rfl) (fun _ _ _ h => h) (Or.inl ⟨by rfl, ?_⟩) ?_ ?_
    rotate_left
    ·
     intro w'
     go_simp
     with_reducible rfl
    rotate_left
    ·
     simp only [Act.put, zSA, zSB, zSC, i64_w, i32_w]
     rfl
    refine pure_ (i := 15) (N := some 8) (v := ?_) (a' := ?_) #[true, true, true, true, true, true, true, true, true, true, true, true, true, true, true, true, false] rfl rfl (by kernel_rfl) (fun _ _ _ h => h) (Or.inl ⟨by rfl, ?_⟩) ?_ ?_
    rotate_left
    ·
     intro w'
     go_simp
     with_reducible rfl
    rotate_left
    ·
     simp only [Act.put, zSA, zSB, zSC, i64_w, i32_w]
     rfl
    refine pure_ (i := 16) (N := some 9) (v := ?_) (a' := ?_) #[true, true, true, true, true, true, true, true, true, true, true, true, true, true, true, true, true] rfl rfl (by kernel_rfl) (fun _ _ _ h => h) (Or.inl ⟨by rfl, ?_⟩) ?_ ?_
    rotate_left
    ·
     intro w'
     go_simp
     with_reducible rfl
    rotate_left
    ·
     simp only [Act.put, zSA, zSB, zSC, i64_w, i32_w]
     rfl
    refine done_ (by kernel_rfl) ?_
    go_wp2
    go_ret2
    have hsz4 : w.heap.size ≤ W4.heap.size := Nat.le_trans (by rw [← HS1.out]; exact HB23.out.size) HB4.out.size
    have hv5 : ∀ k, v5.ownBlock = some k → some k = v.ownBlock ∨ w.heap.size ≤ k := by
     intro k hk
     rcases HV5.out with h | ⟨b, h1, h2⟩
     ·
      exact HV04.out k (by rw [← h]; exact hk)
     ·
      rw [h1] at hk
      injection hk with hk
      have h3 : W4.heap.size ≤ b := h2
      exact .inr (by omega)
    have hk5 : Kept w W5 (fun k => k = nb ∨ some k = v.ownBlock) := Kept.of_grown HG5.out (Kept.drew HK04.out) (fun k hk => (HV04.out k hk).imp .inr id)
    refine ⟨v6, out6, nx6, ok6, rfl, ?_, HO6.out, HN6.out, hk5.then_ HK6.out (fun k hk => hk.elim (fun h => .inl (.inl h)) (fun h => (hv5 k h.symm).imp .inr id)), (HB04.out.trans (HB5.out.mono (by have := HN.out; omega))).trans HB6.out, fun k hk => ?_⟩
    ·
     have e : prs L (f + 1) (nx : Int) nx = (prs L f x.f3 nx4).bind fun b => some (ps ++ ⟨x.f0, x.f1⟩ :: b.1, b.2) := by
      conv => lhs; unfold prs
      rw [if_neg (by omega), if_pos ⟨rfl, HSZ.out.2.2.2⟩, ← HX.out, HPP.out]
      rfl
     rcases HP6.out with ⟨h1, h2⟩ | ⟨p6, h1, h2, h3⟩
     ·
      exact .inl ⟨by rw [e, h1]; rfl, h2⟩
     ·
      refine .inr ⟨ps ++ ⟨x.f0, x.f1⟩ :: p6, by rw [e, h1]; rfl, h2, ?_⟩
      rw [h3, HOUT.out]
      simp
    ·
     rcases HV6.out k hk with h | h
     ·
      exact hv5 k h.symm
     ·
      have := HB5.out.size
      exact .inr (by omega)
  ·
   exact stop (f + 1) kx nx v out w0 w A c L tb nb lo ht hn hR (.inr hk)
end Go.Proofs.Ytjknkeipginpcaa.Pr
end

section
namespace Go.Proofs.Ytjknkeipginpcaa.Po
attribute [local go_sem] Instr.field asAgg Go.Proofs.Ytjknkeipginpcaa.StrO.leq_s Go.Proofs.Ytjknkeipginpcaa.StrO.gtr_s Go.Proofs.Ytjknkeipginpcaa.StrO.geq_s
set_option linter.unusedVariables false
set_option linter.unusedSimpArgs false
open Go.RowKit Go.Proofs.Ytjknkeipginpcaa.PQ Go.Proofs.YtjknkeipginpcaaW.PrintWords Go.Proofs.YtjknkeipginpcaaW.PrintLast Go.Proofs.YtjknkeipginpcaaW.PrintMore Go.Proofs.Ytjknkeipginpcaa.Pre Go.Proofs.Ytjknkeipginpcaa.Tr Go.Proofs.Ytjknkeipginpcaa.Pr
/-- A key at its place is as it should be. -/
def okAt (ps : List Pa) (i : Nat) : Bool := decide (1 ≤ (rd_T80 ps (i : Int)).f0.size ∧ (rd_T80 ps (i : Int)).f0.size ≤ 40 ∧ (rd_T80 ps (i : Int)).f1.size ≤ 60) && (decide (i = 0) || Op.bytesLess (rd_T80 ps ((i - 1 : Nat) : Int)).f0.toList (rd_T80 ps (i : Int)).f0.toList)
def okP (ps : List Pa) : Bool := (List.range ps.length).all (okAt ps)
theorem okAt_eq (ps : List Pa) (i : Nat) (x : Pa) (hx : x = rd_T80 ps (i : Int)) : okAt ps i = ((decide (1 ≤ x.f0.size ∧ x.f0.size ≤ 40) && decide (x.f1.size ≤ 60)) && (decide (i = 0) || Op.bytesLess (rd_T80 ps ((i - 1 : Nat) : Int)).f0.toList x.f0.toList)) := by
 unfold okAt
 rw [← hx]
 congr 1
 rw [← Bool.decide_and]
 refine decide_eq_decide.2 ?_
 omega
theorem ok_size (ps : List Pa) (i : Nat) (h : okAt ps i = true) : (rd_T80 ps (i : Int)).f0.size ≤ 1048576 := by
 unfold okAt at h
 rw [Bool.and_eq_true] at h
 have := of_decide_eq_true h.1
 omega
def tup (x : Lb) : List UInt8 × List UInt8 × Int × Int := (x.f0.toList, x.f1.toList, x.f2, x.f3)
/-- Both rows of limbs are alike. -/
def eqb (a b : List Lb) : Bool := decide (a.map tup = b.map tup)
theorem rdL (l : List Lb) (i : Nat) (h : i < l.length) : rd_T71 l (i : Int) = l[i] := by
 unfold rd_T71
 simp [h]
theorem limb_ne (x y : Lb) : (!(x.f0.toList == y.f0.toList) || (!(x.f1.toList == y.f1.toList) || (!(x.f2 == y.f2) || (!(x.f3 == y.f3))))) = !decide (tup x = tup y) := by
 unfold tup
 by_cases h0 : x.f0.toList = y.f0.toList <;> by_cases h1 : x.f1.toList = y.f1.toList <;> by_cases h2 : x.f2 = y.f2 <;> by_cases h3 : x.f3 = y.f3 <;> simp [h0, h1, h2, h3]
theorem Limb_ev (a b : List Lb) (ha : a.length ≤ 1048576) : Evt (fun k => impl_Limb.f k a b) (eqb a b) := by
 unfold impl_Limb.f eqb
 by_cases hl : a.length = b.length
 ·
  refine Evt.pos (by omega) ?_
  have key : ∀ (m i : Nat), i + m = a.length → Evt (fun k => impl_Limb.l0 k a b (a.length : Int) (i : Int)) (decide ((a.drop i).map tup = (b.drop i).map tup)) := by
   intro m
   induction m with
   | zero =>
    intro i hi
    refine (Evt.step (fun k => impl_Limb.l0.eq_2 _ _ _ _ k) (Evt.neg (by omega) (Evt.const _))).eq ?_
    rw [List.drop_eq_nil_of_le (by omega), List.drop_eq_nil_of_le (by omega)]
    rfl
   | succ m ih =>
    intro i hi
    have hr := ih (i + 1) (by omega)
    have h1 : i < a.length := by omega
    have h2 : i < b.length := by omega
    have e : ((a.drop i).map tup = (b.drop i).map tup) ↔ (tup a[i] = tup b[i] ∧ (a.drop (i + 1)).map tup = (b.drop (i + 1)).map tup) := by
     rw [List.drop_eq_getElem_cons h1, List.drop_eq_getElem_cons h2, List.map_cons, List.map_cons, List.cons.injEq]
    refine Evt.step (fun k => impl_Limb.l0.eq_2 _ _ _ _ k) (Evt.pos (by omega) (Evt.pos (by omega) (Evt.pos (by omega) (Evt.pos (by omega) ?_))))
    rw [rdL a i h1, rdL b i h2, limb_ne]
    by_cases ht : tup a[i] = tup b[i]
    ·
     refine Evt.neg (by simp [ht]) ?_
     rw [w64 (n := (i : Int) + 1) (by omega) (by omega), show (i : Int) + 1 = ((i + 1 : Nat) : Int) by omega]
     refine hr.eq (decide_eq_decide.2 ?_)
     rw [e]
     exact ⟨fun h => ⟨ht, h⟩, fun h => h.2⟩
    ·
     refine Evt.pos (by simp [ht]) ((Evt.const _).eq ?_)
     symm
     exact decide_eq_false (fun h => ht (e.1 h).1)
  exact key a.length 0 (by omega)
 ·
  refine Evt.neg (by omega) ((Evt.const _).eq ?_)
  symm
  exact decide_eq_false (fun h => hl (by have := congrArg List.length h; simpa using this))
/-- What pairsOf answers. -/
def ansP (L : List Lb) : List Pa × Bool := if L.length = 0 then ([], true) else if L.length > 60 then ([], false) else
 match prs L L.length 0 0 with
 | none => ([], false)
 | some (ps, n2) => if n2 = L.length then (if okP ps = true then (ps, eqb (enc ps.length 0 (ps.map BuI.kv)) L) else ([], false)) else ([], false)
theorem bad_of (ps : List Pa) (i : Nat) (hi : i < ps.length) (h : okAt ps i = false) (L : List Lb) (he : ansP L = if okP ps = true then (ps, eqb (enc ps.length 0 (ps.map BuI.kv)) L) else ([], false)) : ansP L = ([], false) := by
 rw [he, if_neg]
 intro hc
 unfold okP at hc
 have := List.all_eq_true.1 hc i (List.mem_range.2 hi)
 rw [h] at this
 cases this
theorem go_on (ps : List Pa) (i : Nat) (h : ∀ j, j < i → okAt ps j = true) (h2 : okAt ps i = true) : ∀ j, j < i + 1 → okAt ps j = true := by
 intro j hj
 rcases Nat.lt_or_ge j i with h3 | h3
 ·
  exact h j h3
 ·
  obtain rfl : j = i := by omega
  exact h2
theorem good_of (ps : List Pa) (h : ∀ i, i < ps.length → okAt ps i = true) (L : List Lb) (he : ansP L = if okP ps = true then (ps, eqb (enc ps.length 0 (ps.map BuI.kv)) L) else ([], false)) : ansP L = (ps, eqb (enc ps.length 0 (ps.map BuI.kv)) L) := by
 rw [he, if_pos]
 unfold okP
 exact List.all_eq_true.2 fun i hi => h i (List.mem_range.1 hi)
theorem below_drewB {w W : World} (h : Below w.drew.heap.size w.drew W) : Below w.heap.size w W := (Below.refl w.heap.size w).drew.trans h
theorem tko (s : ByteArray) (w : World) : Calls Try.prog 70 #[.string s] w fun e w' => e = .returned (.bool (decide (1 ≤ s.size ∧ s.size ≤ 40))) ∧ ∃ m, w' = w.drewN m := by
 have h : impl_treapKeyOK.f s = some (decide (1 ≤ s.size ∧ s.size ≤ 40)) := by
  unfold impl_treapKeyOK.f impl_within.f
  by_cases h1 : (s.size : Int) ≥ 1
  ·
   rw [if_pos h1]
   refine congrArg some (decide_eq_decide.2 ?_)
   omega
  ·
   rw [if_neg h1]
   refine congrArg some ?_
   symm
   exact decide_eq_false (by omega)
 refine (impl_treapKeyOK.calls s _ w h).mono ?_
 rintro e w' ⟨rfl, ⟨nd, rfl⟩⟩
 exact ⟨rfl, nd, rfl⟩
theorem Kd.reads1 {α : Type} {d : Kd α} {e base : Nat} {ok : Nat → Prop} {w : World} {A : Option Addr} {n c : Nat} {xs : List α} (h : d.R e w base ok (.slice A n c) xs) : d.C w A xs.length xs := by
 obtain ⟨A', c', e', _, h2⟩ := Kd.R_reads h
 injection e' with e1 _ _
 rw [e1]
 exact h2
theorem Kd.reads2 {α : Type} {d : Kd α} {e base : Nat} {ok : Nat → Prop} {w : World} {A : Option Addr} {n c : Nat} {xs : List α} (h : d.R e w base ok (.slice A n c) xs) : xs.length ≤ c := by
 obtain ⟨A', c', e', h1, _⟩ := Kd.R_reads h
 injection e' with _ _ e3
 rw [e3]
 exact h1

set_option maxHeartbeats 4000000 in
set_option maxRecDepth 100000 in
theorem calls (L : List Lb) (A : Option Addr) (c : Nat) (w : World) (hC : Kd.C k71 w A L.length L) (hc1 : L.length ≤ c) (hLL : L.length ≤ 1048576) :
  Calls Try.prog 49 #[.agg #[.slice A L.length c]] w fun e w' => ∃ v0_ : Value, e = .returned (.tuple #[v0_, .bool (ansP L).2]) ∧ Kd.R k80 80 w' w.heap.size (fun _ => True) v0_ (ansP L).1 ∧ Below w.heap.size w w' := by
 have HB := aM (Below.refl w.heap.size w)
 have HC := aM hC
 have HC1 := aM hc1
 obtain ⟨wA, hwA⟩ : ∃ wA, wA = w.alloc (.cells #[.slice A L.length c] 29) := ⟨_, rfl⟩
 have HWA := aM hwA
 have HTA := aM (show wA.heap[w.heap.size]? = some (.cells #[.slice A L.length c] 29 (0, 0)) by rw [hwA]; exact at_new _ _)
 have HBA := aM (show Below w.heap.size w wA by rw [hwA]; exact below_alloc (Below.refl _ _) _)
 have HSA := aM (show wA.heap.size = w.heap.size + 1 by rw [hwA]; exact new_size _ _)
 have ct : (w.alloc (.cells #[.slice A L.length c] 29)).cell? ⟨w.heap.size, 0, none⟩ = some (.slice A L.length c) := by rw [← hwA]; exact (blk_cell HTA.out 0).trans rfl
 have hlb : (L.length : Int) ≤ 1048576 := by omega
 by_cases h0 : L.length = 0
 ·
  have ea : ansP L = ([], true) := by unfold ansP; rw [if_pos h0]
  rw [ea]
  have z0 : (L.length : Int) = 0 := by omega
  clear hC hc1 hLL hwA h0 ea
  go_enter Try.func49, Try.ntmps49
  go_wp2
  go_ret2
  exact ⟨_, rfl, Kd.R_nil _ _ _ _ _, by rw [← HWA.out]; exact HBA.out⟩
 ·
  by_cases h60 : L.length > 60
  ·
   have ea : ansP L = ([], false) := by unfold ansP; rw [if_neg h0, if_pos h60]
   rw [ea]
   have z0 : ¬ (L.length : Int) = 0 := by omega
   have z1 : (60 : Int) < (L.length : Int) := by omega
   clear hC hc1 hLL hwA h0 ea h60
   go_enter Try.func49, Try.ntmps49
   go_wp2
   go_ret2
   exact ⟨_, rfl, Kd.R_nil _ _ _ _ _, by rw [← HWA.out]; exact HBA.out⟩
  ·
   have z0 : ¬ (L.length : Int) = 0 := by omega
   have z1 : ¬ (60 : Int) < (L.length : Int) := by omega
   have HL := aM (⟨h0, h60⟩ : ¬ L.length = 0 ∧ ¬ L.length > 60)
   obtain ⟨W5, hW5⟩ : ∃ W5, W5 = wA.alloc (.cells #[.int .i64 0] 3) := ⟨_, rfl⟩
   have HW5 := aM hW5
   have HN5 := aM (show W5.heap[w.heap.size + 1]? = some (.cells #[.int .i64 ((0 : Nat) : Int)] 3 (0, 0)) by rw [hW5, ← HSA.out]; exact at_new _ _)
   have HB5 := aM (show Below (w.heap.size + 1) wA W5 by rw [hW5, ← HSA.out]; exact below_alloc (Below.refl _ _) _)
   have HT5 := aM (show W5.heap[w.heap.size]? = some (.cells #[.slice A L.length c] 29 (0, 0)) from (HB5.out.block w.heap.size (by have := HSA.out; omega)).trans HTA.out)
   have HS5 := aM (show W5.heap.size = w.heap.size + 2 by rw [hW5]; have := new_size wA (.cells #[.int .i64 0] 3); have := HSA.out; omega)
   have cn : (wA.alloc (.cells #[.int .i64 0] 3)).cell? ⟨w.heap.size + 1, 0, none⟩ = some (.int .i64 0) := by rw [← hW5]; exact (blk_cell HN5.out 0).trans rfl
   have fn : (wA.alloc (.cells #[.int .i64 0] 3)).frozen? ⟨w.heap.size + 1, 0, none⟩ = false := by rw [← hW5]; exact blk_frozen HN5.out 0
   have ct5 : W5.cell? ⟨w.heap.size, 0, none⟩ = some (.slice A L.length c) := (blk_cell HT5.out 0).trans rfl
   have HB05 := aM (show Below w.heap.size w W5 from HBA.out.trans (HB5.out.mono (by omega)))
   have HP := aM (Pr.calls L.length 0 0 (.slice none 0 0) [] w W5 A c L w.heap.size (w.heap.size + 1) W5.heap.size (by omega) hC hc1 HB05.out (Nat.le_refl _) (by have := HSA.out; omega) (by have := HSA.out; have := HS5.out; omega) (Nat.le_refl _) HT5.out HN5.out (Kd.R_nil _ _ _ _ _) (by simp; omega) hLL (Nat.zero_le _))
   clear hC hc1 hLL h0 h60 hW5
   go_enter Try.func49, Try.ntmps49
   go_upto_region 6 with (fail)
   try rw [← HWA.out]
   rw [← HW5.out]
   clear cn fn ct
   go_upto_region 7 with (go_at_call 75; go_loud ((with_reducible refine HP.out.mono ?_); rintro e W6 ⟨v6, out6, nx6, ok6, rfl, hp6, ho6, hn6, hk6, hb6, hv6⟩; have HP6 := aM hp6; have HO6 := aM ho6; have HN6 := aM hn6; have HB6 := aM hb6; clear hp6 ho6 hn6 hk6 hb6 hv6))
   have HBw6 := aM (show Below w.heap.size w W6 from HB05.out.trans (HB6.out.mono (by have := HSA.out; omega)))
   have HT6 := aM ((HB6.out.block w.heap.size (by have := HSA.out; omega)).trans HT5.out)
   have HL6 := aM (show W5.heap.size ≤ W6.heap.size from HB6.out.size)
   have ct6 : W6.cell? ⟨w.heap.size, 0, none⟩ = some (.slice A L.length c) := (blk_cell HT6.out 0).trans rfl
   have cn6 : W6.cell? ⟨w.heap.size + 1, 0, none⟩ = some (.int .i64 (nx6 : Int)) := (blk_cell HN6.out 0).trans rfl
   clear ct5
   rcases HP6.out with ⟨hp, hok⟩ | ⟨ps, hp, hok, hout⟩
   ·
    subst hok
    have ea : ansP L = ([], false) := by unfold ansP; rw [if_neg HL.out.1, if_neg HL.out.2, hp]
    have HEA := aM ea
    clear ea hp
    go_wp2
    go_ret2
    exact ⟨_, by rw [HEA.out]; rfl, by rw [HEA.out]; exact Kd.R_nil _ _ _ _ _, HBw6.out⟩
   ·
    subst hok
    by_cases hn : nx6 = L.length
    ·
     have ea : ansP L = if okP ps = true then (ps, eqb (enc ps.length 0 (ps.map BuI.kv)) L) else ([], false) := by unfold ansP; rw [if_neg HL.out.1, if_neg HL.out.2, hp]; exact if_pos hn
     have HEA := aM ea
     have hpl := prs_len L _ _ _ _ _ (by omega) hp
     have HPL := aM (show ps.length ≤ 60 by have := HL.out.2; omega)
     rw [List.nil_append] at hout
     subst hout
     obtain ⟨A6, c6, e6⟩ := Kd.R_slice HO6.out
     subst e6
     have HC6 := aM (Kd.reads1 HO6.out)
     have HC61 := aM (Kd.reads2 HO6.out)
     have k1 : ((nx6 : Int) != (L.length : Int)) = false := by simp [hn]
     have hpb : (out6.length : Int) ≤ 1048576 := by have := HPL.out; omega
     clear ea hp hpl
     go_upto_region 9 with (fail)
     go_wp2
     go_loopg [32] out6.length (fun kq v32 w' => ∃ i : Nat, v32 = .int .i64 (i : Int) ∧ i ≤ out6.length ∧ kq = out6.length - i ∧ Aside0 (∀ j, j < i → okAt out6 j = true) ∧ Aside0 (Kd.R k80 80 w' W5.heap.size (fun _ => True) (.slice A6 out6.length c6) out6) ∧ Aside0 (w'.heap[w.heap.size]? = some (.cells #[.slice A L.length c] 29 (0, 0))) ∧ Aside0 (Below w.heap.size w w') ∧ Aside0 (W5.heap.size ≤ w'.heap.size))
     case atStart => exact ⟨0, rfl, Nat.zero_le _, rfl, ⟨fun j hj => by omega⟩, HO6, HT6, HBw6, HL6⟩
     case round =>
      clear ct6 cn6 k1
      obtain ⟨i, rfl, hi, hk, HGO, HR, HT, HBw, HLw⟩ := hrel
      by_cases hlt : i < out6.length
      ·
       have HLT := aM hlt
       have HC6 := aM (Kd.reads1 HR.out)
       obtain ⟨x, hx⟩ : ∃ x, x = rd_T80 out6 (i : Int) := ⟨_, rfl⟩
       obtain ⟨ad, e, g0, g1⟩ := at_T80 HC6.out (i : Int) (by omega) (by omega)
       rw [Int.toNat_natCast] at g0 g1
       subst e
       rw [← hx] at g0 g1
       have HX := aM hx
       have hi2 : (i : Int) < (out6.length : Int) := by omega
       clear hx
       go_upto_region 12 with ((with_reducible refine gate_dst (N := 8) rfl ?_); go_loud (refine box_event ?hg (N := 8) ?hd (cs := #[.string (⟨#[]⟩ : ByteArray), .string (⟨#[]⟩ : ByteArray)]) (t := 80) ?hr ?_; (case hd => rfl); (case hg => rfl); (case hr => first | (go_simp; done) | (go_simp; rfl)); intro xb hxb W2 hbox hb; have HXB := aM hbox; have HXG := aM hxb; have HB2 := aM hb; have hz0 : W2.cell? ⟨xb, 0, none⟩ = some (.string (⟨#[]⟩ : ByteArray)) := (blk_cell hbox 0).trans rfl; have hz1 : W2.cell? ⟨xb, 1, none⟩ = some (.string (⟨#[]⟩ : ByteArray)) := (blk_cell hbox 1).trans rfl; have hf0 := blk_frozen hbox 0; have hf1 := blk_frozen hbox 1; clear hbox hxb hb))
       obtain ⟨W3, hW3⟩ : ∃ W3, W3 = (W2.setCell ⟨xb, 0, none⟩ (.string x.f0)).setCell ⟨xb, 1, none⟩ (.string x.f1) := ⟨_, rfl⟩
       rw [← hW3]
       have hX3 : W3.heap[xb]? = some (.cells #[.string x.f0, .string x.f1] 80 (0, 0)) := by
        rw [hW3]
        exact blk_put (blk_put HXB.out 0 _ rfl) 1 _ rfl
       have hB3 : Below wr.heap.size wr W3 := by
        rw [hW3]
        have hle : wr.heap.size ≤ xb := by rw [HXG.out]; exact Nat.le_refl _
        exact (HB2.out.setCell (p := ⟨xb, 0, none⟩) hle _).setCell (p := ⟨xb, 1, none⟩) hle _
       have HB3 := aM hB3
       have HBw3 := aM (below_step HBw.out hB3)
       have HT3 := aM ((hB3.block w.heap.size (blk_lt HT.out)).trans HT.out)
       have HR3 := aM (Kd.R_below HR.out hB3)
       have HL3 := aM (Nat.le_trans HLw.out hB3.size)
       have q0 : W3.cell? ⟨xb, 0, none⟩ = some (.string x.f0) := (blk_cell hX3 0).trans rfl
       have q1 : W3.cell? ⟨xb, 1, none⟩ = some (.string x.f1) := (blk_cell hX3 1).trans rfl
       clear hW3 hX3 hB3 g0 g1 hz0 hz1 hf0 hf1
       obtain ⟨kb, hkb⟩ : ∃ kb, kb = decide (1 ≤ x.f0.size ∧ x.f0.size ≤ 40) := ⟨_, rfl⟩
       have HTK := aM (fun W => tko x.f0 W)
       rw [← hkb] at HTK
       have HOK := aM (okAt_eq out6 i x HX.out)
       rw [← hkb] at HOK
       clear hkb
       cases kb with
       | false =>
        have HBAD := aM (bad_of out6 i HLT.out (by rw [HOK.out]; simp) L HEA.out)
        go_wp2
        go_quiet ((go_at_call 70; exact Calls.quiet_of (HTK.out _)))
        go_wp2
        go_ret2
        exact ⟨_, by rw [HBAD.out]; rfl, by rw [HBAD.out]; exact Kd.R_nil _ _ _ _ _, pw_below_drewN HBw3.out _⟩
       | true =>
        by_cases hv : x.f1.size ≤ 60
        ·
         have zv : decide ((60 : Int) < (x.f1.size : Int)) = false := decide_eq_false (by omega)
         obtain hi0 | ⟨j, rfl⟩ : i = 0 ∨ ∃ j, i = j + 1 := by cases i with
          | zero => exact .inl rfl
          | succ j => exact .inr ⟨j, rfl⟩
         ·
          have HGO1 := aM (go_on out6 i (fun j hj => by omega) (by rw [HOK.out]; simp [hv, hi0]))
          have zi : decide ((0 : Int) < (i : Int)) = false := decide_eq_false (by omega)
          have zi2 : decide (0 < i) = false := decide_eq_false (by omega)
          have zi3 : ¬ 0 < i := by omega
          clear hi0
          go_wp2
          go_quiet ((go_at_call 70; exact Calls.quiet_of (HTK.out _)))
          go_wp2
          go_roundg (out6.length - (i + 1))
          case measure => have := HLT.out; omega
          case rel => exact ⟨i + 1, by go_num, by have := HLT.out; omega, rfl, ⟨fun j hj => HGO1.out j hj⟩, ⟨Kd.R_drewN HR3.out _⟩, ⟨blk_drewN HT3.out _⟩, ⟨pw_below_drewN HBw3.out _⟩, HL3⟩
         ·
          have hy0 : j < out6.length := by omega
          obtain ⟨y, hy⟩ : ∃ y, y = rd_T80 out6 (j : Int) := ⟨_, rfl⟩
          have HC3 := Kd.C_below HC6.out HB3.out
          obtain ⟨ad', e, g0, _⟩ := at_T80 HC3 (j : Int) (by omega) (by omega)
          cases e
          rw [Int.toNat_natCast, ← hy] at g0
          have zi : decide ((0 : Int) < (j : Int) + 1) = true := decide_eq_true (by omega)
          have HOK2 := aM (show okAt out6 (j + 1) = Op.bytesLess y.f0.toList x.f0.toList by rw [HOK.out]; show ((true && decide (x.f1.size ≤ 60)) && (decide (j + 1 = 0) || Op.bytesLess (rd_T80 out6 (j : Int)).f0.toList x.f0.toList)) = _; rw [← hy, decide_eq_true hv]; simp)
          have hi3 : (j : Int) < (out6.length : Int) := by omega
          have hi4 : wrap64 (((j + 1 : Nat) : Int) - 1) = (j : Int) := by rw [w64 (by omega) (by omega)]; omega
          clear hy HC3 hy0
          cases hb : Op.bytesLess y.f0.toList x.f0.toList with
          | true =>
           have HGO1 := aM (go_on out6 (j + 1) HGO.out (by rw [HOK2.out, hb]))
           have hb2 : (!Op.bytesLess y.f0.toList x.f0.toList) = false := by rw [hb]; rfl
           go_wp2
           go_quiet ((go_at_call 70; exact Calls.quiet_of (HTK.out _)))
           go_wp2
           go_roundg (out6.length - (j + 1 + 1))
           case measure => have := HLT.out; omega
           case rel => exact ⟨j + 1 + 1, by go_num, by have := HLT.out; omega, rfl, ⟨fun j hj => HGO1.out j hj⟩, ⟨Kd.R_drewN HR3.out _⟩, ⟨blk_drewN HT3.out _⟩, ⟨pw_below_drewN HBw3.out _⟩, HL3⟩
          | false =>
           have HBAD := aM (bad_of out6 (j + 1) HLT.out (by rw [HOK2.out, hb]) L HEA.out)
           have hb2 : (!Op.bytesLess y.f0.toList x.f0.toList) = true := by rw [hb]; rfl
           go_wp2
           go_quiet ((go_at_call 70; exact Calls.quiet_of (HTK.out _)))
           go_wp2
           go_ret2
           exact ⟨_, by rw [HBAD.out]; rfl, by rw [HBAD.out]; exact Kd.R_nil _ _ _ _ _, pw_below_drewN HBw3.out _⟩
        ·
         have zv : (60 : Int) < (x.f1.size : Int) := by omega
         have HBAD := aM (bad_of out6 i HLT.out (by rw [HOK.out]; simp [hv]) L HEA.out)
         go_wp2
         go_quiet ((go_at_call 70; exact Calls.quiet_of (HTK.out _)))
         go_wp2
         go_ret2
         exact ⟨_, by rw [HBAD.out]; rfl, by rw [HBAD.out]; exact Kd.R_nil _ _ _ _ _, pw_below_drewN HBw3.out _⟩
      ·
       obtain rfl : i = out6.length := by omega
       have HEB := aM (good_of out6 HGO.out L HEA.out)
       have HKS := aM (show ∀ i : Nat, i < out6.length → (rd_T80 out6 (i : Int)).f0.size ≤ 1048576 from fun i hi => ok_size out6 i (HGO.out i hi))
       have HCr := aM (Kd.reads1 HR.out)
       have HCr1 := aM (Kd.reads2 HR.out)
       have HCLr := aM (Kd.C_below HC.out HBw.out)
       obtain ⟨kq, hQ⟩ := (Limb_ev (enc out6.length 0 (out6.map BuI.kv)) L (by rw [enc_len _ _ _ (by rw [List.length_map]; exact Nat.le_refl _), List.length_map]; have := HPL.out; omega)).ex
       have HQ := aM hQ
       clear hQ
       have hu := Try.underlying29
       go_upto_region 15 with (fail)
       refine start_ (n := 9) (S := fun w' => w'.cell? ⟨w.heap.size, 0, none⟩ = some (.slice A L.length c)) (ds := []) #[false, false, false, false, false, false, false, false, false] (by kernel_rfl) rfl rfl ((blk_cell (xblk_drew HT.out) 0).trans rfl) (fun hHeld => ?_)
       refine pure_ (i := 0) (N := some 63) (v := ?_) (a' := ?_) #[true, false, false, false, false, false, false, false, false] rfl rfl (by kernel_rfl) (fun _ _ _ h => h) (Or.inl ⟨by rfl, ?_⟩) ?_ ?_
       rotate_left
       ·
        intro w'
        go_simp
        with_reducible rfl
       rotate_left
       ·
        simp only [Act.put, zSA, zSB, zSC, i64_w, i32_w]
        rfl
       refine pure_ (i := 1) (N := some 64) (v := ?_) (a' := ?_) #[true, true, false, false, false, false, false, false, false] rfl rfl (by kernel_rfl) (fun _ _ _ h => h) (Or.inl ⟨by rfl, ?_⟩) ?_ ?_
       rotate_left
       ·
        intro w'
        go_simp
        with_reducible rfl
       rotate_left
       ·
        simp only [Act.put, zSA, zSB, zSC, i64_w, i32_w]
        rfl
       refine pure_ (i := 4) (N := some 67) (v := ?_) (a' := ?_) #[true, true, false, false, true, false, false, false, false] rfl rfl (by kernel_rfl) (fun _ _ _ h => h) (Or.inl ⟨by rfl, ?_⟩) ?_ ?_
       rotate_left
       ·
        intro w'
        go_simp
        with_reducible rfl
       rotate_left
       ·
        simp only [Act.put, zSA, zSB, zSC, i64_w, i32_w]
        rfl
       refine take_ (i := 5) (N := some 68) (v := ?_) (a' := ?_) #[true, true, false, false, true, true, false, false, false] rfl rfl (by kernel_rfl) (fun _ _ _ h => h) (Or.inl ⟨by rfl, ?_⟩) hHeld ?_ ?_
       rotate_left
       ·
        intro w' s0
        go_simp
        with_reducible rfl
       rotate_left
       ·
        simp only [Act.put, zSA, zSB, zSC, i64_w, i32_w]
        rfl
       refine one_ (i := 2) (N := some 65) #[true, true, true, false, true, true, false, false, false] rfl rfl (by kernel_rfl) (by decide) (fun K hK => ?_)
       refine goes_ Try.func57 (by kernel_rfl) rfl #[.slice A6 out6.length c6] (by rfl) rfl rfl (by simp only [List.map_toArray, List.map_cons, List.map_nil]; rfl) ?_
       with_reducible refine ((treapI out6 A6 c6 _ (Kd.reads1 (Kd.R_drew HR.out)) HCr1.out (by have := HPL.out; omega) HKS.out)).mono ?_
       rintro e W4 ⟨v4, rfl, ho, hb⟩
       refine ⟨_, rfl, ?_⟩
       obtain ⟨A4, c4, e4⟩ := Kd.R_slice ho
       subst e4
       have HO4 := aM ho
       have HB4 := aM (below_drewB hb)
       clear ho hb
       refine hK.out _ _ ((blk_cell (blk_below HT.out HB4.out) 0).trans rfl) (fun hHeld => ?_)
       clear hK K
       refine norm_ (a' := ?_) ?_ ?_
       rotate_left
       ·
        show Act.put _ (some 65) _ = _
        simp only [Act.put, zSA, zSB, zSC, i64_w, i32_w]
        rfl
       refine pure_ (i := 3) (N := some 66) (v := ?_) (a' := ?_) #[true, true, true, true, true, true, false, false, false] rfl rfl (by kernel_rfl) (fun _ _ _ h => h) (Or.inl ⟨by rfl, ?_⟩) ?_ ?_
       rotate_left
       ·
        intro w'
        go_simp
        with_reducible rfl
       rotate_left
       ·
        simp only [Act.put, zSA, zSB, zSC, i64_w, i32_w]
        rfl
       refine one_ (i := 6) (N := some 69) #[true, true, true, true, true, true, true, false, false] rfl rfl (by kernel_rfl) (by decide) (fun K hK => ?_)
       refine goes_ Try.func76 (by kernel_rfl) rfl #[.slice A4 (enc out6.length 0 (out6.map BuI.kv)).length c4, .slice A L.length c] (by rfl) rfl rfl (by simp only [List.map_toArray, List.map_cons, List.map_nil]; rfl) ?_
       with_reducible refine ((impl_Limb.calls kq A4 c4 (enc out6.length 0 (out6.map BuI.kv)) A c L (eqb (enc out6.length 0 (out6.map BuI.kv)) L) _ (Kd.reads1 HO4.out) (Kd.reads2 HO4.out) (Kd.C_below HCLr.out HB4.out) HC1.out HQ.out)).mono ?_
       rintro e W5 ⟨rfl, ⟨nq, rfl⟩⟩
       refine ⟨_, rfl, ?_⟩
       refine hK.out _ _ ((blk_cell (blk_drewN (blk_below HT.out HB4.out) nq) 0).trans rfl) (fun hHeld => ?_)
       clear hK K
       refine norm_ (a' := ?_) ?_ ?_
       rotate_left
       ·
        show Act.put _ (some 69) _ = _
        simp only [Act.put, zSA, zSB, zSC, i64_w, i32_w]
        rfl
       refine pure_ (i := 7) (N := some 2) (v := ?_) (a' := ?_) #[true, true, true, true, true, true, true, true, false] rfl rfl (by kernel_rfl) (fun _ _ _ h => h) (Or.inl ⟨by rfl, ?_⟩) ?_ ?_
       rotate_left
       ·
        intro w'
        go_simp
        with_reducible rfl
       rotate_left
       ·
        simp only [Act.put, zSA, zSB, zSC, i64_w, i32_w]
        rfl
       refine pure_ (i := 8) (N := some 3) (v := ?_) (a' := ?_) #[true, true, true, true, true, true, true, true, true] rfl rfl (by kernel_rfl) (fun _ _ _ h => h) (Or.inl ⟨by rfl, ?_⟩) ?_ ?_
       rotate_left
       ·
        intro w'
        go_simp
        with_reducible rfl
       rotate_left
       ·
        simp only [Act.put, zSA, zSB, zSC, i64_w, i32_w]
        rfl
       refine done_ (by kernel_rfl) ?_
       go_wp2
       go_ret2
       exact ⟨_, by rw [HEB.out]; rfl, by rw [HEB.out]; exact Kd.R_drewN (Kd.R_below (Kd.R_lower HR.out (by have := HS5.out; omega)) HB4.out) _, pw_below_drewN (below_step HBw.out HB4.out) _⟩
    ·
     have ea : ansP L = ([], false) := by unfold ansP; rw [if_neg HL.out.1, if_neg HL.out.2, hp]; exact if_neg hn
     have HEA := aM ea
     have k1 : ((nx6 : Int) != (L.length : Int)) = true := by simp; omega
     clear ea hp
     go_wp2
     go_ret2
     exact ⟨_, by rw [HEA.out]; rfl, by rw [HEA.out]; exact Kd.R_nil _ _ _ _ _, HBw6.out⟩
end Go.Proofs.Ytjknkeipginpcaa.Po
end

section
namespace Go.Proofs.Ytjknkeipginpcaa.PQ
open Go.RowKit Go.Proofs.YtjknkeipginpcaaW.PrintWords Go.Proofs.YtjknkeipginpcaaW.PrintLast Go.Proofs.YtjknkeipginpcaaW.PrintMore
attribute [local go_sem] max2_int min2_int max_two min_two max_three min_three max_four min_four
set_option linter.unusedVariables false
set_option linter.unusedSimpArgs false
def spec_l7Treap.f (l0 : List (S74)) : Option (List (S71)) := if (l0.length ≤ 1048576 ∧ ∀ x ∈ l0, x.f0.size ≤ 1048576) then some (Tr.enc l0.length 0 (l0.map BuS.kv)) else none
theorem spec_l7Treap.calls (A0 : Option Addr) (c0 : Nat) (l0 : List (S74)) (r : List (S71)) (w : World) (hr0 : Kd.C k74 w A0 l0.length l0) (hc0 : l0.length ≤ c0) (h : spec_l7Treap.f l0 = some r) :
  Calls Try.prog 56 #[.slice A0 l0.length c0] w fun e w' => ∃ v0_ : Value, e = .returned (.agg #[v0_]) ∧ Kd.R k71 71 w' w.heap.size (fun _ => True) v0_ r ∧ Below w.heap.size w w' := by
 unfold spec_l7Treap.f at h
 split at h
 ·
  rename_i hs
  obtain rfl := Option.some.inj h
  refine Tr.treapS l0 A0 c0 w hr0 hc0 hs.1 (fun i hi => ?_)
  have e : rd_T74 l0 (i : Int) = l0[i] := by
   unfold rd_T74
   simp [hi]
  rw [e]
  exact hs.2 _ (List.getElem_mem hi)
 ·
  cases h

end Go.Proofs.Ytjknkeipginpcaa.PQ
end

section
namespace Go.Proofs.Ytjknkeipginpcaa.PQ
open Go.RowKit Go.Proofs.YtjknkeipginpcaaW.PrintWords Go.Proofs.YtjknkeipginpcaaW.PrintLast Go.Proofs.YtjknkeipginpcaaW.PrintMore
attribute [local go_sem] max2_int min2_int max_two min_two max_three min_three max_four min_four
set_option linter.unusedVariables false
set_option linter.unusedSimpArgs false
attribute [local go_sem high] eqA71
attribute [local go_sem] Go.Proofs.Ytjknkeipginpcaa.StrO.leq_s Go.Proofs.Ytjknkeipginpcaa.StrO.gtr_s Go.Proofs.Ytjknkeipginpcaa.StrO.geq_s
mutual
def spec_l7Of.l0 : Nat → Int → List Bool → List (S71) → Int → Int → List (S71) → Option ((List (S74)) × Bool)
 | 0, _, _, _, _, _, _ => none
 | k + 1, x4, x5, x26, x27, x28, x190000 => if x28 < x27 then (if 0 ≤ x28 then (if x28 < (x26.length : Int) then ((some (([(rd_T71 x26 x28).f2, (rd_T71 x26 x28).f3] : List Int) : List Int)).bind fun y195 => (spec_l7Of.l1 k x4 x5 x28 x26 x27 x28 y195 (y195.length : Int) 0 x190000)) else (none)) else (none)) else ((spec_l7Pairs.f k x190000 0 1).bind fun bt202 => (if bt202.2 = true then (spec_l7Of.j2 k bt202.1 ((bt202.1.length : Int) != x4) x190000) else (spec_l7Of.j2 k bt202.1 true x190000)))
def spec_l7Of.l1 : Nat → Int → List Bool → Int → List (S71) → Int → Int → List Int → Int → Int → List (S71) → Option ((List (S74)) × Bool)
 | 0, _, _, _, _, _, _, _, _, _, _ => none
 | k + 1, x4, x5, x6, x26, x27, x28, x37, x38, x39, x190000 => if x39 < x38 then (if 0 ≤ x39 then (if x39 < (x37.length : Int) then (if (rd x37 x39) = (-1) then (spec_l7Of.l1 k x4 x5 x6 x26 x27 x28 x37 x38 (wrap64 (x39 + 1)) x190000) else ((spec_l1In.f (rd x37 x39) (wrap64 (x6 + 1)) (wrap64 (x4 - 1))).bind fun t199 => (if t199 = true then (if 0 ≤ (rd x37 x39) then (if (rd x37 x39) < (x5.length : Int) then (if rdOf false x5 (rd x37 x39) = true then (some (([] : List (S74)), false)) else (spec_l7Of.l1 k x4 (x5.set ((rd x37 x39) : Int).toNat true) x6 x26 x27 x28 x37 x38 (wrap64 (x39 + 1)) x190000)) else (none)) else (none)) else (some (([] : List (S74)), false))))) else (none)) else (none)) else (spec_l7Of.l0 k x4 x5 x26 x27 (wrap64 (x28 + 1)) x190000)
def spec_l7Of.j2 : Nat → List (S74) → Bool → List (S71) → Option ((List (S74)) × Bool)
 | 0, _, _, _ => none
 | k + 1, x10, x75, x190000 => if x75 = true then (some (([] : List (S74)), false)) else (spec_l7Of.l2 k x10 x10 (x10.length : Int) 0 x190000)
def spec_l7Of.l2 : Nat → List (S74) → List (S74) → Int → Int → List (S71) → Option ((List (S74)) × Bool)
 | 0, _, _, _, _, _ => none
 | k + 1, x10, x76, x77, x78, x190000 => if x78 < x77 then (if 0 ≤ x78 then (if x78 < (x76.length : Int) then ((spec_l1In.f (((rd_T74 x76 x78).f0).size : Int) 1 40).bind fun t208 => (if t208 = true then (if (((rd_T74 x76 x78).f1).size : Int) > 60 then (some (([] : List (S74)), false)) else (if x78 > 0 then (if 0 ≤ (wrap64 (x78 - 1)) then (if (wrap64 (x78 - 1)) < (x10.length : Int) then (if ((Op.bytesLess (((rd_T74 x10 (wrap64 (x78 - 1))).f0).toList) (((rd_T74 x76 x78).f0).toList)) = true) then (spec_l7Of.l2 k x10 x76 x77 (wrap64 (x78 + 1)) x190000) else (some (([] : List (S74)), false))) else (none)) else (none)) else (spec_l7Of.l2 k x10 x76 x77 (wrap64 (x78 + 1)) x190000))) else (some (([] : List (S74)), false)))) else (none)) else (none)) else ((spec_l7Treap.f x10).bind fun t210 => (spec_l7Of.l3 k x10 (t210.length : Int) 0 x190000 t210))
def spec_l7Of.l3 : Nat → List (S74) → Int → Int → List (S71) → List (S71) → Option ((List (S74)) × Bool)
 | 0, _, _, _, _, _ => none
 | k + 1, x10, x114, x115, x190000, x214000 => if x115 < x114 then (if 0 ≤ x115 then (if x115 < (x214000.length : Int) then (if x115 < (x190000.length : Int) then (if (!((((rd_T71 x214000 x115).f0).toList) == (((rd_T71 x190000 x115).f0).toList)) || (!((((rd_T71 x214000 x115).f1).toList) == (((rd_T71 x190000 x115).f1).toList)) || (!(((rd_T71 x214000 x115).f2) == ((rd_T71 x190000 x115).f2)) || (!(((rd_T71 x214000 x115).f3) == ((rd_T71 x190000 x115).f3)))))) = true then (some (([] : List (S74)), false)) else (spec_l7Of.l3 k x10 x114 (wrap64 (x115 + 1)) x190000 x214000)) else (none)) else (none)) else (none)) else (some (x10, true))
end
def spec_l7Of.f (k : Nat) (l0_0 : List (S71)) : Option ((List (S74)) × Bool) := if (l0_0.length : Int) = 0 then (some (([] : List (S74)), true)) else (if (l0_0.length : Int) > 60 then (some (([] : List (S74)), false)) else (if 0 ≤ (l0_0.length : Int) then (if ((l0_0.length : Int) : Int).toNat ≤ 281474976710656 then (spec_l7Of.l0 k (l0_0.length : Int) (List.replicate ((l0_0.length : Int) : Int).toNat false) l0_0 (l0_0.length : Int) 0 l0_0) else (none)) else (none)))
set_option maxHeartbeats 8000000 in
set_option maxRecDepth 100000 in
theorem spec_l7Of.calls (k : Nat) (A0_0 : Option Addr) (c0_0 : Nat) (l0_0 : List (S71)) (r1 : List (S74)) (r2 : Bool) (w : World) (hr0_0 : Kd.C k71 w A0_0 l0_0.length l0_0) (hc0_0 : l0_0.length ≤ c0_0) (h : spec_l7Of.f k l0_0 = some (r1, r2)) :
  Calls Try.prog 47 #[.agg #[.slice A0_0 l0_0.length c0_0]] w fun e w' => ∃ v0_ : Value, e = .returned (.tuple #[v0_, .bool r2]) ∧ Kd.R k74 74 w' w.heap.size (fun _ => True) v0_ r1 ∧ Below w.heap.size w w' := by
 have hu29 := Try.underlying29
 have hu71 := Try.underlying71
 have hu74 := Try.underlying74
 have HR0_0 := aM hr0_0
 have HC0_0 := aM hc0_0
 clear hr0_0 hc0_0
 have HB := aM (Below.refl w.heap.size w)
 have H : (if (l0_0.length : Int) = 0 then (some (([] : List (S74)), true)) else (if (l0_0.length : Int) > 60 then (some (([] : List (S74)), false)) else (if 0 ≤ (l0_0.length : Int) then (if ((l0_0.length : Int) : Int).toNat ≤ 281474976710656 then (spec_l7Of.l0 k (l0_0.length : Int) (List.replicate ((l0_0.length : Int) : Int).toNat false) l0_0 (l0_0.length : Int) 0 l0_0) else (none)) else (none)))) = some (r1, r2) := h
 clear h
 by_cases c2 : (l0_0.length : Int) = 0
 ·
  rw [if_pos c2] at H
  have c2b0 : ((l0_0.length : Int) == 0) = true := beq_iff_eq.mpr c2
  have c2b1 : ((l0_0.length : Int) != 0) = false := bne_eq_false_iff_eq.mpr c2
  clear c2
  simp only [Option.some.injEq, Prod.mk.injEq] at H
  obtain ⟨rfl, rfl⟩ := H
  go_enter Try.func47, Try.ntmps47
  go_wp2_with (((with_reducible refine gate_dst (N := 1) rfl ?_); (try (refine gate_guard (by rfl) ?_; dsimp only)); refine box_event ?hg (N := 1) ?hd (cs := #[.slice A0_0 l0_0.length c0_0]) (t := 29) ?hr ?_; (case hd => rfl); (case hg => rfl); (case hr => first | (go_simp; done) | (go_simp; rfl)); intro gb189 hg w3 hbox hb; have n0_ := aM (below_step (gB HB.out) hb); have n1_ := aM (hbox); have n2_ := aM ((by rw [hg]; exact (below_size (gB HB.out)) : w.heap.size ≤ gb189)); have n3_ := aM ((by rw [hg]; exact (below_size (gB HB.out)) : w.heap.size ≤ gb189)); clear HB; have HB := n0_; have BK189 := n1_; have GW189 := n2_; have GE189 := n3_; clear n0_ n1_ n2_ n3_; clear hb hbox hg; have hcz4_0 : w3.cell? ⟨gb189, 0, none⟩ = some (.slice A0_0 l0_0.length c0_0) := (blk_cell BK189.out 0).trans rfl; have hfz4_0 := blk_frozen BK189.out 0))
  repeat (go_quiet (fail); try go_wp2)
  go_ret2
  exact ⟨_, by first | rfl | (simp [errW_none, errW_some] <;> rfl) | (simp [*, errW_none, errW_some] <;> rfl), by first | exact Kd.R_nil _ _ _ _ _ | exact Kd.N_nil _ _ _ _ _ | exact Kd.V_nil _ _ _ _ _ | exact Kd.Q_nil _ _ _ _ _ | exact Kd.S_nil _ _ _ _ _, by repeat (first | (with_reducible first | exact HB.out | apply below_alloc | apply pw_below_drewN | apply below_drew1 | refine below_set ?_ GE189.out) | exact HB.out)⟩
 ·
  rw [if_neg c2] at H
  have c2b0 : ((l0_0.length : Int) == 0) = false := beq_eq_false_iff_ne.mpr c2
  have c2b1 : ((l0_0.length : Int) != 0) = true := bne_iff_ne.mpr c2
  have c2b2 : ¬ (l0_0 = []) := fun h_ => c2 (by rw [h_]; rfl)
  by_cases c5 : (l0_0.length : Int) > 60
  ·
   rw [if_pos c5] at H
   have c5b0 : decide (60 < (l0_0.length : Int)) = true := decide_eq_true c5
   have c5b1 : decide (60 < l0_0.length) = true := decide_eq_true (by omega)
   clear c5
   simp only [Option.some.injEq, Prod.mk.injEq] at H
   obtain ⟨rfl, rfl⟩ := H
   go_enter Try.func47, Try.ntmps47
   go_wp2_with (((with_reducible refine gate_dst (N := 1) rfl ?_); (try (refine gate_guard (by rfl) ?_; dsimp only)); refine box_event ?hg (N := 1) ?hd (cs := #[.slice A0_0 l0_0.length c0_0]) (t := 29) ?hr ?_; (case hd => rfl); (case hg => rfl); (case hr => first | (go_simp; done) | (go_simp; rfl)); intro gb189 hg w6 hbox hb; have n0_ := aM (below_step (gB HB.out) hb); have n1_ := aM (hbox); have n2_ := aM ((by rw [hg]; exact (below_size (gB HB.out)) : w.heap.size ≤ gb189)); have n3_ := aM ((by rw [hg]; exact (below_size (gB HB.out)) : w.heap.size ≤ gb189)); clear HB; have HB := n0_; have BK189 := n1_; have GW189 := n2_; have GE189 := n3_; clear n0_ n1_ n2_ n3_; clear hb hbox hg; have hcz7_0 : w6.cell? ⟨gb189, 0, none⟩ = some (.slice A0_0 l0_0.length c0_0) := (blk_cell BK189.out 0).trans rfl; have hfz7_0 := blk_frozen BK189.out 0))
   repeat (go_quiet (fail); try go_wp2)
   go_ret2
   exact ⟨_, by first | rfl | (simp [errW_none, errW_some] <;> rfl) | (simp [*, errW_none, errW_some] <;> rfl), by first | exact Kd.R_nil _ _ _ _ _ | exact Kd.N_nil _ _ _ _ _ | exact Kd.V_nil _ _ _ _ _ | exact Kd.Q_nil _ _ _ _ _ | exact Kd.S_nil _ _ _ _ _, by repeat (first | (with_reducible first | exact HB.out | apply below_alloc | apply pw_below_drewN | apply below_drew1 | refine below_set ?_ GE189.out) | exact HB.out)⟩
  ·
   rw [if_neg c5] at H
   have c5b0 : decide (60 < (l0_0.length : Int)) = false := decide_eq_false c5
   have c5b1 : decide (60 < l0_0.length) = false := decide_eq_false (by omega)
   clear c5
   by_cases c8 : 0 ≤ (l0_0.length : Int)
   ·
    rw [if_pos c8] at H
    have c8b0 := eq_true c8
    have c8b1 : decide (0 ≤ (l0_0.length : Int)) = true := decide_eq_true c8
    clear c8
    by_cases c9 : ((l0_0.length : Int) : Int).toNat ≤ 281474976710656
    ·
     rw [if_pos c9] at H
     have c9b0 := eq_true c9
     have c9b1 : decide (((l0_0.length : Int) : Int).toNat ≤ 281474976710656) = true := decide_eq_true c9
     clear c9
     obtain ⟨y190, hy190⟩ : ∃ y_ : List Bool, y_ = (List.replicate ((l0_0.length : Int) : Int).toNat false) := ⟨_, rfl⟩
     replace H : (spec_l7Of.l0 k (l0_0.length : Int) y190 l0_0 (l0_0.length : Int) 0 l0_0) = some (r1, r2) := by first | (rw [hy190]; with_reducible exact H) | (have H2_ := (Option.bind_some _ _).symm.trans H; rw [hy190]; with_reducible exact H2_) | (have H2_ := (Option.bind_some _ _).symm.trans H; with_reducible exact H2_) | with_reducible exact H | (rw [hy190]; exact H) | exact H
     have Ny190 := aM hy190
     clear hy190
     have H' := aM H
     clear H
     go_enter Try.func47, Try.ntmps47
     go_wp2_with (first | ((with_reducible refine gate_dst (N := 1) rfl ?_); (try (refine gate_guard (by rfl) ?_; dsimp only)); refine box_event ?hg (N := 1) ?hd (cs := #[.slice A0_0 l0_0.length c0_0]) (t := 29) ?hr ?_; (case hd => rfl); (case hg => rfl); (case hr => first | (go_simp; done) | (go_simp; rfl)); intro gb189 hg w10 hbox hb; have n0_ := aM (below_step (gB HB.out) hb); have n1_ := aM (hbox); have n2_ := aM ((by rw [hg]; exact (below_size (gB HB.out)) : w.heap.size ≤ gb189)); have n3_ := aM ((by rw [hg]; exact (below_size (gB HB.out)) : w.heap.size ≤ gb189)); clear HB; have HB := n0_; have BK189 := n1_; have GW189 := n2_; have GE189 := n3_; clear n0_ n1_ n2_ n3_; clear hb hbox hg; have hcz11_0 : w10.cell? ⟨gb189, 0, none⟩ = some (.slice A0_0 l0_0.length c0_0) := (blk_cell BK189.out 0).trans rfl; have hfz11_0 := blk_frozen BK189.out 0) | ((with_reducible refine gate_dst (N := 24) rfl ?_); (try (refine gate_guard (by rfl) ?_; dsimp only)); refine Kd.R_make Kd.bool _ 4 rfl (N := 24) rfl 100 _ _ rfl (l0_0.length : Int) rfl rfl Try.underlying100 (.bool false) 1 info4 rfl (by decide) (by omega) false (ok := fun _ => True) (okp := fun _ => True) rfl (fun _ hk => hk) trivial (of_decide_eq_true (by first | (with_reducible assumption) | assumption)) (Nat.le_trans (Nat.mul_le_mul_right _ (of_decide_eq_true (by first | (with_reducible assumption) | assumption) : (l0_0.length : Int).toNat ≤ 281474976710656)) (by omega)) (Below.refl _ _) (Nat.le_refl _) ?_; intro v191 w12 ho13 hb hg_ hnew_; clear hg_ hnew_; (first | rw [← Ny190.out] at ho13 | (simp only [Int.reduceToNat] at ho13; rw [← Ny190.out] at ho13)); have n0_ := aM (Kd.R_lower ho13 (below_size (gB HB.out))); have n1_ := aM (blk_below (g := gb189) (o := .cells #[.slice A0_0 l0_0.length c0_0] 29 (0, 0)) (gK BK189.out) hb); have n2_ := aM (below_step (gB HB.out) hb); clear BK189; clear HB; have HO192 := n0_; have BK189 := n1_; have HB := n2_; clear n0_ n1_ n2_; clear hb ho13; have hcz14_0 : w12.cell? ⟨gb189, 0, none⟩ = some (.slice A0_0 l0_0.length c0_0) := (blk_cell BK189.out 0).trans rfl; have hfz14_0 := blk_frozen BK189.out 0))
     repeat (go_quiet (fail); try go_wp2)
     go_loopg [28] k (fun kq v28 w' => ∃ (x5_1 : List Bool) (x28_1 : Int), v28 = .int .i64 x28_1 ∧ Aside0 (spec_l7Of.l0 kq (l0_0.length : Int) x5_1 l0_0 (l0_0.length : Int) x28_1 l0_0 = some (r1, r2)) ∧ Aside0 (kq ≤ k) ∧ Aside0 (Kd.R Kd.bool 4 w' w.heap.size (fun _ => True) v191 x5_1) ∧ Aside0 (w'.heap[gb189]? = some (.cells #[(.slice A0_0 l0_0.length c0_0)] 29 (0, 0))) ∧ Aside0 (Below w.heap.size w w'))
     case atStart => exact ⟨(y190), (0), (by first | rfl | (simp; done) | (simp [*]; done)), H', ⟨Nat.le_refl _⟩, ⟨gR HO192.out⟩, ⟨gK BK189.out⟩, ⟨by repeat (first | (with_reducible first | exact HB.out | apply below_alloc | apply pw_below_drewN | apply below_drew1 | refine below_set ?_ GE189.out) | exact HB.out)⟩⟩
     case round =>
      clear H'
      try clear c2
      try clear c2b0
      try clear c2b1
      try clear c2b2
      try clear p2
      try clear c4
      try clear c5
      try clear c5b0
      try clear c5b1
      try clear c8
      try clear c8b0
      try clear c8b1
      try clear c9
      try clear c9b0
      try clear c9b1
      try clear hcz11_0
      try clear hcz14_0
      try clear hcz4_0
      try clear hcz7_0
      try clear hfz11_0
      try clear hfz14_0
      try clear hfz4_0
      try clear hfz7_0
      obtain ⟨x5_1, x28_1, rfl, HA, HK1, HO_5, BK189, HB⟩ := hrel
      cases gk with
      | zero => exact absurd HA.out (by simp [spec_l7Of.l0])
      | succ k1 =>
       have H := HA.out
       clear HA
       simp only [spec_l7Of.l0] at H
       by_cases c15 : x28_1 < (l0_0.length : Int)
       ·
        rw [if_pos c15] at H
        have c15b0 : decide (x28_1 < (l0_0.length : Int)) = true := decide_eq_true c15
        clear c15
        by_cases c16 : 0 ≤ x28_1
        ·
         rw [if_pos c16] at H
         have c16b0 : decide (0 ≤ x28_1) = true := decide_eq_true c16
         clear c16
         by_cases c17 : x28_1 < (l0_0.length : Int)
         ·
          rw [if_pos c17] at H
          have c17b0 : decide (x28_1 < (l0_0.length : Int)) = true := decide_eq_true c17
          clear c17
          obtain ⟨y195, hy195⟩ : ∃ y_ : List Int, y_ = (([(rd_T71 l0_0 x28_1).f2, (rd_T71 l0_0 x28_1).f3] : List Int)) := ⟨_, rfl⟩
          replace H : (spec_l7Of.l1 k1 (l0_0.length : Int) x5_1 x28_1 l0_0 (l0_0.length : Int) x28_1 y195 (y195.length : Int) 0 l0_0) = some (r1, r2) := by first | (rw [hy195]; with_reducible exact H) | (have H2_ := (Option.bind_some _ _).symm.trans H; rw [hy195]; with_reducible exact H2_) | (have H2_ := (Option.bind_some _ _).symm.trans H; with_reducible exact H2_) | with_reducible exact H | (rw [hy195]; exact H) | exact H
          have Ny195 := aM hy195
          clear hy195
          have H' := aM H
          clear H
          have p193 : 0 ≤ (x28_1 : Int) := of_decide_eq_true (by first | (with_reducible assumption) | assumption)
          have q193 : x28_1 < (l0_0.length : Int) := of_decide_eq_true (by first | (with_reducible assumption) | assumption)
          obtain ⟨ad193, e193, hx193_0, hx193_1, hx193_2, hx193_3⟩ := at_T71 HR0_0.out x28_1 p193 q193
          cases e193
          try have hz_hx193_0 := aM hx193_0
          try have hz_hx193_1 := aM hx193_1
          try have hz_hx193_2 := aM hx193_2
          try have hz_hx193_3 := aM hx193_3
          replace hx193_0 := (HB.out.cell (World.block_lt_of_cell? w _ hx193_0)).trans hx193_0
          replace hx193_1 := (HB.out.cell (World.block_lt_of_cell? w _ hx193_1)).trans hx193_1
          replace hx193_2 := (HB.out.cell (World.block_lt_of_cell? w _ hx193_2)).trans hx193_2
          replace hx193_3 := (HB.out.cell (World.block_lt_of_cell? w _ hx193_3)).trans hx193_3
          replace p193 := eq_true p193
          replace q193 := eq_true q193
          go_wp2_with (first | ((with_reducible refine gate_dst (N := 7) rfl ?_); (try (refine gate_guard (by rfl) ?_; dsimp only)); refine box_event ?hg (N := 7) ?hd (cs := #[.string (⟨#[]⟩ : ByteArray), .string (⟨#[]⟩ : ByteArray), .int .i64 0, .int .i64 0]) (t := 71) ?hr ?_; (case hd => rfl); (case hg => rfl); (case hr => first | (go_simp; done) | (go_simp; rfl)); intro gb194 hg w18 hbox hb; have n0_ := aM (Kd.R_below (gR HO_5.out) hb); have n1_ := aM (blk_below (g := gb189) (o := .cells #[.slice (some ad193) l0_0.length c0_0] 29 (0, 0)) (gK BK189.out) hb); have n2_ := aM (below_step (by repeat (first | (with_reducible first | exact HB.out | apply below_alloc | apply pw_below_drewN | apply below_drew1 | refine below_set ?_ GE189.out) | exact HB.out)) hb); have n3_ := aM (hbox); have n4_ := aM ((by rw [hg]; exact (below_size (by repeat (first | (with_reducible first | exact HB.out | apply below_alloc | apply pw_below_drewN | apply below_drew1 | refine below_set ?_ GE189.out) | exact HB.out))) : w.heap.size ≤ gb194)); have n5_ := aM ((by rw [hg]; exact (below_size (by repeat (first | (with_reducible first | exact HB.out | apply below_alloc | apply pw_below_drewN | apply below_drew1 | refine below_set ?_ GE189.out) | exact HB.out))) : w.heap.size ≤ gb194)); have n6_ := aM ((by rw [hg]; exact Nat.ne_of_lt (blk_lt (g := gb189) (o := .cells #[.slice (some ad193) l0_0.length c0_0] 29 (0, 0)) (gK BK189.out)) : gb189 ≠ gb194)); have n7_ := aM ((by rw [hg]; exact Nat.ne_of_gt (blk_lt (g := gb189) (o := .cells #[.slice (some ad193) l0_0.length c0_0] 29 (0, 0)) (gK BK189.out)) : gb194 ≠ gb189)); clear HO_5; clear BK189; clear HB; have HO_5 := n0_; have BK189 := n1_; have HB := n2_; have BK194 := n3_; have GW194 := n4_; have GE194 := n5_; have NB189_194 := n6_; have NB194_189 := n7_; clear n0_ n1_ n2_ n3_ n4_ n5_ n6_ n7_; clear hb hbox hg; have hnb19 := NB194_189.out; have hnc19 := NB189_194.out; have hcz20_0 : w18.cell? ⟨gb194, 0, none⟩ = some (.string (⟨#[]⟩ : ByteArray)) := (blk_cell BK194.out 0).trans rfl; have hcz20_1 : w18.cell? ⟨gb194, 1, none⟩ = some (.string (⟨#[]⟩ : ByteArray)) := (blk_cell BK194.out 1).trans rfl; have hcz20_2 : w18.cell? ⟨gb194, 2, none⟩ = some (.int .i64 0) := (blk_cell BK194.out 2).trans rfl; have hcz20_3 : w18.cell? ⟨gb194, 3, none⟩ = some (.int .i64 0) := (blk_cell BK194.out 3).trans rfl; have hfz20_0 := blk_frozen BK194.out 0; have hfz20_1 := blk_frozen BK194.out 1; have hfz20_2 := blk_frozen BK194.out 2; have hfz20_3 := blk_frozen BK194.out 3) | ((with_reducible refine gate_dst (N := 37) rfl ?_); (try (refine gate_guard (by rfl) ?_; dsimp only)); refine Kd.R_lit (Kd.int .i64) _ 3 ?hg (N := 37) ?hd (xs := ([(rd_T71 l0_0 x28_1).f2, (rd_T71 l0_0 x28_1).f3] : List Int)) (inner := [.int .i64 ((rd_T71 l0_0 x28_1).f2), .int .i64 ((rd_T71 l0_0 x28_1).f3)]) (ok := fun _ => True) (okp := fun _ => True) ?hr ?hp (fun _ hk => hk) trivial (Below.refl _ _) (Nat.le_refl _) (by simp) ?_; (case hd => rfl); (case hg => rfl); (case hr => first | (go_simp; done) | (go_simp; rfl)); (case hp => exact (Reps.one (show Kd.M (Kd.int .i64) _ _ _ ((rd_T71 l0_0 x28_1).f2) [.int .i64 ((rd_T71 l0_0 x28_1).f2)] from rfl) (Reps.one (show Kd.M (Kd.int .i64) _ _ _ ((rd_T71 l0_0 x28_1).f3) [.int .i64 ((rd_T71 l0_0 x28_1).f3)] from rfl) (Reps.none _ _)))); intro v196 w21 ho22 hb hg_ hnew_; clear hg_ hnew_; (first | rw [← Ny195.out] at ho22 | (simp only [Int.reduceToNat] at ho22; rw [← Ny195.out] at ho22)); have n0_ := aM (Kd.R_below (by (with_reducible repeat (first | apply Kd.R_alloc | apply Kd.R_drewN | apply Kd.R_drew)); exact (Kd.R_mono (Kd.R_far (p := ⟨gb194, 3, none⟩) (Kd.R_far (p := ⟨gb194, 2, none⟩) (Kd.R_far (p := ⟨gb194, 1, none⟩) (Kd.R_far (p := ⟨gb194, 0, none⟩) (Kd.R_types HO_5.out BK194.out (by decide)) (fun _ hk => hk.2) (.string ((rd_T71 l0_0 x28_1).f0))) (fun _ hk => hk.2) (.string ((rd_T71 l0_0 x28_1).f1))) (fun _ hk => hk.2) (.int .i64 ((rd_T71 l0_0 x28_1).f2))) (fun _ hk => hk.2) (.int .i64 ((rd_T71 l0_0 x28_1).f3))) (fun _ h_ => h_.1))) hb); have n1_ := aM (Kd.R_lower ho22 (below_size (by repeat (first | (with_reducible first | exact HB.out | apply below_alloc | apply pw_below_drewN | apply below_drew1 | refine below_set ?_ GE189.out | refine below_set ?_ GE194.out) | exact HB.out)))); have n2_ := aM (blk_below (g := gb189) (o := .cells #[.slice (some ad193) l0_0.length c0_0] 29 (0, 0)) (by (with_reducible repeat (first | refine blk_drewN ?_ _ | refine blk_drew ?_ | refine blk_alloc ?_ _)); refine blk_far ?_ NB189_194.out _; (with_reducible repeat (first | refine blk_drewN ?_ _ | refine blk_drew ?_ | refine blk_alloc ?_ _)); refine blk_far ?_ NB189_194.out _; (with_reducible repeat (first | refine blk_drewN ?_ _ | refine blk_drew ?_ | refine blk_alloc ?_ _)); refine blk_far ?_ NB189_194.out _; (with_reducible repeat (first | refine blk_drewN ?_ _ | refine blk_drew ?_ | refine blk_alloc ?_ _)); refine blk_far ?_ NB189_194.out _; (with_reducible repeat (first | refine blk_drewN ?_ _ | refine blk_drew ?_ | refine blk_alloc ?_ _)); exact BK189.out) hb); have n3_ := aM (blk_below (g := gb194) (o := .cells #[.string ((rd_T71 l0_0 x28_1).f0), .string ((rd_T71 l0_0 x28_1).f1), .int .i64 ((rd_T71 l0_0 x28_1).f2), .int .i64 ((rd_T71 l0_0 x28_1).f3)] 71 (0, 0)) (by (with_reducible repeat (first | refine blk_drewN ?_ _ | refine blk_drew ?_ | refine blk_alloc ?_ _)); refine blk_put (cs := #[.string ((rd_T71 l0_0 x28_1).f0), .string ((rd_T71 l0_0 x28_1).f1), .int .i64 ((rd_T71 l0_0 x28_1).f2), .int .i64 0]) ?_ 3 _ rfl; (with_reducible repeat (first | refine blk_drewN ?_ _ | refine blk_drew ?_ | refine blk_alloc ?_ _)); refine blk_put (cs := #[.string ((rd_T71 l0_0 x28_1).f0), .string ((rd_T71 l0_0 x28_1).f1), .int .i64 0, .int .i64 0]) ?_ 2 _ rfl; (with_reducible repeat (first | refine blk_drewN ?_ _ | refine blk_drew ?_ | refine blk_alloc ?_ _)); refine blk_put (cs := #[.string ((rd_T71 l0_0 x28_1).f0), .string (⟨#[]⟩ : ByteArray), .int .i64 0, .int .i64 0]) ?_ 1 _ rfl; (with_reducible repeat (first | refine blk_drewN ?_ _ | refine blk_drew ?_ | refine blk_alloc ?_ _)); refine blk_put (cs := #[.string (⟨#[]⟩ : ByteArray), .string (⟨#[]⟩ : ByteArray), .int .i64 0, .int .i64 0]) ?_ 0 _ rfl; (with_reducible repeat (first | refine blk_drewN ?_ _ | refine blk_drew ?_ | refine blk_alloc ?_ _)); exact BK194.out) hb); have n4_ := aM (below_step (by repeat (first | (with_reducible first | exact HB.out | apply below_alloc | apply pw_below_drewN | apply below_drew1 | refine below_set ?_ GE189.out | refine below_set ?_ GE194.out) | exact HB.out)) hb); clear HO_5; clear BK189; clear BK194; clear HB; have HO_5 := n0_; have HO197 := n1_; have BK189 := n2_; have BK194 := n3_; have HB := n4_; clear n0_ n1_ n2_ n3_ n4_; clear hb ho22; obtain ⟨Ao23, co23, eo23⟩ := Kd.R_slice HO197.out; subst eo23))
          repeat (go_quiet (fail); try go_wp2)
          go_loopg [39] k1 (fun kq v39 w' => ∃ (x5_2 : List Bool) (x39_2 : Int), v39 = .int .i64 x39_2 ∧ Aside0 (spec_l7Of.l1 kq (l0_0.length : Int) x5_2 x28_1 l0_0 (l0_0.length : Int) x28_1 y195 (y195.length : Int) x39_2 l0_0 = some (r1, r2)) ∧ Aside0 (kq ≤ k1) ∧ Aside0 (Kd.R Kd.bool 4 w' w.heap.size (fun _ => True) v191 x5_2) ∧ Aside0 (Kd.R (Kd.int .i64) 3 w' w.heap.size (fun _ => True) (.slice Ao23 y195.length co23) y195) ∧ Aside0 (w'.heap[gb189]? = some (.cells #[(.slice (some ad193) l0_0.length c0_0)] 29 (0, 0))) ∧ Aside0 (w'.heap[gb194]? = some (.cells #[.string ((rd_T71 l0_0 x28_1).f0), .string ((rd_T71 l0_0 x28_1).f1), .int .i64 ((rd_T71 l0_0 x28_1).f2), .int .i64 ((rd_T71 l0_0 x28_1).f3)] 71 (0, 0))) ∧ Aside0 (Below w.heap.size w w'))
          case atStart => exact ⟨(x5_1), (0), (by first | rfl | (simp; done) | (simp [*]; done)), H', ⟨Nat.le_refl _⟩, ⟨by (with_reducible repeat (first | apply Kd.R_alloc | apply Kd.R_drewN | apply Kd.R_drew)); exact HO_5.out⟩, ⟨by (with_reducible repeat (first | apply Kd.R_alloc | apply Kd.R_drewN | apply Kd.R_drew)); exact HO197.out⟩, ⟨by (with_reducible repeat (first | refine blk_drewN ?_ _ | refine blk_drew ?_ | refine blk_alloc ?_ _)); exact BK189.out⟩, ⟨by (with_reducible repeat (first | refine blk_drewN ?_ _ | refine blk_drew ?_ | refine blk_alloc ?_ _)); exact BK194.out⟩, ⟨by repeat (first | (with_reducible first | exact HB.out | apply below_alloc | apply pw_below_drewN | apply below_drew1 | refine below_set ?_ GE189.out | refine below_set ?_ GE194.out) | exact HB.out)⟩⟩
          case round =>
           clear H'
           try clear c1
           try clear p1
           try clear q1
           try clear hx1
           try clear c2
           try clear c2b0
           try clear c2b1
           try clear c2b2
           try clear p2
           try clear c4
           try clear c5
           try clear c5b0
           try clear c5b1
           try clear c8
           try clear c8b0
           try clear c8b1
           try clear c9
           try clear c9b0
           try clear c9b1
           try clear c15
           try clear c15b0
           try clear c16
           try clear c16b0
           try clear c17
           try clear c17b0
           try clear c19
           try clear p19
           try clear q19
           try clear hx19
           try clear hcz11_0
           try clear hcz14_0
           try clear hcz20_0
           try clear hcz20_1
           try clear hcz20_2
           try clear hcz20_3
           try clear hcz4_0
           try clear hcz7_0
           try clear hfz11_0
           try clear hfz14_0
           try clear hfz20_0
           try clear hfz20_1
           try clear hfz20_2
           try clear hfz20_3
           try clear hfz4_0
           try clear hfz7_0
           try clear hx193_0
           try clear hx193_1
           try clear hx193_2
           try clear hx193_3
           try clear p193
           try clear p2
           try clear q193
           obtain ⟨x5_2, x39_2, rfl, HA, HK2, HO_5, HO_37, BK189, BK194, HB⟩ := hrel
           cases gk with
           | zero => exact absurd HA.out (by simp [spec_l7Of.l1])
           | succ k2 =>
            have H := HA.out
            clear HA
            simp only [spec_l7Of.l1] at H
            by_cases c24 : x39_2 < (y195.length : Int)
            ·
             rw [if_pos c24] at H
             have c24b0 : decide (x39_2 < (y195.length : Int)) = true := decide_eq_true c24
             clear c24
             by_cases c25 : 0 ≤ x39_2
             ·
              rw [if_pos c25] at H
              have c25b0 : decide (0 ≤ x39_2) = true := decide_eq_true c25
              clear c25
              by_cases c26 : x39_2 < (y195.length : Int)
              ·
               rw [if_pos c26] at H
               have c26b0 : decide (x39_2 < (y195.length : Int)) = true := decide_eq_true c26
               clear c26
               by_cases c27 : (rd y195 x39_2) = (-1)
               ·
                rw [if_pos c27] at H
                have c27b0 : ((rd y195 x39_2) == (-1)) = true := beq_iff_eq.mpr c27
                have c27b1 : ((rd y195 x39_2) != (-1)) = false := bne_eq_false_iff_eq.mpr c27
                clear c27
                have H' := aM H
                clear H
                have p198 : 0 ≤ (x39_2 : Int) := of_decide_eq_true (by first | (with_reducible assumption) | assumption)
                have q198 : x39_2 < (y195.length : Int) := of_decide_eq_true (by first | (with_reducible assumption) | assumption)
                obtain ⟨ad198, e198, hx198_0⟩ := Kd.at_int (Kd.R_reads' HO_37.out).2.2 x39_2 p198 q198
                cases e198
                replace p198 := eq_true p198
                replace q198 := eq_true q198
                go_wp2
                go_roundg k2
                case measure => have := HK1.out; have := HK2.out; omega
                case rel => exact ⟨(x5_2), (wrap64 (x39_2 + 1)), (by first | rfl | (simp; done) | (simp [*]; done)), H', ⟨by have := HK1.out; have := HK2.out; omega⟩, ⟨gR HO_5.out⟩, ⟨gR HO_37.out⟩, ⟨gK BK189.out⟩, ⟨gK BK194.out⟩, ⟨by repeat (first | (with_reducible first | exact HB.out | apply below_alloc | apply pw_below_drewN | apply below_drew1 | refine below_set ?_ GE189.out | refine below_set ?_ GE194.out) | exact HB.out)⟩⟩
               ·
                rw [if_neg c27] at H
                have c27b0 : ((rd y195 x39_2) == (-1)) = false := beq_eq_false_iff_ne.mpr c27
                have c27b1 : ((rd y195 x39_2) != (-1)) = true := bne_iff_ne.mpr c27
                replace H := Option.bind_eq_some_iff.mp H
                obtain ⟨t199, A280, H⟩ := H
                replace H : (if t199 = true then (if 0 ≤ (rd y195 x39_2) then (if (rd y195 x39_2) < (x5_2.length : Int) then (if rdOf false x5_2 (rd y195 x39_2) = true then (some (([] : List (S74)), false)) else (spec_l7Of.l1 k2 (l0_0.length : Int) (x5_2.set ((rd y195 x39_2) : Int).toNat true) x28_1 l0_0 (l0_0.length : Int) x28_1 y195 (y195.length : Int) (wrap64 (x39_2 + 1)) l0_0)) else (none)) else (none)) else (some (([] : List (S74)), false))) = some (r1, r2) := H
                have A28 := aM A280
                clear A280
                by_cases c29 : t199 = true
                ·
                 subst c29
                 have H1 : (if 0 ≤ (rd y195 x39_2) then (if (rd y195 x39_2) < (x5_2.length : Int) then (if rdOf false x5_2 (rd y195 x39_2) = true then (some (([] : List (S74)), false)) else (spec_l7Of.l1 k2 (l0_0.length : Int) (x5_2.set ((rd y195 x39_2) : Int).toNat true) x28_1 l0_0 (l0_0.length : Int) x28_1 y195 (y195.length : Int) (wrap64 (x39_2 + 1)) l0_0)) else (none)) else (none)) = some (r1, r2) := by rw [if_pos rfl] at H; exact H
                 clear H
                 have H := H1
                 clear H1
                 by_cases c30 : 0 ≤ (rd y195 x39_2)
                 ·
                  rw [if_pos c30] at H
                  have c30b0 : decide (0 ≤ (rd y195 x39_2)) = true := decide_eq_true c30
                  clear c30
                  by_cases c31 : (rd y195 x39_2) < (x5_2.length : Int)
                  ·
                   rw [if_pos c31] at H
                   have c31b0 : decide ((rd y195 x39_2) < (x5_2.length : Int)) = true := decide_eq_true c31
                   clear c31
                   obtain ⟨bq32, hbq32⟩ : ∃ b_ : Bool, b_ = (rdOf false x5_2 (rd y195 x39_2)) := ⟨_, rfl⟩
                   replace H : (if bq32 = true then (some (([] : List (S74)), false)) else (spec_l7Of.l1 k2 (l0_0.length : Int) (x5_2.set ((rd y195 x39_2) : Int).toNat true) x28_1 l0_0 (l0_0.length : Int) x28_1 y195 (y195.length : Int) (wrap64 (x39_2 + 1)) l0_0)) = some (r1, r2) := by rw [← hbq32] at H; exact H
                   have Nbq32 := aM hbq32
                   clear hbq32
                   by_cases c33 : bq32 = true
                   ·
                    subst c33
                    have H1 : (some (([] : List (S74)), false)) = some (r1, r2) := by rw [if_pos rfl] at H; exact H
                    clear H
                    have H := H1
                    clear H1
                    simp only [Option.some.injEq, Prod.mk.injEq] at H
                    obtain ⟨rfl, rfl⟩ := H
                    have p198 : 0 ≤ (x39_2 : Int) := of_decide_eq_true (by first | (with_reducible assumption) | assumption)
                    have q198 : x39_2 < (y195.length : Int) := of_decide_eq_true (by first | (with_reducible assumption) | assumption)
                    obtain ⟨ad198, e198, hx198_0⟩ := Kd.at_int (Kd.R_reads' HO_37.out).2.2 x39_2 p198 q198
                    cases e198
                    replace p198 := eq_true p198
                    replace q198 := eq_true q198
                    go_wp2_with ((go_at_call 68; (try simp only [i64_w]); (with_reducible refine (spec_l1In.calls (rd y195 x39_2) (wrap64 (x28_1 + 1)) (wrap64 ((l0_0.length : Int) - 1)) true _ A28.out).mono ?_); rintro e w' ⟨rfl, ⟨nd, rfl⟩⟩; (try first | exact ⟨rfl, _, World.drewN_drewN _ _ _⟩ | exact ⟨rfl, _, Eq.trans (World.drewN_drewN _ _ _) (congrArg (World.drewN _) (Nat.add_assoc _ _ _))⟩); obtain ⟨Ao34, co34, eo34⟩ := Kd.R_slice HO_5.out; subst eo34; have p200 : 0 ≤ ((rd y195 x39_2) : Int) := of_decide_eq_true (by first | (with_reducible assumption) | assumption); have q200 : (rd y195 x39_2) < (x5_2.length : Int) := of_decide_eq_true (by first | (with_reducible assumption) | assumption); obtain ⟨ad200, e200, hx200_0⟩ := Kd.at_bool (Kd.R_reads' HO_5.out).2.2 (rd y195 x39_2) p200 q200; (try rw [← Nbq32.out] at hx200_0); cases e200; replace p200 := eq_true p200; replace q200 := eq_true q200))
                    go_ret2
                    exact ⟨_, by first | rfl | (simp [errW_none, errW_some] <;> rfl) | (simp [*, errW_none, errW_some] <;> rfl), by first | exact Kd.R_nil _ _ _ _ _ | exact Kd.N_nil _ _ _ _ _ | exact Kd.V_nil _ _ _ _ _ | exact Kd.Q_nil _ _ _ _ _ | exact Kd.S_nil _ _ _ _ _, by repeat (first | (with_reducible first | exact HB.out | apply below_alloc | apply pw_below_drewN | apply below_drew1 | refine below_set ?_ GE189.out | refine below_set ?_ GE194.out) | exact HB.out)⟩
                   ·
                    replace c33 := Bool.eq_false_iff.mpr c33
                    subst c33
                    have H1 : (spec_l7Of.l1 k2 (l0_0.length : Int) (x5_2.set ((rd y195 x39_2) : Int).toNat true) x28_1 l0_0 (l0_0.length : Int) x28_1 y195 (y195.length : Int) (wrap64 (x39_2 + 1)) l0_0) = some (r1, r2) := by rw [if_neg (show ¬ (false = true) by decide)] at H; exact H
                    clear H
                    have H := H1
                    clear H1
                    obtain ⟨y201, hy201⟩ : ∃ y_ : List Bool, y_ = (x5_2.set ((rd y195 x39_2) : Int).toNat true) := ⟨_, rfl⟩
                    replace H : (spec_l7Of.l1 k2 (l0_0.length : Int) y201 x28_1 l0_0 (l0_0.length : Int) x28_1 y195 (y195.length : Int) (wrap64 (x39_2 + 1)) l0_0) = some (r1, r2) := by first | (rw [hy201]; with_reducible exact H) | (have H2_ := (Option.bind_some _ _).symm.trans H; rw [hy201]; with_reducible exact H2_) | (have H2_ := (Option.bind_some _ _).symm.trans H; with_reducible exact H2_) | with_reducible exact H | (rw [hy201]; exact H) | exact H
                    have Ny201 := aM hy201
                    clear hy201
                    have H' := aM H
                    clear H
                    have p198 : 0 ≤ (x39_2 : Int) := of_decide_eq_true (by first | (with_reducible assumption) | assumption)
                    have q198 : x39_2 < (y195.length : Int) := of_decide_eq_true (by first | (with_reducible assumption) | assumption)
                    obtain ⟨ad198, e198, hx198_0⟩ := Kd.at_int (Kd.R_reads' HO_37.out).2.2 x39_2 p198 q198
                    cases e198
                    replace p198 := eq_true p198
                    replace q198 := eq_true q198
                    go_wp2_with (first | (go_at_call 68; (try simp only [i64_w]); (with_reducible refine (spec_l1In.calls (rd y195 x39_2) (wrap64 (x28_1 + 1)) (wrap64 ((l0_0.length : Int) - 1)) true _ A28.out).mono ?_); rintro e w' ⟨rfl, ⟨nd, rfl⟩⟩; (try first | exact ⟨rfl, _, World.drewN_drewN _ _ _⟩ | exact ⟨rfl, _, Eq.trans (World.drewN_drewN _ _ _) (congrArg (World.drewN _) (Nat.add_assoc _ _ _))⟩); obtain ⟨Ao36, co36, eo36⟩ := Kd.R_slice HO_5.out; subst eo36; have p200 : 0 ≤ ((rd y195 x39_2) : Int) := of_decide_eq_true (by first | (with_reducible assumption) | assumption); have q200 : (rd y195 x39_2) < (x5_2.length : Int) := of_decide_eq_true (by first | (with_reducible assumption) | assumption); obtain ⟨ad200, e200, hx200_0⟩ := Kd.at_bool (Kd.R_reads' HO_5.out).2.2 (rd y195 x39_2) p200 q200; (try rw [← Nbq32.out] at hx200_0); cases e200; replace p200 := eq_true p200; replace q200 := eq_true q200; have p35 : 0 ≤ ((rd y195 x39_2) : Int) := of_decide_eq_true (by first | (with_reducible assumption) | assumption); have q35 : ((rd y195 x39_2) : Int) < ((x5_2.length : Int) : Int) := of_decide_eq_true (by first | (with_reducible assumption) | assumption); obtain ⟨go35, co35, eo35, gb35, gl35, cl35, HG35⟩ := Kd.R_form HO_5.out (by omega); (first | cases eo35 | (injection eo35 with ea_ en_ ec_; (first | subst ea_ | (injection ea_ with ea_; subst ea_)); subst ec_; clear en_)); have GB35 := aM gb35; have GG35 := aM HG35; clear gb35 gl35 HG35; (first | simp only [add_plain] at hx200_0 | skip); obtain ⟨hx35_0, hf35_0⟩ := Kd.R_celln false HO_5.out ((rd y195 x39_2) : Int) p35 q35; replace p35 := eq_true p35; replace q35 := eq_true q35; obtain ⟨hy37_, hz37_⟩ := Kd.R_celln false HO_5.out ((rd y195 x39_2) : Int) (of_decide_eq_true (by first | (with_reducible assumption) | assumption)) (of_decide_eq_true (by first | (with_reducible assumption) | assumption)); have HP37 := Kd.R_putg HO_5.out ((rd y195 x39_2) : Int) true) | ((with_reducible refine gate_store (t := 4) (p := 60) rfl ?_); (try (rw [drewN_self wr]; generalize hq_ : World.drewN wr _ = wr; have n0_ := aM (Kd.R_at hq_ HO_5.out); have n1_ := aM (Kd.R_at hq_ HO_37.out); have n2_ := aM (blk_at hq_ BK189.out); have n3_ := aM (blk_at hq_ BK194.out); have n4_ := aM (below_at hq_ HB.out); clear hq_ HO_5 HO_37 BK189 BK194 HB; have HO_5 := n0_; have HO_37 := n1_; have BK189 := n2_; have BK194 := n3_; have HB := n4_; clear n0_ n1_ n2_ n3_ n4_; (try (obtain ⟨hy37_, hz37_⟩ := Kd.R_celln false HO_5.out ((rd y195 x39_2) : Int) (of_decide_eq_true (by first | (with_reducible assumption) | assumption)) (of_decide_eq_true (by first | (with_reducible assumption) | assumption)))); (try (have HP37 := Kd.R_putg HO_5.out ((rd y195 x39_2) : Int) true)))); refine store_event (t := 4) (p := 60) (v := ?vo_w38) (w1 := (wr.setCell ⟨go35, ((rd y195 x39_2) : Int).toNat, none⟩ (.bool true))) ?hg ?ho ?hn ?hr ?_; (case ho => rfl); (case hg => rfl); (case hn => rfl); (case hr => first | (go_simp; done) | (go_simp; rfl)); intro w38 hw; have hg : wr.grownBy w38 (some go35) := (by rw [hw]; exact HP37.2); have hp_ : Kd.R Kd.bool 4 w38 w.heap.size (fun _ => True) (.slice (some ⟨go35, 0, none⟩) x5_2.length co36) y201 := (by rw [hw, Ny201.out]; exact HP37.1); clear HP37; have n0_ := aM (hp_); have n1_ := aM (Kd.R_over' (v := (.slice (some ⟨go35, 0, none⟩) x5_2.length co36)) (gR HO_37.out) (Kd.R_typed HO_5.out) (by decide) hg); have n2_ := aM (blk_grown (g := gb189) (o := .cells #[.slice (some ad193) l0_0.length c0_0] 29 (0, 0)) (gK BK189.out) hg (Kd.R_ne HO_5.out BK189.out (by decide))); have n3_ := aM (blk_grown (g := gb194) (o := .cells #[.string ((rd_T71 l0_0 x28_1).f0), .string ((rd_T71 l0_0 x28_1).f1), .int .i64 ((rd_T71 l0_0 x28_1).f2), .int .i64 ((rd_T71 l0_0 x28_1).f3)] 71 (0, 0)) (gK BK194.out) hg (Kd.R_ne HO_5.out BK194.out (by decide))); have n4_ := aM ((by rw [hw]; exact below_set (HB.out) GB35.out : Below w.heap.size w w38)); clear HO_5; clear HO_37; clear BK189; clear BK194; clear HB; have HO_5 := n0_; have HO_37 := n1_; have BK189 := n2_; have BK194 := n3_; have HB := n4_; clear n0_ n1_ n2_ n3_ n4_; clear hg hw hp_))
                    go_roundg k2
                    case measure => have := HK1.out; have := HK2.out; omega
                    case rel => exact ⟨(y201), (wrap64 (x39_2 + 1)), (by first | rfl | (simp; done) | (simp [*]; done)), H', ⟨by have := HK1.out; have := HK2.out; omega⟩, ⟨gR HO_5.out⟩, ⟨gR HO_37.out⟩, ⟨gK BK189.out⟩, ⟨gK BK194.out⟩, ⟨by repeat (first | (with_reducible first | exact HB.out | apply below_alloc | apply pw_below_drewN | apply below_drew1 | refine below_set ?_ GE189.out | refine below_set ?_ GE194.out) | exact HB.out)⟩⟩
                  ·
                   rw [if_neg c31] at H
                   exact absurd H (by simp)
                 ·
                  rw [if_neg c30] at H
                  exact absurd H (by simp)
                ·
                 replace c29 := Bool.eq_false_iff.mpr c29
                 subst c29
                 have H1 : (some (([] : List (S74)), false)) = some (r1, r2) := by rw [if_neg (show ¬ (false = true) by decide)] at H; exact H
                 clear H
                 have H := H1
                 clear H1
                 simp only [Option.some.injEq, Prod.mk.injEq] at H
                 obtain ⟨rfl, rfl⟩ := H
                 have p198 : 0 ≤ (x39_2 : Int) := of_decide_eq_true (by first | (with_reducible assumption) | assumption)
                 have q198 : x39_2 < (y195.length : Int) := of_decide_eq_true (by first | (with_reducible assumption) | assumption)
                 obtain ⟨ad198, e198, hx198_0⟩ := Kd.at_int (Kd.R_reads' HO_37.out).2.2 x39_2 p198 q198
                 cases e198
                 replace p198 := eq_true p198
                 replace q198 := eq_true q198
                 go_wp2_with ((go_at_call 68; (try simp only [i64_w]); (with_reducible refine (spec_l1In.calls (rd y195 x39_2) (wrap64 (x28_1 + 1)) (wrap64 ((l0_0.length : Int) - 1)) false _ A28.out).mono ?_); rintro e w' ⟨rfl, ⟨nd, rfl⟩⟩; (try first | exact ⟨rfl, _, World.drewN_drewN _ _ _⟩ | exact ⟨rfl, _, Eq.trans (World.drewN_drewN _ _ _) (congrArg (World.drewN _) (Nat.add_assoc _ _ _))⟩)))
                 go_ret2
                 exact ⟨_, by first | rfl | (simp [errW_none, errW_some] <;> rfl) | (simp [*, errW_none, errW_some] <;> rfl), by first | exact Kd.R_nil _ _ _ _ _ | exact Kd.N_nil _ _ _ _ _ | exact Kd.V_nil _ _ _ _ _ | exact Kd.Q_nil _ _ _ _ _ | exact Kd.S_nil _ _ _ _ _, by repeat (first | (with_reducible first | exact HB.out | apply below_alloc | apply pw_below_drewN | apply below_drew1 | refine below_set ?_ GE189.out | refine below_set ?_ GE194.out) | exact HB.out)⟩
              ·
               rw [if_neg c26] at H
               exact absurd H (by simp)
             ·
              rw [if_neg c25] at H
              exact absurd H (by simp)
            ·
             rw [if_neg c24] at H
             have c24b0 : decide (x39_2 < (y195.length : Int)) = false := decide_eq_false c24
             clear c24
             have H' := aM H
             clear H
             go_wp2
             repeat (go_quiet (fail); try go_wp2)
             go_roundg k2
             case measure => have := HK1.out; have := HK2.out; omega
             case rel => exact ⟨(x5_2), (wrap64 (x28_1 + 1)), (by first | rfl | (simp; done) | (simp [*]; done)), H', ⟨by have := HK1.out; have := HK2.out; omega⟩, ⟨gR HO_5.out⟩, ⟨gK BK189.out⟩, ⟨by repeat (first | (with_reducible first | exact HB.out | apply below_alloc | apply pw_below_drewN | apply below_drew1 | refine below_set ?_ GE189.out | refine below_set ?_ GE194.out) | exact HB.out)⟩⟩
         ·
          rw [if_neg c17] at H
          exact absurd H (by simp)
        ·
         rw [if_neg c16] at H
         exact absurd H (by simp)
       ·
        rw [if_neg c15] at H
        have c15b0 : decide (x28_1 < (l0_0.length : Int)) = false := decide_eq_false c15
        clear c15
        replace H := Option.bind_eq_some_iff.mp H
        obtain ⟨⟨t202, t205⟩, A390, H⟩ := H
        replace H : (if t205 = true then (spec_l7Of.j2 k1 t202 ((t202.length : Int) != (l0_0.length : Int)) l0_0) else (spec_l7Of.j2 k1 t202 true l0_0)) = some (r1, r2) := H
        have A39 := aM A390
        clear A390
        have HC40 := aM H
        clear H
        have hcz41_0 : wr.cell? ⟨gb189, 0, none⟩ = some (.slice A0_0 l0_0.length c0_0) := (blk_cell BK189.out 0).trans rfl
        have hfz41_0 := blk_frozen BK189.out 0
        go_upto_region 20 with ((go_at_call 73; (try simp only [i64_w]); (with_reducible refine (spec_l7Pairs.calls k1 _ _ l0_0 0 1 t202 t205 _ ?side1 ?side2 A39.out).mono ?_); (case side1 => repeat (first | exact (Kd.C_below HR0_0.out HB.out) | (with_reducible refine Kd.C_alloc ?_ _) | (with_reducible refine Kd.C_drewN ?_ _) | (with_reducible refine Kd.C_drew ?_))); (case side2 => exact HC0_0.out); rintro e w42 ⟨v203, rfl, ho0, hb⟩; have n0_ := aM (Kd.R_below (gR HO_5.out) hb); have n1_ := aM (Kd.R_lower ho0 (below_size (gB HB.out))); have n2_ := aM (blk_below (g := gb189) (o := .cells #[.slice A0_0 l0_0.length c0_0] 29 (0, 0)) (gK BK189.out) hb); have n3_ := aM (below_step (gB HB.out) hb); clear HO_5; clear BK189; clear HB; have HO_5 := n0_; have HO204 := n1_; have BK189 := n2_; have HB := n3_; clear n0_ n1_ n2_ n3_; (try clear hb); (try clear hb2); (try clear hk); (try clear hi); (try clear ho0)))
        (try simp only [Act.put, zSA, zSB, zSC])
        go_cut [75] (fun v75 wc => ∃ (kq : Nat) (x75_39 : Bool), v75 = .bool x75_39 ∧ Aside0 (spec_l7Of.j2 kq t202 x75_39 l0_0 = some (r1, r2)) ∧ Aside0 (kq ≤ k1) ∧ Aside0 (Kd.R k74 74 wc w.heap.size (fun _ => True) v203 t202) ∧ Aside0 (wc.heap[gb189]? = some (.cells #[(.slice A0_0 l0_0.length c0_0)] 29 (0, 0))) ∧ Aside0 (Below w.heap.size w wc))
        case first =>
         have H := HC40.out
         clear HC40
         by_cases c43 : t205 = true
         ·
          subst c43
          have H1 : (spec_l7Of.j2 k1 t202 ((t202.length : Int) != (l0_0.length : Int)) l0_0) = some (r1, r2) := by rw [if_pos rfl] at H; exact H
          clear H
          have H := H1
          clear H1
          have H' := aM H
          clear H
          obtain ⟨Ao44, co44, eo44⟩ := Kd.R_slice HO204.out
          subst eo44
          go_wp2
          repeat (go_quiet (fail); try go_wp2)
          go_meet
          case rel => exact ⟨_, (((t202.length : Int) != (l0_0.length : Int))), (by first | rfl | (simp; done) | (simp [*]; done)), H', ⟨by have := HK1.out; first | omega | exact Nat.le_refl _⟩, ⟨gR HO204.out⟩, ⟨gK BK189.out⟩, ⟨by repeat (first | (with_reducible first | exact HB.out | apply below_alloc | apply pw_below_drewN | apply below_drew1 | refine below_set ?_ GE189.out) | exact HB.out)⟩⟩
         ·
          replace c43 := Bool.eq_false_iff.mpr c43
          subst c43
          have H1 : (spec_l7Of.j2 k1 t202 true l0_0) = some (r1, r2) := by rw [if_neg (show ¬ (false = true) by decide)] at H; exact H
          clear H
          have H := H1
          clear H1
          have H' := aM H
          clear H
          go_wp2
          repeat (go_quiet (fail); try go_wp2)
          go_meet
          case rel => exact ⟨_, (true), (by first | rfl | (simp; done) | (simp [*]; done)), H', ⟨by have := HK1.out; first | omega | exact Nat.le_refl _⟩, ⟨gR HO204.out⟩, ⟨gK BK189.out⟩, ⟨by repeat (first | (with_reducible first | exact HB.out | apply below_alloc | apply pw_below_drewN | apply below_drew1 | refine below_set ?_ GE189.out) | exact HB.out)⟩⟩
        case rest =>
         clear HC40
         try clear c1
         try clear p1
         try clear q1
         try clear hx1
         try clear c2
         try clear c2b0
         try clear c2b1
         try clear c2b2
         try clear p2
         try clear q2
         try clear hx2
         try clear c3
         try clear p3
         try clear q3
         try clear hx3
         try clear hf3
         try clear c4
         try clear c5
         try clear c5b0
         try clear c5b1
         try clear p6
         try clear c8
         try clear c8b0
         try clear c8b1
         try clear c9
         try clear c9b0
         try clear c9b1
         try clear c15
         try clear c15b0
         try clear c16
         try clear c16b0
         try clear c17
         try clear c17b0
         try clear c19
         try clear p19
         try clear q19
         try clear hx19
         try clear p20
         try clear q20
         try clear hx20
         try clear c24
         try clear c24b0
         try clear c25
         try clear c25b0
         try clear c26
         try clear c26b0
         try clear c27
         try clear c27b0
         try clear c27b1
         try clear c29
         try clear c30
         try clear c30b0
         try clear c31
         try clear c31b0
         try clear q32
         try clear c33
         try clear p35
         try clear q35
         try clear hx35
         try clear hf35
         try clear c43
         try clear hcz11_0
         try clear hcz14_0
         try clear hcz20_0
         try clear hcz20_1
         try clear hcz20_2
         try clear hcz20_3
         try clear hcz41_0
         try clear hcz4_0
         try clear hcz7_0
         try clear hfz11_0
         try clear hfz14_0
         try clear hfz20_0
         try clear hfz20_1
         try clear hfz20_2
         try clear hfz20_3
         try clear hfz41_0
         try clear hfz4_0
         try clear hfz7_0
         try clear hx193_0
         try clear hx193_1
         try clear hx193_2
         try clear hx193_3
         try clear hx198_0
         try clear hx200_0
         try clear hx35_0
         try clear p1
         try clear p19
         try clear p193
         try clear p198
         try clear p2
         try clear p200
         try clear p35
         try clear q1
         try clear q19
         try clear q193
         try clear q198
         try clear q200
         try clear q35
         obtain ⟨kq, x75_39, rfl, HA, HJ39, HO_10, BK189, HB⟩ := hcut
         cases kq with
         | zero => exact absurd HA.out (by simp [spec_l7Of.j2])
         | succ kj39 =>
          have H := HA.out
          clear HA
          simp only [spec_l7Of.j2] at H
          by_cases c45 : x75_39 = true
          ·
           subst c45
           have H1 : (some (([] : List (S74)), false)) = some (r1, r2) := by rw [if_pos rfl] at H; exact H
           clear H
           have H := H1
           clear H1
           simp only [Option.some.injEq, Prod.mk.injEq] at H
           obtain ⟨rfl, rfl⟩ := H
           go_wp2
           repeat (go_quiet (fail); try go_wp2)
           go_ret2
           exact ⟨_, by first | rfl | (simp [errW_none, errW_some] <;> rfl) | (simp [*, errW_none, errW_some] <;> rfl), by first | exact Kd.R_nil _ _ _ _ _ | exact Kd.N_nil _ _ _ _ _ | exact Kd.V_nil _ _ _ _ _ | exact Kd.Q_nil _ _ _ _ _ | exact Kd.S_nil _ _ _ _ _, by repeat (first | (with_reducible first | exact HB.out | apply below_alloc | apply pw_below_drewN | apply below_drew1 | refine below_set ?_ GE189.out) | exact HB.out)⟩
          ·
           replace c45 := Bool.eq_false_iff.mpr c45
           subst c45
           have H1 : (spec_l7Of.l2 kj39 t202 t202 (t202.length : Int) 0 l0_0) = some (r1, r2) := by rw [if_neg (show ¬ (false = true) by decide)] at H; exact H
           clear H
           have H := H1
           clear H1
           have H' := aM H
           clear H
           obtain ⟨Ao46, co46, eo46⟩ := Kd.R_slice HO_10.out
           subst eo46
           go_wp2
           repeat (go_quiet (fail); try go_wp2)
           go_loopg [78] kj39 (fun kq v78 w' => ∃ (x78_3 : Int), v78 = .int .i64 x78_3 ∧ Aside0 (spec_l7Of.l2 kq t202 t202 (t202.length : Int) x78_3 l0_0 = some (r1, r2)) ∧ Aside0 (kq ≤ kj39) ∧ Aside0 (Kd.R k74 74 w' w.heap.size (fun _ => True) (.slice Ao46 t202.length co46) t202) ∧ Aside0 (Kd.R k74 74 w' w.heap.size (fun _ => True) (.slice Ao46 t202.length co46) t202) ∧ Aside0 (w'.heap[gb189]? = some (.cells #[(.slice A0_0 l0_0.length c0_0)] 29 (0, 0))) ∧ Aside0 (Below w.heap.size w w'))
           case atStart => exact ⟨(0), (by first | rfl | (simp; done) | (simp [*]; done)), H', ⟨Nat.le_refl _⟩, ⟨gR HO_10.out⟩, ⟨gR HO_10.out⟩, ⟨gK BK189.out⟩, ⟨by repeat (first | (with_reducible first | exact HB.out | apply below_alloc | apply pw_below_drewN | apply below_drew1 | refine below_set ?_ GE189.out) | exact HB.out)⟩⟩
           case round =>
            clear H'
            try clear c1
            try clear p1
            try clear q1
            try clear hx1
            try clear c2
            try clear c2b0
            try clear c2b1
            try clear c2b2
            try clear p2
            try clear q2
            try clear hx2
            try clear c3
            try clear p3
            try clear q3
            try clear hx3
            try clear hf3
            try clear c4
            try clear c5
            try clear c5b0
            try clear c5b1
            try clear p6
            try clear c8
            try clear c8b0
            try clear c8b1
            try clear c9
            try clear c9b0
            try clear c9b1
            try clear c15
            try clear c15b0
            try clear c16
            try clear c16b0
            try clear c17
            try clear c17b0
            try clear c19
            try clear p19
            try clear q19
            try clear hx19
            try clear p20
            try clear q20
            try clear hx20
            try clear c24
            try clear c24b0
            try clear c25
            try clear c25b0
            try clear c26
            try clear c26b0
            try clear c27
            try clear c27b0
            try clear c27b1
            try clear c29
            try clear c30
            try clear c30b0
            try clear c31
            try clear c31b0
            try clear q32
            try clear c33
            try clear p35
            try clear q35
            try clear hx35
            try clear hf35
            try clear c43
            try clear c45
            try clear hcz11_0
            try clear hcz14_0
            try clear hcz20_0
            try clear hcz20_1
            try clear hcz20_2
            try clear hcz20_3
            try clear hcz41_0
            try clear hcz4_0
            try clear hcz7_0
            try clear hfz11_0
            try clear hfz14_0
            try clear hfz20_0
            try clear hfz20_1
            try clear hfz20_2
            try clear hfz20_3
            try clear hfz41_0
            try clear hfz4_0
            try clear hfz7_0
            try clear hx193_0
            try clear hx193_1
            try clear hx193_2
            try clear hx193_3
            try clear hx198_0
            try clear hx200_0
            try clear hx35_0
            try clear p1
            try clear p19
            try clear p193
            try clear p198
            try clear p2
            try clear p20
            try clear p200
            try clear p3
            try clear p35
            try clear p6
            try clear q1
            try clear q19
            try clear q193
            try clear q198
            try clear q2
            try clear q20
            try clear q200
            try clear q3
            try clear q32
            try clear q35
            obtain ⟨x78_3, rfl, HA, HK3, HO_10, HO_76, BK189, HB⟩ := hrel
            cases gk with
            | zero => exact absurd HA.out (by simp [spec_l7Of.l2])
            | succ k3 =>
             have H := HA.out
             clear HA
             simp only [spec_l7Of.l2] at H
             by_cases c47 : x78_3 < (t202.length : Int)
             ·
              rw [if_pos c47] at H
              have c47b0 : decide (x78_3 < (t202.length : Int)) = true := decide_eq_true c47
              clear c47
              by_cases c48 : 0 ≤ x78_3
              ·
               rw [if_pos c48] at H
               have c48b0 : decide (0 ≤ x78_3) = true := decide_eq_true c48
               clear c48
               by_cases c49 : x78_3 < (t202.length : Int)
               ·
                rw [if_pos c49] at H
                have c49b0 : decide (x78_3 < (t202.length : Int)) = true := decide_eq_true c49
                clear c49
                replace H := Option.bind_eq_some_iff.mp H
                obtain ⟨t208, A500, H⟩ := H
                replace H : (if t208 = true then (if (((rd_T74 t202 x78_3).f1).size : Int) > 60 then (some (([] : List (S74)), false)) else (if x78_3 > 0 then (if 0 ≤ (wrap64 (x78_3 - 1)) then (if (wrap64 (x78_3 - 1)) < (t202.length : Int) then (if ((Op.bytesLess (((rd_T74 t202 (wrap64 (x78_3 - 1))).f0).toList) (((rd_T74 t202 x78_3).f0).toList)) = true) then (spec_l7Of.l2 k3 t202 t202 (t202.length : Int) (wrap64 (x78_3 + 1)) l0_0) else (some (([] : List (S74)), false))) else (none)) else (none)) else (spec_l7Of.l2 k3 t202 t202 (t202.length : Int) (wrap64 (x78_3 + 1)) l0_0))) else (some (([] : List (S74)), false))) = some (r1, r2) := H
                have A50 := aM A500
                clear A500
                by_cases c51 : t208 = true
                ·
                 subst c51
                 have H1 : (if (((rd_T74 t202 x78_3).f1).size : Int) > 60 then (some (([] : List (S74)), false)) else (if x78_3 > 0 then (if 0 ≤ (wrap64 (x78_3 - 1)) then (if (wrap64 (x78_3 - 1)) < (t202.length : Int) then (if ((Op.bytesLess (((rd_T74 t202 (wrap64 (x78_3 - 1))).f0).toList) (((rd_T74 t202 x78_3).f0).toList)) = true) then (spec_l7Of.l2 k3 t202 t202 (t202.length : Int) (wrap64 (x78_3 + 1)) l0_0) else (some (([] : List (S74)), false))) else (none)) else (none)) else (spec_l7Of.l2 k3 t202 t202 (t202.length : Int) (wrap64 (x78_3 + 1)) l0_0))) = some (r1, r2) := by rw [if_pos rfl] at H; exact H
                 clear H
                 have H := H1
                 clear H1
                 by_cases c52 : (((rd_T74 t202 x78_3).f1).size : Int) > 60
                 ·
                  rw [if_pos c52] at H
                  have c52b0 : decide (60 < (((rd_T74 t202 x78_3).f1).size : Int)) = true := decide_eq_true c52
                  have c52b1 : decide (60 < ((rd_T74 t202 x78_3).f1).size) = true := decide_eq_true (by omega)
                  clear c52
                  simp only [Option.some.injEq, Prod.mk.injEq] at H
                  obtain ⟨rfl, rfl⟩ := H
                  have p206 : 0 ≤ (x78_3 : Int) := of_decide_eq_true (by first | (with_reducible assumption) | assumption)
                  have q206 : x78_3 < (t202.length : Int) := of_decide_eq_true (by first | (with_reducible assumption) | assumption)
                  obtain ⟨ad206, e206, hx206_0, hx206_1⟩ := at_T74 (Kd.R_reads' HO_76.out).2.2 x78_3 p206 q206
                  cases e206
                  try have hz_hx206_0 := aM hx206_0
                  try have hz_hx206_1 := aM hx206_1
                  replace p206 := eq_true p206
                  replace q206 := eq_true q206
                  go_wp2_with (((with_reducible refine gate_dst (N := 13) rfl ?_); (try (refine gate_guard (by rfl) ?_; dsimp only)); refine box_event ?hg (N := 13) ?hd (cs := #[.string (⟨#[]⟩ : ByteArray), .string (⟨#[]⟩ : ByteArray)]) (t := 74) ?hr ?_; (case hd => rfl); (case hg => rfl); (case hr => first | (go_simp; done) | (go_simp; rfl)); intro gb207 hg w53 hbox hb; have n0_ := aM (Kd.R_below (Kd.R_elderB (gR HO_10.out) gb207 (Nat.le_of_eq hg.symm)) hb); have n1_ := aM (Kd.R_below (Kd.R_elderB (gR HO_76.out) gb207 (Nat.le_of_eq hg.symm)) hb); have n2_ := aM (blk_below (g := gb189) (o := .cells #[.slice A0_0 l0_0.length c0_0] 29 (0, 0)) (gK BK189.out) hb); have n3_ := aM (below_step (gB HB.out) hb); have n4_ := aM (hbox); have n5_ := aM ((by rw [hg]; exact (below_size (gB HB.out)) : w.heap.size ≤ gb207)); have n6_ := aM ((by rw [hg]; exact (below_size (gB HB.out)) : w.heap.size ≤ gb207)); have n7_ := aM ((by rw [hg]; exact Nat.ne_of_lt (blk_lt (g := gb189) (o := .cells #[.slice A0_0 l0_0.length c0_0] 29 (0, 0)) (gK BK189.out)) : gb189 ≠ gb207)); have n8_ := aM ((by rw [hg]; exact Nat.ne_of_gt (blk_lt (g := gb189) (o := .cells #[.slice A0_0 l0_0.length c0_0] 29 (0, 0)) (gK BK189.out)) : gb207 ≠ gb189)); clear HO_10; clear HO_76; clear BK189; clear HB; have HO_10 := n0_; have HO_76 := n1_; have BK189 := n2_; have HB := n3_; have BK207 := n4_; have GW207 := n5_; have GE207 := n6_; have NB189_207 := n7_; have NB207_189 := n8_; clear n0_ n1_ n2_ n3_ n4_ n5_ n6_ n7_ n8_; clear hb hbox hg; have hnb54 := NB207_189.out; have hnc54 := NB189_207.out; have hcz55_0 : w53.cell? ⟨gb207, 0, none⟩ = some (.string (⟨#[]⟩ : ByteArray)) := (blk_cell BK207.out 0).trans rfl; have hcz55_1 : w53.cell? ⟨gb207, 1, none⟩ = some (.string (⟨#[]⟩ : ByteArray)) := (blk_cell BK207.out 1).trans rfl; have hfz55_0 := blk_frozen BK207.out 0; have hfz55_1 := blk_frozen BK207.out 1))
                  repeat (go_quiet ((go_at_call 68; (try simp only [i64_w]); (with_reducible refine (spec_l1In.calls (((rd_T74 t202 x78_3).f0).size : Int) 1 40 true _ A50.out).mono ?_); rintro e w' ⟨rfl, ⟨nd, rfl⟩⟩; (try first | exact ⟨rfl, _, World.drewN_drewN _ _ _⟩ | exact ⟨rfl, _, Eq.trans (World.drewN_drewN _ _ _) (congrArg (World.drewN _) (Nat.add_assoc _ _ _))⟩))); try go_wp2)
                  go_ret2
                  exact ⟨_, by first | rfl | (simp [errW_none, errW_some] <;> rfl) | (simp [*, errW_none, errW_some] <;> rfl), by first | exact Kd.R_nil _ _ _ _ _ | exact Kd.N_nil _ _ _ _ _ | exact Kd.V_nil _ _ _ _ _ | exact Kd.Q_nil _ _ _ _ _ | exact Kd.S_nil _ _ _ _ _, by repeat (first | (with_reducible first | exact HB.out | apply below_alloc | apply pw_below_drewN | apply below_drew1 | refine below_set ?_ GE189.out | refine below_set ?_ GE207.out) | exact HB.out)⟩
                 ·
                  rw [if_neg c52] at H
                  have c52b0 : decide (60 < (((rd_T74 t202 x78_3).f1).size : Int)) = false := decide_eq_false c52
                  have c52b1 : decide (60 < ((rd_T74 t202 x78_3).f1).size) = false := decide_eq_false (by omega)
                  clear c52
                  by_cases c56 : x78_3 > 0
                  ·
                   rw [if_pos c56] at H
                   have c56b0 : decide (0 < x78_3) = true := decide_eq_true c56
                   clear c56
                   obtain ⟨ji57, hji57⟩ : ∃ j_ : Int, (wrap64 (x78_3 - 1)) = j_ := ⟨_, rfl⟩
                   replace H : (if 0 ≤ (ji57) then (if (ji57) < (t202.length : Int) then (if ((Op.bytesLess (((rd_T74 t202 (ji57)).f0).toList) (((rd_T74 t202 x78_3).f0).toList)) = true) then (spec_l7Of.l2 k3 t202 t202 (t202.length : Int) (wrap64 (x78_3 + 1)) l0_0) else (some (([] : List (S74)), false))) else (none)) else (none)) = some (r1, r2) := by first | (rw [hji57] at H; exact H) | (simp only [hji57] at H ⊢; exact H)
                   (try rw [hji57] at A50)
                   have hji57w : (IntKind.i64.wrap (x78_3 - 1)) = ji57 := (i64_w _).trans hji57
                   by_cases c58 : 0 ≤ (ji57)
                   ·
                    rw [if_pos c58] at H
                    have c58b0 : decide (0 ≤ (ji57)) = true := decide_eq_true c58
                    clear c58
                    by_cases c59 : (ji57) < (t202.length : Int)
                    ·
                     rw [if_pos c59] at H
                     have c59b0 : decide ((ji57) < (t202.length : Int)) = true := decide_eq_true c59
                     clear c59
                     by_cases c60 : ((Op.bytesLess (((rd_T74 t202 (ji57)).f0).toList) (((rd_T74 t202 x78_3).f0).toList)) = true)
                     ·
                      rw [if_pos c60] at H
                      have c60b0 : (Op.bytesLess (((rd_T74 t202 (ji57)).f0).toList) (((rd_T74 t202 x78_3).f0).toList)) = true := c60
                      clear c60
                      have H' := aM H
                      clear H
                      have p206 : 0 ≤ (x78_3 : Int) := of_decide_eq_true (by first | (with_reducible assumption) | assumption)
                      have q206 : x78_3 < (t202.length : Int) := of_decide_eq_true (by first | (with_reducible assumption) | assumption)
                      obtain ⟨ad206, e206, hx206_0, hx206_1⟩ := at_T74 (Kd.R_reads' HO_76.out).2.2 x78_3 p206 q206
                      cases e206
                      try have hz_hx206_0 := aM hx206_0
                      try have hz_hx206_1 := aM hx206_1
                      replace p206 := eq_true p206
                      replace q206 := eq_true q206
                      go_wp2_with (((with_reducible refine gate_dst (N := 13) rfl ?_); (try (refine gate_guard (by rfl) ?_; dsimp only)); refine box_event ?hg (N := 13) ?hd (cs := #[.string (⟨#[]⟩ : ByteArray), .string (⟨#[]⟩ : ByteArray)]) (t := 74) ?hr ?_; (case hd => rfl); (case hg => rfl); (case hr => first | (go_simp; done) | (go_simp; rfl)); intro gb207 hg w61 hbox hb; have n0_ := aM (Kd.R_below (Kd.R_elderB (gR HO_10.out) gb207 (Nat.le_of_eq hg.symm)) hb); have n1_ := aM (Kd.R_below (Kd.R_elderB (gR HO_76.out) gb207 (Nat.le_of_eq hg.symm)) hb); have n2_ := aM (blk_below (g := gb189) (o := .cells #[.slice A0_0 l0_0.length c0_0] 29 (0, 0)) (gK BK189.out) hb); have n3_ := aM (below_step (gB HB.out) hb); have n4_ := aM (hbox); have n5_ := aM ((by rw [hg]; exact (below_size (gB HB.out)) : w.heap.size ≤ gb207)); have n6_ := aM ((by rw [hg]; exact (below_size (gB HB.out)) : w.heap.size ≤ gb207)); have n7_ := aM ((by rw [hg]; exact Nat.ne_of_lt (blk_lt (g := gb189) (o := .cells #[.slice A0_0 l0_0.length c0_0] 29 (0, 0)) (gK BK189.out)) : gb189 ≠ gb207)); have n8_ := aM ((by rw [hg]; exact Nat.ne_of_gt (blk_lt (g := gb189) (o := .cells #[.slice A0_0 l0_0.length c0_0] 29 (0, 0)) (gK BK189.out)) : gb207 ≠ gb189)); clear HO_10; clear HO_76; clear BK189; clear HB; have HO_10 := n0_; have HO_76 := n1_; have BK189 := n2_; have HB := n3_; have BK207 := n4_; have GW207 := n5_; have GE207 := n6_; have NB189_207 := n7_; have NB207_189 := n8_; clear n0_ n1_ n2_ n3_ n4_ n5_ n6_ n7_ n8_; clear hb hbox hg; have hnb62 := NB207_189.out; have hnc62 := NB189_207.out; have hcz63_0 : w61.cell? ⟨gb207, 0, none⟩ = some (.string (⟨#[]⟩ : ByteArray)) := (blk_cell BK207.out 0).trans rfl; have hcz63_1 : w61.cell? ⟨gb207, 1, none⟩ = some (.string (⟨#[]⟩ : ByteArray)) := (blk_cell BK207.out 1).trans rfl; have hfz63_0 := blk_frozen BK207.out 0; have hfz63_1 := blk_frozen BK207.out 1))
                      repeat (go_quiet ((go_at_call 68; (try simp only [i64_w]); (with_reducible refine (spec_l1In.calls (((rd_T74 t202 x78_3).f0).size : Int) 1 40 true _ A50.out).mono ?_); rintro e w' ⟨rfl, ⟨nd, rfl⟩⟩; (try first | exact ⟨rfl, _, World.drewN_drewN _ _ _⟩ | exact ⟨rfl, _, Eq.trans (World.drewN_drewN _ _ _) (congrArg (World.drewN _) (Nat.add_assoc _ _ _))⟩); have p209 : 0 ≤ ((ji57) : Int) := of_decide_eq_true (by first | (with_reducible assumption) | assumption); have q209 : (ji57) < (t202.length : Int) := of_decide_eq_true (by first | (with_reducible assumption) | assumption); obtain ⟨ad209, e209, hx209_0, hx209_1⟩ := at_T74 (Kd.R_reads' HO_10.out).2.2 (ji57) p209 q209; obtain rfl : ad206 = ad209 := (by injection e209); have hn209_0 : ad206.block ≠ gb207 := (by first | exact Kd.own_blk (Kd.R_ne HO_10.out BK207.out (by decide)) | exact (HO_10.out.1 _ rfl).2); have hn209_1 : ad206.block ≠ gb207 := (by first | exact Kd.own_blk (Kd.R_ne HO_10.out BK207.out (by decide)) | exact (HO_10.out.1 _ rfl).2); replace hx209_0 := (cell_far (p := ⟨gb207, 0, none⟩) (by first | (rw [add_block]; exact hn209_0) | (show (Addr.add _ _).block ≠ _; rw [add_block]; exact hn209_0) | exact hn209_0) (.string ((rd_T74 t202 x78_3).f0))).trans hx209_0; replace hx209_1 := (cell_far (p := ⟨gb207, 0, none⟩) (by first | (rw [add_block]; exact hn209_0) | (show (Addr.add _ _).block ≠ _; rw [add_block]; exact hn209_0) | exact hn209_0) (.string ((rd_T74 t202 x78_3).f0))).trans hx209_1; replace hx209_0 := (cell_far (p := ⟨gb207, 1, none⟩) (by first | (rw [add_block]; exact hn209_1) | (show (Addr.add _ _).block ≠ _; rw [add_block]; exact hn209_1) | exact hn209_1) (.string ((rd_T74 t202 x78_3).f1))).trans hx209_0; replace hx209_1 := (cell_far (p := ⟨gb207, 1, none⟩) (by first | (rw [add_block]; exact hn209_1) | (show (Addr.add _ _).block ≠ _; rw [add_block]; exact hn209_1) | exact hn209_1) (.string ((rd_T74 t202 x78_3).f1))).trans hx209_1; (try have hy209_0 := fun (n_ : Nat) => (show ((((w61.drewN n_).setCell ⟨gb207, 0, none⟩ (.string ((rd_T74 t202 x78_3).f0))).setCell ⟨gb207, 1, none⟩ (.string ((rd_T74 t202 x78_3).f1)))).cell? _ = some _ from hx209_0)); (try have hy209_1 := fun (n_ : Nat) => (show ((((w61.drewN n_).setCell ⟨gb207, 0, none⟩ (.string ((rd_T74 t202 x78_3).f0))).setCell ⟨gb207, 1, none⟩ (.string ((rd_T74 t202 x78_3).f1)))).cell? _ = some _ from hx209_1)); clear hn209_0; clear hn209_1; replace p209 := eq_true p209; replace q209 := eq_true q209)); try go_wp2)
                      go_roundg k3
                      case measure => have := HK1.out; have := HJ39.out; have := HK3.out; omega
                      case rel => exact ⟨(wrap64 (x78_3 + 1)), (by first | rfl | (simp; done) | (simp [*]; done)), H', ⟨by have := HK1.out; have := HJ39.out; have := HK3.out; omega⟩, ⟨by (with_reducible repeat (first | apply Kd.R_alloc | apply Kd.R_drewN | apply Kd.R_drew)); exact Kd.R_mono (Kd.R_far (p := ⟨gb207, 1, none⟩) (Kd.R_far (p := ⟨gb207, 0, none⟩) (Kd.R_mono HO_10.out (fun k_ hk => (⟨hk, hk.2⟩ : _ ∧ k_ ≠ gb207))) (fun _ hk => hk.2) (.string ((rd_T74 t202 x78_3).f0))) (fun _ hk => hk.2) (.string ((rd_T74 t202 x78_3).f1))) (fun _ hk => trivial)⟩, ⟨by (with_reducible repeat (first | apply Kd.R_alloc | apply Kd.R_drewN | apply Kd.R_drew)); exact Kd.R_mono (Kd.R_far (p := ⟨gb207, 1, none⟩) (Kd.R_far (p := ⟨gb207, 0, none⟩) (Kd.R_mono HO_76.out (fun k_ hk => (⟨hk, hk.2⟩ : _ ∧ k_ ≠ gb207))) (fun _ hk => hk.2) (.string ((rd_T74 t202 x78_3).f0))) (fun _ hk => hk.2) (.string ((rd_T74 t202 x78_3).f1))) (fun _ hk => trivial)⟩, ⟨by (with_reducible repeat (first | refine blk_drewN ?_ _ | refine blk_drew ?_ | refine blk_alloc ?_ _)); refine blk_far ?_ NB189_207.out _; (with_reducible repeat (first | refine blk_drewN ?_ _ | refine blk_drew ?_ | refine blk_alloc ?_ _)); refine blk_far ?_ NB189_207.out _; (with_reducible repeat (first | refine blk_drewN ?_ _ | refine blk_drew ?_ | refine blk_alloc ?_ _)); exact BK189.out⟩, ⟨by repeat (first | (with_reducible first | exact HB.out | apply below_alloc | apply pw_below_drewN | apply below_drew1 | refine below_set ?_ GE189.out | refine below_set ?_ GE207.out) | exact HB.out)⟩⟩
                     ·
                      rw [if_neg c60] at H
                      have c60b0 : (Op.bytesLess (((rd_T74 t202 (ji57)).f0).toList) (((rd_T74 t202 x78_3).f0).toList)) = false := by simpa using c60
                      clear c60
                      simp only [Option.some.injEq, Prod.mk.injEq] at H
                      obtain ⟨rfl, rfl⟩ := H
                      have p206 : 0 ≤ (x78_3 : Int) := of_decide_eq_true (by first | (with_reducible assumption) | assumption)
                      have q206 : x78_3 < (t202.length : Int) := of_decide_eq_true (by first | (with_reducible assumption) | assumption)
                      obtain ⟨ad206, e206, hx206_0, hx206_1⟩ := at_T74 (Kd.R_reads' HO_76.out).2.2 x78_3 p206 q206
                      cases e206
                      try have hz_hx206_0 := aM hx206_0
                      try have hz_hx206_1 := aM hx206_1
                      replace p206 := eq_true p206
                      replace q206 := eq_true q206
                      go_wp2_with (((with_reducible refine gate_dst (N := 13) rfl ?_); (try (refine gate_guard (by rfl) ?_; dsimp only)); refine box_event ?hg (N := 13) ?hd (cs := #[.string (⟨#[]⟩ : ByteArray), .string (⟨#[]⟩ : ByteArray)]) (t := 74) ?hr ?_; (case hd => rfl); (case hg => rfl); (case hr => first | (go_simp; done) | (go_simp; rfl)); intro gb207 hg w64 hbox hb; have n0_ := aM (Kd.R_below (Kd.R_elderB (gR HO_10.out) gb207 (Nat.le_of_eq hg.symm)) hb); have n1_ := aM (Kd.R_below (Kd.R_elderB (gR HO_76.out) gb207 (Nat.le_of_eq hg.symm)) hb); have n2_ := aM (blk_below (g := gb189) (o := .cells #[.slice A0_0 l0_0.length c0_0] 29 (0, 0)) (gK BK189.out) hb); have n3_ := aM (below_step (gB HB.out) hb); have n4_ := aM (hbox); have n5_ := aM ((by rw [hg]; exact (below_size (gB HB.out)) : w.heap.size ≤ gb207)); have n6_ := aM ((by rw [hg]; exact (below_size (gB HB.out)) : w.heap.size ≤ gb207)); have n7_ := aM ((by rw [hg]; exact Nat.ne_of_lt (blk_lt (g := gb189) (o := .cells #[.slice A0_0 l0_0.length c0_0] 29 (0, 0)) (gK BK189.out)) : gb189 ≠ gb207)); have n8_ := aM ((by rw [hg]; exact Nat.ne_of_gt (blk_lt (g := gb189) (o := .cells #[.slice A0_0 l0_0.length c0_0] 29 (0, 0)) (gK BK189.out)) : gb207 ≠ gb189)); clear HO_10; clear HO_76; clear BK189; clear HB; have HO_10 := n0_; have HO_76 := n1_; have BK189 := n2_; have HB := n3_; have BK207 := n4_; have GW207 := n5_; have GE207 := n6_; have NB189_207 := n7_; have NB207_189 := n8_; clear n0_ n1_ n2_ n3_ n4_ n5_ n6_ n7_ n8_; clear hb hbox hg; have hnb65 := NB207_189.out; have hnc65 := NB189_207.out; have hcz66_0 : w64.cell? ⟨gb207, 0, none⟩ = some (.string (⟨#[]⟩ : ByteArray)) := (blk_cell BK207.out 0).trans rfl; have hcz66_1 : w64.cell? ⟨gb207, 1, none⟩ = some (.string (⟨#[]⟩ : ByteArray)) := (blk_cell BK207.out 1).trans rfl; have hfz66_0 := blk_frozen BK207.out 0; have hfz66_1 := blk_frozen BK207.out 1))
                      repeat (go_quiet ((go_at_call 68; (try simp only [i64_w]); (with_reducible refine (spec_l1In.calls (((rd_T74 t202 x78_3).f0).size : Int) 1 40 true _ A50.out).mono ?_); rintro e w' ⟨rfl, ⟨nd, rfl⟩⟩; (try first | exact ⟨rfl, _, World.drewN_drewN _ _ _⟩ | exact ⟨rfl, _, Eq.trans (World.drewN_drewN _ _ _) (congrArg (World.drewN _) (Nat.add_assoc _ _ _))⟩); have p209 : 0 ≤ ((ji57) : Int) := of_decide_eq_true (by first | (with_reducible assumption) | assumption); have q209 : (ji57) < (t202.length : Int) := of_decide_eq_true (by first | (with_reducible assumption) | assumption); obtain ⟨ad209, e209, hx209_0, hx209_1⟩ := at_T74 (Kd.R_reads' HO_10.out).2.2 (ji57) p209 q209; obtain rfl : ad206 = ad209 := (by injection e209); have hn209_0 : ad206.block ≠ gb207 := (by first | exact Kd.own_blk (Kd.R_ne HO_10.out BK207.out (by decide)) | exact (HO_10.out.1 _ rfl).2); have hn209_1 : ad206.block ≠ gb207 := (by first | exact Kd.own_blk (Kd.R_ne HO_10.out BK207.out (by decide)) | exact (HO_10.out.1 _ rfl).2); replace hx209_0 := (cell_far (p := ⟨gb207, 0, none⟩) (by first | (rw [add_block]; exact hn209_0) | (show (Addr.add _ _).block ≠ _; rw [add_block]; exact hn209_0) | exact hn209_0) (.string ((rd_T74 t202 x78_3).f0))).trans hx209_0; replace hx209_1 := (cell_far (p := ⟨gb207, 0, none⟩) (by first | (rw [add_block]; exact hn209_0) | (show (Addr.add _ _).block ≠ _; rw [add_block]; exact hn209_0) | exact hn209_0) (.string ((rd_T74 t202 x78_3).f0))).trans hx209_1; replace hx209_0 := (cell_far (p := ⟨gb207, 1, none⟩) (by first | (rw [add_block]; exact hn209_1) | (show (Addr.add _ _).block ≠ _; rw [add_block]; exact hn209_1) | exact hn209_1) (.string ((rd_T74 t202 x78_3).f1))).trans hx209_0; replace hx209_1 := (cell_far (p := ⟨gb207, 1, none⟩) (by first | (rw [add_block]; exact hn209_1) | (show (Addr.add _ _).block ≠ _; rw [add_block]; exact hn209_1) | exact hn209_1) (.string ((rd_T74 t202 x78_3).f1))).trans hx209_1; (try have hy209_0 := fun (n_ : Nat) => (show ((((w64.drewN n_).setCell ⟨gb207, 0, none⟩ (.string ((rd_T74 t202 x78_3).f0))).setCell ⟨gb207, 1, none⟩ (.string ((rd_T74 t202 x78_3).f1)))).cell? _ = some _ from hx209_0)); (try have hy209_1 := fun (n_ : Nat) => (show ((((w64.drewN n_).setCell ⟨gb207, 0, none⟩ (.string ((rd_T74 t202 x78_3).f0))).setCell ⟨gb207, 1, none⟩ (.string ((rd_T74 t202 x78_3).f1)))).cell? _ = some _ from hx209_1)); clear hn209_0; clear hn209_1; replace p209 := eq_true p209; replace q209 := eq_true q209)); try go_wp2)
                      go_ret2
                      exact ⟨_, by first | rfl | (simp [errW_none, errW_some] <;> rfl) | (simp only [← hji57]; first | rfl | (simp [errW_none, errW_some] <;> rfl)) | (simp [*, errW_none, errW_some] <;> rfl), by first | exact Kd.R_nil _ _ _ _ _ | exact Kd.N_nil _ _ _ _ _ | exact Kd.V_nil _ _ _ _ _ | exact Kd.Q_nil _ _ _ _ _ | exact Kd.S_nil _ _ _ _ _, by repeat (first | (with_reducible first | exact HB.out | apply below_alloc | apply pw_below_drewN | apply below_drew1 | refine below_set ?_ GE189.out | refine below_set ?_ GE207.out) | exact HB.out)⟩
                    ·
                     rw [if_neg c59] at H
                     exact absurd H (by simp)
                   ·
                    rw [if_neg c58] at H
                    exact absurd H (by simp)
                  ·
                   rw [if_neg c56] at H
                   have c56b0 : decide (0 < x78_3) = false := decide_eq_false c56
                   clear c56
                   have H' := aM H
                   clear H
                   have p206 : 0 ≤ (x78_3 : Int) := of_decide_eq_true (by first | (with_reducible assumption) | assumption)
                   have q206 : x78_3 < (t202.length : Int) := of_decide_eq_true (by first | (with_reducible assumption) | assumption)
                   obtain ⟨ad206, e206, hx206_0, hx206_1⟩ := at_T74 (Kd.R_reads' HO_76.out).2.2 x78_3 p206 q206
                   cases e206
                   try have hz_hx206_0 := aM hx206_0
                   try have hz_hx206_1 := aM hx206_1
                   replace p206 := eq_true p206
                   replace q206 := eq_true q206
                   go_wp2_with (((with_reducible refine gate_dst (N := 13) rfl ?_); (try (refine gate_guard (by rfl) ?_; dsimp only)); refine box_event ?hg (N := 13) ?hd (cs := #[.string (⟨#[]⟩ : ByteArray), .string (⟨#[]⟩ : ByteArray)]) (t := 74) ?hr ?_; (case hd => rfl); (case hg => rfl); (case hr => first | (go_simp; done) | (go_simp; rfl)); intro gb207 hg w67 hbox hb; have n0_ := aM (Kd.R_below (Kd.R_elderB (gR HO_10.out) gb207 (Nat.le_of_eq hg.symm)) hb); have n1_ := aM (Kd.R_below (Kd.R_elderB (gR HO_76.out) gb207 (Nat.le_of_eq hg.symm)) hb); have n2_ := aM (blk_below (g := gb189) (o := .cells #[.slice A0_0 l0_0.length c0_0] 29 (0, 0)) (gK BK189.out) hb); have n3_ := aM (below_step (gB HB.out) hb); have n4_ := aM (hbox); have n5_ := aM ((by rw [hg]; exact (below_size (gB HB.out)) : w.heap.size ≤ gb207)); have n6_ := aM ((by rw [hg]; exact (below_size (gB HB.out)) : w.heap.size ≤ gb207)); have n7_ := aM ((by rw [hg]; exact Nat.ne_of_lt (blk_lt (g := gb189) (o := .cells #[.slice A0_0 l0_0.length c0_0] 29 (0, 0)) (gK BK189.out)) : gb189 ≠ gb207)); have n8_ := aM ((by rw [hg]; exact Nat.ne_of_gt (blk_lt (g := gb189) (o := .cells #[.slice A0_0 l0_0.length c0_0] 29 (0, 0)) (gK BK189.out)) : gb207 ≠ gb189)); clear HO_10; clear HO_76; clear BK189; clear HB; have HO_10 := n0_; have HO_76 := n1_; have BK189 := n2_; have HB := n3_; have BK207 := n4_; have GW207 := n5_; have GE207 := n6_; have NB189_207 := n7_; have NB207_189 := n8_; clear n0_ n1_ n2_ n3_ n4_ n5_ n6_ n7_ n8_; clear hb hbox hg; have hnb68 := NB207_189.out; have hnc68 := NB189_207.out; have hcz69_0 : w67.cell? ⟨gb207, 0, none⟩ = some (.string (⟨#[]⟩ : ByteArray)) := (blk_cell BK207.out 0).trans rfl; have hcz69_1 : w67.cell? ⟨gb207, 1, none⟩ = some (.string (⟨#[]⟩ : ByteArray)) := (blk_cell BK207.out 1).trans rfl; have hfz69_0 := blk_frozen BK207.out 0; have hfz69_1 := blk_frozen BK207.out 1))
                   repeat (go_quiet ((go_at_call 68; (try simp only [i64_w]); (with_reducible refine (spec_l1In.calls (((rd_T74 t202 x78_3).f0).size : Int) 1 40 true _ A50.out).mono ?_); rintro e w' ⟨rfl, ⟨nd, rfl⟩⟩; (try first | exact ⟨rfl, _, World.drewN_drewN _ _ _⟩ | exact ⟨rfl, _, Eq.trans (World.drewN_drewN _ _ _) (congrArg (World.drewN _) (Nat.add_assoc _ _ _))⟩))); try go_wp2)
                   go_roundg k3
                   case measure => have := HK1.out; have := HJ39.out; have := HK3.out; omega
                   case rel => exact ⟨(wrap64 (x78_3 + 1)), (by first | rfl | (simp; done) | (simp [*]; done)), H', ⟨by have := HK1.out; have := HJ39.out; have := HK3.out; omega⟩, ⟨by (with_reducible repeat (first | apply Kd.R_alloc | apply Kd.R_drewN | apply Kd.R_drew)); exact Kd.R_mono (Kd.R_far (p := ⟨gb207, 1, none⟩) (Kd.R_far (p := ⟨gb207, 0, none⟩) (Kd.R_mono HO_10.out (fun k_ hk => (⟨hk, hk.2⟩ : _ ∧ k_ ≠ gb207))) (fun _ hk => hk.2) (.string ((rd_T74 t202 x78_3).f0))) (fun _ hk => hk.2) (.string ((rd_T74 t202 x78_3).f1))) (fun _ hk => trivial)⟩, ⟨by (with_reducible repeat (first | apply Kd.R_alloc | apply Kd.R_drewN | apply Kd.R_drew)); exact Kd.R_mono (Kd.R_far (p := ⟨gb207, 1, none⟩) (Kd.R_far (p := ⟨gb207, 0, none⟩) (Kd.R_mono HO_76.out (fun k_ hk => (⟨hk, hk.2⟩ : _ ∧ k_ ≠ gb207))) (fun _ hk => hk.2) (.string ((rd_T74 t202 x78_3).f0))) (fun _ hk => hk.2) (.string ((rd_T74 t202 x78_3).f1))) (fun _ hk => trivial)⟩, ⟨by (with_reducible repeat (first | refine blk_drewN ?_ _ | refine blk_drew ?_ | refine blk_alloc ?_ _)); refine blk_far ?_ NB189_207.out _; (with_reducible repeat (first | refine blk_drewN ?_ _ | refine blk_drew ?_ | refine blk_alloc ?_ _)); refine blk_far ?_ NB189_207.out _; (with_reducible repeat (first | refine blk_drewN ?_ _ | refine blk_drew ?_ | refine blk_alloc ?_ _)); exact BK189.out⟩, ⟨by repeat (first | (with_reducible first | exact HB.out | apply below_alloc | apply pw_below_drewN | apply below_drew1 | refine below_set ?_ GE189.out | refine below_set ?_ GE207.out) | exact HB.out)⟩⟩
                ·
                 replace c51 := Bool.eq_false_iff.mpr c51
                 subst c51
                 have H1 : (some (([] : List (S74)), false)) = some (r1, r2) := by rw [if_neg (show ¬ (false = true) by decide)] at H; exact H
                 clear H
                 have H := H1
                 clear H1
                 simp only [Option.some.injEq, Prod.mk.injEq] at H
                 obtain ⟨rfl, rfl⟩ := H
                 have p206 : 0 ≤ (x78_3 : Int) := of_decide_eq_true (by first | (with_reducible assumption) | assumption)
                 have q206 : x78_3 < (t202.length : Int) := of_decide_eq_true (by first | (with_reducible assumption) | assumption)
                 obtain ⟨ad206, e206, hx206_0, hx206_1⟩ := at_T74 (Kd.R_reads' HO_76.out).2.2 x78_3 p206 q206
                 cases e206
                 try have hz_hx206_0 := aM hx206_0
                 try have hz_hx206_1 := aM hx206_1
                 replace p206 := eq_true p206
                 replace q206 := eq_true q206
                 go_wp2_with (((with_reducible refine gate_dst (N := 13) rfl ?_); (try (refine gate_guard (by rfl) ?_; dsimp only)); refine box_event ?hg (N := 13) ?hd (cs := #[.string (⟨#[]⟩ : ByteArray), .string (⟨#[]⟩ : ByteArray)]) (t := 74) ?hr ?_; (case hd => rfl); (case hg => rfl); (case hr => first | (go_simp; done) | (go_simp; rfl)); intro gb207 hg w70 hbox hb; have n0_ := aM (Kd.R_below (Kd.R_elderB (gR HO_10.out) gb207 (Nat.le_of_eq hg.symm)) hb); have n1_ := aM (Kd.R_below (Kd.R_elderB (gR HO_76.out) gb207 (Nat.le_of_eq hg.symm)) hb); have n2_ := aM (blk_below (g := gb189) (o := .cells #[.slice A0_0 l0_0.length c0_0] 29 (0, 0)) (gK BK189.out) hb); have n3_ := aM (below_step (gB HB.out) hb); have n4_ := aM (hbox); have n5_ := aM ((by rw [hg]; exact (below_size (gB HB.out)) : w.heap.size ≤ gb207)); have n6_ := aM ((by rw [hg]; exact (below_size (gB HB.out)) : w.heap.size ≤ gb207)); have n7_ := aM ((by rw [hg]; exact Nat.ne_of_lt (blk_lt (g := gb189) (o := .cells #[.slice A0_0 l0_0.length c0_0] 29 (0, 0)) (gK BK189.out)) : gb189 ≠ gb207)); have n8_ := aM ((by rw [hg]; exact Nat.ne_of_gt (blk_lt (g := gb189) (o := .cells #[.slice A0_0 l0_0.length c0_0] 29 (0, 0)) (gK BK189.out)) : gb207 ≠ gb189)); clear HO_10; clear HO_76; clear BK189; clear HB; have HO_10 := n0_; have HO_76 := n1_; have BK189 := n2_; have HB := n3_; have BK207 := n4_; have GW207 := n5_; have GE207 := n6_; have NB189_207 := n7_; have NB207_189 := n8_; clear n0_ n1_ n2_ n3_ n4_ n5_ n6_ n7_ n8_; clear hb hbox hg; have hnb71 := NB207_189.out; have hnc71 := NB189_207.out; have hcz72_0 : w70.cell? ⟨gb207, 0, none⟩ = some (.string (⟨#[]⟩ : ByteArray)) := (blk_cell BK207.out 0).trans rfl; have hcz72_1 : w70.cell? ⟨gb207, 1, none⟩ = some (.string (⟨#[]⟩ : ByteArray)) := (blk_cell BK207.out 1).trans rfl; have hfz72_0 := blk_frozen BK207.out 0; have hfz72_1 := blk_frozen BK207.out 1))
                 repeat (go_quiet ((go_at_call 68; (try simp only [i64_w]); (with_reducible refine (spec_l1In.calls (((rd_T74 t202 x78_3).f0).size : Int) 1 40 false _ A50.out).mono ?_); rintro e w' ⟨rfl, ⟨nd, rfl⟩⟩; (try first | exact ⟨rfl, _, World.drewN_drewN _ _ _⟩ | exact ⟨rfl, _, Eq.trans (World.drewN_drewN _ _ _) (congrArg (World.drewN _) (Nat.add_assoc _ _ _))⟩))); try go_wp2)
                 go_ret2
                 exact ⟨_, by first | rfl | (simp [errW_none, errW_some] <;> rfl) | (simp [*, errW_none, errW_some] <;> rfl), by first | exact Kd.R_nil _ _ _ _ _ | exact Kd.N_nil _ _ _ _ _ | exact Kd.V_nil _ _ _ _ _ | exact Kd.Q_nil _ _ _ _ _ | exact Kd.S_nil _ _ _ _ _, by repeat (first | (with_reducible first | exact HB.out | apply below_alloc | apply pw_below_drewN | apply below_drew1 | refine below_set ?_ GE189.out | refine below_set ?_ GE207.out) | exact HB.out)⟩
               ·
                rw [if_neg c49] at H
                exact absurd H (by simp)
              ·
               rw [if_neg c48] at H
               exact absurd H (by simp)
             ·
              rw [if_neg c47] at H
              have c47b0 : decide (x78_3 < (t202.length : Int)) = false := decide_eq_false c47
              clear c47
              replace H := Option.bind_eq_some_iff.mp H
              obtain ⟨t210, A730, H⟩ := H
              replace H : (spec_l7Of.l3 k3 t202 (t210.length : Int) 0 l0_0 t210) = some (r1, r2) := H
              have A73 := aM A730
              clear A730
              have H' := aM H
              clear H
              go_wp2_with (first | (go_at_call 56; (try simp only [i64_w]); (with_reducible refine (spec_l7Treap.calls _ _ t202 t210 _ ?side1 ?side2 A73.out).mono ?_); (case side1 => repeat (first | exact (Kd.R_reads' HO_10.out).2.2 | (with_reducible refine Kd.C_alloc ?_ _) | (with_reducible refine Kd.C_drewN ?_ _) | (with_reducible refine Kd.C_drew ?_))); (case side2 => exact (Kd.R_reads' HO_10.out).2.1); rintro e w74 ⟨v211, rfl, ho0, hb⟩; have n0_ := aM (Kd.R_below (gR HO_10.out) hb); have n1_ := aM (Kd.R_below (gR HO_76.out) hb); have n2_ := aM (Kd.R_lower ho0 (below_size (gB HB.out))); have n3_ := aM (blk_below (g := gb189) (o := .cells #[.slice A0_0 l0_0.length c0_0] 29 (0, 0)) (gK BK189.out) hb); have n4_ := aM (below_step (gB HB.out) hb); clear HO_10; clear HO_76; clear BK189; clear HB; have HO_10 := n0_; have HO_76 := n1_; have HO212 := n2_; have BK189 := n3_; have HB := n4_; clear n0_ n1_ n2_ n3_ n4_; (try clear hb); (try clear hb2); (try clear hk); (try clear hi); (try clear ho0)) | ((with_reducible refine gate_dst (N := 14) rfl ?_); (try (refine gate_guard (by rfl) ?_; dsimp only)); refine box_event ?hg (N := 14) ?hd (cs := #[.slice none 0 0]) (t := 29) ?hr ?_; (case hd => rfl); (case hg => rfl); (case hr => first | (go_simp; done) | (go_simp; rfl)); intro gb213 hg w75 hbox hb; have n0_ := aM (Kd.R_below (gR HO_10.out) hb); have n1_ := aM (Kd.R_below (gR HO_76.out) hb); have n2_ := aM (Kd.R_below (gR HO212.out) hb); have n3_ := aM (blk_below (g := gb189) (o := .cells #[.slice A0_0 l0_0.length c0_0] 29 (0, 0)) (gK BK189.out) hb); have n4_ := aM (below_step (gB HB.out) hb); have n5_ := aM (hbox); have n6_ := aM ((by rw [hg]; exact (below_size (gB HB.out)) : w.heap.size ≤ gb213)); have n7_ := aM ((by rw [hg]; exact (below_size (gB HB.out)) : w.heap.size ≤ gb213)); have n8_ := aM ((by rw [hg]; exact Nat.ne_of_lt (blk_lt (g := gb189) (o := .cells #[.slice A0_0 l0_0.length c0_0] 29 (0, 0)) (gK BK189.out)) : gb189 ≠ gb213)); have n9_ := aM ((by rw [hg]; exact Nat.ne_of_gt (blk_lt (g := gb189) (o := .cells #[.slice A0_0 l0_0.length c0_0] 29 (0, 0)) (gK BK189.out)) : gb213 ≠ gb189)); clear HO_10; clear HO_76; clear HO212; clear BK189; clear HB; have HO_10 := n0_; have HO_76 := n1_; have HO212 := n2_; have BK189 := n3_; have HB := n4_; have BK213 := n5_; have GW213 := n6_; have GE213 := n7_; have NB189_213 := n8_; have NB213_189 := n9_; clear n0_ n1_ n2_ n3_ n4_ n5_ n6_ n7_ n8_ n9_; clear hb hbox hg; obtain ⟨Ao76, co76, eo76⟩ := Kd.R_slice HO212.out; subst eo76; have hnb77 := NB213_189.out; have hnc77 := NB189_213.out; have hcz78_0 : w75.cell? ⟨gb213, 0, none⟩ = some (.slice none 0 0) := (blk_cell BK213.out 0).trans rfl; have hfz78_0 := blk_frozen BK213.out 0))
              go_loopg [115] k3 (fun kq v115 w' => ∃ (x115_4 : Int), v115 = .int .i64 x115_4 ∧ Aside0 (spec_l7Of.l3 kq t202 (t210.length : Int) x115_4 l0_0 t210 = some (r1, r2)) ∧ Aside0 (kq ≤ k3) ∧ Aside0 (Kd.R k74 74 w' w.heap.size (fun _ => True) (.slice Ao46 t202.length co46) t202) ∧ Aside0 (Kd.R k71 71 w' w.heap.size (fun _ => True) (.slice Ao76 t210.length co76) t210) ∧ Aside0 (w'.heap[gb189]? = some (.cells #[(.slice A0_0 l0_0.length c0_0)] 29 (0, 0))) ∧ Aside0 (w'.heap[gb213]? = some (.cells #[(.slice Ao76 t210.length co76)] 29 (0, 0))) ∧ Aside0 (Below w.heap.size w w'))
              case atStart => exact ⟨(0), (by first | rfl | (simp; done) | (simp [*]; done)), H', ⟨Nat.le_refl _⟩, ⟨by (with_reducible repeat (first | apply Kd.R_alloc | apply Kd.R_drewN | apply Kd.R_drew)); exact Kd.R_mono (Kd.R_far (p := ⟨gb213, 0, none⟩) (Kd.R_types HO_10.out BK213.out (by decide)) (fun _ hk => hk.2) (.slice Ao76 t210.length co76)) (fun _ hk => trivial)⟩, ⟨by (with_reducible repeat (first | apply Kd.R_alloc | apply Kd.R_drewN | apply Kd.R_drew)); exact Kd.R_mono (Kd.R_far (p := ⟨gb213, 0, none⟩) (Kd.R_types HO212.out BK213.out (by decide)) (fun _ hk => hk.2) (.slice Ao76 t210.length co76)) (fun _ hk => trivial)⟩, ⟨by (with_reducible repeat (first | refine blk_drewN ?_ _ | refine blk_drew ?_ | refine blk_alloc ?_ _)); refine blk_far ?_ NB189_213.out _; (with_reducible repeat (first | refine blk_drewN ?_ _ | refine blk_drew ?_ | refine blk_alloc ?_ _)); exact BK189.out⟩, ⟨by (with_reducible repeat (first | refine blk_drewN ?_ _ | refine blk_drew ?_ | refine blk_alloc ?_ _)); refine blk_put (cs := #[.slice none 0 0]) ?_ 0 _ rfl; (with_reducible repeat (first | refine blk_drewN ?_ _ | refine blk_drew ?_ | refine blk_alloc ?_ _)); exact BK213.out⟩, ⟨by repeat (first | (with_reducible first | exact HB.out | apply below_alloc | apply pw_below_drewN | apply below_drew1 | refine below_set ?_ GE189.out | refine below_set ?_ GE213.out) | exact HB.out)⟩⟩
              case round =>
               clear H'
               try clear c1
               try clear p1
               try clear q1
               try clear hx1
               try clear c2
               try clear c2b0
               try clear c2b1
               try clear c2b2
               try clear p2
               try clear q2
               try clear hx2
               try clear c3
               try clear p3
               try clear q3
               try clear hx3
               try clear hf3
               try clear c4
               try clear c5
               try clear c5b0
               try clear c5b1
               try clear c6
               try clear p6
               try clear c7
               try clear c8
               try clear c8b0
               try clear c8b1
               try clear c9
               try clear c9b0
               try clear c9b1
               try clear c15
               try clear c15b0
               try clear c16
               try clear c16b0
               try clear c17
               try clear c17b0
               try clear c19
               try clear p19
               try clear q19
               try clear hx19
               try clear p20
               try clear q20
               try clear hx20
               try clear c24
               try clear c24b0
               try clear c25
               try clear c25b0
               try clear c26
               try clear c26b0
               try clear c27
               try clear c27b0
               try clear c27b1
               try clear c29
               try clear c30
               try clear c30b0
               try clear c31
               try clear c31b0
               try clear q32
               try clear c33
               try clear p35
               try clear q35
               try clear hx35
               try clear hf35
               try clear c43
               try clear c45
               try clear c47
               try clear c47b0
               try clear c48
               try clear c48b0
               try clear c49
               try clear c49b0
               try clear c51
               try clear c52
               try clear c52b0
               try clear c52b1
               try clear c54
               try clear c56
               try clear c56b0
               try clear c58
               try clear c58b0
               try clear c59
               try clear c59b0
               try clear c60
               try clear c60b0
               try clear c62
               try clear p64
               try clear c65
               try clear c68
               try clear c71
               try clear c77
               try clear hcz11_0
               try clear hcz14_0
               try clear hcz20_0
               try clear hcz20_1
               try clear hcz20_2
               try clear hcz20_3
               try clear hcz41_0
               try clear hcz4_0
               try clear hcz55_0
               try clear hcz55_1
               try clear hcz63_0
               try clear hcz63_1
               try clear hcz66_0
               try clear hcz66_1
               try clear hcz69_0
               try clear hcz69_1
               try clear hcz72_0
               try clear hcz72_1
               try clear hcz78_0
               try clear hcz7_0
               try clear hfz11_0
               try clear hfz14_0
               try clear hfz20_0
               try clear hfz20_1
               try clear hfz20_2
               try clear hfz20_3
               try clear hfz41_0
               try clear hfz4_0
               try clear hfz55_0
               try clear hfz55_1
               try clear hfz63_0
               try clear hfz63_1
               try clear hfz66_0
               try clear hfz66_1
               try clear hfz69_0
               try clear hfz69_1
               try clear hfz72_0
               try clear hfz72_1
               try clear hfz78_0
               try clear hfz7_0
               try clear hx193_0
               try clear hx193_1
               try clear hx193_2
               try clear hx193_3
               try clear hx198_0
               try clear hx200_0
               try clear hx206_0
               try clear hx206_1
               try clear hx209_0
               try clear hx209_1
               try clear hx35_0
               try clear p1
               try clear p19
               try clear p193
               try clear p198
               try clear p2
               try clear p20
               try clear p200
               try clear p206
               try clear p209
               try clear p3
               try clear p35
               try clear p6
               try clear q1
               try clear q19
               try clear q193
               try clear q198
               try clear q2
               try clear q20
               try clear q200
               try clear q206
               try clear q209
               try clear q3
               try clear q32
               try clear q35
               obtain ⟨x115_4, rfl, HA, HK4, HO_10, HO_214000, BK189, BK213, HB⟩ := hrel
               cases gk with
               | zero => exact absurd HA.out (by simp [spec_l7Of.l3])
               | succ k4 =>
                have H := HA.out
                clear HA
                simp only [spec_l7Of.l3] at H
                by_cases c79 : x115_4 < (t210.length : Int)
                ·
                 rw [if_pos c79] at H
                 have c79b0 : decide (x115_4 < (t210.length : Int)) = true := decide_eq_true c79
                 clear c79
                 by_cases c80 : 0 ≤ x115_4
                 ·
                  rw [if_pos c80] at H
                  have c80b0 : decide (0 ≤ x115_4) = true := decide_eq_true c80
                  clear c80
                  by_cases c81 : x115_4 < (t210.length : Int)
                  ·
                   rw [if_pos c81] at H
                   have c81b0 : decide (x115_4 < (t210.length : Int)) = true := decide_eq_true c81
                   clear c81
                   by_cases c82 : x115_4 < (l0_0.length : Int)
                   ·
                    rw [if_pos c82] at H
                    have c82b0 : decide (x115_4 < (l0_0.length : Int)) = true := decide_eq_true c82
                    clear c82
                    by_cases c83 : (!((((rd_T71 t210 x115_4).f0).toList) == (((rd_T71 l0_0 x115_4).f0).toList)) || (!((((rd_T71 t210 x115_4).f1).toList) == (((rd_T71 l0_0 x115_4).f1).toList)) || (!(((rd_T71 t210 x115_4).f2) == ((rd_T71 l0_0 x115_4).f2)) || (!(((rd_T71 t210 x115_4).f3) == ((rd_T71 l0_0 x115_4).f3)))))) = true
                    ·
                     rw [if_pos c83] at H
                     have c83b0 : (!((((rd_T71 t210 x115_4).f0).toList) == (((rd_T71 l0_0 x115_4).f0).toList)) || (!((((rd_T71 t210 x115_4).f1).toList) == (((rd_T71 l0_0 x115_4).f1).toList)) || (!(((rd_T71 t210 x115_4).f2) == ((rd_T71 l0_0 x115_4).f2)) || (!(((rd_T71 t210 x115_4).f3) == ((rd_T71 l0_0 x115_4).f3)))))) = true := c83
                     clear c83
                     simp only [Option.some.injEq, Prod.mk.injEq] at H
                     obtain ⟨rfl, rfl⟩ := H
                     have hnb84 := NB213_189.out
                     have hnc84 := NB189_213.out
                     have hcz85_0 : wr.cell? ⟨gb213, 0, none⟩ = some (.slice Ao76 t210.length co76) := (blk_cell BK213.out 0).trans rfl
                     have hfz85_0 := blk_frozen BK213.out 0
                     have p214 : 0 ≤ (x115_4 : Int) := of_decide_eq_true (by first | (with_reducible assumption) | assumption)
                     have q214 : x115_4 < (t210.length : Int) := of_decide_eq_true (by first | (with_reducible assumption) | assumption)
                     obtain ⟨ad214, e214, hx214_0, hx214_1, hx214_2, hx214_3⟩ := at_T71 (Kd.R_reads' HO_214000.out).2.2 x115_4 p214 q214
                     cases e214
                     try have hz_hx214_0 := aM hx214_0
                     try have hz_hx214_1 := aM hx214_1
                     try have hz_hx214_2 := aM hx214_2
                     try have hz_hx214_3 := aM hx214_3
                     replace p214 := eq_true p214
                     replace q214 := eq_true q214
                     have hcz86_0 : wr.cell? ⟨gb189, 0, none⟩ = some (.slice A0_0 l0_0.length c0_0) := (blk_cell BK189.out 0).trans rfl
                     have hfz86_0 := blk_frozen BK189.out 0
                     have p215 : 0 ≤ (x115_4 : Int) := of_decide_eq_true (by first | (with_reducible assumption) | assumption)
                     have q215 : x115_4 < (l0_0.length : Int) := of_decide_eq_true (by first | (with_reducible assumption) | assumption)
                     obtain ⟨ad215, e215, hx215_0, hx215_1, hx215_2, hx215_3⟩ := at_T71 HR0_0.out x115_4 p215 q215
                     cases e215
                     try have hz_hx215_0 := aM hx215_0
                     try have hz_hx215_1 := aM hx215_1
                     try have hz_hx215_2 := aM hx215_2
                     try have hz_hx215_3 := aM hx215_3
                     replace hx215_0 := (HB.out.cell (World.block_lt_of_cell? w _ hx215_0)).trans hx215_0
                     replace hx215_1 := (HB.out.cell (World.block_lt_of_cell? w _ hx215_1)).trans hx215_1
                     replace hx215_2 := (HB.out.cell (World.block_lt_of_cell? w _ hx215_2)).trans hx215_2
                     replace hx215_3 := (HB.out.cell (World.block_lt_of_cell? w _ hx215_3)).trans hx215_3
                     replace p215 := eq_true p215
                     replace q215 := eq_true q215
                     go_wp2
                     repeat (go_quiet (fail); try go_wp2)
                     go_ret2
                     exact ⟨_, by first | rfl | (simp [errW_none, errW_some] <;> rfl) | (simp [*, errW_none, errW_some] <;> rfl), by first | exact Kd.R_nil _ _ _ _ _ | exact Kd.N_nil _ _ _ _ _ | exact Kd.V_nil _ _ _ _ _ | exact Kd.Q_nil _ _ _ _ _ | exact Kd.S_nil _ _ _ _ _, by repeat (first | (with_reducible first | exact HB.out | apply below_alloc | apply pw_below_drewN | apply below_drew1 | refine below_set ?_ GE189.out | refine below_set ?_ GE213.out) | exact HB.out)⟩
                    ·
                     rw [if_neg c83] at H
                     have c83b0 : (!((((rd_T71 t210 x115_4).f0).toList) == (((rd_T71 l0_0 x115_4).f0).toList)) || (!((((rd_T71 t210 x115_4).f1).toList) == (((rd_T71 l0_0 x115_4).f1).toList)) || (!(((rd_T71 t210 x115_4).f2) == ((rd_T71 l0_0 x115_4).f2)) || (!(((rd_T71 t210 x115_4).f3) == ((rd_T71 l0_0 x115_4).f3)))))) = false := by simpa using c83
                     clear c83
                     have H' := aM H
                     clear H
                     have hnb87 := NB213_189.out
                     have hnc87 := NB189_213.out
                     have hcz88_0 : wr.cell? ⟨gb213, 0, none⟩ = some (.slice Ao76 t210.length co76) := (blk_cell BK213.out 0).trans rfl
                     have hfz88_0 := blk_frozen BK213.out 0
                     have p214 : 0 ≤ (x115_4 : Int) := of_decide_eq_true (by first | (with_reducible assumption) | assumption)
                     have q214 : x115_4 < (t210.length : Int) := of_decide_eq_true (by first | (with_reducible assumption) | assumption)
                     obtain ⟨ad214, e214, hx214_0, hx214_1, hx214_2, hx214_3⟩ := at_T71 (Kd.R_reads' HO_214000.out).2.2 x115_4 p214 q214
                     cases e214
                     try have hz_hx214_0 := aM hx214_0
                     try have hz_hx214_1 := aM hx214_1
                     try have hz_hx214_2 := aM hx214_2
                     try have hz_hx214_3 := aM hx214_3
                     replace p214 := eq_true p214
                     replace q214 := eq_true q214
                     have hcz89_0 : wr.cell? ⟨gb189, 0, none⟩ = some (.slice A0_0 l0_0.length c0_0) := (blk_cell BK189.out 0).trans rfl
                     have hfz89_0 := blk_frozen BK189.out 0
                     have p215 : 0 ≤ (x115_4 : Int) := of_decide_eq_true (by first | (with_reducible assumption) | assumption)
                     have q215 : x115_4 < (l0_0.length : Int) := of_decide_eq_true (by first | (with_reducible assumption) | assumption)
                     obtain ⟨ad215, e215, hx215_0, hx215_1, hx215_2, hx215_3⟩ := at_T71 HR0_0.out x115_4 p215 q215
                     cases e215
                     try have hz_hx215_0 := aM hx215_0
                     try have hz_hx215_1 := aM hx215_1
                     try have hz_hx215_2 := aM hx215_2
                     try have hz_hx215_3 := aM hx215_3
                     replace hx215_0 := (HB.out.cell (World.block_lt_of_cell? w _ hx215_0)).trans hx215_0
                     replace hx215_1 := (HB.out.cell (World.block_lt_of_cell? w _ hx215_1)).trans hx215_1
                     replace hx215_2 := (HB.out.cell (World.block_lt_of_cell? w _ hx215_2)).trans hx215_2
                     replace hx215_3 := (HB.out.cell (World.block_lt_of_cell? w _ hx215_3)).trans hx215_3
                     replace p215 := eq_true p215
                     replace q215 := eq_true q215
                     go_wp2
                     repeat (go_quiet (fail); try go_wp2)
                     go_roundg k4
                     case measure => have := HK1.out; have := HJ39.out; have := HK3.out; have := HK4.out; omega
                     case rel => exact ⟨(wrap64 (x115_4 + 1)), (by first | rfl | (simp; done) | (simp [*]; done)), H', ⟨by have := HK1.out; have := HJ39.out; have := HK3.out; have := HK4.out; omega⟩, ⟨gR HO_10.out⟩, ⟨gR HO_214000.out⟩, ⟨gK BK189.out⟩, ⟨gK BK213.out⟩, ⟨by repeat (first | (with_reducible first | exact HB.out | apply below_alloc | apply pw_below_drewN | apply below_drew1 | refine below_set ?_ GE189.out | refine below_set ?_ GE213.out) | exact HB.out)⟩⟩
                   ·
                    rw [if_neg c82] at H
                    exact absurd H (by simp)
                  ·
                   rw [if_neg c81] at H
                   exact absurd H (by simp)
                 ·
                  rw [if_neg c80] at H
                  exact absurd H (by simp)
                ·
                 rw [if_neg c79] at H
                 have c79b0 : decide (x115_4 < (t210.length : Int)) = false := decide_eq_false c79
                 clear c79
                 simp only [Option.some.injEq, Prod.mk.injEq] at H
                 obtain ⟨rfl, rfl⟩ := H
                 go_wp2
                 go_ret2
                 exact ⟨_, by first | rfl | (simp [errW_none, errW_some] <;> rfl) | (simp [*, errW_none, errW_some] <;> rfl), by (with_reducible repeat (first | apply Kd.R_alloc | apply Kd.R_drewN | apply Kd.R_drew)); exact HO_10.out, by repeat (first | (with_reducible first | exact HB.out | apply below_alloc | apply pw_below_drewN | apply below_drew1 | refine below_set ?_ GE189.out | refine below_set ?_ GE213.out) | exact HB.out)⟩
    ·
     rw [if_neg c9] at H
     exact absurd H (by simp)
   ·
    rw [if_neg c8] at H
    exact absurd H (by simp)

end Go.Proofs.Ytjknkeipginpcaa.PQ
end

section
namespace Go.Proofs.Ytjknkeipginpcaa.PQ
open Go.RowKit Go.Proofs.YtjknkeipginpcaaW.PrintWords Go.Proofs.YtjknkeipginpcaaW.PrintLast Go.Proofs.YtjknkeipginpcaaW.PrintMore
attribute [local go_sem] max2_int min2_int max_two min_two max_three min_three max_four min_four
set_option linter.unusedVariables false
set_option linter.unusedSimpArgs false
def spec_CutKey.f (k : Nat) (l0_0 : List (S71)) (a1 : ByteArray) : Option ((List (S71)) × Bool) := (spec_l7Of.f k l0_0).bind fun bt327 => ((spec_l7At.f k bt327.1 a1).bind fun bt331 => (if bt327.2 = true then (if bt331.2 = true then ((some (([] : List (S74)) : List (S74))).bind fun y333 => (if 0 ≤ bt331.1 then (if bt331.1 ≤ (bt327.1.length : Int) then ((some (bt327.1.take (bt331.1 : Int).toNat : List (S74))).bind fun y336 => (if y333.length + y336.length < 4398046511104 then ((some (y333 ++ y336 : List (S74))).bind fun y340 => (if 0 ≤ (wrap64 (bt331.1 + 1)) then (if (wrap64 (bt331.1 + 1)) ≤ (bt327.1.length : Int) then ((some (bt327.1.drop ((wrap64 (bt331.1 + 1)) : Int).toNat : List (S74))).bind fun y343 => (if y340.length + y343.length < 4398046511104 then ((spec_l7Treap.f (y340 ++ y343)).bind fun t350 => (some (t350, true))) else (none))) else (none)) else (none))) else (none))) else (none)) else (none))) else (some (([] : List (S71)), false))) else (some (([] : List (S71)), false))))
def spec_CutKey.T5 : Bool × List (List Nat × List Nat) := (true, [([], []), ([], []), ([], []), ([1, 2], [1, 2]), ([0, 3], [0, 3]), ([], []), ([], []), ([6], [6]), ([5, 7], [5, 7]), ([4, 8, 4], [4, 8]), ([9, 9], [9]), ([10, 10, 0, 1, 2, 3, 4, 5, 6, 7, 8, 9, 10], [10]), ([11, 0, 1, 2, 3, 4, 5, 6, 7, 8, 9, 10, 11], [])])
def spec_CutKey.B5 : List Nat := [0, 0, 0, 6, 15, 0, 0, 64, 224, 511, 1023, 2047, 4095]
theorem spec_CutKey.tab5 : rtab .any (opsOf Try.f33 5) = spec_CutKey.T5 := by kernel_rfl
theorem spec_CutKey.bits5 : waitsOk spec_CutKey.T5.2 spec_CutKey.B5 = true := by kernel_rfl
set_option maxHeartbeats 8000000 in
set_option maxRecDepth 100000 in
theorem spec_CutKey.calls (k : Nat) (A0_0 : Option Addr) (c0_0 : Nat) (l0_0 : List (S71)) (a1 : ByteArray) (r1 : List (S71)) (r2 : Bool) (w : World) (hr0_0 : Kd.C k71 w A0_0 l0_0.length l0_0) (hc0_0 : l0_0.length ≤ c0_0) (h : spec_CutKey.f k l0_0 a1 = some (r1, r2)) :
  Calls Try.prog 33 #[.agg #[.slice A0_0 l0_0.length c0_0], .string a1] w fun e w' => ∃ v0_ : Value, e = .returned (.tuple #[.agg #[v0_], .bool r2]) ∧ Kd.R k71 71 w' w.heap.size (fun _ => True) v0_ r1 ∧ Below w.heap.size w w' := by
 have hu29 := Try.underlying29
 have HR0_0 := aM hr0_0
 have HC0_0 := aM hc0_0
 clear hr0_0 hc0_0
 have HB := aM (Below.refl w.heap.size w)
 have H : ((spec_l7Of.f k l0_0).bind fun bt327 => ((spec_l7At.f k bt327.1 a1).bind fun bt331 => (if bt327.2 = true then (if bt331.2 = true then ((some (([] : List (S74)) : List (S74))).bind fun y333 => (if 0 ≤ bt331.1 then (if bt331.1 ≤ (bt327.1.length : Int) then ((some (bt327.1.take (bt331.1 : Int).toNat : List (S74))).bind fun y336 => (if y333.length + y336.length < 4398046511104 then ((some (y333 ++ y336 : List (S74))).bind fun y340 => (if 0 ≤ (wrap64 (bt331.1 + 1)) then (if (wrap64 (bt331.1 + 1)) ≤ (bt327.1.length : Int) then ((some (bt327.1.drop ((wrap64 (bt331.1 + 1)) : Int).toNat : List (S74))).bind fun y343 => (if y340.length + y343.length < 4398046511104 then ((spec_l7Treap.f (y340 ++ y343)).bind fun t350 => (some (t350, true))) else (none))) else (none)) else (none))) else (none))) else (none)) else (none))) else (some (([] : List (S71)), false))) else (some (([] : List (S71)), false))))) = some (r1, r2) := h
 clear h
 replace H := Option.bind_eq_some_iff.mp H
 obtain ⟨⟨t327, t330⟩, A30, H⟩ := H
 replace H : ((spec_l7At.f k t327 a1).bind fun bt331 => (if t330 = true then (if bt331.2 = true then ((some (([] : List (S74)) : List (S74))).bind fun y333 => (if 0 ≤ bt331.1 then (if bt331.1 ≤ (t327.length : Int) then ((some (t327.take (bt331.1 : Int).toNat : List (S74))).bind fun y336 => (if y333.length + y336.length < 4398046511104 then ((some (y333 ++ y336 : List (S74))).bind fun y340 => (if 0 ≤ (wrap64 (bt331.1 + 1)) then (if (wrap64 (bt331.1 + 1)) ≤ (t327.length : Int) then ((some (t327.drop ((wrap64 (bt331.1 + 1)) : Int).toNat : List (S74))).bind fun y343 => (if y340.length + y343.length < 4398046511104 then ((spec_l7Treap.f (y340 ++ y343)).bind fun t350 => (some (t350, true))) else (none))) else (none)) else (none))) else (none))) else (none)) else (none))) else (some (([] : List (S71)), false))) else (some (([] : List (S71)), false)))) = some (r1, r2) := H
 have A3 := aM A30
 clear A30
 replace H := Option.bind_eq_some_iff.mp H
 obtain ⟨⟨t331, t332⟩, A40, H⟩ := H
 replace H : (if t330 = true then (if t332 = true then ((some (([] : List (S74)) : List (S74))).bind fun y333 => (if 0 ≤ t331 then (if t331 ≤ (t327.length : Int) then ((some (t327.take (t331 : Int).toNat : List (S74))).bind fun y336 => (if y333.length + y336.length < 4398046511104 then ((some (y333 ++ y336 : List (S74))).bind fun y340 => (if 0 ≤ (wrap64 (t331 + 1)) then (if (wrap64 (t331 + 1)) ≤ (t327.length : Int) then ((some (t327.drop ((wrap64 (t331 + 1)) : Int).toNat : List (S74))).bind fun y343 => (if y340.length + y343.length < 4398046511104 then ((spec_l7Treap.f (y340 ++ y343)).bind fun t350 => (some (t350, true))) else (none))) else (none)) else (none))) else (none))) else (none)) else (none))) else (some (([] : List (S71)), false))) else (some (([] : List (S71)), false))) = some (r1, r2) := H
 have A4 := aM A40
 clear A40
 by_cases c5 : t330 = true
 ·
  subst c5
  have H1 : (if t332 = true then ((some (([] : List (S74)) : List (S74))).bind fun y333 => (if 0 ≤ t331 then (if t331 ≤ (t327.length : Int) then ((some (t327.take (t331 : Int).toNat : List (S74))).bind fun y336 => (if y333.length + y336.length < 4398046511104 then ((some (y333 ++ y336 : List (S74))).bind fun y340 => (if 0 ≤ (wrap64 (t331 + 1)) then (if (wrap64 (t331 + 1)) ≤ (t327.length : Int) then ((some (t327.drop ((wrap64 (t331 + 1)) : Int).toNat : List (S74))).bind fun y343 => (if y340.length + y343.length < 4398046511104 then ((spec_l7Treap.f (y340 ++ y343)).bind fun t350 => (some (t350, true))) else (none))) else (none)) else (none))) else (none))) else (none)) else (none))) else (some (([] : List (S71)), false))) = some (r1, r2) := by rw [if_pos rfl] at H; exact H
  clear H
  have H := H1
  clear H1
  by_cases c6 : t332 = true
  ·
   subst c6
   have H1 : ((some (([] : List (S74)) : List (S74))).bind fun y333 => (if 0 ≤ t331 then (if t331 ≤ (t327.length : Int) then ((some (t327.take (t331 : Int).toNat : List (S74))).bind fun y336 => (if y333.length + y336.length < 4398046511104 then ((some (y333 ++ y336 : List (S74))).bind fun y340 => (if 0 ≤ (wrap64 (t331 + 1)) then (if (wrap64 (t331 + 1)) ≤ (t327.length : Int) then ((some (t327.drop ((wrap64 (t331 + 1)) : Int).toNat : List (S74))).bind fun y343 => (if y340.length + y343.length < 4398046511104 then ((spec_l7Treap.f (y340 ++ y343)).bind fun t350 => (some (t350, true))) else (none))) else (none)) else (none))) else (none))) else (none)) else (none))) = some (r1, r2) := by rw [if_pos rfl] at H; exact H
   clear H
   have H := H1
   clear H1
   obtain ⟨y333, hy333⟩ : ∃ y_ : List (S74), y_ = (([] : List (S74))) := ⟨_, rfl⟩
   replace H : (if 0 ≤ t331 then (if t331 ≤ (t327.length : Int) then ((some (t327.take (t331 : Int).toNat : List (S74))).bind fun y336 => (if y333.length + y336.length < 4398046511104 then ((some (y333 ++ y336 : List (S74))).bind fun y340 => (if 0 ≤ (wrap64 (t331 + 1)) then (if (wrap64 (t331 + 1)) ≤ (t327.length : Int) then ((some (t327.drop ((wrap64 (t331 + 1)) : Int).toNat : List (S74))).bind fun y343 => (if y340.length + y343.length < 4398046511104 then ((spec_l7Treap.f (y340 ++ y343)).bind fun t350 => (some (t350, true))) else (none))) else (none)) else (none))) else (none))) else (none)) else (none)) = some (r1, r2) := by first | (rw [hy333]; with_reducible exact H) | (have H2_ := (Option.bind_some _ _).symm.trans H; rw [hy333]; with_reducible exact H2_) | (have H2_ := (Option.bind_some _ _).symm.trans H; with_reducible exact H2_) | with_reducible exact H | (rw [hy333]; exact H) | exact H
   have Ny333 := aM hy333
   clear hy333
   by_cases c7 : 0 ≤ t331
   ·
    rw [if_pos c7] at H
    have c7b0 := eq_true c7
    have c7b1 : decide (0 ≤ t331) = true := decide_eq_true c7
    clear c7
    by_cases c8 : t331 ≤ (t327.length : Int)
    ·
     rw [if_pos c8] at H
     have c8b0 := eq_true c8
     have c8b1 : decide (t331 ≤ (t327.length : Int)) = true := decide_eq_true c8
     clear c8
     obtain ⟨y336, hy336⟩ : ∃ y_ : List (S74), y_ = (t327.take (t331 : Int).toNat) := ⟨_, rfl⟩
     replace H : (if y333.length + y336.length < 4398046511104 then ((some (y333 ++ y336 : List (S74))).bind fun y340 => (if 0 ≤ (wrap64 (t331 + 1)) then (if (wrap64 (t331 + 1)) ≤ (t327.length : Int) then ((some (t327.drop ((wrap64 (t331 + 1)) : Int).toNat : List (S74))).bind fun y343 => (if y340.length + y343.length < 4398046511104 then ((spec_l7Treap.f (y340 ++ y343)).bind fun t350 => (some (t350, true))) else (none))) else (none)) else (none))) else (none)) = some (r1, r2) := by first | (rw [hy336]; with_reducible exact H) | (have H2_ := (Option.bind_some _ _).symm.trans H; rw [hy336]; with_reducible exact H2_) | (have H2_ := (Option.bind_some _ _).symm.trans H; with_reducible exact H2_) | with_reducible exact H | (rw [hy336]; exact H) | exact H
     have Ny336 := aM hy336
     clear hy336
     by_cases c9 : y333.length + y336.length < 4398046511104
     ·
      rw [if_pos c9] at H
      have LMc9 := aM c9
      clear c9
      obtain ⟨y340, hy340⟩ : ∃ y_ : List (S74), y_ = (y333 ++ y336) := ⟨_, rfl⟩
      replace H : (if 0 ≤ (wrap64 (t331 + 1)) then (if (wrap64 (t331 + 1)) ≤ (t327.length : Int) then ((some (t327.drop ((wrap64 (t331 + 1)) : Int).toNat : List (S74))).bind fun y343 => (if y340.length + y343.length < 4398046511104 then ((spec_l7Treap.f (y340 ++ y343)).bind fun t350 => (some (t350, true))) else (none))) else (none)) else (none)) = some (r1, r2) := by first | (rw [hy340]; with_reducible exact H) | (have H2_ := (Option.bind_some _ _).symm.trans H; rw [hy340]; with_reducible exact H2_) | (have H2_ := (Option.bind_some _ _).symm.trans H; with_reducible exact H2_) | with_reducible exact H | (rw [hy340]; exact H) | exact H
      have Ny340 := aM hy340
      clear hy340
      obtain ⟨ji10, hji10⟩ : ∃ j_ : Int, (wrap64 (t331 + 1)) = j_ := ⟨_, rfl⟩
      replace H : (if 0 ≤ (ji10) then (if (ji10) ≤ (t327.length : Int) then ((some (t327.drop ((ji10) : Int).toNat : List (S74))).bind fun y343 => (if y340.length + y343.length < 4398046511104 then ((spec_l7Treap.f (y340 ++ y343)).bind fun t350 => (some (t350, true))) else (none))) else (none)) else (none)) = some (r1, r2) := by first | (rw [hji10] at H; exact H) | (simp only [hji10] at H ⊢; exact H)
      (try rw [hji10] at A3)
      (try rw [hji10] at A4)
      have hji10w : (IntKind.i64.wrap (t331 + 1)) = ji10 := (i64_w _).trans hji10
      by_cases c11 : 0 ≤ (ji10)
      ·
       rw [if_pos c11] at H
       have c11b0 := eq_true c11
       have c11b1 : decide (0 ≤ (ji10)) = true := decide_eq_true c11
       clear c11
       by_cases c12 : (ji10) ≤ (t327.length : Int)
       ·
        rw [if_pos c12] at H
        have c12b0 := eq_true c12
        have c12b1 : decide ((ji10) ≤ (t327.length : Int)) = true := decide_eq_true c12
        clear c12
        obtain ⟨y343, hy343⟩ : ∃ y_ : List (S74), y_ = (t327.drop ((ji10) : Int).toNat) := ⟨_, rfl⟩
        replace H : (if y340.length + y343.length < 4398046511104 then ((spec_l7Treap.f (y340 ++ y343)).bind fun t350 => (some (t350, true))) else (none)) = some (r1, r2) := by first | (rw [hy343]; with_reducible exact H) | (have H2_ := (Option.bind_some _ _).symm.trans H; rw [hy343]; with_reducible exact H2_) | (have H2_ := (Option.bind_some _ _).symm.trans H; with_reducible exact H2_) | with_reducible exact H | (rw [hy343]; exact H) | exact H
        have Ny343 := aM hy343
        clear hy343
        by_cases c13 : y340.length + y343.length < 4398046511104
        ·
         rw [if_pos c13] at H
         have LMc13 := aM c13
         clear c13
         obtain ⟨y347, hy347⟩ : ∃ y_ : List (S74), y_ = (y340 ++ y343) := ⟨_, rfl⟩
         replace H : ((spec_l7Treap.f y347).bind fun t350 => (some (t350, true))) = some (r1, r2) := by first | (rw [hy347]; with_reducible exact H) | (have H2_ := (Option.bind_some _ _).symm.trans H; rw [hy347]; with_reducible exact H2_) | (have H2_ := (Option.bind_some _ _).symm.trans H; with_reducible exact H2_) | with_reducible exact H | (rw [hy347]; exact H) | exact H
         have Ny347 := aM hy347
         clear hy347
         replace H := Option.bind_eq_some_iff.mp H
         obtain ⟨t350, A140, H⟩ := H
         replace H : (some (t350, true)) = some (r1, r2) := H
         have A14 := aM A140
         clear A140
         simp only [Option.some.injEq, Prod.mk.injEq] at H
         obtain ⟨rfl, rfl⟩ := H
         go_enter Try.func33, Try.ntmps33
         try go_wp2_with (first | ((with_reducible refine gate_dst (N := 2) rfl ?_); refine box_event ?hg (N := 2) ?hd (cs := #[.slice A0_0 l0_0.length c0_0]) (t := 29) ?hr ?_; (case hd => rfl); (case hg => rfl); (case hr => first | (go_simp; done) | (go_simp; rfl)); intro gb325 hg w15 hbox hb; have n0_ := aM (below_step (gB HB.out) hb); have n1_ := aM (hbox); have n2_ := aM ((by rw [hg]; exact (below_size (gB HB.out)) : w.heap.size ≤ gb325)); have n3_ := aM ((by rw [hg]; exact (below_size (gB HB.out)) : w.heap.size ≤ gb325)); clear HB; have HB := n0_; have BK325 := n1_; have GW325 := n2_; have GE325 := n3_; clear n0_ n1_ n2_ n3_; clear hb hbox hg) | ((with_reducible refine gate_dst (N := 4) rfl ?_); refine box_event ?hg (N := 4) ?hd (cs := #[.slice none 0 0]) (t := 29) ?hr ?_; (case hd => rfl); (case hg => rfl); (case hr => first | (go_simp; done) | (go_simp; rfl)); intro gb326 hg w16 hbox hb; have n0_ := aM (blk_below (g := gb325) (o := .cells #[.slice A0_0 l0_0.length c0_0] 29 (0, 0)) (gK BK325.out) hb); have n1_ := aM (below_step (gB HB.out) hb); have n2_ := aM (hbox); have n3_ := aM ((by rw [hg]; exact (below_size (gB HB.out)) : w.heap.size ≤ gb326)); have n4_ := aM ((by rw [hg]; exact (below_size (gB HB.out)) : w.heap.size ≤ gb326)); have n5_ := aM ((by rw [hg]; exact Nat.ne_of_lt (blk_lt (g := gb325) (o := .cells #[.slice A0_0 l0_0.length c0_0] 29 (0, 0)) (gK BK325.out)) : gb325 ≠ gb326)); have n6_ := aM ((by rw [hg]; exact Nat.ne_of_gt (blk_lt (g := gb325) (o := .cells #[.slice A0_0 l0_0.length c0_0] 29 (0, 0)) (gK BK325.out)) : gb326 ≠ gb325)); clear BK325; clear HB; have BK325 := n0_; have HB := n1_; have BK326 := n2_; have GW326 := n3_; have GE326 := n4_; have NB325_326 := n5_; have NB326_325 := n6_; clear n0_ n1_ n2_ n3_ n4_ n5_ n6_; clear hb hbox hg; have hnb17 := NB325_326.out; have hnc17 := NB326_325.out; have hcz18_0 : w16.cell? ⟨gb325, 0, none⟩ = some (.slice A0_0 l0_0.length c0_0) := (blk_cell BK325.out 0).trans rfl; have hfz18_0 := blk_frozen BK325.out 0) | ((with_reducible refine gate_callee (f := 47) rfl ?_); refine goesL_ (some 12) rfl rfl Try.func47 (by kernel_rfl) rfl #[.agg #[.slice A0_0 l0_0.length c0_0]] rfl (by (try simp only [List.map_toArray, List.map_cons, List.map_nil]); first | done | rfl | (simp only [List.length_drop, List.length_take]; rfl)) ?_; (with_reducible refine (spec_l7Of.calls k _ _ l0_0 t327 true _ ?side1 ?side2 A3.out).mono ?_); (case side1 => repeat (first | exact (Kd.C_below HR0_0.out HB.out) | (with_reducible refine Kd.C_alloc ?_ _) | (with_reducible refine Kd.C_drewN ?_ _) | (with_reducible refine Kd.C_drew ?_))); (case side2 => exact HC0_0.out); rintro e w19 ⟨v328, rfl, ho0, hb⟩; refine ⟨_, rfl, ?_⟩; have n0_ := aM (Kd.R_lower ho0 (below_size (gB HB.out))); have n1_ := aM (blk_below (g := gb325) (o := .cells #[.slice A0_0 l0_0.length c0_0] 29 (0, 0)) (gK BK325.out) hb); have n2_ := aM (blk_below (g := gb326) (o := .cells #[.slice none 0 0] 29 (0, 0)) (gK BK326.out) hb); have n3_ := aM (below_step (gB HB.out) hb); clear BK325; clear BK326; clear HB; have HO329 := n0_; have BK325 := n1_; have BK326 := n2_; have HB := n3_; clear n0_ n1_ n2_ n3_; (try clear hb); (try clear hb2); (try clear hk); (try clear hi); (try clear ho0); obtain ⟨Ao20, co20, eo20⟩ := Kd.R_slice HO329.out; subst eo20) | ((with_reducible refine gate_callee (f := 60) rfl ?_); refine goesL_ (some 18) rfl rfl Try.func60 (by kernel_rfl) rfl #[.slice Ao20 t327.length co20, .string a1] rfl (by (try simp only [List.map_toArray, List.map_cons, List.map_nil]); first | done | rfl | (simp only [List.length_drop, List.length_take]; rfl)) ?_; (with_reducible refine (spec_l7At.calls k _ _ t327 a1 t331 true _ ?side1 ?side2 A4.out).mono ?_); (case side1 => repeat (first | exact (Kd.R_reads' HO329.out).2.2 | (with_reducible refine Kd.C_alloc ?_ _) | (with_reducible refine Kd.C_drewN ?_ _) | (with_reducible refine Kd.C_drew ?_))); (case side2 => exact (Kd.R_reads' HO329.out).2.1); rintro e w' ⟨rfl, ⟨nd, rfl⟩⟩; refine ⟨_, rfl, ?_⟩; (try (rw [drewN_self w19]; generalize hq_ : World.drewN w19 _ = w19; have n0_ : Aside0 (Kd.R k74 74 w19 w.heap.size (fun _ => True) (.slice Ao20 t327.length co20) t327) := ⟨by rw [← hq_]; exact (gR HO329.out)⟩; have n1_ : Aside0 (w19.heap[gb325]? = some (.cells #[.slice A0_0 l0_0.length c0_0] 29 (0, 0))) := ⟨by rw [← hq_]; exact (gK BK325.out)⟩; have n2_ : Aside0 (w19.heap[gb326]? = some (.cells #[.slice none 0 0] 29 (0, 0))) := ⟨by rw [← hq_]; exact (gK BK326.out)⟩; have n3_ : Aside0 (Below w.heap.size w w19) := ⟨by rw [← hq_]; exact (gB HB.out)⟩; clear HO329 BK325 BK326 HB hq_; have HO329 := n0_; have BK325 := n1_; have BK326 := n2_; have HB := n3_; clear n0_ n1_ n2_ n3_))))
         have n0_ := aM (Kd.R_drew HO329.out)
         have n1_ := aM (blk_drew BK325.out)
         have n2_ := aM (blk_drew BK326.out)
         have n3_ := aM (below_drew1 HB.out)
         clear HO329
         clear BK325
         clear BK326
         clear HB
         have HO329 := n0_
         have BK325 := n1_
         have BK326 := n2_
         have HB := n3_
         clear n0_ n1_ n2_ n3_
         have q22 : (t331 : Int) ≤ ((t327.length : Int) : Int) := of_decide_eq_true (by first | (with_reducible assumption) | assumption)
         obtain ⟨i022, hi022, _, hsz22, _⟩ := info_parts info74
         have hroom22 : t327.length ≤ co20 := (Kd.R_reads' HO329.out).2.1
         have hC22 : Kd.C k74 _ Ao20 t327.length t327 := (Kd.R_reads' HO329.out).2.2
         have hcut22 := cut_to (P := Try.prog) 62 74 .i64 Try.underlying62 hi022 Ao20 t327.length co20 t331 (of_decide_eq_true (by first | (with_reducible assumption) | assumption)) q22 hroom22
         have hr22 := Kd.C_take (m := (t331 : Int).toNat) hC22 (by omega)
         have hy22 : y336.length = (t331 : Int).toNat := (by rw [Ny336.out, List.length_take]; omega)
         rw [← Ny336.out] at hr22
         rw [← hy22] at hcut22
         have HR339 := aM hr22
         have HC339 := aM (show y336.length ≤ co20 from by omega)
         clear hr22 hC22 hroom22 hi022 hsz22
         have KY22 := aM hy22
         clear hy22
         have KL22 := aM (show (t331 : Int).toNat ≤ t327.length from by omega)
         replace q22 := eq_true q22
         have q23 : ((ji10) : Int) ≤ ((t327.length : Int) : Int) := of_decide_eq_true (by first | (with_reducible assumption) | assumption)
         obtain ⟨i023, hi023, _, hsz23, _⟩ := info_parts info74
         have hroom23 : t327.length ≤ co20 := (Kd.R_reads' HO329.out).2.1
         have hC23 : Kd.C k74 _ Ao20 t327.length t327 := (Kd.R_reads' HO329.out).2.2
         have q023 : (0 : Int) ≤ ((ji10) : Int) := of_decide_eq_true (by first | (with_reducible assumption) | assumption)
         have hcut23 := cut_from (P := Try.prog) 62 74 .i64 Try.underlying62 hi023 2 hsz23 Ao20 t327.length co20 (ji10) q023 q23
         have hr23 := Kd.C_drop (m := ((ji10) : Int).toNat) (c := co20) hC23 (by omega) hroom23
         obtain ⟨A23, hA23⟩ : ∃ A1, A1 = (if co20 = ((ji10) : Int).toNat then Ao20 else (Ao20 : Option Addr).map (·.add (((ji10) : Int).toNat * 2))) := ⟨_, rfl⟩
         obtain ⟨c23, hc23⟩ : ∃ c1, c1 = co20 - ((ji10) : Int).toNat := ⟨_, rfl⟩
         have hy23 : y343.length = t327.length - ((ji10) : Int).toNat := (by rw [Ny343.out, List.length_drop] <;> omega)
         rw [show (t327).drop ((ji10) : Int).toNat = y343 from Ny343.out.symm] at hr23
         replace hr23 : Kd.C k74 _ A23 y343.length y343 := (by rw [hA23]; exact hr23)
         rw [← hy23, ← hA23, ← hc23] at hcut23
         have HR346 := aM hr23
         have HC346 := aM (show y343.length ≤ c23 from by rw [hy23, hc23]; exact Nat.sub_le_sub_right hroom23 _)
         clear hr23 hC23 hroom23 hi023 hsz23 hc23
         have KY23 := aM hy23
         have KA23 := aM hA23
         clear hy23 hA23
         have KL23 := aM (show ((ji10) : Int).toNat ≤ t327.length from by omega)
         replace q23 := eq_true q23
         refine start_ (n := 13) (S := fun w' => True) (ds := []) #[false, false, false, false, false, false, false, false, false, false, false, false, false] (by kernel_rfl) rfl rfl trivial (fun hHeld => ?_); refine with_tabW spec_CutKey.tab5 spec_CutKey.bits5 (fun HT_ HW_ => ?_)
         generalize w19.drew = w21 at HO329 BK325 BK326 HB HR339 HR346 hHeld ⊢
         refine pure_ (i := 1) (N := some 29) (v := ?_) (a' := ?_) #[false, true, false, false, false, false, false, false, false, false, false, false, false] rfl rfl (any_of HT_.out (by kernel_rfl)) (fun _ _ _ h => h) (Or.inl ⟨by rfl, ?_⟩) ?_ ?_
         rotate_left
         ·
          intro w'
          go_simp
          with_reducible rfl
         rotate_left
         ·
          simp only [Act.put, zSA, zSB, zSC, i64_w, i32_w]
          rfl
         refine pure_ (i := 2) (N := some 30) (v := ?_) (a' := ?_) #[false, true, true, false, false, false, false, false, false, false, false, false, false] rfl rfl (any_of HT_.out (by kernel_rfl)) (fun _ _ _ h => h) (Or.inl ⟨by rfl, ?_⟩) ?_ ?_
         rotate_left
         ·
          intro w'
          go_simp
          with_reducible rfl
         rotate_left
         ·
          simp only [Act.put, zSA, zSB, zSC, i64_w, i32_w]
          rfl
         refine pure_ (i := 3) (N := some 31) (v := ?_) (a' := ?_) #[false, true, true, true, false, false, false, false, false, false, false, false, false] rfl rfl (any_of HT_.out (by kernel_rfl)) (fun _ _ _ h => h) (Or.inl ⟨by rfl, ?_⟩) ?_ ?_
         rotate_left
         ·
          intro w'
          go_simp
          with_reducible rfl
         rotate_left
         ·
          simp only [Act.put, zSA, zSB, zSC, i64_w, i32_w]
          rfl
         refine pure_ (i := 5) (N := some 33) (v := ?_) (a' := ?_) #[false, true, true, true, false, true, false, false, false, false, false, false, false] rfl rfl (any_of HT_.out (by kernel_rfl)) (fun _ _ _ h => h) (Or.inl ⟨by rfl, ?_⟩) ?_ ?_
         rotate_left
         ·
          intro w'
          go_simp
          with_reducible rfl
         rotate_left
         ·
          simp only [Act.put, zSA, zSB, zSC, i64_w, i32_w]
          rfl
         refine pure_ (i := 6) (N := some 34) (v := ?_) (a' := ?_) #[false, true, true, true, false, true, true, false, false, false, false, false, false] rfl rfl (any_of HT_.out (by kernel_rfl)) (fun _ _ _ h => h) (Or.inl ⟨by rfl, ?_⟩) ?_ ?_
         rotate_left
         ·
          intro w'
          go_simp
          with_reducible rfl
         rotate_left
         ·
          simp only [Act.put, zSA, zSB, zSC, i64_w, i32_w]
          rfl
         refine pure_ (i := 7) (N := some 35) (v := ?_) (a' := ?_) #[false, true, true, true, false, true, true, true, false, false, false, false, false] rfl rfl (any_of HT_.out (by kernel_rfl)) (fun _ _ _ h => h) (Or.inl ⟨by rfl, ?_⟩) ?_ ?_
         rotate_left
         ·
          intro w'
          go_simp
          with_reducible rfl
         rotate_left
         ·
          simp only [Act.put, zSA, zSB, zSC, i64_w, i32_w]
          rfl
         refine pure_ (i := 8) (N := some 36) (v := ?_) (a' := ?_) #[false, true, true, true, false, true, true, true, true, false, false, false, false] rfl rfl (any_of HT_.out (by kernel_rfl)) (fun _ _ _ h => h) (Or.inl ⟨by rfl, ?_⟩) ?_ ?_
         rotate_left
         ·
          intro w'
          go_simp
          with_reducible rfl
         rotate_left
         ·
          simp only [Act.put, zSA, zSB, zSC, i64_w, i32_w]
          rfl
         refine one_ (i := 0) (N := some 28) #[true, true, true, true, false, true, true, true, true, false, false, false, false] rfl rfl (one_of HT_.out (by kernel_rfl)) (by decide) (fun K hK => ?_)
         refine Kd.R_lit_step k74 _ 74 ?hg (N := 28) ?hd (xs := ([] : List (S74))) (inner := []) (ok := fun _ => True) (okp := fun _ => True) ?hr ?hp (fun _ hk => hk) trivial (Below.refl _ _) (Nat.le_refl _) (by simp) ?_; (case hd => rfl); (case hg => rfl); (case hr => first | (go_simp; done) | (go_simp; rfl)); (case hp => exact (Reps.none _ _))
         intro v334 w24 ho25 hb hg_ hnew_
         clear hg_ hnew_
         (first | rw [← Ny333.out] at ho25 | (simp only [Int.reduceToNat] at ho25; rw [← Ny333.out] at ho25))
         have n0_ := aM (Kd.R_elder' (gR HO329.out) (Kd.R_base ho25) hb)
         have n1_ := aM (Kd.R_lower (Kd.R_new' ho25 (Kd.R_lt (gR HO329.out))) (below_size (gB HB.out)))
         have n2_ := aM (blk_below (g := gb325) (o := .cells #[.slice A0_0 l0_0.length c0_0] 29 (0, 0)) (gK BK325.out) hb)
         have n3_ := aM (blk_below (g := gb326) (o := .cells #[.slice none 0 0] 29 (0, 0)) (gK BK326.out) hb)
         have n4_ := aM (Kd.C_below (by repeat (first | (with_reducible exact HR339.out) | (with_reducible refine Kd.C_alloc ?_ _) | (with_reducible refine Kd.C_drewN ?_ _) | (with_reducible refine Kd.C_drew ?_) | exact HR339.out)) hb)
         have n5_ := aM (Kd.C_below (by repeat (first | (with_reducible exact HR346.out) | (with_reducible refine Kd.C_alloc ?_ _) | (with_reducible refine Kd.C_drewN ?_ _) | (with_reducible refine Kd.C_drew ?_) | exact HR346.out)) hb)
         have n6_ := aM (below_step (gB HB.out) hb)
         clear HO329
         clear BK325
         clear BK326
         clear HR339
         clear HR346
         clear HB
         have HO329 := n0_
         have HO335 := n1_
         have BK325 := n2_
         have BK326 := n3_
         have HR339 := n4_
         have HR346 := n5_
         have HB := n6_
         clear n0_ n1_ n2_ n3_ n4_ n5_ n6_
         clear hb ho25
         refine hK.out _ _ trivial (fun hHeld => ?_)
         clear hK K
         refine norm_ (a' := ?_) ?_ ?_
         rotate_left
         ·
          show Act.put _ (some 28) _ = _
          simp only [Act.put, zSA, zSB, zSC, i64_w, i32_w]
          rfl
         refine one_ (i := 4) (N := some 32) #[true, true, true, true, true, true, true, true, true, false, false, false, false] rfl rfl (one_of HT_.out (by kernel_rfl)) (by decide) (fun K hK => ?_)
         refine Kd.R_append_rows_step k74 (w0 := w) w.heap.size (by rfl) (.tmp 28) (.tmp 31) 62 74 (.agg #[(.string ⟨#[]⟩), (.string ⟨#[]⟩)]) 32 rfl Try.underlying62 info74 rfl (by decide) (by omega) v334 y333 y336 _ _ _ (fun k_ => some k_ ≠ (.slice Ao20 t327.length co20 : Value).ownBlock) (fun _ => False) rfl rfl ?aO ?aR (fun _ _ h => h) (fun _ h => h.elim) ?aF ?aB ?aS ?aL ?_
         (case aR => repeat (first | exact (by repeat (first | (with_reducible exact HR339.out) | (with_reducible refine Kd.C_alloc ?_ _) | (with_reducible refine Kd.C_drewN ?_ _) | (with_reducible refine Kd.C_drew ?_) | exact HR339.out)) | (with_reducible refine Kd.C_alloc ?_ _) | (with_reducible refine Kd.C_drewN ?_ _) | (with_reducible refine Kd.C_drew ?_)))
         (case aB => exact (gB HB.out))
         (case aF => exact (fun k_ hk => Kd.fresh' (Kd.R_lt (gR HO329.out)) k_ hk))
         (case aO => exact (by (with_reducible repeat (first | apply Kd.R_alloc | apply Kd.R_drewN | apply Kd.R_drew)); exact Kd.R_mono HO335.out (fun _ hk => hk.2)))
         (case aS => exact (below_size (gB HB.out)))
         (case aL => have := LMc9.out; omega)
         intro v341 w26 ho hb hg hat
         rw [← Ny340.out] at ho
         have n0_ := aM (blk_grown (g := gb325) (o := .cells #[.slice A0_0 l0_0.length c0_0] 29 (0, 0)) (gK BK325.out) hg (Kd.R_ne HO335.out BK325.out (by decide)))
         have n1_ := aM (blk_grown (g := gb326) (o := .cells #[.slice none 0 0] 29 (0, 0)) (gK BK326.out) hg (Kd.R_ne HO335.out BK326.out (by decide)))
         have n2_ := aM (Kd.R_after (ok := (fun _ => True)) (gR HO329.out) hg hat)
         have n3_ := aM (hb)
         have n4_ := aM ((show Kd.C k74 w26 Ao20 y336.length y336 from by rw [Ny336.out]; exact Kd.C_take (m := (t331 : Int).toNat) ((Kd.R_reads' (Kd.R_after (ok := (fun _ => True)) (gR HO329.out) hg hat)).2.2) KL22.out))
         have n5_ := aM ((show Kd.C k74 w26 A23 y343.length y343 from by rw [Ny343.out, KA23.out]; exact Kd.C_drop (m := ((ji10) : Int).toNat) (c := co20) ((Kd.R_reads' (Kd.R_after (ok := (fun _ => True)) (gR HO329.out) hg hat)).2.2) KL23.out ((Kd.R_reads' (Kd.R_after (ok := (fun _ => True)) (gR HO329.out) hg hat)).2.1)))
         have n6_ := aM (ho)
         clear BK325
         clear BK326
         clear HO329
         clear HB
         clear HR339
         clear HR346
         clear HO335
         have BK325 := n0_
         have BK326 := n1_
         have HO329 := n2_
         have HB := n3_
         have HR339 := n4_
         have HR346 := n5_
         have HO342 := n6_
         clear n0_ n1_ n2_ n3_ n4_ n5_ n6_
         clear ho hb hg hat
         refine hK.out _ _ trivial (fun hHeld => ?_)
         clear hK K
         refine norm_ (a' := ?_) ?_ ?_
         rotate_left
         ·
          show Act.put _ (some 32) _ = _
          simp only [Act.put, zSA, zSB, zSC, i64_w, i32_w]
          rfl
         refine one_ (i := 9) (N := some 37) #[true, true, true, true, true, true, true, true, true, true, false, false, false] rfl rfl (one_of HT_.out (by kernel_rfl)) (by decide) (fun K hK => ?_)
         refine Kd.R_append_rows_step k74 (w0 := w) w.heap.size (by rfl) (.tmp 32) (.tmp 36) 62 74 (.agg #[(.string ⟨#[]⟩), (.string ⟨#[]⟩)]) 32 rfl Try.underlying62 info74 rfl (by decide) (by omega) v341 y340 y343 _ _ _ (fun k_ => some k_ ≠ (.slice Ao20 t327.length co20 : Value).ownBlock) (fun _ => False) rfl rfl ?aO ?aR (fun _ _ h => h) (fun _ h => h.elim) ?aF ?aB ?aS ?aL ?_
         (case aR => repeat (first | exact (by repeat (first | (with_reducible exact HR346.out) | (with_reducible refine Kd.C_alloc ?_ _) | (with_reducible refine Kd.C_drewN ?_ _) | (with_reducible refine Kd.C_drew ?_) | exact HR346.out)) | (with_reducible refine Kd.C_alloc ?_ _) | (with_reducible refine Kd.C_drewN ?_ _) | (with_reducible refine Kd.C_drew ?_)))
         (case aB => exact (gB HB.out))
         (case aF => exact (fun k_ hk => Kd.fresh' (Kd.R_lt (gR HO329.out)) k_ hk))
         (case aO => exact (gR HO342.out))
         (case aS => exact (below_size (gB HB.out)))
         (case aL => have := LMc13.out; omega)
         intro v348 w27 ho hb hg hat
         rw [← Ny347.out] at ho
         have n0_ := aM (blk_grown (g := gb325) (o := .cells #[.slice A0_0 l0_0.length c0_0] 29 (0, 0)) (gK BK325.out) hg (Kd.R_ne HO342.out BK325.out (by decide)))
         have n1_ := aM (blk_grown (g := gb326) (o := .cells #[.slice none 0 0] 29 (0, 0)) (gK BK326.out) hg (Kd.R_ne HO342.out BK326.out (by decide)))
         have n2_ := aM (Kd.R_after (ok := (fun _ => True)) (gR HO329.out) hg hat)
         have n3_ := aM (hb)
         have n4_ := aM ((show Kd.C k74 w27 Ao20 y336.length y336 from by rw [Ny336.out]; exact Kd.C_take (m := (t331 : Int).toNat) ((Kd.R_reads' (Kd.R_after (ok := (fun _ => True)) (gR HO329.out) hg hat)).2.2) KL22.out))
         have n5_ := aM ((show Kd.C k74 w27 A23 y343.length y343 from by rw [Ny343.out, KA23.out]; exact Kd.C_drop (m := ((ji10) : Int).toNat) (c := co20) ((Kd.R_reads' (Kd.R_after (ok := (fun _ => True)) (gR HO329.out) hg hat)).2.2) KL23.out ((Kd.R_reads' (Kd.R_after (ok := (fun _ => True)) (gR HO329.out) hg hat)).2.1)))
         have n6_ := aM (ho)
         clear BK325
         clear BK326
         clear HO329
         clear HB
         clear HR339
         clear HR346
         clear HO342
         have BK325 := n0_
         have BK326 := n1_
         have HO329 := n2_
         have HB := n3_
         have HR339 := n4_
         have HR346 := n5_
         have HO349 := n6_
         clear n0_ n1_ n2_ n3_ n4_ n5_ n6_
         clear ho hb hg hat
         obtain ⟨Ao28, co28, eo28⟩ := Kd.R_slice HO349.out
         (first | subst eo28 | (injection eo28 with f1_ f2_ f3_; have f4_ := f1_.symm; have f5_ := f3_.symm; clear f1_ f2_ f3_; subst f4_; subst f5_))
         refine hK.out _ _ trivial (fun hHeld => ?_)
         clear hK K
         refine norm_ (a' := ?_) ?_ ?_
         rotate_left
         ·
          show Act.put _ (some 37) _ = _
          simp only [Act.put, zSA, zSB, zSC, i64_w, i32_w]
          rfl
         refine one_ (i := 10) (N := some 38) #[true, true, true, true, true, true, true, true, true, true, true, false, false] rfl rfl (one_of HT_.out (by kernel_rfl)) (by decide) (fun K hK => ?_)
         refine goes_ Try.func56 (by kernel_rfl) rfl #[.slice Ao28 y347.length co28] (by rfl) rfl rfl (by (try simp only [List.map_toArray, List.map_cons, List.map_nil]); first | done | rfl | (simp only [List.length_drop, List.length_take]; rfl)) ?_
         with_reducible refine (spec_l7Treap.calls _ _ y347 t350 _ ?side1 ?side2 A14.out).mono ?_
         (case side1 => repeat (first | exact (Kd.R_reads' HO349.out).2.2 | (with_reducible refine Kd.C_alloc ?_ _) | (with_reducible refine Kd.C_drewN ?_ _) | (with_reducible refine Kd.C_drew ?_)))
         (case side2 => exact (Kd.R_reads' HO349.out).2.1)
         rintro e w29 ⟨v351, rfl, ho0, hb⟩
         refine ⟨_, rfl, ?_⟩
         have n0_ := aM (Kd.R_below (gR HO329.out) hb)
         have n1_ := aM (Kd.R_below (gR HO349.out) hb)
         have n2_ := aM (Kd.R_lower ho0 (below_size (gB HB.out)))
         have n3_ := aM (blk_below (g := gb325) (o := .cells #[.slice A0_0 l0_0.length c0_0] 29 (0, 0)) (gK BK325.out) hb)
         have n4_ := aM (blk_below (g := gb326) (o := .cells #[.slice none 0 0] 29 (0, 0)) (gK BK326.out) hb)
         have n5_ := aM (Kd.C_below (by repeat (first | (with_reducible exact HR339.out) | (with_reducible refine Kd.C_alloc ?_ _) | (with_reducible refine Kd.C_drewN ?_ _) | (with_reducible refine Kd.C_drew ?_) | exact HR339.out)) hb)
         have n6_ := aM (Kd.C_below (by repeat (first | (with_reducible exact HR346.out) | (with_reducible refine Kd.C_alloc ?_ _) | (with_reducible refine Kd.C_drewN ?_ _) | (with_reducible refine Kd.C_drew ?_) | exact HR346.out)) hb)
         have n7_ := aM (below_step (gB HB.out) hb)
         clear HO329
         clear HO349
         clear BK325
         clear BK326
         clear HR339
         clear HR346
         clear HB
         have HO329 := n0_
         have HO349 := n1_
         have HO352 := n2_
         have BK325 := n3_
         have BK326 := n4_
         have HR339 := n5_
         have HR346 := n6_
         have HB := n7_
         clear n0_ n1_ n2_ n3_ n4_ n5_ n6_ n7_
         (try clear hb)
         (try clear hb2)
         (try clear hk)
         (try clear hi)
         (try clear ho0)
         obtain ⟨Ao30, co30, eo30⟩ := Kd.R_slice HO352.out
         (first | subst eo30 | (injection eo30 with f1_ f2_ f3_; have f4_ := f1_.symm; have f5_ := f3_.symm; clear f1_ f2_ f3_; subst f4_; subst f5_))
         refine hK.out _ _ trivial (fun hHeld => ?_)
         clear hK K
         refine norm_ (a' := ?_) ?_ ?_
         rotate_left
         ·
          show Act.put _ (some 38) _ = _
          simp only [Act.put, zSA, zSB, zSC, i64_w, i32_w]
          rfl
         refine one_ (i := 11) (N := none) #[true, true, true, true, true, true, true, true, true, true, true, true, false] rfl rfl (one_of HT_.out (by kernel_rfl)) (by decide) (fun K hK => ?_)
         have hs31 : w29.cell? ⟨gb326, 0, none⟩ = some (.slice none 0 0) := (blk_cell BK326.out 0).trans rfl
         have hfs31 := blk_frozen BK326.out 0
         have hns31_0 := NB325_326.out
         have hms31_0 := NB326_325.out
         refine skip_ (w1 := ?_) (by rfl) rfl ?_ ?_
         rotate_left
         ·
          go_simp
          rfl
         refine hK.out _ _ trivial (fun hHeld => ?_)
         clear hK K
         refine pure_ (i := 12) (N := some 5) (v := ?_) (a' := ?_) #[true, true, true, true, true, true, true, true, true, true, true, true, true] rfl rfl (any_of HT_.out (by kernel_rfl)) (fun _ _ _ h => h) (Or.inl ⟨by rfl, ?_⟩) ?_ ?_
         rotate_left
         ·
          intro w'
          go_simp
          with_reducible rfl
         rotate_left
         ·
          simp only [Act.put, zSA, zSB, zSC, i64_w, i32_w]
          rfl
         refine done_ (done_of HT_.out (by kernel_rfl)) ?_
         try go_wp2
         refine bodyPost_ret (results_ct rfl _ _ gb326 29 #[.slice Ao30 t350.length co30] (0, 0) _ rfl (by (with_reducible repeat (first | refine blk_drewN ?_ _ | refine blk_drew ?_ | refine blk_alloc ?_ _)); refine blk_put (cs := #[.slice none 0 0]) ?_ 0 _ rfl; (with_reducible repeat (first | refine blk_drewN ?_ _ | refine blk_drew ?_ | refine blk_alloc ?_ _)); exact BK326.out) Try.underlying29 rfl (by kernel_rfl)) rfl ?_
         exact ⟨_, by first | rfl | (simp [errW_none, errW_some] <;> rfl) | (simp only [← hji10]; first | rfl | (simp [errW_none, errW_some] <;> rfl)) | (simp [*, errW_none, errW_some] <;> rfl), by (with_reducible repeat (first | apply Kd.R_alloc | apply Kd.R_drewN | apply Kd.R_drew)); exact Kd.R_mono (Kd.R_far (p := ⟨gb326, 0, none⟩) (Kd.R_types HO352.out BK326.out (by decide)) (fun _ hk => hk.2) (.slice Ao30 t350.length co30)) (fun _ hk => trivial), by repeat (first | (with_reducible first | exact HB.out | apply below_alloc | apply pw_below_drewN | apply below_drew1 | refine below_set ?_ GE325.out | refine below_set ?_ GE326.out) | exact HB.out)⟩
        ·
         rw [if_neg c13] at H
         exact absurd H (by simp)
       ·
        rw [if_neg c12] at H
        exact absurd H (by simp)
      ·
       rw [if_neg c11] at H
       exact absurd H (by simp)
     ·
      rw [if_neg c9] at H
      exact absurd H (by simp)
    ·
     rw [if_neg c8] at H
     exact absurd H (by simp)
   ·
    rw [if_neg c7] at H
    exact absurd H (by simp)
  ·
   replace c6 := Bool.eq_false_iff.mpr c6
   subst c6
   have H1 : (some (([] : List (S71)), false)) = some (r1, r2) := by rw [if_neg (show ¬ (false = true) by decide)] at H; exact H
   clear H
   have H := H1
   clear H1
   simp only [Option.some.injEq, Prod.mk.injEq] at H
   obtain ⟨rfl, rfl⟩ := H
   go_enter Try.func33, Try.ntmps33
   go_wp2_with (first | ((with_reducible refine gate_dst (N := 2) rfl ?_); refine box_event ?hg (N := 2) ?hd (cs := #[.slice A0_0 l0_0.length c0_0]) (t := 29) ?hr ?_; (case hd => rfl); (case hg => rfl); (case hr => first | (go_simp; done) | (go_simp; rfl)); intro gb325 hg w32 hbox hb; have n0_ := aM (below_step (gB HB.out) hb); have n1_ := aM (hbox); have n2_ := aM ((by rw [hg]; exact (below_size (gB HB.out)) : w.heap.size ≤ gb325)); have n3_ := aM ((by rw [hg]; exact (below_size (gB HB.out)) : w.heap.size ≤ gb325)); clear HB; have HB := n0_; have BK325 := n1_; have GW325 := n2_; have GE325 := n3_; clear n0_ n1_ n2_ n3_; clear hb hbox hg) | ((with_reducible refine gate_dst (N := 4) rfl ?_); refine box_event ?hg (N := 4) ?hd (cs := #[.slice none 0 0]) (t := 29) ?hr ?_; (case hd => rfl); (case hg => rfl); (case hr => first | (go_simp; done) | (go_simp; rfl)); intro gb326 hg w33 hbox hb; have n0_ := aM (blk_below (g := gb325) (o := .cells #[.slice A0_0 l0_0.length c0_0] 29 (0, 0)) (gK BK325.out) hb); have n1_ := aM (below_step (gB HB.out) hb); have n2_ := aM (hbox); have n3_ := aM ((by rw [hg]; exact (below_size (gB HB.out)) : w.heap.size ≤ gb326)); have n4_ := aM ((by rw [hg]; exact (below_size (gB HB.out)) : w.heap.size ≤ gb326)); have n5_ := aM ((by rw [hg]; exact Nat.ne_of_lt (blk_lt (g := gb325) (o := .cells #[.slice A0_0 l0_0.length c0_0] 29 (0, 0)) (gK BK325.out)) : gb325 ≠ gb326)); have n6_ := aM ((by rw [hg]; exact Nat.ne_of_gt (blk_lt (g := gb325) (o := .cells #[.slice A0_0 l0_0.length c0_0] 29 (0, 0)) (gK BK325.out)) : gb326 ≠ gb325)); clear BK325; clear HB; have BK325 := n0_; have HB := n1_; have BK326 := n2_; have GW326 := n3_; have GE326 := n4_; have NB325_326 := n5_; have NB326_325 := n6_; clear n0_ n1_ n2_ n3_ n4_ n5_ n6_; clear hb hbox hg; have hnb34 := NB325_326.out; have hnc34 := NB326_325.out; have hcz35_0 : w33.cell? ⟨gb325, 0, none⟩ = some (.slice A0_0 l0_0.length c0_0) := (blk_cell BK325.out 0).trans rfl; have hfz35_0 := blk_frozen BK325.out 0) | ((with_reducible refine gate_callee (f := 47) rfl ?_); refine goesL_ (some 12) rfl rfl Try.func47 (by kernel_rfl) rfl #[.agg #[.slice A0_0 l0_0.length c0_0]] rfl (by (try simp only [List.map_toArray, List.map_cons, List.map_nil]); first | done | rfl | (simp only [List.length_drop, List.length_take]; rfl)) ?_; (with_reducible refine (spec_l7Of.calls k _ _ l0_0 t327 true _ ?side1 ?side2 A3.out).mono ?_); (case side1 => repeat (first | exact (Kd.C_below HR0_0.out HB.out) | (with_reducible refine Kd.C_alloc ?_ _) | (with_reducible refine Kd.C_drewN ?_ _) | (with_reducible refine Kd.C_drew ?_))); (case side2 => exact HC0_0.out); rintro e w36 ⟨v328, rfl, ho0, hb⟩; refine ⟨_, rfl, ?_⟩; have n0_ := aM (Kd.R_lower ho0 (below_size (gB HB.out))); have n1_ := aM (blk_below (g := gb325) (o := .cells #[.slice A0_0 l0_0.length c0_0] 29 (0, 0)) (gK BK325.out) hb); have n2_ := aM (blk_below (g := gb326) (o := .cells #[.slice none 0 0] 29 (0, 0)) (gK BK326.out) hb); have n3_ := aM (below_step (gB HB.out) hb); clear BK325; clear BK326; clear HB; have HO329 := n0_; have BK325 := n1_; have BK326 := n2_; have HB := n3_; clear n0_ n1_ n2_ n3_; (try clear hb); (try clear hb2); (try clear hk); (try clear hi); (try clear ho0); obtain ⟨Ao37, co37, eo37⟩ := Kd.R_slice HO329.out; subst eo37) | ((with_reducible refine gate_callee (f := 60) rfl ?_); refine goesL_ (some 18) rfl rfl Try.func60 (by kernel_rfl) rfl #[.slice Ao37 t327.length co37, .string a1] rfl (by (try simp only [List.map_toArray, List.map_cons, List.map_nil]); first | done | rfl | (simp only [List.length_drop, List.length_take]; rfl)) ?_; (with_reducible refine (spec_l7At.calls k _ _ t327 a1 t331 false _ ?side1 ?side2 A4.out).mono ?_); (case side1 => repeat (first | exact (Kd.R_reads' HO329.out).2.2 | (with_reducible refine Kd.C_alloc ?_ _) | (with_reducible refine Kd.C_drewN ?_ _) | (with_reducible refine Kd.C_drew ?_))); (case side2 => exact (Kd.R_reads' HO329.out).2.1); rintro e w' ⟨rfl, ⟨nd, rfl⟩⟩; refine ⟨_, rfl, ?_⟩; (try (rw [drewN_self w36]; generalize hq_ : World.drewN w36 _ = w36; have n0_ : Aside0 (Kd.R k74 74 w36 w.heap.size (fun _ => True) (.slice Ao37 t327.length co37) t327) := ⟨by rw [← hq_]; exact (gR HO329.out)⟩; have n1_ : Aside0 (w36.heap[gb325]? = some (.cells #[.slice A0_0 l0_0.length c0_0] 29 (0, 0))) := ⟨by rw [← hq_]; exact (gK BK325.out)⟩; have n2_ : Aside0 (w36.heap[gb326]? = some (.cells #[.slice none 0 0] 29 (0, 0))) := ⟨by rw [← hq_]; exact (gK BK326.out)⟩; have n3_ : Aside0 (Below w.heap.size w w36) := ⟨by rw [← hq_]; exact (gB HB.out)⟩; clear HO329 BK325 BK326 HB hq_; have HO329 := n0_; have BK325 := n1_; have BK326 := n2_; have HB := n3_; clear n0_ n1_ n2_ n3_)); have hcz38_0 : w36.cell? ⟨gb326, 0, none⟩ = some (.slice none 0 0) := (blk_cell BK326.out 0).trans rfl; have hfz38_0 := blk_frozen BK326.out 0))
   refine bodyPost_ret (results_ct rfl _ _ gb326 29 #[.slice none 0 0] (0, 0) _ rfl (by (with_reducible repeat (first | refine blk_drewN ?_ _ | refine blk_drew ?_ | refine blk_alloc ?_ _)); refine blk_put (cs := #[.slice none 0 0]) ?_ 0 _ rfl; (with_reducible repeat (first | refine blk_drewN ?_ _ | refine blk_drew ?_ | refine blk_alloc ?_ _)); exact BK326.out) Try.underlying29 rfl (by kernel_rfl)) rfl ?_
   exact ⟨_, by first | rfl | (simp [errW_none, errW_some] <;> rfl) | (simp [*, errW_none, errW_some] <;> rfl), by first | exact Kd.R_nil _ _ _ _ _ | exact Kd.N_nil _ _ _ _ _ | exact Kd.V_nil _ _ _ _ _ | exact Kd.Q_nil _ _ _ _ _ | exact Kd.S_nil _ _ _ _ _, by repeat (first | (with_reducible first | exact HB.out | apply below_alloc | apply pw_below_drewN | apply below_drew1 | refine below_set ?_ GE325.out | refine below_set ?_ GE326.out) | exact HB.out)⟩
 ·
  replace c5 := Bool.eq_false_iff.mpr c5
  subst c5
  have H1 : (some (([] : List (S71)), false)) = some (r1, r2) := by rw [if_neg (show ¬ (false = true) by decide)] at H; exact H
  clear H
  have H := H1
  clear H1
  simp only [Option.some.injEq, Prod.mk.injEq] at H
  obtain ⟨rfl, rfl⟩ := H
  go_enter Try.func33, Try.ntmps33
  go_wp2_with (first | ((with_reducible refine gate_dst (N := 2) rfl ?_); refine box_event ?hg (N := 2) ?hd (cs := #[.slice A0_0 l0_0.length c0_0]) (t := 29) ?hr ?_; (case hd => rfl); (case hg => rfl); (case hr => first | (go_simp; done) | (go_simp; rfl)); intro gb325 hg w39 hbox hb; have n0_ := aM (below_step (gB HB.out) hb); have n1_ := aM (hbox); have n2_ := aM ((by rw [hg]; exact (below_size (gB HB.out)) : w.heap.size ≤ gb325)); have n3_ := aM ((by rw [hg]; exact (below_size (gB HB.out)) : w.heap.size ≤ gb325)); clear HB; have HB := n0_; have BK325 := n1_; have GW325 := n2_; have GE325 := n3_; clear n0_ n1_ n2_ n3_; clear hb hbox hg) | ((with_reducible refine gate_dst (N := 4) rfl ?_); refine box_event ?hg (N := 4) ?hd (cs := #[.slice none 0 0]) (t := 29) ?hr ?_; (case hd => rfl); (case hg => rfl); (case hr => first | (go_simp; done) | (go_simp; rfl)); intro gb326 hg w40 hbox hb; have n0_ := aM (blk_below (g := gb325) (o := .cells #[.slice A0_0 l0_0.length c0_0] 29 (0, 0)) (gK BK325.out) hb); have n1_ := aM (below_step (gB HB.out) hb); have n2_ := aM (hbox); have n3_ := aM ((by rw [hg]; exact (below_size (gB HB.out)) : w.heap.size ≤ gb326)); have n4_ := aM ((by rw [hg]; exact (below_size (gB HB.out)) : w.heap.size ≤ gb326)); have n5_ := aM ((by rw [hg]; exact Nat.ne_of_lt (blk_lt (g := gb325) (o := .cells #[.slice A0_0 l0_0.length c0_0] 29 (0, 0)) (gK BK325.out)) : gb325 ≠ gb326)); have n6_ := aM ((by rw [hg]; exact Nat.ne_of_gt (blk_lt (g := gb325) (o := .cells #[.slice A0_0 l0_0.length c0_0] 29 (0, 0)) (gK BK325.out)) : gb326 ≠ gb325)); clear BK325; clear HB; have BK325 := n0_; have HB := n1_; have BK326 := n2_; have GW326 := n3_; have GE326 := n4_; have NB325_326 := n5_; have NB326_325 := n6_; clear n0_ n1_ n2_ n3_ n4_ n5_ n6_; clear hb hbox hg; have hnb41 := NB325_326.out; have hnc41 := NB326_325.out; have hcz42_0 : w40.cell? ⟨gb325, 0, none⟩ = some (.slice A0_0 l0_0.length c0_0) := (blk_cell BK325.out 0).trans rfl; have hfz42_0 := blk_frozen BK325.out 0) | ((with_reducible refine gate_callee (f := 47) rfl ?_); refine goesL_ (some 12) rfl rfl Try.func47 (by kernel_rfl) rfl #[.agg #[.slice A0_0 l0_0.length c0_0]] rfl (by (try simp only [List.map_toArray, List.map_cons, List.map_nil]); first | done | rfl | (simp only [List.length_drop, List.length_take]; rfl)) ?_; (with_reducible refine (spec_l7Of.calls k _ _ l0_0 t327 false _ ?side1 ?side2 A3.out).mono ?_); (case side1 => repeat (first | exact (Kd.C_below HR0_0.out HB.out) | (with_reducible refine Kd.C_alloc ?_ _) | (with_reducible refine Kd.C_drewN ?_ _) | (with_reducible refine Kd.C_drew ?_))); (case side2 => exact HC0_0.out); rintro e w43 ⟨v328, rfl, ho0, hb⟩; refine ⟨_, rfl, ?_⟩; have n0_ := aM (Kd.R_lower ho0 (below_size (gB HB.out))); have n1_ := aM (blk_below (g := gb325) (o := .cells #[.slice A0_0 l0_0.length c0_0] 29 (0, 0)) (gK BK325.out) hb); have n2_ := aM (blk_below (g := gb326) (o := .cells #[.slice none 0 0] 29 (0, 0)) (gK BK326.out) hb); have n3_ := aM (below_step (gB HB.out) hb); clear BK325; clear BK326; clear HB; have HO329 := n0_; have BK325 := n1_; have BK326 := n2_; have HB := n3_; clear n0_ n1_ n2_ n3_; (try clear hb); (try clear hb2); (try clear hk); (try clear hi); (try clear ho0); obtain ⟨Ao44, co44, eo44⟩ := Kd.R_slice HO329.out; subst eo44) | ((with_reducible refine gate_callee (f := 60) rfl ?_); refine goesL_ (some 18) rfl rfl Try.func60 (by kernel_rfl) rfl #[.slice Ao44 t327.length co44, .string a1] rfl (by (try simp only [List.map_toArray, List.map_cons, List.map_nil]); first | done | rfl | (simp only [List.length_drop, List.length_take]; rfl)) ?_; (with_reducible refine (spec_l7At.calls k _ _ t327 a1 t331 t332 _ ?side1 ?side2 A4.out).mono ?_); (case side1 => repeat (first | exact (Kd.R_reads' HO329.out).2.2 | (with_reducible refine Kd.C_alloc ?_ _) | (with_reducible refine Kd.C_drewN ?_ _) | (with_reducible refine Kd.C_drew ?_))); (case side2 => exact (Kd.R_reads' HO329.out).2.1); rintro e w' ⟨rfl, ⟨nd, rfl⟩⟩; refine ⟨_, rfl, ?_⟩; (try (rw [drewN_self w43]; generalize hq_ : World.drewN w43 _ = w43; have n0_ : Aside0 (Kd.R k74 74 w43 w.heap.size (fun _ => True) (.slice Ao44 t327.length co44) t327) := ⟨by rw [← hq_]; exact (gR HO329.out)⟩; have n1_ : Aside0 (w43.heap[gb325]? = some (.cells #[.slice A0_0 l0_0.length c0_0] 29 (0, 0))) := ⟨by rw [← hq_]; exact (gK BK325.out)⟩; have n2_ : Aside0 (w43.heap[gb326]? = some (.cells #[.slice none 0 0] 29 (0, 0))) := ⟨by rw [← hq_]; exact (gK BK326.out)⟩; have n3_ : Aside0 (Below w.heap.size w w43) := ⟨by rw [← hq_]; exact (gB HB.out)⟩; clear HO329 BK325 BK326 HB hq_; have HO329 := n0_; have BK325 := n1_; have BK326 := n2_; have HB := n3_; clear n0_ n1_ n2_ n3_)); have hcz45_0 : w43.cell? ⟨gb326, 0, none⟩ = some (.slice none 0 0) := (blk_cell BK326.out 0).trans rfl; have hfz45_0 := blk_frozen BK326.out 0))
  refine bodyPost_ret (results_ct rfl _ _ gb326 29 #[.slice none 0 0] (0, 0) _ rfl (by (with_reducible repeat (first | refine blk_drewN ?_ _ | refine blk_drew ?_ | refine blk_alloc ?_ _)); refine blk_put (cs := #[.slice none 0 0]) ?_ 0 _ rfl; (with_reducible repeat (first | refine blk_drewN ?_ _ | refine blk_drew ?_ | refine blk_alloc ?_ _)); exact BK326.out) Try.underlying29 rfl (by kernel_rfl)) rfl ?_
  exact ⟨_, by first | rfl | (simp [errW_none, errW_some] <;> rfl) | (simp [*, errW_none, errW_some] <;> rfl), by first | exact Kd.R_nil _ _ _ _ _ | exact Kd.N_nil _ _ _ _ _ | exact Kd.V_nil _ _ _ _ _ | exact Kd.Q_nil _ _ _ _ _ | exact Kd.S_nil _ _ _ _ _, by repeat (first | (with_reducible first | exact HB.out | apply below_alloc | apply pw_below_drewN | apply below_drew1 | refine below_set ?_ GE325.out | refine below_set ?_ GE326.out) | exact HB.out)⟩

def spec_PutKey.j0 : Nat → ByteArray → ByteArray → List (S74) → Bool → Option ((List (S71)) × Bool)
 | 0, _, _, _, _ => none
 | k + 1, x1, x2, x8, x27 => if x27 = true then (some (([] : List (S71)), false)) else ((spec_l7Put.f k x8 x1 x2).bind fun t319 => (if (t319.length : Int) > 60 then (some (([] : List (S71)), false)) else ((spec_l7Treap.f t319).bind fun t322 => (some (t322, true)))))
def spec_PutKey.f (k : Nat) (l0_0 : List (S71)) (a1 : ByteArray) (a2 : ByteArray) : Option ((List (S71)) × Bool) := (spec_l7Of.f k l0_0).bind fun bt314 => (if bt314.2 = true then ((spec_l1In.f (a1.size : Int) 1 40).bind fun t318 => (if t318 = true then (spec_PutKey.j0 k a1 a2 bt314.1 (decide ((a2.size : Int) > 60))) else (spec_PutKey.j0 k a1 a2 bt314.1 true))) else (spec_PutKey.j0 k a1 a2 bt314.1 true))
set_option maxHeartbeats 8000000 in
set_option maxRecDepth 100000 in
theorem spec_PutKey.calls (k : Nat) (A0_0 : Option Addr) (c0_0 : Nat) (l0_0 : List (S71)) (a1 : ByteArray) (a2 : ByteArray) (r1 : List (S71)) (r2 : Bool) (w : World) (hr0_0 : Kd.C k71 w A0_0 l0_0.length l0_0) (hc0_0 : l0_0.length ≤ c0_0) (h : spec_PutKey.f k l0_0 a1 a2 = some (r1, r2)) :
  Calls Try.prog 40 #[.agg #[.slice A0_0 l0_0.length c0_0], .string a1, .string a2] w fun e w' => ∃ v0_ : Value, e = .returned (.tuple #[.agg #[v0_], .bool r2]) ∧ Kd.R k71 71 w' w.heap.size (fun _ => True) v0_ r1 ∧ Below w.heap.size w w' := by
 have hu29 := Try.underlying29
 have hu74 := Try.underlying74
 have HR0_0 := aM hr0_0
 have HC0_0 := aM hc0_0
 clear hr0_0 hc0_0
 have HB := aM (Below.refl w.heap.size w)
 have H : ((spec_l7Of.f k l0_0).bind fun bt314 => (if bt314.2 = true then ((spec_l1In.f (a1.size : Int) 1 40).bind fun t318 => (if t318 = true then (spec_PutKey.j0 k a1 a2 bt314.1 (decide ((a2.size : Int) > 60))) else (spec_PutKey.j0 k a1 a2 bt314.1 true))) else (spec_PutKey.j0 k a1 a2 bt314.1 true))) = some (r1, r2) := h
 clear h
 replace H := Option.bind_eq_some_iff.mp H
 obtain ⟨⟨t314, t317⟩, A40, H⟩ := H
 replace H : (if t317 = true then ((spec_l1In.f (a1.size : Int) 1 40).bind fun t318 => (if t318 = true then (spec_PutKey.j0 k a1 a2 t314 (decide ((a2.size : Int) > 60))) else (spec_PutKey.j0 k a1 a2 t314 true))) else (spec_PutKey.j0 k a1 a2 t314 true)) = some (r1, r2) := H
 have A4 := aM A40
 clear A40
 have HC5 := aM H
 clear H
 go_enter Try.func40, Try.ntmps40
 go_upto_region 2 with (first | ((with_reducible refine gate_dst (N := 3) rfl ?_); (try (refine gate_guard (by rfl) ?_; dsimp only)); refine box_event ?hg (N := 3) ?hd (cs := #[.slice A0_0 l0_0.length c0_0]) (t := 29) ?hr ?_; (case hd => rfl); (case hg => rfl); (case hr => first | (go_simp; done) | (go_simp; rfl)); intro gb312 hg w6 hbox hb; have n0_ := aM (below_step (gB HB.out) hb); have n1_ := aM (hbox); have n2_ := aM ((by rw [hg]; exact (below_size (gB HB.out)) : w.heap.size ≤ gb312)); have n3_ := aM ((by rw [hg]; exact (below_size (gB HB.out)) : w.heap.size ≤ gb312)); clear HB; have HB := n0_; have BK312 := n1_; have GW312 := n2_; have GE312 := n3_; clear n0_ n1_ n2_ n3_; clear hb hbox hg) | ((with_reducible refine gate_dst (N := 6) rfl ?_); (try (refine gate_guard (by rfl) ?_; dsimp only)); refine box_event ?hg (N := 6) ?hd (cs := #[.slice none 0 0]) (t := 29) ?hr ?_; (case hd => rfl); (case hg => rfl); (case hr => first | (go_simp; done) | (go_simp; rfl)); intro gb313 hg w7 hbox hb; have n0_ := aM (blk_below (g := gb312) (o := .cells #[.slice A0_0 l0_0.length c0_0] 29 (0, 0)) (gK BK312.out) hb); have n1_ := aM (below_step (gB HB.out) hb); have n2_ := aM (hbox); have n3_ := aM ((by rw [hg]; exact (below_size (gB HB.out)) : w.heap.size ≤ gb313)); have n4_ := aM ((by rw [hg]; exact (below_size (gB HB.out)) : w.heap.size ≤ gb313)); have n5_ := aM ((by rw [hg]; exact Nat.ne_of_lt (blk_lt (g := gb312) (o := .cells #[.slice A0_0 l0_0.length c0_0] 29 (0, 0)) (gK BK312.out)) : gb312 ≠ gb313)); have n6_ := aM ((by rw [hg]; exact Nat.ne_of_gt (blk_lt (g := gb312) (o := .cells #[.slice A0_0 l0_0.length c0_0] 29 (0, 0)) (gK BK312.out)) : gb313 ≠ gb312)); clear BK312; clear HB; have BK312 := n0_; have HB := n1_; have BK313 := n2_; have GW313 := n3_; have GE313 := n4_; have NB312_313 := n5_; have NB313_312 := n6_; clear n0_ n1_ n2_ n3_ n4_ n5_ n6_; clear hb hbox hg; have hnb8 := NB312_313.out; have hnc8 := NB313_312.out; have hcz9_0 : w7.cell? ⟨gb312, 0, none⟩ = some (.slice A0_0 l0_0.length c0_0) := (blk_cell BK312.out 0).trans rfl; have hfz9_0 := blk_frozen BK312.out 0) | ((with_reducible refine gate_callee (f := 47) rfl ?_); refine goesL_ (some 12) rfl rfl Try.func47 (by kernel_rfl) rfl #[.agg #[.slice A0_0 l0_0.length c0_0]] rfl (by (try simp only [List.map_toArray, List.map_cons, List.map_nil]); first | done | rfl | (simp only [List.length_drop, List.length_take]; rfl)) ?_; (with_reducible refine (spec_l7Of.calls k _ _ l0_0 t314 t317 _ ?side1 ?side2 A4.out).mono ?_); (case side1 => repeat (first | exact (Kd.C_below HR0_0.out HB.out) | (with_reducible refine Kd.C_alloc ?_ _) | (with_reducible refine Kd.C_drewN ?_ _) | (with_reducible refine Kd.C_drew ?_))); (case side2 => exact HC0_0.out); rintro e w10 ⟨v315, rfl, ho0, hb⟩; refine ⟨_, rfl, ?_⟩; have n0_ := aM (Kd.R_lower ho0 (below_size (gB HB.out))); have n1_ := aM (blk_below (g := gb312) (o := .cells #[.slice A0_0 l0_0.length c0_0] 29 (0, 0)) (gK BK312.out) hb); have n2_ := aM (blk_below (g := gb313) (o := .cells #[.slice none 0 0] 29 (0, 0)) (gK BK313.out) hb); have n3_ := aM (below_step (gB HB.out) hb); clear BK312; clear BK313; clear HB; have HO316 := n0_; have BK312 := n1_; have BK313 := n2_; have HB := n3_; clear n0_ n1_ n2_ n3_; (try clear hb); (try clear hb2); (try clear hk); (try clear hi); (try clear ho0)))
 (try simp only [Act.put, zSA, zSB, zSC])
 go_cut [27] (fun v27 wc => ∃ (kq : Nat) (x27_4 : Bool), v27 = .bool x27_4 ∧ Aside0 (spec_PutKey.j0 kq a1 a2 t314 x27_4 = some (r1, r2)) ∧ Aside0 (kq ≤ k) ∧ Aside0 (Kd.R k74 74 wc w.heap.size (fun _ => True) v315 t314) ∧ Aside0 (wc.heap[gb312]? = some (.cells #[(.slice A0_0 l0_0.length c0_0)] 29 (0, 0))) ∧ Aside0 (wc.heap[gb313]? = some (.cells #[(.slice none 0 0)] 29 (0, 0))) ∧ Aside0 (Below w.heap.size w wc))
 case first =>
  have H := HC5.out
  clear HC5
  by_cases c11 : t317 = true
  ·
   subst c11
   have H1 : ((spec_l1In.f (a1.size : Int) 1 40).bind fun t318 => (if t318 = true then (spec_PutKey.j0 k a1 a2 t314 (decide ((a2.size : Int) > 60))) else (spec_PutKey.j0 k a1 a2 t314 true))) = some (r1, r2) := by rw [if_pos rfl] at H; exact H
   clear H
   have H := H1
   clear H1
   replace H := Option.bind_eq_some_iff.mp H
   obtain ⟨t318, A120, H⟩ := H
   replace H : (if t318 = true then (spec_PutKey.j0 k a1 a2 t314 (decide ((a2.size : Int) > 60))) else (spec_PutKey.j0 k a1 a2 t314 true)) = some (r1, r2) := H
   have A12 := aM A120
   clear A120
   by_cases c13 : t318 = true
   ·
    subst c13
    have H1 : (spec_PutKey.j0 k a1 a2 t314 (decide ((a2.size : Int) > 60))) = some (r1, r2) := by rw [if_pos rfl] at H; exact H
    clear H
    have H := H1
    clear H1
    have H' := aM H
    clear H
    go_wp2_with ((go_at_call 68; (try simp only [i64_w]); (with_reducible refine (spec_l1In.calls (a1.size : Int) 1 40 true _ A12.out).mono ?_); rintro e w' ⟨rfl, ⟨nd, rfl⟩⟩))
    go_meet
    case rel => exact ⟨_, (decide ((a2.size : Int) > 60)), (by first | rfl | (simp; done) | (simp [*]; done)), H', ⟨by first | omega | exact Nat.le_refl _⟩, ⟨gR HO316.out⟩, ⟨gK BK312.out⟩, ⟨gK BK313.out⟩, ⟨by repeat (first | (with_reducible first | exact HB.out | apply below_alloc | apply pw_below_drewN | apply below_drew1 | refine below_set ?_ GE312.out | refine below_set ?_ GE313.out) | exact HB.out)⟩⟩
   ·
    replace c13 := Bool.eq_false_iff.mpr c13
    subst c13
    have H1 : (spec_PutKey.j0 k a1 a2 t314 true) = some (r1, r2) := by rw [if_neg (show ¬ (false = true) by decide)] at H; exact H
    clear H
    have H := H1
    clear H1
    have H' := aM H
    clear H
    go_wp2_with ((go_at_call 68; (try simp only [i64_w]); (with_reducible refine (spec_l1In.calls (a1.size : Int) 1 40 false _ A12.out).mono ?_); rintro e w' ⟨rfl, ⟨nd, rfl⟩⟩))
    go_meet
    case rel => exact ⟨_, (true), (by first | rfl | (simp; done) | (simp [*]; done)), H', ⟨by first | omega | exact Nat.le_refl _⟩, ⟨gR HO316.out⟩, ⟨gK BK312.out⟩, ⟨gK BK313.out⟩, ⟨by repeat (first | (with_reducible first | exact HB.out | apply below_alloc | apply pw_below_drewN | apply below_drew1 | refine below_set ?_ GE312.out | refine below_set ?_ GE313.out) | exact HB.out)⟩⟩
  ·
   replace c11 := Bool.eq_false_iff.mpr c11
   subst c11
   have H1 : (spec_PutKey.j0 k a1 a2 t314 true) = some (r1, r2) := by rw [if_neg (show ¬ (false = true) by decide)] at H; exact H
   clear H
   have H := H1
   clear H1
   have H' := aM H
   clear H
   go_wp2
   go_meet
   case rel => exact ⟨_, (true), (by first | rfl | (simp; done) | (simp [*]; done)), H', ⟨by first | omega | exact Nat.le_refl _⟩, ⟨gR HO316.out⟩, ⟨gK BK312.out⟩, ⟨gK BK313.out⟩, ⟨by repeat (first | (with_reducible first | exact HB.out | apply below_alloc | apply pw_below_drewN | apply below_drew1 | refine below_set ?_ GE312.out | refine below_set ?_ GE313.out) | exact HB.out)⟩⟩
 case rest =>
  clear HC5
  try clear c1
  try clear p2
  try clear c4
  try clear c8
  try clear c11
  try clear c13
  try clear hcz9_0
  try clear hfz9_0
  obtain ⟨kq, x27_4, rfl, HA, HJ4, HO_8, BK312, BK313, HB⟩ := hcut
  cases kq with
  | zero => exact absurd HA.out (by simp [spec_PutKey.j0])
  | succ kj4 =>
   have H := HA.out
   clear HA
   simp only [spec_PutKey.j0] at H
   by_cases c14 : x27_4 = true
   ·
    subst c14
    have H1 : (some (([] : List (S71)), false)) = some (r1, r2) := by rw [if_pos rfl] at H; exact H
    clear H
    have H := H1
    clear H1
    simp only [Option.some.injEq, Prod.mk.injEq] at H
    obtain ⟨rfl, rfl⟩ := H
    have hnb15 := NB313_312.out
    have hnc15 := NB312_313.out
    have hcz16_0 : wc.cell? ⟨gb313, 0, none⟩ = some (.slice none 0 0) := (blk_cell BK313.out 0).trans rfl
    have hfz16_0 := blk_frozen BK313.out 0
    go_wp2
    refine bodyPost_ret (results_ct rfl _ _ gb313 29 #[.slice none 0 0] (0, 0) _ rfl (by (with_reducible repeat (first | refine blk_drewN ?_ _ | refine blk_drew ?_ | refine blk_alloc ?_ _)); refine blk_put (cs := #[.slice none 0 0]) ?_ 0 _ rfl; (with_reducible repeat (first | refine blk_drewN ?_ _ | refine blk_drew ?_ | refine blk_alloc ?_ _)); exact BK313.out) Try.underlying29 rfl (by kernel_rfl)) rfl ?_
    exact ⟨_, by first | rfl | (simp [errW_none, errW_some] <;> rfl) | (simp [*, errW_none, errW_some] <;> rfl), by first | exact Kd.R_nil _ _ _ _ _ | exact Kd.N_nil _ _ _ _ _ | exact Kd.V_nil _ _ _ _ _ | exact Kd.Q_nil _ _ _ _ _ | exact Kd.S_nil _ _ _ _ _, by repeat (first | (with_reducible first | exact HB.out | apply below_alloc | apply pw_below_drewN | apply below_drew1 | refine below_set ?_ GE312.out | refine below_set ?_ GE313.out) | exact HB.out)⟩
   ·
    replace c14 := Bool.eq_false_iff.mpr c14
    subst c14
    have H1 : ((spec_l7Put.f kj4 t314 a1 a2).bind fun t319 => (if (t319.length : Int) > 60 then (some (([] : List (S71)), false)) else ((spec_l7Treap.f t319).bind fun t322 => (some (t322, true))))) = some (r1, r2) := by rw [if_neg (show ¬ (false = true) by decide)] at H; exact H
    clear H
    have H := H1
    clear H1
    replace H := Option.bind_eq_some_iff.mp H
    obtain ⟨t319, A170, H⟩ := H
    replace H : (if (t319.length : Int) > 60 then (some (([] : List (S71)), false)) else ((spec_l7Treap.f t319).bind fun t322 => (some (t322, true)))) = some (r1, r2) := H
    have A17 := aM A170
    clear A170
    by_cases c18 : (t319.length : Int) > 60
    ·
     rw [if_pos c18] at H
     have c18b0 : decide (60 < (t319.length : Int)) = true := decide_eq_true c18
     have c18b1 : decide (60 < t319.length) = true := decide_eq_true (by omega)
     clear c18
     simp only [Option.some.injEq, Prod.mk.injEq] at H
     obtain ⟨rfl, rfl⟩ := H
     obtain ⟨Ao19, co19, eo19⟩ := Kd.R_slice HO_8.out
     subst eo19
     go_wp2_with (((with_reducible refine gate_callee (f := 69) rfl ?_); refine goesL_ (some 33) rfl rfl Try.func69 (by kernel_rfl) rfl #[.slice Ao19 t314.length co19, .agg #[.string a1, .string a2]] rfl (by (try simp only [List.map_toArray, List.map_cons, List.map_nil]); first | done | rfl | (simp only [List.length_drop, List.length_take]; rfl)) ?_; (with_reducible refine (spec_l7Put.calls kj4 _ _ t314 a1 a2 t319 _ ?side1 ?side2 A17.out).mono ?_); (case side1 => repeat (first | exact (Kd.R_reads' HO_8.out).2.2 | (with_reducible refine Kd.C_alloc ?_ _) | (with_reducible refine Kd.C_drewN ?_ _) | (with_reducible refine Kd.C_drew ?_))); (case side2 => exact (Kd.R_reads' HO_8.out).2.1); rintro e w20 ⟨v320, rfl, ho0, hb⟩; refine ⟨_, rfl, ?_⟩; have n0_ := aM (Kd.R_elder' (gR HO_8.out) (Kd.R_base ho0) hb); have n1_ := aM (Kd.R_lower (Kd.R_new' ho0 (Kd.R_lt (gR HO_8.out))) (below_size (gB HB.out))); have n2_ := aM (blk_below (g := gb312) (o := .cells #[.slice A0_0 l0_0.length c0_0] 29 (0, 0)) (gK BK312.out) hb); have n3_ := aM (blk_below (g := gb313) (o := .cells #[.slice none 0 0] 29 (0, 0)) (gK BK313.out) hb); have n4_ := aM (below_step (gB HB.out) hb); clear HO_8; clear BK312; clear BK313; clear HB; have HO_8 := n0_; have HO321 := n1_; have BK312 := n2_; have BK313 := n3_; have HB := n4_; clear n0_ n1_ n2_ n3_ n4_; (try clear hb); (try clear hb2); (try clear hk); (try clear hi); (try clear ho0); obtain ⟨Ao21, co21, eo21⟩ := Kd.R_slice HO321.out; subst eo21; have hnb22 := NB313_312.out; have hnc22 := NB312_313.out; have hcz23_0 : w20.cell? ⟨gb313, 0, none⟩ = some (.slice none 0 0) := (blk_cell BK313.out 0).trans rfl; have hfz23_0 := blk_frozen BK313.out 0))
     refine bodyPost_ret (results_ct rfl _ _ gb313 29 #[.slice none 0 0] (0, 0) _ rfl (by (with_reducible repeat (first | refine blk_drewN ?_ _ | refine blk_drew ?_ | refine blk_alloc ?_ _)); refine blk_put (cs := #[.slice none 0 0]) ?_ 0 _ rfl; (with_reducible repeat (first | refine blk_drewN ?_ _ | refine blk_drew ?_ | refine blk_alloc ?_ _)); exact BK313.out) Try.underlying29 rfl (by kernel_rfl)) rfl ?_
     exact ⟨_, by first | rfl | (simp [errW_none, errW_some] <;> rfl) | (simp [*, errW_none, errW_some] <;> rfl), by first | exact Kd.R_nil _ _ _ _ _ | exact Kd.N_nil _ _ _ _ _ | exact Kd.V_nil _ _ _ _ _ | exact Kd.Q_nil _ _ _ _ _ | exact Kd.S_nil _ _ _ _ _, by repeat (first | (with_reducible first | exact HB.out | apply below_alloc | apply pw_below_drewN | apply below_drew1 | refine below_set ?_ GE312.out | refine below_set ?_ GE313.out) | exact HB.out)⟩
    ·
     rw [if_neg c18] at H
     have c18b0 : decide (60 < (t319.length : Int)) = false := decide_eq_false c18
     have c18b1 : decide (60 < t319.length) = false := decide_eq_false (by omega)
     clear c18
     replace H := Option.bind_eq_some_iff.mp H
     obtain ⟨t322, A240, H⟩ := H
     replace H : (some (t322, true)) = some (r1, r2) := H
     have A24 := aM A240
     clear A240
     simp only [Option.some.injEq, Prod.mk.injEq] at H
     obtain ⟨rfl, rfl⟩ := H
     obtain ⟨Ao25, co25, eo25⟩ := Kd.R_slice HO_8.out
     subst eo25
     go_wp2_with (first | ((with_reducible refine gate_callee (f := 69) rfl ?_); refine goesL_ (some 33) rfl rfl Try.func69 (by kernel_rfl) rfl #[.slice Ao25 t314.length co25, .agg #[.string a1, .string a2]] rfl (by (try simp only [List.map_toArray, List.map_cons, List.map_nil]); first | done | rfl | (simp only [List.length_drop, List.length_take]; rfl)) ?_; (with_reducible refine (spec_l7Put.calls kj4 _ _ t314 a1 a2 t319 _ ?side1 ?side2 A17.out).mono ?_); (case side1 => repeat (first | exact (Kd.R_reads' HO_8.out).2.2 | (with_reducible refine Kd.C_alloc ?_ _) | (with_reducible refine Kd.C_drewN ?_ _) | (with_reducible refine Kd.C_drew ?_))); (case side2 => exact (Kd.R_reads' HO_8.out).2.1); rintro e w26 ⟨v320, rfl, ho0, hb⟩; refine ⟨_, rfl, ?_⟩; have n0_ := aM (Kd.R_elder' (gR HO_8.out) (Kd.R_base ho0) hb); have n1_ := aM (Kd.R_lower (Kd.R_new' ho0 (Kd.R_lt (gR HO_8.out))) (below_size (gB HB.out))); have n2_ := aM (blk_below (g := gb312) (o := .cells #[.slice A0_0 l0_0.length c0_0] 29 (0, 0)) (gK BK312.out) hb); have n3_ := aM (blk_below (g := gb313) (o := .cells #[.slice none 0 0] 29 (0, 0)) (gK BK313.out) hb); have n4_ := aM (below_step (gB HB.out) hb); clear HO_8; clear BK312; clear BK313; clear HB; have HO_8 := n0_; have HO321 := n1_; have BK312 := n2_; have BK313 := n3_; have HB := n4_; clear n0_ n1_ n2_ n3_ n4_; (try clear hb); (try clear hb2); (try clear hk); (try clear hi); (try clear ho0); obtain ⟨Ao27, co27, eo27⟩ := Kd.R_slice HO321.out; subst eo27) | ((with_reducible refine gate_callee (f := 56) rfl ?_); refine goesL_ (some 39) rfl rfl Try.func56 (by kernel_rfl) rfl #[.slice Ao27 t319.length co27] rfl (by (try simp only [List.map_toArray, List.map_cons, List.map_nil]); first | done | rfl | (simp only [List.length_drop, List.length_take]; rfl)) ?_; (with_reducible refine (spec_l7Treap.calls _ _ t319 t322 _ ?side1 ?side2 A24.out).mono ?_); (case side1 => repeat (first | exact (Kd.R_reads' HO321.out).2.2 | (with_reducible refine Kd.C_alloc ?_ _) | (with_reducible refine Kd.C_drewN ?_ _) | (with_reducible refine Kd.C_drew ?_))); (case side2 => exact (Kd.R_reads' HO321.out).2.1); rintro e w28 ⟨v323, rfl, ho0, hb⟩; refine ⟨_, rfl, ?_⟩; have n0_ := aM (Kd.R_below (gR HO_8.out) hb); have n1_ := aM (Kd.R_below (gR HO321.out) hb); have n2_ := aM (Kd.R_lower ho0 (below_size (gB HB.out))); have n3_ := aM (blk_below (g := gb312) (o := .cells #[.slice A0_0 l0_0.length c0_0] 29 (0, 0)) (gK BK312.out) hb); have n4_ := aM (blk_below (g := gb313) (o := .cells #[.slice none 0 0] 29 (0, 0)) (gK BK313.out) hb); have n5_ := aM (below_step (gB HB.out) hb); clear HO_8; clear HO321; clear BK312; clear BK313; clear HB; have HO_8 := n0_; have HO321 := n1_; have HO324 := n2_; have BK312 := n3_; have BK313 := n4_; have HB := n5_; clear n0_ n1_ n2_ n3_ n4_ n5_; (try clear hb); (try clear hb2); (try clear hk); (try clear hi); (try clear ho0); obtain ⟨Ao29, co29, eo29⟩ := Kd.R_slice HO324.out; subst eo29; have hnb30 := NB313_312.out; have hnc30 := NB312_313.out; have hcz31_0 : w28.cell? ⟨gb313, 0, none⟩ = some (.slice none 0 0) := (blk_cell BK313.out 0).trans rfl; have hfz31_0 := blk_frozen BK313.out 0))
     refine bodyPost_ret (results_ct rfl _ _ gb313 29 #[.slice Ao29 t322.length co29] (0, 0) _ rfl (by (with_reducible repeat (first | refine blk_drewN ?_ _ | refine blk_drew ?_ | refine blk_alloc ?_ _)); refine blk_put (cs := #[.slice none 0 0]) ?_ 0 _ rfl; (with_reducible repeat (first | refine blk_drewN ?_ _ | refine blk_drew ?_ | refine blk_alloc ?_ _)); exact BK313.out) Try.underlying29 rfl (by kernel_rfl)) rfl ?_
     exact ⟨_, by first | rfl | (simp [errW_none, errW_some] <;> rfl) | (simp [*, errW_none, errW_some] <;> rfl), by (with_reducible repeat (first | apply Kd.R_alloc | apply Kd.R_drewN | apply Kd.R_drew)); exact Kd.R_mono (Kd.R_far (p := ⟨gb313, 0, none⟩) (Kd.R_types HO324.out BK313.out (by decide)) (fun _ hk => hk.2) (.slice Ao29 t322.length co29)) (fun _ hk => trivial), by repeat (first | (with_reducible first | exact HB.out | apply below_alloc | apply pw_below_drewN | apply below_drew1 | refine below_set ?_ GE312.out | refine below_set ?_ GE313.out) | exact HB.out)⟩



def impl_pairsOf.f (l0_0 : List (S71)) : Option (List (S80) × Bool) := if l0_0.length ≤ 1048576 then some (Po.ansP l0_0) else none
theorem impl_pairsOf.calls (A0_0 : Option Addr) (c0_0 : Nat) (l0_0 : List (S71)) (r1 : List (S80)) (r2 : Bool) (w : World) (hr0_0 : Kd.C k71 w A0_0 l0_0.length l0_0) (hc0_0 : l0_0.length ≤ c0_0) (h : impl_pairsOf.f l0_0 = some (r1, r2)) :
  Calls Try.prog 49 #[.agg #[.slice A0_0 l0_0.length c0_0]] w fun e w' => ∃ v0_ : Value, e = .returned (.tuple #[v0_, .bool r2]) ∧ Kd.R k80 80 w' w.heap.size (fun _ => True) v0_ r1 ∧ Below w.heap.size w w' := by
 unfold impl_pairsOf.f at h
 split at h
 ·
  rename_i hs
  have h1 := Option.some.inj h
  have := Po.calls l0_0 A0_0 c0_0 w hr0_0 hc0_0 hs
  rw [h1] at this
  exact this
 ·
  cases h

def impl_GoodTreap.f (l0_0 : List (S71)) : Option (Bool) := (impl_pairsOf.f l0_0).bind fun bt133 => (some bt133.2)
set_option maxHeartbeats 8000000 in
set_option maxRecDepth 100000 in
theorem impl_GoodTreap.calls (A0_0 : Option Addr) (c0_0 : Nat) (l0_0 : List (S71)) (r : Bool) (w : World) (hr0_0 : Kd.C k71 w A0_0 l0_0.length l0_0) (hc0_0 : l0_0.length ≤ c0_0) (h : impl_GoodTreap.f l0_0 = some r) :
  Calls Try.prog 16 #[.agg #[.slice A0_0 l0_0.length c0_0]] w fun e w' => e = .returned (.bool r) ∧ Below w.heap.size w w' := by
 have hu29 := Try.underlying29
 have HR0_0 := aM hr0_0
 have HC0_0 := aM hc0_0
 clear hr0_0 hc0_0
 have HB := aM (Below.refl w.heap.size w)
 have H : ((impl_pairsOf.f l0_0).bind fun bt133 => (some bt133.2)) = some r := h
 clear h
 replace H := Option.bind_eq_some_iff.mp H
 obtain ⟨⟨t133, t136⟩, A20, H⟩ := H
 replace H : (some t136) = some r := H
 have A2 := aM A20
 clear A20
 obtain rfl := Option.some.inj H
 go_enter Try.func16, Try.ntmps16
 go_wp2_with (first | ((with_reducible refine gate_dst (N := 1) rfl ?_); refine box_event ?hg (N := 1) ?hd (cs := #[.slice A0_0 l0_0.length c0_0]) (t := 29) ?hr ?_; (case hd => rfl); (case hg => rfl); (case hr => first | (go_simp; done) | (go_simp; rfl)); intro gb132 hg w3 hbox hb; have n0_ := aM (below_step (gB HB.out) hb); have n1_ := aM (hbox); have n2_ := aM ((by rw [hg]; exact (below_size (gB HB.out)) : w.heap.size ≤ gb132)); have n3_ := aM ((by rw [hg]; exact (below_size (gB HB.out)) : w.heap.size ≤ gb132)); clear HB; have HB := n0_; have BK132 := n1_; have GW132 := n2_; have GE132 := n3_; clear n0_ n1_ n2_ n3_; clear hb hbox hg; have hcz4_0 : w3.cell? ⟨gb132, 0, none⟩ = some (.slice A0_0 l0_0.length c0_0) := (blk_cell BK132.out 0).trans rfl; have hfz4_0 := blk_frozen BK132.out 0) | ((with_reducible refine gate_callee (f := 49) rfl ?_); refine goesL_ (some 7) rfl rfl Try.func49 (by kernel_rfl) rfl #[.agg #[.slice A0_0 l0_0.length c0_0]] rfl (by (try simp only [List.map_toArray, List.map_cons, List.map_nil]); first | done | rfl | (simp only [List.length_drop, List.length_take]; rfl)) ?_; (with_reducible refine (impl_pairsOf.calls _ _ l0_0 t133 t136 _ ?side1 ?side2 A2.out).mono ?_); (case side1 => repeat (first | exact (Kd.C_below HR0_0.out HB.out) | (with_reducible refine Kd.C_alloc ?_ _) | (with_reducible refine Kd.C_drewN ?_ _) | (with_reducible refine Kd.C_drew ?_))); (case side2 => exact HC0_0.out); rintro e w5 ⟨v134, rfl, ho0, hb⟩; refine ⟨_, rfl, ?_⟩; have n0_ := aM (Kd.R_lower ho0 (below_size (gB HB.out))); have n1_ := aM (blk_below (g := gb132) (o := .cells #[.slice A0_0 l0_0.length c0_0] 29 (0, 0)) (gK BK132.out) hb); have n2_ := aM (below_step (gB HB.out) hb); clear BK132; clear HB; have HO135 := n0_; have BK132 := n1_; have HB := n2_; clear n0_ n1_ n2_; (try clear hb); (try clear hb2); (try clear hk); (try clear hi); (try clear ho0)))
 go_ret
 exact ⟨by first | rfl | (simp [errW_none, errW_some] <;> rfl) | (simp [*, errW_none, errW_some] <;> rfl), by repeat (first | (with_reducible first | exact HB.out | apply below_alloc | apply pw_below_drewN | apply below_drew1 | refine below_set ?_ GE132.out) | exact HB.out)⟩

end Go.Proofs.Ytjknkeipginpcaa.PQ
end

section
namespace Go.Proofs.Ytjknkeipginpcaa.PQ
open Go.RowKit Go.Proofs.YtjknkeipginpcaaW.PrintWords Go.Proofs.YtjknkeipginpcaaW.PrintLast Go.Proofs.YtjknkeipginpcaaW.PrintMore
attribute [local go_sem] max2_int min2_int max_two min_two max_three min_three max_four min_four
set_option linter.unusedVariables false
set_option linter.unusedSimpArgs false
attribute [local go_sem] Go.Proofs.Ytjknkeipginpcaa.StrO.leq_s Go.Proofs.Ytjknkeipginpcaa.StrO.gtr_s Go.Proofs.Ytjknkeipginpcaa.StrO.geq_s
mutual
def impl_GetKey.j0 : Nat → ByteArray → Bool → List (S71) → Option (ByteArray × Int × Bool)
 | 0, _, _, _ => none
 | k + 1, x1, x18, x354000 => if x18 = true then (some ((⟨#[]⟩ : ByteArray), 0, false)) else (impl_GetKey.l0 k x1 0 0 x354000)
def impl_GetKey.l0 : Nat → ByteArray → Int → Int → List (S71) → Option (ByteArray × Int × Bool)
 | 0, _, _, _, _ => none
 | k + 1, x1, x7, x8, x354000 => if x8 ≥ 0 then (if 0 ≤ x8 then (if x8 < (x354000.length : Int) then (if x1.toList = ((rd_T71 x354000 x8).f0).toList then (some ((rd_T71 x354000 x8).f1, wrap64 (x7 + 1), true)) else (if (Op.bytesLess x1.toList (((rd_T71 x354000 x8).f0).toList)) = true then (impl_GetKey.l0 k x1 (wrap64 (x7 + 1)) ((rd_T71 x354000 x8).f2) x354000) else (impl_GetKey.l0 k x1 (wrap64 (x7 + 1)) ((rd_T71 x354000 x8).f3) x354000))) else (none)) else (none)) else (some ((⟨#[]⟩ : ByteArray), 0, false))
end
def impl_GetKey.f (k : Nat) (l0_0 : List (S71)) (a1 : ByteArray) : Option (ByteArray × Int × Bool) := (impl_GoodTreap.f l0_0).bind fun t354 => (if t354 = true then (impl_GetKey.j0 k a1 ((l0_0.length : Int) == 0) l0_0) else (impl_GetKey.j0 k a1 true l0_0))
set_option maxHeartbeats 8000000 in
set_option maxRecDepth 100000 in
theorem impl_GetKey.calls (k : Nat) (A0_0 : Option Addr) (c0_0 : Nat) (l0_0 : List (S71)) (a1 : ByteArray) (r1 : ByteArray) (r2 : Int) (r3 : Bool) (w : World) (hr0_0 : Kd.C k71 w A0_0 l0_0.length l0_0) (hc0_0 : l0_0.length ≤ c0_0) (h : impl_GetKey.f k l0_0 a1 = some (r1, r2, r3)) :
  Calls Try.prog 19 #[.agg #[.slice A0_0 l0_0.length c0_0], .string a1] w fun e w' => e = .returned (.tuple #[.string r1, .int .i64 r2, .bool r3]) ∧ Below w.heap.size w w' := by
 have hu29 := Try.underlying29
 have hu71 := Try.underlying71
 have HR0_0 := aM hr0_0
 have HC0_0 := aM hc0_0
 clear hr0_0 hc0_0
 have HB := aM (Below.refl w.heap.size w)
 have H : ((impl_GoodTreap.f l0_0).bind fun t354 => (if t354 = true then (impl_GetKey.j0 k a1 ((l0_0.length : Int) == 0) l0_0) else (impl_GetKey.j0 k a1 true l0_0))) = some (r1, r2, r3) := h
 clear h
 have HC3 := aM H
 clear H
 go_enter Try.func19, Try.ntmps19
 go_upto_region 1 with (((with_reducible refine gate_dst (N := 2) rfl ?_); (try (refine gate_guard (by rfl) ?_; dsimp only)); refine box_event ?hg (N := 2) ?hd (cs := #[.slice A0_0 l0_0.length c0_0]) (t := 29) ?hr ?_; (case hd => rfl); (case hg => rfl); (case hr => first | (go_simp; done) | (go_simp; rfl)); intro gb353 hg w4 hbox hb; have n0_ := aM (below_step (gB HB.out) hb); have n1_ := aM (hbox); have n2_ := aM ((by rw [hg]; exact (below_size (gB HB.out)) : w.heap.size ≤ gb353)); have n3_ := aM ((by rw [hg]; exact (below_size (gB HB.out)) : w.heap.size ≤ gb353)); clear HB; have HB := n0_; have BK353 := n1_; have GW353 := n2_; have GE353 := n3_; clear n0_ n1_ n2_ n3_; clear hb hbox hg))
 (try simp only [Act.put, zSA, zSB, zSC])
 go_cut [18] (fun v18 wc => ∃ (kq : Nat) (x18_2 : Bool), v18 = .bool x18_2 ∧ Aside0 (impl_GetKey.j0 kq a1 x18_2 l0_0 = some (r1, r2, r3)) ∧ Aside0 (kq ≤ k) ∧ Aside0 (wc.heap[gb353]? = some (.cells #[(.slice A0_0 l0_0.length c0_0)] 29 (0, 0))) ∧ Aside0 (Below w.heap.size w wc))
 case first =>
  have H := HC3.out
  clear HC3
  replace H := Option.bind_eq_some_iff.mp H
  obtain ⟨t354, A50, H⟩ := H
  replace H : (if t354 = true then (impl_GetKey.j0 k a1 ((l0_0.length : Int) == 0) l0_0) else (impl_GetKey.j0 k a1 true l0_0)) = some (r1, r2, r3) := H
  have A5 := aM A50
  clear A50
  by_cases c6 : t354 = true
  ·
   subst c6
   have H1 : (impl_GetKey.j0 k a1 ((l0_0.length : Int) == 0) l0_0) = some (r1, r2, r3) := by rw [if_pos rfl] at H; exact H
   clear H
   have H := H1
   clear H1
   have H' := aM H
   clear H
   have hcz7_0 : w4.cell? ⟨gb353, 0, none⟩ = some (.slice A0_0 l0_0.length c0_0) := (blk_cell BK353.out 0).trans rfl
   have hfz7_0 := blk_frozen BK353.out 0
   go_wp2_with (((with_reducible refine gate_callee (f := 16) rfl ?_); refine goesL_ (some 11) rfl rfl Try.func16 (by kernel_rfl) rfl #[.agg #[.slice A0_0 l0_0.length c0_0]] rfl (by (try simp only [List.map_toArray, List.map_cons, List.map_nil]); first | done | rfl | (simp only [List.length_drop, List.length_take]; rfl)) ?_; (with_reducible refine (impl_GoodTreap.calls _ _ l0_0 true _ ?side1 ?side2 A5.out).mono ?_); (case side1 => repeat (first | exact (Kd.C_below HR0_0.out HB.out) | (with_reducible refine Kd.C_alloc ?_ _) | (with_reducible refine Kd.C_drewN ?_ _) | (with_reducible refine Kd.C_drew ?_))); (case side2 => exact HC0_0.out); rintro e w8 ⟨rfl, hb⟩; refine ⟨_, rfl, ?_⟩; have n0_ := aM (blk_below (g := gb353) (o := .cells #[.slice A0_0 l0_0.length c0_0] 29 (0, 0)) (gK BK353.out) hb); have n1_ := aM (below_step (gB HB.out) hb); clear BK353; clear HB; have BK353 := n0_; have HB := n1_; clear n0_ n1_; (try clear hb); (try clear hb2); (try clear hk); (try clear hi); have hcz9_0 : w8.cell? ⟨gb353, 0, none⟩ = some (.slice A0_0 l0_0.length c0_0) := (blk_cell BK353.out 0).trans rfl; have hfz9_0 := blk_frozen BK353.out 0))
   go_meet
   case rel => exact ⟨_, (((l0_0.length : Int) == 0)), (by first | rfl | (simp; done) | (simp [*]; done)), H', ⟨by first | omega | exact Nat.le_refl _⟩, ⟨gK BK353.out⟩, ⟨by repeat (first | (with_reducible first | exact HB.out | apply below_alloc | apply pw_below_drewN | apply below_drew1 | refine below_set ?_ GE353.out) | exact HB.out)⟩⟩
  ·
   replace c6 := Bool.eq_false_iff.mpr c6
   subst c6
   have H1 : (impl_GetKey.j0 k a1 true l0_0) = some (r1, r2, r3) := by rw [if_neg (show ¬ (false = true) by decide)] at H; exact H
   clear H
   have H := H1
   clear H1
   have H' := aM H
   clear H
   have hcz10_0 : w4.cell? ⟨gb353, 0, none⟩ = some (.slice A0_0 l0_0.length c0_0) := (blk_cell BK353.out 0).trans rfl
   have hfz10_0 := blk_frozen BK353.out 0
   go_wp2_with (((with_reducible refine gate_callee (f := 16) rfl ?_); refine goesL_ (some 11) rfl rfl Try.func16 (by kernel_rfl) rfl #[.agg #[.slice A0_0 l0_0.length c0_0]] rfl (by (try simp only [List.map_toArray, List.map_cons, List.map_nil]); first | done | rfl | (simp only [List.length_drop, List.length_take]; rfl)) ?_; (with_reducible refine (impl_GoodTreap.calls _ _ l0_0 false _ ?side1 ?side2 A5.out).mono ?_); (case side1 => repeat (first | exact (Kd.C_below HR0_0.out HB.out) | (with_reducible refine Kd.C_alloc ?_ _) | (with_reducible refine Kd.C_drewN ?_ _) | (with_reducible refine Kd.C_drew ?_))); (case side2 => exact HC0_0.out); rintro e w11 ⟨rfl, hb⟩; refine ⟨_, rfl, ?_⟩; have n0_ := aM (blk_below (g := gb353) (o := .cells #[.slice A0_0 l0_0.length c0_0] 29 (0, 0)) (gK BK353.out) hb); have n1_ := aM (below_step (gB HB.out) hb); clear BK353; clear HB; have BK353 := n0_; have HB := n1_; clear n0_ n1_; (try clear hb); (try clear hb2); (try clear hk); (try clear hi)))
   go_meet
   case rel => exact ⟨_, (true), (by first | rfl | (simp; done) | (simp [*]; done)), H', ⟨by first | omega | exact Nat.le_refl _⟩, ⟨gK BK353.out⟩, ⟨by repeat (first | (with_reducible first | exact HB.out | apply below_alloc | apply pw_below_drewN | apply below_drew1 | refine below_set ?_ GE353.out) | exact HB.out)⟩⟩
 case rest =>
  clear HC3
  try clear c1
  try clear p2
  try clear c6
  try clear hcz10_0
  try clear hcz7_0
  try clear hcz9_0
  try clear hfz10_0
  try clear hfz7_0
  try clear hfz9_0
  obtain ⟨kq, x18_2, rfl, HA, HJ2, BK353, HB⟩ := hcut
  cases kq with
  | zero => exact absurd HA.out (by simp [impl_GetKey.j0])
  | succ kj2 =>
   have H := HA.out
   clear HA
   simp only [impl_GetKey.j0] at H
   by_cases c12 : x18_2 = true
   ·
    subst c12
    have H1 : (some ((⟨#[]⟩ : ByteArray), 0, false)) = some (r1, r2, r3) := by rw [if_pos rfl] at H; exact H
    clear H
    have H := H1
    clear H1
    simp only [Option.some.injEq, Prod.mk.injEq] at H
    obtain ⟨rfl, rfl, rfl⟩ := H
    go_wp2
    go_ret3
    exact ⟨by first | rfl | (simp [errW_none, errW_some] <;> rfl) | (simp [*, errW_none, errW_some] <;> rfl), by repeat (first | (with_reducible first | exact HB.out | apply below_alloc | apply pw_below_drewN | apply below_drew1 | refine below_set ?_ GE353.out) | exact HB.out)⟩
   ·
    replace c12 := Bool.eq_false_iff.mpr c12
    subst c12
    have H1 : (impl_GetKey.l0 kj2 a1 0 0 l0_0) = some (r1, r2, r3) := by rw [if_neg (show ¬ (false = true) by decide)] at H; exact H
    clear H
    have H := H1
    clear H1
    have H' := aM H
    clear H
    go_wp2
    go_loopg [7, 8] kj2 (fun kq v7 v8 w' => ∃ (x7_2 : Int) (x8_2 : Int), v7 = .int .i64 x7_2 ∧ v8 = .int .i64 x8_2 ∧ Aside0 (impl_GetKey.l0 kq a1 x7_2 x8_2 l0_0 = some (r1, r2, r3)) ∧ Aside0 (kq ≤ kj2) ∧ Aside0 (w'.heap[gb353]? = some (.cells #[(.slice A0_0 l0_0.length c0_0)] 29 (0, 0))) ∧ Aside0 (Below w.heap.size w w'))
    case atStart => exact ⟨(0), (0), (by first | rfl | (simp; done) | (simp [*]; done)), (by first | rfl | (simp; done) | (simp [*]; done)), H', ⟨Nat.le_refl _⟩, ⟨gK BK353.out⟩, ⟨by repeat (first | (with_reducible first | exact HB.out | apply below_alloc | apply pw_below_drewN | apply below_drew1 | refine below_set ?_ GE353.out) | exact HB.out)⟩⟩
    case round =>
     clear H'
     try clear c1
     try clear p2
     try clear c6
     try clear c12
     try clear hcz10_0
     try clear hcz7_0
     try clear hcz9_0
     try clear hfz10_0
     try clear hfz7_0
     try clear hfz9_0
     try clear p2
     obtain ⟨x7_2, x8_2, rfl, rfl, HA, HK2, BK353, HB⟩ := hrel
     cases gk with
     | zero => exact absurd HA.out (by simp [impl_GetKey.l0])
     | succ k2 =>
      have H := HA.out
      clear HA
      simp only [impl_GetKey.l0] at H
      by_cases c13 : x8_2 ≥ 0
      ·
       rw [if_pos c13] at H
       have c13b0 : decide (0 ≤ x8_2) = true := decide_eq_true c13
       clear c13
       by_cases c14 : 0 ≤ x8_2
       ·
        rw [if_pos c14] at H
        have c14b0 : decide (0 ≤ x8_2) = true := decide_eq_true c14
        clear c14
        by_cases c15 : x8_2 < (l0_0.length : Int)
        ·
         rw [if_pos c15] at H
         have c15b0 : decide (x8_2 < (l0_0.length : Int)) = true := decide_eq_true c15
         clear c15
         by_cases c16 : a1.toList = ((rd_T71 l0_0 x8_2).f0).toList
         ·
          rw [if_pos c16] at H
          have c16b0 : (a1.toList == ((rd_T71 l0_0 x8_2).f0).toList) = true := beq_iff_eq.mpr c16
          have c16b1 : (a1.toList != ((rd_T71 l0_0 x8_2).f0).toList) = false := bne_eq_false_iff_eq.mpr c16
          clear c16
          simp only [Option.some.injEq, Prod.mk.injEq] at H
          obtain ⟨rfl, rfl, rfl⟩ := H
          have hcz17_0 : wr.cell? ⟨gb353, 0, none⟩ = some (.slice A0_0 l0_0.length c0_0) := (blk_cell BK353.out 0).trans rfl
          have hfz17_0 := blk_frozen BK353.out 0
          have p355 : 0 ≤ (x8_2 : Int) := of_decide_eq_true (by first | (with_reducible assumption) | assumption)
          have q355 : x8_2 < (l0_0.length : Int) := of_decide_eq_true (by first | (with_reducible assumption) | assumption)
          obtain ⟨ad355, e355, hx355_0, hx355_1, hx355_2, hx355_3⟩ := at_T71 HR0_0.out x8_2 p355 q355
          cases e355
          try have hz_hx355_0 := aM hx355_0
          try have hz_hx355_1 := aM hx355_1
          try have hz_hx355_2 := aM hx355_2
          try have hz_hx355_3 := aM hx355_3
          replace hx355_0 := (HB.out.cell (World.block_lt_of_cell? w _ hx355_0)).trans hx355_0
          replace hx355_1 := (HB.out.cell (World.block_lt_of_cell? w _ hx355_1)).trans hx355_1
          replace hx355_2 := (HB.out.cell (World.block_lt_of_cell? w _ hx355_2)).trans hx355_2
          replace hx355_3 := (HB.out.cell (World.block_lt_of_cell? w _ hx355_3)).trans hx355_3
          replace p355 := eq_true p355
          replace q355 := eq_true q355
          go_wp2_with (((with_reducible refine gate_dst (N := 9) rfl ?_); (try (refine gate_guard (by rfl) ?_; dsimp only)); refine box_event ?hg (N := 9) ?hd (cs := #[.string (⟨#[]⟩ : ByteArray), .string (⟨#[]⟩ : ByteArray), .int .i64 0, .int .i64 0]) (t := 71) ?hr ?_; (case hd => rfl); (case hg => rfl); (case hr => first | (go_simp; done) | (go_simp; rfl)); intro gb356 hg w18 hbox hb; have n0_ := aM (blk_below (g := gb353) (o := .cells #[.slice (some ad355) l0_0.length c0_0] 29 (0, 0)) (gK BK353.out) hb); have n1_ := aM (below_step (gB HB.out) hb); have n2_ := aM (hbox); have n3_ := aM ((by rw [hg]; exact (below_size (gB HB.out)) : w.heap.size ≤ gb356)); have n4_ := aM ((by rw [hg]; exact (below_size (gB HB.out)) : w.heap.size ≤ gb356)); have n5_ := aM ((by rw [hg]; exact Nat.ne_of_lt (blk_lt (g := gb353) (o := .cells #[.slice (some ad355) l0_0.length c0_0] 29 (0, 0)) (gK BK353.out)) : gb353 ≠ gb356)); have n6_ := aM ((by rw [hg]; exact Nat.ne_of_gt (blk_lt (g := gb353) (o := .cells #[.slice (some ad355) l0_0.length c0_0] 29 (0, 0)) (gK BK353.out)) : gb356 ≠ gb353)); clear BK353; clear HB; have BK353 := n0_; have HB := n1_; have BK356 := n2_; have GW356 := n3_; have GE356 := n4_; have NB353_356 := n5_; have NB356_353 := n6_; clear n0_ n1_ n2_ n3_ n4_ n5_ n6_; clear hb hbox hg; have hnb19 := NB356_353.out; have hnc19 := NB353_356.out; have hcz20_0 : w18.cell? ⟨gb356, 0, none⟩ = some (.string (⟨#[]⟩ : ByteArray)) := (blk_cell BK356.out 0).trans rfl; have hcz20_1 : w18.cell? ⟨gb356, 1, none⟩ = some (.string (⟨#[]⟩ : ByteArray)) := (blk_cell BK356.out 1).trans rfl; have hcz20_2 : w18.cell? ⟨gb356, 2, none⟩ = some (.int .i64 0) := (blk_cell BK356.out 2).trans rfl; have hcz20_3 : w18.cell? ⟨gb356, 3, none⟩ = some (.int .i64 0) := (blk_cell BK356.out 3).trans rfl; have hfz20_0 := blk_frozen BK356.out 0; have hfz20_1 := blk_frozen BK356.out 1; have hfz20_2 := blk_frozen BK356.out 2; have hfz20_3 := blk_frozen BK356.out 3))
          go_ret3
          exact ⟨by first | rfl | (simp [errW_none, errW_some] <;> rfl) | (simp [*, errW_none, errW_some] <;> rfl), by repeat (first | (with_reducible first | exact HB.out | apply below_alloc | apply pw_below_drewN | apply below_drew1 | refine below_set ?_ GE353.out | refine below_set ?_ GE356.out) | exact HB.out)⟩
         ·
          rw [if_neg c16] at H
          have c16b0 : (a1.toList == ((rd_T71 l0_0 x8_2).f0).toList) = false := beq_eq_false_iff_ne.mpr c16
          have c16b1 : (a1.toList != ((rd_T71 l0_0 x8_2).f0).toList) = true := bne_iff_ne.mpr c16
          by_cases c21 : (Op.bytesLess a1.toList (((rd_T71 l0_0 x8_2).f0).toList)) = true
          ·
           rw [if_pos c21] at H
           have c21b0 : (Op.bytesLess a1.toList (((rd_T71 l0_0 x8_2).f0).toList)) = true := c21
           clear c21
           have H' := aM H
           clear H
           have hcz22_0 : wr.cell? ⟨gb353, 0, none⟩ = some (.slice A0_0 l0_0.length c0_0) := (blk_cell BK353.out 0).trans rfl
           have hfz22_0 := blk_frozen BK353.out 0
           have p355 : 0 ≤ (x8_2 : Int) := of_decide_eq_true (by first | (with_reducible assumption) | assumption)
           have q355 : x8_2 < (l0_0.length : Int) := of_decide_eq_true (by first | (with_reducible assumption) | assumption)
           obtain ⟨ad355, e355, hx355_0, hx355_1, hx355_2, hx355_3⟩ := at_T71 HR0_0.out x8_2 p355 q355
           cases e355
           try have hz_hx355_0 := aM hx355_0
           try have hz_hx355_1 := aM hx355_1
           try have hz_hx355_2 := aM hx355_2
           try have hz_hx355_3 := aM hx355_3
           replace hx355_0 := (HB.out.cell (World.block_lt_of_cell? w _ hx355_0)).trans hx355_0
           replace hx355_1 := (HB.out.cell (World.block_lt_of_cell? w _ hx355_1)).trans hx355_1
           replace hx355_2 := (HB.out.cell (World.block_lt_of_cell? w _ hx355_2)).trans hx355_2
           replace hx355_3 := (HB.out.cell (World.block_lt_of_cell? w _ hx355_3)).trans hx355_3
           replace p355 := eq_true p355
           replace q355 := eq_true q355
           go_wp2_with (((with_reducible refine gate_dst (N := 9) rfl ?_); (try (refine gate_guard (by rfl) ?_; dsimp only)); refine box_event ?hg (N := 9) ?hd (cs := #[.string (⟨#[]⟩ : ByteArray), .string (⟨#[]⟩ : ByteArray), .int .i64 0, .int .i64 0]) (t := 71) ?hr ?_; (case hd => rfl); (case hg => rfl); (case hr => first | (go_simp; done) | (go_simp; rfl)); intro gb356 hg w23 hbox hb; have n0_ := aM (blk_below (g := gb353) (o := .cells #[.slice (some ad355) l0_0.length c0_0] 29 (0, 0)) (gK BK353.out) hb); have n1_ := aM (below_step (gB HB.out) hb); have n2_ := aM (hbox); have n3_ := aM ((by rw [hg]; exact (below_size (gB HB.out)) : w.heap.size ≤ gb356)); have n4_ := aM ((by rw [hg]; exact (below_size (gB HB.out)) : w.heap.size ≤ gb356)); have n5_ := aM ((by rw [hg]; exact Nat.ne_of_lt (blk_lt (g := gb353) (o := .cells #[.slice (some ad355) l0_0.length c0_0] 29 (0, 0)) (gK BK353.out)) : gb353 ≠ gb356)); have n6_ := aM ((by rw [hg]; exact Nat.ne_of_gt (blk_lt (g := gb353) (o := .cells #[.slice (some ad355) l0_0.length c0_0] 29 (0, 0)) (gK BK353.out)) : gb356 ≠ gb353)); clear BK353; clear HB; have BK353 := n0_; have HB := n1_; have BK356 := n2_; have GW356 := n3_; have GE356 := n4_; have NB353_356 := n5_; have NB356_353 := n6_; clear n0_ n1_ n2_ n3_ n4_ n5_ n6_; clear hb hbox hg; have hnb24 := NB356_353.out; have hnc24 := NB353_356.out; have hcz25_0 : w23.cell? ⟨gb356, 0, none⟩ = some (.string (⟨#[]⟩ : ByteArray)) := (blk_cell BK356.out 0).trans rfl; have hcz25_1 : w23.cell? ⟨gb356, 1, none⟩ = some (.string (⟨#[]⟩ : ByteArray)) := (blk_cell BK356.out 1).trans rfl; have hcz25_2 : w23.cell? ⟨gb356, 2, none⟩ = some (.int .i64 0) := (blk_cell BK356.out 2).trans rfl; have hcz25_3 : w23.cell? ⟨gb356, 3, none⟩ = some (.int .i64 0) := (blk_cell BK356.out 3).trans rfl; have hfz25_0 := blk_frozen BK356.out 0; have hfz25_1 := blk_frozen BK356.out 1; have hfz25_2 := blk_frozen BK356.out 2; have hfz25_3 := blk_frozen BK356.out 3))
           go_roundg k2
           case measure => have := HJ2.out; have := HK2.out; omega
           case rel => exact ⟨(wrap64 (x7_2 + 1)), ((rd_T71 l0_0 x8_2).f2), (by first | rfl | (simp; done) | (simp [*]; done)), (by first | rfl | (simp; done) | (simp [*]; done)), H', ⟨by have := HJ2.out; have := HK2.out; omega⟩, ⟨by (with_reducible repeat (first | refine blk_drewN ?_ _ | refine blk_drew ?_ | refine blk_alloc ?_ _)); refine blk_far ?_ NB353_356.out _; (with_reducible repeat (first | refine blk_drewN ?_ _ | refine blk_drew ?_ | refine blk_alloc ?_ _)); refine blk_far ?_ NB353_356.out _; (with_reducible repeat (first | refine blk_drewN ?_ _ | refine blk_drew ?_ | refine blk_alloc ?_ _)); refine blk_far ?_ NB353_356.out _; (with_reducible repeat (first | refine blk_drewN ?_ _ | refine blk_drew ?_ | refine blk_alloc ?_ _)); refine blk_far ?_ NB353_356.out _; (with_reducible repeat (first | refine blk_drewN ?_ _ | refine blk_drew ?_ | refine blk_alloc ?_ _)); exact BK353.out⟩, ⟨by repeat (first | (with_reducible first | exact HB.out | apply below_alloc | apply pw_below_drewN | apply below_drew1 | refine below_set ?_ GE353.out | refine below_set ?_ GE356.out) | exact HB.out)⟩⟩
          ·
           rw [if_neg c21] at H
           have c21b0 : (Op.bytesLess a1.toList (((rd_T71 l0_0 x8_2).f0).toList)) = false := by simpa using c21
           clear c21
           have H' := aM H
           clear H
           have hcz26_0 : wr.cell? ⟨gb353, 0, none⟩ = some (.slice A0_0 l0_0.length c0_0) := (blk_cell BK353.out 0).trans rfl
           have hfz26_0 := blk_frozen BK353.out 0
           have p355 : 0 ≤ (x8_2 : Int) := of_decide_eq_true (by first | (with_reducible assumption) | assumption)
           have q355 : x8_2 < (l0_0.length : Int) := of_decide_eq_true (by first | (with_reducible assumption) | assumption)
           obtain ⟨ad355, e355, hx355_0, hx355_1, hx355_2, hx355_3⟩ := at_T71 HR0_0.out x8_2 p355 q355
           cases e355
           try have hz_hx355_0 := aM hx355_0
           try have hz_hx355_1 := aM hx355_1
           try have hz_hx355_2 := aM hx355_2
           try have hz_hx355_3 := aM hx355_3
           replace hx355_0 := (HB.out.cell (World.block_lt_of_cell? w _ hx355_0)).trans hx355_0
           replace hx355_1 := (HB.out.cell (World.block_lt_of_cell? w _ hx355_1)).trans hx355_1
           replace hx355_2 := (HB.out.cell (World.block_lt_of_cell? w _ hx355_2)).trans hx355_2
           replace hx355_3 := (HB.out.cell (World.block_lt_of_cell? w _ hx355_3)).trans hx355_3
           replace p355 := eq_true p355
           replace q355 := eq_true q355
           go_wp2_with (((with_reducible refine gate_dst (N := 9) rfl ?_); (try (refine gate_guard (by rfl) ?_; dsimp only)); refine box_event ?hg (N := 9) ?hd (cs := #[.string (⟨#[]⟩ : ByteArray), .string (⟨#[]⟩ : ByteArray), .int .i64 0, .int .i64 0]) (t := 71) ?hr ?_; (case hd => rfl); (case hg => rfl); (case hr => first | (go_simp; done) | (go_simp; rfl)); intro gb356 hg w27 hbox hb; have n0_ := aM (blk_below (g := gb353) (o := .cells #[.slice (some ad355) l0_0.length c0_0] 29 (0, 0)) (gK BK353.out) hb); have n1_ := aM (below_step (gB HB.out) hb); have n2_ := aM (hbox); have n3_ := aM ((by rw [hg]; exact (below_size (gB HB.out)) : w.heap.size ≤ gb356)); have n4_ := aM ((by rw [hg]; exact (below_size (gB HB.out)) : w.heap.size ≤ gb356)); have n5_ := aM ((by rw [hg]; exact Nat.ne_of_lt (blk_lt (g := gb353) (o := .cells #[.slice (some ad355) l0_0.length c0_0] 29 (0, 0)) (gK BK353.out)) : gb353 ≠ gb356)); have n6_ := aM ((by rw [hg]; exact Nat.ne_of_gt (blk_lt (g := gb353) (o := .cells #[.slice (some ad355) l0_0.length c0_0] 29 (0, 0)) (gK BK353.out)) : gb356 ≠ gb353)); clear BK353; clear HB; have BK353 := n0_; have HB := n1_; have BK356 := n2_; have GW356 := n3_; have GE356 := n4_; have NB353_356 := n5_; have NB356_353 := n6_; clear n0_ n1_ n2_ n3_ n4_ n5_ n6_; clear hb hbox hg; have hnb28 := NB356_353.out; have hnc28 := NB353_356.out; have hcz29_0 : w27.cell? ⟨gb356, 0, none⟩ = some (.string (⟨#[]⟩ : ByteArray)) := (blk_cell BK356.out 0).trans rfl; have hcz29_1 : w27.cell? ⟨gb356, 1, none⟩ = some (.string (⟨#[]⟩ : ByteArray)) := (blk_cell BK356.out 1).trans rfl; have hcz29_2 : w27.cell? ⟨gb356, 2, none⟩ = some (.int .i64 0) := (blk_cell BK356.out 2).trans rfl; have hcz29_3 : w27.cell? ⟨gb356, 3, none⟩ = some (.int .i64 0) := (blk_cell BK356.out 3).trans rfl; have hfz29_0 := blk_frozen BK356.out 0; have hfz29_1 := blk_frozen BK356.out 1; have hfz29_2 := blk_frozen BK356.out 2; have hfz29_3 := blk_frozen BK356.out 3))
           go_roundg k2
           case measure => have := HJ2.out; have := HK2.out; omega
           case rel => exact ⟨(wrap64 (x7_2 + 1)), ((rd_T71 l0_0 x8_2).f3), (by first | rfl | (simp; done) | (simp [*]; done)), (by first | rfl | (simp; done) | (simp [*]; done)), H', ⟨by have := HJ2.out; have := HK2.out; omega⟩, ⟨by (with_reducible repeat (first | refine blk_drewN ?_ _ | refine blk_drew ?_ | refine blk_alloc ?_ _)); refine blk_far ?_ NB353_356.out _; (with_reducible repeat (first | refine blk_drewN ?_ _ | refine blk_drew ?_ | refine blk_alloc ?_ _)); refine blk_far ?_ NB353_356.out _; (with_reducible repeat (first | refine blk_drewN ?_ _ | refine blk_drew ?_ | refine blk_alloc ?_ _)); refine blk_far ?_ NB353_356.out _; (with_reducible repeat (first | refine blk_drewN ?_ _ | refine blk_drew ?_ | refine blk_alloc ?_ _)); refine blk_far ?_ NB353_356.out _; (with_reducible repeat (first | refine blk_drewN ?_ _ | refine blk_drew ?_ | refine blk_alloc ?_ _)); exact BK353.out⟩, ⟨by repeat (first | (with_reducible first | exact HB.out | apply below_alloc | apply pw_below_drewN | apply below_drew1 | refine below_set ?_ GE353.out | refine below_set ?_ GE356.out) | exact HB.out)⟩⟩
        ·
         rw [if_neg c15] at H
         exact absurd H (by simp)
       ·
        rw [if_neg c14] at H
        exact absurd H (by simp)
      ·
       rw [if_neg c13] at H
       have c13b0 : decide (0 ≤ x8_2) = false := decide_eq_false c13
       clear c13
       simp only [Option.some.injEq, Prod.mk.injEq] at H
       obtain ⟨rfl, rfl, rfl⟩ := H
       go_wp2
       go_ret3
       exact ⟨by first | rfl | (simp [errW_none, errW_some] <;> rfl) | (simp [*, errW_none, errW_some] <;> rfl), by repeat (first | (with_reducible first | exact HB.out | apply below_alloc | apply pw_below_drewN | apply below_drew1 | refine below_set ?_ GE353.out) | exact HB.out)⟩


end Go.Proofs.Ytjknkeipginpcaa.PQ
end

section
namespace Go.Proofs.Ytjknkeipginpcaa.PQ
open Go.RowKit Go.Proofs.YtjknkeipginpcaaW.PrintWords Go.Proofs.YtjknkeipginpcaaW.PrintLast Go.Proofs.YtjknkeipginpcaaW.PrintMore
attribute [local go_sem] max2_int min2_int max_two min_two max_three min_three max_four min_four
set_option linter.unusedVariables false
set_option linter.unusedSimpArgs false

end Go.Proofs.Ytjknkeipginpcaa.PQ
end

section
namespace Go.Proofs.Ytjknkeipginpcaa.PQ
open Go.RowKit Go.Proofs.YtjknkeipginpcaaW.PrintWords Go.Proofs.YtjknkeipginpcaaW.PrintLast Go.Proofs.YtjknkeipginpcaaW.PrintMore
attribute [local go_sem] max2_int min2_int max_two min_two max_three min_three max_four min_four
set_option linter.unusedVariables false
set_option linter.unusedSimpArgs false
attribute [local go_sem] Go.Proofs.Ytjknkeipginpcaa.StrO.leq_s Go.Proofs.Ytjknkeipginpcaa.StrO.gtr_s Go.Proofs.Ytjknkeipginpcaa.StrO.geq_s

end Go.Proofs.Ytjknkeipginpcaa.PQ
end

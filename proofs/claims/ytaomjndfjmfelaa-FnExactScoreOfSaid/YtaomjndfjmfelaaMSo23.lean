/- Several texts in one: what the claim's last text rests on. No conditions. -/
import Derived.Test.YtaomjndfjmfelaaMSo22
import Derived.Test.YtaomjndfjmfelaaMSo21
import Derived.Test.YtaomjndfjmfelaaMSo4
import Derived.Test.YtaomjndfjmfelaaMSo6
import Derived.Test.YtaomjndfjmfelaaMSo7
import Derived.Test.YtaomjndfjmfelaaMSo12
import Derived.Test.YtaomjndfjmfelaaMSo18
import Derived.Test.YtaomjndfjmfelaaMSo14
section
namespace Go.Proofs.Ytaomjndfjmfelaa.Rks
set_option linter.unusedVariables false
set_option linter.unusedSimpArgs false
open Go.RowKit Go.Shelf Go.Lib Go.Sort Go.Proofs.Ytaomjndfjmfelaa.PQ Go.Proofs.YtaomjndfjmfelaaW.PrintWords Go.Proofs.YtaomjndfjmfelaaW.PrintLast Go.Proofs.YtaomjndfjmfelaaW.PrintMore Go.Proofs.Ytaomjndfjmfelaa.Pre Go.Proofs.Ytaomjndfjmfelaa.EntW Go.Proofs.Ytaomjndfjmfelaa.Posts Go.Proofs.Ytaomjndfjmfelaa.GoodW Go.Proofs.Ytaomjndfjmfelaa.PostW Go.Proofs.Ytaomjndfjmfelaa.Ask Go.Proofs.Ytaomjndfjmfelaa.SoB
/-- A posting's score, a word's ranking, the words' rankings. -/
def scR (x : Int) (n : Nat) (p : Po) : Sc := ⟨p.f0, wrap64 (p.f1 * wrap64 (wrap64 (x - (n : Int)) + 1))⟩
def rk1 (x : Int) (ps : List Po) : Rk := ⟨(ps.map (scR x ps.length)).mergeSort le⟩
def rks (x : Int) (l : List En) (ws : List ByteArray) : List Rk := ws.map (fun t => rk1 x (posts l t))
theorem H_cell {α : Type} {d : Kd α} {e g n cap i : Nat} {w : World} {base : Nat} {ok oki : Nat → Prop} {xs : List α} {u : Value} (h : Kd.H d e w base ok (.slice (some ⟨g, 0, none⟩) n cap) xs (i : Int) oki [u]) (hi : i < n ∧ d.sz = 1) : w.cell? ⟨g, i, none⟩ = some u ∧ w.frozen? ⟨g, i, none⟩ = false := by
 obtain ⟨rows, hl, hraw, hcl, _, hcc, _⟩ := Kd.H_raw h (by omega) (by omega)
 have h1 := hcc 0 u rfl
 rw [Int.toNat_natCast, hi.2, Nat.mul_one, Nat.add_zero] at h1
 obtain ⟨_, _, _, _, hfr⟩ := Kd.R_elem hraw [] (i : Int) (by omega) (by omega)
 have h2 := hfr 0
 rw [Int.toNat_natCast] at h2
 have e : i * (Kd.raw d.sz).sz + 0 = i := by
  show i * d.sz + 0 = i
  rw [hi.2]
  omega
 rw [e] at h2
 exact ⟨h1, h2⟩
theorem H_put {α : Type} {d : Kd α} {e g n cap i : Nat} {w : World} {base : Nat} {ok oki : Nat → Prop} {xs : List α} {u : Value} (h : Kd.H d e w base ok (.slice (some ⟨g, 0, none⟩) n cap) xs (i : Int) oki [u]) (hi : i < n ∧ d.sz = 1) (v : Value) (hv : v.oneCell' = true) :
  Kd.H d e (w.setCell ⟨g, i, none⟩ v) base ok (.slice (some ⟨g, 0, none⟩) n cap) xs (i : Int) oki [v] ∧ w.grownBy (w.setCell ⟨g, i, none⟩ v) (some g) := by
 have h1 := Kd.H_seg (seg := [v]) (j := 0) h (by omega) (by omega) (by rw [hi.2]; exact Nat.le_refl _) (fun q hq => by rw [List.mem_singleton.1 hq]; exact hv)
 rw [Int.toNat_natCast, hi.2, Nat.mul_one, Nat.add_zero] at h1
 exact h1
theorem H_ne {α : Type} {d : Kd α} {e g n cap : Nat} {i : Int} {w : World} {base : Nat} {ok oki : Nat → Prop} {xs : List α} {c : List Value} (h : Kd.H d e w base ok (.slice (some ⟨g, 0, none⟩) n cap) xs i oki c) : ∀ k, oki k → k ≠ g := by
 intro k hk he
 subst he
 obtain ⟨_, f, hR⟩ := h
 exact (hR.1 k (by simp [Value.ownBlock])).2 hk
theorem H_lt {α : Type} {d : Kd α} {e g n cap : Nat} {i : Int} {w : World} {base : Nat} {ok oki : Nat → Prop} {xs : List α} {c : List Value} (h : Kd.H d e w base ok (.slice (some ⟨g, 0, none⟩) n cap) xs i oki c) : base ≤ g ∧ g < w.heap.size := by
 obtain ⟨_, f, hR⟩ := h
 obtain ⟨inner, ho⟩ := Kd.R_own hR
 exact ⟨own_base ho g (by simp [Value.ownBlock]), own_lt ho g (by simp [Value.ownBlock])⟩
theorem set_next {α : Type} (a : List α) (m : Nat) (z y : α) : (a ++ List.replicate (m + 1) z).set a.length y = (a ++ [y]) ++ List.replicate m z := by
 rw [List.set_append_right _ _ (Nat.le_refl _), Nat.sub_self, List.replicate_succ, List.set_cons_zero, List.append_assoc]
 rfl
theorem rks_step (x : Int) (l : List En) (ws : List ByteArray) (i : Nat) (h : i < ws.length) : rks x l (ws.take (i + 1)) = rks x l (ws.take i) ++ [rk1 x (posts l ws[i])] := by
 unfold rks
 rw [take_last ws i h, List.map_append]
 rfl
theorem rks_len (x : Int) (l : List En) (ws : List ByteArray) : (rks x l ws).length = ws.length := by
 unfold rks
 rw [List.length_map]
theorem get_mid {α : Type} (a : List α) (m : Nat) (z d : α) : (a ++ List.replicate (m + 1) z).getD a.length d = z := by
 rw [List.getD_eq_getElem?_getD, List.getElem?_append_right (Nat.le_refl _), Nat.sub_self]
 rfl
theorem map_step (x : Int) (ps : List Po) (j : Nat) (h : j < ps.length) : (ps.take (j + 1)).map (scR x ps.length) = (ps.take j).map (scR x ps.length) ++ [scR x ps.length ps[j]] := by
 rw [take_last ps j h, List.map_append]
 rfl
set_option maxRecDepth 100000 in
set_option maxHeartbeats 8000000 in
theorem rankings_calls (x : Int) (A : Option Addr) (c : Nat) (l : List En) (B : Option Addr) (d : Nat) (ws : List ByteArray) (w : World) (hr : Kd.C k102 w A l.length l) (hc : l.length ≤ c) (hl : Small l) (hs : Rise l) (hne : ∀ e ∈ l, 0 < e.f1.length) (hsw : Kd.C Kd.string w B ws.length ws) (hd : ws.length ≤ d) (hws : ws.length ≤ 1048576) :
  Calls Try.prog 117 #[.agg #[.int .i64 x, .slice A l.length c], .slice B ws.length d] w fun e w' => ∃ v : Value, e = .returned v ∧ Kd.S k77 77 w' w.heap.size (fun _ => True) v (rks x l ws) ∧ Below w.heap.size w w' := by
 obtain ⟨W0, hW0⟩ : ∃ W_, W_ = w.alloc (.cells #[.int .i64 x, .slice A l.length c] 33) := ⟨_, rfl⟩
 have HBW : Aside0 (Below w.heap.size w W0) := ⟨by rw [hW0]; exact below_alloc (Below.refl _ _) _⟩
 have HSZ : Aside0 (w.heap.size ≤ W0.heap.size) := ⟨by rw [hW0]; simp⟩
 have HBX : Aside0 (∀ w', Below W0.heap.size W0 w' → w'.cell? ⟨w.heap.size, 0, none⟩ = some (.int .i64 x) ∧ w'.cell? ⟨w.heap.size, 1, none⟩ = some (.slice A l.length c)) := ⟨fun w' hb => by subst hW0; exact ⟨(hb.cell (by simp)).trans (by simp), (hb.cell (by simp)).trans (by simp)⟩⟩
 have HBL : Aside0 (w.heap.size < W0.heap.size) := ⟨by rw [hW0]; simp⟩
 have HR := aM (Kd.C_below hr (HBW.out))
 have HC := aM hc
 have HL := aM hl
 have HS := aM hs
 have HNE := aM hne
 have HSW := aM (Kd.C_below hsw HBW.out)
 have HWS0 := aM hws
 obtain ⟨n, hn⟩ : ∃ n, n = ws.length := ⟨_, rfl⟩
 have HN := aM hn
 have hn1 : (n : Int) ≤ 1048576 := by omega
 rw [← hn]
 clear hr hc hl hs hne hsw hd hws hn
 go_enter Try.func117, Try.ntmps117
 go_upto_region 2 with (first | ((with_reducible refine gate_dst (N := 13) rfl ?_); go_loud (rw [← hW0]; refine Kd.S_make k77 _ 77 rfl (N := 13) rfl 64 _ _ rfl (n : Int) rfl rfl Try.underlying64 (.agg #[(.slice none 0 0)]) 24 info77 rfl (by decide) (by omega) z77 (ok := fun _ => True) (okp := fun _ => True) (k77_mkM _ _ _ z77 (Kd.R_nil _ _ _ _ _)) (fun _ hk => hk) trivial (by omega) (by omega) (Below.refl _ _) (Nat.le_refl _) ?_; intro vo w1 ho hb hg_ hnew_; clear hg_ hnew_; rw [Int.toNat_natCast] at ho; have HO := aM ho; have HB := aM hb; clear ho hb)))
 go_wp2
 go_loopg [16] n (fun kq v16 w' => ∃ (i : Nat) (xs : List Rk), v16 = .int .i64 (i : Int) ∧ i ≤ n ∧ kq = n - i ∧ Aside0 (xs = rks x l (ws.take i) ++ List.replicate (n - i) z77) ∧ Aside0 (Kd.S k77 77 w' W0.heap.size (fun _ => True) vo xs) ∧ Aside0 (Below W0.heap.size W0 w'))
 case atStart => exact ⟨0, _, rfl, Nat.zero_le _, rfl, ⟨rfl⟩, HO, HB⟩
 case round =>
  clear HO HB hW0
  obtain ⟨i, xs, rfl, hi, hkq, HX, HO, HB⟩ := hrel
  have HKQ := aM hkq
  clear hkq
  by_cases hlt : i < n
  ·
   have HIN : Aside0 (i < n ∧ Kd.sz k77 = 1) := ⟨⟨hlt, rfl⟩⟩
   have hxl : xs.length = n := by rw [HX.out, List.length_append, rks_len, List.length_take, List.length_replicate, ← HN.out]; omega
   obtain ⟨g, cap, hvo, hgb, hgl, _⟩ := Kd.S_form HO.out (by omega)
   rw [hxl] at hvo
   subst hvo
   have HWi : Aside0 (i < ws.length) := ⟨by rw [← HN.out]; exact hlt⟩
   obtain ⟨adw, eB, hcw⟩ := str_at HSW.out i HWi.out
   replace hcw := (HB.out.cell (World.block_lt_of_cell? W0 _ hcw)).trans hcw
   subst eB
   obtain ⟨wd, hwd⟩ : ∃ t, t = ws[i]'HWi.out := ⟨_, rfl⟩
   rw [← hwd] at hcw
   have HWD := aM hwd
   obtain ⟨oki, ce, hcl, hM, hcc, hok, hH⟩ := Kd.S_lend HO.out z77 (i : Int) (by omega) (by omega)
   have hel : xs.getD (i : Int).toNat z77 = z77 := by
    have hlr : (rks x l (ws.take i)).length = i := by rw [rks_len, List.length_take]; have := HWi.out; omega
    rw [Int.toNat_natCast, HX.out, show n - i = (n - (i + 1)) + 1 by omega]
    conv => lhs; arg 2; rw [← hlr]
    exact get_mid _ _ _ _
   rw [hel] at hM
   obtain ⟨v0, hv0, hV0⟩ := k77_openM hM
   subst hv0
   obtain ⟨OKI, hOKI⟩ : ∃ OKI : Nat → Prop, OKI = (fun k => oki k ∨ True ∧ wr.heap.size ≤ k) := ⟨_, rfl⟩
   have HH0 := aM (Kd.H_widen hH)
   have HV0 := aM (Kd.R_mono hV0 (ok' := OKI) (fun k hk => by rw [hOKI]; exact .inl hk))
   rw [← hOKI] at HH0
   have HOKI : Aside0 (∀ k, wr.heap.size ≤ k → OKI k) := ⟨fun k hk => by rw [hOKI]; exact .inr ⟨trivial, hk⟩⟩
   have HWB : Aside0 (W0.heap.size ≤ wr.heap.size) := ⟨HB.out.size⟩
   have hPC := aM (fun W (hW : W = wr) => postings_at W0 A c l wd W w.heap.size (fun w' hb => (HBX.out w' (below_step HB.out (by rw [← hW]; exact hb))).2) (by rw [hW]; exact HB.out) HR.out HC.out HL.out.1 HS.out HNE.out)
   have hi2 : (i : Int) < (n : Int) := by omega
   have HPS := aM (small_posts HL.out wd)
   obtain ⟨ps, hps⟩ : ∃ ps, ps = posts l wd := ⟨_, rfl⟩
   rw [← hps] at HPS hPC
   have HPE := aM hps
   obtain ⟨B0, hB0⟩ : ∃ B0, B0 = wr.heap.size := ⟨_, rfl⟩
   rw [← hB0] at HOKI HWB
   have HBZ : Aside0 (B0 ≤ wr.heap.size) := ⟨by rw [hB0]; exact Nat.le_refl _⟩
   clear hxl hwd hcl hM hcc hok hH hel hV0 hOKI hlt hi hps hgb hgl hB0
   go_wp2_with (go_at_call 93; go_loud ((refine (hPC.out _ rfl).mono ?_); rintro e w2 ⟨Ap, cp, rfl, hcp, hCp, _, hb2⟩; have HCP := aM hCp; have HB2 := aM (below_step HB.out hb2); have HH2 := aM (Kd.H_below HH0.out hb2); have HV2 := aM (Kd.R_below HV0.out hb2); have HBZ2 := aM (Nat.le_trans HBZ.out hb2.size); clear hcp hCp hb2))
   go_loopg [25] ps.length (fun kq v25 w' => ∃ (j : Nat) (v : Value) (lst : List Sc), v25 = .int .i64 (j : Int) ∧ j ≤ ps.length ∧ kq = ps.length - j ∧ Aside0 (lst = (ps.take j).map (scR x ps.length)) ∧ Aside0 (Kd.R k79 79 w' W0.heap.size OKI v lst) ∧ Aside0 (Kd.H k77 77 w' W0.heap.size (fun _ => True) (.slice (some ⟨g, 0, none⟩) n cap) xs (i : Int) OKI [v]) ∧ Aside0 (Below W0.heap.size W0 w') ∧ Aside0 (B0 ≤ w'.heap.size))
   case atStart => exact ⟨0, v0, [], rfl, Nat.zero_le _, rfl, ⟨rfl⟩, HV2, HH2, HB2, HBZ2⟩
   case round =>
    clear HH0 HV0 HH2 HV2 HB2 HBZ2 hcw HB HO hPC HBZ
    obtain ⟨j, v, lst, rfl, hj, hkq2, HLE, HV, HHH, HB, HWS⟩ := hrel
    have HKQ2 := aM hkq2
    clear hkq2
    by_cases hjt : j < ps.length
    ·
     have HJT := aM hjt
     obtain ⟨adp, eAp, hp0, hp1⟩ := at_T56 (Kd.C_below HCP.out HB.out) (j : Int) (by omega) (by omega)
     subst eAp
     have hrd : rd_T56 ps (j : Int) = ps[j]'HJT.out := rd_get ps j hjt
     rw [Int.toNat_natCast, hrd] at hp0 hp1
     have HST := aM (map_step x ps j HJT.out)
     obtain ⟨p, hp⟩ : ∃ p, p = ps[j]'HJT.out := ⟨_, rfl⟩
     rw [← hp] at hp0 hp1 HST
     obtain ⟨Av, cv, e1⟩ := Kd.R_slice HV.out
     subst e1
     have HLL : Aside0 (lst.length ≤ 1048576) := ⟨by rw [HLE.out, List.length_map, List.length_take]; have := HPS.out; omega⟩
     have hj2 : (j : Int) < (ps.length : Int) := by omega
     have hpsl : (ps.length : Int) ≤ 1048576 := by have := HPS.out; omega
     clear hrd hp hjt hj
     go_upto_region 9 with (fail)
     clear hp0 hp1
     obtain ⟨wb, hwb⟩ : ∃ W_, W_ = wr.alloc (.cells #[.int .i64 p.f0, .int .i64 p.f1] 56) := ⟨_, rfl⟩
     rw [← hwb]
     have hbb : Below wr.heap.size wr wb := by rw [hwb]; exact below_alloc (Below.refl _ _) _
     have HWX : Aside0 (wb.heap[wr.heap.size]? = some (.cells #[.int .i64 p.f0, .int .i64 p.f1] 56 (0, 0))) := ⟨by rw [hwb]; exact Meet.at_new wr _⟩
     replace HV := aM (Kd.R_below HV.out hbb)
     replace HHH := aM (Kd.H_below HHH.out hbb)
     replace HB := aM (below_step HB.out hbb)
     replace HWS := aM (Nat.le_trans HWS.out hbb.size)
     have HH : Aside0 (∀ w', Below wb.heap.size wb w' → w'.cell? ⟨g, i, none⟩ = some (.slice Av lst.length cv) ∧ w'.cell? ⟨wr.heap.size, 0, none⟩ = some (.int .i64 p.f0) ∧ w'.cell? ⟨wr.heap.size, 1, none⟩ = some (.int .i64 p.f1) ∧ w'.cell? ⟨w.heap.size, 0, none⟩ = some (.int .i64 x)) := ⟨fun w' hb => ⟨(H_cell (Kd.H_below HHH.out hb) HIN.out).1, (hb.cell (Meet.lt_some HWX.out)).trans (Meet.cell0 HWX.out), (hb.cell (Meet.lt_some HWX.out)).trans (Meet.cell1 HWX.out), (HBX.out w' (below_step HB.out hb)).1⟩⟩
     clear hwb hbb
     refine start_ (n := 24) (S := fun w' => w'.cell? ⟨g, i, none⟩ = some (.slice Av lst.length cv) ∧ w'.cell? ⟨wr.heap.size, 0, none⟩ = some (.int .i64 p.f0) ∧ w'.cell? ⟨wr.heap.size, 1, none⟩ = some (.int .i64 p.f1) ∧ w'.cell? ⟨w.heap.size, 0, none⟩ = some (.int .i64 x)) (ds := [20, 23]) (bq 24 0) (by kernel_rfl) rfl (by kernel_rfl) ⟨(HH.out wb.drew (Below.refl wb.heap.size wb).drew).1, (HH.out wb.drew (Below.refl wb.heap.size wb).drew).2.1, (HH.out wb.drew (Below.refl wb.heap.size wb).drew).2.2.1, (HH.out wb.drew (Below.refl wb.heap.size wb).drew).2.2.2⟩ (fun hHeld => ?_)
     refine pure_ (i := 0) (N := some 29) (v := ?_) (a' := ?_) (bq 24 1) rfl rfl (by kernel_rfl) (fun _ _ _ h => h) (Or.inl ⟨by rfl, ?_⟩) ?_ ?_; rotate_left; (intro w'; go_simp; (with_reducible rfl)); rotate_left; (simp only [Act.put, zSA, zSB, zSC, i64_w, i32_w]; rfl)
     refine pure_ (i := 1) (N := some 30) (v := ?_) (a' := ?_) (bq 24 3) rfl rfl (by kernel_rfl) (fun _ _ _ h => h) (Or.inl ⟨by rfl, ?_⟩) ?_ ?_; rotate_left; (intro w'; go_simp; (with_reducible rfl)); rotate_left; (simp only [Act.put, zSA, zSB, zSC, i64_w, i32_w]; rfl)
     refine pure_ (i := 2) (N := some 31) (v := ?_) (a' := ?_) (bq 24 7) rfl rfl (by kernel_rfl) (fun _ _ _ h => h) (Or.inl ⟨by rfl, ?_⟩) ?_ ?_; rotate_left; (intro w'; go_simp; (with_reducible rfl)); rotate_left; (simp only [Act.put, zSA, zSB, zSC, i64_w, i32_w]; rfl)
     refine pure_ (i := 3) (N := some 32) (v := ?_) (a' := ?_) (bq 24 15) rfl rfl (by kernel_rfl) (fun _ _ _ h => h) (Or.inl ⟨by rfl, ?_⟩) ?_ ?_; rotate_left; (intro w'; go_simp; (with_reducible rfl)); rotate_left; (simp only [Act.put, zSA, zSB, zSC, i64_w, i32_w]; rfl)
     refine pure_ (i := 4) (N := some 33) (v := ?_) (a' := ?_) (bq 24 31) rfl rfl (by kernel_rfl) (fun _ _ _ h => h) (Or.inl ⟨by rfl, ?_⟩) ?_ ?_; rotate_left; (intro w'; go_simp; (with_reducible rfl)); rotate_left; (simp only [Act.put, zSA, zSB, zSC, i64_w, i32_w]; rfl)
     refine pure_ (i := 5) (N := some 34) (v := ?_) (a' := ?_) (bq 24 63) rfl rfl (by kernel_rfl) (fun _ _ _ h => h) (Or.inl ⟨by rfl, ?_⟩) ?_ ?_; rotate_left; (intro w'; go_simp; (with_reducible rfl)); rotate_left; (simp only [Act.put, zSA, zSB, zSC, i64_w, i32_w]; rfl)
     refine pure_ (i := 7) (N := some 36) (v := ?_) (a' := ?_) (bq 24 191) rfl rfl (by kernel_rfl) (fun _ _ _ h => h) (Or.inl ⟨by rfl, ?_⟩) ?_ ?_; rotate_left; (intro w'; go_simp; (with_reducible rfl)); rotate_left; (simp only [Act.put, zSA, zSB, zSC, i64_w, i32_w]; rfl)
     refine pure_ (i := 9) (N := some 38) (v := ?_) (a' := ?_) (bq 24 703) rfl rfl (by kernel_rfl) (fun _ _ _ h => h) (Or.inl ⟨by rfl, ?_⟩) ?_ ?_; rotate_left; (intro w'; go_simp; (with_reducible rfl)); rotate_left; (simp only [Act.put, zSA, zSB, zSC, i64_w, i32_w]; rfl)
     refine pure_ (i := 11) (N := some 40) (v := ?_) (a' := ?_) (bq 24 2751) rfl rfl (by kernel_rfl) (fun _ _ _ h => h) (Or.inl ⟨by rfl, ?_⟩) ?_ ?_; rotate_left; (intro w'; go_simp; (with_reducible rfl)); rotate_left; (simp only [Act.put, zSA, zSB, zSC, i64_w, i32_w]; rfl)
     refine pure_ (i := 13) (N := some 42) (v := ?_) (a' := ?_) (bq 24 10943) rfl rfl (by kernel_rfl) (fun _ _ _ h => h) (Or.inl ⟨by rfl, ?_⟩) ?_ ?_; rotate_left; (intro w'; go_simp; (with_reducible rfl)); rotate_left; (simp only [Act.put, zSA, zSB, zSC, i64_w, i32_w]; rfl)
     refine pure_ (i := 14) (N := some 43) (v := ?_) (a' := ?_) (bq 24 27327) rfl rfl (by kernel_rfl) (fun _ _ _ h => h) (Or.inl ⟨by rfl, ?_⟩) ?_ ?_; rotate_left; (intro w'; go_simp; (with_reducible rfl)); rotate_left; (simp only [Act.put, zSA, zSB, zSC, i64_w, i32_w]; rfl)
     refine take_ (i := 6) (N := some 35) (v := ?_) (a' := ?_) (bq 24 27391) rfl rfl (by kernel_rfl) (fun _ _ _ h => h) (Or.inl ⟨by rfl, ?_⟩) hHeld ?_ ?_; rotate_left; (rintro w' ⟨s0, s1, s2, s3⟩; go_simp; (with_reducible rfl)); rotate_left; (simp only [Act.put, zSA, zSB, zSC, i64_w, i32_w]; rfl)
     refine take_ (i := 8) (N := some 37) (v := ?_) (a' := ?_) (bq 24 27647) rfl rfl (by kernel_rfl) (fun _ _ _ h => h) (Or.inl ⟨by rfl, ?_⟩) hHeld ?_ ?_; rotate_left; (rintro w' ⟨s0, s1, s2, s3⟩; go_simp; (with_reducible rfl)); rotate_left; (simp only [Act.put, zSA, zSB, zSC, i64_w, i32_w]; rfl)
     refine take_ (i := 10) (N := some 39) (v := ?_) (a' := ?_) (bq 24 28671) rfl rfl (by kernel_rfl) (fun _ _ _ h => h) (Or.inl ⟨by rfl, ?_⟩) hHeld ?_ ?_; rotate_left; (rintro w' ⟨s0, s1, s2, s3⟩; go_simp; (with_reducible rfl)); rotate_left; (simp only [Act.put, zSA, zSB, zSC, i64_w, i32_w]; rfl)
     refine take_ (i := 12) (N := some 41) (v := ?_) (a' := ?_) (bq 24 32767) rfl rfl (by kernel_rfl) (fun _ _ _ h => h) (Or.inl ⟨by rfl, ?_⟩) hHeld ?_ ?_; rotate_left; (rintro w' ⟨s0, s1, s2, s3⟩; go_simp; (with_reducible rfl)); rotate_left; (simp only [Act.put, zSA, zSB, zSC, i64_w, i32_w]; rfl)
     refine pure_ (i := 15) (N := some 44) (v := ?_) (a' := ?_) (bq 24 65535) rfl rfl (by kernel_rfl) (fun _ _ _ h => h) (Or.inl ⟨by rfl, ?_⟩) ?_ ?_; rotate_left; (intro w'; go_simp; (with_reducible rfl)); rotate_left; (simp only [Act.put, zSA, zSB, zSC, i64_w, i32_w]; rfl)
     refine pure_ (i := 16) (N := some 45) (v := ?_) (a' := ?_) (bq 24 131071) rfl rfl (by kernel_rfl) (fun _ _ _ h => h) (Or.inl ⟨by rfl, ?_⟩) ?_ ?_; rotate_left; (intro w'; go_simp; (with_reducible rfl)); rotate_left; (simp only [Act.put, zSA, zSB, zSC, i64_w, i32_w]; rfl)
     refine pure_ (i := 17) (N := some 46) (v := ?_) (a' := ?_) (bq 24 262143) rfl rfl (by kernel_rfl) (fun _ _ _ h => h) (Or.inl ⟨by rfl, ?_⟩) ?_ ?_; rotate_left; (intro w'; go_simp; (with_reducible rfl)); rotate_left; (simp only [Act.put, zSA, zSB, zSC, i64_w, i32_w]; rfl)
     refine pure_ (i := 18) (N := some 47) (v := ?_) (a' := ?_) (bq 24 524287) rfl rfl (by kernel_rfl) (fun _ _ _ h => h) (Or.inl ⟨by rfl, ?_⟩) ?_ ?_; rotate_left; (intro w'; go_simp; (with_reducible rfl)); rotate_left; (simp only [Act.put, zSA, zSB, zSC, i64_w, i32_w]; rfl)
     refine one_ (i := 19) (N := some 48) (bq 24 1048575) rfl rfl (by kernel_rfl) (by decide) (fun K hK => ?_)
     refine value_ (w1 := ?_) (v := ?_) (by rfl) rfl ?_ ?_
     rotate_left 2
     ·
      go_simp
      constructor
      ·
       rfl
      ·
       rfl
     refine hK.out _ _ ⟨(HH.out _ (below_alloc (Below.refl wb.heap.size wb).drew _)).1, (HH.out _ (below_alloc (Below.refl wb.heap.size wb).drew _)).2.1, (HH.out _ (below_alloc (Below.refl wb.heap.size wb).drew _)).2.2.1, (HH.out _ (below_alloc (Below.refl wb.heap.size wb).drew _)).2.2.2⟩ (fun hHeld => ?_)
     clear hK K
     refine norm_ (a' := ?_) ?_ ?_
     rotate_left
     ·
      show Act.put _ (some 48) _ = _
      simp only [Act.put, zSA, zSB, zSC, i64_w, i32_w]
      rfl
     refine last_ (i := 20) (N := some 49) #[true, true, true, true, true, true, true, true, true, true, true, true, true, true, true, true, true, true, true, true, true, false, false, false] rfl rfl (by kernel_rfl) (by decide) (fun K hK => ?_)
     refine Kd.R_append_step k79 (w0 := W0) (W := wb.drew) W0.heap.size (by rfl) (.tmp 35) (.tmp 48) 61 79 _ 16 rfl Try.underlying61 info79 rfl (by decide) (by decide) (.slice Av lst.length cv) lst (scR x ps.length p) _ OKI (fun _ => False) rfl rfl (k79_mkM _ _ _ _) (fun _ h => h.elim) (fun k hk => HOKI.out k (Nat.le_trans HWS.out (show wb.heap.size ≤ k from hk))) (Kd.R_drew HV.out) HB.out.drew (below_size HB.out.drew) (by have := HLL.out; omega) ?_
     intro v1 w4 ho1 hb1 hg1 hat1
     obtain ⟨A4, c4, e4⟩ := Kd.R_slice ho1
     subst e4
     rw [show (lst ++ [scR x ps.length p]).length = lst.length + 1 by simp] at ho1
     have HO1 := aM ho1
     have HB1 := aM hb1
     have HH4 := aM (Kd.H_grown (Kd.H_drew HHH.out) hg1 (fun k hk => HV.out.1 k hk))
     have HWS4 := aM (Nat.le_trans HWS.out hg1.size)
     obtain ⟨hcl4, hfr4⟩ := H_cell HH4.out HIN.out
     clear hat1 hg1 ho1 hb1
     refine hK.out _ _ ?_
     clear hK K
     refine norm_ (a' := ?_) ?_ ?_
     rotate_left
     ·
      show Act.put _ (some 49) _ = _
      simp only [Act.put, zSA, zSB, zSC, i64_w, i32_w]
      rfl
     refine pure_ (i := 21) (N := some 50) (v := ?_) (a' := ?_) (bq 24 4194303) rfl rfl (by kernel_rfl) (fun _ _ _ h => h) (Or.inl ⟨by rfl, ?_⟩) ?_ ?_; rotate_left; (intro w'; go_simp; (with_reducible rfl)); rotate_left; (simp only [Act.put, zSA, zSB, zSC, i64_w, i32_w]; rfl)
     refine pure_ (i := 22) (N := some 51) (v := ?_) (a' := ?_) (bq 24 8388607) rfl rfl (by kernel_rfl) (fun _ _ _ h => h) (Or.inl ⟨by rfl, ?_⟩) ?_ ?_; rotate_left; (intro w'; go_simp; (with_reducible rfl)); rotate_left; (simp only [Act.put, zSA, zSB, zSC, i64_w, i32_w]; rfl)
     refine last_ (i := 23) (N := none) #[true, true, true, true, true, true, true, true, true, true, true, true, true, true, true, true, true, true, true, true, true, true, true, true] rfl rfl (by kernel_rfl) (by decide) (fun K hK => ?_)
     refine skip_ (w1 := ?_) (by rfl) rfl ?_ ?_
     rotate_left
     ·
      go_simp
      rfl
     refine hK.out _ _ ?_
     clear hK K
     refine done_ (by kernel_rfl) ?_
     obtain ⟨hh5, hg5⟩ := H_put HH4.out HIN.out (.slice A4 (lst.length + 1) c4) rfl
     have HH5 := aM hh5
     have HV5 := aM (Kd.R_far (p := ⟨g, i, none⟩) HO1.out (H_ne HH4.out) (.slice A4 (lst.length + 1) c4))
     have HB5 := aM (show Below W0.heap.size W0 (w4.setCell ⟨g, i, none⟩ (.slice A4 (lst.length + 1) c4)) from below_set HB1.out (H_lt HH4.out).1)
     clear hh5 hg5
     go_wp2
     go_roundg (ps.length - (j + 1))
     case measure => have := HKQ2.out; have := HJT.out; omega
     case rel => exact ⟨j + 1, _, _, by go_num, HJT.out, rfl, ⟨by rw [HST.out, HLE.out]⟩, HV5, HH5, HB5, ⟨by have := HWS4.out; simpa [World.setCell] using this⟩⟩
    ·
     obtain rfl : j = ps.length := by omega
     have hlst : lst = ps.map (scR x ps.length) := by rw [HLE.out, List.take_length]
     have HLS := aM hlst
     obtain ⟨Av, cv, e1⟩ := Kd.R_slice HV.out
     subst e1
     obtain ⟨hcg, hfg⟩ := H_cell HHH.out HIN.out
     have hSC := aM (fun W (hW : W = wr) => sort_calls lst Av lst.length cv W0 W W0.heap.size OKI (by rw [hW]; exact HV.out) (by rw [hlst, List.length_map]; exact HPS.out) (by rw [hW]; exact HB.out) (Nat.le_refl _))
     clear hj hjt hlst
     go_wp2_with (go_at_call 143; go_loud ((refine (hSC.out _ rfl).mono ?_); rintro e w6 ⟨rfl, ho6, hb6, hk6⟩; have HV6 := aM ho6; have HB6 := aM hb6; have HK6 := aM hk6; clear ho6 hb6 hk6))
     have HH6 := aM (Kd.H_step HHH.out (fun k _ hn hlt => HK6.out.2 k hlt (fun he => hn (HV.out.1 k he.symm))))
     have HS6 := aM (Kd.H_back HH6.out (x' := rk1 x ps) (okp := OKI) (k77_mkM _ _ _ (rk1 x ps) (by show Kd.R k79 79 w6 W0.heap.size OKI (.slice Av lst.length cv) ((ps.map (scR x ps.length)).mergeSort le); rw [← HLS.out]; exact HV6.out)) (fun _ hk => hk))
     go_roundg (n - (i + 1))
     case measure => have := HKQ.out; have := HIN.out.1; omega
     case rel =>
      refine ⟨i + 1, _, by go_num, HIN.out.1, rfl, ⟨?_⟩, HS6, HB6⟩
      have hlr : (rks x l (ws.take i)).length = i := by rw [rks_len, List.length_take]; have := HWi.out; omega
      have h1 := HIN.out.1
      rw [Int.toNat_natCast, HX.out, show n - i = (n - (i + 1)) + 1 by omega, rks_step x l ws i HWi.out, ← HWD.out, ← HPE.out]
      conv => lhs; arg 2; rw [← hlr]
      exact set_next _ _ _ _
  ·
   obtain rfl : i = n := by omega
   have HXE : Aside0 (xs = rks x l ws) := ⟨by rw [HX.out, Nat.sub_self, List.replicate_zero, List.append_nil, HN.out, List.take_length]⟩
   clear hi hlt
   go_wp2
   go_ret
   rw [← HXE.out]
   exact ⟨_, rfl, Kd.S_lower HO.out HSZ.out, below_then HBW.out HSZ.out HB.out⟩
end Go.Proofs.Ytaomjndfjmfelaa.Rks
end

section
namespace Go.Proofs.Ytaomjndfjmfelaa.PQ
open Go.RowKit Go.Proofs.YtaomjndfjmfelaaW.PrintWords Go.Proofs.YtaomjndfjmfelaaW.PrintLast Go.Proofs.YtaomjndfjmfelaaW.PrintMore
attribute [local go_sem] max2_int min2_int max_two min_two max_three min_three max_four min_four
set_option linter.unusedVariables false
set_option linter.unusedSimpArgs false
def impl_rankings.f (a0_0 : Int) (l0_1 : List (S102)) (l1 : List ByteArray) : Option (List (S77)) := if ((l0_1.length ≤ 1048576 ∧ ∀ e ∈ l0_1, e.f0.size ≤ 1048576 ∧ e.f1.length ≤ 1048576) ∧ l1.length ≤ 1048576) ∧ GoodW.goodW a0_0 l0_1 = true then some (Rks.rks a0_0 l0_1 l1) else none
theorem impl_rankings.calls (a0_0 : Int) (A0_1 : Option Addr) (c0_1 : Nat) (l0_1 : List (S102)) (A1 : Option Addr) (c1 : Nat) (l1 : List ByteArray) (r : List (S77)) (w : World) (hr0_1 : Kd.C k102 w A0_1 l0_1.length l0_1) (hc0_1 : l0_1.length ≤ c0_1) (hr1 : Kd.C Kd.string w A1 l1.length l1) (hc1 : l1.length ≤ c1) (h : impl_rankings.f a0_0 l0_1 l1 = some r) :
  Calls Try.prog 117 #[.agg #[.int .i64 a0_0, .slice A0_1 l0_1.length c0_1], .slice A1 l1.length c1] w fun e w' => ∃ v0_ : Value, e = .returned (v0_) ∧ Kd.S k77 77 w' w.heap.size (fun _ => True) v0_ r ∧ Below w.heap.size w w' := by
 unfold impl_rankings.f at h
 split at h
 ·
  rename_i hs
  obtain rfl := Option.some.inj h
  exact Rks.rankings_calls a0_0 A0_1 c0_1 l0_1 A1 c1 l1 w hr0_1 hc0_1 hs.1.1 (PostW.rise_of_good hs.2) (PostW.ne_of_good hs.2) hr1 hc1 hs.1.2
 ·
  cases h

def impl_ScoreOf.j0 : Nat → List ByteArray → Int → Bool → Int → List (S102) → Option (Int × Bool)
 | 0, _, _, _, _, _ => none
 | k + 1, x1, x2, x19, x730000, x730001 => if x19 = true then (some (0, false)) else ((impl_rankings.f x730000 x730001 x1).bind fun t732 => ((impl_sumOf.f k t732 x2).bind fun t735 => (some (t735, true))))
def impl_ScoreOf.f (k : Nat) (a0_0 : Int) (l0_1 : List (S102)) (l1 : List ByteArray) (a2 : Int) : Option (Int × Bool) := (impl_scoring.f k a0_0 l0_1 l1).bind fun t730 => (if t730 = true then ((impl_within.f a2 0 (wrap64 (a0_0 - 1))).bind fun t731 => (impl_ScoreOf.j0 k l1 a2 (!t731) a0_0 l0_1)) else (impl_ScoreOf.j0 k l1 a2 true a0_0 l0_1))
set_option maxHeartbeats 8000000 in
set_option maxRecDepth 100000 in
theorem impl_ScoreOf.calls (k : Nat) (a0_0 : Int) (A0_1 : Option Addr) (c0_1 : Nat) (l0_1 : List (S102)) (A1 : Option Addr) (c1 : Nat) (l1 : List ByteArray) (a2 : Int) (r1 : Int) (r2 : Bool) (w : World) (hr0_1 : Kd.C k102 w A0_1 l0_1.length l0_1) (hc0_1 : l0_1.length ≤ c0_1) (hr1 : Kd.C Kd.string w A1 l1.length l1) (hc1 : l1.length ≤ c1) (h : impl_ScoreOf.f k a0_0 l0_1 l1 a2 = some (r1, r2)) :
  Calls Try.prog 62 #[.agg #[.int .i64 a0_0, .slice A0_1 l0_1.length c0_1], .slice A1 l1.length c1, .int .i64 a2] w fun e w' => e = .returned (.tuple #[.int .i64 r1, .bool r2]) ∧ Below w.heap.size w w' := by
 have hu33 := Try.underlying33
 have HR0_1 := aM hr0_1
 have HC0_1 := aM hc0_1
 clear hr0_1 hc0_1
 have HR1 := aM hr1
 have HC1 := aM hc1
 clear hr1 hc1
 have HB := aM (Below.refl w.heap.size w)
 have H : ((impl_scoring.f k a0_0 l0_1 l1).bind fun t730 => (if t730 = true then ((impl_within.f a2 0 (wrap64 (a0_0 - 1))).bind fun t731 => (impl_ScoreOf.j0 k l1 a2 (!t731) a0_0 l0_1)) else (impl_ScoreOf.j0 k l1 a2 true a0_0 l0_1))) = some (r1, r2) := h
 clear h
 have HC4 := aM H
 clear H
 go_enter Try.func62, Try.ntmps62
 go_upto_region 1 with (first | ((with_reducible refine gate_dst (N := 3) rfl ?_); refine box_event ?hg (N := 3) ?hd (cs := #[.int .i64 a0_0, .slice A0_1 l0_1.length c0_1]) (t := 33) ?hr ?_; (case hd => rfl); (case hg => rfl); (case hr => first | (go_simp; done) | (go_simp; rfl)); intro gb729 hg w5 hbox hb; have n0_ := aM (below_step (by repeat (first | (with_reducible first | exact HB.out | apply below_alloc | apply pw_below_drewN | apply below_drew1) | exact HB.out)) hb); have n1_ := aM (hbox); have n2_ := aM ((by rw [hg]; exact (below_size (by repeat (first | (with_reducible first | exact HB.out | apply below_alloc | apply pw_below_drewN | apply below_drew1) | exact HB.out))) : w.heap.size ≤ gb729)); have n3_ := aM ((by rw [hg]; exact (below_size (by repeat (first | (with_reducible first | exact HB.out | apply below_alloc | apply pw_below_drewN | apply below_drew1) | exact HB.out))) : w.heap.size ≤ gb729)); clear HB; have HB := n0_; have BK729 := n1_; have GW729 := n2_; have GE729 := n3_; clear n0_ n1_ n2_ n3_; clear hb hbox hg))
 (try simp only [Act.put, zSA, zSB, zSC])
 go_cut [19] (fun v19 wc => ∃ (kq : Nat) (x19_3 : Bool), v19 = .bool x19_3 ∧ Aside0 (impl_ScoreOf.j0 kq l1 a2 x19_3 a0_0 l0_1 = some (r1, r2)) ∧ Aside0 (kq ≤ k) ∧ Aside0 (wc.heap[gb729]? = some (.cells #[.int .i64 a0_0, (.slice A0_1 l0_1.length c0_1)] 33 (0, 0))) ∧ Aside0 (Below w.heap.size w wc))
 case first =>
  have H := HC4.out
  clear HC4
  replace H := Option.bind_eq_some_iff.mp H
  obtain ⟨t730, A60, H⟩ := H
  replace H : (if t730 = true then ((impl_within.f a2 0 (wrap64 (a0_0 - 1))).bind fun t731 => (impl_ScoreOf.j0 k l1 a2 (!t731) a0_0 l0_1)) else (impl_ScoreOf.j0 k l1 a2 true a0_0 l0_1)) = some (r1, r2) := H
  have A6 := aM A60
  clear A60
  by_cases c7 : t730 = true
  ·
   subst c7
   have H1 : ((impl_within.f a2 0 (wrap64 (a0_0 - 1))).bind fun t731 => (impl_ScoreOf.j0 k l1 a2 (!t731) a0_0 l0_1)) = some (r1, r2) := by rw [if_pos rfl] at H; exact H
   clear H
   have H := H1
   clear H1
   replace H := Option.bind_eq_some_iff.mp H
   obtain ⟨t731, A80, H⟩ := H
   replace H : (impl_ScoreOf.j0 k l1 a2 (!t731) a0_0 l0_1) = some (r1, r2) := H
   have A8 := aM A80
   clear A80
   have H' := aM H
   clear H
   have hcz9_0 : w5.cell? ⟨gb729, 0, none⟩ = some (.int .i64 a0_0) := (blk_cell BK729.out 0).trans rfl
   have hcz9_1 : w5.cell? ⟨gb729, 1, none⟩ = some (.slice A0_1 l0_1.length c0_1) := (blk_cell BK729.out 1).trans rfl
   have hfz9_0 := blk_frozen BK729.out 0
   have hfz9_1 := blk_frozen BK729.out 1
   go_wp2_with (first | ((with_reducible refine gate_callee (f := 116) rfl ?_); refine goesL_ (some 10) rfl rfl Try.func116 (by kernel_rfl) rfl #[.agg #[.int .i64 a0_0, .slice A0_1 l0_1.length c0_1], .slice A1 l1.length c1] rfl (by (try simp only [List.map_toArray, List.map_cons, List.map_nil]); first | done | rfl | (simp only [List.length_drop, List.length_take]; rfl)) ?_; (with_reducible refine (impl_scoring.calls k a0_0 _ _ l0_1 _ _ l1 true _ ?side1 ?side2 ?side3 ?side4 A6.out).mono ?_); (case side1 => repeat (first | exact (Kd.C_below HR0_1.out HB.out) | (with_reducible refine Kd.C_alloc ?_ _) | (with_reducible refine Kd.C_drewN ?_ _) | (with_reducible refine Kd.C_drew ?_))); (case side2 => exact HC0_1.out); (case side3 => repeat (first | exact (Kd.C_below HR1.out HB.out) | (with_reducible refine Kd.C_alloc ?_ _) | (with_reducible refine Kd.C_drewN ?_ _) | (with_reducible refine Kd.C_drew ?_))); (case side4 => exact HC1.out); rintro e w10 ⟨rfl, hb⟩; refine ⟨_, rfl, ?_⟩; have n0_ := aM (blk_below (g := gb729) (o := .cells #[.int .i64 a0_0, .slice A0_1 l0_1.length c0_1] 33 (0, 0)) (by (with_reducible repeat (first | refine blk_drewN ?_ _ | refine blk_drew ?_ | refine blk_alloc ?_ _)); exact BK729.out) hb); have n1_ := aM (below_step (by repeat (first | (with_reducible first | exact HB.out | apply below_alloc | apply pw_below_drewN | apply below_drew1 | refine below_set ?_ GE729.out) | exact HB.out)) hb); clear BK729; clear HB; have BK729 := n0_; have HB := n1_; clear n0_ n1_; (try clear hb); (try clear hb2); (try clear hk); (try clear hi); have hcz11_0 : w10.cell? ⟨gb729, 0, none⟩ = some (.int .i64 a0_0) := (blk_cell BK729.out 0).trans rfl; have hcz11_1 : w10.cell? ⟨gb729, 1, none⟩ = some (.slice A0_1 l0_1.length c0_1) := (blk_cell BK729.out 1).trans rfl; have hfz11_0 := blk_frozen BK729.out 0; have hfz11_1 := blk_frozen BK729.out 1) | (go_at_call 88; (try simp only [i64_w]); (with_reducible refine (impl_within.calls a2 0 (wrap64 (a0_0 - 1)) t731 _ A8.out).mono ?_); rintro e w' ⟨rfl, ⟨nd, rfl⟩⟩))
   go_meet
   case rel => exact ⟨_, (!t731), (by first | rfl | (simp; done) | (simp [*]; done)), H', ⟨by first | omega | exact Nat.le_refl _⟩, ⟨by (with_reducible repeat (first | refine blk_drewN ?_ _ | refine blk_drew ?_ | refine blk_alloc ?_ _)); exact BK729.out⟩, ⟨by repeat (first | (with_reducible first | exact HB.out | apply below_alloc | apply pw_below_drewN | apply below_drew1 | refine below_set ?_ GE729.out) | exact HB.out)⟩⟩
  ·
   replace c7 := Bool.eq_false_iff.mpr c7
   subst c7
   have H1 : (impl_ScoreOf.j0 k l1 a2 true a0_0 l0_1) = some (r1, r2) := by rw [if_neg (show ¬ (false = true) by decide)] at H; exact H
   clear H
   have H := H1
   clear H1
   have H' := aM H
   clear H
   have hcz12_0 : w5.cell? ⟨gb729, 0, none⟩ = some (.int .i64 a0_0) := (blk_cell BK729.out 0).trans rfl
   have hcz12_1 : w5.cell? ⟨gb729, 1, none⟩ = some (.slice A0_1 l0_1.length c0_1) := (blk_cell BK729.out 1).trans rfl
   have hfz12_0 := blk_frozen BK729.out 0
   have hfz12_1 := blk_frozen BK729.out 1
   go_wp2_with (first | ((with_reducible refine gate_callee (f := 116) rfl ?_); refine goesL_ (some 10) rfl rfl Try.func116 (by kernel_rfl) rfl #[.agg #[.int .i64 a0_0, .slice A0_1 l0_1.length c0_1], .slice A1 l1.length c1] rfl (by (try simp only [List.map_toArray, List.map_cons, List.map_nil]); first | done | rfl | (simp only [List.length_drop, List.length_take]; rfl)) ?_; (with_reducible refine (impl_scoring.calls k a0_0 _ _ l0_1 _ _ l1 false _ ?side1 ?side2 ?side3 ?side4 A6.out).mono ?_); (case side1 => repeat (first | exact (Kd.C_below HR0_1.out HB.out) | (with_reducible refine Kd.C_alloc ?_ _) | (with_reducible refine Kd.C_drewN ?_ _) | (with_reducible refine Kd.C_drew ?_))); (case side2 => exact HC0_1.out); (case side3 => repeat (first | exact (Kd.C_below HR1.out HB.out) | (with_reducible refine Kd.C_alloc ?_ _) | (with_reducible refine Kd.C_drewN ?_ _) | (with_reducible refine Kd.C_drew ?_))); (case side4 => exact HC1.out); rintro e w13 ⟨rfl, hb⟩; refine ⟨_, rfl, ?_⟩; have n0_ := aM (blk_below (g := gb729) (o := .cells #[.int .i64 a0_0, .slice A0_1 l0_1.length c0_1] 33 (0, 0)) (by (with_reducible repeat (first | refine blk_drewN ?_ _ | refine blk_drew ?_ | refine blk_alloc ?_ _)); exact BK729.out) hb); have n1_ := aM (below_step (by repeat (first | (with_reducible first | exact HB.out | apply below_alloc | apply pw_below_drewN | apply below_drew1 | refine below_set ?_ GE729.out) | exact HB.out)) hb); clear BK729; clear HB; have BK729 := n0_; have HB := n1_; clear n0_ n1_; (try clear hb); (try clear hb2); (try clear hk); (try clear hi)))
   go_meet
   case rel => exact ⟨_, (true), (by first | rfl | (simp; done) | (simp [*]; done)), H', ⟨by first | omega | exact Nat.le_refl _⟩, ⟨by (with_reducible repeat (first | refine blk_drewN ?_ _ | refine blk_drew ?_ | refine blk_alloc ?_ _)); exact BK729.out⟩, ⟨by repeat (first | (with_reducible first | exact HB.out | apply below_alloc | apply pw_below_drewN | apply below_drew1 | refine below_set ?_ GE729.out) | exact HB.out)⟩⟩
 case rest =>
  clear HC4
  try clear c1
  try clear p2
  try clear c6
  try clear p6
  try clear c7
  try clear c11
  try clear hcz11_0
  try clear hcz11_1
  try clear hcz12_0
  try clear hcz12_1
  try clear hcz9_0
  try clear hcz9_1
  try clear hfz11_0
  try clear hfz11_1
  try clear hfz12_0
  try clear hfz12_1
  try clear hfz9_0
  try clear hfz9_1
  obtain ⟨kq, x19_3, rfl, HA, HJ3, BK729, HB⟩ := hcut
  cases kq with
  | zero => exact absurd HA.out (by simp [impl_ScoreOf.j0])
  | succ kj3 =>
   have H := HA.out
   clear HA
   simp only [impl_ScoreOf.j0] at H
   by_cases c14 : x19_3 = true
   ·
    subst c14
    have H1 : (some (0, false)) = some (r1, r2) := by rw [if_pos rfl] at H; exact H
    clear H
    have H := H1
    clear H1
    simp only [Option.some.injEq, Prod.mk.injEq] at H
    obtain ⟨rfl, rfl⟩ := H
    go_wp2
    go_ret2
    exact ⟨by first | rfl | (simp [errW_none, errW_some] <;> rfl) | (simp [*, errW_none, errW_some] <;> rfl), by repeat (first | (with_reducible first | exact HB.out | apply below_alloc | apply pw_below_drewN | apply below_drew1 | refine below_set ?_ GE729.out) | exact HB.out)⟩
   ·
    replace c14 := Bool.eq_false_iff.mpr c14
    subst c14
    have H1 : ((impl_rankings.f a0_0 l0_1 l1).bind fun t732 => ((impl_sumOf.f kj3 t732 a2).bind fun t735 => (some (t735, true)))) = some (r1, r2) := by rw [if_neg (show ¬ (false = true) by decide)] at H; exact H
    clear H
    have H := H1
    clear H1
    replace H := Option.bind_eq_some_iff.mp H
    obtain ⟨t732, A150, H⟩ := H
    replace H : ((impl_sumOf.f kj3 t732 a2).bind fun t735 => (some (t735, true))) = some (r1, r2) := H
    have A15 := aM A150
    clear A150
    replace H := Option.bind_eq_some_iff.mp H
    obtain ⟨t735, A160, H⟩ := H
    replace H : (some (t735, true)) = some (r1, r2) := H
    have A16 := aM A160
    clear A160
    simp only [Option.some.injEq, Prod.mk.injEq] at H
    obtain ⟨rfl, rfl⟩ := H
    have hcz17_0 : wc.cell? ⟨gb729, 0, none⟩ = some (.int .i64 a0_0) := (blk_cell BK729.out 0).trans rfl
    have hcz17_1 : wc.cell? ⟨gb729, 1, none⟩ = some (.slice A0_1 l0_1.length c0_1) := (blk_cell BK729.out 1).trans rfl
    have hfz17_0 := blk_frozen BK729.out 0
    have hfz17_1 := blk_frozen BK729.out 1
    go_wp2_with (first | ((with_reducible refine gate_callee (f := 117) rfl ?_); refine goesL_ (some 22) rfl rfl Try.func117 (by kernel_rfl) rfl #[.agg #[.int .i64 a0_0, .slice A0_1 l0_1.length c0_1], .slice A1 l1.length c1] rfl (by (try simp only [List.map_toArray, List.map_cons, List.map_nil]); first | done | rfl | (simp only [List.length_drop, List.length_take]; rfl)) ?_; (with_reducible refine (impl_rankings.calls a0_0 _ _ l0_1 _ _ l1 t732 _ ?side1 ?side2 ?side3 ?side4 A15.out).mono ?_); (case side1 => repeat (first | exact (Kd.C_below HR0_1.out HB.out) | (with_reducible refine Kd.C_alloc ?_ _) | (with_reducible refine Kd.C_drewN ?_ _) | (with_reducible refine Kd.C_drew ?_))); (case side2 => exact HC0_1.out); (case side3 => repeat (first | exact (Kd.C_below HR1.out HB.out) | (with_reducible refine Kd.C_alloc ?_ _) | (with_reducible refine Kd.C_drewN ?_ _) | (with_reducible refine Kd.C_drew ?_))); (case side4 => exact HC1.out); rintro e w18 ⟨v733, rfl, ho0, hb⟩; refine ⟨_, rfl, ?_⟩; have n0_ := aM (Kd.S_lower ho0 (below_size (by repeat (first | (with_reducible first | exact HB.out | apply below_alloc | apply pw_below_drewN | apply below_drew1 | refine below_set ?_ GE729.out) | exact HB.out)))); have n1_ := aM (blk_below (g := gb729) (o := .cells #[.int .i64 a0_0, .slice A0_1 l0_1.length c0_1] 33 (0, 0)) (by (with_reducible repeat (first | refine blk_drewN ?_ _ | refine blk_drew ?_ | refine blk_alloc ?_ _)); exact BK729.out) hb); have n2_ := aM (below_step (by repeat (first | (with_reducible first | exact HB.out | apply below_alloc | apply pw_below_drewN | apply below_drew1 | refine below_set ?_ GE729.out) | exact HB.out)) hb); clear BK729; clear HB; have HO734 := n0_; have BK729 := n1_; have HB := n2_; clear n0_ n1_ n2_; (try clear hb); (try clear hb2); (try clear hk); (try clear hi); (try clear ho0); obtain ⟨Ao19, co19, eo19⟩ := Kd.S_slice HO734.out; subst eo19) | ((with_reducible refine gate_callee (f := 113) rfl ?_); refine goesL_ (some 24) rfl rfl Try.func113 (by kernel_rfl) rfl #[.slice Ao19 t732.length co19, .int .i64 a2] rfl (by (try simp only [List.map_toArray, List.map_cons, List.map_nil]); first | done | rfl | (simp only [List.length_drop, List.length_take]; rfl)) ?_; (with_reducible refine (impl_sumOf.calls kj3 _ _ t732 a2 t735 _ ?side1 ?side2 A16.out).mono ?_); (case side1 => repeat (first | exact (Kd.S_reads' HO734.out).2.2 | (with_reducible refine Kd.C_alloc ?_ _) | (with_reducible refine Kd.C_drewN ?_ _) | (with_reducible refine Kd.C_drew ?_))); (case side2 => exact (Kd.S_reads' HO734.out).2.1); rintro e w20 ⟨rfl, hb⟩; refine ⟨_, rfl, ?_⟩; have n0_ := aM (Kd.S_below (by (with_reducible repeat (first | apply Kd.S_alloc | apply Kd.S_drewN | apply Kd.S_drew)); exact HO734.out) hb); have n1_ := aM (blk_below (g := gb729) (o := .cells #[.int .i64 a0_0, .slice A0_1 l0_1.length c0_1] 33 (0, 0)) (by (with_reducible repeat (first | refine blk_drewN ?_ _ | refine blk_drew ?_ | refine blk_alloc ?_ _)); exact BK729.out) hb); have n2_ := aM (below_step (by repeat (first | (with_reducible first | exact HB.out | apply below_alloc | apply pw_below_drewN | apply below_drew1 | refine below_set ?_ GE729.out) | exact HB.out)) hb); clear HO734; clear BK729; clear HB; have HO734 := n0_; have BK729 := n1_; have HB := n2_; clear n0_ n1_ n2_; (try clear hb); (try clear hb2); (try clear hk); (try clear hi)))
    go_ret2
    exact ⟨by first | rfl | (simp [errW_none, errW_some] <;> rfl) | (simp [*, errW_none, errW_some] <;> rfl), by repeat (first | (with_reducible first | exact HB.out | apply below_alloc | apply pw_below_drewN | apply below_drew1 | refine below_set ?_ GE729.out) | exact HB.out)⟩

def laws_FnExactScoreOf.j0 : Nat → List ByteArray → List ByteArray → Bool → Int → List (S140) → Int → List (S102) → Option (Bool)
 | 0, _, _, _, _, _, _, _ => none
 | k + 1, x1, x11, x51, x737000, x737001, x753000, x753001 => if x51 = true then (some false) else ((laws_toWords.f k x737000 x737001).bind fun bt758 => ((laws_eqWords.f k x753000 x753001 bt758.1 bt758.2).bind fun t762 => (if t762 = true then ((laws_toStringS.f k x1).bind fun t763 => ((laws_eqStringS.f k x11 t763).bind fun t766 => (if t766 = true then (some true) else (some false)))) else (some false))))
def laws_FnExactScoreOf.f (k : Nat) (a0_0 : Int) (l0_1 : List (S140)) (l1 : List ByteArray) (a2 : Int) : Option (Bool) := (laws_szWords.f k a0_0 l0_1 1048576).bind fun t737 => (if t737 < 0 then (some true) else ((laws_szStringS.f k l1 t737).bind fun t738 => (if t738 < 0 then (some true) else ((laws_toWords.f k a0_0 l0_1).bind fun bt739 => ((laws_toStringS.f k l1).bind fun t743 => ((spec_ScoreOf.f k bt739.1 bt739.2 t743 a2).bind fun bt746 => ((laws_toWords.f k a0_0 l0_1).bind fun bt748 => ((laws_toStringS.f k l1).bind fun t753 => ((impl_ScoreOf.f k bt748.1 bt748.2 t753 a2).bind fun bt756 => (if bt756.1 = bt746.1 then (laws_FnExactScoreOf.j0 k l1 t753 (bt756.2 != bt746.2) a0_0 l0_1 bt748.1 bt748.2) else (laws_FnExactScoreOf.j0 k l1 t753 true a0_0 l0_1 bt748.1 bt748.2)))))))))))
set_option maxHeartbeats 8000000 in
set_option maxRecDepth 100000 in
theorem laws_FnExactScoreOf.calls (k : Nat) (a0_0 : Int) (A0_1 : Option Addr) (c0_1 : Nat) (l0_1 : List (S140)) (A1 : Option Addr) (c1 : Nat) (l1 : List ByteArray) (a2 : Int) (r : Bool) (w : World) (hr0_1 : Kd.C k140 w A0_1 l0_1.length l0_1) (hc0_1 : l0_1.length ≤ c0_1) (hr1 : Kd.C Kd.string w A1 l1.length l1) (hc1 : l1.length ≤ c1) (h : laws_FnExactScoreOf.f k a0_0 l0_1 l1 a2 = some r) :
  Calls Try.prog 11 #[.agg #[.int .i64 a0_0, .slice A0_1 l0_1.length c0_1], .slice A1 l1.length c1, .int .i64 a2] w fun e w' => e = .returned (.bool r) ∧ Below w.heap.size w w' := by
 have hu24 := Try.underlying24
 have hu33 := Try.underlying33
 have HR0_1 := aM hr0_1
 have HC0_1 := aM hc0_1
 clear hr0_1 hc0_1
 have HR1 := aM hr1
 have HC1 := aM hc1
 clear hr1 hc1
 have HB := aM (Below.refl w.heap.size w)
 have H : ((laws_szWords.f k a0_0 l0_1 1048576).bind fun t737 => (if t737 < 0 then (some true) else ((laws_szStringS.f k l1 t737).bind fun t738 => (if t738 < 0 then (some true) else ((laws_toWords.f k a0_0 l0_1).bind fun bt739 => ((laws_toStringS.f k l1).bind fun t743 => ((spec_ScoreOf.f k bt739.1 bt739.2 t743 a2).bind fun bt746 => ((laws_toWords.f k a0_0 l0_1).bind fun bt748 => ((laws_toStringS.f k l1).bind fun t753 => ((impl_ScoreOf.f k bt748.1 bt748.2 t753 a2).bind fun bt756 => (if bt756.1 = bt746.1 then (laws_FnExactScoreOf.j0 k l1 t753 (bt756.2 != bt746.2) a0_0 l0_1 bt748.1 bt748.2) else (laws_FnExactScoreOf.j0 k l1 t753 true a0_0 l0_1 bt748.1 bt748.2)))))))))))) = some r := h
 clear h
 replace H := Option.bind_eq_some_iff.mp H
 obtain ⟨t737, A40, H⟩ := H
 replace H : (if t737 < 0 then (some true) else ((laws_szStringS.f k l1 t737).bind fun t738 => (if t738 < 0 then (some true) else ((laws_toWords.f k a0_0 l0_1).bind fun bt739 => ((laws_toStringS.f k l1).bind fun t743 => ((spec_ScoreOf.f k bt739.1 bt739.2 t743 a2).bind fun bt746 => ((laws_toWords.f k a0_0 l0_1).bind fun bt748 => ((laws_toStringS.f k l1).bind fun t753 => ((impl_ScoreOf.f k bt748.1 bt748.2 t753 a2).bind fun bt756 => (if bt756.1 = bt746.1 then (laws_FnExactScoreOf.j0 k l1 t753 (bt756.2 != bt746.2) a0_0 l0_1 bt748.1 bt748.2) else (laws_FnExactScoreOf.j0 k l1 t753 true a0_0 l0_1 bt748.1 bt748.2))))))))))) = some r := H
 have A4 := aM A40
 clear A40
 by_cases c5 : t737 < 0
 ·
  rw [if_pos c5] at H
  have c5b0 : decide (t737 < 0) = true := decide_eq_true c5
  clear c5
  obtain rfl := Option.some.inj H
  go_enter Try.func11, Try.ntmps11
  go_wp2_with (first | ((with_reducible refine gate_dst (N := 3) rfl ?_); refine box_event ?hg (N := 3) ?hd (cs := #[.int .i64 a0_0, .slice A0_1 l0_1.length c0_1]) (t := 24) ?hr ?_; (case hd => rfl); (case hg => rfl); (case hr => first | (go_simp; done) | (go_simp; rfl)); intro gb736 hg w6 hbox hb; have n0_ := aM (below_step (by repeat (first | (with_reducible first | exact HB.out | apply below_alloc | apply pw_below_drewN | apply below_drew1) | exact HB.out)) hb); have n1_ := aM (hbox); have n2_ := aM ((by rw [hg]; exact (below_size (by repeat (first | (with_reducible first | exact HB.out | apply below_alloc | apply pw_below_drewN | apply below_drew1) | exact HB.out))) : w.heap.size ≤ gb736)); have n3_ := aM ((by rw [hg]; exact (below_size (by repeat (first | (with_reducible first | exact HB.out | apply below_alloc | apply pw_below_drewN | apply below_drew1) | exact HB.out))) : w.heap.size ≤ gb736)); clear HB; have HB := n0_; have BK736 := n1_; have GW736 := n2_; have GE736 := n3_; clear n0_ n1_ n2_ n3_; clear hb hbox hg; have hcz7_0 : w6.cell? ⟨gb736, 0, none⟩ = some (.int .i64 a0_0) := (blk_cell BK736.out 0).trans rfl; have hcz7_1 : w6.cell? ⟨gb736, 1, none⟩ = some (.slice A0_1 l0_1.length c0_1) := (blk_cell BK736.out 1).trans rfl; have hfz7_0 := blk_frozen BK736.out 0; have hfz7_1 := blk_frozen BK736.out 1) | ((with_reducible refine gate_callee (f := 15) rfl ?_); refine goesL_ (some 16) rfl rfl Try.func15 (by kernel_rfl) rfl #[.agg #[.int .i64 a0_0, .slice A0_1 l0_1.length c0_1], .int .i64 1048576] rfl (by (try simp only [List.map_toArray, List.map_cons, List.map_nil]); first | done | rfl | (simp only [List.length_drop, List.length_take]; rfl)) ?_; (with_reducible refine (laws_szWords.calls k a0_0 _ _ l0_1 1048576 t737 _ ?side1 ?side2 A4.out).mono ?_); (case side1 => repeat (first | exact (Kd.C_below HR0_1.out HB.out) | (with_reducible refine Kd.C_alloc ?_ _) | (with_reducible refine Kd.C_drewN ?_ _) | (with_reducible refine Kd.C_drew ?_))); (case side2 => exact HC0_1.out); rintro e w8 ⟨rfl, hb⟩; refine ⟨_, rfl, ?_⟩; have n0_ := aM (blk_below (g := gb736) (o := .cells #[.int .i64 a0_0, .slice A0_1 l0_1.length c0_1] 24 (0, 0)) (by (with_reducible repeat (first | refine blk_drewN ?_ _ | refine blk_drew ?_ | refine blk_alloc ?_ _)); exact BK736.out) hb); have n1_ := aM (below_step (by repeat (first | (with_reducible first | exact HB.out | apply below_alloc | apply pw_below_drewN | apply below_drew1 | refine below_set ?_ GE736.out) | exact HB.out)) hb); clear BK736; clear HB; have BK736 := n0_; have HB := n1_; clear n0_ n1_; (try clear hb); (try clear hb2); (try clear hk); (try clear hi)))
  go_ret
  exact ⟨by first | rfl | (simp [errW_none, errW_some] <;> rfl) | (simp [*, errW_none, errW_some] <;> rfl), by repeat (first | (with_reducible first | exact HB.out | apply below_alloc | apply pw_below_drewN | apply below_drew1 | refine below_set ?_ GE736.out) | exact HB.out)⟩
 ·
  rw [if_neg c5] at H
  have c5b0 : decide (t737 < 0) = false := decide_eq_false c5
  clear c5
  replace H := Option.bind_eq_some_iff.mp H
  obtain ⟨t738, A90, H⟩ := H
  replace H : (if t738 < 0 then (some true) else ((laws_toWords.f k a0_0 l0_1).bind fun bt739 => ((laws_toStringS.f k l1).bind fun t743 => ((spec_ScoreOf.f k bt739.1 bt739.2 t743 a2).bind fun bt746 => ((laws_toWords.f k a0_0 l0_1).bind fun bt748 => ((laws_toStringS.f k l1).bind fun t753 => ((impl_ScoreOf.f k bt748.1 bt748.2 t753 a2).bind fun bt756 => (if bt756.1 = bt746.1 then (laws_FnExactScoreOf.j0 k l1 t753 (bt756.2 != bt746.2) a0_0 l0_1 bt748.1 bt748.2) else (laws_FnExactScoreOf.j0 k l1 t753 true a0_0 l0_1 bt748.1 bt748.2))))))))) = some r := H
  have A9 := aM A90
  clear A90
  by_cases c10 : t738 < 0
  ·
   rw [if_pos c10] at H
   have c10b0 : decide (t738 < 0) = true := decide_eq_true c10
   clear c10
   obtain rfl := Option.some.inj H
   go_enter Try.func11, Try.ntmps11
   go_wp2_with (first | ((with_reducible refine gate_dst (N := 3) rfl ?_); refine box_event ?hg (N := 3) ?hd (cs := #[.int .i64 a0_0, .slice A0_1 l0_1.length c0_1]) (t := 24) ?hr ?_; (case hd => rfl); (case hg => rfl); (case hr => first | (go_simp; done) | (go_simp; rfl)); intro gb736 hg w11 hbox hb; have n0_ := aM (below_step (by repeat (first | (with_reducible first | exact HB.out | apply below_alloc | apply pw_below_drewN | apply below_drew1) | exact HB.out)) hb); have n1_ := aM (hbox); have n2_ := aM ((by rw [hg]; exact (below_size (by repeat (first | (with_reducible first | exact HB.out | apply below_alloc | apply pw_below_drewN | apply below_drew1) | exact HB.out))) : w.heap.size ≤ gb736)); have n3_ := aM ((by rw [hg]; exact (below_size (by repeat (first | (with_reducible first | exact HB.out | apply below_alloc | apply pw_below_drewN | apply below_drew1) | exact HB.out))) : w.heap.size ≤ gb736)); clear HB; have HB := n0_; have BK736 := n1_; have GW736 := n2_; have GE736 := n3_; clear n0_ n1_ n2_ n3_; clear hb hbox hg; have hcz12_0 : w11.cell? ⟨gb736, 0, none⟩ = some (.int .i64 a0_0) := (blk_cell BK736.out 0).trans rfl; have hcz12_1 : w11.cell? ⟨gb736, 1, none⟩ = some (.slice A0_1 l0_1.length c0_1) := (blk_cell BK736.out 1).trans rfl; have hfz12_0 := blk_frozen BK736.out 0; have hfz12_1 := blk_frozen BK736.out 1) | ((with_reducible refine gate_callee (f := 15) rfl ?_); refine goesL_ (some 16) rfl rfl Try.func15 (by kernel_rfl) rfl #[.agg #[.int .i64 a0_0, .slice A0_1 l0_1.length c0_1], .int .i64 1048576] rfl (by (try simp only [List.map_toArray, List.map_cons, List.map_nil]); first | done | rfl | (simp only [List.length_drop, List.length_take]; rfl)) ?_; (with_reducible refine (laws_szWords.calls k a0_0 _ _ l0_1 1048576 t737 _ ?side1 ?side2 A4.out).mono ?_); (case side1 => repeat (first | exact (Kd.C_below HR0_1.out HB.out) | (with_reducible refine Kd.C_alloc ?_ _) | (with_reducible refine Kd.C_drewN ?_ _) | (with_reducible refine Kd.C_drew ?_))); (case side2 => exact HC0_1.out); rintro e w13 ⟨rfl, hb⟩; refine ⟨_, rfl, ?_⟩; have n0_ := aM (blk_below (g := gb736) (o := .cells #[.int .i64 a0_0, .slice A0_1 l0_1.length c0_1] 24 (0, 0)) (by (with_reducible repeat (first | refine blk_drewN ?_ _ | refine blk_drew ?_ | refine blk_alloc ?_ _)); exact BK736.out) hb); have n1_ := aM (below_step (by repeat (first | (with_reducible first | exact HB.out | apply below_alloc | apply pw_below_drewN | apply below_drew1 | refine below_set ?_ GE736.out) | exact HB.out)) hb); clear BK736; clear HB; have BK736 := n0_; have HB := n1_; clear n0_ n1_; (try clear hb); (try clear hb2); (try clear hk); (try clear hi)) | ((with_reducible refine gate_callee (f := 16) rfl ?_); refine goesL_ (some 21) rfl rfl Try.func16 (by kernel_rfl) rfl #[.slice A1 l1.length c1, .int .i64 t737] rfl (by (try simp only [List.map_toArray, List.map_cons, List.map_nil]); first | done | rfl | (simp only [List.length_drop, List.length_take]; rfl)) ?_; (with_reducible refine (laws_szStringS.calls k _ _ l1 t737 t738 _ ?side1 ?side2 A9.out).mono ?_); (case side1 => repeat (first | exact (Kd.C_below HR1.out HB.out) | (with_reducible refine Kd.C_alloc ?_ _) | (with_reducible refine Kd.C_drewN ?_ _) | (with_reducible refine Kd.C_drew ?_))); (case side2 => exact HC1.out); rintro e w' ⟨rfl, ⟨nd, rfl⟩⟩; refine ⟨_, rfl, ?_⟩))
   go_ret
   exact ⟨by first | rfl | (simp [errW_none, errW_some] <;> rfl) | (simp [*, errW_none, errW_some] <;> rfl), by repeat (first | (with_reducible first | exact HB.out | apply below_alloc | apply pw_below_drewN | apply below_drew1 | refine below_set ?_ GE736.out) | exact HB.out)⟩
  ·
   rw [if_neg c10] at H
   have c10b0 : decide (t738 < 0) = false := decide_eq_false c10
   clear c10
   replace H := Option.bind_eq_some_iff.mp H
   obtain ⟨⟨t739, t740⟩, A140, H⟩ := H
   replace H : ((laws_toStringS.f k l1).bind fun t743 => ((spec_ScoreOf.f k t739 t740 t743 a2).bind fun bt746 => ((laws_toWords.f k a0_0 l0_1).bind fun bt748 => ((laws_toStringS.f k l1).bind fun t753 => ((impl_ScoreOf.f k bt748.1 bt748.2 t753 a2).bind fun bt756 => (if bt756.1 = bt746.1 then (laws_FnExactScoreOf.j0 k l1 t753 (bt756.2 != bt746.2) a0_0 l0_1 bt748.1 bt748.2) else (laws_FnExactScoreOf.j0 k l1 t753 true a0_0 l0_1 bt748.1 bt748.2))))))) = some r := H
   have A14 := aM A140
   clear A140
   replace H := Option.bind_eq_some_iff.mp H
   obtain ⟨t743, A150, H⟩ := H
   replace H : ((spec_ScoreOf.f k t739 t740 t743 a2).bind fun bt746 => ((laws_toWords.f k a0_0 l0_1).bind fun bt748 => ((laws_toStringS.f k l1).bind fun t753 => ((impl_ScoreOf.f k bt748.1 bt748.2 t753 a2).bind fun bt756 => (if bt756.1 = bt746.1 then (laws_FnExactScoreOf.j0 k l1 t753 (bt756.2 != bt746.2) a0_0 l0_1 bt748.1 bt748.2) else (laws_FnExactScoreOf.j0 k l1 t753 true a0_0 l0_1 bt748.1 bt748.2)))))) = some r := H
   have A15 := aM A150
   clear A150
   replace H := Option.bind_eq_some_iff.mp H
   obtain ⟨⟨t746, t747⟩, A160, H⟩ := H
   replace H : ((laws_toWords.f k a0_0 l0_1).bind fun bt748 => ((laws_toStringS.f k l1).bind fun t753 => ((impl_ScoreOf.f k bt748.1 bt748.2 t753 a2).bind fun bt756 => (if bt756.1 = t746 then (laws_FnExactScoreOf.j0 k l1 t753 (bt756.2 != t747) a0_0 l0_1 bt748.1 bt748.2) else (laws_FnExactScoreOf.j0 k l1 t753 true a0_0 l0_1 bt748.1 bt748.2))))) = some r := H
   have A16 := aM A160
   clear A160
   replace H := Option.bind_eq_some_iff.mp H
   obtain ⟨⟨t748, t749⟩, A170, H⟩ := H
   replace H : ((laws_toStringS.f k l1).bind fun t753 => ((impl_ScoreOf.f k t748 t749 t753 a2).bind fun bt756 => (if bt756.1 = t746 then (laws_FnExactScoreOf.j0 k l1 t753 (bt756.2 != t747) a0_0 l0_1 t748 t749) else (laws_FnExactScoreOf.j0 k l1 t753 true a0_0 l0_1 t748 t749)))) = some r := H
   have A17 := aM A170
   clear A170
   replace H := Option.bind_eq_some_iff.mp H
   obtain ⟨t753, A180, H⟩ := H
   replace H : ((impl_ScoreOf.f k t748 t749 t753 a2).bind fun bt756 => (if bt756.1 = t746 then (laws_FnExactScoreOf.j0 k l1 t753 (bt756.2 != t747) a0_0 l0_1 t748 t749) else (laws_FnExactScoreOf.j0 k l1 t753 true a0_0 l0_1 t748 t749))) = some r := H
   have A18 := aM A180
   clear A180
   replace H := Option.bind_eq_some_iff.mp H
   obtain ⟨⟨t756, t757⟩, A190, H⟩ := H
   replace H : (if t756 = t746 then (laws_FnExactScoreOf.j0 k l1 t753 (t757 != t747) a0_0 l0_1 t748 t749) else (laws_FnExactScoreOf.j0 k l1 t753 true a0_0 l0_1 t748 t749)) = some r := H
   have A19 := aM A190
   clear A190
   have HC20 := aM H
   clear H
   go_enter Try.func11, Try.ntmps11
   go_upto_region 12 with (first | ((with_reducible refine gate_dst (N := 3) rfl ?_); refine box_event ?hg (N := 3) ?hd (cs := #[.int .i64 a0_0, .slice A0_1 l0_1.length c0_1]) (t := 24) ?hr ?_; (case hd => rfl); (case hg => rfl); (case hr => first | (go_simp; done) | (go_simp; rfl)); intro gb736 hg w21 hbox hb; have n0_ := aM (below_step (by repeat (first | (with_reducible first | exact HB.out | apply below_alloc | apply pw_below_drewN | apply below_drew1) | exact HB.out)) hb); have n1_ := aM (hbox); have n2_ := aM ((by rw [hg]; exact (below_size (by repeat (first | (with_reducible first | exact HB.out | apply below_alloc | apply pw_below_drewN | apply below_drew1) | exact HB.out))) : w.heap.size ≤ gb736)); have n3_ := aM ((by rw [hg]; exact (below_size (by repeat (first | (with_reducible first | exact HB.out | apply below_alloc | apply pw_below_drewN | apply below_drew1) | exact HB.out))) : w.heap.size ≤ gb736)); clear HB; have HB := n0_; have BK736 := n1_; have GW736 := n2_; have GE736 := n3_; clear n0_ n1_ n2_ n3_; clear hb hbox hg; have hcz22_0 : w21.cell? ⟨gb736, 0, none⟩ = some (.int .i64 a0_0) := (blk_cell BK736.out 0).trans rfl; have hcz22_1 : w21.cell? ⟨gb736, 1, none⟩ = some (.slice A0_1 l0_1.length c0_1) := (blk_cell BK736.out 1).trans rfl; have hfz22_0 := blk_frozen BK736.out 0; have hfz22_1 := blk_frozen BK736.out 1) | ((with_reducible refine gate_callee (f := 15) rfl ?_); refine goesL_ (some 16) rfl rfl Try.func15 (by kernel_rfl) rfl #[.agg #[.int .i64 a0_0, .slice A0_1 l0_1.length c0_1], .int .i64 1048576] rfl (by (try simp only [List.map_toArray, List.map_cons, List.map_nil]); first | done | rfl | (simp only [List.length_drop, List.length_take]; rfl)) ?_; (with_reducible refine (laws_szWords.calls k a0_0 _ _ l0_1 1048576 t737 _ ?side1 ?side2 A4.out).mono ?_); (case side1 => repeat (first | exact (Kd.C_below HR0_1.out HB.out) | (with_reducible refine Kd.C_alloc ?_ _) | (with_reducible refine Kd.C_drewN ?_ _) | (with_reducible refine Kd.C_drew ?_))); (case side2 => exact HC0_1.out); rintro e w23 ⟨rfl, hb⟩; refine ⟨_, rfl, ?_⟩; have n0_ := aM (blk_below (g := gb736) (o := .cells #[.int .i64 a0_0, .slice A0_1 l0_1.length c0_1] 24 (0, 0)) (by (with_reducible repeat (first | refine blk_drewN ?_ _ | refine blk_drew ?_ | refine blk_alloc ?_ _)); exact BK736.out) hb); have n1_ := aM (below_step (by repeat (first | (with_reducible first | exact HB.out | apply below_alloc | apply pw_below_drewN | apply below_drew1 | refine below_set ?_ GE736.out) | exact HB.out)) hb); clear BK736; clear HB; have BK736 := n0_; have HB := n1_; clear n0_ n1_; (try clear hb); (try clear hb2); (try clear hk); (try clear hi)) | ((with_reducible refine gate_callee (f := 16) rfl ?_); refine goesL_ (some 21) rfl rfl Try.func16 (by kernel_rfl) rfl #[.slice A1 l1.length c1, .int .i64 t737] rfl (by (try simp only [List.map_toArray, List.map_cons, List.map_nil]); first | done | rfl | (simp only [List.length_drop, List.length_take]; rfl)) ?_; (with_reducible refine (laws_szStringS.calls k _ _ l1 t737 t738 _ ?side1 ?side2 A9.out).mono ?_); (case side1 => repeat (first | exact (Kd.C_below HR1.out HB.out) | (with_reducible refine Kd.C_alloc ?_ _) | (with_reducible refine Kd.C_drewN ?_ _) | (with_reducible refine Kd.C_drew ?_))); (case side2 => exact HC1.out); rintro e w' ⟨rfl, ⟨nd, rfl⟩⟩; refine ⟨_, rfl, ?_⟩; (try (rw [drewN_self w23]; generalize hq_ : World.drewN w23 _ = w23; have n0_ : Aside0 (w23.heap[gb736]? = some (.cells #[.int .i64 a0_0, .slice A0_1 l0_1.length c0_1] 24 (0, 0))) := ⟨by rw [← hq_]; exact (by (with_reducible repeat (first | refine blk_drewN ?_ _ | refine blk_drew ?_ | refine blk_alloc ?_ _)); exact BK736.out)⟩; have n1_ : Aside0 (Below w.heap.size w w23) := ⟨by rw [← hq_]; exact (by repeat (first | (with_reducible first | exact HB.out | apply below_alloc | apply pw_below_drewN | apply below_drew1 | refine below_set ?_ GE736.out) | exact HB.out))⟩; clear BK736 HB hq_; have BK736 := n0_; have HB := n1_; clear n0_ n1_)); have hcz24_0 : w23.cell? ⟨gb736, 0, none⟩ = some (.int .i64 a0_0) := (blk_cell BK736.out 0).trans rfl; have hcz24_1 : w23.cell? ⟨gb736, 1, none⟩ = some (.slice A0_1 l0_1.length c0_1) := (blk_cell BK736.out 1).trans rfl; have hfz24_0 := blk_frozen BK736.out 0; have hfz24_1 := blk_frozen BK736.out 1) | ((with_reducible refine gate_callee (f := 18) rfl ?_); refine goesL_ (some 26) rfl rfl Try.func18 (by kernel_rfl) rfl #[.agg #[.int .i64 a0_0, .slice A0_1 l0_1.length c0_1]] rfl (by (try simp only [List.map_toArray, List.map_cons, List.map_nil]); first | done | rfl | (simp only [List.length_drop, List.length_take]; rfl)) ?_; (with_reducible refine (laws_toWords.calls k a0_0 _ _ l0_1 t739 t740 _ ?side1 ?side2 A14.out).mono ?_); (case side1 => repeat (first | exact (Kd.C_below HR0_1.out HB.out) | (with_reducible refine Kd.C_alloc ?_ _) | (with_reducible refine Kd.C_drewN ?_ _) | (with_reducible refine Kd.C_drew ?_))); (case side2 => exact HC0_1.out); rintro e w25 ⟨v741, rfl, ho0, hb⟩; refine ⟨_, rfl, ?_⟩; have n0_ := aM (Kd.S_lower ho0 (below_size (by repeat (first | (with_reducible first | exact HB.out | apply below_alloc | apply pw_below_drewN | apply below_drew1 | refine below_set ?_ GE736.out) | exact HB.out)))); have n1_ := aM (blk_below (g := gb736) (o := .cells #[.int .i64 a0_0, .slice A0_1 l0_1.length c0_1] 24 (0, 0)) (by (with_reducible repeat (first | refine blk_drewN ?_ _ | refine blk_drew ?_ | refine blk_alloc ?_ _)); exact BK736.out) hb); have n2_ := aM (below_step (by repeat (first | (with_reducible first | exact HB.out | apply below_alloc | apply pw_below_drewN | apply below_drew1 | refine below_set ?_ GE736.out) | exact HB.out)) hb); clear BK736; clear HB; have HO742 := n0_; have BK736 := n1_; have HB := n2_; clear n0_ n1_ n2_; (try clear hb); (try clear hb2); (try clear hk); (try clear hi); (try clear ho0)) | ((with_reducible refine gate_callee (f := 19) rfl ?_); refine goesL_ (some 28) rfl rfl Try.func19 (by kernel_rfl) rfl #[.slice A1 l1.length c1] rfl (by (try simp only [List.map_toArray, List.map_cons, List.map_nil]); first | done | rfl | (simp only [List.length_drop, List.length_take]; rfl)) ?_; (with_reducible refine (laws_toStringS.calls k _ _ l1 t743 _ ?side1 ?side2 A15.out).mono ?_); (case side1 => repeat (first | exact (Kd.C_below HR1.out HB.out) | (with_reducible refine Kd.C_alloc ?_ _) | (with_reducible refine Kd.C_drewN ?_ _) | (with_reducible refine Kd.C_drew ?_))); (case side2 => exact HC1.out); rintro e w26 ⟨v744, rfl, ho0, hb⟩; refine ⟨_, rfl, ?_⟩; have n0_ := aM (Kd.S_below (by (with_reducible repeat (first | apply Kd.S_alloc | apply Kd.S_drewN | apply Kd.S_drew)); exact HO742.out) hb); have n1_ := aM (Kd.R_lower ho0 (below_size (by repeat (first | (with_reducible first | exact HB.out | apply below_alloc | apply pw_below_drewN | apply below_drew1 | refine below_set ?_ GE736.out) | exact HB.out)))); have n2_ := aM (blk_below (g := gb736) (o := .cells #[.int .i64 a0_0, .slice A0_1 l0_1.length c0_1] 24 (0, 0)) (by (with_reducible repeat (first | refine blk_drewN ?_ _ | refine blk_drew ?_ | refine blk_alloc ?_ _)); exact BK736.out) hb); have n3_ := aM (below_step (by repeat (first | (with_reducible first | exact HB.out | apply below_alloc | apply pw_below_drewN | apply below_drew1 | refine below_set ?_ GE736.out) | exact HB.out)) hb); clear HO742; clear BK736; clear HB; have HO742 := n0_; have HO745 := n1_; have BK736 := n2_; have HB := n3_; clear n0_ n1_ n2_ n3_; (try clear hb); (try clear hb2); (try clear hk); (try clear hi); (try clear ho0); obtain ⟨Ao27, co27, eo27⟩ := Kd.S_slice HO742.out; subst eo27; obtain ⟨Ao28, co28, eo28⟩ := Kd.R_slice HO745.out; subst eo28) | ((with_reducible refine gate_callee (f := 61) rfl ?_); refine goesL_ (some 30) rfl rfl Try.func61 (by kernel_rfl) rfl #[.agg #[.int .i64 t739, .slice Ao27 t740.length co27], .slice Ao28 t743.length co28, .int .i64 a2] rfl (by (try simp only [List.map_toArray, List.map_cons, List.map_nil]); first | done | rfl | (simp only [List.length_drop, List.length_take]; rfl)) ?_; (with_reducible refine (spec_ScoreOf.calls k t739 _ _ t740 _ _ t743 a2 t746 t747 _ ?side1 ?side2 ?side3 ?side4 A16.out).mono ?_); (case side1 => repeat (first | exact (Kd.S_reads' HO742.out).2.2 | (with_reducible refine Kd.C_alloc ?_ _) | (with_reducible refine Kd.C_drewN ?_ _) | (with_reducible refine Kd.C_drew ?_))); (case side2 => exact (Kd.S_reads' HO742.out).2.1); (case side3 => repeat (first | exact (Kd.R_reads' HO745.out).2.2 | (with_reducible refine Kd.C_alloc ?_ _) | (with_reducible refine Kd.C_drewN ?_ _) | (with_reducible refine Kd.C_drew ?_))); (case side4 => exact (Kd.R_reads' HO745.out).2.1); rintro e w29 ⟨rfl, hb⟩; refine ⟨_, rfl, ?_⟩; have n0_ := aM (Kd.S_below (by (with_reducible repeat (first | apply Kd.S_alloc | apply Kd.S_drewN | apply Kd.S_drew)); exact HO742.out) hb); have n1_ := aM (Kd.R_below (by (with_reducible repeat (first | apply Kd.R_alloc | apply Kd.R_drewN | apply Kd.R_drew)); exact HO745.out) hb); have n2_ := aM (blk_below (g := gb736) (o := .cells #[.int .i64 a0_0, .slice A0_1 l0_1.length c0_1] 24 (0, 0)) (by (with_reducible repeat (first | refine blk_drewN ?_ _ | refine blk_drew ?_ | refine blk_alloc ?_ _)); exact BK736.out) hb); have n3_ := aM (below_step (by repeat (first | (with_reducible first | exact HB.out | apply below_alloc | apply pw_below_drewN | apply below_drew1 | refine below_set ?_ GE736.out) | exact HB.out)) hb); clear HO742; clear HO745; clear BK736; clear HB; have HO742 := n0_; have HO745 := n1_; have BK736 := n2_; have HB := n3_; clear n0_ n1_ n2_ n3_; (try clear hb); (try clear hb2); (try clear hk); (try clear hi); have hcz30_0 : w29.cell? ⟨gb736, 0, none⟩ = some (.int .i64 a0_0) := (blk_cell BK736.out 0).trans rfl; have hcz30_1 : w29.cell? ⟨gb736, 1, none⟩ = some (.slice A0_1 l0_1.length c0_1) := (blk_cell BK736.out 1).trans rfl; have hfz30_0 := blk_frozen BK736.out 0; have hfz30_1 := blk_frozen BK736.out 1) | ((with_reducible refine gate_callee (f := 18) rfl ?_); refine goesL_ (some 34) rfl rfl Try.func18 (by kernel_rfl) rfl #[.agg #[.int .i64 a0_0, .slice A0_1 l0_1.length c0_1]] rfl (by (try simp only [List.map_toArray, List.map_cons, List.map_nil]); first | done | rfl | (simp only [List.length_drop, List.length_take]; rfl)) ?_; (with_reducible refine (laws_toWords.calls k a0_0 _ _ l0_1 t748 t749 _ ?side1 ?side2 A17.out).mono ?_); (case side1 => repeat (first | exact (Kd.C_below HR0_1.out HB.out) | (with_reducible refine Kd.C_alloc ?_ _) | (with_reducible refine Kd.C_drewN ?_ _) | (with_reducible refine Kd.C_drew ?_))); (case side2 => exact HC0_1.out); rintro e w31 ⟨v750, rfl, ho0, hb⟩; refine ⟨_, rfl, ?_⟩; have n0_ := aM (Kd.S_elder' (by (with_reducible repeat (first | apply Kd.S_alloc | apply Kd.S_drewN | apply Kd.S_drew)); exact HO742.out) (Kd.S_base ho0) hb); have n1_ := aM (Kd.R_below (by (with_reducible repeat (first | apply Kd.R_alloc | apply Kd.R_drewN | apply Kd.R_drew)); exact HO745.out) hb); have n2_ := aM (Kd.S_lower (Kd.S_new' ho0 (Kd.S_lt (by (with_reducible repeat (first | apply Kd.S_alloc | apply Kd.S_drewN | apply Kd.S_drew)); exact HO742.out))) (below_size (by repeat (first | (with_reducible first | exact HB.out | apply below_alloc | apply pw_below_drewN | apply below_drew1 | refine below_set ?_ GE736.out) | exact HB.out)))); have n3_ := aM (blk_below (g := gb736) (o := .cells #[.int .i64 a0_0, .slice A0_1 l0_1.length c0_1] 24 (0, 0)) (by (with_reducible repeat (first | refine blk_drewN ?_ _ | refine blk_drew ?_ | refine blk_alloc ?_ _)); exact BK736.out) hb); have n4_ := aM (below_step (by repeat (first | (with_reducible first | exact HB.out | apply below_alloc | apply pw_below_drewN | apply below_drew1 | refine below_set ?_ GE736.out) | exact HB.out)) hb); clear HO742; clear HO745; clear BK736; clear HB; have HO742 := n0_; have HO745 := n1_; have HO751 := n2_; have BK736 := n3_; have HB := n4_; clear n0_ n1_ n2_ n3_ n4_; (try clear hb); (try clear hb2); (try clear hk); (try clear hi); (try clear ho0)) | ((with_reducible refine gate_dst (N := 10) rfl ?_); refine box_event ?hg (N := 10) ?hd (cs := #[.int .i64 0, .slice none 0 0]) (t := 33) ?hr ?_; (case hd => rfl); (case hg => rfl); (case hr => first | (go_simp; done) | (go_simp; rfl)); intro gb752 hg w32 hbox hb; have n0_ := aM (Kd.S_below (by (with_reducible repeat (first | apply Kd.S_alloc | apply Kd.S_drewN | apply Kd.S_drew)); exact HO742.out) hb); have n1_ := aM (Kd.R_below (by (with_reducible repeat (first | apply Kd.R_alloc | apply Kd.R_drewN | apply Kd.R_drew)); exact HO745.out) hb); have n2_ := aM (Kd.S_below (by (with_reducible repeat (first | apply Kd.S_alloc | apply Kd.S_drewN | apply Kd.S_drew)); exact HO751.out) hb); have n3_ := aM (blk_below (g := gb736) (o := .cells #[.int .i64 a0_0, .slice A0_1 l0_1.length c0_1] 24 (0, 0)) (by (with_reducible repeat (first | refine blk_drewN ?_ _ | refine blk_drew ?_ | refine blk_alloc ?_ _)); exact BK736.out) hb); have n4_ := aM (below_step (by repeat (first | (with_reducible first | exact HB.out | apply below_alloc | apply pw_below_drewN | apply below_drew1 | refine below_set ?_ GE736.out) | exact HB.out)) hb); have n5_ := aM (hbox); have n6_ := aM ((by rw [hg]; exact (below_size (by repeat (first | (with_reducible first | exact HB.out | apply below_alloc | apply pw_below_drewN | apply below_drew1 | refine below_set ?_ GE736.out) | exact HB.out))) : w.heap.size ≤ gb752)); have n7_ := aM ((by rw [hg]; exact (below_size (by repeat (first | (with_reducible first | exact HB.out | apply below_alloc | apply pw_below_drewN | apply below_drew1 | refine below_set ?_ GE736.out) | exact HB.out))) : w.heap.size ≤ gb752)); have n8_ := aM ((by rw [hg]; exact Nat.ne_of_lt (blk_lt (g := gb736) (o := .cells #[.int .i64 a0_0, .slice A0_1 l0_1.length c0_1] 24 (0, 0)) (by (with_reducible repeat (first | refine blk_drewN ?_ _ | refine blk_drew ?_ | refine blk_alloc ?_ _)); exact BK736.out)) : gb736 ≠ gb752)); have n9_ := aM ((by rw [hg]; exact Nat.ne_of_gt (blk_lt (g := gb736) (o := .cells #[.int .i64 a0_0, .slice A0_1 l0_1.length c0_1] 24 (0, 0)) (by (with_reducible repeat (first | refine blk_drewN ?_ _ | refine blk_drew ?_ | refine blk_alloc ?_ _)); exact BK736.out)) : gb752 ≠ gb736)); clear HO742; clear HO745; clear HO751; clear BK736; clear HB; have HO742 := n0_; have HO745 := n1_; have HO751 := n2_; have BK736 := n3_; have HB := n4_; have BK752 := n5_; have GW752 := n6_; have GE752 := n7_; have NB736_752 := n8_; have NB752_736 := n9_; clear n0_ n1_ n2_ n3_ n4_ n5_ n6_ n7_ n8_ n9_; clear hb hbox hg; have hnb33 := NB752_736.out; have hnc33 := NB736_752.out; have hcz34_0 : w32.cell? ⟨gb752, 0, none⟩ = some (.int .i64 0) := (blk_cell BK752.out 0).trans rfl; have hcz34_1 : w32.cell? ⟨gb752, 1, none⟩ = some (.slice none 0 0) := (blk_cell BK752.out 1).trans rfl; have hfz34_0 := blk_frozen BK752.out 0; have hfz34_1 := blk_frozen BK752.out 1; obtain ⟨Ao35, co35, eo35⟩ := Kd.S_slice HO751.out; subst eo35) | ((with_reducible refine gate_callee (f := 19) rfl ?_); refine goesL_ (some 36) rfl rfl Try.func19 (by kernel_rfl) rfl #[.slice A1 l1.length c1] rfl (by (try simp only [List.map_toArray, List.map_cons, List.map_nil]); first | done | rfl | (simp only [List.length_drop, List.length_take]; rfl)) ?_; (with_reducible refine (laws_toStringS.calls k _ _ l1 t753 _ ?side1 ?side2 A18.out).mono ?_); (case side1 => exact Kd.C_below HR1.out (by repeat (first | (with_reducible first | exact HB.out | apply below_alloc | apply pw_below_drewN | apply below_drew1 | refine below_set ?_ GE736.out | refine below_set ?_ GE752.out) | exact HB.out))); (case side2 => exact HC1.out); rintro e w36 ⟨v754, rfl, ho0, hb⟩; refine ⟨_, rfl, ?_⟩; have n0_ := aM (Kd.S_below (by (with_reducible repeat (first | apply Kd.S_alloc | apply Kd.S_drewN | apply Kd.S_drew)); exact (Kd.S_mono (Kd.S_far (p := ⟨gb752, 1, none⟩) (Kd.S_far (p := ⟨gb752, 0, none⟩) (Kd.S_types HO742.out BK752.out (by decide)) (fun _ hk => hk.2) (.int .i64 t748)) (fun _ hk => hk.2) (.slice Ao35 t749.length co35)) (fun _ h_ => h_.1))) hb); have n1_ := aM (Kd.R_elder' (by (with_reducible repeat (first | apply Kd.R_alloc | apply Kd.R_drewN | apply Kd.R_drew)); exact (Kd.R_mono (Kd.R_far (p := ⟨gb752, 1, none⟩) (Kd.R_far (p := ⟨gb752, 0, none⟩) (Kd.R_types HO745.out BK752.out (by decide)) (fun _ hk => hk.2) (.int .i64 t748)) (fun _ hk => hk.2) (.slice Ao35 t749.length co35)) (fun _ h_ => h_.1))) (Kd.R_base ho0) hb); have n2_ := aM (Kd.S_below (by (with_reducible repeat (first | apply Kd.S_alloc | apply Kd.S_drewN | apply Kd.S_drew)); exact (Kd.S_mono (Kd.S_far (p := ⟨gb752, 1, none⟩) (Kd.S_far (p := ⟨gb752, 0, none⟩) (Kd.S_types HO751.out BK752.out (by decide)) (fun _ hk => hk.2) (.int .i64 t748)) (fun _ hk => hk.2) (.slice Ao35 t749.length co35)) (fun _ h_ => h_.1))) hb); have n3_ := aM (Kd.R_lower (Kd.R_new' ho0 (Kd.R_lt (by (with_reducible repeat (first | apply Kd.R_alloc | apply Kd.R_drewN | apply Kd.R_drew)); exact (Kd.R_mono (Kd.R_far (p := ⟨gb752, 1, none⟩) (Kd.R_far (p := ⟨gb752, 0, none⟩) (Kd.R_types HO745.out BK752.out (by decide)) (fun _ hk => hk.2) (.int .i64 t748)) (fun _ hk => hk.2) (.slice Ao35 t749.length co35)) (fun _ h_ => h_.1))))) (below_size (by repeat (first | (with_reducible first | exact HB.out | apply below_alloc | apply pw_below_drewN | apply below_drew1 | refine below_set ?_ GE736.out | refine below_set ?_ GE752.out) | exact HB.out)))); have n4_ := aM (blk_below (g := gb736) (o := .cells #[.int .i64 a0_0, .slice A0_1 l0_1.length c0_1] 24 (0, 0)) (by (with_reducible repeat (first | refine blk_drewN ?_ _ | refine blk_drew ?_ | refine blk_alloc ?_ _)); refine blk_far ?_ NB736_752.out _; (with_reducible repeat (first | refine blk_drewN ?_ _ | refine blk_drew ?_ | refine blk_alloc ?_ _)); refine blk_far ?_ NB736_752.out _; (with_reducible repeat (first | refine blk_drewN ?_ _ | refine blk_drew ?_ | refine blk_alloc ?_ _)); exact BK736.out) hb); have n5_ := aM (blk_below (g := gb752) (o := .cells #[.int .i64 t748, .slice Ao35 t749.length co35] 33 (0, 0)) (by (with_reducible repeat (first | refine blk_drewN ?_ _ | refine blk_drew ?_ | refine blk_alloc ?_ _)); refine blk_put (cs := #[.int .i64 t748, .slice none 0 0]) ?_ 1 _ rfl; (with_reducible repeat (first | refine blk_drewN ?_ _ | refine blk_drew ?_ | refine blk_alloc ?_ _)); refine blk_put (cs := #[.int .i64 0, .slice none 0 0]) ?_ 0 _ rfl; (with_reducible repeat (first | refine blk_drewN ?_ _ | refine blk_drew ?_ | refine blk_alloc ?_ _)); exact BK752.out) hb); have n6_ := aM (below_step (by repeat (first | (with_reducible first | exact HB.out | apply below_alloc | apply pw_below_drewN | apply below_drew1 | refine below_set ?_ GE736.out | refine below_set ?_ GE752.out) | exact HB.out)) hb); clear HO742; clear HO745; clear HO751; clear BK736; clear BK752; clear HB; have HO742 := n0_; have HO745 := n1_; have HO751 := n2_; have HO755 := n3_; have BK736 := n4_; have BK752 := n5_; have HB := n6_; clear n0_ n1_ n2_ n3_ n4_ n5_ n6_; (try clear hb); (try clear hb2); (try clear hk); (try clear hi); (try clear ho0); have hcz37_0 : w36.cell? ⟨gb752, 0, none⟩ = some (.int .i64 t748) := (blk_cell BK752.out 0).trans rfl; have hcz37_1 : w36.cell? ⟨gb752, 1, none⟩ = some (.slice Ao35 t749.length co35) := (blk_cell BK752.out 1).trans rfl; have hfz37_0 := blk_frozen BK752.out 0; have hfz37_1 := blk_frozen BK752.out 1; obtain ⟨Ao38, co38, eo38⟩ := Kd.R_slice HO755.out; subst eo38) | ((with_reducible refine gate_callee (f := 62) rfl ?_); refine goesL_ (some 41) rfl rfl Try.func62 (by kernel_rfl) rfl #[.agg #[.int .i64 t748, .slice Ao35 t749.length co35], .slice Ao38 t753.length co38, .int .i64 a2] rfl (by (try simp only [List.map_toArray, List.map_cons, List.map_nil]); first | done | rfl | (simp only [List.length_drop, List.length_take]; rfl)) ?_; (with_reducible refine (impl_ScoreOf.calls k t748 _ _ t749 _ _ t753 a2 t756 t757 _ ?side1 ?side2 ?side3 ?side4 A19.out).mono ?_); (case side1 => repeat (first | exact (Kd.S_reads' HO751.out).2.2 | (with_reducible refine Kd.C_alloc ?_ _) | (with_reducible refine Kd.C_drewN ?_ _) | (with_reducible refine Kd.C_drew ?_))); (case side2 => exact (Kd.S_reads' HO751.out).2.1); (case side3 => repeat (first | exact (Kd.R_reads' HO755.out).2.2 | (with_reducible refine Kd.C_alloc ?_ _) | (with_reducible refine Kd.C_drewN ?_ _) | (with_reducible refine Kd.C_drew ?_))); (case side4 => exact (Kd.R_reads' HO755.out).2.1); rintro e w39 ⟨rfl, hb⟩; refine ⟨_, rfl, ?_⟩; have n0_ := aM (Kd.S_below (by (with_reducible repeat (first | apply Kd.S_alloc | apply Kd.S_drewN | apply Kd.S_drew)); exact HO742.out) hb); have n1_ := aM (Kd.R_below (by (with_reducible repeat (first | apply Kd.R_alloc | apply Kd.R_drewN | apply Kd.R_drew)); exact HO745.out) hb); have n2_ := aM (Kd.S_below (by (with_reducible repeat (first | apply Kd.S_alloc | apply Kd.S_drewN | apply Kd.S_drew)); exact HO751.out) hb); have n3_ := aM (Kd.R_below (by (with_reducible repeat (first | apply Kd.R_alloc | apply Kd.R_drewN | apply Kd.R_drew)); exact HO755.out) hb); have n4_ := aM (blk_below (g := gb736) (o := .cells #[.int .i64 a0_0, .slice A0_1 l0_1.length c0_1] 24 (0, 0)) (by (with_reducible repeat (first | refine blk_drewN ?_ _ | refine blk_drew ?_ | refine blk_alloc ?_ _)); exact BK736.out) hb); have n5_ := aM (blk_below (g := gb752) (o := .cells #[.int .i64 t748, .slice Ao35 t749.length co35] 33 (0, 0)) (by (with_reducible repeat (first | refine blk_drewN ?_ _ | refine blk_drew ?_ | refine blk_alloc ?_ _)); exact BK752.out) hb); have n6_ := aM (below_step (by repeat (first | (with_reducible first | exact HB.out | apply below_alloc | apply pw_below_drewN | apply below_drew1 | refine below_set ?_ GE736.out | refine below_set ?_ GE752.out) | exact HB.out)) hb); clear HO742; clear HO745; clear HO751; clear HO755; clear BK736; clear BK752; clear HB; have HO742 := n0_; have HO745 := n1_; have HO751 := n2_; have HO755 := n3_; have BK736 := n4_; have BK752 := n5_; have HB := n6_; clear n0_ n1_ n2_ n3_ n4_ n5_ n6_; (try clear hb); (try clear hb2); (try clear hk); (try clear hi)))
   (try simp only [Act.put, zSA, zSB, zSC])
   go_cut [51] (fun v51 wc => ∃ (kq : Nat) (x51_19 : Bool), v51 = .bool x51_19 ∧ Aside0 (laws_FnExactScoreOf.j0 kq l1 t753 x51_19 a0_0 l0_1 t748 t749 = some r) ∧ Aside0 (kq ≤ k) ∧ Aside0 (Kd.R Kd.string 9 wc w.heap.size (fun _ => True) (.slice Ao38 t753.length co38) t753) ∧ Aside0 (Kd.S k102 102 wc w.heap.size (fun _ => True) (.slice Ao35 t749.length co35) t749) ∧ Aside0 (wc.heap[gb736]? = some (.cells #[.int .i64 a0_0, (.slice A0_1 l0_1.length c0_1)] 24 (0, 0))) ∧ Aside0 (wc.heap[gb752]? = some (.cells #[.int .i64 t748, (.slice Ao35 t749.length co35)] 33 (0, 0))) ∧ Aside0 (Below w.heap.size w wc))
   case first =>
    have H := HC20.out
    clear HC20
    by_cases c40 : t756 = t746
    ·
     rw [if_pos c40] at H
     have c40b0 : (t756 == t746) = true := beq_iff_eq.mpr c40
     have c40b1 : (t756 != t746) = false := bne_eq_false_iff_eq.mpr c40
     clear c40
     (first | rw [c40b0] | (simp only [i64_w, i32_w]; rw [c40b0]) | skip)
     have H' := aM H
     clear H
     go_wp2
     go_meet
     case rel => exact ⟨_, ((t757 != t747)), (by first | rfl | (simp; done) | (simp [*]; done)), H', ⟨by first | omega | exact Nat.le_refl _⟩, ⟨by (with_reducible repeat (first | apply Kd.R_alloc | apply Kd.R_drewN | apply Kd.R_drew)); exact Kd.R_mono HO755.out (fun _ hk => trivial)⟩, ⟨by (with_reducible repeat (first | apply Kd.S_alloc | apply Kd.S_drewN | apply Kd.S_drew)); exact Kd.S_mono HO751.out (fun _ hk => trivial)⟩, ⟨by (with_reducible repeat (first | refine blk_drewN ?_ _ | refine blk_drew ?_ | refine blk_alloc ?_ _)); exact BK736.out⟩, ⟨by (with_reducible repeat (first | refine blk_drewN ?_ _ | refine blk_drew ?_ | refine blk_alloc ?_ _)); exact BK752.out⟩, ⟨by repeat (first | (with_reducible first | exact HB.out | apply below_alloc | apply pw_below_drewN | apply below_drew1 | refine below_set ?_ GE736.out | refine below_set ?_ GE752.out) | exact HB.out)⟩⟩
    ·
     rw [if_neg c40] at H
     have c40b0 : (t756 == t746) = false := beq_eq_false_iff_ne.mpr c40
     have c40b1 : (t756 != t746) = true := bne_iff_ne.mpr c40
     (first | rw [c40b0] | (simp only [i64_w, i32_w]; rw [c40b0]) | skip)
     have H' := aM H
     clear H
     go_wp2
     go_meet
     case rel => exact ⟨_, (true), (by first | rfl | (simp; done) | (simp [*]; done)), H', ⟨by first | omega | exact Nat.le_refl _⟩, ⟨by (with_reducible repeat (first | apply Kd.R_alloc | apply Kd.R_drewN | apply Kd.R_drew)); exact Kd.R_mono HO755.out (fun _ hk => trivial)⟩, ⟨by (with_reducible repeat (first | apply Kd.S_alloc | apply Kd.S_drewN | apply Kd.S_drew)); exact Kd.S_mono HO751.out (fun _ hk => trivial)⟩, ⟨by (with_reducible repeat (first | refine blk_drewN ?_ _ | refine blk_drew ?_ | refine blk_alloc ?_ _)); exact BK736.out⟩, ⟨by (with_reducible repeat (first | refine blk_drewN ?_ _ | refine blk_drew ?_ | refine blk_alloc ?_ _)); exact BK752.out⟩, ⟨by repeat (first | (with_reducible first | exact HB.out | apply below_alloc | apply pw_below_drewN | apply below_drew1 | refine below_set ?_ GE736.out | refine below_set ?_ GE752.out) | exact HB.out)⟩⟩
   case rest =>
    clear HC20
    try clear c1
    try clear p2
    try clear c3
    try clear c4
    try clear c5
    try clear c5b0
    try clear c6
    try clear c10
    try clear c10b0
    try clear c11
    try clear c15
    try clear c16
    try clear c18
    try clear c19
    try clear c33
    try clear c40
    try clear c40b0
    try clear c40b1
    try clear hcz12_0
    try clear hcz12_1
    try clear hcz22_0
    try clear hcz22_1
    try clear hcz24_0
    try clear hcz24_1
    try clear hcz30_0
    try clear hcz30_1
    try clear hcz34_0
    try clear hcz34_1
    try clear hcz37_0
    try clear hcz37_1
    try clear hcz7_0
    try clear hcz7_1
    try clear hfz12_0
    try clear hfz12_1
    try clear hfz22_0
    try clear hfz22_1
    try clear hfz24_0
    try clear hfz24_1
    try clear hfz30_0
    try clear hfz30_1
    try clear hfz34_0
    try clear hfz34_1
    try clear hfz37_0
    try clear hfz37_1
    try clear hfz7_0
    try clear hfz7_1
    obtain ⟨kq, x51_19, rfl, HA, HJ19, HO_11, HO_753001, BK736, BK752, HB⟩ := hcut
    cases kq with
    | zero => exact absurd HA.out (by simp [laws_FnExactScoreOf.j0])
    | succ kj19 =>
     have H := HA.out
     clear HA
     simp only [laws_FnExactScoreOf.j0] at H
     by_cases c41 : x51_19 = true
     ·
      subst c41
      have H1 : (some false) = some r := by rw [if_pos rfl] at H; exact H
      clear H
      have H := H1
      clear H1
      obtain rfl := Option.some.inj H
      go_wp2
      go_ret
      exact ⟨by first | rfl | (simp [errW_none, errW_some] <;> rfl) | (simp [*, errW_none, errW_some] <;> rfl), by repeat (first | (with_reducible first | exact HB.out | apply below_alloc | apply pw_below_drewN | apply below_drew1 | refine below_set ?_ GE736.out | refine below_set ?_ GE752.out) | exact HB.out)⟩
     ·
      replace c41 := Bool.eq_false_iff.mpr c41
      subst c41
      have H1 : ((laws_toWords.f kj19 a0_0 l0_1).bind fun bt758 => ((laws_eqWords.f kj19 t748 t749 bt758.1 bt758.2).bind fun t762 => (if t762 = true then ((laws_toStringS.f kj19 l1).bind fun t763 => ((laws_eqStringS.f kj19 t753 t763).bind fun t766 => (if t766 = true then (some true) else (some false)))) else (some false)))) = some r := by rw [if_neg (show ¬ (false = true) by decide)] at H; exact H
      clear H
      have H := H1
      clear H1
      replace H := Option.bind_eq_some_iff.mp H
      obtain ⟨⟨t758, t759⟩, A420, H⟩ := H
      replace H : ((laws_eqWords.f kj19 t748 t749 t758 t759).bind fun t762 => (if t762 = true then ((laws_toStringS.f kj19 l1).bind fun t763 => ((laws_eqStringS.f kj19 t753 t763).bind fun t766 => (if t766 = true then (some true) else (some false)))) else (some false))) = some r := H
      have A42 := aM A420
      clear A420
      replace H := Option.bind_eq_some_iff.mp H
      obtain ⟨t762, A430, H⟩ := H
      replace H : (if t762 = true then ((laws_toStringS.f kj19 l1).bind fun t763 => ((laws_eqStringS.f kj19 t753 t763).bind fun t766 => (if t766 = true then (some true) else (some false)))) else (some false)) = some r := H
      have A43 := aM A430
      clear A430
      by_cases c44 : t762 = true
      ·
       subst c44
       have H1 : ((laws_toStringS.f kj19 l1).bind fun t763 => ((laws_eqStringS.f kj19 t753 t763).bind fun t766 => (if t766 = true then (some true) else (some false)))) = some r := by rw [if_pos rfl] at H; exact H
       clear H
       have H := H1
       clear H1
       replace H := Option.bind_eq_some_iff.mp H
       obtain ⟨t763, A450, H⟩ := H
       replace H : ((laws_eqStringS.f kj19 t753 t763).bind fun t766 => (if t766 = true then (some true) else (some false))) = some r := H
       have A45 := aM A450
       clear A450
       replace H := Option.bind_eq_some_iff.mp H
       obtain ⟨t766, A460, H⟩ := H
       replace H : (if t766 = true then (some true) else (some false)) = some r := H
       have A46 := aM A460
       clear A460
       by_cases c47 : t766 = true
       ·
        subst c47
        have H1 : (some true) = some r := by rw [if_pos rfl] at H; exact H
        clear H
        have H := H1
        clear H1
        obtain rfl := Option.some.inj H
        try go_wp2
        have n0_ := aM (Kd.R_drew HO_11.out)
        have n1_ := aM (Kd.S_drew HO_753001.out)
        have n2_ := aM (blk_drew BK736.out)
        have n3_ := aM (blk_drew BK752.out)
        have n4_ := aM (below_drew1 HB.out)
        clear HO_11
        clear HO_753001
        clear BK736
        clear BK752
        clear HB
        have HO_11 := n0_
        have HO_753001 := n1_
        have BK736 := n2_
        have BK752 := n3_
        have HB := n4_
        clear n0_ n1_ n2_ n3_ n4_
        refine start_ (n := 5) (S := fun w' => w'.cell? ⟨gb752, 0, none⟩ = some (.int .i64 t748) ∧ w'.cell? ⟨gb752, 1, none⟩ = some (.slice Ao35 t749.length co35) ∧ w'.cell? ⟨gb736, 0, none⟩ = some (.int .i64 a0_0) ∧ w'.cell? ⟨gb736, 1, none⟩ = some (.slice A0_1 l0_1.length c0_1)) (ds := []) (bq 5 0) (by kernel_rfl) rfl (by kernel_rfl) ⟨(blk_cell BK752.out 0).trans rfl, (blk_cell BK752.out 1).trans rfl, (blk_cell BK736.out 0).trans rfl, (blk_cell BK736.out 1).trans rfl⟩ (fun hHeld => ?_)
        generalize wc.drew = w48 at HO_11 HO_753001 BK736 BK752 HB hHeld ⊢
        refine take_ (i := 0) (N := some 52) (v := ?_) (a' := ?_) (bq 5 1) rfl rfl (by kernel_rfl) (fun _ _ _ h => h) (Or.inl ⟨by rfl, ?_⟩) hHeld ?_ ?_; rotate_left; (rintro w' ⟨s0, s1, s2, s3⟩; go_simp; (with_reducible rfl)); rotate_left; (simp only [Act.put, zSA, zSB, zSC, i64_w, i32_w]; rfl)
        refine take_ (i := 1) (N := some 53) (v := ?_) (a' := ?_) (bq 5 3) rfl rfl (by kernel_rfl) (fun _ _ _ h => h) (Or.inl ⟨by rfl, ?_⟩) hHeld ?_ ?_; rotate_left; (rintro w' ⟨s0, s1, s2, s3⟩; go_simp; (with_reducible rfl)); rotate_left; (simp only [Act.put, zSA, zSB, zSC, i64_w, i32_w]; rfl)
        refine one_ (i := 2) (N := some 54) (bq 5 7) rfl rfl (by kernel_rfl) (by decide) (fun K hK => ?_)
        refine goes_ Try.func18 (by kernel_rfl) rfl #[.agg #[.int .i64 a0_0, .slice A0_1 l0_1.length c0_1]] (by rfl) rfl rfl (by (try simp only [List.map_toArray, List.map_cons, List.map_nil]); first | done | rfl | (simp only [List.length_drop, List.length_take]; rfl)) ?_
        with_reducible refine (laws_toWords.calls kj19 a0_0 _ _ l0_1 t758 t759 _ ?side1 ?side2 A42.out).mono ?_
        (case side1 => repeat (first | exact (Kd.C_below HR0_1.out HB.out) | (with_reducible refine Kd.C_alloc ?_ _) | (with_reducible refine Kd.C_drewN ?_ _) | (with_reducible refine Kd.C_drew ?_)))
        (case side2 => exact HC0_1.out)
        rintro e w49 ⟨v760, rfl, ho0, hb⟩
        refine ⟨_, rfl, ?_⟩
        have n0_ := aM (Kd.R_below (by (with_reducible repeat (first | apply Kd.R_alloc | apply Kd.R_drewN | apply Kd.R_drew)); exact HO_11.out) hb)
        have n1_ := aM (Kd.S_elder' (by (with_reducible repeat (first | apply Kd.S_alloc | apply Kd.S_drewN | apply Kd.S_drew)); exact HO_753001.out) (Kd.S_base ho0) hb)
        have n2_ := aM (Kd.S_lower (Kd.S_new' ho0 (Kd.S_lt (by (with_reducible repeat (first | apply Kd.S_alloc | apply Kd.S_drewN | apply Kd.S_drew)); exact HO_753001.out))) (below_size (by repeat (first | (with_reducible first | exact HB.out | apply below_alloc | apply pw_below_drewN | apply below_drew1 | refine below_set ?_ GE736.out | refine below_set ?_ GE752.out) | exact HB.out))))
        have n3_ := aM (blk_below (g := gb736) (o := .cells #[.int .i64 a0_0, .slice A0_1 l0_1.length c0_1] 24 (0, 0)) (by (with_reducible repeat (first | refine blk_drewN ?_ _ | refine blk_drew ?_ | refine blk_alloc ?_ _)); exact BK736.out) hb)
        have n4_ := aM (blk_below (g := gb752) (o := .cells #[.int .i64 t748, .slice Ao35 t749.length co35] 33 (0, 0)) (by (with_reducible repeat (first | refine blk_drewN ?_ _ | refine blk_drew ?_ | refine blk_alloc ?_ _)); exact BK752.out) hb)
        have n5_ := aM (below_step (by repeat (first | (with_reducible first | exact HB.out | apply below_alloc | apply pw_below_drewN | apply below_drew1 | refine below_set ?_ GE736.out | refine below_set ?_ GE752.out) | exact HB.out)) hb)
        clear HO_11
        clear HO_753001
        clear BK736
        clear BK752
        clear HB
        have HO_11 := n0_
        have HO_753001 := n1_
        have HO761 := n2_
        have BK736 := n3_
        have BK752 := n4_
        have HB := n5_
        clear n0_ n1_ n2_ n3_ n4_ n5_
        (try clear hb)
        (try clear hb2)
        (try clear hk)
        (try clear hi)
        (try clear ho0)
        obtain ⟨Ao50, co50, eo50⟩ := Kd.S_slice HO761.out
        (first | subst eo50 | (injection eo50 with f1_ f2_ f3_; have f4_ := f1_.symm; have f5_ := f3_.symm; clear f1_ f2_ f3_; subst f4_; subst f5_))
        refine hK.out _ _ ⟨(blk_cell BK752.out 0).trans rfl, (blk_cell BK752.out 1).trans rfl, (blk_cell BK736.out 0).trans rfl, (blk_cell BK736.out 1).trans rfl⟩ (fun hHeld => ?_)
        clear hK K
        refine norm_ (a' := ?_) ?_ ?_
        rotate_left
        ·
         show Act.put _ (some 54) _ = _
         simp only [Act.put, zSA, zSB, zSC, i64_w, i32_w]
         rfl
        refine one_ (i := 3) (N := some 55) (bq 5 15) rfl rfl (by kernel_rfl) (by decide) (fun K hK => ?_)
        refine goes_ Try.func22 (by kernel_rfl) rfl #[.agg #[.int .i64 t748, .slice Ao35 t749.length co35], .agg #[.int .i64 t758, .slice Ao50 t759.length co50]] (by rfl) rfl rfl (by (try simp only [List.map_toArray, List.map_cons, List.map_nil]); first | done | rfl | (simp only [List.length_drop, List.length_take]; rfl)) ?_
        with_reducible refine (laws_eqWords.calls kj19 t748 _ _ t749 t758 _ _ t759 true _ ?side1 ?side2 ?side3 ?side4 A43.out).mono ?_
        (case side1 => repeat (first | exact (Kd.S_reads' HO_753001.out).2.2 | (with_reducible refine Kd.C_alloc ?_ _) | (with_reducible refine Kd.C_drewN ?_ _) | (with_reducible refine Kd.C_drew ?_)))
        (case side2 => exact (Kd.S_reads' HO_753001.out).2.1)
        (case side3 => repeat (first | exact (Kd.S_reads' HO761.out).2.2 | (with_reducible refine Kd.C_alloc ?_ _) | (with_reducible refine Kd.C_drewN ?_ _) | (with_reducible refine Kd.C_drew ?_)))
        (case side4 => exact (Kd.S_reads' HO761.out).2.1)
        rintro e w51 ⟨rfl, hb⟩
        refine ⟨_, rfl, ?_⟩
        have n0_ := aM (Kd.R_below (by (with_reducible repeat (first | apply Kd.R_alloc | apply Kd.R_drewN | apply Kd.R_drew)); exact HO_11.out) hb)
        have n1_ := aM (Kd.S_below (by (with_reducible repeat (first | apply Kd.S_alloc | apply Kd.S_drewN | apply Kd.S_drew)); exact HO_753001.out) hb)
        have n2_ := aM (Kd.S_below (by (with_reducible repeat (first | apply Kd.S_alloc | apply Kd.S_drewN | apply Kd.S_drew)); exact HO761.out) hb)
        have n3_ := aM (blk_below (g := gb736) (o := .cells #[.int .i64 a0_0, .slice A0_1 l0_1.length c0_1] 24 (0, 0)) (by (with_reducible repeat (first | refine blk_drewN ?_ _ | refine blk_drew ?_ | refine blk_alloc ?_ _)); exact BK736.out) hb)
        have n4_ := aM (blk_below (g := gb752) (o := .cells #[.int .i64 t748, .slice Ao35 t749.length co35] 33 (0, 0)) (by (with_reducible repeat (first | refine blk_drewN ?_ _ | refine blk_drew ?_ | refine blk_alloc ?_ _)); exact BK752.out) hb)
        have n5_ := aM (below_step (by repeat (first | (with_reducible first | exact HB.out | apply below_alloc | apply pw_below_drewN | apply below_drew1 | refine below_set ?_ GE736.out | refine below_set ?_ GE752.out) | exact HB.out)) hb)
        clear HO_11
        clear HO_753001
        clear HO761
        clear BK736
        clear BK752
        clear HB
        have HO_11 := n0_
        have HO_753001 := n1_
        have HO761 := n2_
        have BK736 := n3_
        have BK752 := n4_
        have HB := n5_
        clear n0_ n1_ n2_ n3_ n4_ n5_
        (try clear hb)
        (try clear hb2)
        (try clear hk)
        (try clear hi)
        refine hK.out _ _ ⟨(blk_cell BK752.out 0).trans rfl, (blk_cell BK752.out 1).trans rfl, (blk_cell BK736.out 0).trans rfl, (blk_cell BK736.out 1).trans rfl⟩ (fun hHeld => ?_)
        clear hK K
        refine norm_ (a' := ?_) ?_ ?_
        rotate_left
        ·
         show Act.put _ (some 55) _ = _
         simp only [Act.put, zSA, zSB, zSC, i64_w, i32_w]
         rfl
        refine pure_ (i := 4) (N := some 56) (v := ?_) (a' := ?_) (bq 5 31) rfl rfl (by kernel_rfl) (fun _ _ _ h => h) (Or.inl ⟨by rfl, ?_⟩) ?_ ?_; rotate_left; (intro w'; go_simp; (with_reducible rfl)); rotate_left; (simp only [Act.put, zSA, zSB, zSC, i64_w, i32_w]; rfl)
        refine done_ (by kernel_rfl) ?_
        try go_wp2_with (first | ((with_reducible refine gate_callee (f := 19) rfl ?_); refine goesL_ (some 59) rfl rfl Try.func19 (by kernel_rfl) rfl #[.slice A1 l1.length c1] rfl (by (try simp only [List.map_toArray, List.map_cons, List.map_nil]); first | done | rfl | (simp only [List.length_drop, List.length_take]; rfl)) ?_; (with_reducible refine (laws_toStringS.calls kj19 _ _ l1 t763 _ ?side1 ?side2 A45.out).mono ?_); (case side1 => repeat (first | exact (Kd.C_below HR1.out HB.out) | (with_reducible refine Kd.C_alloc ?_ _) | (with_reducible refine Kd.C_drewN ?_ _) | (with_reducible refine Kd.C_drew ?_))); (case side2 => exact HC1.out); rintro e w52 ⟨v764, rfl, ho0, hb⟩; refine ⟨_, rfl, ?_⟩; have n0_ := aM (Kd.R_elder' (by (with_reducible repeat (first | apply Kd.R_alloc | apply Kd.R_drewN | apply Kd.R_drew)); exact HO_11.out) (Kd.R_base ho0) hb); have n1_ := aM (Kd.S_below (by (with_reducible repeat (first | apply Kd.S_alloc | apply Kd.S_drewN | apply Kd.S_drew)); exact HO_753001.out) hb); have n2_ := aM (Kd.S_below (by (with_reducible repeat (first | apply Kd.S_alloc | apply Kd.S_drewN | apply Kd.S_drew)); exact HO761.out) hb); have n3_ := aM (Kd.R_lower (Kd.R_new' ho0 (Kd.R_lt (by (with_reducible repeat (first | apply Kd.R_alloc | apply Kd.R_drewN | apply Kd.R_drew)); exact HO_11.out))) (below_size (by repeat (first | (with_reducible first | exact HB.out | apply below_alloc | apply pw_below_drewN | apply below_drew1 | refine below_set ?_ GE736.out | refine below_set ?_ GE752.out) | exact HB.out)))); have n4_ := aM (blk_below (g := gb736) (o := .cells #[.int .i64 a0_0, .slice A0_1 l0_1.length c0_1] 24 (0, 0)) (by (with_reducible repeat (first | refine blk_drewN ?_ _ | refine blk_drew ?_ | refine blk_alloc ?_ _)); exact BK736.out) hb); have n5_ := aM (blk_below (g := gb752) (o := .cells #[.int .i64 t748, .slice Ao35 t749.length co35] 33 (0, 0)) (by (with_reducible repeat (first | refine blk_drewN ?_ _ | refine blk_drew ?_ | refine blk_alloc ?_ _)); exact BK752.out) hb); have n6_ := aM (below_step (by repeat (first | (with_reducible first | exact HB.out | apply below_alloc | apply pw_below_drewN | apply below_drew1 | refine below_set ?_ GE736.out | refine below_set ?_ GE752.out) | exact HB.out)) hb); clear HO_11; clear HO_753001; clear HO761; clear BK736; clear BK752; clear HB; have HO_11 := n0_; have HO_753001 := n1_; have HO761 := n2_; have HO765 := n3_; have BK736 := n4_; have BK752 := n5_; have HB := n6_; clear n0_ n1_ n2_ n3_ n4_ n5_ n6_; (try clear hb); (try clear hb2); (try clear hk); (try clear hi); (try clear ho0); obtain ⟨Ao53, co53, eo53⟩ := Kd.R_slice HO765.out; subst eo53) | ((with_reducible refine gate_callee (f := 23) rfl ?_); refine goesL_ (some 60) rfl rfl Try.func23 (by kernel_rfl) rfl #[.slice Ao38 t753.length co38, .slice Ao53 t763.length co53] rfl (by (try simp only [List.map_toArray, List.map_cons, List.map_nil]); first | done | rfl | (simp only [List.length_drop, List.length_take]; rfl)) ?_; (with_reducible refine (laws_eqStringS.calls kj19 _ _ t753 _ _ t763 true _ ?side1 ?side2 ?side3 ?side4 A46.out).mono ?_); (case side1 => repeat (first | exact (Kd.R_reads' HO_11.out).2.2 | (with_reducible refine Kd.C_alloc ?_ _) | (with_reducible refine Kd.C_drewN ?_ _) | (with_reducible refine Kd.C_drew ?_))); (case side2 => exact (Kd.R_reads' HO_11.out).2.1); (case side3 => repeat (first | exact (Kd.R_reads' HO765.out).2.2 | (with_reducible refine Kd.C_alloc ?_ _) | (with_reducible refine Kd.C_drewN ?_ _) | (with_reducible refine Kd.C_drew ?_))); (case side4 => exact (Kd.R_reads' HO765.out).2.1); rintro e w' ⟨rfl, ⟨nd, rfl⟩⟩; refine ⟨_, rfl, ?_⟩))
        go_ret
        exact ⟨by first | rfl | (simp [errW_none, errW_some] <;> rfl) | (simp [*, errW_none, errW_some] <;> rfl), by repeat (first | (with_reducible first | exact HB.out | apply below_alloc | apply pw_below_drewN | apply below_drew1 | refine below_set ?_ GE736.out | refine below_set ?_ GE752.out) | exact HB.out)⟩
       ·
        replace c47 := Bool.eq_false_iff.mpr c47
        subst c47
        have H1 : (some false) = some r := by rw [if_neg (show ¬ (false = true) by decide)] at H; exact H
        clear H
        have H := H1
        clear H1
        obtain rfl := Option.some.inj H
        try go_wp2
        have n0_ := aM (Kd.R_drew HO_11.out)
        have n1_ := aM (Kd.S_drew HO_753001.out)
        have n2_ := aM (blk_drew BK736.out)
        have n3_ := aM (blk_drew BK752.out)
        have n4_ := aM (below_drew1 HB.out)
        clear HO_11
        clear HO_753001
        clear BK736
        clear BK752
        clear HB
        have HO_11 := n0_
        have HO_753001 := n1_
        have BK736 := n2_
        have BK752 := n3_
        have HB := n4_
        clear n0_ n1_ n2_ n3_ n4_
        refine start_ (n := 5) (S := fun w' => w'.cell? ⟨gb752, 0, none⟩ = some (.int .i64 t748) ∧ w'.cell? ⟨gb752, 1, none⟩ = some (.slice Ao35 t749.length co35) ∧ w'.cell? ⟨gb736, 0, none⟩ = some (.int .i64 a0_0) ∧ w'.cell? ⟨gb736, 1, none⟩ = some (.slice A0_1 l0_1.length c0_1)) (ds := []) (bq 5 0) (by kernel_rfl) rfl (by kernel_rfl) ⟨(blk_cell BK752.out 0).trans rfl, (blk_cell BK752.out 1).trans rfl, (blk_cell BK736.out 0).trans rfl, (blk_cell BK736.out 1).trans rfl⟩ (fun hHeld => ?_)
        generalize wc.drew = w54 at HO_11 HO_753001 BK736 BK752 HB hHeld ⊢
        refine take_ (i := 0) (N := some 52) (v := ?_) (a' := ?_) (bq 5 1) rfl rfl (by kernel_rfl) (fun _ _ _ h => h) (Or.inl ⟨by rfl, ?_⟩) hHeld ?_ ?_; rotate_left; (rintro w' ⟨s0, s1, s2, s3⟩; go_simp; (with_reducible rfl)); rotate_left; (simp only [Act.put, zSA, zSB, zSC, i64_w, i32_w]; rfl)
        refine take_ (i := 1) (N := some 53) (v := ?_) (a' := ?_) (bq 5 3) rfl rfl (by kernel_rfl) (fun _ _ _ h => h) (Or.inl ⟨by rfl, ?_⟩) hHeld ?_ ?_; rotate_left; (rintro w' ⟨s0, s1, s2, s3⟩; go_simp; (with_reducible rfl)); rotate_left; (simp only [Act.put, zSA, zSB, zSC, i64_w, i32_w]; rfl)
        refine one_ (i := 2) (N := some 54) (bq 5 7) rfl rfl (by kernel_rfl) (by decide) (fun K hK => ?_)
        refine goes_ Try.func18 (by kernel_rfl) rfl #[.agg #[.int .i64 a0_0, .slice A0_1 l0_1.length c0_1]] (by rfl) rfl rfl (by (try simp only [List.map_toArray, List.map_cons, List.map_nil]); first | done | rfl | (simp only [List.length_drop, List.length_take]; rfl)) ?_
        with_reducible refine (laws_toWords.calls kj19 a0_0 _ _ l0_1 t758 t759 _ ?side1 ?side2 A42.out).mono ?_
        (case side1 => repeat (first | exact (Kd.C_below HR0_1.out HB.out) | (with_reducible refine Kd.C_alloc ?_ _) | (with_reducible refine Kd.C_drewN ?_ _) | (with_reducible refine Kd.C_drew ?_)))
        (case side2 => exact HC0_1.out)
        rintro e w55 ⟨v760, rfl, ho0, hb⟩
        refine ⟨_, rfl, ?_⟩
        have n0_ := aM (Kd.R_below (by (with_reducible repeat (first | apply Kd.R_alloc | apply Kd.R_drewN | apply Kd.R_drew)); exact HO_11.out) hb)
        have n1_ := aM (Kd.S_elder' (by (with_reducible repeat (first | apply Kd.S_alloc | apply Kd.S_drewN | apply Kd.S_drew)); exact HO_753001.out) (Kd.S_base ho0) hb)
        have n2_ := aM (Kd.S_lower (Kd.S_new' ho0 (Kd.S_lt (by (with_reducible repeat (first | apply Kd.S_alloc | apply Kd.S_drewN | apply Kd.S_drew)); exact HO_753001.out))) (below_size (by repeat (first | (with_reducible first | exact HB.out | apply below_alloc | apply pw_below_drewN | apply below_drew1 | refine below_set ?_ GE736.out | refine below_set ?_ GE752.out) | exact HB.out))))
        have n3_ := aM (blk_below (g := gb736) (o := .cells #[.int .i64 a0_0, .slice A0_1 l0_1.length c0_1] 24 (0, 0)) (by (with_reducible repeat (first | refine blk_drewN ?_ _ | refine blk_drew ?_ | refine blk_alloc ?_ _)); exact BK736.out) hb)
        have n4_ := aM (blk_below (g := gb752) (o := .cells #[.int .i64 t748, .slice Ao35 t749.length co35] 33 (0, 0)) (by (with_reducible repeat (first | refine blk_drewN ?_ _ | refine blk_drew ?_ | refine blk_alloc ?_ _)); exact BK752.out) hb)
        have n5_ := aM (below_step (by repeat (first | (with_reducible first | exact HB.out | apply below_alloc | apply pw_below_drewN | apply below_drew1 | refine below_set ?_ GE736.out | refine below_set ?_ GE752.out) | exact HB.out)) hb)
        clear HO_11
        clear HO_753001
        clear BK736
        clear BK752
        clear HB
        have HO_11 := n0_
        have HO_753001 := n1_
        have HO761 := n2_
        have BK736 := n3_
        have BK752 := n4_
        have HB := n5_
        clear n0_ n1_ n2_ n3_ n4_ n5_
        (try clear hb)
        (try clear hb2)
        (try clear hk)
        (try clear hi)
        (try clear ho0)
        obtain ⟨Ao56, co56, eo56⟩ := Kd.S_slice HO761.out
        (first | subst eo56 | (injection eo56 with f1_ f2_ f3_; have f4_ := f1_.symm; have f5_ := f3_.symm; clear f1_ f2_ f3_; subst f4_; subst f5_))
        refine hK.out _ _ ⟨(blk_cell BK752.out 0).trans rfl, (blk_cell BK752.out 1).trans rfl, (blk_cell BK736.out 0).trans rfl, (blk_cell BK736.out 1).trans rfl⟩ (fun hHeld => ?_)
        clear hK K
        refine norm_ (a' := ?_) ?_ ?_
        rotate_left
        ·
         show Act.put _ (some 54) _ = _
         simp only [Act.put, zSA, zSB, zSC, i64_w, i32_w]
         rfl
        refine one_ (i := 3) (N := some 55) (bq 5 15) rfl rfl (by kernel_rfl) (by decide) (fun K hK => ?_)
        refine goes_ Try.func22 (by kernel_rfl) rfl #[.agg #[.int .i64 t748, .slice Ao35 t749.length co35], .agg #[.int .i64 t758, .slice Ao56 t759.length co56]] (by rfl) rfl rfl (by (try simp only [List.map_toArray, List.map_cons, List.map_nil]); first | done | rfl | (simp only [List.length_drop, List.length_take]; rfl)) ?_
        with_reducible refine (laws_eqWords.calls kj19 t748 _ _ t749 t758 _ _ t759 true _ ?side1 ?side2 ?side3 ?side4 A43.out).mono ?_
        (case side1 => repeat (first | exact (Kd.S_reads' HO_753001.out).2.2 | (with_reducible refine Kd.C_alloc ?_ _) | (with_reducible refine Kd.C_drewN ?_ _) | (with_reducible refine Kd.C_drew ?_)))
        (case side2 => exact (Kd.S_reads' HO_753001.out).2.1)
        (case side3 => repeat (first | exact (Kd.S_reads' HO761.out).2.2 | (with_reducible refine Kd.C_alloc ?_ _) | (with_reducible refine Kd.C_drewN ?_ _) | (with_reducible refine Kd.C_drew ?_)))
        (case side4 => exact (Kd.S_reads' HO761.out).2.1)
        rintro e w57 ⟨rfl, hb⟩
        refine ⟨_, rfl, ?_⟩
        have n0_ := aM (Kd.R_below (by (with_reducible repeat (first | apply Kd.R_alloc | apply Kd.R_drewN | apply Kd.R_drew)); exact HO_11.out) hb)
        have n1_ := aM (Kd.S_below (by (with_reducible repeat (first | apply Kd.S_alloc | apply Kd.S_drewN | apply Kd.S_drew)); exact HO_753001.out) hb)
        have n2_ := aM (Kd.S_below (by (with_reducible repeat (first | apply Kd.S_alloc | apply Kd.S_drewN | apply Kd.S_drew)); exact HO761.out) hb)
        have n3_ := aM (blk_below (g := gb736) (o := .cells #[.int .i64 a0_0, .slice A0_1 l0_1.length c0_1] 24 (0, 0)) (by (with_reducible repeat (first | refine blk_drewN ?_ _ | refine blk_drew ?_ | refine blk_alloc ?_ _)); exact BK736.out) hb)
        have n4_ := aM (blk_below (g := gb752) (o := .cells #[.int .i64 t748, .slice Ao35 t749.length co35] 33 (0, 0)) (by (with_reducible repeat (first | refine blk_drewN ?_ _ | refine blk_drew ?_ | refine blk_alloc ?_ _)); exact BK752.out) hb)
        have n5_ := aM (below_step (by repeat (first | (with_reducible first | exact HB.out | apply below_alloc | apply pw_below_drewN | apply below_drew1 | refine below_set ?_ GE736.out | refine below_set ?_ GE752.out) | exact HB.out)) hb)
        clear HO_11
        clear HO_753001
        clear HO761
        clear BK736
        clear BK752
        clear HB
        have HO_11 := n0_
        have HO_753001 := n1_
        have HO761 := n2_
        have BK736 := n3_
        have BK752 := n4_
        have HB := n5_
        clear n0_ n1_ n2_ n3_ n4_ n5_
        (try clear hb)
        (try clear hb2)
        (try clear hk)
        (try clear hi)
        refine hK.out _ _ ⟨(blk_cell BK752.out 0).trans rfl, (blk_cell BK752.out 1).trans rfl, (blk_cell BK736.out 0).trans rfl, (blk_cell BK736.out 1).trans rfl⟩ (fun hHeld => ?_)
        clear hK K
        refine norm_ (a' := ?_) ?_ ?_
        rotate_left
        ·
         show Act.put _ (some 55) _ = _
         simp only [Act.put, zSA, zSB, zSC, i64_w, i32_w]
         rfl
        refine pure_ (i := 4) (N := some 56) (v := ?_) (a' := ?_) (bq 5 31) rfl rfl (by kernel_rfl) (fun _ _ _ h => h) (Or.inl ⟨by rfl, ?_⟩) ?_ ?_; rotate_left; (intro w'; go_simp; (with_reducible rfl)); rotate_left; (simp only [Act.put, zSA, zSB, zSC, i64_w, i32_w]; rfl)
        refine done_ (by kernel_rfl) ?_
        try go_wp2_with (first | ((with_reducible refine gate_callee (f := 19) rfl ?_); refine goesL_ (some 59) rfl rfl Try.func19 (by kernel_rfl) rfl #[.slice A1 l1.length c1] rfl (by (try simp only [List.map_toArray, List.map_cons, List.map_nil]); first | done | rfl | (simp only [List.length_drop, List.length_take]; rfl)) ?_; (with_reducible refine (laws_toStringS.calls kj19 _ _ l1 t763 _ ?side1 ?side2 A45.out).mono ?_); (case side1 => repeat (first | exact (Kd.C_below HR1.out HB.out) | (with_reducible refine Kd.C_alloc ?_ _) | (with_reducible refine Kd.C_drewN ?_ _) | (with_reducible refine Kd.C_drew ?_))); (case side2 => exact HC1.out); rintro e w58 ⟨v764, rfl, ho0, hb⟩; refine ⟨_, rfl, ?_⟩; have n0_ := aM (Kd.R_elder' (by (with_reducible repeat (first | apply Kd.R_alloc | apply Kd.R_drewN | apply Kd.R_drew)); exact HO_11.out) (Kd.R_base ho0) hb); have n1_ := aM (Kd.S_below (by (with_reducible repeat (first | apply Kd.S_alloc | apply Kd.S_drewN | apply Kd.S_drew)); exact HO_753001.out) hb); have n2_ := aM (Kd.S_below (by (with_reducible repeat (first | apply Kd.S_alloc | apply Kd.S_drewN | apply Kd.S_drew)); exact HO761.out) hb); have n3_ := aM (Kd.R_lower (Kd.R_new' ho0 (Kd.R_lt (by (with_reducible repeat (first | apply Kd.R_alloc | apply Kd.R_drewN | apply Kd.R_drew)); exact HO_11.out))) (below_size (by repeat (first | (with_reducible first | exact HB.out | apply below_alloc | apply pw_below_drewN | apply below_drew1 | refine below_set ?_ GE736.out | refine below_set ?_ GE752.out) | exact HB.out)))); have n4_ := aM (blk_below (g := gb736) (o := .cells #[.int .i64 a0_0, .slice A0_1 l0_1.length c0_1] 24 (0, 0)) (by (with_reducible repeat (first | refine blk_drewN ?_ _ | refine blk_drew ?_ | refine blk_alloc ?_ _)); exact BK736.out) hb); have n5_ := aM (blk_below (g := gb752) (o := .cells #[.int .i64 t748, .slice Ao35 t749.length co35] 33 (0, 0)) (by (with_reducible repeat (first | refine blk_drewN ?_ _ | refine blk_drew ?_ | refine blk_alloc ?_ _)); exact BK752.out) hb); have n6_ := aM (below_step (by repeat (first | (with_reducible first | exact HB.out | apply below_alloc | apply pw_below_drewN | apply below_drew1 | refine below_set ?_ GE736.out | refine below_set ?_ GE752.out) | exact HB.out)) hb); clear HO_11; clear HO_753001; clear HO761; clear BK736; clear BK752; clear HB; have HO_11 := n0_; have HO_753001 := n1_; have HO761 := n2_; have HO765 := n3_; have BK736 := n4_; have BK752 := n5_; have HB := n6_; clear n0_ n1_ n2_ n3_ n4_ n5_ n6_; (try clear hb); (try clear hb2); (try clear hk); (try clear hi); (try clear ho0); obtain ⟨Ao59, co59, eo59⟩ := Kd.R_slice HO765.out; subst eo59) | ((with_reducible refine gate_callee (f := 23) rfl ?_); refine goesL_ (some 60) rfl rfl Try.func23 (by kernel_rfl) rfl #[.slice Ao38 t753.length co38, .slice Ao59 t763.length co59] rfl (by (try simp only [List.map_toArray, List.map_cons, List.map_nil]); first | done | rfl | (simp only [List.length_drop, List.length_take]; rfl)) ?_; (with_reducible refine (laws_eqStringS.calls kj19 _ _ t753 _ _ t763 false _ ?side1 ?side2 ?side3 ?side4 A46.out).mono ?_); (case side1 => repeat (first | exact (Kd.R_reads' HO_11.out).2.2 | (with_reducible refine Kd.C_alloc ?_ _) | (with_reducible refine Kd.C_drewN ?_ _) | (with_reducible refine Kd.C_drew ?_))); (case side2 => exact (Kd.R_reads' HO_11.out).2.1); (case side3 => repeat (first | exact (Kd.R_reads' HO765.out).2.2 | (with_reducible refine Kd.C_alloc ?_ _) | (with_reducible refine Kd.C_drewN ?_ _) | (with_reducible refine Kd.C_drew ?_))); (case side4 => exact (Kd.R_reads' HO765.out).2.1); rintro e w' ⟨rfl, ⟨nd, rfl⟩⟩; refine ⟨_, rfl, ?_⟩))
        go_ret
        exact ⟨by first | rfl | (simp [errW_none, errW_some] <;> rfl) | (simp [*, errW_none, errW_some] <;> rfl), by repeat (first | (with_reducible first | exact HB.out | apply below_alloc | apply pw_below_drewN | apply below_drew1 | refine below_set ?_ GE736.out | refine below_set ?_ GE752.out) | exact HB.out)⟩
      ·
       replace c44 := Bool.eq_false_iff.mpr c44
       subst c44
       have H1 : (some false) = some r := by rw [if_neg (show ¬ (false = true) by decide)] at H; exact H
       clear H
       have H := H1
       clear H1
       obtain rfl := Option.some.inj H
       try go_wp2
       have n0_ := aM (Kd.R_drew HO_11.out)
       have n1_ := aM (Kd.S_drew HO_753001.out)
       have n2_ := aM (blk_drew BK736.out)
       have n3_ := aM (blk_drew BK752.out)
       have n4_ := aM (below_drew1 HB.out)
       clear HO_11
       clear HO_753001
       clear BK736
       clear BK752
       clear HB
       have HO_11 := n0_
       have HO_753001 := n1_
       have BK736 := n2_
       have BK752 := n3_
       have HB := n4_
       clear n0_ n1_ n2_ n3_ n4_
       refine start_ (n := 5) (S := fun w' => w'.cell? ⟨gb752, 0, none⟩ = some (.int .i64 t748) ∧ w'.cell? ⟨gb752, 1, none⟩ = some (.slice Ao35 t749.length co35) ∧ w'.cell? ⟨gb736, 0, none⟩ = some (.int .i64 a0_0) ∧ w'.cell? ⟨gb736, 1, none⟩ = some (.slice A0_1 l0_1.length c0_1)) (ds := []) (bq 5 0) (by kernel_rfl) rfl (by kernel_rfl) ⟨(blk_cell BK752.out 0).trans rfl, (blk_cell BK752.out 1).trans rfl, (blk_cell BK736.out 0).trans rfl, (blk_cell BK736.out 1).trans rfl⟩ (fun hHeld => ?_)
       generalize wc.drew = w60 at HO_11 HO_753001 BK736 BK752 HB hHeld ⊢
       refine take_ (i := 0) (N := some 52) (v := ?_) (a' := ?_) (bq 5 1) rfl rfl (by kernel_rfl) (fun _ _ _ h => h) (Or.inl ⟨by rfl, ?_⟩) hHeld ?_ ?_; rotate_left; (rintro w' ⟨s0, s1, s2, s3⟩; go_simp; (with_reducible rfl)); rotate_left; (simp only [Act.put, zSA, zSB, zSC, i64_w, i32_w]; rfl)
       refine take_ (i := 1) (N := some 53) (v := ?_) (a' := ?_) (bq 5 3) rfl rfl (by kernel_rfl) (fun _ _ _ h => h) (Or.inl ⟨by rfl, ?_⟩) hHeld ?_ ?_; rotate_left; (rintro w' ⟨s0, s1, s2, s3⟩; go_simp; (with_reducible rfl)); rotate_left; (simp only [Act.put, zSA, zSB, zSC, i64_w, i32_w]; rfl)
       refine one_ (i := 2) (N := some 54) (bq 5 7) rfl rfl (by kernel_rfl) (by decide) (fun K hK => ?_)
       refine goes_ Try.func18 (by kernel_rfl) rfl #[.agg #[.int .i64 a0_0, .slice A0_1 l0_1.length c0_1]] (by rfl) rfl rfl (by (try simp only [List.map_toArray, List.map_cons, List.map_nil]); first | done | rfl | (simp only [List.length_drop, List.length_take]; rfl)) ?_
       with_reducible refine (laws_toWords.calls kj19 a0_0 _ _ l0_1 t758 t759 _ ?side1 ?side2 A42.out).mono ?_
       (case side1 => repeat (first | exact (Kd.C_below HR0_1.out HB.out) | (with_reducible refine Kd.C_alloc ?_ _) | (with_reducible refine Kd.C_drewN ?_ _) | (with_reducible refine Kd.C_drew ?_)))
       (case side2 => exact HC0_1.out)
       rintro e w61 ⟨v760, rfl, ho0, hb⟩
       refine ⟨_, rfl, ?_⟩
       have n0_ := aM (Kd.R_below (by (with_reducible repeat (first | apply Kd.R_alloc | apply Kd.R_drewN | apply Kd.R_drew)); exact HO_11.out) hb)
       have n1_ := aM (Kd.S_elder' (by (with_reducible repeat (first | apply Kd.S_alloc | apply Kd.S_drewN | apply Kd.S_drew)); exact HO_753001.out) (Kd.S_base ho0) hb)
       have n2_ := aM (Kd.S_lower (Kd.S_new' ho0 (Kd.S_lt (by (with_reducible repeat (first | apply Kd.S_alloc | apply Kd.S_drewN | apply Kd.S_drew)); exact HO_753001.out))) (below_size (by repeat (first | (with_reducible first | exact HB.out | apply below_alloc | apply pw_below_drewN | apply below_drew1 | refine below_set ?_ GE736.out | refine below_set ?_ GE752.out) | exact HB.out))))
       have n3_ := aM (blk_below (g := gb736) (o := .cells #[.int .i64 a0_0, .slice A0_1 l0_1.length c0_1] 24 (0, 0)) (by (with_reducible repeat (first | refine blk_drewN ?_ _ | refine blk_drew ?_ | refine blk_alloc ?_ _)); exact BK736.out) hb)
       have n4_ := aM (blk_below (g := gb752) (o := .cells #[.int .i64 t748, .slice Ao35 t749.length co35] 33 (0, 0)) (by (with_reducible repeat (first | refine blk_drewN ?_ _ | refine blk_drew ?_ | refine blk_alloc ?_ _)); exact BK752.out) hb)
       have n5_ := aM (below_step (by repeat (first | (with_reducible first | exact HB.out | apply below_alloc | apply pw_below_drewN | apply below_drew1 | refine below_set ?_ GE736.out | refine below_set ?_ GE752.out) | exact HB.out)) hb)
       clear HO_11
       clear HO_753001
       clear BK736
       clear BK752
       clear HB
       have HO_11 := n0_
       have HO_753001 := n1_
       have HO761 := n2_
       have BK736 := n3_
       have BK752 := n4_
       have HB := n5_
       clear n0_ n1_ n2_ n3_ n4_ n5_
       (try clear hb)
       (try clear hb2)
       (try clear hk)
       (try clear hi)
       (try clear ho0)
       obtain ⟨Ao62, co62, eo62⟩ := Kd.S_slice HO761.out
       (first | subst eo62 | (injection eo62 with f1_ f2_ f3_; have f4_ := f1_.symm; have f5_ := f3_.symm; clear f1_ f2_ f3_; subst f4_; subst f5_))
       refine hK.out _ _ ⟨(blk_cell BK752.out 0).trans rfl, (blk_cell BK752.out 1).trans rfl, (blk_cell BK736.out 0).trans rfl, (blk_cell BK736.out 1).trans rfl⟩ (fun hHeld => ?_)
       clear hK K
       refine norm_ (a' := ?_) ?_ ?_
       rotate_left
       ·
        show Act.put _ (some 54) _ = _
        simp only [Act.put, zSA, zSB, zSC, i64_w, i32_w]
        rfl
       refine one_ (i := 3) (N := some 55) (bq 5 15) rfl rfl (by kernel_rfl) (by decide) (fun K hK => ?_)
       refine goes_ Try.func22 (by kernel_rfl) rfl #[.agg #[.int .i64 t748, .slice Ao35 t749.length co35], .agg #[.int .i64 t758, .slice Ao62 t759.length co62]] (by rfl) rfl rfl (by (try simp only [List.map_toArray, List.map_cons, List.map_nil]); first | done | rfl | (simp only [List.length_drop, List.length_take]; rfl)) ?_
       with_reducible refine (laws_eqWords.calls kj19 t748 _ _ t749 t758 _ _ t759 false _ ?side1 ?side2 ?side3 ?side4 A43.out).mono ?_
       (case side1 => repeat (first | exact (Kd.S_reads' HO_753001.out).2.2 | (with_reducible refine Kd.C_alloc ?_ _) | (with_reducible refine Kd.C_drewN ?_ _) | (with_reducible refine Kd.C_drew ?_)))
       (case side2 => exact (Kd.S_reads' HO_753001.out).2.1)
       (case side3 => repeat (first | exact (Kd.S_reads' HO761.out).2.2 | (with_reducible refine Kd.C_alloc ?_ _) | (with_reducible refine Kd.C_drewN ?_ _) | (with_reducible refine Kd.C_drew ?_)))
       (case side4 => exact (Kd.S_reads' HO761.out).2.1)
       rintro e w63 ⟨rfl, hb⟩
       refine ⟨_, rfl, ?_⟩
       have n0_ := aM (Kd.R_below (by (with_reducible repeat (first | apply Kd.R_alloc | apply Kd.R_drewN | apply Kd.R_drew)); exact HO_11.out) hb)
       have n1_ := aM (Kd.S_below (by (with_reducible repeat (first | apply Kd.S_alloc | apply Kd.S_drewN | apply Kd.S_drew)); exact HO_753001.out) hb)
       have n2_ := aM (Kd.S_below (by (with_reducible repeat (first | apply Kd.S_alloc | apply Kd.S_drewN | apply Kd.S_drew)); exact HO761.out) hb)
       have n3_ := aM (blk_below (g := gb736) (o := .cells #[.int .i64 a0_0, .slice A0_1 l0_1.length c0_1] 24 (0, 0)) (by (with_reducible repeat (first | refine blk_drewN ?_ _ | refine blk_drew ?_ | refine blk_alloc ?_ _)); exact BK736.out) hb)
       have n4_ := aM (blk_below (g := gb752) (o := .cells #[.int .i64 t748, .slice Ao35 t749.length co35] 33 (0, 0)) (by (with_reducible repeat (first | refine blk_drewN ?_ _ | refine blk_drew ?_ | refine blk_alloc ?_ _)); exact BK752.out) hb)
       have n5_ := aM (below_step (by repeat (first | (with_reducible first | exact HB.out | apply below_alloc | apply pw_below_drewN | apply below_drew1 | refine below_set ?_ GE736.out | refine below_set ?_ GE752.out) | exact HB.out)) hb)
       clear HO_11
       clear HO_753001
       clear HO761
       clear BK736
       clear BK752
       clear HB
       have HO_11 := n0_
       have HO_753001 := n1_
       have HO761 := n2_
       have BK736 := n3_
       have BK752 := n4_
       have HB := n5_
       clear n0_ n1_ n2_ n3_ n4_ n5_
       (try clear hb)
       (try clear hb2)
       (try clear hk)
       (try clear hi)
       refine hK.out _ _ ⟨(blk_cell BK752.out 0).trans rfl, (blk_cell BK752.out 1).trans rfl, (blk_cell BK736.out 0).trans rfl, (blk_cell BK736.out 1).trans rfl⟩ (fun hHeld => ?_)
       clear hK K
       refine norm_ (a' := ?_) ?_ ?_
       rotate_left
       ·
        show Act.put _ (some 55) _ = _
        simp only [Act.put, zSA, zSB, zSC, i64_w, i32_w]
        rfl
       refine pure_ (i := 4) (N := some 56) (v := ?_) (a' := ?_) (bq 5 31) rfl rfl (by kernel_rfl) (fun _ _ _ h => h) (Or.inl ⟨by rfl, ?_⟩) ?_ ?_; rotate_left; (intro w'; go_simp; (with_reducible rfl)); rotate_left; (simp only [Act.put, zSA, zSB, zSC, i64_w, i32_w]; rfl)
       refine done_ (by kernel_rfl) ?_
       try go_wp2
       go_ret
       exact ⟨by first | rfl | (simp [errW_none, errW_some] <;> rfl) | (simp [*, errW_none, errW_some] <;> rfl), by repeat (first | (with_reducible first | exact HB.out | apply below_alloc | apply pw_below_drewN | apply below_drew1 | refine below_set ?_ GE736.out | refine below_set ?_ GE752.out) | exact HB.out)⟩

/-- THE ONE PURE STATEMENT of laws_FnExactScoreOf. -/
def laws_FnExactScoreOf.Pure : Prop := ∀ (a0_0 : Int) (l0_1 : List (S140)) (l1 : List ByteArray) (a2 : Int), (Lit.int .i64 a0_0).wf = true → (l0_1.length ≤ maxLen ∧ ∀ x_ ∈ l0_1, (x_.f0.size ≤ maxLen ∧ (x_.f1.length ≤ maxLen ∧ ∀ xx_ ∈ x_.f1, ((Lit.int .i64 xx_.f0).wf = true ∧ (Lit.int .i64 xx_.f1).wf = true)))) → (l1.length ≤ maxLen ∧ ∀ x_ ∈ l1, x_.size ≤ maxLen) → (Lit.int .i64 a2).wf = true → ∃ k, laws_FnExactScoreOf.f k a0_0 l0_1 l1 a2 = some true
theorem laws_FnExactScoreOf.walk (P : laws_FnExactScoreOf.Pure) (a0_0 : Int) (A0_1 : Option Addr) (c0_1 : Nat) (l0_1 : List (S140)) (A1 : Option Addr) (c1 : Nat) (l1 : List ByteArray) (a2 : Int) (w : World) (w0_0 : (Lit.int .i64 a0_0).wf = true) (hr0_1 : Kd.C k140 w A0_1 l0_1.length l0_1) (hc0_1 : l0_1.length ≤ c0_1) (w0_1 : (l0_1.length ≤ maxLen ∧ ∀ x_ ∈ l0_1, (x_.f0.size ≤ maxLen ∧ (x_.f1.length ≤ maxLen ∧ ∀ xx_ ∈ x_.f1, ((Lit.int .i64 xx_.f0).wf = true ∧ (Lit.int .i64 xx_.f1).wf = true))))) (hr1 : Kd.C Kd.string w A1 l1.length l1) (hc1 : l1.length ≤ c1) (w1 : (l1.length ≤ maxLen ∧ ∀ x_ ∈ l1, x_.size ≤ maxLen)) (w2 : (Lit.int .i64 a2).wf = true) :
  Calls Try.prog 11 #[.agg #[.int .i64 a0_0, .slice A0_1 l0_1.length c0_1], .slice A1 l1.length c1, .int .i64 a2] w fun e w' => e = .returned (.bool true) ∧ Below w.heap.size w w' := by
 obtain ⟨k, h⟩ := P a0_0 l0_1 l1 a2 w0_0 w0_1 w1 w2
 refine (laws_FnExactScoreOf.calls k a0_0 _ _ l0_1 _ _ l1 a2 true w hr0_1 hc0_1 hr1 hc1 h).mono ?_
 rintro e w' ⟨rfl, hd⟩
 exact ⟨rfl, hd⟩

end Go.Proofs.Ytaomjndfjmfelaa.PQ
end

section
namespace Go.Proofs.Ytaomjndfjmfelaa.ScoP
set_option linter.unusedVariables false
set_option linter.unusedSimpArgs false
open Go.RowKit Go.Sort Go.Proofs.Ytaomjndfjmfelaa.PQ Go.Proofs.YtaomjndfjmfelaaW.PrintWords Go.Proofs.YtaomjndfjmfelaaW.PrintLast Go.Proofs.Ytaomjndfjmfelaa.Pre Go.Proofs.Ytaomjndfjmfelaa.EntW Go.Proofs.Ytaomjndfjmfelaa.Posts Go.Proofs.Ytaomjndfjmfelaa.GoodW Go.Proofs.Ytaomjndfjmfelaa.PostW Go.Proofs.Ytaomjndfjmfelaa.Ask Go.Proofs.Ytaomjndfjmfelaa.ByP Go.Proofs.Ytaomjndfjmfelaa.Rks Go.Proofs.Ytaomjndfjmfelaa.TopB
theorem rd_str (l : List ByteArray) (i : Nat) (h : i < l.length) : rdOf ByteArray.empty l (i : Int) = l[i] := by
 unfold rdOf
 rw [Int.toNat_natCast, List.getD_eq_getElem?_getD, List.getElem?_eq_getElem h]
 rfl
/-- A word among words. -/
theorem index_ev (l : List ByteArray) (hl : l.length ≤ 1048576) (t : ByteArray) : ∃ r : Int, Evt (fun k => slices_Index_string_string.f k l t) r ∧ (0 ≤ r ↔ t ∈ l) := by
 have key : ∀ (n i : Nat), i + n = l.length → ∃ r : Int, Evt (fun k => slices_Index_string_string.l0 k l t (l.length : Int) (i : Int)) r ∧ (0 ≤ r ↔ t ∈ l.drop i) := by
  intro n
  induction n with
  | zero =>
   intro i hi
   refine ⟨-1, Evt.step (fun k => slices_Index_string_string.l0.eq_2 _ _ _ _ k) (Evt.neg (by omega) (Evt.const _)), ?_⟩
   rw [List.drop_eq_nil_of_le (by omega)]
   simp
  | succ n ih =>
   intro i hi
   have hil : i < l.length := by omega
   obtain ⟨r, hr, hm⟩ := ih (i + 1) (by omega)
   by_cases he : t = l[i]
   ·
    refine ⟨(i : Int), Evt.step (fun k => slices_Index_string_string.l0.eq_2 _ _ _ _ k) (Evt.pos (by omega) (Evt.pos (by omega) (Evt.pos (by omega) (Evt.pos (by rw [rd_str l i hil, he]) (Evt.const _))))), ?_⟩
    rw [List.drop_eq_getElem_cons hil]
    exact ⟨fun _ => by rw [← he]; exact List.mem_cons_self .., fun _ => by omega⟩
   ·
    refine ⟨r, Evt.step (fun k => slices_Index_string_string.l0.eq_2 _ _ _ _ k) (Evt.pos (by omega) (Evt.pos (by omega) (Evt.pos (by omega) (Evt.neg (by rw [rd_str l i hil]; exact fun e => he (Byt.toList_inj e)) ?_)))), ?_⟩
    ·
     rw [w64 (n := (i : Int) + 1) (by omega) (by omega)]
     exact hr
    ·
     rw [List.drop_eq_getElem_cons hil, List.mem_cons]
     exact ⟨fun h => .inr (hm.1 h), fun h => hm.2 (h.resolve_left he)⟩
 obtain ⟨r, hr, hm⟩ := key l.length 0 (by omega)
 rw [List.drop_zero] at hm
 exact ⟨r, hr, hm⟩
def memB (t : ByteArray) (l : List ByteArray) : Bool := l.any (fun y => decide (y = t))
theorem memB_iff (t : ByteArray) (l : List ByteArray) : memB t l = true ↔ t ∈ l := by
 unfold memB
 rw [List.any_eq_true]
 constructor
 ·
  rintro ⟨y, hy, e⟩
  rw [← of_decide_eq_true e]
  exact hy
 ·
  intro h
  exact ⟨t, h, decide_eq_true rfl⟩
theorem contains_ev (l : List ByteArray) (hl : l.length ≤ 1048576) (t : ByteArray) : Evt (fun k => slices_Contains_string_string.f k l t) (memB t l) := by
 obtain ⟨r, hr, hm⟩ := index_ev l hl t
 unfold slices_Contains_string_string.f
 refine Evt.bind hr ((Evt.const _).eq ?_)
 rw [Bool.eq_iff_iff, memB_iff, decide_eq_true_eq]
 exact hm
def scoreOK (x : Int) (l : List En) (ws : List ByteArray) : Bool := asked x l ws 5 && decide ws.Nodup
theorem nodup_take {l : List ByteArray} {i : Nat} (h : i < l.length) (hn : (l.take i).Nodup) : (l.take (i + 1)).Nodup ↔ l[i] ∉ l.take i := by
 rw [SoB.take_last l i h, List.nodup_append]
 constructor
 ·
  rintro ⟨_, _, h3⟩ hm
  exact h3 _ hm _ (List.mem_singleton.2 rfl) rfl
 ·
  intro hm
  refine ⟨hn, by simp, fun a ha b hb => ?_⟩
  rw [List.mem_singleton] at hb
  rintro rfl
  exact hm (hb ▸ ha)
theorem not_nodup {l : List ByteArray} {i : Nat} (h : i < l.length) (hm : l[i] ∈ l.take i) : ¬ l.Nodup := by
 intro hn
 have h1 : (l.take (i + 1)).Nodup := hn.sublist (List.take_sublist _ _)
 exact (nodup_take h (hn.sublist (List.take_sublist _ _))).1 h1 hm
theorem scoring_ev (x : Int) (l : List En) (hl : Small l) (ws : List ByteArray) (hs : SmallS ws) : Evt (fun k => impl_scoring.f k x l ws) (scoreOK x l ws) := by
 unfold impl_scoring.f scoreOK impl_wordsAsked.f
 rw [if_pos ⟨hl, hs⟩]
 refine Evt.bsome ?_
 have key : ∀ (n i : Nat), i + n = ws.length → (ws.take i).Nodup → Evt (fun k => impl_scoring.l0 k ws ws (ws.length : Int) (i : Int)) (decide ws.Nodup) := by
  intro n
  induction n with
  | zero =>
   intro i hi hn
   rw [List.take_of_length_le (by omega)] at hn
   exact Evt.step (fun k => impl_scoring.l0.eq_2 _ _ _ _ k) (Evt.neg (by omega) ((Evt.const _).eq (decide_eq_true hn).symm))
  | succ n ih =>
   intro i hi hn
   have hil : i < ws.length := by omega
   refine Evt.step (fun k => impl_scoring.l0.eq_2 _ _ _ _ k) (Evt.pos (by omega) (Evt.pos (by omega) (Evt.pos (by omega) (Evt.pos (by omega) ?_))))
   rw [rd_str ws i hil, Int.toNat_natCast]
   refine Evt.bind (contains_ev (ws.take i) (by rw [List.length_take]; have := hs.1; omega) ws[i]) ?_
   by_cases hm : ws[i] ∈ ws.take i
   ·
    exact Evt.pos ((memB_iff _ _).2 hm) ((Evt.const _).eq (decide_eq_false (not_nodup hil hm)).symm)
   ·
    refine Evt.neg (fun h => hm ((memB_iff _ _).1 h)) ?_
    have := hs.1
    rw [w64 (n := (i : Int) + 1) (by omega) (by omega)]
    exact ih (i + 1) (by omega) ((nodup_take hil hn).2 hm)
 by_cases ha : asked x l ws 5 = true
 ·
  refine Evt.pos ha ?_
  rw [ha, Bool.true_and]
  exact key ws.length 0 (by omega) (by rw [List.take_zero]; exact List.nodup_nil)
 ·
  refine Evt.neg ha ((Evt.const _).eq ?_)
  rw [Bool.eq_false_iff.2 ha, Bool.false_and]
def distinct (ws : List ByteArray) : Bool := (decide ((ws.length : Int) ≤ 5) && !ws.any notW) && decide ws.Nodup
theorem distinct_ev (ws : List ByteArray) (hs : SmallS ws) : Evt (fun k => spec_l11Distinct.f k ws) (distinct ws) := by
 unfold spec_l11Distinct.f
 have hlen := hs.1
 have inner : ∀ (i : Nat) (hil : i < ws.length) (r : Bool), (ws[i] ∉ ws.take i → Evt (fun k => spec_l11Distinct.l0 k ws ws (ws.length : Int) ((i + 1 : Nat) : Int)) r) → (ws[i] ∈ ws.take i → r = false) → ∀ (n j : Nat), j + n = (ws.take i).length → ws[i] ∉ (ws.take i).take j →
   Evt (fun k => spec_l11Distinct.l1 k ws ws[i] ws (ws.length : Int) (i : Int) (ws.take i) ((ws.take i).length : Int) (j : Int)) r := by
  intro i hil r h1 h2 n
  induction n with
  | zero =>
   intro j hj hm
   rw [List.take_of_length_le (by omega)] at hm
   refine Evt.step (fun k => spec_l11Distinct.l1.eq_2 _ _ _ _ _ _ _ _ k) (Evt.neg (by omega) ?_)
   rw [w64 (n := (i : Int) + 1) (by omega) (by omega)]
   exact h1 hm
  | succ n ih =>
   intro j hj hm
   have hjl : j < (ws.take i).length := by omega
   have hjl2 := hjl
   rw [List.length_take] at hjl2
   refine Evt.step (fun k => spec_l11Distinct.l1.eq_2 _ _ _ _ _ _ _ _ k) (Evt.pos (by omega) (Evt.pos (by omega) (Evt.pos (by omega) ?_)))
   rw [rd_str (ws.take i) j hjl]
   by_cases he : (ws.take i)[j] = ws[i]
   ·
    exact Evt.pos (by rw [he]) ((Evt.const _).eq (h2 (by rw [← he]; exact List.getElem_mem hjl)).symm)
   ·
    refine Evt.neg (fun e => he (Byt.toList_inj e)) ?_
    rw [w64 (n := (j : Int) + 1) (by omega) (by omega)]
    refine ih (j + 1) (by omega) ?_
    rw [SoB.take_last _ j hjl, List.mem_append, List.mem_singleton]
    rintro (h | h)
    ·
     exact hm h
    ·
     exact he h.symm
 have key : ∀ (n i : Nat), i + n = ws.length → (ws.take i).Nodup → (ws.take i).any notW = false → Evt (fun k => spec_l11Distinct.l0 k ws ws (ws.length : Int) (i : Int)) (distinct ws) := by
  intro n
  induction n with
  | zero =>
   intro i hi hn ha
   rw [List.take_of_length_le (by omega)] at hn ha
   refine Evt.step (fun k => spec_l11Distinct.l0.eq_2 _ _ _ _ k) (Evt.neg (by omega) ((Evt.const _).eq ?_))
   unfold distinct
   rw [ha, decide_eq_true hn, Bool.not_false, Bool.and_true, Bool.and_true]
  | succ n ih =>
   intro i hi hn ha
   have hil : i < ws.length := by omega
   refine Evt.step (fun k => spec_l11Distinct.l0.eq_2 _ _ _ _ k) (Evt.pos (by omega) (Evt.pos (by omega) (Evt.pos (by omega) ?_)))
   rw [rd_str ws i hil, Int.toNat_natCast]
   refine Evt.bind (l10Word_ev ws[i] (hs.2 _ (List.getElem_mem hil))) ?_
   by_cases hw : isW ws[i] = true
   ·
    refine Evt.pos hw (Evt.pos (by omega) (inner i hil _ (fun hm => ih (i + 1) (by omega) ((nodup_take hil hn).2 hm) ?_) (fun hm => ?_) (ws.take i).length 0 (by omega) (by simp)))
    ·
     rw [SoB.take_last ws i hil, List.any_append, ha, Bool.false_or]
     simp [notW, hw]
    ·
     unfold distinct
     rw [decide_eq_false (not_nodup hil hm), Bool.and_false]
   ·
    refine Evt.neg hw ((Evt.const _).eq ?_)
    have : ws.any notW = true := List.any_eq_true.2 ⟨ws[i], List.getElem_mem hil, by simp [notW, hw]⟩
    unfold distinct
    rw [this]
    simp
 exact key ws.length 0 (by omega) (by rw [List.take_zero]; exact List.nodup_nil) rfl
theorem ok_eq (x : Int) (l : List En) (ws : List ByteArray) : scoreOK x l ws = (goodW x l && distinct ws) := by
 unfold scoreOK asked distinct
 rw [Bool.and_assoc, Bool.and_assoc, Bool.and_assoc]
theorem ok_good {x : Int} {l : List En} {ws : List ByteArray} (h : scoreOK x l ws = true) : goodW x l = true ∧ ws.length ≤ 5 := by
 rw [ok_eq, Bool.and_eq_true] at h
 refine ⟨h.1, ?_⟩
 have h2 := h.2
 unfold distinct at h2
 rw [Bool.and_eq_true, Bool.and_eq_true, decide_eq_true_eq] at h2
 omega
theorem good_x {x : Int} {l : List En} (h : goodW x l = true) : 0 ≤ x ∧ x ≤ 40 := by
 unfold goodW at h
 rw [Bool.and_eq_true, Bool.and_eq_true] at h
 exact of_decide_eq_true h.1.1
theorem posts_good {x : Int} {l : List En} (h : goodW x l = true) (t : ByteArray) : okFrom (x - 1) (-1) (posts l t) = true := by
 have hx := good_x h
 unfold posts
 cases hf : l.find? (fun e => decide (e.f0 = t)) with
 | none => rfl
 | some e =>
  obtain ⟨i, hi, rfl⟩ := List.getElem_of_mem (List.mem_of_find?_eq_some hf)
  unfold goodW at h
  rw [Bool.and_eq_true, List.all_eq_true] at h
  have he := h.2 i (by rw [List.mem_range'_1]; omega)
  unfold entOK at he
  simp only [Bool.and_eq_true, rd_en l i hi] at he
  have h4 := he.2
  rw [w64 (by omega) (by omega)] at h4
  exact h4
theorem ok_facts (most : Int) : ∀ (ps : List Po) (last : Int), -1 ≤ last → okFrom most last ps = true → ps.Pairwise (fun a b => a.f0 < b.f0) ∧ (∀ p ∈ ps, last < p.f0 ∧ p.f0 ≤ most ∧ 1 ≤ p.f1 ∧ p.f1 ≤ 100) ∧ (last ≤ most → (ps.length : Int) ≤ most - last)
 | [], last, _, _ => ⟨List.Pairwise.nil, fun _ h => (by cases h), fun h => (by show ((0 : Nat) : Int) ≤ most - last; omega)⟩
 | a :: ps, last, h0, h => by
  simp only [okFrom, Bool.and_eq_true, decide_eq_true_eq] at h
  obtain ⟨⟨h1, h2, h3, h4⟩, h5⟩ := h
  obtain ⟨i1, i2, i3⟩ := ok_facts most ps a.f0 (by omega) h5
  refine ⟨List.pairwise_cons.2 ⟨fun b hb => (i2 b hb).1, i1⟩, fun p hp => ?_, fun _ => ?_⟩
  ·
   rcases List.mem_cons.1 hp with rfl | hp
   ·
    exact ⟨h1, h2, h3, h4⟩
   ·
    have := i2 p hp
    omega
  ·
   rw [List.length_cons]
   have := i3 h2
   omega
theorem posts_facts {x : Int} {l : List En} (h : goodW x l = true) (t : ByteArray) : (posts l t).Pairwise (fun a b => a.f0 < b.f0) ∧ (∀ p ∈ posts l t, 0 ≤ p.f0 ∧ p.f0 < x ∧ 1 ≤ p.f1 ∧ p.f1 ≤ 100) ∧ ((posts l t).length : Int) ≤ x := by
 have hx := good_x h
 obtain ⟨h1, h2, h3⟩ := ok_facts (x - 1) (posts l t) (-1) (by omega) (posts_good h t)
 refine ⟨h1, fun p hp => ?_, ?_⟩
 ·
  have := h2 p hp
  omega
 ·
  have := h3 (by omega)
  omega
theorem scR_val {x : Int} (hx : 0 ≤ x ∧ x ≤ 40) (n : Nat) (hn : (n : Int) ≤ x) (p : Po) (hp : 1 ≤ p.f1 ∧ p.f1 ≤ 100) : 1 ≤ (scR x n p).f1 ∧ (scR x n p).f1 ≤ 1000000 := by
 unfold scR
 show 1 ≤ wrap64 (p.f1 * wrap64 (wrap64 (x - (n : Int)) + 1)) ∧ wrap64 (p.f1 * wrap64 (wrap64 (x - (n : Int)) + 1)) ≤ 1000000
 rw [w64 (n := x - (n : Int)) (by omega) (by omega), w64 (n := x - (n : Int) + 1) (by omega) (by omega)]
 obtain ⟨y, hy⟩ : ∃ y, y = x - (n : Int) + 1 := ⟨_, rfl⟩
 rw [← hy]
 have h1 : 1 ≤ y ∧ y ≤ 41 := by omega
 have h2 : 1 * 1 ≤ p.f1 * y := Int.mul_le_mul hp.1 h1.1 (by omega) (by omega)
 have h3 : p.f1 * y ≤ 100 * 41 := Int.mul_le_mul hp.2 h1.2 (by omega) (by omega)
 rw [w64 (by omega) (by omega)]
 omega
theorem ids_unlike {l : List Sc} (h : l.Pairwise (fun a b => a.f0 ≠ b.f0)) : (l.mergeSort SoB.le).Pairwise (fun a b => b.f1 ≤ a.f1 ∧ a.f0 ≠ b.f0) := by
 have h1 : (l.mergeSort SoB.le).Pairwise (fun a b => a.f0 ≠ b.f0) := (List.mergeSort_perm l SoB.le).symm.pairwise h (fun {a b} hab => fun e => hab e.symm)
 exact (ord_falls (SoB.ord_sort l)).and h1
theorem rks_ranks {x : Int} {l : List En} (h : goodW x l = true) {ws : List ByteArray} (hw : ws.length ≤ 5) : Ranks (rks x l ws) := by
 have hx := good_x h
 refine ⟨by rw [rks_len]; exact hw, fun r hr => ?_⟩
 unfold rks at hr
 obtain ⟨t, _, rfl⟩ := List.mem_map.1 hr
 obtain ⟨h1, h2, h3⟩ := posts_facts h t
 refine ⟨?_, ?_, fun y hy => ?_⟩
 ·
  unfold rk1
  show (((posts l t).map _).mergeSort SoB.le).length ≤ 60
  rw [List.length_mergeSort, List.length_map]
  omega
 ·
  refine ids_unlike ?_
  rw [List.pairwise_map]
  exact h1.imp (fun {a b} hab e => by
   have : a.f0 = b.f0 := e
   omega)
 ·
  have hy2 := (List.mergeSort_perm _ SoB.le).subset hy
  obtain ⟨p, hp, rfl⟩ := List.mem_map.1 hy2
  have h4 := h2 p hp
  exact scR_val hx _ h3 p ⟨h4.2.2.1, h4.2.2.2⟩
theorem put_next (acc : List Sc) (s : Sc) (h : ∀ y ∈ acc, y.f0 ≠ s.f0) : SoB.putS (acc.mergeSort SoB.le) s = (acc ++ [s]).mergeSort SoB.le := by
 rw [SoB.putS_sort, if_neg]
 intro ha
 obtain ⟨y, hy, e⟩ := List.any_eq_true.1 ha
 refine h y hy ?_
 unfold Meet.isId at e
 simpa using e
theorem rank1_ev (x : Int) (l : List En) (ps : List Po) (hps : ps.length ≤ 1048576) (hpw : ps.Pairwise (fun a b => a.f0 < b.f0)) (ws : List ByteArray) (i : Nat) (hi : i < ws.length) (hw : ws.length ≤ 1048576) (x5 : List Rk) (h5 : x5.length ≤ 1048576) (r : List Rk)
  (hr : Evt (fun k => spec_l11Rankings.l0 k (x5 ++ [rk1 x ps]) ws (ws.length : Int) ((i + 1 : Nat) : Int) x l) r) : ∀ (n j : Nat), j + n = ps.length →
  Evt (fun k => spec_l11Rankings.l1 k x5 ps ws (ws.length : Int) (i : Int) ps (ps.length : Int) (j : Int) x l (((ps.take j).map (scR x ps.length)).mergeSort SoB.le)) r := by
 intro n
 induction n with
 | zero =>
  intro j hj
  refine Evt.step (fun k => spec_l11Rankings.l1.eq_2 _ _ _ _ _ _ _ _ _ _ _ k) (Evt.neg (by omega) (Evt.pos (by omega) ?_))
  rw [List.take_of_length_le (by omega), w64 (n := (i : Int) + 1) (by omega) (by omega)]
  exact hr
 | succ n ih =>
  intro j hj
  have hjl : j < ps.length := by omega
  refine Evt.step (fun k => spec_l11Rankings.l1.eq_2 _ _ _ _ _ _ _ _ _ _ _ k) (Evt.pos (by omega) (Evt.pos (by omega) (Evt.pos (by omega) ?_)))
  rw [rd_get ps j hjl]
  refine Evt.bind (SoB.put_ev _ (by rw [List.length_mergeSort, List.length_map, List.length_take]; omega) ps[j].f0 _) ?_
  have hput := put_next ((ps.take j).map (scR x ps.length)) (scR x ps.length ps[j]) (fun y hy e => by
   obtain ⟨p, hp, rfl⟩ := List.mem_map.1 hy
   obtain ⟨q, hq, rfl⟩ := List.mem_iff_getElem.1 hp
   rw [List.length_take] at hq
   rw [List.getElem_take] at e
   have e2 : ps[q].f0 = ps[j].f0 := e
   have := List.pairwise_iff_getElem.1 hpw q j (by omega) hjl (by omega)
   omega)
  rw [← map_step x ps j hjl] at hput
  rw [w64 (n := (j : Int) + 1) (by omega) (by omega)]
  have e : SoB.putS (((ps.take j).map (scR x ps.length)).mergeSort SoB.le) ⟨ps[j].f0, wrap64 (ps[j].f1 * wrap64 (wrap64 (x - (ps.length : Int)) + 1))⟩ = ((ps.take (j + 1)).map (scR x ps.length)).mergeSort SoB.le := hput
  rw [e]
  exact ih (j + 1) (by omega)
theorem rankings_ev (x : Int) (l : List En) (hl : Small l) (hg : goodW x l = true) (ws : List ByteArray) (hw : ws.length ≤ 1048576) : Evt (fun k => spec_l11Rankings.f k x l ws) (rks x l ws) := by
 unfold spec_l11Rankings.f
 have key : ∀ (n i : Nat), i + n = ws.length → Evt (fun k => spec_l11Rankings.l0 k (rks x l (ws.take i)) ws (ws.length : Int) (i : Int) x l) (rks x l ws) := by
  intro n
  induction n with
  | zero =>
   intro i hi
   rw [List.take_of_length_le (by omega)]
   exact Evt.step (fun k => spec_l11Rankings.l0.eq_2 _ _ _ _ _ _ k) (Evt.neg (by omega) (Evt.const _))
  | succ n ih =>
   intro i hi
   have hil : i < ws.length := by omega
   refine Evt.step (fun k => spec_l11Rankings.l0.eq_2 _ _ _ _ _ _ k) (Evt.pos (by omega) (Evt.pos (by omega) (Evt.pos (by omega) ?_)))
   rw [rd_str ws i hil]
   refine Evt.bind (spec_posts l hl x ws[i]) ?_
   have h := rank1_ev x l (posts l ws[i]) (small_posts hl ws[i]) (posts_facts hg ws[i]).1 ws i hil hw (rks x l (ws.take i)) (by rw [rks_len, List.length_take]; omega) (rks x l ws) (by
    rw [← rks_step x l ws i hil]
    exact ih (i + 1) (by omega)) (posts l ws[i]).length 0 (by omega)
   simpa using h
 exact key ws.length 0 (by omega)
def ansScoreOf (x : Int) (l : List En) (ws : List ByteArray) (a : Int) : Int × Bool := if scoreOK x l ws = true ∧ (0 ≤ a ∧ a ≤ x - 1) then (RankS.sumR a (rks x l ws), true) else (0, false)
theorem specScoreOf_ev (x : Int) (l : List En) (hl : Small l) (ws : List ByteArray) (hs : SmallS ws) (a : Int) : Evt (fun k => spec_ScoreOf.f k x l ws a) (ansScoreOf x l ws a) := by
 unfold spec_ScoreOf.f ansScoreOf
 rw [ok_eq]
 refine Evt.bind (GoodW.spec_ev x l hl) ?_
 by_cases hg : goodW x l = true
 ·
  have hx := good_x hg
  refine Evt.pos hg (Evt.bind (distinct_ev ws hs) ?_)
  by_cases hd : distinct ws = true
  ·
   have hlen := (ok_good (x := x) (l := l) (ws := ws) (by rw [ok_eq, hg, hd]; rfl)).2
   have hR := rks_ranks hg hlen
   refine Evt.pos hd ?_
   rw [RankP.in_ev, w64 (n := x - 1) (by omega) (by omega)]
   refine Evt.bsome (Evt.step (fun k => spec_ScoreOf.j0.eq_2 _ _ _ _ _ k) ?_)
   by_cases ha : 0 ≤ a ∧ a ≤ x - 1
   ·
    rw [if_pos ⟨by rw [hg, hd]; rfl, ha⟩, decide_eq_true ha]
    refine Evt.neg (by decide) (Evt.bind (rankings_ev x l hl hg ws (by omega)) (Evt.bind (RankS.spec_l11Sum_ev a _ (by have := hR.1; omega) (fun y hy => by have := (hR.2 y hy).1; omega)) (Evt.const _)))
   ·
    rw [if_neg (fun h => ha h.2), decide_eq_false ha]
    exact Evt.pos rfl (Evt.const _)
  ·
   rw [if_neg (fun h => by rw [hg, Bool.true_and] at h; exact hd h.1)]
   exact Evt.neg hd (Evt.step (fun k => spec_ScoreOf.j0.eq_2 _ _ _ _ _ k) (Evt.pos rfl (Evt.const _)))
 ·
  rw [if_neg (fun h => by rw [Bool.and_eq_true] at h; exact hg h.1.1)]
  exact Evt.neg hg (Evt.step (fun k => spec_ScoreOf.j0.eq_2 _ _ _ _ _ k) (Evt.pos rfl (Evt.const _)))
theorem within_ev (a b c : Int) : impl_within.f a b c = some (decide (b ≤ a ∧ a ≤ c)) := Posts.impl_within_ev a b c
theorem implScoreOf_ev (x : Int) (l : List En) (hl : Small l) (ws : List ByteArray) (hs : SmallS ws) (a : Int) : Evt (fun k => impl_ScoreOf.f k x l ws a) (ansScoreOf x l ws a) := by
 unfold impl_ScoreOf.f ansScoreOf
 refine Evt.bind (scoring_ev x l hl ws hs) ?_
 by_cases ho : scoreOK x l ws = true
 ·
  obtain ⟨hg, hlen⟩ := ok_good ho
  have hx := good_x hg
  have hR := rks_ranks hg hlen
  refine Evt.pos ho ?_
  rw [within_ev, w64 (n := x - 1) (by omega) (by omega)]
  refine Evt.bsome (Evt.step (fun k => impl_ScoreOf.j0.eq_2 _ _ _ _ _ k) ?_)
  by_cases ha : 0 ≤ a ∧ a ≤ x - 1
  ·
   rw [if_pos ⟨ho, ha⟩, decide_eq_true ha]
   unfold impl_rankings.f
   rw [if_pos ⟨⟨hl, by omega⟩, hg⟩]
   refine Evt.neg (by decide) (Evt.bsome (Evt.bind (RankS.impl_sumOf_ev a _ (by have := hR.1; omega) (fun y hy => by have := (hR.2 y hy).1; omega)) (Evt.const _)))
  ·
   rw [if_neg (fun h => ha h.2), decide_eq_false ha]
   exact Evt.pos rfl (Evt.const _)
 ·
  rw [if_neg (fun h => ho h.1)]
  exact Evt.neg ho (Evt.step (fun k => impl_ScoreOf.j0.eq_2 _ _ _ _ _ k) (Evt.pos rfl (Evt.const _)))
end Go.Proofs.Ytaomjndfjmfelaa.ScoP
end

section
namespace Go.Proofs.Ytaomjndfjmfelaa.Pure
set_option linter.unusedVariables false
open Go.RowKit Go.Proofs.Ytaomjndfjmfelaa.PQ Go.Proofs.YtaomjndfjmfelaaW.PrintWords Go.Proofs.YtaomjndfjmfelaaW.PrintLast Go.Proofs.Ytaomjndfjmfelaa.Pre Go.Proofs.Ytaomjndfjmfelaa.EntT Go.Proofs.Ytaomjndfjmfelaa.GoodW Go.Proofs.Ytaomjndfjmfelaa.Ask
theorem FnExactScoreOf : laws_FnExactScoreOf.Pure := by
 intro x l ws a hx hw hws ha
 obtain ⟨r, hev, hsm, hru⟩ := sz_ev2 x l hw.1 (fun e he => ⟨(hw.2 e he).1, (hw.2 e he).2.1⟩) 1048576 (by omega) (by omega)
 refine Evt.ex ?_
 unfold laws_FnExactScoreOf.f
 refine Evt.bind hev ?_
 by_cases hneg : r < 0
 ·
  exact Evt.pos hneg (Evt.const _)
 ·
  refine Evt.neg hneg ?_
  obtain ⟨rs, hevs, hsms⟩ := MkS.szS_ev ws hws.1 hws.2 r (by omega) hru
  refine Evt.bind hevs ?_
  by_cases hnegs : rs < 0
  ·
   exact Evt.pos hnegs (Evt.const _)
  ·
   refine Evt.neg hnegs ?_
   have hs := hsm (by omega)
   have hss := hsms (by omega)
   have hsl := map_small l hs
   have hto := EntT.to_ev x l hs.1 (fun x hx => (hs.2 x hx).2)
   obtain ⟨le, hle⟩ : ∃ le, le = l.map cvE := ⟨_, rfl⟩
   rw [← hle] at hsl hto
   refine Evt.bind hto (Evt.bind (MkS.toS_ev ws hss.1) (Evt.bind (ScoP.specScoreOf_ev x le hsl ws hss a) (Evt.bind hto (Evt.bind (MkS.toS_ev ws hss.1) (Evt.bind (ScoP.implScoreOf_ev x le hsl ws hss a) (Evt.pos rfl ?_))))))
   refine Evt.step (fun k => laws_FnExactScoreOf.j0.eq_2 _ _ _ _ _ _ _ k) (Evt.neg (by simp) (Evt.bind hto (Evt.bind (EntT.eq_ev x le hsl) (Evt.pos rfl (Evt.bind (MkS.toS_ev ws hss.1) (Evt.bind (Strs.eq_self ws hss.1) (Evt.pos rfl (Evt.const _))))))))
end Go.Proofs.Ytaomjndfjmfelaa.Pure
end

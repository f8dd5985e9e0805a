/- Several texts in one: what the claim's last text rests on. No conditions. -/
import Derived.Test.YtaomjndfjmfelaaMRt22
import Derived.Test.YtaomjndfjmfelaaMRt21
import Derived.Test.YtaomjndfjmfelaaMRt4
import Derived.Test.YtaomjndfjmfelaaMRt7
import Derived.Test.YtaomjndfjmfelaaMRt6
import Derived.Test.YtaomjndfjmfelaaMRt13
import Derived.Test.YtaomjndfjmfelaaMRt16
import Derived.Test.YtaomjndfjmfelaaMRt18
import Derived.Test.YtaomjndfjmfelaaMRt14
import Derived.Test.YtaomjndfjmfelaaMRt8
section
namespace Go.Proofs.Ytaomjndfjmfelaa.Rks
set_option linter.unusedVariables false
set_option linter.unusedSimpArgs false
open Go.RowKit Go.Shelf Go.Lib Go.Sort Go.Proofs.Ytaomjndfjmfelaa.PQ Go.Proofs.YtaomjndfjmfelaaW.PrintWords Go.Proofs.YtaomjndfjmfelaaW.PrintLast Go.Proofs.YtaomjndfjmfelaaW.PrintMore Go.Proofs.Ytaomjndfjmfelaa.Pre Go.Proofs.Ytaomjndfjmfelaa.EntW Go.Proofs.Ytaomjndfjmfelaa.Posts Go.Proofs.Ytaomjndfjmfelaa.GoodW Go.Proofs.Ytaomjndfjmfelaa.PostW Go.Proofs.Ytaomjndfjmfelaa.Ask Go.Proofs.Ytaomjndfjmfelaa.SoB
/-- A posting's score, a word's ranking, the words' rankings. -/
def scR (x : Int) (n : Nat) (p : Po) : Sc := ⟨p.f0, wrap64 (p.f1 * wrap64 (wrap64 (x - (n : Int)) + 1))⟩
def rk1 (x : Int) (ps : List Po) : Rk := ⟨(ps.map (scR x ps.length)).mergeSort le⟩
def rks (x : Int) (l : List En) (ws : List ByteArray) : List Rk := ws.map (fun t => rk1 x (posts l t))
theorem H_cell {α : Type} {d : Kd α} {e g n cap i : Nat} {w : World} {base : Nat} {ok oki : Nat → Prop} {xs : List α} {u : Value} (h : Kd.H d e w base ok (.slice (some ⟨g, 0, none⟩) n cap) xs (i : Int) oki [u]) (hi : i < n ∧ d.sz = 1) : w.cell? ⟨g, i, none⟩ = some u ∧ w.frozen? ⟨g, i, none⟩ = false := by
 obtain ⟨rows, hl, hraw, hcl, _, hcc, _⟩ := Kd.H_raw h (by omega) (by omega)
 have h1 := hcc 0 u rfl
 rw [Int.toNat_natCast, hi.2, Nat.mul_one, Nat.add_zero] at h1
 obtain ⟨_, _, _, _, hfr⟩ := Kd.R_elem hraw [] (i : Int) (by omega) (by omega)
 have h2 := hfr 0
 rw [Int.toNat_natCast] at h2
 have e : i * (Kd.raw d.sz).sz + 0 = i := by
  show i * d.sz + 0 = i
  rw [hi.2]
  omega
 rw [e] at h2
 exact ⟨h1, h2⟩
theorem H_put {α : Type} {d : Kd α} {e g n cap i : Nat} {w : World} {base : Nat} {ok oki : Nat → Prop} {xs : List α} {u : Value} (h : Kd.H d e w base ok (.slice (some ⟨g, 0, none⟩) n cap) xs (i : Int) oki [u]) (hi : i < n ∧ d.sz = 1) (v : Value) (hv : v.oneCell' = true) :
  Kd.H d e (w.setCell ⟨g, i, none⟩ v) base ok (.slice (some ⟨g, 0, none⟩) n cap) xs (i : Int) oki [v] ∧ w.grownBy (w.setCell ⟨g, i, none⟩ v) (some g) := by
 have h1 := Kd.H_seg (seg := [v]) (j := 0) h (by omega) (by omega) (by rw [hi.2]; exact Nat.le_refl _) (fun q hq => by rw [List.mem_singleton.1 hq]; exact hv)
 rw [Int.toNat_natCast, hi.2, Nat.mul_one, Nat.add_zero] at h1
 exact h1
theorem H_ne {α : Type} {d : Kd α} {e g n cap : Nat} {i : Int} {w : World} {base : Nat} {ok oki : Nat → Prop} {xs : List α} {c : List Value} (h : Kd.H d e w base ok (.slice (some ⟨g, 0, none⟩) n cap) xs i oki c) : ∀ k, oki k → k ≠ g := by
 intro k hk he
 subst he
 obtain ⟨_, f, hR⟩ := h
 exact (hR.1 k (by simp [Value.ownBlock])).2 hk
theorem H_lt {α : Type} {d : Kd α} {e g n cap : Nat} {i : Int} {w : World} {base : Nat} {ok oki : Nat → Prop} {xs : List α} {c : List Value} (h : Kd.H d e w base ok (.slice (some ⟨g, 0, none⟩) n cap) xs i oki c) : base ≤ g ∧ g < w.heap.size := by
 obtain ⟨_, f, hR⟩ := h
 obtain ⟨inner, ho⟩ := Kd.R_own hR
 exact ⟨own_base ho g (by simp [Value.ownBlock]), own_lt ho g (by simp [Value.ownBlock])⟩
theorem set_next {α : Type} (a : List α) (m : Nat) (z y : α) : (a ++ List.replicate (m + 1) z).set a.length y = (a ++ [y]) ++ List.replicate m z := by
 rw [List.set_append_right _ _ (Nat.le_refl _), Nat.sub_self, List.replicate_succ, List.set_cons_zero, List.append_assoc]
 rfl
theorem rks_step (x : Int) (l : List En) (ws : List ByteArray) (i : Nat) (h : i < ws.length) : rks x l (ws.take (i + 1)) = rks x l (ws.take i) ++ [rk1 x (posts l ws[i])] := by
 unfold rks
 rw [take_last ws i h, List.map_append]
 rfl
theorem rks_len (x : Int) (l : List En) (ws : List ByteArray) : (rks x l ws).length = ws.length := by
 unfold rks
 rw [List.length_map]
theorem get_mid {α : Type} (a : List α) (m : Nat) (z d : α) : (a ++ List.replicate (m + 1) z).getD a.length d = z := by
 rw [List.getD_eq_getElem?_getD, List.getElem?_append_right (Nat.le_refl _), Nat.sub_self]
 rfl
theorem map_step (x : Int) (ps : List Po) (j : Nat) (h : j < ps.length) : (ps.take (j + 1)).map (scR x ps.length) = (ps.take j).map (scR x ps.length) ++ [scR x ps.length ps[j]] := by
 rw [take_last ps j h, List.map_append]
 rfl
set_option maxRecDepth 100000 in
set_option maxHeartbeats 8000000 in
theorem rankings_calls (x : Int) (A : Option Addr) (c : Nat) (l : List En) (B : Option Addr) (d : Nat) (ws : List ByteArray) (w : World) (hr : Kd.C k102 w A l.length l) (hc : l.length ≤ c) (hl : Small l) (hs : Rise l) (hne : ∀ e ∈ l, 0 < e.f1.length) (hsw : Kd.C Kd.string w B ws.length ws) (hd : ws.length ≤ d) (hws : ws.length ≤ 1048576) :
  Calls Try.prog 117 #[.agg #[.int .i64 x, .slice A l.length c], .slice B ws.length d] w fun e w' => ∃ v : Value, e = .returned v ∧ Kd.S k77 77 w' w.heap.size (fun _ => True) v (rks x l ws) ∧ Below w.heap.size w w' := by
 obtain ⟨W0, hW0⟩ : ∃ W_, W_ = w.alloc (.cells #[.int .i64 x, .slice A l.length c] 33) := ⟨_, rfl⟩
 have HBW : Aside0 (Below w.heap.size w W0) := ⟨by rw [hW0]; exact below_alloc (Below.refl _ _) _⟩
 have HSZ : Aside0 (w.heap.size ≤ W0.heap.size) := ⟨by rw [hW0]; simp⟩
 have HBX : Aside0 (∀ w', Below W0.heap.size W0 w' → w'.cell? ⟨w.heap.size, 0, none⟩ = some (.int .i64 x) ∧ w'.cell? ⟨w.heap.size, 1, none⟩ = some (.slice A l.length c)) := ⟨fun w' hb => by subst hW0; exact ⟨(hb.cell (by simp)).trans (by simp), (hb.cell (by simp)).trans (by simp)⟩⟩
 have HBL : Aside0 (w.heap.size < W0.heap.size) := ⟨by rw [hW0]; simp⟩
 have HR := aM (Kd.C_below hr (HBW.out))
 have HC := aM hc
 have HL := aM hl
 have HS := aM hs
 have HNE := aM hne
 have HSW := aM (Kd.C_below hsw HBW.out)
 have HWS0 := aM hws
 obtain ⟨n, hn⟩ : ∃ n, n = ws.length := ⟨_, rfl⟩
 have HN := aM hn
 have hn1 : (n : Int) ≤ 1048576 := by omega
 rw [← hn]
 clear hr hc hl hs hne hsw hd hws hn
 go_enter Try.func117, Try.ntmps117
 go_upto_region 2 with (first | ((with_reducible refine gate_dst (N := 13) rfl ?_); go_loud (rw [← hW0]; refine Kd.S_make k77 _ 77 rfl (N := 13) rfl 64 _ _ rfl (n : Int) rfl rfl Try.underlying64 (.agg #[(.slice none 0 0)]) 24 info77 rfl (by decide) (by omega) z77 (ok := fun _ => True) (okp := fun _ => True) (k77_mkM _ _ _ z77 (Kd.R_nil _ _ _ _ _)) (fun _ hk => hk) trivial (by omega) (by omega) (Below.refl _ _) (Nat.le_refl _) ?_; intro vo w1 ho hb hg_ hnew_; clear hg_ hnew_; rw [Int.toNat_natCast] at ho; have HO := aM ho; have HB := aM hb; clear ho hb)))
 go_wp2
 go_loopg [16] n (fun kq v16 w' => ∃ (i : Nat) (xs : List Rk), v16 = .int .i64 (i : Int) ∧ i ≤ n ∧ kq = n - i ∧ Aside0 (xs = rks x l (ws.take i) ++ List.replicate (n - i) z77) ∧ Aside0 (Kd.S k77 77 w' W0.heap.size (fun _ => True) vo xs) ∧ Aside0 (Below W0.heap.size W0 w'))
 case atStart => exact ⟨0, _, rfl, Nat.zero_le _, rfl, ⟨rfl⟩, HO, HB⟩
 case round =>
  clear HO HB hW0
  obtain ⟨i, xs, rfl, hi, hkq, HX, HO, HB⟩ := hrel
  have HKQ := aM hkq
  clear hkq
  by_cases hlt : i < n
  ·
   have HIN : Aside0 (i < n ∧ Kd.sz k77 = 1) := ⟨⟨hlt, rfl⟩⟩
   have hxl : xs.length = n := by rw [HX.out, List.length_append, rks_len, List.length_take, List.length_replicate, ← HN.out]; omega
   obtain ⟨g, cap, hvo, hgb, hgl, _⟩ := Kd.S_form HO.out (by omega)
   rw [hxl] at hvo
   subst hvo
   have HWi : Aside0 (i < ws.length) := ⟨by rw [← HN.out]; exact hlt⟩
   obtain ⟨adw, eB, hcw⟩ := str_at HSW.out i HWi.out
   replace hcw := (HB.out.cell (World.block_lt_of_cell? W0 _ hcw)).trans hcw
   subst eB
   obtain ⟨wd, hwd⟩ : ∃ t, t = ws[i]'HWi.out := ⟨_, rfl⟩
   rw [← hwd] at hcw
   have HWD := aM hwd
   obtain ⟨oki, ce, hcl, hM, hcc, hok, hH⟩ := Kd.S_lend HO.out z77 (i : Int) (by omega) (by omega)
   have hel : xs.getD (i : Int).toNat z77 = z77 := by
    have hlr : (rks x l (ws.take i)).length = i := by rw [rks_len, List.length_take]; have := HWi.out; omega
    rw [Int.toNat_natCast, HX.out, show n - i = (n - (i + 1)) + 1 by omega]
    conv => lhs; arg 2; rw [← hlr]
    exact get_mid _ _ _ _
   rw [hel] at hM
   obtain ⟨v0, hv0, hV0⟩ := k77_openM hM
   subst hv0
   obtain ⟨OKI, hOKI⟩ : ∃ OKI : Nat → Prop, OKI = (fun k => oki k ∨ True ∧ wr.heap.size ≤ k) := ⟨_, rfl⟩
   have HH0 := aM (Kd.H_widen hH)
   have HV0 := aM (Kd.R_mono hV0 (ok' := OKI) (fun k hk => by rw [hOKI]; exact .inl hk))
   rw [← hOKI] at HH0
   have HOKI : Aside0 (∀ k, wr.heap.size ≤ k → OKI k) := ⟨fun k hk => by rw [hOKI]; exact .inr ⟨trivial, hk⟩⟩
   have HWB : Aside0 (W0.heap.size ≤ wr.heap.size) := ⟨HB.out.size⟩
   have hPC := aM (fun W (hW : W = wr) => postings_at W0 A c l wd W w.heap.size (fun w' hb => (HBX.out w' (below_step HB.out (by rw [← hW]; exact hb))).2) (by rw [hW]; exact HB.out) HR.out HC.out HL.out.1 HS.out HNE.out)
   have hi2 : (i : Int) < (n : Int) := by omega
   have HPS := aM (small_posts HL.out wd)
   obtain ⟨ps, hps⟩ : ∃ ps, ps = posts l wd := ⟨_, rfl⟩
   rw [← hps] at HPS hPC
   have HPE := aM hps
   obtain ⟨B0, hB0⟩ : ∃ B0, B0 = wr.heap.size := ⟨_, rfl⟩
   rw [← hB0] at HOKI HWB
   have HBZ : Aside0 (B0 ≤ wr.heap.size) := ⟨by rw [hB0]; exact Nat.le_refl _⟩
   clear hxl hwd hcl hM hcc hok hH hel hV0 hOKI hlt hi hps hgb hgl hB0
   go_wp2_with (go_at_call 93; go_loud ((refine (hPC.out _ rfl).mono ?_); rintro e w2 ⟨Ap, cp, rfl, hcp, hCp, _, hb2⟩; have HCP := aM hCp; have HB2 := aM (below_step HB.out hb2); have HH2 := aM (Kd.H_below HH0.out hb2); have HV2 := aM (Kd.R_below HV0.out hb2); have HBZ2 := aM (Nat.le_trans HBZ.out hb2.size); clear hcp hCp hb2))
   go_loopg [25] ps.length (fun kq v25 w' => ∃ (j : Nat) (v : Value) (lst : List Sc), v25 = .int .i64 (j : Int) ∧ j ≤ ps.length ∧ kq = ps.length - j ∧ Aside0 (lst = (ps.take j).map (scR x ps.length)) ∧ Aside0 (Kd.R k79 79 w' W0.heap.size OKI v lst) ∧ Aside0 (Kd.H k77 77 w' W0.heap.size (fun _ => True) (.slice (some ⟨g, 0, none⟩) n cap) xs (i : Int) OKI [v]) ∧ Aside0 (Below W0.heap.size W0 w') ∧ Aside0 (B0 ≤ w'.heap.size))
   case atStart => exact ⟨0, v0, [], rfl, Nat.zero_le _, rfl, ⟨rfl⟩, HV2, HH2, HB2, HBZ2⟩
   case round =>
    clear HH0 HV0 HH2 HV2 HB2 HBZ2 hcw HB HO hPC HBZ
    obtain ⟨j, v, lst, rfl, hj, hkq2, HLE, HV, HHH, HB, HWS⟩ := hrel
    have HKQ2 := aM hkq2
    clear hkq2
    by_cases hjt : j < ps.length
    ·
     have HJT := aM hjt
     obtain ⟨adp, eAp, hp0, hp1⟩ := at_T56 (Kd.C_below HCP.out HB.out) (j : Int) (by omega) (by omega)
     subst eAp
     have hrd : rd_T56 ps (j : Int) = ps[j]'HJT.out := rd_get ps j hjt
     rw [Int.toNat_natCast, hrd] at hp0 hp1
     have HST := aM (map_step x ps j HJT.out)
     obtain ⟨p, hp⟩ : ∃ p, p = ps[j]'HJT.out := ⟨_, rfl⟩
     rw [← hp] at hp0 hp1 HST
     obtain ⟨Av, cv, e1⟩ := Kd.R_slice HV.out
     subst e1
     have HLL : Aside0 (lst.length ≤ 1048576) := ⟨by rw [HLE.out, List.length_map, List.length_take]; have := HPS.out; omega⟩
     have hj2 : (j : Int) < (ps.length : Int) := by omega
     have hpsl : (ps.length : Int) ≤ 1048576 := by have := HPS.out; omega
     clear hrd hp hjt hj
     go_upto_region 9 with (fail)
     clear hp0 hp1
     obtain ⟨wb, hwb⟩ : ∃ W_, W_ = wr.alloc (.cells #[.int .i64 p.f0, .int .i64 p.f1] 56) := ⟨_, rfl⟩
     rw [← hwb]
     have hbb : Below wr.heap.size wr wb := by rw [hwb]; exact below_alloc (Below.refl _ _) _
     have HWX : Aside0 (wb.heap[wr.heap.size]? = some (.cells #[.int .i64 p.f0, .int .i64 p.f1] 56 (0, 0))) := ⟨by rw [hwb]; exact Meet.at_new wr _⟩
     replace HV := aM (Kd.R_below HV.out hbb)
     replace HHH := aM (Kd.H_below HHH.out hbb)
     replace HB := aM (below_step HB.out hbb)
     replace HWS := aM (Nat.le_trans HWS.out hbb.size)
     have HH : Aside0 (∀ w', Below wb.heap.size wb w' → w'.cell? ⟨g, i, none⟩ = some (.slice Av lst.length cv) ∧ w'.cell? ⟨wr.heap.size, 0, none⟩ = some (.int .i64 p.f0) ∧ w'.cell? ⟨wr.heap.size, 1, none⟩ = some (.int .i64 p.f1) ∧ w'.cell? ⟨w.heap.size, 0, none⟩ = some (.int .i64 x)) := ⟨fun w' hb => ⟨(H_cell (Kd.H_below HHH.out hb) HIN.out).1, (hb.cell (Meet.lt_some HWX.out)).trans (Meet.cell0 HWX.out), (hb.cell (Meet.lt_some HWX.out)).trans (Meet.cell1 HWX.out), (HBX.out w' (below_step HB.out hb)).1⟩⟩
     clear hwb hbb
     refine start_ (n := 24) (S := fun w' => w'.cell? ⟨g, i, none⟩ = some (.slice Av lst.length cv) ∧ w'.cell? ⟨wr.heap.size, 0, none⟩ = some (.int .i64 p.f0) ∧ w'.cell? ⟨wr.heap.size, 1, none⟩ = some (.int .i64 p.f1) ∧ w'.cell? ⟨w.heap.size, 0, none⟩ = some (.int .i64 x)) (ds := [20, 23]) (bq 24 0) (by kernel_rfl) rfl (by kernel_rfl) ⟨(HH.out wb.drew (Below.refl wb.heap.size wb).drew).1, (HH.out wb.drew (Below.refl wb.heap.size wb).drew).2.1, (HH.out wb.drew (Below.refl wb.heap.size wb).drew).2.2.1, (HH.out wb.drew (Below.refl wb.heap.size wb).drew).2.2.2⟩ (fun hHeld => ?_)
     refine pure_ (i := 0) (N := some 29) (v := ?_) (a' := ?_) (bq 24 1) rfl rfl (by kernel_rfl) (fun _ _ _ h => h) (Or.inl ⟨by rfl, ?_⟩) ?_ ?_; rotate_left; (intro w'; go_simp; (with_reducible rfl)); rotate_left; (simp only [Act.put, zSA, zSB, zSC, i64_w, i32_w]; rfl)
     refine pure_ (i := 1) (N := some 30) (v := ?_) (a' := ?_) (bq 24 3) rfl rfl (by kernel_rfl) (fun _ _ _ h => h) (Or.inl ⟨by rfl, ?_⟩) ?_ ?_; rotate_left; (intro w'; go_simp; (with_reducible rfl)); rotate_left; (simp only [Act.put, zSA, zSB, zSC, i64_w, i32_w]; rfl)
     refine pure_ (i := 2) (N := some 31) (v := ?_) (a' := ?_) (bq 24 7) rfl rfl (by kernel_rfl) (fun _ _ _ h => h) (Or.inl ⟨by rfl, ?_⟩) ?_ ?_; rotate_left; (intro w'; go_simp; (with_reducible rfl)); rotate_left; (simp only [Act.put, zSA, zSB, zSC, i64_w, i32_w]; rfl)
     refine pure_ (i := 3) (N := some 32) (v := ?_) (a' := ?_) (bq 24 15) rfl rfl (by kernel_rfl) (fun _ _ _ h => h) (Or.inl ⟨by rfl, ?_⟩) ?_ ?_; rotate_left; (intro w'; go_simp; (with_reducible rfl)); rotate_left; (simp only [Act.put, zSA, zSB, zSC, i64_w, i32_w]; rfl)
     refine pure_ (i := 4) (N := some 33) (v := ?_) (a' := ?_) (bq 24 31) rfl rfl (by kernel_rfl) (fun _ _ _ h => h) (Or.inl ⟨by rfl, ?_⟩) ?_ ?_; rotate_left; (intro w'; go_simp; (with_reducible rfl)); rotate_left; (simp only [Act.put, zSA, zSB, zSC, i64_w, i32_w]; rfl)
     refine pure_ (i := 5) (N := some 34) (v := ?_) (a' := ?_) (bq 24 63) rfl rfl (by kernel_rfl) (fun _ _ _ h => h) (Or.inl ⟨by rfl, ?_⟩) ?_ ?_; rotate_left; (intro w'; go_simp; (with_reducible rfl)); rotate_left; (simp only [Act.put, zSA, zSB, zSC, i64_w, i32_w]; rfl)
     refine pure_ (i := 7) (N := some 36) (v := ?_) (a' := ?_) (bq 24 191) rfl rfl (by kernel_rfl) (fun _ _ _ h => h) (Or.inl ⟨by rfl, ?_⟩) ?_ ?_; rotate_left; (intro w'; go_simp; (with_reducible rfl)); rotate_left; (simp only [Act.put, zSA, zSB, zSC, i64_w, i32_w]; rfl)
     refine pure_ (i := 9) (N := some 38) (v := ?_) (a' := ?_) (bq 24 703) rfl rfl (by kernel_rfl) (fun _ _ _ h => h) (Or.inl ⟨by rfl, ?_⟩) ?_ ?_; rotate_left; (intro w'; go_simp; (with_reducible rfl)); rotate_left; (simp only [Act.put, zSA, zSB, zSC, i64_w, i32_w]; rfl)
     refine pure_ (i := 11) (N := some 40) (v := ?_) (a' := ?_) (bq 24 2751) rfl rfl (by kernel_rfl) (fun _ _ _ h => h) (Or.inl ⟨by rfl, ?_⟩) ?_ ?_; rotate_left; (intro w'; go_simp; (with_reducible rfl)); rotate_left; (simp only [Act.put, zSA, zSB, zSC, i64_w, i32_w]; rfl)
     refine pure_ (i := 13) (N := some 42) (v := ?_) (a' := ?_) (bq 24 10943) rfl rfl (by kernel_rfl) (fun _ _ _ h => h) (Or.inl ⟨by rfl, ?_⟩) ?_ ?_; rotate_left; (intro w'; go_simp; (with_reducible rfl)); rotate_left; (simp only [Act.put, zSA, zSB, zSC, i64_w, i32_w]; rfl)
     refine pure_ (i := 14) (N := some 43) (v := ?_) (a' := ?_) (bq 24 27327) rfl rfl (by kernel_rfl) (fun _ _ _ h => h) (Or.inl ⟨by rfl, ?_⟩) ?_ ?_; rotate_left; (intro w'; go_simp; (with_reducible rfl)); rotate_left; (simp only [Act.put, zSA, zSB, zSC, i64_w, i32_w]; rfl)
     refine take_ (i := 6) (N := some 35) (v := ?_) (a' := ?_) (bq 24 27391) rfl rfl (by kernel_rfl) (fun _ _ _ h => h) (Or.inl ⟨by rfl, ?_⟩) hHeld ?_ ?_; rotate_left; (rintro w' ⟨s0, s1, s2, s3⟩; go_simp; (with_reducible rfl)); rotate_left; (simp only [Act.put, zSA, zSB, zSC, i64_w, i32_w]; rfl)
     refine take_ (i := 8) (N := some 37) (v := ?_) (a' := ?_) (bq 24 27647) rfl rfl (by kernel_rfl) (fun _ _ _ h => h) (Or.inl ⟨by rfl, ?_⟩) hHeld ?_ ?_; rotate_left; (rintro w' ⟨s0, s1, s2, s3⟩; go_simp; (with_reducible rfl)); rotate_left; (simp only [Act.put, zSA, zSB, zSC, i64_w, i32_w]; rfl)
     refine take_ (i := 10) (N := some 39) (v := ?_) (a' := ?_) (bq 24 28671) rfl rfl (by kernel_rfl) (fun _ _ _ h => h) (Or.inl ⟨by rfl, ?_⟩) hHeld ?_ ?_; rotate_left; (rintro w' ⟨s0, s1, s2, s3⟩; go_simp; (with_reducible rfl)); rotate_left; (simp only [Act.put, zSA, zSB, zSC, i64_w, i32_w]; rfl)
     refine take_ (i := 12) (N := some 41) (v := ?_) (a' := ?_) (bq 24 32767) rfl rfl (by kernel_rfl) (fun _ _ _ h => h) (Or.inl ⟨by rfl, ?_⟩) hHeld ?_ ?_; rotate_left; (rintro w' ⟨s0, s1, s2, s3⟩; go_simp; (with_reducible rfl)); rotate_left; (simp only [Act.put, zSA, zSB, zSC, i64_w, i32_w]; rfl)
     refine pure_ (i := 15) (N := some 44) (v := ?_) (a' := ?_) (bq 24 65535) rfl rfl (by kernel_rfl) (fun _ _ _ h => h) (Or.inl ⟨by rfl, ?_⟩) ?_ ?_; rotate_left; (intro w'; go_simp; (with_reducible rfl)); rotate_left; (simp only [Act.put, zSA, zSB, zSC, i64_w, i32_w]; rfl)
     refine pure_ (i := 16) (N := some 45) (v := ?_) (a' := ?_) (bq 24 131071) rfl rfl (by kernel_rfl) (fun _ _ _ h => h) (Or.inl ⟨by rfl, ?_⟩) ?_ ?_; rotate_left; (intro w'; go_simp; (with_reducible rfl)); rotate_left; (simp only [Act.put, zSA, zSB, zSC, i64_w, i32_w]; rfl)
     refine pure_ (i := 17) (N := some 46) (v := ?_) (a' := ?_) (bq 24 262143) rfl rfl (by kernel_rfl) (fun _ _ _ h => h) (Or.inl ⟨by rfl, ?_⟩) ?_ ?_; rotate_left; (intro w'; go_simp; (with_reducible rfl)); rotate_left; (simp only [Act.put, zSA, zSB, zSC, i64_w, i32_w]; rfl)
     refine pure_ (i := 18) (N := some 47) (v := ?_) (a' := ?_) (bq 24 524287) rfl rfl (by kernel_rfl) (fun _ _ _ h => h) (Or.inl ⟨by rfl, ?_⟩) ?_ ?_; rotate_left; (intro w'; go_simp; (with_reducible rfl)); rotate_left; (simp only [Act.put, zSA, zSB, zSC, i64_w, i32_w]; rfl)
     refine one_ (i := 19) (N := some 48) (bq 24 1048575) rfl rfl (by kernel_rfl) (by decide) (fun K hK => ?_)
     refine value_ (w1 := ?_) (v := ?_) (by rfl) rfl ?_ ?_
     rotate_left 2
     ·
      go_simp
      constructor
      ·
       rfl
      ·
       rfl
     refine hK.out _ _ ⟨(HH.out _ (below_alloc (Below.refl wb.heap.size wb).drew _)).1, (HH.out _ (below_alloc (Below.refl wb.heap.size wb).drew _)).2.1, (HH.out _ (below_alloc (Below.refl wb.heap.size wb).drew _)).2.2.1, (HH.out _ (below_alloc (Below.refl wb.heap.size wb).drew _)).2.2.2⟩ (fun hHeld => ?_)
     clear hK K
     refine norm_ (a' := ?_) ?_ ?_
     rotate_left
     ·
      show Act.put _ (some 48) _ = _
      simp only [Act.put, zSA, zSB, zSC, i64_w, i32_w]
      rfl
     refine last_ (i := 20) (N := some 49) #[true, true, true, true, true, true, true, true, true, true, true, true, true, true, true, true, true, true, true, true, true, false, false, false] rfl rfl (by kernel_rfl) (by decide) (fun K hK => ?_)
     refine Kd.R_append_step k79 (w0 := W0) (W := wb.drew) W0.heap.size (by rfl) (.tmp 35) (.tmp 48) 61 79 _ 16 rfl Try.underlying61 info79 rfl (by decide) (by decide) (.slice Av lst.length cv) lst (scR x ps.length p) _ OKI (fun _ => False) rfl rfl (k79_mkM _ _ _ _) (fun _ h => h.elim) (fun k hk => HOKI.out k (Nat.le_trans HWS.out (show wb.heap.size ≤ k from hk))) (Kd.R_drew HV.out) HB.out.drew (below_size HB.out.drew) (by have := HLL.out; omega) ?_
     intro v1 w4 ho1 hb1 hg1 hat1
     obtain ⟨A4, c4, e4⟩ := Kd.R_slice ho1
     subst e4
     rw [show (lst ++ [scR x ps.length p]).length = lst.length + 1 by simp] at ho1
     have HO1 := aM ho1
     have HB1 := aM hb1
     have HH4 := aM (Kd.H_grown (Kd.H_drew HHH.out) hg1 (fun k hk => HV.out.1 k hk))
     have HWS4 := aM (Nat.le_trans HWS.out hg1.size)
     obtain ⟨hcl4, hfr4⟩ := H_cell HH4.out HIN.out
     clear hat1 hg1 ho1 hb1
     refine hK.out _ _ ?_
     clear hK K
     refine norm_ (a' := ?_) ?_ ?_
     rotate_left
     ·
      show Act.put _ (some 49) _ = _
      simp only [Act.put, zSA, zSB, zSC, i64_w, i32_w]
      rfl
     refine pure_ (i := 21) (N := some 50) (v := ?_) (a' := ?_) (bq 24 4194303) rfl rfl (by kernel_rfl) (fun _ _ _ h => h) (Or.inl ⟨by rfl, ?_⟩) ?_ ?_; rotate_left; (intro w'; go_simp; (with_reducible rfl)); rotate_left; (simp only [Act.put, zSA, zSB, zSC, i64_w, i32_w]; rfl)
     refine pure_ (i := 22) (N := some 51) (v := ?_) (a' := ?_) (bq 24 8388607) rfl rfl (by kernel_rfl) (fun _ _ _ h => h) (Or.inl ⟨by rfl, ?_⟩) ?_ ?_; rotate_left; (intro w'; go_simp; (with_reducible rfl)); rotate_left; (simp only [Act.put, zSA, zSB, zSC, i64_w, i32_w]; rfl)
     refine last_ (i := 23) (N := none) #[true, true, true, true, true, true, true, true, true, true, true, true, true, true, true, true, true, true, true, true, true, true, true, true] rfl rfl (by kernel_rfl) (by decide) (fun K hK => ?_)
     refine skip_ (w1 := ?_) (by rfl) rfl ?_ ?_
     rotate_left
     ·
      go_simp
      rfl
     refine hK.out _ _ ?_
     clear hK K
     refine done_ (by kernel_rfl) ?_
     obtain ⟨hh5, hg5⟩ := H_put HH4.out HIN.out (.slice A4 (lst.length + 1) c4) rfl
     have HH5 := aM hh5
     have HV5 := aM (Kd.R_far (p := ⟨g, i, none⟩) HO1.out (H_ne HH4.out) (.slice A4 (lst.length + 1) c4))
     have HB5 := aM (show Below W0.heap.size W0 (w4.setCell ⟨g, i, none⟩ (.slice A4 (lst.length + 1) c4)) from below_set HB1.out (H_lt HH4.out).1)
     clear hh5 hg5
     go_wp2
     go_roundg (ps.length - (j + 1))
     case measure => have := HKQ2.out; have := HJT.out; omega
     case rel => exact ⟨j + 1, _, _, by go_num, HJT.out, rfl, ⟨by rw [HST.out, HLE.out]⟩, HV5, HH5, HB5, ⟨by have := HWS4.out; simpa [World.setCell] using this⟩⟩
    ·
     obtain rfl : j = ps.length := by omega
     have hlst : lst = ps.map (scR x ps.length) := by rw [HLE.out, List.take_length]
     have HLS := aM hlst
     obtain ⟨Av, cv, e1⟩ := Kd.R_slice HV.out
     subst e1
     obtain ⟨hcg, hfg⟩ := H_cell HHH.out HIN.out
     have hSC := aM (fun W (hW : W = wr) => sort_calls lst Av lst.length cv W0 W W0.heap.size OKI (by rw [hW]; exact HV.out) (by rw [hlst, List.length_map]; exact HPS.out) (by rw [hW]; exact HB.out) (Nat.le_refl _))
     clear hj hjt hlst
     go_wp2_with (go_at_call 143; go_loud ((refine (hSC.out _ rfl).mono ?_); rintro e w6 ⟨rfl, ho6, hb6, hk6⟩; have HV6 := aM ho6; have HB6 := aM hb6; have HK6 := aM hk6; clear ho6 hb6 hk6))
     have HH6 := aM (Kd.H_step HHH.out (fun k _ hn hlt => HK6.out.2 k hlt (fun he => hn (HV.out.1 k he.symm))))
     have HS6 := aM (Kd.H_back HH6.out (x' := rk1 x ps) (okp := OKI) (k77_mkM _ _ _ (rk1 x ps) (by show Kd.R k79 79 w6 W0.heap.size OKI (.slice Av lst.length cv) ((ps.map (scR x ps.length)).mergeSort le); rw [← HLS.out]; exact HV6.out)) (fun _ hk => hk))
     go_roundg (n - (i + 1))
     case measure => have := HKQ.out; have := HIN.out.1; omega
     case rel =>
      refine ⟨i + 1, _, by go_num, HIN.out.1, rfl, ⟨?_⟩, HS6, HB6⟩
      have hlr : (rks x l (ws.take i)).length = i := by rw [rks_len, List.length_take]; have := HWi.out; omega
      have h1 := HIN.out.1
      rw [Int.toNat_natCast, HX.out, show n - i = (n - (i + 1)) + 1 by omega, rks_step x l ws i HWi.out, ← HWD.out, ← HPE.out]
      conv => lhs; arg 2; rw [← hlr]
      exact set_next _ _ _ _
  ·
   obtain rfl : i = n := by omega
   have HXE : Aside0 (xs = rks x l ws) := ⟨by rw [HX.out, Nat.sub_self, List.replicate_zero, List.append_nil, HN.out, List.take_length]⟩
   clear hi hlt
   go_wp2
   go_ret
   rw [← HXE.out]
   exact ⟨_, rfl, Kd.S_lower HO.out HSZ.out, below_then HBW.out HSZ.out HB.out⟩
end Go.Proofs.Ytaomjndfjmfelaa.Rks
end

section
namespace Go.Proofs.Ytaomjndfjmfelaa.ScoP
set_option linter.unusedVariables false
set_option linter.unusedSimpArgs false
open Go.RowKit Go.Sort Go.Proofs.Ytaomjndfjmfelaa.PQ Go.Proofs.YtaomjndfjmfelaaW.PrintWords Go.Proofs.YtaomjndfjmfelaaW.PrintLast Go.Proofs.Ytaomjndfjmfelaa.Pre Go.Proofs.Ytaomjndfjmfelaa.EntW Go.Proofs.Ytaomjndfjmfelaa.Posts Go.Proofs.Ytaomjndfjmfelaa.GoodW Go.Proofs.Ytaomjndfjmfelaa.PostW Go.Proofs.Ytaomjndfjmfelaa.Ask Go.Proofs.Ytaomjndfjmfelaa.ByP Go.Proofs.Ytaomjndfjmfelaa.Rks Go.Proofs.Ytaomjndfjmfelaa.TopB
theorem rd_str (l : List ByteArray) (i : Nat) (h : i < l.length) : rdOf ByteArray.empty l (i : Int) = l[i] := by
 unfold rdOf
 rw [Int.toNat_natCast, List.getD_eq_getElem?_getD, List.getElem?_eq_getElem h]
 rfl
/-- A word among words. -/
theorem index_ev (l : List ByteArray) (hl : l.length ≤ 1048576) (t : ByteArray) : ∃ r : Int, Evt (fun k => slices_Index_string_string.f k l t) r ∧ (0 ≤ r ↔ t ∈ l) := by
 have key : ∀ (n i : Nat), i + n = l.length → ∃ r : Int, Evt (fun k => slices_Index_string_string.l0 k l t (l.length : Int) (i : Int)) r ∧ (0 ≤ r ↔ t ∈ l.drop i) := by
  intro n
  induction n with
  | zero =>
   intro i hi
   refine ⟨-1, Evt.step (fun k => slices_Index_string_string.l0.eq_2 _ _ _ _ k) (Evt.neg (by omega) (Evt.const _)), ?_⟩
   rw [List.drop_eq_nil_of_le (by omega)]
   simp
  | succ n ih =>
   intro i hi
   have hil : i < l.length := by omega
   obtain ⟨r, hr, hm⟩ := ih (i + 1) (by omega)
   by_cases he : t = l[i]
   ·
    refine ⟨(i : Int), Evt.step (fun k => slices_Index_string_string.l0.eq_2 _ _ _ _ k) (Evt.pos (by omega) (Evt.pos (by omega) (Evt.pos (by omega) (Evt.pos (by rw [rd_str l i hil, he]) (Evt.const _))))), ?_⟩
    rw [List.drop_eq_getElem_cons hil]
    exact ⟨fun _ => by rw [← he]; exact List.mem_cons_self .., fun _ => by omega⟩
   ·
    refine ⟨r, Evt.step (fun k => slices_Index_string_string.l0.eq_2 _ _ _ _ k) (Evt.pos (by omega) (Evt.pos (by omega) (Evt.pos (by omega) (Evt.neg (by rw [rd_str l i hil]; exact fun e => he (Byt.toList_inj e)) ?_)))), ?_⟩
    ·
     rw [w64 (n := (i : Int) + 1) (by omega) (by omega)]
     exact hr
    ·
     rw [List.drop_eq_getElem_cons hil, List.mem_cons]
     exact ⟨fun h => .inr (hm.1 h), fun h => hm.2 (h.resolve_left he)⟩
 obtain ⟨r, hr, hm⟩ := key l.length 0 (by omega)
 rw [List.drop_zero] at hm
 exact ⟨r, hr, hm⟩
def memB (t : ByteArray) (l : List ByteArray) : Bool := l.any (fun y => decide (y = t))
theorem memB_iff (t : ByteArray) (l : List ByteArray) : memB t l = true ↔ t ∈ l := by
 unfold memB
 rw [List.any_eq_true]
 constructor
 ·
  rintro ⟨y, hy, e⟩
  rw [← of_decide_eq_true e]
  exact hy
 ·
  intro h
  exact ⟨t, h, decide_eq_true rfl⟩
theorem contains_ev (l : List ByteArray) (hl : l.length ≤ 1048576) (t : ByteArray) : Evt (fun k => slices_Contains_string_string.f k l t) (memB t l) := by
 obtain ⟨r, hr, hm⟩ := index_ev l hl t
 unfold slices_Contains_string_string.f
 refine Evt.bind hr ((Evt.const _).eq ?_)
 rw [Bool.eq_iff_iff, memB_iff, decide_eq_true_eq]
 exact hm
def scoreOK (x : Int) (l : List En) (ws : List ByteArray) : Bool := asked x l ws 5 && decide ws.Nodup
theorem nodup_take {l : List ByteArray} {i : Nat} (h : i < l.length) (hn : (l.take i).Nodup) : (l.take (i + 1)).Nodup ↔ l[i] ∉ l.take i := by
 rw [SoB.take_last l i h, List.nodup_append]
 constructor
 ·
  rintro ⟨_, _, h3⟩ hm
  exact h3 _ hm _ (List.mem_singleton.2 rfl) rfl
 ·
  intro hm
  refine ⟨hn, by simp, fun a ha b hb => ?_⟩
  rw [List.mem_singleton] at hb
  rintro rfl
  exact hm (hb ▸ ha)
theorem not_nodup {l : List ByteArray} {i : Nat} (h : i < l.length) (hm : l[i] ∈ l.take i) : ¬ l.Nodup := by
 intro hn
 have h1 : (l.take (i + 1)).Nodup := hn.sublist (List.take_sublist _ _)
 exact (nodup_take h (hn.sublist (List.take_sublist _ _))).1 h1 hm
theorem scoring_ev (x : Int) (l : List En) (hl : Small l) (ws : List ByteArray) (hs : SmallS ws) : Evt (fun k => impl_scoring.f k x l ws) (scoreOK x l ws) := by
 unfold impl_scoring.f scoreOK impl_wordsAsked.f
 rw [if_pos ⟨hl, hs⟩]
 refine Evt.bsome ?_
 have key : ∀ (n i : Nat), i + n = ws.length → (ws.take i).Nodup → Evt (fun k => impl_scoring.l0 k ws ws (ws.length : Int) (i : Int)) (decide ws.Nodup) := by
  intro n
  induction n with
  | zero =>
   intro i hi hn
   rw [List.take_of_length_le (by omega)] at hn
   exact Evt.step (fun k => impl_scoring.l0.eq_2 _ _ _ _ k) (Evt.neg (by omega) ((Evt.const _).eq (decide_eq_true hn).symm))
  | succ n ih =>
   intro i hi hn
   have hil : i < ws.length := by omega
   refine Evt.step (fun k => impl_scoring.l0.eq_2 _ _ _ _ k) (Evt.pos (by omega) (Evt.pos (by omega) (Evt.pos (by omega) (Evt.pos (by omega) ?_))))
   rw [rd_str ws i hil, Int.toNat_natCast]
   refine Evt.bind (contains_ev (ws.take i) (by rw [List.length_take]; have := hs.1; omega) ws[i]) ?_
   by_cases hm : ws[i] ∈ ws.take i
   ·
    exact Evt.pos ((memB_iff _ _).2 hm) ((Evt.const _).eq (decide_eq_false (not_nodup hil hm)).symm)
   ·
    refine Evt.neg (fun h => hm ((memB_iff _ _).1 h)) ?_
    have := hs.1
    rw [w64 (n := (i : Int) + 1) (by omega) (by omega)]
    exact ih (i + 1) (by omega) ((nodup_take hil hn).2 hm)
 by_cases ha : asked x l ws 5 = true
 ·
  refine Evt.pos ha ?_
  rw [ha, Bool.true_and]
  exact key ws.length 0 (by omega) (by rw [List.take_zero]; exact List.nodup_nil)
 ·
  refine Evt.neg ha ((Evt.const _).eq ?_)
  rw [Bool.eq_false_iff.2 ha, Bool.false_and]
def distinct (ws : List ByteArray) : Bool := (decide ((ws.length : Int) ≤ 5) && !ws.any notW) && decide ws.Nodup
theorem distinct_ev (ws : List ByteArray) (hs : SmallS ws) : Evt (fun k => spec_l11Distinct.f k ws) (distinct ws) := by
 unfold spec_l11Distinct.f
 have hlen := hs.1
 have inner : ∀ (i : Nat) (hil : i < ws.length) (r : Bool), (ws[i] ∉ ws.take i → Evt (fun k => spec_l11Distinct.l0 k ws ws (ws.length : Int) ((i + 1 : Nat) : Int)) r) → (ws[i] ∈ ws.take i → r = false) → ∀ (n j : Nat), j + n = (ws.take i).length → ws[i] ∉ (ws.take i).take j →
   Evt (fun k => spec_l11Distinct.l1 k ws ws[i] ws (ws.length : Int) (i : Int) (ws.take i) ((ws.take i).length : Int) (j : Int)) r := by
  intro i hil r h1 h2 n
  induction n with
  | zero =>
   intro j hj hm
   rw [List.take_of_length_le (by omega)] at hm
   refine Evt.step (fun k => spec_l11Distinct.l1.eq_2 _ _ _ _ _ _ _ _ k) (Evt.neg (by omega) ?_)
   rw [w64 (n := (i : Int) + 1) (by omega) (by omega)]
   exact h1 hm
  | succ n ih =>
   intro j hj hm
   have hjl : j < (ws.take i).length := by omega
   have hjl2 := hjl
   rw [List.length_take] at hjl2
   refine Evt.step (fun k => spec_l11Distinct.l1.eq_2 _ _ _ _ _ _ _ _ k) (Evt.pos (by omega) (Evt.pos (by omega) (Evt.pos (by omega) ?_)))
   rw [rd_str (ws.take i) j hjl]
   by_cases he : (ws.take i)[j] = ws[i]
   ·
    exact Evt.pos (by rw [he]) ((Evt.const _).eq (h2 (by rw [← he]; exact List.getElem_mem hjl)).symm)
   ·
    refine Evt.neg (fun e => he (Byt.toList_inj e)) ?_
    rw [w64 (n := (j : Int) + 1) (by omega) (by omega)]
    refine ih (j + 1) (by omega) ?_
    rw [SoB.take_last _ j hjl, List.mem_append, List.mem_singleton]
    rintro (h | h)
    ·
     exact hm h
    ·
     exact he h.symm
 have key : ∀ (n i : Nat), i + n = ws.length → (ws.take i).Nodup → (ws.take i).any notW = false → Evt (fun k => spec_l11Distinct.l0 k ws ws (ws.length : Int) (i : Int)) (distinct ws) := by
  intro n
  induction n with
  | zero =>
   intro i hi hn ha
   rw [List.take_of_length_le (by omega)] at hn ha
   refine Evt.step (fun k => spec_l11Distinct.l0.eq_2 _ _ _ _ k) (Evt.neg (by omega) ((Evt.const _).eq ?_))
   unfold distinct
   rw [ha, decide_eq_true hn, Bool.not_false, Bool.and_true, Bool.and_true]
  | succ n ih =>
   intro i hi hn ha
   have hil : i < ws.length := by omega
   refine Evt.step (fun k => spec_l11Distinct.l0.eq_2 _ _ _ _ k) (Evt.pos (by omega) (Evt.pos (by omega) (Evt.pos (by omega) ?_)))
   rw [rd_str ws i hil, Int.toNat_natCast]
   refine Evt.bind (l10Word_ev ws[i] (hs.2 _ (List.getElem_mem hil))) ?_
   by_cases hw : isW ws[i] = true
   ·
    refine Evt.pos hw (Evt.pos (by omega) (inner i hil _ (fun hm => ih (i + 1) (by omega) ((nodup_take hil hn).2 hm) ?_) (fun hm => ?_) (ws.take i).length 0 (by omega) (by simp)))
    ·
     rw [SoB.take_last ws i hil, List.any_append, ha, Bool.false_or]
     simp [notW, hw]
    ·
     unfold distinct
     rw [decide_eq_false (not_nodup hil hm), Bool.and_false]
   ·
    refine Evt.neg hw ((Evt.const _).eq ?_)
    have : ws.any notW = true := List.any_eq_true.2 ⟨ws[i], List.getElem_mem hil, by simp [notW, hw]⟩
    unfold distinct
    rw [this]
    simp
 exact key ws.length 0 (by omega) (by rw [List.take_zero]; exact List.nodup_nil) rfl
theorem ok_eq (x : Int) (l : List En) (ws : List ByteArray) : scoreOK x l ws = (goodW x l && distinct ws) := by
 unfold scoreOK asked distinct
 rw [Bool.and_assoc, Bool.and_assoc, Bool.and_assoc]
theorem ok_good {x : Int} {l : List En} {ws : List ByteArray} (h : scoreOK x l ws = true) : goodW x l = true ∧ ws.length ≤ 5 := by
 rw [ok_eq, Bool.and_eq_true] at h
 refine ⟨h.1, ?_⟩
 have h2 := h.2
 unfold distinct at h2
 rw [Bool.and_eq_true, Bool.and_eq_true, decide_eq_true_eq] at h2
 omega
theorem good_x {x : Int} {l : List En} (h : goodW x l = true) : 0 ≤ x ∧ x ≤ 40 := by
 unfold goodW at h
 rw [Bool.and_eq_true, Bool.and_eq_true] at h
 exact of_decide_eq_true h.1.1
theorem posts_good {x : Int} {l : List En} (h : goodW x l = true) (t : ByteArray) : okFrom (x - 1) (-1) (posts l t) = true := by
 have hx := good_x h
 unfold posts
 cases hf : l.find? (fun e => decide (e.f0 = t)) with
 | none => rfl
 | some e =>
  obtain ⟨i, hi, rfl⟩ := List.getElem_of_mem (List.mem_of_find?_eq_some hf)
  unfold goodW at h
  rw [Bool.and_eq_true, List.all_eq_true] at h
  have he := h.2 i (by rw [List.mem_range'_1]; omega)
  unfold entOK at he
  simp only [Bool.and_eq_true, rd_en l i hi] at he
  have h4 := he.2
  rw [w64 (by omega) (by omega)] at h4
  exact h4
theorem ok_facts (most : Int) : ∀ (ps : List Po) (last : Int), -1 ≤ last → okFrom most last ps = true → ps.Pairwise (fun a b => a.f0 < b.f0) ∧ (∀ p ∈ ps, last < p.f0 ∧ p.f0 ≤ most ∧ 1 ≤ p.f1 ∧ p.f1 ≤ 100) ∧ (last ≤ most → (ps.length : Int) ≤ most - last)
 | [], last, _, _ => ⟨List.Pairwise.nil, fun _ h => (by cases h), fun h => (by show ((0 : Nat) : Int) ≤ most - last; omega)⟩
 | a :: ps, last, h0, h => by
  simp only [okFrom, Bool.and_eq_true, decide_eq_true_eq] at h
  obtain ⟨⟨h1, h2, h3, h4⟩, h5⟩ := h
  obtain ⟨i1, i2, i3⟩ := ok_facts most ps a.f0 (by omega) h5
  refine ⟨List.pairwise_cons.2 ⟨fun b hb => (i2 b hb).1, i1⟩, fun p hp => ?_, fun _ => ?_⟩
  ·
   rcases List.mem_cons.1 hp with rfl | hp
   ·
    exact ⟨h1, h2, h3, h4⟩
   ·
    have := i2 p hp
    omega
  ·
   rw [List.length_cons]
   have := i3 h2
   omega
theorem posts_facts {x : Int} {l : List En} (h : goodW x l = true) (t : ByteArray) : (posts l t).Pairwise (fun a b => a.f0 < b.f0) ∧ (∀ p ∈ posts l t, 0 ≤ p.f0 ∧ p.f0 < x ∧ 1 ≤ p.f1 ∧ p.f1 ≤ 100) ∧ ((posts l t).length : Int) ≤ x := by
 have hx := good_x h
 obtain ⟨h1, h2, h3⟩ := ok_facts (x - 1) (posts l t) (-1) (by omega) (posts_good h t)
 refine ⟨h1, fun p hp => ?_, ?_⟩
 ·
  have := h2 p hp
  omega
 ·
  have := h3 (by omega)
  omega
theorem scR_val {x : Int} (hx : 0 ≤ x ∧ x ≤ 40) (n : Nat) (hn : (n : Int) ≤ x) (p : Po) (hp : 1 ≤ p.f1 ∧ p.f1 ≤ 100) : 1 ≤ (scR x n p).f1 ∧ (scR x n p).f1 ≤ 1000000 := by
 unfold scR
 show 1 ≤ wrap64 (p.f1 * wrap64 (wrap64 (x - (n : Int)) + 1)) ∧ wrap64 (p.f1 * wrap64 (wrap64 (x - (n : Int)) + 1)) ≤ 1000000
 rw [w64 (n := x - (n : Int)) (by omega) (by omega), w64 (n := x - (n : Int) + 1) (by omega) (by omega)]
 obtain ⟨y, hy⟩ : ∃ y, y = x - (n : Int) + 1 := ⟨_, rfl⟩
 rw [← hy]
 have h1 : 1 ≤ y ∧ y ≤ 41 := by omega
 have h2 : 1 * 1 ≤ p.f1 * y := Int.mul_le_mul hp.1 h1.1 (by omega) (by omega)
 have h3 : p.f1 * y ≤ 100 * 41 := Int.mul_le_mul hp.2 h1.2 (by omega) (by omega)
 rw [w64 (by omega) (by omega)]
 omega
theorem ids_unlike {l : List Sc} (h : l.Pairwise (fun a b => a.f0 ≠ b.f0)) : (l.mergeSort SoB.le).Pairwise (fun a b => b.f1 ≤ a.f1 ∧ a.f0 ≠ b.f0) := by
 have h1 : (l.mergeSort SoB.le).Pairwise (fun a b => a.f0 ≠ b.f0) := (List.mergeSort_perm l SoB.le).symm.pairwise h (fun {a b} hab => fun e => hab e.symm)
 exact (ord_falls (SoB.ord_sort l)).and h1
theorem rks_ranks {x : Int} {l : List En} (h : goodW x l = true) {ws : List ByteArray} (hw : ws.length ≤ 5) : Ranks (rks x l ws) := by
 have hx := good_x h
 refine ⟨by rw [rks_len]; exact hw, fun r hr => ?_⟩
 unfold rks at hr
 obtain ⟨t, _, rfl⟩ := List.mem_map.1 hr
 obtain ⟨h1, h2, h3⟩ := posts_facts h t
 refine ⟨?_, ?_, fun y hy => ?_⟩
 ·
  unfold rk1
  show (((posts l t).map _).mergeSort SoB.le).length ≤ 60
  rw [List.length_mergeSort, List.length_map]
  omega
 ·
  refine ids_unlike ?_
  rw [List.pairwise_map]
  exact h1.imp (fun {a b} hab e => by
   have : a.f0 = b.f0 := e
   omega)
 ·
  have hy2 := (List.mergeSort_perm _ SoB.le).subset hy
  obtain ⟨p, hp, rfl⟩ := List.mem_map.1 hy2
  have h4 := h2 p hp
  exact scR_val hx _ h3 p ⟨h4.2.2.1, h4.2.2.2⟩
theorem put_next (acc : List Sc) (s : Sc) (h : ∀ y ∈ acc, y.f0 ≠ s.f0) : SoB.putS (acc.mergeSort SoB.le) s = (acc ++ [s]).mergeSort SoB.le := by
 rw [SoB.putS_sort, if_neg]
 intro ha
 obtain ⟨y, hy, e⟩ := List.any_eq_true.1 ha
 refine h y hy ?_
 unfold Meet.isId at e
 simpa using e
theorem rank1_ev (x : Int) (l : List En) (ps : List Po) (hps : ps.length ≤ 1048576) (hpw : ps.Pairwise (fun a b => a.f0 < b.f0)) (ws : List ByteArray) (i : Nat) (hi : i < ws.length) (hw : ws.length ≤ 1048576) (x5 : List Rk) (h5 : x5.length ≤ 1048576) (r : List Rk)
  (hr : Evt (fun k => spec_l11Rankings.l0 k (x5 ++ [rk1 x ps]) ws (ws.length : Int) ((i + 1 : Nat) : Int) x l) r) : ∀ (n j : Nat), j + n = ps.length →
  Evt (fun k => spec_l11Rankings.l1 k x5 ps ws (ws.length : Int) (i : Int) ps (ps.length : Int) (j : Int) x l (((ps.take j).map (scR x ps.length)).mergeSort SoB.le)) r := by
 intro n
 induction n with
 | zero =>
  intro j hj
  refine Evt.step (fun k => spec_l11Rankings.l1.eq_2 _ _ _ _ _ _ _ _ _ _ _ k) (Evt.neg (by omega) (Evt.pos (by omega) ?_))
  rw [List.take_of_length_le (by omega), w64 (n := (i : Int) + 1) (by omega) (by omega)]
  exact hr
 | succ n ih =>
  intro j hj
  have hjl : j < ps.length := by omega
  refine Evt.step (fun k => spec_l11Rankings.l1.eq_2 _ _ _ _ _ _ _ _ _ _ _ k) (Evt.pos (by omega) (Evt.pos (by omega) (Evt.pos (by omega) ?_)))
  rw [rd_get ps j hjl]
  refine Evt.bind (SoB.put_ev _ (by rw [List.length_mergeSort, List.length_map, List.length_take]; omega) ps[j].f0 _) ?_
  have hput := put_next ((ps.take j).map (scR x ps.length)) (scR x ps.length ps[j]) (fun y hy e => by
   obtain ⟨p, hp, rfl⟩ := List.mem_map.1 hy
   obtain ⟨q, hq, rfl⟩ := List.mem_iff_getElem.1 hp
   rw [List.length_take] at hq
   rw [List.getElem_take] at e
   have e2 : ps[q].f0 = ps[j].f0 := e
   have := List.pairwise_iff_getElem.1 hpw q j (by omega) hjl (by omega)
   omega)
  rw [← map_step x ps j hjl] at hput
  rw [w64 (n := (j : Int) + 1) (by omega) (by omega)]
  have e : SoB.putS (((ps.take j).map (scR x ps.length)).mergeSort SoB.le) ⟨ps[j].f0, wrap64 (ps[j].f1 * wrap64 (wrap64 (x - (ps.length : Int)) + 1))⟩ = ((ps.take (j + 1)).map (scR x ps.length)).mergeSort SoB.le := hput
  rw [e]
  exact ih (j + 1) (by omega)
theorem rankings_ev (x : Int) (l : List En) (hl : Small l) (hg : goodW x l = true) (ws : List ByteArray) (hw : ws.length ≤ 1048576) : Evt (fun k => spec_l11Rankings.f k x l ws) (rks x l ws) := by
 unfold spec_l11Rankings.f
 have key : ∀ (n i : Nat), i + n = ws.length → Evt (fun k => spec_l11Rankings.l0 k (rks x l (ws.take i)) ws (ws.length : Int) (i : Int) x l) (rks x l ws) := by
  intro n
  induction n with
  | zero =>
   intro i hi
   rw [List.take_of_length_le (by omega)]
   exact Evt.step (fun k => spec_l11Rankings.l0.eq_2 _ _ _ _ _ _ k) (Evt.neg (by omega) (Evt.const _))
  | succ n ih =>
   intro i hi
   have hil : i < ws.length := by omega
   refine Evt.step (fun k => spec_l11Rankings.l0.eq_2 _ _ _ _ _ _ k) (Evt.pos (by omega) (Evt.pos (by omega) (Evt.pos (by omega) ?_)))
   rw [rd_str ws i hil]
   refine Evt.bind (spec_posts l hl x ws[i]) ?_
   have h := rank1_ev x l (posts l ws[i]) (small_posts hl ws[i]) (posts_facts hg ws[i]).1 ws i hil hw (rks x l (ws.take i)) (by rw [rks_len, List.length_take]; omega) (rks x l ws) (by
    rw [← rks_step x l ws i hil]
    exact ih (i + 1) (by omega)) (posts l ws[i]).length 0 (by omega)
   simpa using h
 exact key ws.length 0 (by omega)
end Go.Proofs.Ytaomjndfjmfelaa.ScoP
end

section
namespace Go.Proofs.Ytaomjndfjmfelaa.PQ
open Go.RowKit Go.Proofs.YtaomjndfjmfelaaW.PrintWords Go.Proofs.YtaomjndfjmfelaaW.PrintLast Go.Proofs.YtaomjndfjmfelaaW.PrintMore
attribute [local go_sem] max2_int min2_int max_two min_two max_three min_three max_four min_four
set_option linter.unusedVariables false
set_option linter.unusedSimpArgs false
def impl_rankings.f (a0_0 : Int) (l0_1 : List (S102)) (l1 : List ByteArray) : Option (List (S77)) := if ((l0_1.length ≤ 1048576 ∧ ∀ e ∈ l0_1, e.f0.size ≤ 1048576 ∧ e.f1.length ≤ 1048576) ∧ l1.length ≤ 1048576) ∧ GoodW.goodW a0_0 l0_1 = true then some (Rks.rks a0_0 l0_1 l1) else none
theorem impl_rankings.calls (a0_0 : Int) (A0_1 : Option Addr) (c0_1 : Nat) (l0_1 : List (S102)) (A1 : Option Addr) (c1 : Nat) (l1 : List ByteArray) (r : List (S77)) (w : World) (hr0_1 : Kd.C k102 w A0_1 l0_1.length l0_1) (hc0_1 : l0_1.length ≤ c0_1) (hr1 : Kd.C Kd.string w A1 l1.length l1) (hc1 : l1.length ≤ c1) (h : impl_rankings.f a0_0 l0_1 l1 = some r) :
  Calls Try.prog 117 #[.agg #[.int .i64 a0_0, .slice A0_1 l0_1.length c0_1], .slice A1 l1.length c1] w fun e w' => ∃ v0_ : Value, e = .returned (v0_) ∧ Kd.S k77 77 w' w.heap.size (fun _ => True) v0_ r ∧ Below w.heap.size w w' := by
 unfold impl_rankings.f at h
 split at h
 ·
  rename_i hs
  obtain rfl := Option.some.inj h
  exact Rks.rankings_calls a0_0 A0_1 c0_1 l0_1 A1 c1 l1 w hr0_1 hc0_1 hs.1.1 (PostW.rise_of_good hs.2) (PostW.ne_of_good hs.2) hr1 hc1 hs.1.2
 ·
  cases h

def impl_RankTexts.j0 : Nat → List ByteArray → Int → Bool → Int → List (S102) → Option ((List (S79)) × Bool)
 | 0, _, _, _, _, _ => none
 | k + 1, x1, x2, x18, x791000, x791001 => if x18 = true then (some (([] : List (S79)), false)) else ((impl_rankings.f x791000 x791001 x1).bind fun t793 => ((impl_topBest.f t793 x2).bind fun bt796 => (some (bt796.1, true))))
def impl_RankTexts.f (k : Nat) (a0_0 : Int) (l0_1 : List (S102)) (l1 : List ByteArray) (a2 : Int) : Option ((List (S79)) × Bool) := (impl_scoring.f k a0_0 l0_1 l1).bind fun t791 => (if t791 = true then ((impl_within.f a2 0 60).bind fun t792 => (impl_RankTexts.j0 k l1 a2 (!t792) a0_0 l0_1)) else (impl_RankTexts.j0 k l1 a2 true a0_0 l0_1))
set_option maxHeartbeats 8000000 in
set_option maxRecDepth 100000 in
theorem impl_RankTexts.calls (k : Nat) (a0_0 : Int) (A0_1 : Option Addr) (c0_1 : Nat) (l0_1 : List (S102)) (A1 : Option Addr) (c1 : Nat) (l1 : List ByteArray) (a2 : Int) (r1 : List (S79)) (r2 : Bool) (w : World) (hr0_1 : Kd.C k102 w A0_1 l0_1.length l0_1) (hc0_1 : l0_1.length ≤ c0_1) (hr1 : Kd.C Kd.string w A1 l1.length l1) (hc1 : l1.length ≤ c1) (h : impl_RankTexts.f k a0_0 l0_1 l1 a2 = some (r1, r2)) :
  Calls Try.prog 67 #[.agg #[.int .i64 a0_0, .slice A0_1 l0_1.length c0_1], .slice A1 l1.length c1, .int .i64 a2] w fun e w' => ∃ v0_ : Value, e = .returned (.tuple #[v0_, .bool r2]) ∧ Kd.R k79 79 w' w.heap.size (fun _ => True) v0_ r1 ∧ Below w.heap.size w w' := by
 have hu33 := Try.underlying33
 have HR0_1 := aM hr0_1
 have HC0_1 := aM hc0_1
 clear hr0_1 hc0_1
 have HR1 := aM hr1
 have HC1 := aM hc1
 clear hr1 hc1
 have HB := aM (Below.refl w.heap.size w)
 have H : ((impl_scoring.f k a0_0 l0_1 l1).bind fun t791 => (if t791 = true then ((impl_within.f a2 0 60).bind fun t792 => (impl_RankTexts.j0 k l1 a2 (!t792) a0_0 l0_1)) else (impl_RankTexts.j0 k l1 a2 true a0_0 l0_1))) = some (r1, r2) := h
 clear h
 have HC4 := aM H
 clear H
 go_enter Try.func67, Try.ntmps67
 go_upto_region 1 with (((with_reducible refine gate_dst (N := 3) rfl ?_); refine box_event ?hg (N := 3) ?hd (cs := #[.int .i64 a0_0, .slice A0_1 l0_1.length c0_1]) (t := 33) ?hr ?_; (case hd => rfl); (case hg => rfl); (case hr => first | (go_simp; done) | (go_simp; rfl)); intro gb790 hg w5 hbox hb; have n0_ := aM (below_step (gB HB.out) hb); have n1_ := aM (hbox); have n2_ := aM ((by rw [hg]; exact (below_size (gB HB.out)) : w.heap.size ≤ gb790)); have n3_ := aM ((by rw [hg]; exact (below_size (gB HB.out)) : w.heap.size ≤ gb790)); clear HB; have HB := n0_; have BK790 := n1_; have GW790 := n2_; have GE790 := n3_; clear n0_ n1_ n2_ n3_; clear hb hbox hg))
 (try simp only [Act.put, zSA, zSB, zSC])
 go_cut [18] (fun v18 wc => ∃ (kq : Nat) (x18_3 : Bool), v18 = .bool x18_3 ∧ Aside0 (impl_RankTexts.j0 kq l1 a2 x18_3 a0_0 l0_1 = some (r1, r2)) ∧ Aside0 (kq ≤ k) ∧ Aside0 (wc.heap[gb790]? = some (.cells #[.int .i64 a0_0, (.slice A0_1 l0_1.length c0_1)] 33 (0, 0))) ∧ Aside0 (Below w.heap.size w wc))
 case first =>
  have H := HC4.out
  clear HC4
  replace H := Option.bind_eq_some_iff.mp H
  obtain ⟨t791, A60, H⟩ := H
  replace H : (if t791 = true then ((impl_within.f a2 0 60).bind fun t792 => (impl_RankTexts.j0 k l1 a2 (!t792) a0_0 l0_1)) else (impl_RankTexts.j0 k l1 a2 true a0_0 l0_1)) = some (r1, r2) := H
  have A6 := aM A60
  clear A60
  by_cases c7 : t791 = true
  ·
   subst c7
   have H1 : ((impl_within.f a2 0 60).bind fun t792 => (impl_RankTexts.j0 k l1 a2 (!t792) a0_0 l0_1)) = some (r1, r2) := by rw [if_pos rfl] at H; exact H
   clear H
   have H := H1
   clear H1
   replace H := Option.bind_eq_some_iff.mp H
   obtain ⟨t792, A80, H⟩ := H
   replace H : (impl_RankTexts.j0 k l1 a2 (!t792) a0_0 l0_1) = some (r1, r2) := H
   have A8 := aM A80
   clear A80
   have H' := aM H
   clear H
   have hcz9_0 : w5.cell? ⟨gb790, 0, none⟩ = some (.int .i64 a0_0) := (blk_cell BK790.out 0).trans rfl
   have hcz9_1 : w5.cell? ⟨gb790, 1, none⟩ = some (.slice A0_1 l0_1.length c0_1) := (blk_cell BK790.out 1).trans rfl
   have hfz9_0 := blk_frozen BK790.out 0
   have hfz9_1 := blk_frozen BK790.out 1
   go_wp2_with (first | ((with_reducible refine gate_callee (f := 116) rfl ?_); refine goesL_ (some 12) rfl rfl Try.func116 (by kernel_rfl) rfl #[.agg #[.int .i64 a0_0, .slice A0_1 l0_1.length c0_1], .slice A1 l1.length c1] rfl (by (try simp only [List.map_toArray, List.map_cons, List.map_nil]); first | done | rfl | (simp only [List.length_drop, List.length_take]; rfl)) ?_; (with_reducible refine (impl_scoring.calls k a0_0 _ _ l0_1 _ _ l1 true _ ?side1 ?side2 ?side3 ?side4 A6.out).mono ?_); (case side1 => repeat (first | exact (Kd.C_below HR0_1.out HB.out) | (with_reducible refine Kd.C_alloc ?_ _) | (with_reducible refine Kd.C_drewN ?_ _) | (with_reducible refine Kd.C_drew ?_))); (case side2 => exact HC0_1.out); (case side3 => repeat (first | exact (Kd.C_below HR1.out HB.out) | (with_reducible refine Kd.C_alloc ?_ _) | (with_reducible refine Kd.C_drewN ?_ _) | (with_reducible refine Kd.C_drew ?_))); (case side4 => exact HC1.out); rintro e w10 ⟨rfl, hb⟩; refine ⟨_, rfl, ?_⟩; have n0_ := aM (blk_below (g := gb790) (o := .cells #[.int .i64 a0_0, .slice A0_1 l0_1.length c0_1] 33 (0, 0)) (gK BK790.out) hb); have n1_ := aM (below_step (gB HB.out) hb); clear BK790; clear HB; have BK790 := n0_; have HB := n1_; clear n0_ n1_; (try clear hb); (try clear hb2); (try clear hk); (try clear hi)) | (go_at_call 88; (try simp only [i64_w]); (with_reducible refine (impl_within.calls a2 0 60 t792 _ A8.out).mono ?_); rintro e w' ⟨rfl, ⟨nd, rfl⟩⟩))
   go_meet
   case rel => exact ⟨_, (!t792), (by first | rfl | (simp; done) | (simp [*]; done)), H', ⟨by first | omega | exact Nat.le_refl _⟩, ⟨gK BK790.out⟩, ⟨by repeat (first | (with_reducible first | exact HB.out | apply below_alloc | apply pw_below_drewN | apply below_drew1 | refine below_set ?_ GE790.out) | exact HB.out)⟩⟩
  ·
   replace c7 := Bool.eq_false_iff.mpr c7
   subst c7
   have H1 : (impl_RankTexts.j0 k l1 a2 true a0_0 l0_1) = some (r1, r2) := by rw [if_neg (show ¬ (false = true) by decide)] at H; exact H
   clear H
   have H := H1
   clear H1
   have H' := aM H
   clear H
   have hcz11_0 : w5.cell? ⟨gb790, 0, none⟩ = some (.int .i64 a0_0) := (blk_cell BK790.out 0).trans rfl
   have hcz11_1 : w5.cell? ⟨gb790, 1, none⟩ = some (.slice A0_1 l0_1.length c0_1) := (blk_cell BK790.out 1).trans rfl
   have hfz11_0 := blk_frozen BK790.out 0
   have hfz11_1 := blk_frozen BK790.out 1
   go_wp2_with (((with_reducible refine gate_callee (f := 116) rfl ?_); refine goesL_ (some 12) rfl rfl Try.func116 (by kernel_rfl) rfl #[.agg #[.int .i64 a0_0, .slice A0_1 l0_1.length c0_1], .slice A1 l1.length c1] rfl (by (try simp only [List.map_toArray, List.map_cons, List.map_nil]); first | done | rfl | (simp only [List.length_drop, List.length_take]; rfl)) ?_; (with_reducible refine (impl_scoring.calls k a0_0 _ _ l0_1 _ _ l1 false _ ?side1 ?side2 ?side3 ?side4 A6.out).mono ?_); (case side1 => repeat (first | exact (Kd.C_below HR0_1.out HB.out) | (with_reducible refine Kd.C_alloc ?_ _) | (with_reducible refine Kd.C_drewN ?_ _) | (with_reducible refine Kd.C_drew ?_))); (case side2 => exact HC0_1.out); (case side3 => repeat (first | exact (Kd.C_below HR1.out HB.out) | (with_reducible refine Kd.C_alloc ?_ _) | (with_reducible refine Kd.C_drewN ?_ _) | (with_reducible refine Kd.C_drew ?_))); (case side4 => exact HC1.out); rintro e w12 ⟨rfl, hb⟩; refine ⟨_, rfl, ?_⟩; have n0_ := aM (blk_below (g := gb790) (o := .cells #[.int .i64 a0_0, .slice A0_1 l0_1.length c0_1] 33 (0, 0)) (gK BK790.out) hb); have n1_ := aM (below_step (gB HB.out) hb); clear BK790; clear HB; have BK790 := n0_; have HB := n1_; clear n0_ n1_; (try clear hb); (try clear hb2); (try clear hk); (try clear hi)))
   go_meet
   case rel => exact ⟨_, (true), (by first | rfl | (simp; done) | (simp [*]; done)), H', ⟨by first | omega | exact Nat.le_refl _⟩, ⟨gK BK790.out⟩, ⟨by repeat (first | (with_reducible first | exact HB.out | apply below_alloc | apply pw_below_drewN | apply below_drew1 | refine below_set ?_ GE790.out) | exact HB.out)⟩⟩
 case rest =>
  clear HC4
  try clear c1
  try clear p2
  try clear c6
  try clear c7
  try clear c11
  try clear hcz11_0
  try clear hcz11_1
  try clear hcz9_0
  try clear hcz9_1
  try clear hfz11_0
  try clear hfz11_1
  try clear hfz9_0
  try clear hfz9_1
  obtain ⟨kq, x18_3, rfl, HA, HJ3, BK790, HB⟩ := hcut
  cases kq with
  | zero => exact absurd HA.out (by simp [impl_RankTexts.j0])
  | succ kj3 =>
   have H := HA.out
   clear HA
   simp only [impl_RankTexts.j0] at H
   by_cases c13 : x18_3 = true
   ·
    subst c13
    have H1 : (some (([] : List (S79)), false)) = some (r1, r2) := by rw [if_pos rfl] at H; exact H
    clear H
    have H := H1
    clear H1
    simp only [Option.some.injEq, Prod.mk.injEq] at H
    obtain ⟨rfl, rfl⟩ := H
    go_wp2
    go_ret2
    exact ⟨_, by first | rfl | (simp [errW_none, errW_some] <;> rfl) | (simp [*, errW_none, errW_some] <;> rfl), by first | exact Kd.R_nil _ _ _ _ _ | exact Kd.N_nil _ _ _ _ _ | exact Kd.V_nil _ _ _ _ _ | exact Kd.Q_nil _ _ _ _ _ | exact Kd.S_nil _ _ _ _ _, by repeat (first | (with_reducible first | exact HB.out | apply below_alloc | apply pw_below_drewN | apply below_drew1 | refine below_set ?_ GE790.out) | exact HB.out)⟩
   ·
    replace c13 := Bool.eq_false_iff.mpr c13
    subst c13
    have H1 : ((impl_rankings.f a0_0 l0_1 l1).bind fun t793 => ((impl_topBest.f t793 a2).bind fun bt796 => (some (bt796.1, true)))) = some (r1, r2) := by rw [if_neg (show ¬ (false = true) by decide)] at H; exact H
    clear H
    have H := H1
    clear H1
    replace H := Option.bind_eq_some_iff.mp H
    obtain ⟨t793, A140, H⟩ := H
    replace H : ((impl_topBest.f t793 a2).bind fun bt796 => (some (bt796.1, true))) = some (r1, r2) := H
    have A14 := aM A140
    clear A140
    replace H := Option.bind_eq_some_iff.mp H
    obtain ⟨⟨t796, t797⟩, A150, H⟩ := H
    replace H : (some (t796, true)) = some (r1, r2) := H
    have A15 := aM A150
    clear A150
    simp only [Option.some.injEq, Prod.mk.injEq] at H
    obtain ⟨rfl, rfl⟩ := H
    have hcz16_0 : wc.cell? ⟨gb790, 0, none⟩ = some (.int .i64 a0_0) := (blk_cell BK790.out 0).trans rfl
    have hcz16_1 : wc.cell? ⟨gb790, 1, none⟩ = some (.slice A0_1 l0_1.length c0_1) := (blk_cell BK790.out 1).trans rfl
    have hfz16_0 := blk_frozen BK790.out 0
    have hfz16_1 := blk_frozen BK790.out 1
    go_wp2_with (first | ((with_reducible refine gate_callee (f := 117) rfl ?_); refine goesL_ (some 22) rfl rfl Try.func117 (by kernel_rfl) rfl #[.agg #[.int .i64 a0_0, .slice A0_1 l0_1.length c0_1], .slice A1 l1.length c1] rfl (by (try simp only [List.map_toArray, List.map_cons, List.map_nil]); first | done | rfl | (simp only [List.length_drop, List.length_take]; rfl)) ?_; (with_reducible refine (impl_rankings.calls a0_0 _ _ l0_1 _ _ l1 t793 _ ?side1 ?side2 ?side3 ?side4 A14.out).mono ?_); (case side1 => repeat (first | exact (Kd.C_below HR0_1.out HB.out) | (with_reducible refine Kd.C_alloc ?_ _) | (with_reducible refine Kd.C_drewN ?_ _) | (with_reducible refine Kd.C_drew ?_))); (case side2 => exact HC0_1.out); (case side3 => repeat (first | exact (Kd.C_below HR1.out HB.out) | (with_reducible refine Kd.C_alloc ?_ _) | (with_reducible refine Kd.C_drewN ?_ _) | (with_reducible refine Kd.C_drew ?_))); (case side4 => exact HC1.out); rintro e w17 ⟨v794, rfl, ho0, hb⟩; refine ⟨_, rfl, ?_⟩; have n0_ := aM (Kd.S_lower ho0 (below_size (gB HB.out))); have n1_ := aM (blk_below (g := gb790) (o := .cells #[.int .i64 a0_0, .slice A0_1 l0_1.length c0_1] 33 (0, 0)) (gK BK790.out) hb); have n2_ := aM (below_step (gB HB.out) hb); clear BK790; clear HB; have HO795 := n0_; have BK790 := n1_; have HB := n2_; clear n0_ n1_ n2_; (try clear hb); (try clear hb2); (try clear hk); (try clear hi); (try clear ho0); obtain ⟨Ao18, co18, eo18⟩ := Kd.S_slice HO795.out; subst eo18) | ((with_reducible refine gate_callee (f := 107) rfl ?_); refine goesL_ (some 24) rfl rfl Try.func107 (by kernel_rfl) rfl #[.slice Ao18 t793.length co18, .int .i64 a2] rfl (by (try simp only [List.map_toArray, List.map_cons, List.map_nil]); first | done | rfl | (simp only [List.length_drop, List.length_take]; rfl)) ?_; (with_reducible refine (impl_topBest.calls _ _ t793 a2 t796 t797 _ ?side1 ?side2 A15.out).mono ?_); (case side1 => repeat (first | exact (Kd.S_reads' HO795.out).2.2 | (with_reducible refine Kd.C_alloc ?_ _) | (with_reducible refine Kd.C_drewN ?_ _) | (with_reducible refine Kd.C_drew ?_))); (case side2 => exact (Kd.S_reads' HO795.out).2.1); rintro e w19 ⟨v798, rfl, ho0, hb⟩; refine ⟨_, rfl, ?_⟩; have n0_ := aM (Kd.S_elder' (by (with_reducible repeat (first | apply Kd.S_alloc | apply Kd.S_drewN | apply Kd.S_drew)); exact HO795.out) (Kd.R_base ho0) hb); have n1_ := aM (Kd.R_lower ho0 (below_size (gB HB.out))); have n2_ := aM (blk_below (g := gb790) (o := .cells #[.int .i64 a0_0, .slice A0_1 l0_1.length c0_1] 33 (0, 0)) (gK BK790.out) hb); have n3_ := aM (below_step (gB HB.out) hb); clear HO795; clear BK790; clear HB; have HO795 := n0_; have HO799 := n1_; have BK790 := n2_; have HB := n3_; clear n0_ n1_ n2_ n3_; (try clear hb); (try clear hb2); (try clear hk); (try clear hi); (try clear ho0)))
    go_ret2
    exact ⟨_, by first | rfl | (simp [errW_none, errW_some] <;> rfl) | (simp [*, errW_none, errW_some] <;> rfl), by (with_reducible repeat (first | apply Kd.R_alloc | apply Kd.R_drewN | apply Kd.R_drew)); exact HO799.out, by repeat (first | (with_reducible first | exact HB.out | apply below_alloc | apply pw_below_drewN | apply below_drew1 | refine below_set ?_ GE790.out) | exact HB.out)⟩

end Go.Proofs.Ytaomjndfjmfelaa.PQ
end

section
namespace Go.Proofs.Ytaomjndfjmfelaa.ScoP
set_option linter.unusedVariables false
set_option linter.unusedSimpArgs false
open Go.RowKit Go.Sort Go.Proofs.Ytaomjndfjmfelaa.PQ Go.Proofs.YtaomjndfjmfelaaW.PrintWords Go.Proofs.YtaomjndfjmfelaaW.PrintLast Go.Proofs.Ytaomjndfjmfelaa.Pre Go.Proofs.Ytaomjndfjmfelaa.EntW Go.Proofs.Ytaomjndfjmfelaa.Posts Go.Proofs.Ytaomjndfjmfelaa.GoodW Go.Proofs.Ytaomjndfjmfelaa.PostW Go.Proofs.Ytaomjndfjmfelaa.Ask Go.Proofs.Ytaomjndfjmfelaa.ByP Go.Proofs.Ytaomjndfjmfelaa.Rks Go.Proofs.Ytaomjndfjmfelaa.TopB
def ansRankTexts (x : Int) (l : List En) (ws : List ByteArray) (a : Int) : List Sc × Bool := if scoreOK x l ws = true ∧ (0 ≤ a ∧ a ≤ 60) then (((SoB.metA (rks x l ws) (rks x l ws) []).mergeSort SoB.le).take a.toNat, true) else ([], false)
theorem ansRankTexts_len (x : Int) (l : List En) (ws : List ByteArray) (a : Int) : (ansRankTexts x l ws a).1.length ≤ 1048576 := by
 unfold ansRankTexts
 by_cases h : scoreOK x l ws = true ∧ (0 ≤ a ∧ a ≤ 60)
 ·
  rw [if_pos h]
  show (((SoB.metA _ _ []).mergeSort SoB.le).take a.toNat).length ≤ 1048576
  rw [List.length_take]
  have := h.2.2
  omega
 ·
  rw [if_neg h]
  exact Nat.zero_le _
theorem specRankTexts_ev (x : Int) (l : List En) (hl : Small l) (ws : List ByteArray) (hs : SmallS ws) (a : Int) : Evt (fun k => spec_RankTexts.f k x l ws a) (ansRankTexts x l ws a) := by
 unfold spec_RankTexts.f ansRankTexts
 rw [ok_eq]
 refine Evt.bind (GoodW.spec_ev x l hl) ?_
 by_cases hg : goodW x l = true
 ·
  refine Evt.pos hg (Evt.bind (distinct_ev ws hs) ?_)
  by_cases hd : distinct ws = true
  ·
   have hlen := (ok_good (x := x) (l := l) (ws := ws) (by rw [ok_eq, hg, hd]; rfl)).2
   have hR := rks_ranks hg hlen
   refine Evt.pos hd ?_
   rw [RankP.in_ev]
   refine Evt.bsome (Evt.step (fun k => spec_RankTexts.j0.eq_2 _ _ _ _ _ k) ?_)
   by_cases ha : 0 ≤ a ∧ a ≤ 60
   ·
    rw [if_pos ⟨by rw [hg, hd]; rfl, ha⟩, decide_eq_true ha]
    obtain ⟨n, rfl⟩ := Int.eq_ofNat_of_zero_le ha.1
    rw [Int.toNat_natCast]
    exact Evt.neg (by decide) (Evt.bind (rankings_ev x l hl hg ws (by omega)) (Evt.bind (SoB.all_ev _ hR.1 (fun y hy => (hR.2 y hy).1) n (by omega)) (Evt.const _)))
   ·
    rw [if_neg (fun h => ha h.2), decide_eq_false ha]
    exact Evt.pos rfl (Evt.const _)
  ·
   rw [if_neg (fun h => by rw [hg, Bool.true_and] at h; exact hd h.1)]
   exact Evt.neg hd (Evt.step (fun k => spec_RankTexts.j0.eq_2 _ _ _ _ _ k) (Evt.pos rfl (Evt.const _)))
 ·
  rw [if_neg (fun h => by rw [Bool.and_eq_true] at h; exact hg h.1.1)]
  exact Evt.neg hg (Evt.step (fun k => spec_RankTexts.j0.eq_2 _ _ _ _ _ k) (Evt.pos rfl (Evt.const _)))
theorem implRankTexts_ev (x : Int) (l : List En) (hl : Small l) (ws : List ByteArray) (hs : SmallS ws) (a : Int) : Evt (fun k => impl_RankTexts.f k x l ws a) (ansRankTexts x l ws a) := by
 unfold impl_RankTexts.f ansRankTexts
 refine Evt.bind (scoring_ev x l hl ws hs) ?_
 by_cases ho : scoreOK x l ws = true
 ·
  obtain ⟨hg, hlen⟩ := ok_good ho
  have hR := rks_ranks hg hlen
  refine Evt.pos ho ?_
  rw [Posts.impl_within_ev]
  refine Evt.bsome (Evt.step (fun k => impl_RankTexts.j0.eq_2 _ _ _ _ _ k) ?_)
  by_cases ha : 0 ≤ a ∧ a ≤ 60
  ·
   rw [if_pos (show scoreOK x l ws = true ∧ (0 ≤ a ∧ a ≤ 60) from ⟨ho, ha⟩), decide_eq_true ha]
   refine Evt.neg (by decide) ?_
   unfold impl_rankings.f
   rw [if_pos ⟨⟨hl, by omega⟩, hg⟩]
   refine Evt.bsome ?_
   unfold impl_topBest.f
   rw [if_pos ⟨⟨hR.1, fun y hy => (hR.2 y hy).1⟩, ha⟩]
   refine Evt.bsome ((Evt.const _).eq ?_)
   rw [ansT_all _ hR]
  ·
   rw [if_neg (show ¬ (scoreOK x l ws = true ∧ (0 ≤ a ∧ a ≤ 60)) from fun h => ha h.2), decide_eq_false ha]
   exact Evt.pos rfl (Evt.const _)
 ·
  rw [if_neg (fun h => ho h.1)]
  exact Evt.neg ho (Evt.step (fun k => impl_RankTexts.j0.eq_2 _ _ _ _ _ k) (Evt.pos rfl (Evt.const _)))
end Go.Proofs.Ytaomjndfjmfelaa.ScoP
end

section
namespace Go.Proofs.Ytaomjndfjmfelaa.LwRT
set_option linter.unusedVariables false
set_option linter.unusedSimpArgs false
open Go.RowKit Go.Proofs.Ytaomjndfjmfelaa.PQ Go.Proofs.YtaomjndfjmfelaaW.PrintWords Go.Proofs.YtaomjndfjmfelaaW.PrintLast Go.Proofs.YtaomjndfjmfelaaW.PrintMore Go.Proofs.Ytaomjndfjmfelaa.Pre Go.Proofs.Ytaomjndfjmfelaa.Posts Go.Proofs.Ytaomjndfjmfelaa.GoodW Go.Proofs.Ytaomjndfjmfelaa.EntT Go.Proofs.Ytaomjndfjmfelaa.PostW Go.Proofs.Ytaomjndfjmfelaa.Shp Go.Proofs.Ytaomjndfjmfelaa.Ask Go.Proofs.Ytaomjndfjmfelaa.LwK
theorem reads_q {W : World} {base : Nat} {ok : Nat → Prop} {Ag : Option Addr} {n cg : Nat} {q : List (S79)} (h : Kd.R k79 79 W base ok (.slice Ag n cg) q) : n = q.length ∧ Kd.C k79 W Ag q.length q := ⟨(Kd.R_reads' h).1, (Kd.R_reads' h).2.2⟩
theorem row1 {W : World} {base : Nat} {ok : Nat → Prop} {v : Value} {xs : List ByteArray} (h : Kd.string.R 9 W base ok v xs) : Row W 9 xs.length 1 v := Row.of_R h
theorem cells8 {x : Int} {Ax : Option Addr} {n cx : Nat} {w4 W8 w' : World} (h : W8 = w4.alloc (.cells #[.int .i64 x, .slice Ax n cx] 33)) (hb : Below W8.heap.size W8 w') : w'.cell? ⟨w4.heap.size, 0, none⟩ = some (.int .i64 x) ∧ w'.cell? ⟨w4.heap.size, 1, none⟩ = some (.slice Ax n cx) := by
 subst h
 exact ⟨(hb.cell (by simp)).trans (by simp), (hb.cell (by simp)).trans (by simp)⟩
set_option maxRecDepth 100000 in
set_option maxHeartbeats 8000000 in
theorem calls (x : Int) (A : Option Addr) (c : Nat) (l : List El) (B : Option Addr) (d : Nat) (ws : List ByteArray) (a : Int) (w : World) (hr : Kd.C k140 w A l.length l) (hc : l.length ≤ c) (hw : l.length ≤ 9223372036854775807 ∧ ∀ e ∈ l, e.f0.size ≤ 9223372036854775807 ∧ e.f1.length ≤ 9223372036854775807) (hsw : Kd.C Kd.string w B ws.length ws) (hd : ws.length ≤ d) (hws : ws.length ≤ 9223372036854775807 ∧ ∀ s ∈ ws, s.size ≤ 9223372036854775807) :
  Calls Try.prog 13 #[.agg #[.int .i64 x, .slice A l.length c], .slice B ws.length d, .int .i64 a] w fun e w' => e = .returned (.bool true) ∧ Below w.heap.size w w' := by
 have HR := aM hr
 have HC := aM hc
 have HSW := aM hsw
 have HD := aM hd
 obtain ⟨W0, hW0⟩ : ∃ W0, W0 = w.alloc (.cells #[.int .i64 x, .slice A l.length c] 24) := ⟨_, rfl⟩
 have HX0 : Aside0 (∀ w', Below W0.heap.size W0 w' → w'.cell? ⟨w.heap.size, 0, none⟩ = some (.int .i64 x) ∧ w'.cell? ⟨w.heap.size, 1, none⟩ = some (.slice A l.length c)) := ⟨fun w' hb => by subst hW0; exact ⟨(hb.cell (by simp)).trans (by simp), (hb.cell (by simp)).trans (by simp)⟩⟩
 have HB0 : Aside0 (Below w.heap.size w W0) := ⟨by subst hW0; exact below_alloc (Below.refl w.heap.size w) _⟩
 have HSZ : Aside0 (w.heap.size ≤ W0.heap.size) := ⟨by subst hW0; simp⟩
 obtain ⟨r, hev, hsm, hru⟩ := sz_ev2 x l hw.1 hw.2 1048576 (by omega) (by omega)
 obtain ⟨k0, hk0⟩ := hev.ex
 have E0 := aM hk0
 by_cases hneg : r < 0
 ·
  have hnb : decide (r < 0) = true := decide_eq_true hneg
  clear hr hc hw hsw hd hws hsm hk0 hev
  go_enter Try.func13, Try.ntmps13
  go_wp2_with (first | (go_at_call 15; go_loud (rw [← hW0]; (with_reducible refine (laws_szWords.calls k0 x A c l 1048576 r _ (Kd.C_below HR.out HB0.out) HC.out E0.out).mono ?_); rintro e w1 ⟨rfl, hb⟩; have HA1 := aM hb; clear hb; obtain ⟨hc0, hc1⟩ := HX0.out w1 HA1.out)))
  go_ret
  exact ⟨rfl, below_then HB0.out HSZ.out HA1.out⟩
 ·
  have hnb : decide (r < 0) = false := decide_eq_false hneg
  obtain ⟨rs, hevs, hsms⟩ := MkS.szS_ev ws hws.1 hws.2 r (by omega) hru
  obtain ⟨k0s, hk0s⟩ := hevs.ex
  have E0s := aM hk0s
  by_cases hnegs : rs < 0
  ·
   have hnbs : decide (rs < 0) = true := decide_eq_true hnegs
   clear hr hc hw hsw hd hws hsm hk0 hev hsms hk0s hevs hneg
   go_enter Try.func13, Try.ntmps13
   go_wp2_with (first | (go_at_call 15; go_loud (rw [← hW0]; (with_reducible refine (laws_szWords.calls k0 x A c l 1048576 r _ (Kd.C_below HR.out HB0.out) HC.out E0.out).mono ?_); rintro e w1 ⟨rfl, hb⟩; have HA1 := aM hb; clear hb; obtain ⟨hc0, hc1⟩ := HX0.out w1 HA1.out)) | (go_at_call 16; go_loud ((with_reducible refine (laws_szStringS.calls k0s B d ws r rs _ (Kd.C_below HSW.out (below_then HB0.out HSZ.out HA1.out)) HD.out E0s.out).mono ?_); rintro e w1s ⟨rfl, hd⟩; have HA1s := aM (below_step HA1.out hd.below); clear hd hc0 hc1; obtain ⟨hc0, hc1⟩ := HX0.out w1s HA1s.out)))
   go_ret
   exact ⟨rfl, below_then HB0.out HSZ.out HA1s.out⟩
  ·
   have hnbs : decide (rs < 0) = false := decide_eq_false hnegs
   have hs := hsm (by omega)
   have hss := hsms (by omega)
   have hsl := map_small l hs
   obtain ⟨le, hle⟩ : ∃ le, le = l.map cvE := ⟨_, rfl⟩
   rw [← hle] at hsl
   obtain ⟨k1, hk1⟩ := (EntT.to_ev x l hs.1 (fun x hx => (hs.2 x hx).2)).ex
   rw [← hle] at hk1
   obtain ⟨k1s, hk1s⟩ := (MkS.toS_ev ws hss.1).ex
   obtain ⟨k2, hk2⟩ := (ScoP.specRankTexts_ev x le hsl ws hss a).ex
   obtain ⟨k7, hk7⟩ := (ScoP.implRankTexts_ev x le hsl ws hss a).ex
   have hpl := ScoP.ansRankTexts_len x le ws a
   obtain ⟨p, hp⟩ : ∃ p, p = (ScoP.ansRankTexts x le ws a).1 := ⟨_, rfl⟩
   obtain ⟨b, hb⟩ : ∃ b, b = (ScoP.ansRankTexts x le ws a).2 := ⟨_, rfl⟩
   have hpb : ScoP.ansRankTexts x le ws a = (p, b) := by rw [hp, hb]
   have hk2 : spec_RankTexts.f k2 x le ws a = some (p, b) := hk2.trans (by rw [hpb])
   have hk7 : impl_RankTexts.f k7 x le ws a = some (p, b) := hk7.trans (by rw [hpb])
   rw [← hp] at hpl
   obtain ⟨k3, hk3⟩ := (RankT.eqC_ev p p hpl rfl).ex
   obtain ⟨k5, hk5⟩ := (SoB.mark_evC p 1 (by omega) hpl).ex
   obtain ⟨k6, hk6⟩ := (SoB.held_evC p.length 1 (by omega) hpl).ex
   obtain ⟨q, hq⟩ : ∃ q, q = SoB.mkC p.length 1 := ⟨_, rfl⟩
   have hql : q.length = p.length := by rw [hq, SoB.mkC_len]
   obtain ⟨z, hz⟩ : ∃ z : Int, z = ((1 + 2 * p.length : Nat) : Int) := ⟨_, rfl⟩
   rw [← hq, ← hz, show ((1 : Nat) : Int) = 1 from rfl] at hk5 hk6
   have E5 := aM hk5
   clear hk5
   obtain ⟨k4, hk4⟩ := (EntT.eq_ev x le hsl).ex
   obtain ⟨k4s, hk4s⟩ := (Strs.eq_self ws hss.1).ex
   have E1 := aM hk1
   have E1s := aM hk1s
   have E2 := aM hk2
   have E7 := aM hk7
   have E3 := aM hk3
   have E4 := aM hk4
   have E4s := aM hk4s
   have E6 := aM hk6
   have hzb : decide (z < 0) = false := decide_eq_false (by omega)
   have ES := aM hsl
   have EWL := aM hss.1
   have EQ := aM hql
   clear hr hc hw hsw hd hws hsm hk0 hev hsms hk0s hevs hneg hnegs hs hss hsl hle hk1 hk1s hk2 hk7 hpl hp hb hpb hk3 hk4 hk4s hk6 hq hql hz
   go_enter Try.func13, Try.ntmps13
   go_upto_region 9 with (first | (go_at_call 15; go_loud (rw [← hW0]; (with_reducible refine (laws_szWords.calls k0 x A c l 1048576 r _ (Kd.C_below HR.out HB0.out) HC.out E0.out).mono ?_); rintro e w1 ⟨rfl, hb⟩; have HA1 := aM hb; clear hb; obtain ⟨hc0, hc1⟩ := HX0.out w1 HA1.out)) | (go_at_call 16; go_loud ((with_reducible refine (laws_szStringS.calls k0s B d ws r rs _ (Kd.C_below HSW.out (below_then HB0.out HSZ.out HA1.out)) HD.out E0s.out).mono ?_); rintro e w1s ⟨rfl, hd⟩; have HA1s := aM (below_step HA1.out hd.below); clear hd hc0 hc1; obtain ⟨hc0, hc1⟩ := HX0.out w1s HA1s.out)) | (go_at_call 18; go_loud ((with_reducible refine (laws_toWords.calls k1 x A c l x le _ (Kd.C_below HR.out (below_then HB0.out HSZ.out HA1s.out)) HC.out E1.out).mono ?_); rintro e w2 ⟨v2, rfl, ho, hb⟩; have HA2 := aM (below_step HA1s.out hb); obtain ⟨A2, c2, rfl, hl2, hC2⟩ := Kd.S_reads ho; have HC2 := aM hC2; have HL2 := aM hl2; clear ho hb hC2 hl2 hc0 hc1; obtain ⟨hc0, hc1⟩ := HX0.out w2 HA2.out)) | (go_at_call 19; go_loud ((with_reducible refine (laws_toStringS.calls k1s B d ws ws _ (Kd.C_below HSW.out (below_then HB0.out HSZ.out HA2.out)) HD.out E1s.out).mono ?_); rintro e w2s ⟨v2s, rfl, ho, hb⟩; have HA2s := aM (below_step HA2.out hb); have HC2s := aM (Kd.C_below HC2.out hb); obtain ⟨B2, d2, rfl, hd2, hD2⟩ := Kd.R_reads ho; have HD2 := aM hD2; have HE2 := aM hd2; clear ho hb hD2 hd2 hc0 hc1; obtain ⟨hc0, hc1⟩ := HX0.out w2s HA2s.out)) | (go_at_call 66; go_loud ((with_reducible refine (spec_RankTexts.calls k2 x A2 c2 le B2 d2 ws a p b _ HC2s.out HL2.out HD2.out HE2.out E2.out).mono ?_); rintro e w3 ⟨v3, rfl, ho, hb⟩; have HA3 := aM (below_step HA2s.out hb); obtain ⟨As, cs, rfl, hls, hCs⟩ := Kd.R_reads ho; have HCS := aM hCs; have HLS := aM hls; clear ho hb hCs hls hc0 hc1; obtain ⟨hc0, hc1⟩ := HX0.out w3 HA3.out)))
   go_upto_region 14 with (first | (go_at_call 18; go_loud ((with_reducible refine (laws_toWords.calls k1 x A c l x le _ (Kd.C_below HR.out (below_then HB0.out HSZ.out HA3.out)) HC.out E1.out).mono ?_); rintro e w4 ⟨v4, rfl, ho, hb⟩; have HA4 := aM (below_step HA3.out hb); have HS4 := aM hb; obtain ⟨Ax, cx, rfl, hlx, hCx⟩ := Kd.S_reads ho; have HLX := aM hlx; have HX4 := aM (R_in (Kd.S_R ho)); obtain ⟨W8, hW8⟩ : ∃ W8, W8 = (w4.alloc (.cells #[.int .i64 x, .slice Ax le.length cx] 33)) := ⟨_, rfl⟩; have HXC : Aside0 (∀ w', Below W8.heap.size W8 w' → w'.cell? ⟨w4.heap.size, 0, none⟩ = some (.int .i64 x) ∧ w'.cell? ⟨w4.heap.size, 1, none⟩ = some (.slice Ax le.length cx)) := ⟨fun w' hb => cells8 hW8 hb⟩; have HA48 : Aside0 (Below w4.heap.size w4 W8) := ⟨hW8 ▸ below_alloc (Below.refl _ _) _⟩; have HAW := aM (below_step HA4.out HA48.out); have HSW8 := aM (below_step HS4.out HA48.out); have HXW := aM (Kd.R_below HX4.out HA48.out); clear ho hb hCx hlx hc0 hc1)) | (go_at_call 19; go_loud (rw [← hW8]; (with_reducible refine (laws_toStringS.calls k1s B d ws ws _ (Kd.C_below HSW.out (below_then HB0.out HSZ.out HAW.out)) HD.out E1s.out).mono ?_); rintro e w5 ⟨v5, rfl, ho, hb⟩; have HA5 := aM (below_step HAW.out hb); have HS5 := aM (below_step HSW8.out hb); have H85 := aM hb; have HX5 := aM (Kd.R_below HXW.out hb); obtain ⟨B5, d5, rfl, hd5, hD5⟩ := Kd.R_reads ho; have HE5 := aM hd5; have HT5 := aM (R_in ho); obtain ⟨hd0, hd1⟩ := HXC.out w5 H85.out; clear ho hb hD5 hd5)) | (go_at_call 67; go_loud (have hcal := impl_RankTexts.calls k7 x Ax cx le B5 d5 ws a p b w5 (Kd.R_reads' HX5.out).2.2 HLX.out (Kd.R_reads' HT5.out).2.2 HE5.out E7.out; (with_reducible refine (hcal).mono ?_); rintro e w6 ⟨vg, rfl, ho, hb⟩; have HG6 := aM (R_in ho); have HA6 := aM (below_step HA5.out hb); have HS6 := aM (below_step HS5.out hb); have H86 := aM (below_step H85.out hb); have HX6 := aM (Kd.R_below HX5.out hb); have HT6 := aM (Kd.R_below HT5.out hb); obtain ⟨Ag, cg, rfl, hlg, hCg⟩ := Kd.R_reads ho; have HLG := aM hlg; have HZ56 := aM hb.size; clear ho hb hCg hlg hcal hd0 hd1)) | (go_at_call 49; go_loud ((with_reducible refine (laws_eqScoredS.calls k3 Ag cg p As cs p true _ (Kd.R_reads' HG6.out).2.2 HLG.out (Kd.C_below HCS.out HS6.out) HLS.out E3.out).mono ?_); rintro e w7 ⟨rfl, hb⟩; have HA7 := aM (below_step HA6.out hb); have HS7 := aM (below_step HS6.out hb); have H87 := aM (below_step H86.out hb); have HX7 := aM (Kd.R_below HX6.out hb); have HT7 := aM (Kd.R_below HT6.out hb); have HG7 := aM (Kd.R_below HG6.out hb); clear hb)))
   refine start_ (n := 5) (S := fun w' => w'.cell? ⟨w4.heap.size, 0, none⟩ = some (.int .i64 x) ∧ w'.cell? ⟨w4.heap.size, 1, none⟩ = some (.slice Ax le.length cx) ∧ w'.cell? ⟨w.heap.size, 0, none⟩ = some (.int .i64 x) ∧ w'.cell? ⟨w.heap.size, 1, none⟩ = some (.slice A l.length c)) (ds := []) (bq 5 0) (by kernel_rfl) rfl (by kernel_rfl) ⟨(HXC.out w7.drew H87.out.drew).1, (HXC.out w7.drew H87.out.drew).2, (HX0.out w7.drew HA7.out.drew).1, (HX0.out w7.drew HA7.out.drew).2⟩ (fun hHeld => ?_)
   refine take_ (i := 0) (N := some 58) (v := ?_) (a' := ?_) (bq 5 1) rfl rfl (by kernel_rfl) (fun _ _ _ h => h) (Or.inl ⟨by rfl, ?_⟩) hHeld ?_ ?_; rotate_left; (rintro w' ⟨s0, s1, s2, s3⟩; go_simp; (with_reducible rfl)); rotate_left; (simp only [Act.put, zSA, zSB, zSC, i64_w, i32_w]; rfl)
   refine take_ (i := 1) (N := some 59) (v := ?_) (a' := ?_) (bq 5 3) rfl rfl (by kernel_rfl) (fun _ _ _ h => h) (Or.inl ⟨by rfl, ?_⟩) hHeld ?_ ?_; rotate_left; (rintro w' ⟨s0, s1, s2, s3⟩; go_simp; (with_reducible rfl)); rotate_left; (simp only [Act.put, zSA, zSB, zSC, i64_w, i32_w]; rfl)
   refine one_ (i := 2) (N := some 60) (bq 5 7) rfl rfl (by kernel_rfl) (by decide) (fun K hK => ?_)
   refine goes_ Try.func18 (by kernel_rfl) rfl #[.agg #[.int .i64 x, .slice A l.length c]] (by rfl) rfl rfl (by simp only [List.map_toArray, List.map_cons, List.map_nil]; rfl) ?_
   with_reducible refine (laws_toWords.calls k1 x A c l x le _ (Kd.C_below HR.out (below_then HB0.out HSZ.out HA7.out.drew)) HC.out E1.out).mono ?_
   rintro e w8 ⟨v8, rfl, ho, hb⟩
   refine ⟨_, rfl, ?_⟩
   have HA8_ := aM (below_step HA7.out.drew hb)
   have H88_ := aM (below_step H87.out.drew hb)
   have HS8_ := aM (below_step HS7.out.drew hb)
   have HG8_ := aM (Kd.R_below (Kd.R_drew HG7.out) hb)
   have HX8_ := aM (Kd.R_below (Kd.R_drew HX7.out) hb)
   have HT8_ := aM (Kd.R_below (Kd.R_drew HT7.out) hb)
   obtain ⟨A8, c8, rfl, hl8, hC8⟩ := Kd.S_reads ho
   have HC8 := aM hC8
   have HL8 := aM hl8
   clear ho hb hC8 hl8
   refine hK.out _ _ ⟨(HXC.out w8 H88_.out).1, (HXC.out w8 H88_.out).2, (HX0.out w8 HA8_.out).1, (HX0.out w8 HA8_.out).2⟩ (fun hHeld => ?_)
   clear hK K
   refine norm_ (a' := ?_) ?_ ?_
   rotate_left
   ·
    show Act.put _ (some 60) _ = _
    simp only [Act.put, zSA, zSB, zSC, i64_w, i32_w]
    rfl
   refine one_ (i := 3) (N := some 61) (bq 5 15) rfl rfl (by kernel_rfl) (by decide) (fun K hK => ?_)
   refine goes_ Try.func22 (by kernel_rfl) rfl #[.agg #[.int .i64 x, .slice Ax le.length cx], .agg #[.int .i64 x, .slice A8 le.length c8]] (by rfl) rfl rfl (by simp only [List.map_toArray, List.map_cons, List.map_nil]; rfl) ?_
   with_reducible refine (laws_eqWords.calls k4 x Ax cx le x A8 c8 le true _ (Kd.R_reads' HX8_.out).2.2 HLX.out HC8.out HL8.out E4.out).mono ?_
   rintro e w9 ⟨rfl, hb⟩
   refine ⟨_, rfl, ?_⟩
   have HA9 := aM (below_step HA8_.out hb)
   have H89 := aM (below_step H88_.out hb)
   have HS9 := aM (below_step HS8_.out hb)
   have HG9 := aM (Kd.R_below HG8_.out hb)
   have HX9 := aM (Kd.R_below HX8_.out hb)
   have HT9 := aM (Kd.R_below HT8_.out hb)
   clear hb
   refine hK.out _ _ ⟨(HXC.out w9 H89.out).1, (HXC.out w9 H89.out).2, (HX0.out w9 HA9.out).1, (HX0.out w9 HA9.out).2⟩ (fun hHeld => ?_)
   clear hK K
   refine norm_ (a' := ?_) ?_ ?_
   rotate_left
   ·
    show Act.put _ (some 61) _ = _
    simp only [Act.put, zSA, zSB, zSC, i64_w, i32_w]
    rfl
   refine pure_ (i := 4) (N := some 62) (v := ?_) (a' := ?_) (bq 5 31) rfl rfl (by kernel_rfl) (fun _ _ _ h => h) (Or.inl ⟨by rfl, ?_⟩) ?_ ?_; rotate_left; (intro w'; go_simp; (with_reducible rfl)); rotate_left; (simp only [Act.put, zSA, zSB, zSC, i64_w, i32_w]; rfl)
   refine done_ (by kernel_rfl) ?_
   go_upto_region 31 with (first | (go_at_call 19; go_loud ((with_reducible refine (laws_toStringS.calls k1s B d ws ws _ (Kd.C_below HSW.out (below_then HB0.out HSZ.out HA9.out)) HD.out E1s.out).mono ?_); rintro e w10 ⟨v10, rfl, ho, hb⟩; have HA10 := aM (below_step HA9.out hb); have HS10 := aM (below_step HS9.out hb); have H810 := aM (below_step H89.out hb); have HX10 := aM (Kd.R_below HX9.out hb); have HT10 := aM (Kd.R_below HT9.out hb); have HG10 := aM (Kd.R_below HG9.out hb); obtain ⟨B10, d10, rfl, hd10, hD10⟩ := Kd.R_reads ho; have HD10 := aM hD10; have HE10 := aM hd10; clear ho hb hD10 hd10)) | (go_at_call 23; go_loud ((with_reducible refine (laws_eqStringS.calls k4s B5 d5 ws B10 d10 ws true _ (Kd.R_reads' HT10.out).2.2 HE5.out HD10.out HE10.out E4s.out).mono ?_); rintro e w11 ⟨rfl, hd⟩; have HA11 := aM (below_step HA10.out hd.below); have HS11 := aM (below_step HS10.out hd.below); have H811 := aM (below_step H810.out hd.below); have HX11 := aM (Kd.R_below HX10.out hd.below); have HT11 := aM (Kd.R_below HT10.out hd.below); have HG11 := aM (Kd.R_below HG10.out hd.below); clear hd; obtain ⟨hd0, hd1⟩ := HXC.out w11 H811.out)) | (go_at_call 24; go_loud (have hcal := MkE.mkW_calls w3.heap.size _ x _ le 1 w11 HX11.out ES.out (by decide); rw [show ((1 : Nat) : Int) = 1 from rfl] at hcal; (with_reducible refine (hcal).mono ?_); rintro e w12 ⟨⟨r12, hr0, hr1, rfl⟩, hm⟩; have HA12 := aM (hm.under HA11.out (below_size HA11.out) (fun k hk => Nat.le_trans (below_size HA3.out) hk.1)); have HS12 := aM (hm.under HS11.out (below_size HS11.out) (fun k hk => hk.1)); have HT12 := aM (Kd.R_kept HT11.out hm.2.1 (fun k hk hs => Nat.lt_irrefl _ (Nat.lt_of_lt_of_le hs.2 (Nat.le_trans (below_size HA48.out) hk.1)))); have HG12 := aM (Kd.R_kept HG11.out hm.2.1 (fun k hk hs => Nat.lt_irrefl _ (Nat.lt_of_lt_of_le hs.2 (Nat.le_trans (Nat.le_trans (below_size HA48.out) (below_size H85.out)) hk.1)))); obtain ⟨m12, hm12⟩ : ∃ m : Nat, r12 = (m : Int) := ⟨r12.toNat, by omega⟩; subst hm12; have HM12 : Aside0 (m12 ≤ 4398046511104) := ⟨by omega⟩; clear hm hr0 hr1 hcal hd0 hd1)) | (go_at_call 25; go_loud ((with_reducible refine (MkS.mkS_calls (.slice B5 ws.length d5) ws.length m12 w12 (row1 HT12.out) EWL.out HM12.out).mono ?_); rintro e w13 ⟨⟨r13, hr0, rfl⟩, hm⟩; have HA13 := aM (hm.under HA12.out (below_size HA12.out) (fun k hk => Nat.le_trans (below_size HAW.out) (HT12.out.1 k hk.symm).1)); have HS13 := aM (hm.under HS12.out (below_size HS12.out) (fun k hk => Nat.le_trans (below_size HSW8.out) (HT12.out.1 k hk.symm).1)); have HG13 := aM (Kd.R_kept HG12.out hm.2.1 (fun k hk hs => Nat.lt_irrefl _ (Nat.lt_of_lt_of_le (HT12.out.1 k hs.symm).2 hk.1))); have hr13b : decide (r13 < 0) = false := decide_eq_false (by omega); clear hm hr0)) | (go_at_call 49; go_loud ((with_reducible refine (laws_eqScoredS.calls k3 Ag cg p As cs p true _ (Kd.R_reads' HG13.out).2.2 HLG.out (Kd.C_below HCS.out HS13.out) HLS.out E3.out).mono ?_); rintro e w14 ⟨rfl, hb⟩; have HA14 := aM (below_step HA13.out hb); have HS14 := aM (below_step HS13.out hb); have HG14 := aM (Kd.R_below HG13.out hb); clear hb)) | (go_at_call 52; go_loud ((with_reducible refine (laws_markScoredS.calls k5 (fun k_ => some k_ = (Value.slice Ag p.length cg).ownBlock) (.slice Ag p.length cg) p 1 z q w _ (below_then HB0.out HSZ.out HA14.out) (Kd.R_tight rfl (Kd.R_lower HG14.out (Nat.le_trans HSZ.out (below_size HA5.out)))) E5.out).mono ?_); rintro e w15 ⟨rfl, hy, hb, hkp⟩; have HA15 := aM (under2 HA14.out (below_size HA14.out) hkp (below_then HB0.out HSZ.out HA14.out) hb (fun k hk => Nat.le_trans (below_size HA5.out) (HG14.out.1 k hk.symm).1)); have HS15 := aM (under2 HS14.out (below_size HS14.out) hkp (below_then HB0.out HSZ.out HA14.out) hb (fun k hk => Nat.le_trans (below_size HS5.out) (HG14.out.1 k hk.symm).1)); have HQ15 := aM (Kd.R_mono (ok' := fun _ => True) hy (fun _ _ => trivial)); clear hy hb hkp)) | (go_at_call 53; go_loud (have hcal := laws_heldScoredS.calls k6 Ag cg q 1 z w15 (reads_q HQ15.out).2 (by rw [EQ.out]; exact HLG.out) E6.out; rw [EQ.out] at hcal; (with_reducible refine (hcal).mono ?_); rintro e w16 ⟨rfl, hd⟩; have HA16 := aM (below_step HA15.out hd.below); have HS16 := aM (below_step HS15.out hd.below); have HQ16 := aM (Kd.R_below HQ15.out hd.below); clear hd hcal)))
   obtain ⟨hc0, hc1⟩ := HX0.out w16 HA16.out
   go_wp2_with (first | (go_at_call 18; go_loud ((with_reducible refine (laws_toWords.calls k1 x A c l x le _ (Kd.C_below HR.out (below_then HB0.out HSZ.out HA16.out)) HC.out E1.out).mono ?_); rintro e w17 ⟨v17, rfl, ho, hb⟩; have HA17 := aM (below_step HA16.out hb); have HS17 := aM (below_step HS16.out hb); have HQ17 := aM (Kd.R_below HQ16.out hb); obtain ⟨A17, c17, rfl, hl17, hC17⟩ := Kd.S_reads ho; have HC17 := aM hC17; have HL17 := aM hl17; clear ho hb hC17 hl17 hc0 hc1)) | (go_at_call 19; go_loud ((with_reducible refine (laws_toStringS.calls k1s B d ws ws _ (Kd.C_below HSW.out (below_then HB0.out HSZ.out HA17.out)) HD.out E1s.out).mono ?_); rintro e w18 ⟨v18, rfl, ho, hb⟩; have HA18 := aM (below_step HA17.out hb); have HS18 := aM (below_step HS17.out hb); have HQ18 := aM (Kd.R_below HQ17.out hb); have HC18 := aM (Kd.C_below HC17.out hb); obtain ⟨B18, d18, rfl, hd18, hD18⟩ := Kd.R_reads ho; have HD18 := aM hD18; have HE18 := aM hd18; clear ho hb hD18 hd18)) | (go_at_call 67; go_loud (have hcal := impl_RankTexts.calls k7 x A17 c17 le B18 d18 ws a p b w18 HC18.out HL17.out HD18.out HE18.out E7.out; (with_reducible refine (hcal).mono ?_); rintro e w19 ⟨vh, rfl, ho, hb⟩; have HA19 := aM (below_step HA18.out hb); have HS19 := aM (below_step HS18.out hb); have HQ19 := aM (Kd.R_below HQ18.out hb); obtain ⟨Ah, ch, rfl, hlh, hCh⟩ := Kd.R_reads ho; have HCH := aM hCh; have HLH := aM hlh; clear ho hb hCh hlh hcal)) | (go_at_call 49; go_loud ((with_reducible refine (laws_eqScoredS.calls k3 Ah ch p As cs p true _ HCH.out HLH.out (Kd.C_below HCS.out HS19.out) HLS.out E3.out).mono ?_); rintro e w20 ⟨rfl, hb⟩; have HA20 := aM (below_step HA19.out hb); have HS20 := aM (below_step HS19.out hb); have HQ20 := aM (Kd.R_below HQ19.out hb); clear hb)) | (go_at_call 53; go_loud (have hcal := laws_heldScoredS.calls k6 Ag cg q 1 z w20 (reads_q HQ20.out).2 (by rw [EQ.out]; exact HLG.out) E6.out; rw [EQ.out] at hcal; (with_reducible refine (hcal).mono ?_); rintro e w21 ⟨rfl, hd⟩; have HA21 := aM (below_step HA20.out hd.below); clear hd hcal)))
   go_ret
   exact ⟨rfl, below_then HB0.out HSZ.out HA21.out⟩
end Go.Proofs.Ytaomjndfjmfelaa.LwRT
end

section
namespace Go.Proofs.Ytaomjndfjmfelaa.PQ
open Go.RowKit Go.Proofs.YtaomjndfjmfelaaW.PrintWords Go.Proofs.YtaomjndfjmfelaaW.PrintLast Go.Proofs.YtaomjndfjmfelaaW.PrintMore
attribute [local go_sem] max2_int min2_int max_two min_two max_three min_three max_four min_four
set_option linter.unusedVariables false
set_option linter.unusedSimpArgs false
def laws_FnExactRankTexts.Pure : Prop := True
theorem laws_FnExactRankTexts.walk (P : laws_FnExactRankTexts.Pure) (a0_0 : Int) (A0_1 : Option Addr) (c0_1 : Nat) (l0_1 : List (S140)) (A1 : Option Addr) (c1 : Nat) (l1 : List ByteArray) (a2 : Int) (w : World) (w0_0 : (Lit.int .i64 a0_0).wf = true) (hr0_1 : Kd.C k140 w A0_1 l0_1.length l0_1) (hc0_1 : l0_1.length ≤ c0_1) (w0_1 : (l0_1.length ≤ maxLen ∧ ∀ x_ ∈ l0_1, (x_.f0.size ≤ maxLen ∧ (x_.f1.length ≤ maxLen ∧ ∀ xx_ ∈ x_.f1, ((Lit.int .i64 xx_.f0).wf = true ∧ (Lit.int .i64 xx_.f1).wf = true))))) (hr1 : Kd.C Kd.string w A1 l1.length l1) (hc1 : l1.length ≤ c1) (w1 : (l1.length ≤ maxLen ∧ ∀ x_ ∈ l1, x_.size ≤ maxLen)) (w2 : (Lit.int .i64 a2).wf = true) :
  Calls Try.prog 13 #[.agg #[.int .i64 a0_0, .slice A0_1 l0_1.length c0_1], .slice A1 l1.length c1, .int .i64 a2] w fun e w' => e = .returned (.bool true) ∧ Below w.heap.size w w' :=
 LwRT.calls a0_0 A0_1 c0_1 l0_1 A1 c1 l1 a2 w hr0_1 hc0_1 ⟨w0_1.1, fun e he => ⟨(w0_1.2 e he).1, (w0_1.2 e he).2.1⟩⟩ hr1 hc1 w1

end Go.Proofs.Ytaomjndfjmfelaa.PQ
end

section
namespace Go.Proofs.Ytaomjndfjmfelaa.Pure
open Go.Proofs.Ytaomjndfjmfelaa.PQ
theorem FnExactRankTexts : laws_FnExactRankTexts.Pure := trivial
end Go.Proofs.Ytaomjndfjmfelaa.Pure
end

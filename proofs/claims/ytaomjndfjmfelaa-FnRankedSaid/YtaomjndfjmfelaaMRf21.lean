/- Several texts in one: what the claim's last text rests on. No conditions. -/
import Derived.Test.YtaomjndfjmfelaaMRf20
import Derived.Test.YtaomjndfjmfelaaMRf19
import Derived.Test.YtaomjndfjmfelaaMRf4
import Derived.Test.YtaomjndfjmfelaaMRf7
import Derived.Test.YtaomjndfjmfelaaMRf6
import Derived.Test.YtaomjndfjmfelaaMRf11
import Derived.Test.YtaomjndfjmfelaaMRf14
section
namespace Go.Proofs.Ytaomjndfjmfelaa.Rks
set_option linter.unusedVariables false
set_option linter.unusedSimpArgs false
open Go.RowKit Go.Shelf Go.Lib Go.Sort Go.Proofs.Ytaomjndfjmfelaa.PQ Go.Proofs.YtaomjndfjmfelaaW.PrintWords Go.Proofs.YtaomjndfjmfelaaW.PrintLast Go.Proofs.YtaomjndfjmfelaaW.PrintMore Go.Proofs.Ytaomjndfjmfelaa.Pre Go.Proofs.Ytaomjndfjmfelaa.EntW Go.Proofs.Ytaomjndfjmfelaa.Posts Go.Proofs.Ytaomjndfjmfelaa.GoodW Go.Proofs.Ytaomjndfjmfelaa.PostW Go.Proofs.Ytaomjndfjmfelaa.Ask Go.Proofs.Ytaomjndfjmfelaa.SoB
/-- A posting's score, a word's ranking, the words' rankings. -/
def scR (x : Int) (n : Nat) (p : Po) : Sc := ⟨p.f0, wrap64 (p.f1 * wrap64 (wrap64 (x - (n : Int)) + 1))⟩
def rk1 (x : Int) (ps : List Po) : Rk := ⟨(ps.map (scR x ps.length)).mergeSort le⟩
def rks (x : Int) (l : List En) (ws : List ByteArray) : List Rk := ws.map (fun t => rk1 x (posts l t))
theorem H_cell {α : Type} {d : Kd α} {e g n cap i : Nat} {w : World} {base : Nat} {ok oki : Nat → Prop} {xs : List α} {u : Value} (h : Kd.H d e w base ok (.slice (some ⟨g, 0, none⟩) n cap) xs (i : Int) oki [u]) (hi : i < n ∧ d.sz = 1) : w.cell? ⟨g, i, none⟩ = some u ∧ w.frozen? ⟨g, i, none⟩ = false := by
 obtain ⟨rows, hl, hraw, hcl, _, hcc, _⟩ := Kd.H_raw h (by omega) (by omega)
 have h1 := hcc 0 u rfl
 rw [Int.toNat_natCast, hi.2, Nat.mul_one, Nat.add_zero] at h1
 obtain ⟨_, _, _, _, hfr⟩ := Kd.R_elem hraw [] (i : Int) (by omega) (by omega)
 have h2 := hfr 0
 rw [Int.toNat_natCast] at h2
 have e : i * (Kd.raw d.sz).sz + 0 = i := by
  show i * d.sz + 0 = i
  rw [hi.2]
  omega
 rw [e] at h2
 exact ⟨h1, h2⟩
theorem H_put {α : Type} {d : Kd α} {e g n cap i : Nat} {w : World} {base : Nat} {ok oki : Nat → Prop} {xs : List α} {u : Value} (h : Kd.H d e w base ok (.slice (some ⟨g, 0, none⟩) n cap) xs (i : Int) oki [u]) (hi : i < n ∧ d.sz = 1) (v : Value) (hv : v.oneCell' = true) :
  Kd.H d e (w.setCell ⟨g, i, none⟩ v) base ok (.slice (some ⟨g, 0, none⟩) n cap) xs (i : Int) oki [v] ∧ w.grownBy (w.setCell ⟨g, i, none⟩ v) (some g) := by
 have h1 := Kd.H_seg (seg := [v]) (j := 0) h (by omega) (by omega) (by rw [hi.2]; exact Nat.le_refl _) (fun q hq => by rw [List.mem_singleton.1 hq]; exact hv)
 rw [Int.toNat_natCast, hi.2, Nat.mul_one, Nat.add_zero] at h1
 exact h1
theorem H_ne {α : Type} {d : Kd α} {e g n cap : Nat} {i : Int} {w : World} {base : Nat} {ok oki : Nat → Prop} {xs : List α} {c : List Value} (h : Kd.H d e w base ok (.slice (some ⟨g, 0, none⟩) n cap) xs i oki c) : ∀ k, oki k → k ≠ g := by
 intro k hk he
 subst he
 obtain ⟨_, f, hR⟩ := h
 exact (hR.1 k (by simp [Value.ownBlock])).2 hk
theorem H_lt {α : Type} {d : Kd α} {e g n cap : Nat} {i : Int} {w : World} {base : Nat} {ok oki : Nat → Prop} {xs : List α} {c : List Value} (h : Kd.H d e w base ok (.slice (some ⟨g, 0, none⟩) n cap) xs i oki c) : base ≤ g ∧ g < w.heap.size := by
 obtain ⟨_, f, hR⟩ := h
 obtain ⟨inner, ho⟩ := Kd.R_own hR
 exact ⟨own_base ho g (by simp [Value.ownBlock]), own_lt ho g (by simp [Value.ownBlock])⟩
theorem set_next {α : Type} (a : List α) (m : Nat) (z y : α) : (a ++ List.replicate (m + 1) z).set a.length y = (a ++ [y]) ++ List.replicate m z := by
 rw [List.set_append_right _ _ (Nat.le_refl _), Nat.sub_self, List.replicate_succ, List.set_cons_zero, List.append_assoc]
 rfl
theorem rks_step (x : Int) (l : List En) (ws : List ByteArray) (i : Nat) (h : i < ws.length) : rks x l (ws.take (i + 1)) = rks x l (ws.take i) ++ [rk1 x (posts l ws[i])] := by
 unfold rks
 rw [take_last ws i h, List.map_append]
 rfl
theorem rks_len (x : Int) (l : List En) (ws : List ByteArray) : (rks x l ws).length = ws.length := by
 unfold rks
 rw [List.length_map]
theorem get_mid {α : Type} (a : List α) (m : Nat) (z d : α) : (a ++ List.replicate (m + 1) z).getD a.length d = z := by
 rw [List.getD_eq_getElem?_getD, List.getElem?_append_right (Nat.le_refl _), Nat.sub_self]
 rfl
theorem map_step (x : Int) (ps : List Po) (j : Nat) (h : j < ps.length) : (ps.take (j + 1)).map (scR x ps.length) = (ps.take j).map (scR x ps.length) ++ [scR x ps.length ps[j]] := by
 rw [take_last ps j h, List.map_append]
 rfl
set_option maxRecDepth 100000 in
set_option maxHeartbeats 8000000 in
theorem rankings_calls (x : Int) (A : Option Addr) (c : Nat) (l : List En) (B : Option Addr) (d : Nat) (ws : List ByteArray) (w : World) (hr : Kd.C k102 w A l.length l) (hc : l.length ≤ c) (hl : Small l) (hs : Rise l) (hne : ∀ e ∈ l, 0 < e.f1.length) (hsw : Kd.C Kd.string w B ws.length ws) (hd : ws.length ≤ d) (hws : ws.length ≤ 1048576) :
  Calls Try.prog 117 #[.agg #[.int .i64 x, .slice A l.length c], .slice B ws.length d] w fun e w' => ∃ v : Value, e = .returned v ∧ Kd.S k77 77 w' w.heap.size (fun _ => True) v (rks x l ws) ∧ Below w.heap.size w w' := by
 obtain ⟨W0, hW0⟩ : ∃ W_, W_ = w.alloc (.cells #[.int .i64 x, .slice A l.length c] 33) := ⟨_, rfl⟩
 have HBW : Aside0 (Below w.heap.size w W0) := ⟨by rw [hW0]; exact below_alloc (Below.refl _ _) _⟩
 have HSZ : Aside0 (w.heap.size ≤ W0.heap.size) := ⟨by rw [hW0]; simp⟩
 have HBX : Aside0 (∀ w', Below W0.heap.size W0 w' → w'.cell? ⟨w.heap.size, 0, none⟩ = some (.int .i64 x) ∧ w'.cell? ⟨w.heap.size, 1, none⟩ = some (.slice A l.length c)) := ⟨fun w' hb => by subst hW0; exact ⟨(hb.cell (by simp)).trans (by simp), (hb.cell (by simp)).trans (by simp)⟩⟩
 have HBL : Aside0 (w.heap.size < W0.heap.size) := ⟨by rw [hW0]; simp⟩
 have HR := aM (Kd.C_below hr (HBW.out))
 have HC := aM hc
 have HL := aM hl
 have HS := aM hs
 have HNE := aM hne
 have HSW := aM (Kd.C_below hsw HBW.out)
 have HWS0 := aM hws
 obtain ⟨n, hn⟩ : ∃ n, n = ws.length := ⟨_, rfl⟩
 have HN := aM hn
 have hn1 : (n : Int) ≤ 1048576 := by omega
 rw [← hn]
 clear hr hc hl hs hne hsw hd hws hn
 go_enter Try.func117, Try.ntmps117
 go_upto_region 2 with (first | ((with_reducible refine gate_dst (N := 13) rfl ?_); go_loud (rw [← hW0]; refine Kd.S_make k77 _ 77 rfl (N := 13) rfl 64 _ _ rfl (n : Int) rfl rfl Try.underlying64 (.agg #[(.slice none 0 0)]) 24 info77 rfl (by decide) (by omega) z77 (ok := fun _ => True) (okp := fun _ => True) (k77_mkM _ _ _ z77 (Kd.R_nil _ _ _ _ _)) (fun _ hk => hk) trivial (by omega) (by omega) (Below.refl _ _) (Nat.le_refl _) ?_; intro vo w1 ho hb hg_ hnew_; clear hg_ hnew_; rw [Int.toNat_natCast] at ho; have HO := aM ho; have HB := aM hb; clear ho hb)))
 go_wp2
 go_loopg [16] n (fun kq v16 w' => ∃ (i : Nat) (xs : List Rk), v16 = .int .i64 (i : Int) ∧ i ≤ n ∧ kq = n - i ∧ Aside0 (xs = rks x l (ws.take i) ++ List.replicate (n - i) z77) ∧ Aside0 (Kd.S k77 77 w' W0.heap.size (fun _ => True) vo xs) ∧ Aside0 (Below W0.heap.size W0 w'))
 case atStart => exact ⟨0, _, rfl, Nat.zero_le _, rfl, ⟨rfl⟩, HO, HB⟩
 case round =>
  clear HO HB hW0
  obtain ⟨i, xs, rfl, hi, hkq, HX, HO, HB⟩ := hrel
  have HKQ := aM hkq
  clear hkq
  by_cases hlt : i < n
  ·have HIN : Aside0 (i < n ∧ Kd.sz k77 = 1) := ⟨⟨hlt, rfl⟩⟩
   have hxl : xs.length = n := by rw [HX.out, List.length_append, rks_len, List.length_take, List.length_replicate, ← HN.out]; omega
   obtain ⟨g, cap, hvo, hgb, hgl, _⟩ := Kd.S_form HO.out (by omega)
   rw [hxl] at hvo
   subst hvo
   have HWi : Aside0 (i < ws.length) := ⟨by rw [← HN.out]; exact hlt⟩
   obtain ⟨adw, eB, hcw⟩ := str_at HSW.out i HWi.out
   replace hcw := (HB.out.cell (World.block_lt_of_cell? W0 _ hcw)).trans hcw
   subst eB
   obtain ⟨wd, hwd⟩ : ∃ t, t = ws[i]'HWi.out := ⟨_, rfl⟩
   rw [← hwd] at hcw
   have HWD := aM hwd
   obtain ⟨oki, ce, hcl, hM, hcc, hok, hH⟩ := Kd.S_lend HO.out z77 (i : Int) (by omega) (by omega)
   have hel : xs.getD (i : Int).toNat z77 = z77 := by
    have hlr : (rks x l (ws.take i)).length = i := by rw [rks_len, List.length_take]; have := HWi.out; omega
    rw [Int.toNat_natCast, HX.out, show n - i = (n - (i + 1)) + 1 by omega]
    conv => lhs; arg 2; rw [← hlr]
    exact get_mid _ _ _ _
   rw [hel] at hM
   obtain ⟨v0, hv0, hV0⟩ := k77_openM hM
   subst hv0
   obtain ⟨OKI, hOKI⟩ : ∃ OKI : Nat → Prop, OKI = (fun k => oki k ∨ True ∧ wr.heap.size ≤ k) := ⟨_, rfl⟩
   have HH0 := aM (Kd.H_widen hH)
   have HV0 := aM (Kd.R_mono hV0 (ok' := OKI) (fun k hk => by rw [hOKI]; exact .inl hk))
   rw [← hOKI] at HH0
   have HOKI : Aside0 (∀ k, wr.heap.size ≤ k → OKI k) := ⟨fun k hk => by rw [hOKI]; exact .inr ⟨trivial, hk⟩⟩
   have HWB : Aside0 (W0.heap.size ≤ wr.heap.size) := ⟨HB.out.size⟩
   have hPC := aM (fun W (hW : W = wr) => postings_at W0 A c l wd W w.heap.size (fun w' hb => (HBX.out w' (below_step HB.out (by rw [← hW]; exact hb))).2) (by rw [hW]; exact HB.out) HR.out HC.out HL.out.1 HS.out HNE.out)
   have hi2 : (i : Int) < (n : Int) := by omega
   have HPS := aM (small_posts HL.out wd)
   obtain ⟨ps, hps⟩ : ∃ ps, ps = posts l wd := ⟨_, rfl⟩
   rw [← hps] at HPS hPC
   have HPE := aM hps
   obtain ⟨B0, hB0⟩ : ∃ B0, B0 = wr.heap.size := ⟨_, rfl⟩
   rw [← hB0] at HOKI HWB
   have HBZ : Aside0 (B0 ≤ wr.heap.size) := ⟨by rw [hB0]; exact Nat.le_refl _⟩
   clear hxl hwd hcl hM hcc hok hH hel hV0 hOKI hlt hi hps hgb hgl hB0
   go_wp2_with (go_at_call 93; go_loud ((refine (hPC.out _ rfl).mono ?_); rintro e w2 ⟨Ap, cp, rfl, hcp, hCp, _, hb2⟩; have HCP := aM hCp; have HB2 := aM (below_step HB.out hb2); have HH2 := aM (Kd.H_below HH0.out hb2); have HV2 := aM (Kd.R_below HV0.out hb2); have HBZ2 := aM (Nat.le_trans HBZ.out hb2.size); clear hcp hCp hb2))
   go_loopg [25] ps.length (fun kq v25 w' => ∃ (j : Nat) (v : Value) (lst : List Sc), v25 = .int .i64 (j : Int) ∧ j ≤ ps.length ∧ kq = ps.length - j ∧ Aside0 (lst = (ps.take j).map (scR x ps.length)) ∧ Aside0 (Kd.R k79 79 w' W0.heap.size OKI v lst) ∧ Aside0 (Kd.H k77 77 w' W0.heap.size (fun _ => True) (.slice (some ⟨g, 0, none⟩) n cap) xs (i : Int) OKI [v]) ∧ Aside0 (Below W0.heap.size W0 w') ∧ Aside0 (B0 ≤ w'.heap.size))
   case atStart => exact ⟨0, v0, [], rfl, Nat.zero_le _, rfl, ⟨rfl⟩, HV2, HH2, HB2, HBZ2⟩
   case round =>
    clear HH0 HV0 HH2 HV2 HB2 HBZ2 hcw HB HO hPC HBZ
    obtain ⟨j, v, lst, rfl, hj, hkq2, HLE, HV, HHH, HB, HWS⟩ := hrel
    have HKQ2 := aM hkq2
    clear hkq2
    by_cases hjt : j < ps.length
    ·have HJT := aM hjt
     obtain ⟨adp, eAp, hp0, hp1⟩ := at_T56 (Kd.C_below HCP.out HB.out) (j : Int) (by omega) (by omega)
     subst eAp
     have hrd : rd_T56 ps (j : Int) = ps[j]'HJT.out := rd_get ps j hjt
     rw [Int.toNat_natCast, hrd] at hp0 hp1
     have HST := aM (map_step x ps j HJT.out)
     obtain ⟨p, hp⟩ : ∃ p, p = ps[j]'HJT.out := ⟨_, rfl⟩
     rw [← hp] at hp0 hp1 HST
     obtain ⟨Av, cv, e1⟩ := Kd.R_slice HV.out
     subst e1
     have HLL : Aside0 (lst.length ≤ 1048576) := ⟨by rw [HLE.out, List.length_map, List.length_take]; have := HPS.out; omega⟩
     have hj2 : (j : Int) < (ps.length : Int) := by omega
     have hpsl : (ps.length : Int) ≤ 1048576 := by have := HPS.out; omega
     clear hrd hp hjt hj
     go_upto_region 9 with (fail)
     clear hp0 hp1
     obtain ⟨wb, hwb⟩ : ∃ W_, W_ = wr.alloc (.cells #[.int .i64 p.f0, .int .i64 p.f1] 56) := ⟨_, rfl⟩
     rw [← hwb]
     have hbb : Below wr.heap.size wr wb := by rw [hwb]; exact below_alloc (Below.refl _ _) _
     have HWX : Aside0 (wb.heap[wr.heap.size]? = some (.cells #[.int .i64 p.f0, .int .i64 p.f1] 56 (0, 0))) := ⟨by rw [hwb]; exact Meet.at_new wr _⟩
     replace HV := aM (Kd.R_below HV.out hbb)
     replace HHH := aM (Kd.H_below HHH.out hbb)
     replace HB := aM (below_step HB.out hbb)
     replace HWS := aM (Nat.le_trans HWS.out hbb.size)
     have HH : Aside0 (∀ w', Below wb.heap.size wb w' → w'.cell? ⟨g, i, none⟩ = some (.slice Av lst.length cv) ∧ w'.cell? ⟨wr.heap.size, 0, none⟩ = some (.int .i64 p.f0) ∧ w'.cell? ⟨wr.heap.size, 1, none⟩ = some (.int .i64 p.f1) ∧ w'.cell? ⟨w.heap.size, 0, none⟩ = some (.int .i64 x)) := ⟨fun w' hb => ⟨(H_cell (Kd.H_below HHH.out hb) HIN.out).1, (hb.cell (Meet.lt_some HWX.out)).trans (Meet.cell0 HWX.out), (hb.cell (Meet.lt_some HWX.out)).trans (Meet.cell1 HWX.out), (HBX.out w' (below_step HB.out hb)).1⟩⟩
     clear hwb hbb
     refine start_ (n := 24) (S := fun w' => w'.cell? ⟨g, i, none⟩ = some (.slice Av lst.length cv) ∧ w'.cell? ⟨wr.heap.size, 0, none⟩ = some (.int .i64 p.f0) ∧ w'.cell? ⟨wr.heap.size, 1, none⟩ = some (.int .i64 p.f1) ∧ w'.cell? ⟨w.heap.size, 0, none⟩ = some (.int .i64 x)) (ds := [20, 23]) (bq 24 0) (by kernel_rfl) rfl (by kernel_rfl) ⟨(HH.out wb.drew (Below.refl wb.heap.size wb).drew).1, (HH.out wb.drew (Below.refl wb.heap.size wb).drew).2.1, (HH.out wb.drew (Below.refl wb.heap.size wb).drew).2.2.1, (HH.out wb.drew (Below.refl wb.heap.size wb).drew).2.2.2⟩ (fun hHeld => ?_)
     refine pX 24 1 0 29 ?_
     refine pX 24 3 1 30 ?_
     refine pX 24 7 2 31 ?_
     refine pX 24 15 3 32 ?_
     refine pX 24 31 4 33 ?_
     refine pX 24 63 5 34 ?_
     refine pX 24 191 7 36 ?_
     refine pX 24 703 9 38 ?_
     refine pX 24 2751 11 40 ?_
     refine pX 24 10943 13 42 ?_
     refine pX 24 27327 14 43 ?_
     refine sX4 24 27391 6 35 hHeld ?_
     refine sX4 24 27647 8 37 hHeld ?_
     refine sX4 24 28671 10 39 hHeld ?_
     refine sX4 24 32767 12 41 hHeld ?_
     refine pX 24 65535 15 44 ?_
     refine pX 24 131071 16 45 ?_
     refine pX 24 262143 17 46 ?_
     refine pX 24 524287 18 47 ?_
     refine one_ (i := 19) (N := some 48) (bq 24 1048575) rfl rfl (by kernel_rfl) (by decide) (fun K hK => ?_)
     refine value_ (w1 := ?_) (v := ?_) (by rfl) rfl ?_ ?_
     rotate_left 2
     ·go_simp
      constructor
      ·rfl
      ·rfl
     refine hK.out _ _ ⟨(HH.out _ (below_alloc (Below.refl wb.heap.size wb).drew _)).1, (HH.out _ (below_alloc (Below.refl wb.heap.size wb).drew _)).2.1, (HH.out _ (below_alloc (Below.refl wb.heap.size wb).drew _)).2.2.1, (HH.out _ (below_alloc (Below.refl wb.heap.size wb).drew _)).2.2.2⟩ (fun hHeld => ?_)
     clear hK K
     refine nM 48 ?_
     refine last_ (i := 20) (N := some 49) #[true, true, true, true, true, true, true, true, true, true, true, true, true, true, true, true, true, true, true, true, true, false, false, false] rfl rfl (by kernel_rfl) (by decide) (fun K hK => ?_)
     refine Kd.R_append_step k79 (w0 := W0) (W := wb.drew) W0.heap.size (by rfl) (.tmp 35) (.tmp 48) 61 79 _ 16 rfl Try.underlying61 info79 rfl (by decide) (by decide) (.slice Av lst.length cv) lst (scR x ps.length p) _ OKI (fun _ => False) rfl rfl (k79_mkM _ _ _ _) (fun _ h => h.elim) (fun k hk => HOKI.out k (Nat.le_trans HWS.out (show wb.heap.size ≤ k from hk))) (Kd.R_drew HV.out) HB.out.drew (below_size HB.out.drew) (by have := HLL.out; omega) ?_
     intro v1 w4 ho1 hb1 hg1 hat1
     obtain ⟨A4, c4, e4⟩ := Kd.R_slice ho1
     subst e4
     rw [show (lst ++ [scR x ps.length p]).length = lst.length + 1 by simp] at ho1
     have HO1 := aM ho1
     have HB1 := aM hb1
     have HH4 := aM (Kd.H_grown (Kd.H_drew HHH.out) hg1 (fun k hk => HV.out.1 k hk))
     have HWS4 := aM (Nat.le_trans HWS.out hg1.size)
     obtain ⟨hcl4, hfr4⟩ := H_cell HH4.out HIN.out
     clear hat1 hg1 ho1 hb1
     refine hK.out _ _ ?_
     clear hK K
     refine nM 49 ?_
     refine pX 24 4194303 21 50 ?_
     refine pX 24 8388607 22 51 ?_
     refine last_ (i := 23) (N := none) #[true, true, true, true, true, true, true, true, true, true, true, true, true, true, true, true, true, true, true, true, true, true, true, true] rfl rfl (by kernel_rfl) (by decide) (fun K hK => ?_)
     refine skip_ (w1 := ?_) (by rfl) rfl ?_ ?_
     rotate_left
     ·go_simp
      rfl
     refine hK.out _ _ ?_
     clear hK K
     refine done_ (by kernel_rfl) ?_
     obtain ⟨hh5, hg5⟩ := H_put HH4.out HIN.out (.slice A4 (lst.length + 1) c4) rfl
     have HH5 := aM hh5
     have HV5 := aM (Kd.R_far (p := ⟨g, i, none⟩) HO1.out (H_ne HH4.out) (.slice A4 (lst.length + 1) c4))
     have HB5 := aM (show Below W0.heap.size W0 (w4.setCell ⟨g, i, none⟩ (.slice A4 (lst.length + 1) c4)) from below_set HB1.out (H_lt HH4.out).1)
     clear hh5 hg5
     go_wp2
     go_roundg (ps.length - (j + 1))
     case measure => have := HKQ2.out; have := HJT.out; omega
     case rel => exact ⟨j + 1, _, _, by go_num, HJT.out, rfl, ⟨by rw [HST.out, HLE.out]⟩, HV5, HH5, HB5, ⟨by have := HWS4.out; simpa [World.setCell] using this⟩⟩
    ·obtain rfl : j = ps.length := by omega
     have hlst : lst = ps.map (scR x ps.length) := by rw [HLE.out, List.take_length]
     have HLS := aM hlst
     obtain ⟨Av, cv, e1⟩ := Kd.R_slice HV.out
     subst e1
     obtain ⟨hcg, hfg⟩ := H_cell HHH.out HIN.out
     have hSC := aM (fun W (hW : W = wr) => sort_calls lst Av lst.length cv W0 W W0.heap.size OKI (by rw [hW]; exact HV.out) (by rw [hlst, List.length_map]; exact HPS.out) (by rw [hW]; exact HB.out) (Nat.le_refl _))
     clear hj hjt hlst
     go_wp2_with (go_at_call 143; go_loud ((refine (hSC.out _ rfl).mono ?_); rintro e w6 ⟨rfl, ho6, hb6, hk6⟩; have HV6 := aM ho6; have HB6 := aM hb6; have HK6 := aM hk6; clear ho6 hb6 hk6))
     have HH6 := aM (Kd.H_step HHH.out (fun k _ hn hlt => HK6.out.2 k hlt (fun he => hn (HV.out.1 k he.symm))))
     have HS6 := aM (Kd.H_back HH6.out (x' := rk1 x ps) (okp := OKI) (k77_mkM _ _ _ (rk1 x ps) (by show Kd.R k79 79 w6 W0.heap.size OKI (.slice Av lst.length cv) ((ps.map (scR x ps.length)).mergeSort le); rw [← HLS.out]; exact HV6.out)) (fun _ hk => hk))
     go_roundg (n - (i + 1))
     case measure => have := HKQ.out; have := HIN.out.1; omega
     case rel =>
      refine ⟨i + 1, _, by go_num, HIN.out.1, rfl, ⟨?_⟩, HS6, HB6⟩
      have hlr : (rks x l (ws.take i)).length = i := by rw [rks_len, List.length_take]; have := HWi.out; omega
      have h1 := HIN.out.1
      rw [Int.toNat_natCast, HX.out, show n - i = (n - (i + 1)) + 1 by omega, rks_step x l ws i HWi.out, ← HWD.out, ← HPE.out]
      conv => lhs; arg 2; rw [← hlr]
      exact set_next _ _ _ _
  ·obtain rfl : i = n := by omega
   have HXE : Aside0 (xs = rks x l ws) := ⟨by rw [HX.out, Nat.sub_self, List.replicate_zero, List.append_nil, HN.out, List.take_length]⟩
   clear hi hlt
   go_wp2
   go_ret
   rw [← HXE.out]
   exact ⟨_, rfl, Kd.S_lower HO.out HSZ.out, below_then HBW.out HSZ.out HB.out⟩
end Go.Proofs.Ytaomjndfjmfelaa.Rks
end

section
namespace Go.Proofs.Ytaomjndfjmfelaa.ScoP
set_option linter.unusedVariables false
set_option linter.unusedSimpArgs false
open Go.RowKit Go.Sort Go.Proofs.Ytaomjndfjmfelaa.PQ Go.Proofs.YtaomjndfjmfelaaW.PrintWords Go.Proofs.YtaomjndfjmfelaaW.PrintLast Go.Proofs.Ytaomjndfjmfelaa.Pre Go.Proofs.Ytaomjndfjmfelaa.EntW Go.Proofs.Ytaomjndfjmfelaa.Posts Go.Proofs.Ytaomjndfjmfelaa.GoodW Go.Proofs.Ytaomjndfjmfelaa.PostW Go.Proofs.Ytaomjndfjmfelaa.Ask Go.Proofs.Ytaomjndfjmfelaa.ByP Go.Proofs.Ytaomjndfjmfelaa.Rks Go.Proofs.Ytaomjndfjmfelaa.TopB
theorem rd_str (l : List ByteArray) (i : Nat) (h : i < l.length) : rdOf ByteArray.empty l (i : Int) = l[i] := by
 unfold rdOf
 rw [Int.toNat_natCast, List.getD_eq_getElem?_getD, List.getElem?_eq_getElem h]
 rfl
/-- A word among words. -/
theorem index_ev (l : List ByteArray) (hl : l.length ≤ 1048576) (t : ByteArray) : ∃ r : Int, Evt (fun k => slices_Index_string_string.f k l t) r ∧ (0 ≤ r ↔ t ∈ l) := by
 have key : ∀ (n i : Nat), i + n = l.length → ∃ r : Int, Evt (fun k => slices_Index_string_string.l0 k l t (l.length : Int) (i : Int)) r ∧ (0 ≤ r ↔ t ∈ l.drop i) := by
  intro n
  induction n with
  | zero =>
   intro i hi
   refine ⟨-1, Evt.step (fun k => slices_Index_string_string.l0.eq_2 _ _ _ _ k) (Evt.neg (by omega) (Evt.const _)), ?_⟩
   rw [List.drop_eq_nil_of_le (by omega)]
   simp
  | succ n ih =>
   intro i hi
   have hil : i < l.length := by omega
   obtain ⟨r, hr, hm⟩ := ih (i + 1) (by omega)
   by_cases he : t = l[i]
   ·refine ⟨(i : Int), Evt.step (fun k => slices_Index_string_string.l0.eq_2 _ _ _ _ k) (Evt.pos (by omega) (Evt.pos (by omega) (Evt.pos (by omega) (Evt.pos (by rw [rd_str l i hil, he]) (Evt.const _))))), ?_⟩
    rw [List.drop_eq_getElem_cons hil]
    exact ⟨fun _ => by rw [← he]; exact List.mem_cons_self .., fun _ => by omega⟩
   ·refine ⟨r, Evt.step (fun k => slices_Index_string_string.l0.eq_2 _ _ _ _ k) (Evt.pos (by omega) (Evt.pos (by omega) (Evt.pos (by omega) (Evt.neg (by rw [rd_str l i hil]; exact fun e => he (Byt.toList_inj e)) ?_)))), ?_⟩
    ·rw [w64 (n := (i : Int) + 1) (by omega) (by omega)]
     exact hr
    ·rw [List.drop_eq_getElem_cons hil, List.mem_cons]
     exact ⟨fun h => .inr (hm.1 h), fun h => hm.2 (h.resolve_left he)⟩
 obtain ⟨r, hr, hm⟩ := key l.length 0 (by omega)
 rw [List.drop_zero] at hm
 exact ⟨r, hr, hm⟩
def memB (t : ByteArray) (l : List ByteArray) : Bool := l.any (fun y => decide (y = t))
theorem memB_iff (t : ByteArray) (l : List ByteArray) : memB t l = true ↔ t ∈ l := by
 unfold memB
 rw [List.any_eq_true]
 constructor
 ·rintro ⟨y, hy, e⟩
  rw [← of_decide_eq_true e]
  exact hy
 ·intro h
  exact ⟨t, h, decide_eq_true rfl⟩
theorem contains_ev (l : List ByteArray) (hl : l.length ≤ 1048576) (t : ByteArray) : Evt (fun k => slices_Contains_string_string.f k l t) (memB t l) := by
 obtain ⟨r, hr, hm⟩ := index_ev l hl t
 unfold slices_Contains_string_string.f
 refine Evt.bind hr ((Evt.const _).eq ?_)
 rw [Bool.eq_iff_iff, memB_iff, decide_eq_true_eq]
 exact hm
def scoreOK (x : Int) (l : List En) (ws : List ByteArray) : Bool := asked x l ws 5 && decide ws.Nodup
theorem nodup_take {l : List ByteArray} {i : Nat} (h : i < l.length) (hn : (l.take i).Nodup) : (l.take (i + 1)).Nodup ↔ l[i] ∉ l.take i := by
 rw [SoB.take_last l i h, List.nodup_append]
 constructor
 ·rintro ⟨_, _, h3⟩ hm
  exact h3 _ hm _ (List.mem_singleton.2 rfl) rfl
 ·intro hm
  refine ⟨hn, by simp, fun a ha b hb => ?_⟩
  rw [List.mem_singleton] at hb
  rintro rfl
  exact hm (hb ▸ ha)
theorem not_nodup {l : List ByteArray} {i : Nat} (h : i < l.length) (hm : l[i] ∈ l.take i) : ¬ l.Nodup := by
 intro hn
 have h1 : (l.take (i + 1)).Nodup := hn.sublist (List.take_sublist _ _)
 exact (nodup_take h (hn.sublist (List.take_sublist _ _))).1 h1 hm
theorem scoring_ev (x : Int) (l : List En) (hl : Small l) (ws : List ByteArray) (hs : SmallS ws) : Evt (fun k => impl_scoring.f k x l ws) (scoreOK x l ws) := by
 unfold impl_scoring.f scoreOK impl_wordsAsked.f
 rw [if_pos ⟨hl, hs⟩]
 refine Evt.bsome ?_
 have key : ∀ (n i : Nat), i + n = ws.length → (ws.take i).Nodup → Evt (fun k => impl_scoring.l0 k ws ws (ws.length : Int) (i : Int)) (decide ws.Nodup) := by
  intro n
  induction n with
  | zero =>
   intro i hi hn
   rw [List.take_of_length_le (by omega)] at hn
   exact Evt.step (fun k => impl_scoring.l0.eq_2 _ _ _ _ k) (Evt.neg (by omega) ((Evt.const _).eq (decide_eq_true hn).symm))
  | succ n ih =>
   intro i hi hn
   have hil : i < ws.length := by omega
   refine Evt.step (fun k => impl_scoring.l0.eq_2 _ _ _ _ k) (Evt.pos (by omega) (Evt.pos (by omega) (Evt.pos (by omega) (Evt.pos (by omega) ?_))))
   rw [rd_str ws i hil, Int.toNat_natCast]
   refine Evt.bind (contains_ev (ws.take i) (by rw [List.length_take]; have := hs.1; omega) ws[i]) ?_
   by_cases hm : ws[i] ∈ ws.take i
   ·exact Evt.pos ((memB_iff _ _).2 hm) ((Evt.const _).eq (decide_eq_false (not_nodup hil hm)).symm)
   ·refine Evt.neg (fun h => hm ((memB_iff _ _).1 h)) ?_
    have := hs.1
    rw [w64 (n := (i : Int) + 1) (by omega) (by omega)]
    exact ih (i + 1) (by omega) ((nodup_take hil hn).2 hm)
 by_cases ha : asked x l ws 5 = true
 ·refine Evt.pos ha ?_
  rw [ha, Bool.true_and]
  exact key ws.length 0 (by omega) (by rw [List.take_zero]; exact List.nodup_nil)
 ·refine Evt.neg ha ((Evt.const _).eq ?_)
  rw [Bool.eq_false_iff.2 ha, Bool.false_and]
def distinct (ws : List ByteArray) : Bool := (decide ((ws.length : Int) ≤ 5) && !ws.any notW) && decide ws.Nodup
theorem distinct_ev (ws : List ByteArray) (hs : SmallS ws) : Evt (fun k => spec_l11Distinct.f k ws) (distinct ws) := by
 unfold spec_l11Distinct.f
 have hlen := hs.1
 have inner : ∀ (i : Nat) (hil : i < ws.length) (r : Bool), (ws[i] ∉ ws.take i → Evt (fun k => spec_l11Distinct.l0 k ws ws (ws.length : Int) ((i + 1 : Nat) : Int)) r) → (ws[i] ∈ ws.take i → r = false) → ∀ (n j : Nat), j + n = (ws.take i).length → ws[i] ∉ (ws.take i).take j →
   Evt (fun k => spec_l11Distinct.l1 k ws ws[i] ws (ws.length : Int) (i : Int) (ws.take i) ((ws.take i).length : Int) (j : Int)) r := by
  intro i hil r h1 h2 n
  induction n with
  | zero =>
   intro j hj hm
   rw [List.take_of_length_le (by omega)] at hm
   refine Evt.step (fun k => spec_l11Distinct.l1.eq_2 _ _ _ _ _ _ _ _ k) (Evt.neg (by omega) ?_)
   rw [w64 (n := (i : Int) + 1) (by omega) (by omega)]
   exact h1 hm
  | succ n ih =>
   intro j hj hm
   have hjl : j < (ws.take i).length := by omega
   have hjl2 := hjl
   rw [List.length_take] at hjl2
   refine Evt.step (fun k => spec_l11Distinct.l1.eq_2 _ _ _ _ _ _ _ _ k) (Evt.pos (by omega) (Evt.pos (by omega) (Evt.pos (by omega) ?_)))
   rw [rd_str (ws.take i) j hjl]
   by_cases he : (ws.take i)[j] = ws[i]
   ·exact Evt.pos (by rw [he]) ((Evt.const _).eq (h2 (by rw [← he]; exact List.getElem_mem hjl)).symm)
   ·refine Evt.neg (fun e => he (Byt.toList_inj e)) ?_
    rw [w64 (n := (j : Int) + 1) (by omega) (by omega)]
    refine ih (j + 1) (by omega) ?_
    rw [SoB.take_last _ j hjl, List.mem_append, List.mem_singleton]
    rintro (h | h)
    ·exact hm h
    ·exact he h.symm
 have key : ∀ (n i : Nat), i + n = ws.length → (ws.take i).Nodup → (ws.take i).any notW = false → Evt (fun k => spec_l11Distinct.l0 k ws ws (ws.length : Int) (i : Int)) (distinct ws) := by
  intro n
  induction n with
  | zero =>
   intro i hi hn ha
   rw [List.take_of_length_le (by omega)] at hn ha
   refine Evt.step (fun k => spec_l11Distinct.l0.eq_2 _ _ _ _ k) (Evt.neg (by omega) ((Evt.const _).eq ?_))
   unfold distinct
   rw [ha, decide_eq_true hn, Bool.not_false, Bool.and_true, Bool.and_true]
  | succ n ih =>
   intro i hi hn ha
   have hil : i < ws.length := by omega
   refine Evt.step (fun k => spec_l11Distinct.l0.eq_2 _ _ _ _ k) (Evt.pos (by omega) (Evt.pos (by omega) (Evt.pos (by omega) ?_)))
   rw [rd_str ws i hil, Int.toNat_natCast]
   refine Evt.bind (l10Word_ev ws[i] (hs.2 _ (List.getElem_mem hil))) ?_
   by_cases hw : isW ws[i] = true
   ·refine Evt.pos hw (Evt.pos (by omega) (inner i hil _ (fun hm => ih (i + 1) (by omega) ((nodup_take hil hn).2 hm) ?_) (fun hm => ?_) (ws.take i).length 0 (by omega) (by simp)))
    ·rw [SoB.take_last ws i hil, List.any_append, ha, Bool.false_or]
     simp [notW, hw]
    ·unfold distinct
     rw [decide_eq_false (not_nodup hil hm), Bool.and_false]
   ·refine Evt.neg hw ((Evt.const _).eq ?_)
    have : ws.any notW = true := List.any_eq_true.2 ⟨ws[i], List.getElem_mem hil, by simp [notW, hw]⟩
    unfold distinct
    rw [this]
    simp
 exact key ws.length 0 (by omega) (by rw [List.take_zero]; exact List.nodup_nil) rfl
theorem ok_eq (x : Int) (l : List En) (ws : List ByteArray) : scoreOK x l ws = (goodW x l && distinct ws) := by
 unfold scoreOK asked distinct
 rw [Bool.and_assoc, Bool.and_assoc, Bool.and_assoc]
theorem ok_good {x : Int} {l : List En} {ws : List ByteArray} (h : scoreOK x l ws = true) : goodW x l = true ∧ ws.length ≤ 5 := by
 rw [ok_eq, Bool.and_eq_true] at h
 refine ⟨h.1, ?_⟩
 have h2 := h.2
 unfold distinct at h2
 rw [Bool.and_eq_true, Bool.and_eq_true, decide_eq_true_eq] at h2
 omega
theorem good_x {x : Int} {l : List En} (h : goodW x l = true) : 0 ≤ x ∧ x ≤ 40 := by
 unfold goodW at h
 rw [Bool.and_eq_true, Bool.and_eq_true] at h
 exact of_decide_eq_true h.1.1
theorem posts_good {x : Int} {l : List En} (h : goodW x l = true) (t : ByteArray) : okFrom (x - 1) (-1) (posts l t) = true := by
 have hx := good_x h
 unfold posts
 cases hf : l.find? (fun e => decide (e.f0 = t)) with
 | none => rfl
 | some e =>
  obtain ⟨i, hi, rfl⟩ := List.getElem_of_mem (List.mem_of_find?_eq_some hf)
  unfold goodW at h
  rw [Bool.and_eq_true, List.all_eq_true] at h
  have he := h.2 i (by rw [List.mem_range'_1]; omega)
  unfold entOK at he
  simp only [Bool.and_eq_true, rd_en l i hi] at he
  have h4 := he.2
  rw [w64 (by omega) (by omega)] at h4
  exact h4
theorem ok_facts (most : Int) : ∀ (ps : List Po) (last : Int), -1 ≤ last → okFrom most last ps = true → ps.Pairwise (fun a b => a.f0 < b.f0) ∧ (∀ p ∈ ps, last < p.f0 ∧ p.f0 ≤ most ∧ 1 ≤ p.f1 ∧ p.f1 ≤ 100) ∧ (last ≤ most → (ps.length : Int) ≤ most - last)
 | [], last, _, _ => ⟨List.Pairwise.nil, fun _ h => (by cases h), fun h => (by show ((0 : Nat) : Int) ≤ most - last; omega)⟩
 | a :: ps, last, h0, h => by
  simp only [okFrom, Bool.and_eq_true, decide_eq_true_eq] at h
  obtain ⟨⟨h1, h2, h3, h4⟩, h5⟩ := h
  obtain ⟨i1, i2, i3⟩ := ok_facts most ps a.f0 (by omega) h5
  refine ⟨List.pairwise_cons.2 ⟨fun b hb => (i2 b hb).1, i1⟩, fun p hp => ?_, fun _ => ?_⟩
  ·rcases List.mem_cons.1 hp with rfl | hp
   ·exact ⟨h1, h2, h3, h4⟩
   ·have := i2 p hp
    omega
  ·rw [List.length_cons]
   have := i3 h2
   omega
theorem posts_facts {x : Int} {l : List En} (h : goodW x l = true) (t : ByteArray) : (posts l t).Pairwise (fun a b => a.f0 < b.f0) ∧ (∀ p ∈ posts l t, 0 ≤ p.f0 ∧ p.f0 < x ∧ 1 ≤ p.f1 ∧ p.f1 ≤ 100) ∧ ((posts l t).length : Int) ≤ x := by
 have hx := good_x h
 obtain ⟨h1, h2, h3⟩ := ok_facts (x - 1) (posts l t) (-1) (by omega) (posts_good h t)
 refine ⟨h1, fun p hp => ?_, ?_⟩
 ·have := h2 p hp
  omega
 ·have := h3 (by omega)
  omega
theorem scR_val {x : Int} (hx : 0 ≤ x ∧ x ≤ 40) (n : Nat) (hn : (n : Int) ≤ x) (p : Po) (hp : 1 ≤ p.f1 ∧ p.f1 ≤ 100) : 1 ≤ (scR x n p).f1 ∧ (scR x n p).f1 ≤ 1000000 := by
 unfold scR
 show 1 ≤ wrap64 (p.f1 * wrap64 (wrap64 (x - (n : Int)) + 1)) ∧ wrap64 (p.f1 * wrap64 (wrap64 (x - (n : Int)) + 1)) ≤ 1000000
 rw [w64 (n := x - (n : Int)) (by omega) (by omega), w64 (n := x - (n : Int) + 1) (by omega) (by omega)]
 obtain ⟨y, hy⟩ : ∃ y, y = x - (n : Int) + 1 := ⟨_, rfl⟩
 rw [← hy]
 have h1 : 1 ≤ y ∧ y ≤ 41 := by omega
 have h2 : 1 * 1 ≤ p.f1 * y := Int.mul_le_mul hp.1 h1.1 (by omega) (by omega)
 have h3 : p.f1 * y ≤ 100 * 41 := Int.mul_le_mul hp.2 h1.2 (by omega) (by omega)
 rw [w64 (by omega) (by omega)]
 omega
theorem ids_unlike {l : List Sc} (h : l.Pairwise (fun a b => a.f0 ≠ b.f0)) : (l.mergeSort SoB.le).Pairwise (fun a b => b.f1 ≤ a.f1 ∧ a.f0 ≠ b.f0) := by
 have h1 : (l.mergeSort SoB.le).Pairwise (fun a b => a.f0 ≠ b.f0) := (List.mergeSort_perm l SoB.le).symm.pairwise h (fun {a b} hab => fun e => hab e.symm)
 exact (ord_falls (SoB.ord_sort l)).and h1
theorem rks_ranks {x : Int} {l : List En} (h : goodW x l = true) {ws : List ByteArray} (hw : ws.length ≤ 5) : Ranks (rks x l ws) := by
 have hx := good_x h
 refine ⟨by rw [rks_len]; exact hw, fun r hr => ?_⟩
 unfold rks at hr
 obtain ⟨t, _, rfl⟩ := List.mem_map.1 hr
 obtain ⟨h1, h2, h3⟩ := posts_facts h t
 refine ⟨?_, ?_, fun y hy => ?_⟩
 ·unfold rk1
  show (((posts l t).map _).mergeSort SoB.le).length ≤ 60
  rw [List.length_mergeSort, List.length_map]
  omega
 ·refine ids_unlike ?_
  rw [List.pairwise_map]
  exact h1.imp (fun {a b} hab e => by
   have : a.f0 = b.f0 := e
   omega)
 ·have hy2 := (List.mergeSort_perm _ SoB.le).subset hy
  obtain ⟨p, hp, rfl⟩ := List.mem_map.1 hy2
  have h4 := h2 p hp
  exact scR_val hx _ h3 p ⟨h4.2.2.1, h4.2.2.2⟩
theorem put_next (acc : List Sc) (s : Sc) (h : ∀ y ∈ acc, y.f0 ≠ s.f0) : SoB.putS (acc.mergeSort SoB.le) s = (acc ++ [s]).mergeSort SoB.le := by
 rw [SoB.putS_sort, if_neg]
 intro ha
 obtain ⟨y, hy, e⟩ := List.any_eq_true.1 ha
 refine h y hy ?_
 unfold Meet.isId at e
 simpa using e
theorem rank1_ev (x : Int) (l : List En) (ps : List Po) (hps : ps.length ≤ 1048576) (hpw : ps.Pairwise (fun a b => a.f0 < b.f0)) (ws : List ByteArray) (i : Nat) (hi : i < ws.length) (hw : ws.length ≤ 1048576) (x5 : List Rk) (h5 : x5.length ≤ 1048576) (r : List Rk)
  (hr : Evt (fun k => spec_l11Rankings.l0 k (x5 ++ [rk1 x ps]) ws (ws.length : Int) ((i + 1 : Nat) : Int) x l) r) : ∀ (n j : Nat), j + n = ps.length →
  Evt (fun k => spec_l11Rankings.l1 k x5 ps ws (ws.length : Int) (i : Int) ps (ps.length : Int) (j : Int) x l (((ps.take j).map (scR x ps.length)).mergeSort SoB.le)) r := by
 intro n
 induction n with
 | zero =>
  intro j hj
  refine Evt.step (fun k => spec_l11Rankings.l1.eq_2 _ _ _ _ _ _ _ _ _ _ _ k) (Evt.neg (by omega) (Evt.pos (by omega) ?_))
  rw [List.take_of_length_le (by omega), w64 (n := (i : Int) + 1) (by omega) (by omega)]
  exact hr
 | succ n ih =>
  intro j hj
  have hjl : j < ps.length := by omega
  refine Evt.step (fun k => spec_l11Rankings.l1.eq_2 _ _ _ _ _ _ _ _ _ _ _ k) (Evt.pos (by omega) (Evt.pos (by omega) (Evt.pos (by omega) ?_)))
  rw [rd_get ps j hjl]
  refine Evt.bind (SoB.put_ev _ (by rw [List.length_mergeSort, List.length_map, List.length_take]; omega) ps[j].f0 _) ?_
  have hput := put_next ((ps.take j).map (scR x ps.length)) (scR x ps.length ps[j]) (fun y hy e => by
   obtain ⟨p, hp, rfl⟩ := List.mem_map.1 hy
   obtain ⟨q, hq, rfl⟩ := List.mem_iff_getElem.1 hp
   rw [List.length_take] at hq
   rw [List.getElem_take] at e
   have e2 : ps[q].f0 = ps[j].f0 := e
   have := List.pairwise_iff_getElem.1 hpw q j (by omega) hjl (by omega)
   omega)
  rw [← map_step x ps j hjl] at hput
  rw [w64 (n := (j : Int) + 1) (by omega) (by omega)]
  have e : SoB.putS (((ps.take j).map (scR x ps.length)).mergeSort SoB.le) ⟨ps[j].f0, wrap64 (ps[j].f1 * wrap64 (wrap64 (x - (ps.length : Int)) + 1))⟩ = ((ps.take (j + 1)).map (scR x ps.length)).mergeSort SoB.le := hput
  rw [e]
  exact ih (j + 1) (by omega)
theorem rankings_ev (x : Int) (l : List En) (hl : Small l) (hg : goodW x l = true) (ws : List ByteArray) (hw : ws.length ≤ 1048576) : Evt (fun k => spec_l11Rankings.f k x l ws) (rks x l ws) := by
 unfold spec_l11Rankings.f
 have key : ∀ (n i : Nat), i + n = ws.length → Evt (fun k => spec_l11Rankings.l0 k (rks x l (ws.take i)) ws (ws.length : Int) (i : Int) x l) (rks x l ws) := by
  intro n
  induction n with
  | zero =>
   intro i hi
   rw [List.take_of_length_le (by omega)]
   exact Evt.step (fun k => spec_l11Rankings.l0.eq_2 _ _ _ _ _ _ k) (Evt.neg (by omega) (Evt.const _))
  | succ n ih =>
   intro i hi
   have hil : i < ws.length := by omega
   refine Evt.step (fun k => spec_l11Rankings.l0.eq_2 _ _ _ _ _ _ k) (Evt.pos (by omega) (Evt.pos (by omega) (Evt.pos (by omega) ?_)))
   rw [rd_str ws i hil]
   refine Evt.bind (spec_posts l hl x ws[i]) ?_
   have h := rank1_ev x l (posts l ws[i]) (small_posts hl ws[i]) (posts_facts hg ws[i]).1 ws i hil hw (rks x l (ws.take i)) (by rw [rks_len, List.length_take]; omega) (rks x l ws) (by
    rw [← rks_step x l ws i hil]
    exact ih (i + 1) (by omega)) (posts l ws[i]).length 0 (by omega)
   simpa using h
 exact key ws.length 0 (by omega)
end Go.Proofs.Ytaomjndfjmfelaa.ScoP
end

section
namespace Go.Proofs.Ytaomjndfjmfelaa.Rkg
set_option linter.unusedVariables false
set_option linter.unusedSimpArgs false
open Go.RowKit Go.Sort Go.Proofs.Ytaomjndfjmfelaa.PQ Go.Proofs.YtaomjndfjmfelaaW.PrintWords Go.Proofs.YtaomjndfjmfelaaW.PrintLast Go.Proofs.Ytaomjndfjmfelaa.Pre Go.Proofs.Ytaomjndfjmfelaa.EntW Go.Proofs.Ytaomjndfjmfelaa.Posts Go.Proofs.Ytaomjndfjmfelaa.GoodW Go.Proofs.Ytaomjndfjmfelaa.PostW Go.Proofs.Ytaomjndfjmfelaa.Ask Go.Proofs.Ytaomjndfjmfelaa.ByP Go.Proofs.Ytaomjndfjmfelaa.Rks Go.Proofs.Ytaomjndfjmfelaa.TopB Go.Proofs.Ytaomjndfjmfelaa.ScoP
theorem list_good {l : List SoB.Sc} (ho : SoB.Ord l) (h60 : l.length ≤ 60) (h1 : Rank1 l) (hid : ∀ y ∈ l, 0 ≤ y.f0 ∧ y.f0 ≤ 1000) : Rank.rankOK l = true := by
 unfold Rank.rankOK
 rw [Bool.and_eq_true, decide_eq_true_eq, List.all_eq_true]
 refine ⟨h60, fun i hi => ?_⟩
 have hi := List.mem_range.1 hi
 have hp := List.pairwise_iff_getElem.1 h1.1
 unfold Rank.entryOK
 simp only [Bool.and_eq_true, decide_eq_true_eq, Bool.not_eq_true', decide_eq_false_iff_not, Bool.or_eq_true]
 rw [RankP.rd_at l i hi]
 refine ⟨⟨⟨hid _ (List.getElem_mem hi), h1.2 _ (List.getElem_mem hi)⟩, fun hm => ?_⟩, ?_⟩
 ·obtain ⟨y, hy, e⟩ := List.mem_map.1 hm
  rw [List.mem_take_iff_getElem] at hy
  obtain ⟨j, hj, rfl⟩ := hy
  exact (hp j i (by omega) hi (by omega)).2 e
 ·by_cases h0 : i = 0
  ·exact .inl h0
  ·refine .inr ?_
   rw [show (i : Int) - 1 = ((i - 1 : Nat) : Int) by omega, RankP.rd_at l (i - 1) (by omega)]
   have h2 := (SoB.le_iff _ _).1 (List.pairwise_iff_getElem.1 ho (i - 1) i (by omega) hi (by omega))
   have h3 := (hp (i - 1) i (by omega) hi (by omega)).2
   omega
theorem rks_ids {x : Int} {l : List En} (h : goodW x l = true) {ws : List ByteArray} : ∀ r ∈ rks x l ws, ∀ y ∈ r.f0, 0 ≤ y.f0 ∧ y.f0 < x := by
 intro r hr y hy
 unfold rks at hr
 obtain ⟨t, _, rfl⟩ := List.mem_map.1 hr
 obtain ⟨h1, h2, h3⟩ := posts_facts h t
 have hy2 := (List.mergeSort_perm _ SoB.le).subset hy
 obtain ⟨p, hp, rfl⟩ := List.mem_map.1 hy2
 exact ⟨(h2 p hp).1, (h2 p hp).2.1⟩
theorem rks_good {x : Int} {l : List En} (h : goodW x l = true) {ws : List ByteArray} (hw : ws.length ≤ 5) : RankG.good (rks x l ws) = true := by
 have hR := rks_ranks h hw
 have hx := good_x h
 unfold RankG.good
 rw [Bool.and_eq_true, decide_eq_true_eq, Bool.not_eq_true', List.any_eq_false]
 refine ⟨hR.1, fun r hr => ?_⟩
 unfold RankG.bad
 rw [list_good (by unfold rks at hr; obtain ⟨t, _, rfl⟩ := List.mem_map.1 hr; exact SoB.ord_sort _) (hR.2 r hr).1 (hR.2 r hr).2 (fun y hy => by have := rks_ids h r hr y hy; omega)]
 simp
end Go.Proofs.Ytaomjndfjmfelaa.Rkg
end

section
namespace Go.Proofs.Ytaomjndfjmfelaa.PQ
open Go.RowKit Go.Proofs.YtaomjndfjmfelaaW.PrintWords Go.Proofs.YtaomjndfjmfelaaW.PrintLast Go.Proofs.YtaomjndfjmfelaaW.PrintMore
attribute [local go_sem] max2_int min2_int max_two min_two max_three min_three max_four min_four
set_option linter.unusedVariables false
set_option linter.unusedSimpArgs false
def impl_rankings.f (a0_0 : Int) (l0_1 : List (S102)) (l1 : List ByteArray) : Option (List (S77)) := if ((l0_1.length ≤ 1048576 ∧ ∀ e ∈ l0_1, e.f0.size ≤ 1048576 ∧ e.f1.length ≤ 1048576) ∧ l1.length ≤ 1048576) ∧ GoodW.goodW a0_0 l0_1 = true then some (Rks.rks a0_0 l0_1 l1) else none
theorem impl_rankings.calls (a0_0 : Int) (A0_1 : Option Addr) (c0_1 : Nat) (l0_1 : List (S102)) (A1 : Option Addr) (c1 : Nat) (l1 : List ByteArray) (r : List (S77)) (w : World) (hr0_1 : Kd.C k102 w A0_1 l0_1.length l0_1) (hc0_1 : l0_1.length ≤ c0_1) (hr1 : Kd.C Kd.string w A1 l1.length l1) (hc1 : l1.length ≤ c1) (h : impl_rankings.f a0_0 l0_1 l1 = some r) :
  Calls Try.prog 117 #[.agg #[.int .i64 a0_0, .slice A0_1 l0_1.length c0_1], .slice A1 l1.length c1] w fun e w' => ∃ v0_ : Value, e = .returned (v0_) ∧ Kd.S k77 77 w' w.heap.size (fun _ => True) v0_ r ∧ Below w.heap.size w w' := by
 unfold impl_rankings.f at h
 split at h
 ·rename_i hs
  obtain rfl := Option.some.inj h
  exact Rks.rankings_calls a0_0 A0_1 c0_1 l0_1 A1 c1 l1 w hr0_1 hc0_1 hs.1.1 (PostW.rise_of_good hs.2) (PostW.ne_of_good hs.2) hr1 hc1 hs.1.2
 ·cases h

def impl_ScoreOf.j0 : Nat → List ByteArray → Int → Bool → Int → List (S102) → Option (Int × Bool)
 | 0, _, _, _, _, _ => none
 | k + 1, x1, x2, x19, x467000, x467001 => if x19 = true then (some (0, false)) else ((impl_rankings.f x467000 x467001 x1).bind fun t469 => ((impl_sumOf.f k t469 x2).bind fun t472 => (some (t472, true))))
def impl_ScoreOf.f (k : Nat) (a0_0 : Int) (l0_1 : List (S102)) (l1 : List ByteArray) (a2 : Int) : Option (Int × Bool) := (impl_scoring.f k a0_0 l0_1 l1).bind fun t467 => (if t467 = true then ((impl_within.f a2 0 (wrap64 (a0_0 - 1))).bind fun t468 => (impl_ScoreOf.j0 k l1 a2 (!t468) a0_0 l0_1)) else (impl_ScoreOf.j0 k l1 a2 true a0_0 l0_1))
set_option maxHeartbeats 8000000 in
set_option maxRecDepth 100000 in
theorem impl_ScoreOf.calls (k : Nat) (a0_0 : Int) (A0_1 : Option Addr) (c0_1 : Nat) (l0_1 : List (S102)) (A1 : Option Addr) (c1 : Nat) (l1 : List ByteArray) (a2 : Int) (r1 : Int) (r2 : Bool) (w : World) (hr0_1 : Kd.C k102 w A0_1 l0_1.length l0_1) (hc0_1 : l0_1.length ≤ c0_1) (hr1 : Kd.C Kd.string w A1 l1.length l1) (hc1 : l1.length ≤ c1) (h : impl_ScoreOf.f k a0_0 l0_1 l1 a2 = some (r1, r2)) :
  Calls Try.prog 62 #[.agg #[.int .i64 a0_0, .slice A0_1 l0_1.length c0_1], .slice A1 l1.length c1, .int .i64 a2] w fun e w' => e = .returned (.tuple #[.int .i64 r1, .bool r2]) ∧ Below w.heap.size w w' := by
 have hu33 := Try.underlying33
 have HR0_1 := aM hr0_1
 have HC0_1 := aM hc0_1
 clear hr0_1 hc0_1
 have HR1 := aM hr1
 have HC1 := aM hc1
 clear hr1 hc1
 have HB := aM (Below.refl w.heap.size w)
 have H : ((impl_scoring.f k a0_0 l0_1 l1).bind fun t467 => (if t467 = true then ((impl_within.f a2 0 (wrap64 (a0_0 - 1))).bind fun t468 => (impl_ScoreOf.j0 k l1 a2 (!t468) a0_0 l0_1)) else (impl_ScoreOf.j0 k l1 a2 true a0_0 l0_1))) = some (r1, r2) := h
 clear h
 have HC4 := aM H
 clear H
 go_enter Try.func62, Try.ntmps62
 go_upto_region 1 with (first | ((with_reducible refine gate_dst (N := 3) rfl ?_); refine box_event ?hg (N := 3) ?hd (cs := #[.int .i64 a0_0, .slice A0_1 l0_1.length c0_1]) (t := 33) ?hr ?_; (case hd => rfl); (case hg => rfl); (case hr => first | (go_simp; done) | (go_simp; rfl)); intro gb466 hg w5 hbox hb; have n0_ := aM (below_step (by repeat (first | (with_reducible first | exact HB.out | apply below_alloc | apply pw_below_drewN | apply below_drew1) | exact HB.out)) hb); have n1_ := aM (hbox); have n2_ := aM ((by rw [hg]; exact (below_size (by repeat (first | (with_reducible first | exact HB.out | apply below_alloc | apply pw_below_drewN | apply below_drew1) | exact HB.out))) : w.heap.size ≤ gb466)); have n3_ := aM ((by rw [hg]; exact (below_size (by repeat (first | (with_reducible first | exact HB.out | apply below_alloc | apply pw_below_drewN | apply below_drew1) | exact HB.out))) : w.heap.size ≤ gb466)); clear HB; have HB := n0_; have BK466 := n1_; have GW466 := n2_; have GE466 := n3_; clear n0_ n1_ n2_ n3_; clear hb hbox hg))
 (try simp only [Act.put, zSA, zSB, zSC])
 go_cut [19] (fun v19 wc => ∃ (kq : Nat) (x19_3 : Bool), v19 = .bool x19_3 ∧ Aside0 (impl_ScoreOf.j0 kq l1 a2 x19_3 a0_0 l0_1 = some (r1, r2)) ∧ Aside0 (kq ≤ k) ∧ Aside0 (wc.heap[gb466]? = some (.cells #[.int .i64 a0_0, (.slice A0_1 l0_1.length c0_1)] 33 (0, 0))) ∧ Aside0 (Below w.heap.size w wc))
 case first =>
  have H := HC4.out
  clear HC4
  replace H := Option.bind_eq_some_iff.mp H
  obtain ⟨t467, A60, H⟩ := H
  replace H : (if t467 = true then ((impl_within.f a2 0 (wrap64 (a0_0 - 1))).bind fun t468 => (impl_ScoreOf.j0 k l1 a2 (!t468) a0_0 l0_1)) else (impl_ScoreOf.j0 k l1 a2 true a0_0 l0_1)) = some (r1, r2) := H
  have A6 := aM A60
  clear A60
  by_cases c7 : t467 = true
  ·subst c7
   have H1 : ((impl_within.f a2 0 (wrap64 (a0_0 - 1))).bind fun t468 => (impl_ScoreOf.j0 k l1 a2 (!t468) a0_0 l0_1)) = some (r1, r2) := by rw [if_pos rfl] at H; exact H
   clear H
   have H := H1
   clear H1
   replace H := Option.bind_eq_some_iff.mp H
   obtain ⟨t468, A80, H⟩ := H
   replace H : (impl_ScoreOf.j0 k l1 a2 (!t468) a0_0 l0_1) = some (r1, r2) := H
   have A8 := aM A80
   clear A80
   have H' := aM H
   clear H
   have hcz9_0 : w5.cell? ⟨gb466, 0, none⟩ = some (.int .i64 a0_0) := (blk_cell BK466.out 0).trans rfl
   have hcz9_1 : w5.cell? ⟨gb466, 1, none⟩ = some (.slice A0_1 l0_1.length c0_1) := (blk_cell BK466.out 1).trans rfl
   have hfz9_0 := blk_frozen BK466.out 0
   have hfz9_1 := blk_frozen BK466.out 1
   go_wp2_with (first | ((with_reducible refine gate_callee (f := 116) rfl ?_); refine gL 10 Try.func116 #[.agg #[.int .i64 a0_0, .slice A0_1 l0_1.length c0_1], .slice A1 l1.length c1] ?_; (with_reducible refine (impl_scoring.calls k a0_0 _ _ l0_1 _ _ l1 true _ ?side1 ?side2 ?side3 ?side4 A6.out).mono ?_); (case side1 => repeat (first | exact (Kd.C_below HR0_1.out HB.out) | (with_reducible refine Kd.C_alloc ?_ _) | (with_reducible refine Kd.C_drewN ?_ _) | (with_reducible refine Kd.C_drew ?_))); (case side2 => exact HC0_1.out); (case side3 => repeat (first | exact (Kd.C_below HR1.out HB.out) | (with_reducible refine Kd.C_alloc ?_ _) | (with_reducible refine Kd.C_drewN ?_ _) | (with_reducible refine Kd.C_drew ?_))); (case side4 => exact HC1.out); rintro e w10 ⟨rfl, hb⟩; refine ⟨_, rfl, ?_⟩; have n0_ := aM (blk_below (g := gb466) (o := .cells #[.int .i64 a0_0, .slice A0_1 l0_1.length c0_1] 33 (0, 0)) (by (with_reducible repeat (first | refine blk_drewN ?_ _ | refine blk_drew ?_ | refine blk_alloc ?_ _)); exact BK466.out) hb); have n1_ := aM (below_step (by repeat (first | (with_reducible first | exact HB.out | apply below_alloc | apply pw_below_drewN | apply below_drew1 | refine below_set ?_ GE466.out) | exact HB.out)) hb); clear BK466; clear HB; have BK466 := n0_; have HB := n1_; clear n0_ n1_; (try clear hb); (try clear hb2); (try clear hk); (try clear hi); have hcz11_0 : w10.cell? ⟨gb466, 0, none⟩ = some (.int .i64 a0_0) := (blk_cell BK466.out 0).trans rfl; have hcz11_1 : w10.cell? ⟨gb466, 1, none⟩ = some (.slice A0_1 l0_1.length c0_1) := (blk_cell BK466.out 1).trans rfl; have hfz11_0 := blk_frozen BK466.out 0; have hfz11_1 := blk_frozen BK466.out 1) | (go_at_call 88; (try simp only [i64_w]); (with_reducible refine (impl_within.calls a2 0 (wrap64 (a0_0 - 1)) t468 _ A8.out).mono ?_); rintro e w' ⟨rfl, ⟨nd, rfl⟩⟩))
   go_meet
   case rel => exact ⟨_, (!t468), (by first | rfl | (simp; done) | (simp [*]; done)), H', ⟨by first | omega | exact Nat.le_refl _⟩, ⟨by (with_reducible repeat (first | refine blk_drewN ?_ _ | refine blk_drew ?_ | refine blk_alloc ?_ _)); exact BK466.out⟩, ⟨by repeat (first | (with_reducible first | exact HB.out | apply below_alloc | apply pw_below_drewN | apply below_drew1 | refine below_set ?_ GE466.out) | exact HB.out)⟩⟩
  ·replace c7 := Bool.eq_false_iff.mpr c7
   subst c7
   have H1 : (impl_ScoreOf.j0 k l1 a2 true a0_0 l0_1) = some (r1, r2) := by rw [if_neg (show ¬ (false = true) by decide)] at H; exact H
   clear H
   have H := H1
   clear H1
   have H' := aM H
   clear H
   have hcz12_0 : w5.cell? ⟨gb466, 0, none⟩ = some (.int .i64 a0_0) := (blk_cell BK466.out 0).trans rfl
   have hcz12_1 : w5.cell? ⟨gb466, 1, none⟩ = some (.slice A0_1 l0_1.length c0_1) := (blk_cell BK466.out 1).trans rfl
   have hfz12_0 := blk_frozen BK466.out 0
   have hfz12_1 := blk_frozen BK466.out 1
   go_wp2_with (first | ((with_reducible refine gate_callee (f := 116) rfl ?_); refine gL 10 Try.func116 #[.agg #[.int .i64 a0_0, .slice A0_1 l0_1.length c0_1], .slice A1 l1.length c1] ?_; (with_reducible refine (impl_scoring.calls k a0_0 _ _ l0_1 _ _ l1 false _ ?side1 ?side2 ?side3 ?side4 A6.out).mono ?_); (case side1 => repeat (first | exact (Kd.C_below HR0_1.out HB.out) | (with_reducible refine Kd.C_alloc ?_ _) | (with_reducible refine Kd.C_drewN ?_ _) | (with_reducible refine Kd.C_drew ?_))); (case side2 => exact HC0_1.out); (case side3 => repeat (first | exact (Kd.C_below HR1.out HB.out) | (with_reducible refine Kd.C_alloc ?_ _) | (with_reducible refine Kd.C_drewN ?_ _) | (with_reducible refine Kd.C_drew ?_))); (case side4 => exact HC1.out); rintro e w13 ⟨rfl, hb⟩; refine ⟨_, rfl, ?_⟩; have n0_ := aM (blk_below (g := gb466) (o := .cells #[.int .i64 a0_0, .slice A0_1 l0_1.length c0_1] 33 (0, 0)) (by (with_reducible repeat (first | refine blk_drewN ?_ _ | refine blk_drew ?_ | refine blk_alloc ?_ _)); exact BK466.out) hb); have n1_ := aM (below_step (by repeat (first | (with_reducible first | exact HB.out | apply below_alloc | apply pw_below_drewN | apply below_drew1 | refine below_set ?_ GE466.out) | exact HB.out)) hb); clear BK466; clear HB; have BK466 := n0_; have HB := n1_; clear n0_ n1_; (try clear hb); (try clear hb2); (try clear hk); (try clear hi)))
   go_meet
   case rel => exact ⟨_, (true), (by first | rfl | (simp; done) | (simp [*]; done)), H', ⟨by first | omega | exact Nat.le_refl _⟩, ⟨by (with_reducible repeat (first | refine blk_drewN ?_ _ | refine blk_drew ?_ | refine blk_alloc ?_ _)); exact BK466.out⟩, ⟨by repeat (first | (with_reducible first | exact HB.out | apply below_alloc | apply pw_below_drewN | apply below_drew1 | refine below_set ?_ GE466.out) | exact HB.out)⟩⟩
 case rest =>
  clear HC4
  try clear c1
  try clear p2
  try clear c6
  try clear p6
  try clear c7
  try clear c11
  try clear hcz11_0
  try clear hcz11_1
  try clear hcz12_0
  try clear hcz12_1
  try clear hcz9_0
  try clear hcz9_1
  try clear hfz11_0
  try clear hfz11_1
  try clear hfz12_0
  try clear hfz12_1
  try clear hfz9_0
  try clear hfz9_1
  obtain ⟨kq, x19_3, rfl, HA, HJ3, BK466, HB⟩ := hcut
  cases kq with
  | zero => exact absurd HA.out (by simp [impl_ScoreOf.j0])
  | succ kj3 =>
   have H := HA.out
   clear HA
   simp only [impl_ScoreOf.j0] at H
   by_cases c14 : x19_3 = true
   ·subst c14
    have H1 : (some (0, false)) = some (r1, r2) := by rw [if_pos rfl] at H; exact H
    clear H
    have H := H1
    clear H1
    simp only [Option.some.injEq, Prod.mk.injEq] at H
    obtain ⟨rfl, rfl⟩ := H
    go_wp2
    go_ret2
    exact ⟨eR, by repeat (first | (with_reducible first | exact HB.out | apply below_alloc | apply pw_below_drewN | apply below_drew1 | refine below_set ?_ GE466.out) | exact HB.out)⟩
   ·replace c14 := Bool.eq_false_iff.mpr c14
    subst c14
    have H1 : ((impl_rankings.f a0_0 l0_1 l1).bind fun t469 => ((impl_sumOf.f kj3 t469 a2).bind fun t472 => (some (t472, true)))) = some (r1, r2) := by rw [if_neg (show ¬ (false = true) by decide)] at H; exact H
    clear H
    have H := H1
    clear H1
    replace H := Option.bind_eq_some_iff.mp H
    obtain ⟨t469, A150, H⟩ := H
    replace H : ((impl_sumOf.f kj3 t469 a2).bind fun t472 => (some (t472, true))) = some (r1, r2) := H
    have A15 := aM A150
    clear A150
    replace H := Option.bind_eq_some_iff.mp H
    obtain ⟨t472, A160, H⟩ := H
    replace H : (some (t472, true)) = some (r1, r2) := H
    have A16 := aM A160
    clear A160
    simp only [Option.some.injEq, Prod.mk.injEq] at H
    obtain ⟨rfl, rfl⟩ := H
    have hcz17_0 : wc.cell? ⟨gb466, 0, none⟩ = some (.int .i64 a0_0) := (blk_cell BK466.out 0).trans rfl
    have hcz17_1 : wc.cell? ⟨gb466, 1, none⟩ = some (.slice A0_1 l0_1.length c0_1) := (blk_cell BK466.out 1).trans rfl
    have hfz17_0 := blk_frozen BK466.out 0
    have hfz17_1 := blk_frozen BK466.out 1
    go_wp2_with (first | ((with_reducible refine gate_callee (f := 117) rfl ?_); refine gL 22 Try.func117 #[.agg #[.int .i64 a0_0, .slice A0_1 l0_1.length c0_1], .slice A1 l1.length c1] ?_; (with_reducible refine (impl_rankings.calls a0_0 _ _ l0_1 _ _ l1 t469 _ ?side1 ?side2 ?side3 ?side4 A15.out).mono ?_); (case side1 => repeat (first | exact (Kd.C_below HR0_1.out HB.out) | (with_reducible refine Kd.C_alloc ?_ _) | (with_reducible refine Kd.C_drewN ?_ _) | (with_reducible refine Kd.C_drew ?_))); (case side2 => exact HC0_1.out); (case side3 => repeat (first | exact (Kd.C_below HR1.out HB.out) | (with_reducible refine Kd.C_alloc ?_ _) | (with_reducible refine Kd.C_drewN ?_ _) | (with_reducible refine Kd.C_drew ?_))); (case side4 => exact HC1.out); rintro e w18 ⟨v470, rfl, ho0, hb⟩; refine ⟨_, rfl, ?_⟩; have n0_ := aM (Kd.S_lower ho0 (below_size (by repeat (first | (with_reducible first | exact HB.out | apply below_alloc | apply pw_below_drewN | apply below_drew1 | refine below_set ?_ GE466.out) | exact HB.out)))); have n1_ := aM (blk_below (g := gb466) (o := .cells #[.int .i64 a0_0, .slice A0_1 l0_1.length c0_1] 33 (0, 0)) (by (with_reducible repeat (first | refine blk_drewN ?_ _ | refine blk_drew ?_ | refine blk_alloc ?_ _)); exact BK466.out) hb); have n2_ := aM (below_step (by repeat (first | (with_reducible first | exact HB.out | apply below_alloc | apply pw_below_drewN | apply below_drew1 | refine below_set ?_ GE466.out) | exact HB.out)) hb); clear BK466; clear HB; have HO471 := n0_; have BK466 := n1_; have HB := n2_; clear n0_ n1_ n2_; (try clear hb); (try clear hb2); (try clear hk); (try clear hi); (try clear ho0); obtain ⟨Ao19, co19, eo19⟩ := Kd.S_slice HO471.out; subst eo19) | ((with_reducible refine gate_callee (f := 113) rfl ?_); refine gL 24 Try.func113 #[.slice Ao19 t469.length co19, .int .i64 a2] ?_; (with_reducible refine (impl_sumOf.calls kj3 _ _ t469 a2 t472 _ ?side1 ?side2 A16.out).mono ?_); (case side1 => repeat (first | exact (Kd.S_reads' HO471.out).2.2 | (with_reducible refine Kd.C_alloc ?_ _) | (with_reducible refine Kd.C_drewN ?_ _) | (with_reducible refine Kd.C_drew ?_))); (case side2 => exact (Kd.S_reads' HO471.out).2.1); rintro e w20 ⟨rfl, hb⟩; refine ⟨_, rfl, ?_⟩; have n0_ := aM (Kd.S_below (by (with_reducible repeat (first | apply Kd.S_alloc | apply Kd.S_drewN | apply Kd.S_drew)); exact HO471.out) hb); have n1_ := aM (blk_below (g := gb466) (o := .cells #[.int .i64 a0_0, .slice A0_1 l0_1.length c0_1] 33 (0, 0)) (by (with_reducible repeat (first | refine blk_drewN ?_ _ | refine blk_drew ?_ | refine blk_alloc ?_ _)); exact BK466.out) hb); have n2_ := aM (below_step (by repeat (first | (with_reducible first | exact HB.out | apply below_alloc | apply pw_below_drewN | apply below_drew1 | refine below_set ?_ GE466.out) | exact HB.out)) hb); clear HO471; clear BK466; clear HB; have HO471 := n0_; have BK466 := n1_; have HB := n2_; clear n0_ n1_ n2_; (try clear hb); (try clear hb2); (try clear hk); (try clear hi)))
    go_ret2
    exact ⟨eR, by repeat (first | (with_reducible first | exact HB.out | apply below_alloc | apply pw_below_drewN | apply below_drew1 | refine below_set ?_ GE466.out) | exact HB.out)⟩

end Go.Proofs.Ytaomjndfjmfelaa.PQ
end

section
namespace Go.Proofs.Ytaomjndfjmfelaa.ScoP
set_option linter.unusedVariables false
set_option linter.unusedSimpArgs false
open Go.RowKit Go.Sort Go.Proofs.Ytaomjndfjmfelaa.PQ Go.Proofs.YtaomjndfjmfelaaW.PrintWords Go.Proofs.YtaomjndfjmfelaaW.PrintLast Go.Proofs.Ytaomjndfjmfelaa.Pre Go.Proofs.Ytaomjndfjmfelaa.EntW Go.Proofs.Ytaomjndfjmfelaa.Posts Go.Proofs.Ytaomjndfjmfelaa.GoodW Go.Proofs.Ytaomjndfjmfelaa.PostW Go.Proofs.Ytaomjndfjmfelaa.Ask Go.Proofs.Ytaomjndfjmfelaa.ByP Go.Proofs.Ytaomjndfjmfelaa.Rks Go.Proofs.Ytaomjndfjmfelaa.TopB
def ansScoreOf (x : Int) (l : List En) (ws : List ByteArray) (a : Int) : Int × Bool := if scoreOK x l ws = true ∧ (0 ≤ a ∧ a ≤ x - 1) then (RankS.sumR a (rks x l ws), true) else (0, false)
theorem specScoreOf_ev (x : Int) (l : List En) (hl : Small l) (ws : List ByteArray) (hs : SmallS ws) (a : Int) : Evt (fun k => spec_ScoreOf.f k x l ws a) (ansScoreOf x l ws a) := by
 unfold spec_ScoreOf.f ansScoreOf
 rw [ok_eq]
 refine Evt.bind (GoodW.spec_ev x l hl) ?_
 by_cases hg : goodW x l = true
 ·have hx := good_x hg
  refine Evt.pos hg (Evt.bind (distinct_ev ws hs) ?_)
  by_cases hd : distinct ws = true
  ·have hlen := (ok_good (x := x) (l := l) (ws := ws) (by rw [ok_eq, hg, hd]; rfl)).2
   have hR := rks_ranks hg hlen
   refine Evt.pos hd ?_
   rw [RankP.in_ev, w64 (n := x - 1) (by omega) (by omega)]
   refine Evt.bsome (Evt.step (fun k => spec_ScoreOf.j0.eq_2 _ _ _ _ _ k) ?_)
   by_cases ha : 0 ≤ a ∧ a ≤ x - 1
   ·rw [if_pos ⟨by rw [hg, hd]; rfl, ha⟩, decide_eq_true ha]
    refine Evt.neg (by decide) (Evt.bind (rankings_ev x l hl hg ws (by omega)) (Evt.bind (RankS.spec_l11Sum_ev a _ (by have := hR.1; omega) (fun y hy => by have := (hR.2 y hy).1; omega)) (Evt.const _)))
   ·rw [if_neg (fun h => ha h.2), decide_eq_false ha]
    exact Evt.pos rfl (Evt.const _)
  ·rw [if_neg (fun h => by rw [hg, Bool.true_and] at h; exact hd h.1)]
   exact Evt.neg hd (Evt.step (fun k => spec_ScoreOf.j0.eq_2 _ _ _ _ _ k) (Evt.pos rfl (Evt.const _)))
 ·rw [if_neg (fun h => by rw [Bool.and_eq_true] at h; exact hg h.1.1)]
  exact Evt.neg hg (Evt.step (fun k => spec_ScoreOf.j0.eq_2 _ _ _ _ _ k) (Evt.pos rfl (Evt.const _)))
theorem within_ev (a b c : Int) : impl_within.f a b c = some (decide (b ≤ a ∧ a ≤ c)) := Posts.impl_within_ev a b c
theorem implScoreOf_ev (x : Int) (l : List En) (hl : Small l) (ws : List ByteArray) (hs : SmallS ws) (a : Int) : Evt (fun k => impl_ScoreOf.f k x l ws a) (ansScoreOf x l ws a) := by
 unfold impl_ScoreOf.f ansScoreOf
 refine Evt.bind (scoring_ev x l hl ws hs) ?_
 by_cases ho : scoreOK x l ws = true
 ·obtain ⟨hg, hlen⟩ := ok_good ho
  have hx := good_x hg
  have hR := rks_ranks hg hlen
  refine Evt.pos ho ?_
  rw [within_ev, w64 (n := x - 1) (by omega) (by omega)]
  refine Evt.bsome (Evt.step (fun k => impl_ScoreOf.j0.eq_2 _ _ _ _ _ k) ?_)
  by_cases ha : 0 ≤ a ∧ a ≤ x - 1
  ·rw [if_pos ⟨ho, ha⟩, decide_eq_true ha]
   unfold impl_rankings.f
   rw [if_pos ⟨⟨hl, by omega⟩, hg⟩]
   refine Evt.neg (by decide) (Evt.bsome (Evt.bind (RankS.impl_sumOf_ev a _ (by have := hR.1; omega) (fun y hy => by have := (hR.2 y hy).1; omega)) (Evt.const _)))
  ·rw [if_neg (fun h => ha h.2), decide_eq_false ha]
   exact Evt.pos rfl (Evt.const _)
 ·rw [if_neg (fun h => ho h.1)]
  exact Evt.neg ho (Evt.step (fun k => impl_ScoreOf.j0.eq_2 _ _ _ _ _ k) (Evt.pos rfl (Evt.const _)))
end Go.Proofs.Ytaomjndfjmfelaa.ScoP
end

section
namespace Go.Proofs.Ytaomjndfjmfelaa.PQ
open Go.RowKit Go.Proofs.YtaomjndfjmfelaaW.PrintWords Go.Proofs.YtaomjndfjmfelaaW.PrintLast Go.Proofs.YtaomjndfjmfelaaW.PrintMore
attribute [local go_sem] max2_int min2_int max_two min_two max_three min_three max_four min_four
set_option linter.unusedVariables false
set_option linter.unusedSimpArgs false
def impl_RankingsFor.f (k : Nat) (a0_0 : Int) (l0_1 : List (S102)) (l1 : List ByteArray) : Option ((List (S77)) × Bool) := (impl_scoring.f k a0_0 l0_1 l1).bind fun t456 => (if t456 = true then ((impl_rankings.f a0_0 l0_1 l1).bind fun t457 => (some (t457, true))) else (some (([] : List (S77)), false)))
set_option maxHeartbeats 8000000 in
set_option maxRecDepth 100000 in
theorem impl_RankingsFor.calls (k : Nat) (a0_0 : Int) (A0_1 : Option Addr) (c0_1 : Nat) (l0_1 : List (S102)) (A1 : Option Addr) (c1 : Nat) (l1 : List ByteArray) (r1 : List (S77)) (r2 : Bool) (w : World) (hr0_1 : Kd.C k102 w A0_1 l0_1.length l0_1) (hc0_1 : l0_1.length ≤ c0_1) (hr1 : Kd.C Kd.string w A1 l1.length l1) (hc1 : l1.length ≤ c1) (h : impl_RankingsFor.f k a0_0 l0_1 l1 = some (r1, r2)) :
  Calls Try.prog 64 #[.agg #[.int .i64 a0_0, .slice A0_1 l0_1.length c0_1], .slice A1 l1.length c1] w fun e w' => ∃ v0_ : Value, e = .returned (.tuple #[v0_, .bool r2]) ∧ Kd.S k77 77 w' w.heap.size (fun _ => True) v0_ r1 ∧ Below w.heap.size w w' := by
 have hu33 := Try.underlying33
 have HR0_1 := aM hr0_1
 have HC0_1 := aM hc0_1
 clear hr0_1 hc0_1
 have HR1 := aM hr1
 have HC1 := aM hc1
 clear hr1 hc1
 have HB := aM (Below.refl w.heap.size w)
 have H : ((impl_scoring.f k a0_0 l0_1 l1).bind fun t456 => (if t456 = true then ((impl_rankings.f a0_0 l0_1 l1).bind fun t457 => (some (t457, true))) else (some (([] : List (S77)), false)))) = some (r1, r2) := h
 clear h
 replace H := Option.bind_eq_some_iff.mp H
 obtain ⟨t456, A30, H⟩ := H
 replace H : (if t456 = true then ((impl_rankings.f a0_0 l0_1 l1).bind fun t457 => (some (t457, true))) else (some (([] : List (S77)), false))) = some (r1, r2) := H
 have A3 := aM A30
 clear A30
 by_cases c4 : t456 = true
 ·subst c4
  have H1 : ((impl_rankings.f a0_0 l0_1 l1).bind fun t457 => (some (t457, true))) = some (r1, r2) := by rw [if_pos rfl] at H; exact H
  clear H
  have H := H1
  clear H1
  replace H := Option.bind_eq_some_iff.mp H
  obtain ⟨t457, A50, H⟩ := H
  replace H : (some (t457, true)) = some (r1, r2) := H
  have A5 := aM A50
  clear A50
  simp only [Option.some.injEq, Prod.mk.injEq] at H
  obtain ⟨rfl, rfl⟩ := H
  go_enter Try.func64, Try.ntmps64
  go_wp2_with (first | ((with_reducible refine gate_dst (N := 2) rfl ?_); refine box_event ?hg (N := 2) ?hd (cs := #[.int .i64 a0_0, .slice A0_1 l0_1.length c0_1]) (t := 33) ?hr ?_; (case hd => rfl); (case hg => rfl); (case hr => first | (go_simp; done) | (go_simp; rfl)); intro gb455 hg w6 hbox hb; have n0_ := aM (below_step (by repeat (first | (with_reducible first | exact HB.out | apply below_alloc | apply pw_below_drewN | apply below_drew1) | exact HB.out)) hb); have n1_ := aM (hbox); have n2_ := aM ((by rw [hg]; exact (below_size (by repeat (first | (with_reducible first | exact HB.out | apply below_alloc | apply pw_below_drewN | apply below_drew1) | exact HB.out))) : w.heap.size ≤ gb455)); have n3_ := aM ((by rw [hg]; exact (below_size (by repeat (first | (with_reducible first | exact HB.out | apply below_alloc | apply pw_below_drewN | apply below_drew1) | exact HB.out))) : w.heap.size ≤ gb455)); clear HB; have HB := n0_; have BK455 := n1_; have GW455 := n2_; have GE455 := n3_; clear n0_ n1_ n2_ n3_; clear hb hbox hg; have hcz7_0 : w6.cell? ⟨gb455, 0, none⟩ = some (.int .i64 a0_0) := (blk_cell BK455.out 0).trans rfl; have hcz7_1 : w6.cell? ⟨gb455, 1, none⟩ = some (.slice A0_1 l0_1.length c0_1) := (blk_cell BK455.out 1).trans rfl; have hfz7_0 := blk_frozen BK455.out 0; have hfz7_1 := blk_frozen BK455.out 1) | ((with_reducible refine gate_callee (f := 116) rfl ?_); refine gL 8 Try.func116 #[.agg #[.int .i64 a0_0, .slice A0_1 l0_1.length c0_1], .slice A1 l1.length c1] ?_; (with_reducible refine (impl_scoring.calls k a0_0 _ _ l0_1 _ _ l1 true _ ?side1 ?side2 ?side3 ?side4 A3.out).mono ?_); (case side1 => repeat (first | exact (Kd.C_below HR0_1.out HB.out) | (with_reducible refine Kd.C_alloc ?_ _) | (with_reducible refine Kd.C_drewN ?_ _) | (with_reducible refine Kd.C_drew ?_))); (case side2 => exact HC0_1.out); (case side3 => repeat (first | exact (Kd.C_below HR1.out HB.out) | (with_reducible refine Kd.C_alloc ?_ _) | (with_reducible refine Kd.C_drewN ?_ _) | (with_reducible refine Kd.C_drew ?_))); (case side4 => exact HC1.out); rintro e w8 ⟨rfl, hb⟩; refine ⟨_, rfl, ?_⟩; have n0_ := aM (blk_below (g := gb455) (o := .cells #[.int .i64 a0_0, .slice A0_1 l0_1.length c0_1] 33 (0, 0)) (by (with_reducible repeat (first | refine blk_drewN ?_ _ | refine blk_drew ?_ | refine blk_alloc ?_ _)); exact BK455.out) hb); have n1_ := aM (below_step (by repeat (first | (with_reducible first | exact HB.out | apply below_alloc | apply pw_below_drewN | apply below_drew1 | refine below_set ?_ GE455.out) | exact HB.out)) hb); clear BK455; clear HB; have BK455 := n0_; have HB := n1_; clear n0_ n1_; (try clear hb); (try clear hb2); (try clear hk); (try clear hi); have hcz9_0 : w8.cell? ⟨gb455, 0, none⟩ = some (.int .i64 a0_0) := (blk_cell BK455.out 0).trans rfl; have hcz9_1 : w8.cell? ⟨gb455, 1, none⟩ = some (.slice A0_1 l0_1.length c0_1) := (blk_cell BK455.out 1).trans rfl; have hfz9_0 := blk_frozen BK455.out 0; have hfz9_1 := blk_frozen BK455.out 1) | ((with_reducible refine gate_callee (f := 117) rfl ?_); refine gL 12 Try.func117 #[.agg #[.int .i64 a0_0, .slice A0_1 l0_1.length c0_1], .slice A1 l1.length c1] ?_; (with_reducible refine (impl_rankings.calls a0_0 _ _ l0_1 _ _ l1 t457 _ ?side1 ?side2 ?side3 ?side4 A5.out).mono ?_); (case side1 => repeat (first | exact (Kd.C_below HR0_1.out HB.out) | (with_reducible refine Kd.C_alloc ?_ _) | (with_reducible refine Kd.C_drewN ?_ _) | (with_reducible refine Kd.C_drew ?_))); (case side2 => exact HC0_1.out); (case side3 => repeat (first | exact (Kd.C_below HR1.out HB.out) | (with_reducible refine Kd.C_alloc ?_ _) | (with_reducible refine Kd.C_drewN ?_ _) | (with_reducible refine Kd.C_drew ?_))); (case side4 => exact HC1.out); rintro e w10 ⟨v458, rfl, ho0, hb⟩; refine ⟨_, rfl, ?_⟩; have n0_ := aM (Kd.S_lower ho0 (below_size (by repeat (first | (with_reducible first | exact HB.out | apply below_alloc | apply pw_below_drewN | apply below_drew1 | refine below_set ?_ GE455.out) | exact HB.out)))); have n1_ := aM (blk_below (g := gb455) (o := .cells #[.int .i64 a0_0, .slice A0_1 l0_1.length c0_1] 33 (0, 0)) (by (with_reducible repeat (first | refine blk_drewN ?_ _ | refine blk_drew ?_ | refine blk_alloc ?_ _)); exact BK455.out) hb); have n2_ := aM (below_step (by repeat (first | (with_reducible first | exact HB.out | apply below_alloc | apply pw_below_drewN | apply below_drew1 | refine below_set ?_ GE455.out) | exact HB.out)) hb); clear BK455; clear HB; have HO459 := n0_; have BK455 := n1_; have HB := n2_; clear n0_ n1_ n2_; (try clear hb); (try clear hb2); (try clear hk); (try clear hi); (try clear ho0)))
  go_ret2
  exact ⟨_, eR, by (with_reducible repeat (first | apply Kd.S_alloc | apply Kd.S_drewN | apply Kd.S_drew)); exact HO459.out, by repeat (first | (with_reducible first | exact HB.out | apply below_alloc | apply pw_below_drewN | apply below_drew1 | refine below_set ?_ GE455.out) | exact HB.out)⟩
 ·replace c4 := Bool.eq_false_iff.mpr c4
  subst c4
  have H1 : (some (([] : List (S77)), false)) = some (r1, r2) := by rw [if_neg (show ¬ (false = true) by decide)] at H; exact H
  clear H
  have H := H1
  clear H1
  simp only [Option.some.injEq, Prod.mk.injEq] at H
  obtain ⟨rfl, rfl⟩ := H
  go_enter Try.func64, Try.ntmps64
  go_wp2_with (first | ((with_reducible refine gate_dst (N := 2) rfl ?_); refine box_event ?hg (N := 2) ?hd (cs := #[.int .i64 a0_0, .slice A0_1 l0_1.length c0_1]) (t := 33) ?hr ?_; (case hd => rfl); (case hg => rfl); (case hr => first | (go_simp; done) | (go_simp; rfl)); intro gb455 hg w11 hbox hb; have n0_ := aM (below_step (by repeat (first | (with_reducible first | exact HB.out | apply below_alloc | apply pw_below_drewN | apply below_drew1) | exact HB.out)) hb); have n1_ := aM (hbox); have n2_ := aM ((by rw [hg]; exact (below_size (by repeat (first | (with_reducible first | exact HB.out | apply below_alloc | apply pw_below_drewN | apply below_drew1) | exact HB.out))) : w.heap.size ≤ gb455)); have n3_ := aM ((by rw [hg]; exact (below_size (by repeat (first | (with_reducible first | exact HB.out | apply below_alloc | apply pw_below_drewN | apply below_drew1) | exact HB.out))) : w.heap.size ≤ gb455)); clear HB; have HB := n0_; have BK455 := n1_; have GW455 := n2_; have GE455 := n3_; clear n0_ n1_ n2_ n3_; clear hb hbox hg; have hcz12_0 : w11.cell? ⟨gb455, 0, none⟩ = some (.int .i64 a0_0) := (blk_cell BK455.out 0).trans rfl; have hcz12_1 : w11.cell? ⟨gb455, 1, none⟩ = some (.slice A0_1 l0_1.length c0_1) := (blk_cell BK455.out 1).trans rfl; have hfz12_0 := blk_frozen BK455.out 0; have hfz12_1 := blk_frozen BK455.out 1) | ((with_reducible refine gate_callee (f := 116) rfl ?_); refine gL 8 Try.func116 #[.agg #[.int .i64 a0_0, .slice A0_1 l0_1.length c0_1], .slice A1 l1.length c1] ?_; (with_reducible refine (impl_scoring.calls k a0_0 _ _ l0_1 _ _ l1 false _ ?side1 ?side2 ?side3 ?side4 A3.out).mono ?_); (case side1 => repeat (first | exact (Kd.C_below HR0_1.out HB.out) | (with_reducible refine Kd.C_alloc ?_ _) | (with_reducible refine Kd.C_drewN ?_ _) | (with_reducible refine Kd.C_drew ?_))); (case side2 => exact HC0_1.out); (case side3 => repeat (first | exact (Kd.C_below HR1.out HB.out) | (with_reducible refine Kd.C_alloc ?_ _) | (with_reducible refine Kd.C_drewN ?_ _) | (with_reducible refine Kd.C_drew ?_))); (case side4 => exact HC1.out); rintro e w13 ⟨rfl, hb⟩; refine ⟨_, rfl, ?_⟩; have n0_ := aM (blk_below (g := gb455) (o := .cells #[.int .i64 a0_0, .slice A0_1 l0_1.length c0_1] 33 (0, 0)) (by (with_reducible repeat (first | refine blk_drewN ?_ _ | refine blk_drew ?_ | refine blk_alloc ?_ _)); exact BK455.out) hb); have n1_ := aM (below_step (by repeat (first | (with_reducible first | exact HB.out | apply below_alloc | apply pw_below_drewN | apply below_drew1 | refine below_set ?_ GE455.out) | exact HB.out)) hb); clear BK455; clear HB; have BK455 := n0_; have HB := n1_; clear n0_ n1_; (try clear hb); (try clear hb2); (try clear hk); (try clear hi)))
  go_ret2
  exact ⟨_, eR, by first | exact Kd.S_nil _ _ _ _ _ | exact Kd.N_nil _ _ _ _ _ | exact Kd.V_nil _ _ _ _ _ | exact Kd.Q_nil _ _ _ _ _ | exact Kd.R_nil _ _ _ _ _, by repeat (first | (with_reducible first | exact HB.out | apply below_alloc | apply pw_below_drewN | apply below_drew1 | refine below_set ?_ GE455.out) | exact HB.out)⟩

end Go.Proofs.Ytaomjndfjmfelaa.PQ
end

section
namespace Go.Proofs.Ytaomjndfjmfelaa.ScoP
set_option linter.unusedVariables false
set_option linter.unusedSimpArgs false
open Go.RowKit Go.Sort Go.Proofs.Ytaomjndfjmfelaa.PQ Go.Proofs.YtaomjndfjmfelaaW.PrintWords Go.Proofs.YtaomjndfjmfelaaW.PrintLast Go.Proofs.Ytaomjndfjmfelaa.Pre Go.Proofs.Ytaomjndfjmfelaa.EntW Go.Proofs.Ytaomjndfjmfelaa.Posts Go.Proofs.Ytaomjndfjmfelaa.GoodW Go.Proofs.Ytaomjndfjmfelaa.PostW Go.Proofs.Ytaomjndfjmfelaa.Ask Go.Proofs.Ytaomjndfjmfelaa.ByP Go.Proofs.Ytaomjndfjmfelaa.Rks Go.Proofs.Ytaomjndfjmfelaa.TopB
def ansRankingsFor (x : Int) (l : List En) (ws : List ByteArray) : List Rk × Bool := if scoreOK x l ws = true then (rks x l ws, true) else ([], false)
theorem specRankingsFor_ev (x : Int) (l : List En) (hl : Small l) (ws : List ByteArray) (hs : SmallS ws) : Evt (fun k => spec_RankingsFor.f k x l ws) (ansRankingsFor x l ws) := by
 unfold spec_RankingsFor.f ansRankingsFor
 rw [ok_eq]
 refine Evt.bind (GoodW.spec_ev x l hl) ?_
 by_cases hg : goodW x l = true
 ·refine Evt.pos hg (Evt.bind (distinct_ev ws hs) ?_)
  by_cases hd : distinct ws = true
  ·rw [if_pos (by rw [hg, hd]; rfl)]
   exact Evt.pos hd (Evt.bind (rankings_ev x l hl hg ws hs.1) (Evt.const _))
  ·rw [if_neg (fun h => by rw [hg, Bool.true_and] at h; exact hd h)]
   exact Evt.neg hd (Evt.const _)
 ·rw [if_neg (fun h => by rw [Bool.and_eq_true] at h; exact hg h.1)]
  exact Evt.neg hg (Evt.const _)
theorem implRankingsFor_ev (x : Int) (l : List En) (hl : Small l) (ws : List ByteArray) (hs : SmallS ws) : Evt (fun k => impl_RankingsFor.f k x l ws) (ansRankingsFor x l ws) := by
 unfold impl_RankingsFor.f ansRankingsFor
 refine Evt.bind (scoring_ev x l hl ws hs) ?_
 by_cases ho : scoreOK x l ws = true
 ·refine Evt.pos ho ?_
  rw [if_pos ho]
  unfold impl_rankings.f
  rw [if_pos ⟨⟨hl, hs.1⟩, (ok_good ho).1⟩]
  exact Evt.bsome (Evt.const _)
 ·refine Evt.neg ho ?_
  rw [if_neg ho]
  exact Evt.const _
end Go.Proofs.Ytaomjndfjmfelaa.ScoP
end

section
namespace Go.Proofs.Ytaomjndfjmfelaa.PQ
open Go.RowKit Go.Proofs.YtaomjndfjmfelaaW.PrintWords Go.Proofs.YtaomjndfjmfelaaW.PrintLast Go.Proofs.YtaomjndfjmfelaaW.PrintMore
attribute [local go_sem] max2_int min2_int max_two min_two max_three min_three max_four min_four
set_option linter.unusedVariables false
set_option linter.unusedSimpArgs false
def impl_RankTexts.j0 : Nat → List ByteArray → Int → Bool → Int → List (S102) → Option ((List (S79)) × Bool)
 | 0, _, _, _, _, _ => none
 | k + 1, x1, x2, x18, x413000, x413001 => if x18 = true then (some (([] : List (S79)), false)) else ((impl_rankings.f x413000 x413001 x1).bind fun t415 => ((impl_topBest.f t415 x2).bind fun bt418 => (some (bt418.1, true))))
def impl_RankTexts.f (k : Nat) (a0_0 : Int) (l0_1 : List (S102)) (l1 : List ByteArray) (a2 : Int) : Option ((List (S79)) × Bool) := (impl_scoring.f k a0_0 l0_1 l1).bind fun t413 => (if t413 = true then ((impl_within.f a2 0 60).bind fun t414 => (impl_RankTexts.j0 k l1 a2 (!t414) a0_0 l0_1)) else (impl_RankTexts.j0 k l1 a2 true a0_0 l0_1))
set_option maxHeartbeats 8000000 in
set_option maxRecDepth 100000 in
theorem impl_RankTexts.calls (k : Nat) (a0_0 : Int) (A0_1 : Option Addr) (c0_1 : Nat) (l0_1 : List (S102)) (A1 : Option Addr) (c1 : Nat) (l1 : List ByteArray) (a2 : Int) (r1 : List (S79)) (r2 : Bool) (w : World) (hr0_1 : Kd.C k102 w A0_1 l0_1.length l0_1) (hc0_1 : l0_1.length ≤ c0_1) (hr1 : Kd.C Kd.string w A1 l1.length l1) (hc1 : l1.length ≤ c1) (h : impl_RankTexts.f k a0_0 l0_1 l1 a2 = some (r1, r2)) :
  Calls Try.prog 67 #[.agg #[.int .i64 a0_0, .slice A0_1 l0_1.length c0_1], .slice A1 l1.length c1, .int .i64 a2] w fun e w' => ∃ v0_ : Value, e = .returned (.tuple #[v0_, .bool r2]) ∧ Kd.R k79 79 w' w.heap.size (fun _ => True) v0_ r1 ∧ Below w.heap.size w w' := by
 have hu33 := Try.underlying33
 have HR0_1 := aM hr0_1
 have HC0_1 := aM hc0_1
 clear hr0_1 hc0_1
 have HR1 := aM hr1
 have HC1 := aM hc1
 clear hr1 hc1
 have HB := aM (Below.refl w.heap.size w)
 have H : ((impl_scoring.f k a0_0 l0_1 l1).bind fun t413 => (if t413 = true then ((impl_within.f a2 0 60).bind fun t414 => (impl_RankTexts.j0 k l1 a2 (!t414) a0_0 l0_1)) else (impl_RankTexts.j0 k l1 a2 true a0_0 l0_1))) = some (r1, r2) := h
 clear h
 have HC4 := aM H
 clear H
 go_enter Try.func67, Try.ntmps67
 go_upto_region 1 with (((with_reducible refine gate_dst (N := 3) rfl ?_); refine box_event ?hg (N := 3) ?hd (cs := #[.int .i64 a0_0, .slice A0_1 l0_1.length c0_1]) (t := 33) ?hr ?_; (case hd => rfl); (case hg => rfl); (case hr => first | (go_simp; done) | (go_simp; rfl)); intro gb412 hg w5 hbox hb; have n0_ := aM (below_step (gB HB.out) hb); have n1_ := aM (hbox); have n2_ := aM ((by rw [hg]; exact (below_size (gB HB.out)) : w.heap.size ≤ gb412)); have n3_ := aM ((by rw [hg]; exact (below_size (gB HB.out)) : w.heap.size ≤ gb412)); clear HB; have HB := n0_; have BK412 := n1_; have GW412 := n2_; have GE412 := n3_; clear n0_ n1_ n2_ n3_; clear hb hbox hg))
 (try simp only [Act.put, zSA, zSB, zSC])
 go_cut [18] (fun v18 wc => ∃ (kq : Nat) (x18_3 : Bool), v18 = .bool x18_3 ∧ Aside0 (impl_RankTexts.j0 kq l1 a2 x18_3 a0_0 l0_1 = some (r1, r2)) ∧ Aside0 (kq ≤ k) ∧ Aside0 (wc.heap[gb412]? = some (.cells #[.int .i64 a0_0, (.slice A0_1 l0_1.length c0_1)] 33 (0, 0))) ∧ Aside0 (Below w.heap.size w wc))
 case first =>
  have H := HC4.out
  clear HC4
  replace H := Option.bind_eq_some_iff.mp H
  obtain ⟨t413, A60, H⟩ := H
  replace H : (if t413 = true then ((impl_within.f a2 0 60).bind fun t414 => (impl_RankTexts.j0 k l1 a2 (!t414) a0_0 l0_1)) else (impl_RankTexts.j0 k l1 a2 true a0_0 l0_1)) = some (r1, r2) := H
  have A6 := aM A60
  clear A60
  by_cases c7 : t413 = true
  ·subst c7
   have H1 : ((impl_within.f a2 0 60).bind fun t414 => (impl_RankTexts.j0 k l1 a2 (!t414) a0_0 l0_1)) = some (r1, r2) := by rw [if_pos rfl] at H; exact H
   clear H
   have H := H1
   clear H1
   replace H := Option.bind_eq_some_iff.mp H
   obtain ⟨t414, A80, H⟩ := H
   replace H : (impl_RankTexts.j0 k l1 a2 (!t414) a0_0 l0_1) = some (r1, r2) := H
   have A8 := aM A80
   clear A80
   have H' := aM H
   clear H
   have hcz9_0 : w5.cell? ⟨gb412, 0, none⟩ = some (.int .i64 a0_0) := (blk_cell BK412.out 0).trans rfl
   have hcz9_1 : w5.cell? ⟨gb412, 1, none⟩ = some (.slice A0_1 l0_1.length c0_1) := (blk_cell BK412.out 1).trans rfl
   have hfz9_0 := blk_frozen BK412.out 0
   have hfz9_1 := blk_frozen BK412.out 1
   go_wp2_with (first | ((with_reducible refine gate_callee (f := 116) rfl ?_); refine gL 12 Try.func116 #[.agg #[.int .i64 a0_0, .slice A0_1 l0_1.length c0_1], .slice A1 l1.length c1] ?_; (with_reducible refine (impl_scoring.calls k a0_0 _ _ l0_1 _ _ l1 true _ ?side1 ?side2 ?side3 ?side4 A6.out).mono ?_); (case side1 => repeat (first | exact (Kd.C_below HR0_1.out HB.out) | (with_reducible refine Kd.C_alloc ?_ _) | (with_reducible refine Kd.C_drewN ?_ _) | (with_reducible refine Kd.C_drew ?_))); (case side2 => exact HC0_1.out); (case side3 => repeat (first | exact (Kd.C_below HR1.out HB.out) | (with_reducible refine Kd.C_alloc ?_ _) | (with_reducible refine Kd.C_drewN ?_ _) | (with_reducible refine Kd.C_drew ?_))); (case side4 => exact HC1.out); rintro e w10 ⟨rfl, hb⟩; refine ⟨_, rfl, ?_⟩; have n0_ := aM (blk_below (g := gb412) (o := .cells #[.int .i64 a0_0, .slice A0_1 l0_1.length c0_1] 33 (0, 0)) (gK BK412.out) hb); have n1_ := aM (below_step (gB HB.out) hb); clear BK412; clear HB; have BK412 := n0_; have HB := n1_; clear n0_ n1_; (try clear hb); (try clear hb2); (try clear hk); (try clear hi)) | (go_at_call 88; (try simp only [i64_w]); (with_reducible refine (impl_within.calls a2 0 60 t414 _ A8.out).mono ?_); rintro e w' ⟨rfl, ⟨nd, rfl⟩⟩))
   go_meet
   case rel => exact ⟨_, (!t414), (by first | rfl | (simp; done) | (simp [*]; done)), H', ⟨by first | omega | exact Nat.le_refl _⟩, ⟨gK BK412.out⟩, ⟨by repeat (first | (with_reducible first | exact HB.out | apply below_alloc | apply pw_below_drewN | apply below_drew1 | refine below_set ?_ GE412.out) | exact HB.out)⟩⟩
  ·replace c7 := Bool.eq_false_iff.mpr c7
   subst c7
   have H1 : (impl_RankTexts.j0 k l1 a2 true a0_0 l0_1) = some (r1, r2) := by rw [if_neg (show ¬ (false = true) by decide)] at H; exact H
   clear H
   have H := H1
   clear H1
   have H' := aM H
   clear H
   have hcz11_0 : w5.cell? ⟨gb412, 0, none⟩ = some (.int .i64 a0_0) := (blk_cell BK412.out 0).trans rfl
   have hcz11_1 : w5.cell? ⟨gb412, 1, none⟩ = some (.slice A0_1 l0_1.length c0_1) := (blk_cell BK412.out 1).trans rfl
   have hfz11_0 := blk_frozen BK412.out 0
   have hfz11_1 := blk_frozen BK412.out 1
   go_wp2_with (((with_reducible refine gate_callee (f := 116) rfl ?_); refine gL 12 Try.func116 #[.agg #[.int .i64 a0_0, .slice A0_1 l0_1.length c0_1], .slice A1 l1.length c1] ?_; (with_reducible refine (impl_scoring.calls k a0_0 _ _ l0_1 _ _ l1 false _ ?side1 ?side2 ?side3 ?side4 A6.out).mono ?_); (case side1 => repeat (first | exact (Kd.C_below HR0_1.out HB.out) | (with_reducible refine Kd.C_alloc ?_ _) | (with_reducible refine Kd.C_drewN ?_ _) | (with_reducible refine Kd.C_drew ?_))); (case side2 => exact HC0_1.out); (case side3 => repeat (first | exact (Kd.C_below HR1.out HB.out) | (with_reducible refine Kd.C_alloc ?_ _) | (with_reducible refine Kd.C_drewN ?_ _) | (with_reducible refine Kd.C_drew ?_))); (case side4 => exact HC1.out); rintro e w12 ⟨rfl, hb⟩; refine ⟨_, rfl, ?_⟩; have n0_ := aM (blk_below (g := gb412) (o := .cells #[.int .i64 a0_0, .slice A0_1 l0_1.length c0_1] 33 (0, 0)) (gK BK412.out) hb); have n1_ := aM (below_step (gB HB.out) hb); clear BK412; clear HB; have BK412 := n0_; have HB := n1_; clear n0_ n1_; (try clear hb); (try clear hb2); (try clear hk); (try clear hi)))
   go_meet
   case rel => exact ⟨_, (true), (by first | rfl | (simp; done) | (simp [*]; done)), H', ⟨by first | omega | exact Nat.le_refl _⟩, ⟨gK BK412.out⟩, ⟨by repeat (first | (with_reducible first | exact HB.out | apply below_alloc | apply pw_below_drewN | apply below_drew1 | refine below_set ?_ GE412.out) | exact HB.out)⟩⟩
 case rest =>
  clear HC4
  try clear c1
  try clear p2
  try clear c6
  try clear c7
  try clear c11
  try clear hcz11_0
  try clear hcz11_1
  try clear hcz9_0
  try clear hcz9_1
  try clear hfz11_0
  try clear hfz11_1
  try clear hfz9_0
  try clear hfz9_1
  obtain ⟨kq, x18_3, rfl, HA, HJ3, BK412, HB⟩ := hcut
  cases kq with
  | zero => exact absurd HA.out (by simp [impl_RankTexts.j0])
  | succ kj3 =>
   have H := HA.out
   clear HA
   simp only [impl_RankTexts.j0] at H
   by_cases c13 : x18_3 = true
   ·subst c13
    have H1 : (some (([] : List (S79)), false)) = some (r1, r2) := by rw [if_pos rfl] at H; exact H
    clear H
    have H := H1
    clear H1
    simp only [Option.some.injEq, Prod.mk.injEq] at H
    obtain ⟨rfl, rfl⟩ := H
    go_wp2
    go_ret2
    exact ⟨_, eR, by first | exact Kd.R_nil _ _ _ _ _ | exact Kd.N_nil _ _ _ _ _ | exact Kd.V_nil _ _ _ _ _ | exact Kd.Q_nil _ _ _ _ _ | exact Kd.S_nil _ _ _ _ _, by repeat (first | (with_reducible first | exact HB.out | apply below_alloc | apply pw_below_drewN | apply below_drew1 | refine below_set ?_ GE412.out) | exact HB.out)⟩
   ·replace c13 := Bool.eq_false_iff.mpr c13
    subst c13
    have H1 : ((impl_rankings.f a0_0 l0_1 l1).bind fun t415 => ((impl_topBest.f t415 a2).bind fun bt418 => (some (bt418.1, true)))) = some (r1, r2) := by rw [if_neg (show ¬ (false = true) by decide)] at H; exact H
    clear H
    have H := H1
    clear H1
    replace H := Option.bind_eq_some_iff.mp H
    obtain ⟨t415, A140, H⟩ := H
    replace H : ((impl_topBest.f t415 a2).bind fun bt418 => (some (bt418.1, true))) = some (r1, r2) := H
    have A14 := aM A140
    clear A140
    replace H := Option.bind_eq_some_iff.mp H
    obtain ⟨⟨t418, t419⟩, A150, H⟩ := H
    replace H : (some (t418, true)) = some (r1, r2) := H
    have A15 := aM A150
    clear A150
    simp only [Option.some.injEq, Prod.mk.injEq] at H
    obtain ⟨rfl, rfl⟩ := H
    have hcz16_0 : wc.cell? ⟨gb412, 0, none⟩ = some (.int .i64 a0_0) := (blk_cell BK412.out 0).trans rfl
    have hcz16_1 : wc.cell? ⟨gb412, 1, none⟩ = some (.slice A0_1 l0_1.length c0_1) := (blk_cell BK412.out 1).trans rfl
    have hfz16_0 := blk_frozen BK412.out 0
    have hfz16_1 := blk_frozen BK412.out 1
    go_wp2_with (first | ((with_reducible refine gate_callee (f := 117) rfl ?_); refine gL 22 Try.func117 #[.agg #[.int .i64 a0_0, .slice A0_1 l0_1.length c0_1], .slice A1 l1.length c1] ?_; (with_reducible refine (impl_rankings.calls a0_0 _ _ l0_1 _ _ l1 t415 _ ?side1 ?side2 ?side3 ?side4 A14.out).mono ?_); (case side1 => repeat (first | exact (Kd.C_below HR0_1.out HB.out) | (with_reducible refine Kd.C_alloc ?_ _) | (with_reducible refine Kd.C_drewN ?_ _) | (with_reducible refine Kd.C_drew ?_))); (case side2 => exact HC0_1.out); (case side3 => repeat (first | exact (Kd.C_below HR1.out HB.out) | (with_reducible refine Kd.C_alloc ?_ _) | (with_reducible refine Kd.C_drewN ?_ _) | (with_reducible refine Kd.C_drew ?_))); (case side4 => exact HC1.out); rintro e w17 ⟨v416, rfl, ho0, hb⟩; refine ⟨_, rfl, ?_⟩; have n0_ := aM (Kd.S_lower ho0 (below_size (gB HB.out))); have n1_ := aM (blk_below (g := gb412) (o := .cells #[.int .i64 a0_0, .slice A0_1 l0_1.length c0_1] 33 (0, 0)) (gK BK412.out) hb); have n2_ := aM (below_step (gB HB.out) hb); clear BK412; clear HB; have HO417 := n0_; have BK412 := n1_; have HB := n2_; clear n0_ n1_ n2_; (try clear hb); (try clear hb2); (try clear hk); (try clear hi); (try clear ho0); obtain ⟨Ao18, co18, eo18⟩ := Kd.S_slice HO417.out; subst eo18) | ((with_reducible refine gate_callee (f := 107) rfl ?_); refine gL 24 Try.func107 #[.slice Ao18 t415.length co18, .int .i64 a2] ?_; (with_reducible refine (impl_topBest.calls _ _ t415 a2 t418 t419 _ ?side1 ?side2 A15.out).mono ?_); (case side1 => repeat (first | exact (Kd.S_reads' HO417.out).2.2 | (with_reducible refine Kd.C_alloc ?_ _) | (with_reducible refine Kd.C_drewN ?_ _) | (with_reducible refine Kd.C_drew ?_))); (case side2 => exact (Kd.S_reads' HO417.out).2.1); rintro e w19 ⟨v420, rfl, ho0, hb⟩; refine ⟨_, rfl, ?_⟩; have n0_ := aM (Kd.S_elder' (by (with_reducible repeat (first | apply Kd.S_alloc | apply Kd.S_drewN | apply Kd.S_drew)); exact HO417.out) (Kd.R_base ho0) hb); have n1_ := aM (Kd.R_lower ho0 (below_size (gB HB.out))); have n2_ := aM (blk_below (g := gb412) (o := .cells #[.int .i64 a0_0, .slice A0_1 l0_1.length c0_1] 33 (0, 0)) (gK BK412.out) hb); have n3_ := aM (below_step (gB HB.out) hb); clear HO417; clear BK412; clear HB; have HO417 := n0_; have HO421 := n1_; have BK412 := n2_; have HB := n3_; clear n0_ n1_ n2_ n3_; (try clear hb); (try clear hb2); (try clear hk); (try clear hi); (try clear ho0)))
    go_ret2
    exact ⟨_, eR, by (with_reducible repeat (first | apply Kd.R_alloc | apply Kd.R_drewN | apply Kd.R_drew)); exact HO421.out, by repeat (first | (with_reducible first | exact HB.out | apply below_alloc | apply pw_below_drewN | apply below_drew1 | refine below_set ?_ GE412.out) | exact HB.out)⟩

end Go.Proofs.Ytaomjndfjmfelaa.PQ
end

section
namespace Go.Proofs.Ytaomjndfjmfelaa.ScoP
set_option linter.unusedVariables false
set_option linter.unusedSimpArgs false
open Go.RowKit Go.Sort Go.Proofs.Ytaomjndfjmfelaa.PQ Go.Proofs.YtaomjndfjmfelaaW.PrintWords Go.Proofs.YtaomjndfjmfelaaW.PrintLast Go.Proofs.Ytaomjndfjmfelaa.Pre Go.Proofs.Ytaomjndfjmfelaa.EntW Go.Proofs.Ytaomjndfjmfelaa.Posts Go.Proofs.Ytaomjndfjmfelaa.GoodW Go.Proofs.Ytaomjndfjmfelaa.PostW Go.Proofs.Ytaomjndfjmfelaa.Ask Go.Proofs.Ytaomjndfjmfelaa.ByP Go.Proofs.Ytaomjndfjmfelaa.Rks Go.Proofs.Ytaomjndfjmfelaa.TopB
def ansRankTexts (x : Int) (l : List En) (ws : List ByteArray) (a : Int) : List Sc × Bool := if scoreOK x l ws = true ∧ (0 ≤ a ∧ a ≤ 60) then (((SoB.metA (rks x l ws) (rks x l ws) []).mergeSort SoB.le).take a.toNat, true) else ([], false)
theorem ansRankTexts_len (x : Int) (l : List En) (ws : List ByteArray) (a : Int) : (ansRankTexts x l ws a).1.length ≤ 1048576 := by
 unfold ansRankTexts
 by_cases h : scoreOK x l ws = true ∧ (0 ≤ a ∧ a ≤ 60)
 ·rw [if_pos h]
  show (((SoB.metA _ _ []).mergeSort SoB.le).take a.toNat).length ≤ 1048576
  rw [List.length_take]
  have := h.2.2
  omega
 ·rw [if_neg h]
  exact Nat.zero_le _
theorem specRankTexts_ev (x : Int) (l : List En) (hl : Small l) (ws : List ByteArray) (hs : SmallS ws) (a : Int) : Evt (fun k => spec_RankTexts.f k x l ws a) (ansRankTexts x l ws a) := by
 unfold spec_RankTexts.f ansRankTexts
 rw [ok_eq]
 refine Evt.bind (GoodW.spec_ev x l hl) ?_
 by_cases hg : goodW x l = true
 ·refine Evt.pos hg (Evt.bind (distinct_ev ws hs) ?_)
  by_cases hd : distinct ws = true
  ·have hlen := (ok_good (x := x) (l := l) (ws := ws) (by rw [ok_eq, hg, hd]; rfl)).2
   have hR := rks_ranks hg hlen
   refine Evt.pos hd ?_
   rw [RankP.in_ev]
   refine Evt.bsome (Evt.step (fun k => spec_RankTexts.j0.eq_2 _ _ _ _ _ k) ?_)
   by_cases ha : 0 ≤ a ∧ a ≤ 60
   ·rw [if_pos ⟨by rw [hg, hd]; rfl, ha⟩, decide_eq_true ha]
    obtain ⟨n, rfl⟩ := Int.eq_ofNat_of_zero_le ha.1
    rw [Int.toNat_natCast]
    exact Evt.neg (by decide) (Evt.bind (rankings_ev x l hl hg ws (by omega)) (Evt.bind (SoB.all_ev _ hR.1 (fun y hy => (hR.2 y hy).1) n (by omega)) (Evt.const _)))
   ·rw [if_neg (fun h => ha h.2), decide_eq_false ha]
    exact Evt.pos rfl (Evt.const _)
  ·rw [if_neg (fun h => by rw [hg, Bool.true_and] at h; exact hd h.1)]
   exact Evt.neg hd (Evt.step (fun k => spec_RankTexts.j0.eq_2 _ _ _ _ _ k) (Evt.pos rfl (Evt.const _)))
 ·rw [if_neg (fun h => by rw [Bool.and_eq_true] at h; exact hg h.1.1)]
  exact Evt.neg hg (Evt.step (fun k => spec_RankTexts.j0.eq_2 _ _ _ _ _ k) (Evt.pos rfl (Evt.const _)))
theorem implRankTexts_ev (x : Int) (l : List En) (hl : Small l) (ws : List ByteArray) (hs : SmallS ws) (a : Int) : Evt (fun k => impl_RankTexts.f k x l ws a) (ansRankTexts x l ws a) := by
 unfold impl_RankTexts.f ansRankTexts
 refine Evt.bind (scoring_ev x l hl ws hs) ?_
 by_cases ho : scoreOK x l ws = true
 ·obtain ⟨hg, hlen⟩ := ok_good ho
  have hR := rks_ranks hg hlen
  refine Evt.pos ho ?_
  rw [Posts.impl_within_ev]
  refine Evt.bsome (Evt.step (fun k => impl_RankTexts.j0.eq_2 _ _ _ _ _ k) ?_)
  by_cases ha : 0 ≤ a ∧ a ≤ 60
  ·rw [if_pos (show scoreOK x l ws = true ∧ (0 ≤ a ∧ a ≤ 60) from ⟨ho, ha⟩), decide_eq_true ha]
   refine Evt.neg (by decide) ?_
   unfold impl_rankings.f
   rw [if_pos ⟨⟨hl, by omega⟩, hg⟩]
   refine Evt.bsome ?_
   unfold impl_topBest.f
   rw [if_pos ⟨⟨hR.1, fun y hy => (hR.2 y hy).1⟩, ha⟩]
   refine Evt.bsome ((Evt.const _).eq ?_)
   rw [ansT_all _ hR]
  ·rw [if_neg (show ¬ (scoreOK x l ws = true ∧ (0 ≤ a ∧ a ≤ 60)) from fun h => ha h.2), decide_eq_false ha]
   exact Evt.pos rfl (Evt.const _)
 ·rw [if_neg (fun h => ho h.1)]
  exact Evt.neg ho (Evt.step (fun k => impl_RankTexts.j0.eq_2 _ _ _ _ _ k) (Evt.pos rfl (Evt.const _)))
end Go.Proofs.Ytaomjndfjmfelaa.ScoP
end

section
namespace Go.Proofs.Ytaomjndfjmfelaa.Rke
set_option linter.unusedVariables false
set_option linter.unusedSimpArgs false
open Go.RowKit Go.Sort Go.Proofs.Ytaomjndfjmfelaa.PQ Go.Proofs.YtaomjndfjmfelaaW.PrintWords Go.Proofs.YtaomjndfjmfelaaW.PrintLast Go.Proofs.Ytaomjndfjmfelaa.Pre Go.Proofs.Ytaomjndfjmfelaa.EntW Go.Proofs.Ytaomjndfjmfelaa.Posts Go.Proofs.Ytaomjndfjmfelaa.GoodW Go.Proofs.Ytaomjndfjmfelaa.PostW Go.Proofs.Ytaomjndfjmfelaa.Ask Go.Proofs.Ytaomjndfjmfelaa.ByP Go.Proofs.Ytaomjndfjmfelaa.Rks Go.Proofs.Ytaomjndfjmfelaa.TopB Go.Proofs.Ytaomjndfjmfelaa.ScoP Go.Proofs.Ytaomjndfjmfelaa.Rkg
theorem some_ (x : Int) (l : List En) (ws : List ByteArray) (a : Int) (p : List SoB.Sc) (h : ansRankTexts x l ws a = (p, true)) :
  ∃ q d, ansRankingsFor x l ws = (q, true) ∧ RankG.good q = true ∧ ansTB q a = (p, d, true) ∧ (∀ s ∈ p, ansScoreOf x l ws s.f0 = (s.f1, true)) ∧ p.length ≤ 60 := by
 unfold ansRankTexts at h
 by_cases hc : scoreOK x l ws = true ∧ (0 ≤ a ∧ a ≤ 60)
 ·rw [if_pos hc] at h
  injection h with h _
  obtain ⟨hg, hlen⟩ := ok_good hc.1
  have hR := rks_ranks hg hlen
  refine ⟨rks x l ws, (ansT (rks x l ws) a.toNat).2, ?_, rks_good hg hlen, ?_, ?_, ?_⟩
  ·unfold ansRankingsFor
   rw [if_pos hc.1]
  ·unfold ansTB
   rw [if_pos ⟨rks_good hg hlen, hc.2⟩, ansT_all _ hR, h]
  ·intro s hs
   rw [← h] at hs
   obtain ⟨h1, r, hr, y, hy, e⟩ := best_mem (rks x l ws) a.toNat s hs
   have hid := rks_ids hg r hr y hy
   unfold ansScoreOf
   rw [if_pos ⟨hc.1, by omega, by omega⟩, ← h1]
  ·rw [← h, List.length_take]
   omega
 ·rw [if_neg hc] at h
  injection h with _ h
  cases h
theorem none_ (x : Int) (l : List En) (ws : List ByteArray) (a : Int) (p : List SoB.Sc) (h : ansRankTexts x l ws a = (p, false)) : p = [] := by
 unfold ansRankTexts at h
 by_cases hc : scoreOK x l ws = true ∧ (0 ≤ a ∧ a ≤ 60)
 ·rw [if_pos hc] at h
  injection h with _ h
  cases h
 ·rw [if_neg hc] at h
  injection h with h _
  exact h.symm
theorem lists_len (x : Int) (l : List En) (ws : List ByteArray) : (ansRankingsFor x l ws).1.length ≤ 5 ∧ ∀ r ∈ (ansRankingsFor x l ws).1, r.f0.length ≤ 60 := by
 unfold ansRankingsFor
 by_cases h : scoreOK x l ws = true
 ·rw [if_pos h]
  obtain ⟨hg, hlen⟩ := ok_good h
  have hR := rks_ranks hg hlen
  exact ⟨hR.1, fun r hr => (hR.2 r hr).1⟩
 ·rw [if_neg h]
  exact ⟨Nat.zero_le _, fun _ h => by cases h⟩
theorem same_ev (p : List SoB.Sc) (hl : p.length ≤ 1048576) : Evt (fun k => laws_sameScored.f k p p) true := by
 unfold laws_sameScored.f
 refine Evt.pos rfl ?_
 have key : ∀ (m i : Nat), i + m = p.length → Evt (fun k => laws_sameScored.l0 k p p (p.length : Int) (i : Int)) true := by
  intro m
  induction m with
  | zero =>
   intro i hi
   exact Evt.step (fun k => laws_sameScored.l0.eq_2 _ _ _ _ k) (Evt.neg (by omega) (Evt.const _))
  | succ m ih =>
   intro i hi
   refine Evt.step (fun k => laws_sameScored.l0.eq_2 _ _ _ _ k) (Evt.pos (by omega) (Evt.pos (by omega) (Evt.pos (by omega) (Evt.pos (by omega) (Evt.neg (by simp) ?_)))))
   rw [w64 (n := (i : Int) + 1) (by omega) (by omega)]
   exact ih (i + 1) (by omega)
 exact key p.length 0 (by omega)
end Go.Proofs.Ytaomjndfjmfelaa.Rke
end

section
namespace Go.Proofs.Ytaomjndfjmfelaa.LwRd
set_option linter.unusedVariables false
set_option linter.unusedSimpArgs false
open Go.RowKit Go.Proofs.Ytaomjndfjmfelaa.PQ Go.Proofs.YtaomjndfjmfelaaW.PrintWords Go.Proofs.YtaomjndfjmfelaaW.PrintLast Go.Proofs.YtaomjndfjmfelaaW.PrintMore Go.Proofs.Ytaomjndfjmfelaa.Pre Go.Proofs.Ytaomjndfjmfelaa.TopB
theorem cell_lt {W : World} {a : Addr} {v : Value} (h : W.cell? a = some v) : a.block < W.heap.size := by
 unfold World.cell? at h
 by_cases hl : a.block < W.heap.size
 ·exact hl
 ·rw [Array.getElem?_eq_none (by omega)] at h
  cases h
theorem cells8 {x : Int} {Ax : Option Addr} {n cx : Nat} {w4 W8 w' : World} (h : W8 = w4.alloc (.cells #[.int .i64 x, .slice Ax n cx] 33)) (hb : Below W8.heap.size W8 w') : w'.cell? ⟨w4.heap.size, 0, none⟩ = some (.int .i64 x) ∧ w'.cell? ⟨w4.heap.size, 1, none⟩ = some (.slice Ax n cx) := by
 subst h
 exact ⟨(hb.cell (by simp)).trans (by simp), (hb.cell (by simp)).trans (by simp)⟩
set_option maxRecDepth 100000 in
set_option maxHeartbeats 16000000 in
theorem calls (A0 : Option Addr) (c0 : Nat) (l0 : List Int) (w : World) (hr0 : Kd.C (Kd.int .u8) w A0 l0.length l0) (hc0 : l0.length ≤ c0) (hb0 : Cur.Bytes l0) :
  Calls Try.prog 14 #[.slice A0 l0.length c0] w fun e w' => e = .returned (.bool true) ∧ Below w.heap.size w w' := by
 have HR0 := aM hr0
 have HC0 := aM hc0
 by_cases hbig : (l0.length : Int) > 1048576
 ·have hnb : decide ((l0.length : Int) > 1048576) = true := decide_eq_true hbig
  clear hr0 hc0 hb0
  go_enter Try.func14, Try.ntmps14
  go_wp2
  go_ret
  exact ⟨rfl, Below.refl _ _⟩
 ·have hnb : decide ((l0.length : Int) > 1048576) = false := decide_eq_false hbig
  obtain ⟨x, en, ws, kk, hsm, hwl, hwx, hkk, kd, hkd⟩ := Rkd.draw_ev hb0
  have hws : Ask.SmallS ws := ⟨by omega, fun t ht => by have := hwx t ht; omega⟩
  have E0 := aM hkd
  obtain ⟨k1, hk1⟩ := (ScoP.implRankTexts_ev x en hsm ws hws kk).ex
  obtain ⟨k2, hk2⟩ := (ScoP.specRankTexts_ev x en hsm ws hws kk).ex
  obtain ⟨k3, hk3⟩ := (ScoP.implRankingsFor_ev x en hsm ws hws).ex
  obtain ⟨k4, hk4⟩ := (ScoP.specRankingsFor_ev x en hsm ws hws).ex
  have hpl := ScoP.ansRankTexts_len x en ws kk
  have hql := Rke.lists_len x en ws
  obtain ⟨p, b, hpb⟩ : ∃ p b, ScoP.ansRankTexts x en ws kk = (p, b) := ⟨_, _, rfl⟩
  obtain ⟨q, b2, hqb⟩ : ∃ q b2, ScoP.ansRankingsFor x en ws = (q, b2) := ⟨_, _, rfl⟩
  rw [hpb] at hk1 hk2 hpl
  rw [hqb] at hk3 hk4 hql
  obtain ⟨kss, hkss⟩ := (Rke.same_ev p hpl).ex
  have E3 := aM hk3
  have E4 := aM hk4
  have ESS := aM hkss
  have HQ60 := aM hql.2
  have hb2 : (b2 != b2) = false := bne_self_eq_false b2
  have hq5 : (q.length : Int) ≤ 5 := by have h_ : q.length ≤ 5 := hql.1; omega
  cases b with
  | true =>
   obtain ⟨q', d', hq', hgood, hTB, hsc, hp60⟩ := Rke.some_ x en ws kk p hpb
   obtain ⟨rfl, rfl⟩ : q = q' ∧ b2 = true := by rw [hqb] at hq'; injection hq' with e1 e2; exact ⟨e1, e2⟩
   have ETB := aM hTB
   have EGR : Aside0 (impl_GoodRankings.f q = some true) := ⟨by unfold impl_GoodRankings.f; rw [hgood]⟩
   have HSC := aM hsc
   have HSM := aM hsm
   have HWS := aM hws
   have E1 := aM hk1
   have E2 := aM hk2
   have hp60i : (p.length : Int) ≤ 60 := by omega
   clear hr0 hc0 hb0 hbig hsm hwl hwx hkk hkd hws hk1 hk2 hk3 hk4 hpl hql hpb hqb hkss hq' hgood hTB hsc hp60
   go_enter Try.func14, Try.ntmps14
   go_upto_region 4 with (go_at_call 68; go_loud ((with_reducible refine (spec_DrawRankTexts.calls kd A0 c0 l0 x en ws kk w HR0.out HC0.out E0.out).mono ?_); rintro e w1 ⟨v1, v2, rfl, ho, hp, hb⟩; have HA1 := aM hb; obtain ⟨A, c, rfl, hc, hC⟩ := Kd.S_reads ho; obtain ⟨B, d, rfl, hd, hD⟩ := Kd.R_reads hp; have HC := aM hc; have HD := aM hd; have HE1 := aM hC; have HB1 := aM hD; clear ho hp hb hc hC hd hD))
   obtain ⟨W2, hW2⟩ : ∃ W_, W_ = w1.alloc (.cells #[.int .i64 x, .slice A en.length c] 33) := ⟨_, rfl⟩
   rw [← hW2]
   have HX0 : Aside0 (∀ w', Below W2.heap.size W2 w' → w'.cell? ⟨w1.heap.size, 0, none⟩ = some (.int .i64 x) ∧ w'.cell? ⟨w1.heap.size, 1, none⟩ = some (.slice A en.length c)) := ⟨fun w' hb => cells8 hW2 hb⟩
   have HA2 : Aside0 (Below w.heap.size w W2) := ⟨by rw [hW2]; exact below_alloc HA1.out _⟩
   have HS2 : Aside0 (Below W2.heap.size W2 W2) := ⟨Below.refl _ _⟩
   have HE2 : Aside0 (Kd.C k102 W2 A en.length en) := ⟨by rw [hW2]; exact Kd.C_alloc HE1.out _⟩
   have HB2 : Aside0 (Kd.C Kd.string W2 B ws.length ws) := ⟨by rw [hW2]; exact Kd.C_alloc HB1.out _⟩
   clear hW2 HA1 HE1 HB1
   obtain ⟨hc0, hc1⟩ := HX0.out W2 HS2.out
   go_upto_region 10 with (first | (go_at_call 67; go_loud ((with_reducible refine (impl_RankTexts.calls k1 x A c en B d ws kk p true _ HE2.out HC.out HB2.out HD.out E1.out).mono ?_); rintro e w3 ⟨v3, rfl, ho, hb⟩; have HA3 := aM (below_step HA2.out hb); have HS3 := aM (below_step HS2.out hb); have HE3 := aM (Kd.C_below HE2.out hb); have HB3 := aM (Kd.C_below HB2.out hb); clear HA2 HS2 HE2 HB2; obtain ⟨Ap, cp, rfl, hl, hC⟩ := Kd.R_reads ho; have HLAp := aM hl; have HAp3 := aM hC; clear ho hb hC hl; clear hc0 hc1; obtain ⟨hc0, hc1⟩ := HX0.out w3 HS3.out)) | (go_at_call 66; go_loud ((with_reducible refine (spec_RankTexts.calls k2 x A c en B d ws kk p true _ HE3.out HC.out HB3.out HD.out E2.out).mono ?_); rintro e w4 ⟨v4, rfl, ho, hb⟩; have HA4 := aM (below_step HA3.out hb); have HS4 := aM (below_step HS3.out hb); have HE4 := aM (Kd.C_below HE3.out hb); have HB4 := aM (Kd.C_below HB3.out hb); have HAp4 := aM (Kd.C_below HAp3.out hb); clear HA3 HS3 HE3 HB3 HAp3; obtain ⟨As, cs, rfl, hl, hC⟩ := Kd.R_reads ho; have HLAs := aM hl; have HAs4 := aM hC; clear ho hb hC hl; clear hc0 hc1; obtain ⟨hc0, hc1⟩ := HX0.out w4 HS4.out)) | (go_at_call 64; go_loud ((with_reducible refine (impl_RankingsFor.calls k3 x A c en B d ws q _ _ HE4.out HC.out HB4.out HD.out E3.out).mono ?_); rintro e w5 ⟨v5, rfl, ho, hb⟩; have HA5 := aM (below_step HA4.out hb); have HS5 := aM (below_step HS4.out hb); have HE5 := aM (Kd.C_below HE4.out hb); have HB5 := aM (Kd.C_below HB4.out hb); have HAp5 := aM (Kd.C_below HAp4.out hb); have HAs5 := aM (Kd.C_below HAs4.out hb); clear HA4 HS4 HE4 HB4 HAp4 HAs4; obtain ⟨Aq, cq, rfl, hl, hC⟩ := Kd.S_reads ho; have HLAq := aM hl; have HAq5 := aM hC; clear ho hb hC hl; clear hc0 hc1; obtain ⟨hc0, hc1⟩ := HX0.out w5 HS5.out)) | (go_at_call 63; go_loud ((with_reducible refine (spec_RankingsFor.calls k4 x A c en B d ws q _ _ HE5.out HC.out HB5.out HD.out E4.out).mono ?_); rintro e w6 ⟨v6, rfl, ho, hb⟩; have HA6 := aM (below_step HA5.out hb); have HS6 := aM (below_step HS5.out hb); have HE6 := aM (Kd.C_below HE5.out hb); have HB6 := aM (Kd.C_below HB5.out hb); have HAp6 := aM (Kd.C_below HAp5.out hb); have HAs6 := aM (Kd.C_below HAs5.out hb); have HAq6 := aM (Kd.C_below HAq5.out hb); clear HA5 HS5 HE5 HB5 HAp5 HAs5 HAq5; obtain ⟨At, ct, rfl, hl, hC⟩ := Kd.S_reads ho; have HLAt := aM hl; have HAt6 := aM hC; clear ho hb hC hl; clear hc0 hc1; obtain ⟨hc0, hc1⟩ := HX0.out w6 HS6.out)) | (go_at_call 57; go_loud ((with_reducible refine (laws_sameScored.calls kss Ap cp p As cs p true _ HAp6.out HLAp.out HAs6.out HLAs.out ESS.out).mono ?_); rintro e w7 ⟨rfl, hd⟩; have HA7 := aM (below_step HA6.out hd.below); have HS7 := aM (below_step HS6.out hd.below); have HE7 := aM (Kd.C_below HE6.out hd.below); have HB7 := aM (Kd.C_below HB6.out hd.below); have HAp7 := aM (Kd.C_below HAp6.out hd.below); have HAq7 := aM (Kd.C_below HAq6.out hd.below); have HAt7 := aM (Kd.C_below HAt6.out hd.below); clear HA6 HS6 HE6 HB6 HAp6 HAq6 HAt6; clear hd HAs6; clear hc0 hc1; obtain ⟨hc0, hc1⟩ := HX0.out w7 HS7.out)))
   clear hc0 hc1
   go_wp2
   go_loopg [82] q.length (fun kq v82 w' => ∃ (i : Nat), v82 = .int .i64 (i : Int) ∧ i ≤ q.length ∧ kq = q.length - i ∧ Aside0 (Below w.heap.size w w') ∧ Aside0 (Below W2.heap.size W2 w') ∧ Aside0 (Kd.C k102 w' A en.length en) ∧ Aside0 (Kd.C Kd.string w' B ws.length ws) ∧ Aside0 (Kd.C k79 w' Ap p.length p) ∧ Aside0 (Kd.C k77 w' Aq q.length q) ∧ Aside0 (Kd.C k77 w' At q.length q))
   case atStart => exact ⟨0, rfl, Nat.zero_le _, rfl, HA7, HS7, HE7, HB7, HAp7, HAq7, HAt7⟩
   case round =>
    clear HA7 HS7 HE7 HB7 HAp7 HAq7 HAt7
    obtain ⟨i, rfl, hi, hkq, HA, HS, HE, HB, HAp, HAq, HAt⟩ := hrel
    have HKQ := aM hkq
    clear hkq
    by_cases hlt : i < q.length
    ·obtain ⟨ad, Ar, cr, ead, hcell, hcr, hCr⟩ := at_T77 HAq.out (i : Int) (by omega) (by omega)
     obtain ⟨at_, Au, cu, eat, hcell2, hcu, hCu⟩ := at_T77 HAt.out (i : Int) (by omega) (by omega)
     subst ead
     subst eat
     have HLT := aM hlt
     have hrd : rd_T77 q (i : Int) = q[i]'HLT.out := RankP.rd_atR q i hlt
     rw [Int.toNat_natCast, hrd] at hcell hcell2
     rw [hrd] at hCr hCu hcr hcu
     obtain ⟨r, hrr⟩ : ∃ r, r = (q[i]'HLT.out).f0 := ⟨_, rfl⟩
     rw [← hrr] at hcell hCr hcell2 hCu hcr hcu
     obtain ⟨ks2, hks2⟩ := (Rke.same_ev r (by have := HQ60.out _ (List.getElem_mem hlt); rw [← hrr] at this; omega)).ex
     have ES2 := aM hks2
     have HCR := aM hCr
     have HCU := aM hCu
     have HLR := aM hcr
     have HLU := aM hcu
     have HLT1 := aM (cell_lt hcell)
     have HLT2 := aM (cell_lt hcell2)
     have hlt2 : (i : Int) < (q.length : Int) := by omega
     have hcd : wr.drew.cell? (ad.add i) = some (.slice Ar r.length cr) := hcell
     have hcd2 : wr.drew.cell? (at_.add i) = some (.slice Au r.length cu) := hcell2
     clear hrd hrr hks2 hlt hi hcr hCr hcu hCu
     go_upto_region 13 with (fail)
     refine start_ (n := 12) (S := fun w' => w'.cell? (ad.add i) = some (.slice Ar r.length cr) ∧ w'.cell? (at_.add i) = some (.slice Au r.length cu)) (ds := []) (bq 12 0) (by kernel_rfl) rfl (by kernel_rfl) ⟨hcd, hcd2⟩ (fun hHeld => ?_)
     refine pX 12 1 0 85 ?_
     refine pX 12 3 1 86 ?_
     refine pX 12 7 2 87 ?_
     refine pX 12 15 3 88 ?_
     refine pX 12 47 5 90 ?_
     refine pX 12 111 6 91 ?_
     refine pX 12 239 7 92 ?_
     refine pX 12 495 8 93 ?_
     refine sX2 12 511 4 89 hHeld ?_
     refine sX2 12 1023 9 94 hHeld ?_
     refine one_ (i := 10) (N := some 95) (bq 12 2047) rfl rfl (by kernel_rfl) (by decide) (fun K hK => ?_)
     refine gA Try.func57 #[.slice Ar r.length cr, .slice Au r.length cu] ?_
     with_reducible refine (laws_sameScored.calls ks2 Ar cr r Au cu r true _ (Kd.C_drew HCR.out) HLR.out (Kd.C_drew HCU.out) HLU.out ES2.out).mono ?_
     rintro e w8 ⟨rfl, hd⟩
     refine ⟨_, rfl, ?_⟩
     have HA8 := aM (below_step HA.out.drew hd.below)
     have HS8 := aM (below_step HS.out.drew hd.below)
     have HE8 := aM (Kd.C_below (Kd.C_drew HE.out) hd.below)
     have HB8 := aM (Kd.C_below (Kd.C_drew HB.out) hd.below)
     have HAp8 := aM (Kd.C_below (Kd.C_drew HAp.out) hd.below)
     have HAq8 := aM (Kd.C_below (Kd.C_drew HAq.out) hd.below)
     have HAt8 := aM (Kd.C_below (Kd.C_drew HAt.out) hd.below)
     have hq1_ := (hd.below.cell (HLT1.out)).trans hcd
     have hq2_ := (hd.below.cell (HLT2.out)).trans hcd2
     clear hd
     refine hK.out _ _ ⟨hq1_, hq2_⟩ (fun hHeld => ?_)
     clear hK K
     refine nM 95 ?_
     refine pX 12 4095 11 96 ?_
     refine done_ (by kernel_rfl) ?_
     clear hcd hcd2 hcell hcell2 hq1_ hq2_
     go_wp2
     go_roundg (q.length - (i + 1))
     case measure => have := HKQ.out; have := HLT.out; omega
     case rel => exact ⟨i + 1, by go_num, HLT.out, rfl, HA8, HS8, HE8, HB8, HAp8, HAq8, HAt8⟩
    ·obtain rfl : i = q.length := by omega
     clear hi hlt HKQ HAt
     obtain ⟨hc0, hc1⟩ := HX0.out _ HS.out
     go_upto_region 21 with (first | (go_at_call 55; go_loud (have hcal := TopB.topBestI q Aq cq kk _ HAq.out HLAq.out; rw [ETB.out] at hcal; (with_reducible refine (hcal).mono ?_); rintro e w9 ⟨v9, rfl, ho, hb⟩; have HA9 := aM (below_step HA.out hb); have HS9 := aM (below_step HS.out hb); have HE9 := aM (Kd.C_below HE.out hb); have HB9 := aM (Kd.C_below HB.out hb); have HAp9 := aM (Kd.C_below HAp.out hb); have HAq9 := aM (Kd.C_below HAq.out hb); clear HA HS HE HB HAp HAq; obtain ⟨Az, cz, rfl, hl, hC⟩ := Kd.R_reads ho; have HLAz := aM hl; have HAz9 := aM hC; clear ho hb hC hl hcal; clear hc0 hc1; obtain ⟨hc0, hc1⟩ := HX0.out w9 HS9.out)) | (go_at_call 57; go_loud ((with_reducible refine (laws_sameScored.calls kss Az cz p Ap cp p true _ HAz9.out HLAz.out HAp9.out HLAp.out ESS.out).mono ?_); rintro e w10 ⟨rfl, hd⟩; have HA10 := aM (below_step HA9.out hd.below); have HS10 := aM (below_step HS9.out hd.below); have HE10 := aM (Kd.C_below HE9.out hd.below); have HB10 := aM (Kd.C_below HB9.out hd.below); have HAp10 := aM (Kd.C_below HAp9.out hd.below); have HAq10 := aM (Kd.C_below HAq9.out hd.below); clear HA9 HS9 HE9 HB9 HAp9 HAq9; clear hd HAz9; clear hc0 hc1; obtain ⟨hc0, hc1⟩ := HX0.out w10 HS10.out)) | (go_at_call 58; go_loud ((with_reducible refine (impl_GoodRankings.calls Aq cq q true _ HAq10.out HLAq.out EGR.out).mono ?_); rintro e w11 ⟨rfl, hb⟩; have HA11 := aM (below_step HA10.out hb); have HS11 := aM (below_step HS10.out hb); have HE11 := aM (Kd.C_below HE10.out hb); have HB11 := aM (Kd.C_below HB10.out hb); have HAp11 := aM (Kd.C_below HAp10.out hb); have HAq11 := aM (Kd.C_below HAq10.out hb); clear HA10 HS10 HE10 HB10 HAp10 HAq10; clear hb; clear hc0 hc1; obtain ⟨hc0, hc1⟩ := HX0.out w11 HS11.out)))
     clear hc0 hc1
     go_wp2
     go_loopg [125] p.length (fun kq v125 w' => ∃ (i : Nat), v125 = .int .i64 (i : Int) ∧ i ≤ p.length ∧ kq = p.length - i ∧ Aside0 (Below w.heap.size w w') ∧ Aside0 (Below W2.heap.size W2 w') ∧ Aside0 (Kd.C k102 w' A en.length en) ∧ Aside0 (Kd.C Kd.string w' B ws.length ws) ∧ Aside0 (Kd.C k79 w' Ap p.length p))
     case atStart => exact ⟨0, rfl, Nat.zero_le _, rfl, HA11, HS11, HE11, HB11, HAp11⟩
     case round =>
      clear HA11 HS11 HE11 HB11 HAp11 HAq11
      obtain ⟨i, rfl, hi, hkq, HA, HS, HE, HB, HAp⟩ := hrel
      have HKQ := aM hkq
      clear hkq
      by_cases hlt : i < p.length
      ·have HLT := aM hlt
       obtain ⟨ad, ead, hs0, hs1⟩ := at_T79 HAp.out (i : Int) (by omega) (by omega)
       subst ead
       have hrd : rd_T79 p (i : Int) = p[i]'HLT.out := RankP.rd_at p i hlt
       rw [Int.toNat_natCast, hrd] at hs0 hs1
       obtain ⟨s, hs⟩ : ∃ s, s = p[i]'HLT.out := ⟨_, rfl⟩
       rw [← hs] at hs0 hs1
       have hsa := HSC.out s (by rw [hs]; exact List.getElem_mem _)
       obtain ⟨k5, hk5⟩ := (ScoP.implScoreOf_ev x en HSM.out ws HWS.out s.f0).ex
       obtain ⟨k6, hk6⟩ := (ScoP.specScoreOf_ev x en HSM.out ws HWS.out s.f0).ex
       rw [hsa] at hk5 hk6
       have E5 := aM hk5
       have E6 := aM hk6
       have hlt2 : (i : Int) < (p.length : Int) := by omega
       clear hrd hs hsa hk5 hk6 hlt hi
       go_upto_region 24 with (fail)
       obtain ⟨wb, hwb⟩ : ∃ W_, W_ = wr.alloc (.cells #[.int .i64 s.f0, .int .i64 s.f1] 79) := ⟨_, rfl⟩
       rw [← hwb]
       have HAb : Aside0 (Below w.heap.size w wb) := ⟨by rw [hwb]; exact below_alloc HA.out _⟩
       have HSb : Aside0 (Below W2.heap.size W2 wb) := ⟨by rw [hwb]; exact below_alloc HS.out _⟩
       have HEb : Aside0 (Kd.C k102 wb A en.length en) := ⟨by rw [hwb]; exact Kd.C_alloc HE.out _⟩
       have HBb : Aside0 (Kd.C Kd.string wb B ws.length ws) := ⟨by rw [hwb]; exact Kd.C_alloc HB.out _⟩
       have HApb : Aside0 (Kd.C k79 wb (some ad) p.length p) := ⟨by rw [hwb]; exact Kd.C_alloc HAp.out _⟩
       have HXb : Aside0 (wb.heap[wr.heap.size]? = some (.cells #[.int .i64 s.f0, .int .i64 s.f1] 79 (0, 0))) := ⟨by rw [hwb]; exact Meet.at_new wr _⟩
       clear hwb hs0 hs1 HA HS HE HB HAp
       obtain ⟨bx, hbx⟩ : ∃ bx, bx = wr.heap.size := ⟨_, rfl⟩
       rw [← hbx] at HXb ⊢
       clear hbx
       obtain ⟨hc0, hc1⟩ := HX0.out wb HSb.out
       have hx0 := Meet.cell0 HXb.out
       have hx1 := Meet.cell1 HXb.out
       have hne9 : (s.f1 != s.f1) = false := by simp
       go_upto_region 26 with (first | (go_at_call 62; go_loud ((with_reducible refine (impl_ScoreOf.calls k5 x A c en B d ws s.f0 s.f1 true _ HEb.out HC.out HBb.out HD.out E5.out).mono ?_); rintro e w12 ⟨rfl, hb⟩; have HAc := aM (below_step HAb.out hb); have HSc := aM (below_step HSb.out hb); have HEc := aM (Kd.C_below HEb.out hb); have HBc := aM (Kd.C_below HBb.out hb); have HApc := aM (Kd.C_below HApb.out hb); clear HAb HSb HEb HBb HApb; have HXc := aM ((hb.block _ (Meet.lt_some HXb.out)).trans HXb.out); clear hb HXb hc0 hc1 hx0 hx1; obtain ⟨hc0, hc1⟩ := HX0.out w12 HSc.out; have hx0 := Meet.cell0 HXc.out; have hx1 := Meet.cell1 HXc.out)) | (go_at_call 61; go_loud ((with_reducible refine (spec_ScoreOf.calls k6 x A c en B d ws s.f0 s.f1 true _ HEc.out HC.out HBc.out HD.out E6.out).mono ?_); rintro e w13 ⟨rfl, hb⟩; have HAd := aM (below_step HAc.out hb); have HSd := aM (below_step HSc.out hb); have HEd := aM (Kd.C_below HEc.out hb); have HBd := aM (Kd.C_below HBc.out hb); have HApd := aM (Kd.C_below HApc.out hb); clear HAc HSc HEc HBc HApc; have HXd := aM ((hb.block _ (Meet.lt_some HXc.out)).trans HXc.out); clear hb HXc hc0 hc1 hx0 hx1; obtain ⟨hc0, hc1⟩ := HX0.out w13 HSd.out; have hx0 := Meet.cell0 HXd.out; have hx1 := Meet.cell1 HXd.out)))
       go_wp2
       go_roundg (p.length - (i + 1))
       case measure => have := HKQ.out; have := HLT.out; omega
       case rel => exact ⟨i + 1, by go_num, HLT.out, rfl, HAd, HSd, HEd, HBd, HApd⟩
      ·obtain rfl : i = p.length := by omega
       clear hi hlt
       go_wp2
       go_ret
       exact ⟨rfl, HA.out⟩
  | false =>
   have hpn := Rke.none_ x en ws kk p hpb
   have HPN := aM hpn
   have E1 := aM hk1
   have E2 := aM hk2
   clear hr0 hc0 hb0 hbig hsm hwl hwx hkk hkd hws hk1 hk2 hk3 hk4 hpl hql hpb hqb hkss hpn
   go_enter Try.func14, Try.ntmps14
   go_upto_region 4 with (go_at_call 68; go_loud ((with_reducible refine (spec_DrawRankTexts.calls kd A0 c0 l0 x en ws kk w HR0.out HC0.out E0.out).mono ?_); rintro e w1 ⟨v1, v2, rfl, ho, hp, hb⟩; have HA1 := aM hb; obtain ⟨A, c, rfl, hc, hC⟩ := Kd.S_reads ho; obtain ⟨B, d, rfl, hd, hD⟩ := Kd.R_reads hp; have HC := aM hc; have HD := aM hd; have HE1 := aM hC; have HB1 := aM hD; clear ho hp hb hc hC hd hD))
   obtain ⟨W2, hW2⟩ : ∃ W_, W_ = w1.alloc (.cells #[.int .i64 x, .slice A en.length c] 33) := ⟨_, rfl⟩
   rw [← hW2]
   have HX0 : Aside0 (∀ w', Below W2.heap.size W2 w' → w'.cell? ⟨w1.heap.size, 0, none⟩ = some (.int .i64 x) ∧ w'.cell? ⟨w1.heap.size, 1, none⟩ = some (.slice A en.length c)) := ⟨fun w' hb => cells8 hW2 hb⟩
   have HA2 : Aside0 (Below w.heap.size w W2) := ⟨by rw [hW2]; exact below_alloc HA1.out _⟩
   have HS2 : Aside0 (Below W2.heap.size W2 W2) := ⟨Below.refl _ _⟩
   have HE2 : Aside0 (Kd.C k102 W2 A en.length en) := ⟨by rw [hW2]; exact Kd.C_alloc HE1.out _⟩
   have HB2 : Aside0 (Kd.C Kd.string W2 B ws.length ws) := ⟨by rw [hW2]; exact Kd.C_alloc HB1.out _⟩
   clear hW2 HA1 HE1 HB1
   obtain ⟨hc0, hc1⟩ := HX0.out W2 HS2.out
   go_upto_region 10 with (first | (go_at_call 67; go_loud ((with_reducible refine (impl_RankTexts.calls k1 x A c en B d ws kk p false _ HE2.out HC.out HB2.out HD.out E1.out).mono ?_); rintro e w3 ⟨v3, rfl, ho, hb⟩; have HA3 := aM (below_step HA2.out hb); have HS3 := aM (below_step HS2.out hb); have HE3 := aM (Kd.C_below HE2.out hb); have HB3 := aM (Kd.C_below HB2.out hb); clear HA2 HS2 HE2 HB2; obtain ⟨Ap, cp, rfl, hl, hC⟩ := Kd.R_reads ho; have HLAp := aM hl; have HAp3 := aM hC; clear ho hb hC hl; clear hc0 hc1; obtain ⟨hc0, hc1⟩ := HX0.out w3 HS3.out)) | (go_at_call 66; go_loud ((with_reducible refine (spec_RankTexts.calls k2 x A c en B d ws kk p false _ HE3.out HC.out HB3.out HD.out E2.out).mono ?_); rintro e w4 ⟨v4, rfl, ho, hb⟩; have HA4 := aM (below_step HA3.out hb); have HS4 := aM (below_step HS3.out hb); have HE4 := aM (Kd.C_below HE3.out hb); have HB4 := aM (Kd.C_below HB3.out hb); have HAp4 := aM (Kd.C_below HAp3.out hb); clear HA3 HS3 HE3 HB3 HAp3; obtain ⟨As, cs, rfl, hl, hC⟩ := Kd.R_reads ho; have HLAs := aM hl; have HAs4 := aM hC; clear ho hb hC hl; clear hc0 hc1; obtain ⟨hc0, hc1⟩ := HX0.out w4 HS4.out)) | (go_at_call 64; go_loud ((with_reducible refine (impl_RankingsFor.calls k3 x A c en B d ws q _ _ HE4.out HC.out HB4.out HD.out E3.out).mono ?_); rintro e w5 ⟨v5, rfl, ho, hb⟩; have HA5 := aM (below_step HA4.out hb); have HS5 := aM (below_step HS4.out hb); have HE5 := aM (Kd.C_below HE4.out hb); have HB5 := aM (Kd.C_below HB4.out hb); have HAp5 := aM (Kd.C_below HAp4.out hb); have HAs5 := aM (Kd.C_below HAs4.out hb); clear HA4 HS4 HE4 HB4 HAp4 HAs4; obtain ⟨Aq, cq, rfl, hl, hC⟩ := Kd.S_reads ho; have HLAq := aM hl; have HAq5 := aM hC; clear ho hb hC hl; clear hc0 hc1; obtain ⟨hc0, hc1⟩ := HX0.out w5 HS5.out)) | (go_at_call 63; go_loud ((with_reducible refine (spec_RankingsFor.calls k4 x A c en B d ws q _ _ HE5.out HC.out HB5.out HD.out E4.out).mono ?_); rintro e w6 ⟨v6, rfl, ho, hb⟩; have HA6 := aM (below_step HA5.out hb); have HS6 := aM (below_step HS5.out hb); have HE6 := aM (Kd.C_below HE5.out hb); have HB6 := aM (Kd.C_below HB5.out hb); have HAp6 := aM (Kd.C_below HAp5.out hb); have HAs6 := aM (Kd.C_below HAs5.out hb); have HAq6 := aM (Kd.C_below HAq5.out hb); clear HA5 HS5 HE5 HB5 HAp5 HAs5 HAq5; obtain ⟨At, ct, rfl, hl, hC⟩ := Kd.S_reads ho; have HLAt := aM hl; have HAt6 := aM hC; clear ho hb hC hl; clear hc0 hc1; obtain ⟨hc0, hc1⟩ := HX0.out w6 HS6.out)) | (go_at_call 57; go_loud ((with_reducible refine (laws_sameScored.calls kss Ap cp p As cs p true _ HAp6.out HLAp.out HAs6.out HLAs.out ESS.out).mono ?_); rintro e w7 ⟨rfl, hd⟩; have HA7 := aM (below_step HA6.out hd.below); have HS7 := aM (below_step HS6.out hd.below); have HE7 := aM (Kd.C_below HE6.out hd.below); have HB7 := aM (Kd.C_below HB6.out hd.below); have HAp7 := aM (Kd.C_below HAp6.out hd.below); have HAq7 := aM (Kd.C_below HAq6.out hd.below); have HAt7 := aM (Kd.C_below HAt6.out hd.below); clear HA6 HS6 HE6 HB6 HAp6 HAq6 HAt6; clear hd HAs6; clear hc0 hc1; obtain ⟨hc0, hc1⟩ := HX0.out w7 HS7.out)))
   clear hc0 hc1
   go_wp2
   go_loopg [82] q.length (fun kq v82 w' => ∃ (i : Nat), v82 = .int .i64 (i : Int) ∧ i ≤ q.length ∧ kq = q.length - i ∧ Aside0 (Below w.heap.size w w') ∧ Aside0 (Below W2.heap.size W2 w') ∧ Aside0 (Kd.C k102 w' A en.length en) ∧ Aside0 (Kd.C Kd.string w' B ws.length ws) ∧ Aside0 (Kd.C k79 w' Ap p.length p) ∧ Aside0 (Kd.C k77 w' Aq q.length q) ∧ Aside0 (Kd.C k77 w' At q.length q))
   case atStart => exact ⟨0, rfl, Nat.zero_le _, rfl, HA7, HS7, HE7, HB7, HAp7, HAq7, HAt7⟩
   case round =>
    clear HA7 HS7 HE7 HB7 HAp7 HAq7 HAt7
    obtain ⟨i, rfl, hi, hkq, HA, HS, HE, HB, HAp, HAq, HAt⟩ := hrel
    have HKQ := aM hkq
    clear hkq
    by_cases hlt : i < q.length
    ·obtain ⟨ad, Ar, cr, ead, hcell, hcr, hCr⟩ := at_T77 HAq.out (i : Int) (by omega) (by omega)
     obtain ⟨at_, Au, cu, eat, hcell2, hcu, hCu⟩ := at_T77 HAt.out (i : Int) (by omega) (by omega)
     subst ead
     subst eat
     have HLT := aM hlt
     have hrd : rd_T77 q (i : Int) = q[i]'HLT.out := RankP.rd_atR q i hlt
     rw [Int.toNat_natCast, hrd] at hcell hcell2
     rw [hrd] at hCr hCu hcr hcu
     obtain ⟨r, hrr⟩ : ∃ r, r = (q[i]'HLT.out).f0 := ⟨_, rfl⟩
     rw [← hrr] at hcell hCr hcell2 hCu hcr hcu
     obtain ⟨ks2, hks2⟩ := (Rke.same_ev r (by have := HQ60.out _ (List.getElem_mem hlt); rw [← hrr] at this; omega)).ex
     have ES2 := aM hks2
     have HCR := aM hCr
     have HCU := aM hCu
     have HLR := aM hcr
     have HLU := aM hcu
     have HLT1 := aM (cell_lt hcell)
     have HLT2 := aM (cell_lt hcell2)
     have hlt2 : (i : Int) < (q.length : Int) := by omega
     have hcd : wr.drew.cell? (ad.add i) = some (.slice Ar r.length cr) := hcell
     have hcd2 : wr.drew.cell? (at_.add i) = some (.slice Au r.length cu) := hcell2
     clear hrd hrr hks2 hlt hi hcr hCr hcu hCu
     go_upto_region 13 with (fail)
     refine start_ (n := 12) (S := fun w' => w'.cell? (ad.add i) = some (.slice Ar r.length cr) ∧ w'.cell? (at_.add i) = some (.slice Au r.length cu)) (ds := []) (bq 12 0) (by kernel_rfl) rfl (by kernel_rfl) ⟨hcd, hcd2⟩ (fun hHeld => ?_)
     refine pX 12 1 0 85 ?_
     refine pX 12 3 1 86 ?_
     refine pX 12 7 2 87 ?_
     refine pX 12 15 3 88 ?_
     refine pX 12 47 5 90 ?_
     refine pX 12 111 6 91 ?_
     refine pX 12 239 7 92 ?_
     refine pX 12 495 8 93 ?_
     refine sX2 12 511 4 89 hHeld ?_
     refine sX2 12 1023 9 94 hHeld ?_
     refine one_ (i := 10) (N := some 95) (bq 12 2047) rfl rfl (by kernel_rfl) (by decide) (fun K hK => ?_)
     refine gA Try.func57 #[.slice Ar r.length cr, .slice Au r.length cu] ?_
     with_reducible refine (laws_sameScored.calls ks2 Ar cr r Au cu r true _ (Kd.C_drew HCR.out) HLR.out (Kd.C_drew HCU.out) HLU.out ES2.out).mono ?_
     rintro e w8 ⟨rfl, hd⟩
     refine ⟨_, rfl, ?_⟩
     have HA8 := aM (below_step HA.out.drew hd.below)
     have HS8 := aM (below_step HS.out.drew hd.below)
     have HE8 := aM (Kd.C_below (Kd.C_drew HE.out) hd.below)
     have HB8 := aM (Kd.C_below (Kd.C_drew HB.out) hd.below)
     have HAp8 := aM (Kd.C_below (Kd.C_drew HAp.out) hd.below)
     have HAq8 := aM (Kd.C_below (Kd.C_drew HAq.out) hd.below)
     have HAt8 := aM (Kd.C_below (Kd.C_drew HAt.out) hd.below)
     have hq1_ := (hd.below.cell (HLT1.out)).trans hcd
     have hq2_ := (hd.below.cell (HLT2.out)).trans hcd2
     clear hd
     refine hK.out _ _ ⟨hq1_, hq2_⟩ (fun hHeld => ?_)
     clear hK K
     refine nM 95 ?_
     refine pX 12 4095 11 96 ?_
     refine done_ (by kernel_rfl) ?_
     clear hcd hcd2 hcell hcell2 hq1_ hq2_
     go_wp2
     go_roundg (q.length - (i + 1))
     case measure => have := HKQ.out; have := HLT.out; omega
     case rel => exact ⟨i + 1, by go_num, HLT.out, rfl, HA8, HS8, HE8, HB8, HAp8, HAq8, HAt8⟩
    ·obtain rfl : i = q.length := by omega
     clear hi hlt HKQ HAt
     have hb1 : ((p.length : Int) == 0) = true := by rw [HPN.out]; rfl
     go_wp2
     go_ret
     exact ⟨rfl, HA.out⟩
end Go.Proofs.Ytaomjndfjmfelaa.LwRd
end

section
namespace Go.Proofs.Ytaomjndfjmfelaa.PQ
open Go.RowKit Go.Proofs.YtaomjndfjmfelaaW.PrintWords Go.Proofs.YtaomjndfjmfelaaW.PrintLast Go.Proofs.YtaomjndfjmfelaaW.PrintMore
attribute [local go_sem] max2_int min2_int max_two min_two max_three min_three max_four min_four
set_option linter.unusedVariables false
set_option linter.unusedSimpArgs false
def laws_FnRanked.Pure : Prop := True
theorem laws_FnRanked.walk (P : laws_FnRanked.Pure) (a0 : Option Addr) (c0 : Nat) (l0 : List Int) (w : World) (hr0 : Kd.C (Kd.int .u8) w a0 l0.length l0) (hc0 : l0.length ≤ c0) (w0 : l0.length ≤ maxLen ∧ ∀ x_ ∈ l0, (Lit.int .u8 x_).wf = true) :
  Calls Try.prog 14 #[.slice a0 l0.length c0] w fun e w' => e = .returned (.bool true) ∧ Below w.heap.size w w' :=
 LwRd.calls a0 c0 l0 w hr0 hc0 (Cur.bytes_wf w0.2)

end Go.Proofs.Ytaomjndfjmfelaa.PQ
end

section
namespace Go.Proofs.Ytaomjndfjmfelaa.Pure
open Go.Proofs.Ytaomjndfjmfelaa.PQ
theorem FnRanked : laws_FnRanked.Pure := trivial
end Go.Proofs.Ytaomjndfjmfelaa.Pure
end

/- The least text above all that begin with one: the reference's function and the program's function. No conditions. -/
import Derived.Test.YtilgcfhnpnokpaaBytes
import Derived.Test.YtilgcfhnpnokpaaPQx0
import Derived.Test.YtilgcfhnpnokpaaProg
namespace Go.Proofs.Ytilgcfhnpnokpaa.Abv
set_option linter.unusedVariables false
set_option linter.unusedSimpArgs false
open Go.RowKit Go.Proofs.Ytilgcfhnpnokpaa.PQ Go.Proofs.YtilgcfhnpnokpaaW.PrintWords Go.Proofs.YtilgcfhnpnokpaaW.PrintLast Go.Proofs.YtilgcfhnpnokpaaW.PrintMore Go.Proofs.Ytilgcfhnpnokpaa.Pre

/-- How many bytes stand ahead of the bytes 255 at the end. -/
def strip (s : ByteArray) : Nat → Nat
  | 0 => 0
  | n + 1 => if bt s (n : Int) = 255 then strip s n else n + 1
theorem strip_le (s : ByteArray) : ∀ n, strip s n ≤ n
  | 0 => by simp [strip]
  | n + 1 => by
    have := strip_le s n
    unfold strip
    split <;> omega
theorem strip_last (s : ByteArray) : ∀ n, 0 < strip s n → bt s ((strip s n : Int) - 1) ≠ 255
  | 0, h => by simp [strip] at h
  | n + 1, h => by
    unfold strip at h ⊢
    split
    · rename_i he
      rw [if_pos he] at h
      exact strip_last s n h
    · rename_i he
      rw [show ((n + 1 : Nat) : Int) - 1 = (n : Int) by omega]
      exact he
/-- The text, of so many bytes. -/
def abvS (s : ByteArray) (n : Nat) : ByteArray := if n = 0 then ⟨#[]⟩ else s.extract 0 (n - 1) ++ strOfNums [bt s ((n : Int) - 1) + 1]


/-- A row of bytes that a conversion laid, with its mark behind it. -/
def BRow (w : World) (g : Nat) (C : Array Value) : Prop := w.heap[g]? = some (.cells C 5 (C.size, C.size + 1))
theorem BRow.cell {w : World} {g : Nat} {C : Array Value} (h : BRow w g C) (j : Nat) : w.cell? ⟨g, j, none⟩ = C[j]? := by
  unfold World.cell?
  rw [show w.heap[(⟨g, j, none⟩ : Addr).block]? = _ from h]
  rfl
theorem BRow.free {w : World} {g : Nat} {C : Array Value} (h : BRow w g C) (j : Nat) (hj : j < C.size) : w.frozen? ⟨g, j, none⟩ = false := by
  unfold World.frozen?
  rw [show w.heap[(⟨g, j, none⟩ : Addr).block]? = _ from h]
  show (decide (C.size ≤ j) && decide (j < C.size + 1)) = false
  rw [decide_eq_false (by omega)]
  rfl
theorem bytesRow_bt (s : ByteArray) (cap j : Nat) (hj : j < s.size) : (bytesRow s cap)[j]? = some (.int .u8 (bt s (j : Int))) := by
  have h : j < s.data.size := hj
  rw [bytesRow_at s cap j h]
  congr 2
  have h2 := Byt.bytesOf_get s j hj
  rw [← h2]
  simp [bytesOf]
theorem byte_get (t : ByteArray) (j : Nat) (hj : j < t.data.toList.length) : (t.data.toList[j].toNat : Int) = (bytesOf t)[j]'(by rw [bytesOf_length]; exact hj) := by
  simp [bytesOf]
/-- The text of the row, once the last byte has been made one more. -/
theorem cut_text (s : ByteArray) (cap n : Nat) (w : World) (g : Nat) (x : Int) (hx : 0 ≤ x ∧ x < 256) (h : BRow w g (bytesRow s cap)) (hns : n < s.size) :
    Sem.run Try.prog (convert 56 9 (Value.slice (some ⟨g, 0, none⟩) (n + 1) cap)) (w.setCell ⟨g, n, none⟩ (.int .u8 x))
      = .ok (.string (s.extract 0 n ++ strOfNums [x])) (w.setCell ⟨g, n, none⟩ (.int .u8 x)) := by
  have hlen : (strOfNums [x]).size = 1 := by
    show (strOfNums [x]).data.size = 1
    rw [← Array.length_toList, strOfNums_data]
    rfl
  have hz : (s.extract 0 n ++ strOfNums [x]).data.toList.length = n + 1 := by
    show (s.extract 0 n ++ strOfNums [x]).size = n + 1
    rw [ByteArray.size_append, ByteArray.size_extract, hlen]
    omega
  have e := run_convert_bytes_back (P := Try.prog) (w.setCell ⟨g, n, none⟩ (.int .u8 x)) 56 9 5 ⟨g, 0, none⟩ cap (s.extract 0 n ++ strOfNums [x]).data.toList Try.underlying56 Try.underlying5 Try.underlying9 ?_
  · rw [hz] at e
    exact e
  · intro j hj
    rw [hz] at hj
    have hB : bytesOf (s.extract 0 n ++ strOfNums [x]) = (bytesOf s).take n ++ [x] := by
      rw [Byt.app_bytes, Byt.bytesOf_take, Byt.bytesOf_strOf _ (by simpa using hx)]
    have hget : ((s.extract 0 n ++ strOfNums [x]).data.toList[j].toNat : Int) = ((bytesOf s).take n ++ [x])[j]'(by simp [bytesOf_length]; omega) := by
      rw [byte_get]
      exact List.getElem_of_eq hB _
    have ha : (⟨g, 0, none⟩ : Addr).add j = ⟨g, j, none⟩ := by
      unfold Addr.add
      split <;> simp_all
    rw [ha, hget]
    rcases Nat.lt_or_ge j n with hlt | hge
    · rw [World.cell?_setCell_other _ _ _ _ (by intro e; have := congrArg Addr.off e; simp at this; omega), h.cell j, bytesRow_bt s cap j (by omega)]
      congr 2
      rw [List.getElem_append_left (by simp [bytesOf_length]; omega), List.getElem_take, Byt.bytesOf_get s j (by omega)]
    · obtain rfl : j = n := by omega
      have hc := h.cell j
      rw [bytesRow_bt s cap j (by omega)] at hc
      rw [World.cell?_setCell_same _ _ _ hc]
      congr 2
      rw [List.getElem_append_right (by simp [bytesOf_length]; omega)]
      simp
theorem strip_eq (s : ByteArray) (n : Nat) (h : bt s (n : Int) = 255) : strip s (n + 1) = strip s n := by
  show (if bt s (n : Int) = 255 then strip s n else n + 1) = strip s n
  rw [if_pos h]
theorem strip_ne (s : ByteArray) (n : Nat) (h : bt s (n : Int) ≠ 255) : strip s (n + 1) = n + 1 := by
  show (if bt s (n : Int) = 255 then strip s n else n + 1) = n + 1
  rw [if_neg h]
theorem abv_succ (s : ByteArray) (n : Nat) : abvS s (n + 1) = s.extract 0 n ++ strOfNums [bt s (n : Int) + 1] := by
  unfold abvS
  rw [if_neg (by omega), show n + 1 - 1 = n by omega, show ((n + 1 : Nat) : Int) - 1 = (n : Int) by omega]
theorem abv_zero (s : ByteArray) : abvS s 0 = ⟨#[]⟩ := rfl

set_option maxHeartbeats 1000000 in
set_option maxRecDepth 100000 in
theorem impl_calls (s : ByteArray) (w : World) (hs : s.size ≤ 1048576) :
    Calls Try.prog 57 #[.string s] w fun e w' => e = .returned (.tuple #[.string (abvS s (strip s s.size)), .bool (decide (strip s s.size ≠ 0))]) ∧ Below w.heap.size w w' := by
  have HS := Aside0.mk hs
  have hcv := fun w => run_bytes_of_string (P := Try.prog) w 9 56 5 s rfl rfl rfl
  go_enter Try.func57, Try.ntmps57
  go_wp2
  clear hcv
  have hge := grownCap_ge w s.size 0 5
  generalize grownCap w s.size 0 5 = cap at *
  obtain ⟨W0, hW0⟩ : ∃ W0, W0 = (w.alloc (.cells (bytesRow s cap) 5 ((bytesRow s cap).size, (bytesRow s cap).size + 1))).drew := ⟨_, rfl⟩
  have HG : Aside0 (BRow W0 w.heap.size (bytesRow s cap)) := ⟨by
    rw [hW0]
    show (w.heap.push _)[w.heap.size]? = _
    simp⟩
  have HZ : Aside0 ((bytesRow s cap).size = cap) := ⟨by
    unfold bytesRow
    have : s.data.size = s.size := rfl
    simp [this]
    omega⟩
  have HB : Aside0 (Below w.heap.size w W0) := ⟨by rw [hW0]; exact (below_alloc (Below.refl _ _) _).drew⟩
  rw [← hW0]
  clear hW0
  go_loopg [5] s.size (fun kq v5 w' => ∃ n : Nat, v5 = .int .i64 (n : Int) ∧ n ≤ s.size ∧ kq = n ∧ Aside0 (strip s s.size = strip s n) ∧ w' = W0)
  case atStart => exact ⟨s.size, rfl, by omega, rfl, ⟨rfl⟩, rfl⟩
  case round =>
    obtain ⟨n, rfl, hn, rfl, HT, rfl⟩ := hrel
    cases gk with
    | zero =>
      go_wp2
      go_ret2
      exact ⟨by rw [HT.out]; rfl, HB.out⟩
    | succ n =>
      have hc := HG.out.cell n
      rw [bytesRow_bt s cap n (by omega)] at hc
      have hp : ((n + 1 : Nat) : Int) - 1 = (n : Int) := by omega
      have hq : (0 < ((n + 1 : Nat) : Int)) := by omega
      by_cases h255 : bt s (n : Int) = 255
      · rw [h255] at hc
        go_wp2
        go_roundg n
        case measure => omega
        case rel => exact ⟨n, rfl, by omega, rfl, ⟨by rw [HT.out, strip_eq s n h255]⟩, rfl⟩
      · have hf := HG.out.free n (by rw [HZ.out]; omega)
        have hT : strip s s.size = n + 1 := by
          rw [HT.out, strip_ne s n h255]
        clear HT
        have h255b : (bt s (n : Int) == 255) = false := beq_eq_false_iff_ne.mpr h255
        have hr := bt_range s (n : Int)
        have hw : (bt s (n : Int) + 1) % 256 = bt s (n : Int) + 1 := by omega
        have hcv : Sem.run Try.prog (convert 56 9 (Value.slice (some ⟨w.heap.size, 0, none⟩) (n + 1) cap)) (wr.setCell ⟨w.heap.size, n, none⟩ (.int .u8 (bt s (n : Int) + 1)))
            = .ok (.string (s.extract 0 n ++ strOfNums [bt s (n : Int) + 1])) (wr.setCell ⟨w.heap.size, n, none⟩ (.int .u8 (bt s (n : Int) + 1))) :=
          cut_text s cap n wr w.heap.size (bt s (n : Int) + 1) (by omega) HG.out (by omega)
        have hle : ((n + 1 : Nat) : Int) ≤ (s.size : Int) := by omega
        have hz : (((n : Int) + 1) == 0) = false := beq_eq_false_iff_ne.mpr (by omega)
        clear hr
        go_wp2
        go_ret2
        refine ⟨by rw [hT, abv_succ]; rfl, HB.out.setCell (Nat.le_refl _) _⟩
end Go.Proofs.Ytilgcfhnpnokpaa.Abv

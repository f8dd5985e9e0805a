/- Several texts in one: what the claim's last text rests on. No conditions. -/
section
namespace Go.Proofs.Ytcngebfcpobnnaa.DisC
set_option linter.unusedVariables false
theorem sandwich : ∀ (p : List UInt8) {a b c : List UInt8}, a < b → b < c → p <+: a → p <+: c → p <+: b
 | [], _, _, _, _, _, _, _ => List.nil_prefix
 | x :: p, a, b, c, h1, h2, ha, hc => by
  cases a with
  | nil => simp at ha
  | cons a0 a =>
   cases c with
   | nil => simp at hc
   | cons c0 c =>
    rw [List.cons_prefix_cons] at ha hc
    obtain ⟨rfl, ha⟩ := ha
    obtain ⟨rfl, hc⟩ := hc
    cases b with
    | nil => exact absurd h1 (List.not_lt_nil _)
    | cons b0 b =>
     rw [List.cons_lt_cons_iff] at h1 h2
     rw [List.cons_prefix_cons]
     rcases h1 with h1 | ⟨rfl, h1⟩
     ·
      rcases h2 with h2 | ⟨rfl, h2⟩
      ·
       exact absurd (UInt8.lt_trans h1 h2) (UInt8.lt_irrefl _)
      ·
       exact absurd h1 (UInt8.lt_irrefl _)
     ·
      rcases h2 with h2 | ⟨_, h2⟩
      ·
       exact absurd h2 (UInt8.lt_irrefl _)
      ·
       exact ⟨rfl, sandwich p h1 h2 ha hc⟩

end Go.Proofs.Ytcngebfcpobnnaa.DisC
end

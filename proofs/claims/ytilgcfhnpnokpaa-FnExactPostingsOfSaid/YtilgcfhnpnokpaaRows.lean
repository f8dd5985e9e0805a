/-
  No cell of these rows narrows 'for every input' (looked for: loops, veiled, ifaces, maps, wideKeys, modest, calm, conditions, laid).
  DERIVED. THE GIVEN ROWS OF THIS SEAT. 12 by the template 'for every input the law returns true; each argument reads behind the call as it read before'; 0 by the template 'total and deterministic' (their statements: YtilgcfhnpnokpaaTotals.lean).
  GIVEN WITH THE SEED: the statements are not yours to turn. If you find one false, say at which input.
  Laid BY PROGRAM, IN A SANDBOX (cutbox-rows.mjs): the forced cells as the released guide's own fill.sh prints them over the translation 5fa85a57fe88a64b… (all of the seat's roots in one cut). By AI agents, Wed Nov 11 2026. No macro, syntax, notation, axiom, sorry.
-/
import Derived.Test.YtilgcfhnpnokpaaChecked
import GoSem.Claim
import GoSem.ClaimJoined
import GoSem.ClaimMapViews
import Derived.JoinedTies
import Derived.KernelRfl
namespace Go.Proofs.Ytilgcfhnpnokpaa
/- THE CELL 'sum', in the pinned program and in every row, IS THE sha256 OF THE DUMP (.gsa) THAT YtilgcfhnpnokpaaProg.lean LOADS. Nothing in Lean hashes anything: it is a label: what it is worth is what the hold of that sum in a sandbox is worth. -/
noncomputable def Try.pinned : Pinned := { name := "ytilgcfhnpnokpaa", sum := "5fa85a57fe88a64b36132457419fbd7e8b38cef692a2512738f75f4dc17c6b2a", checked := Try.checked }
namespace Rows
def none {H : Type} : Left H := { results := [], args := [] }

/-- 'laws.FnExactConstants': WHATEVER THE INPUT: true; the input reads as it did. -/
def fnExactConstantsSpec : ChangeSpec := { name := "fnExactConstants", fn := fun _ => fun
  | [] => { results := [.lit (.bool true)], args := [] }
  | _ => none }
def fnExactConstantsRow : OpenClaim := { program := "ytilgcfhnpnokpaa", sum := "5fa85a57fe88a64b36132457419fbd7e8b38cef692a2512738f75f4dc17c6b2a", func := "loop.example/g00274/laws.FnExactConstants", spec := "fnExactConstants", apart := false }
def FnExactConstantsSaid : Prop := fnExactConstantsRow.holds Try.pinned (OpenSpec.ofChange fnExactConstantsSpec)

/-- ITS FALSE NEIGHBOUR: 'it returns false'. Refute it at one input. -/
def fnExactConstantsWrong : ChangeSpec := { name := "fnExactConstants", fn := fun _ => fun
  | [] => { results := [.lit (.bool false)], args := [] }
  | _ => none }
def FnExactConstantsWrongFalsely : Prop := fnExactConstantsRow.holds Try.pinned (OpenSpec.ofChange fnExactConstantsWrong)

/-- 'laws.FnExactWeightOf': WHATEVER THE INPUT: true; the input reads as it did. -/
def fnExactWeightOfSpec : ChangeSpec := { name := "fnExactWeightOf", fn := fun _ => fun
  | [d] => { results := [.lit (.bool true)], args := [d] }
  | _ => none }
def fnExactWeightOfRow : OpenClaim := { program := "ytilgcfhnpnokpaa", sum := "5fa85a57fe88a64b36132457419fbd7e8b38cef692a2512738f75f4dc17c6b2a", func := "loop.example/g00274/laws.FnExactWeightOf", spec := "fnExactWeightOf", apart := false }
def FnExactWeightOfSaid : Prop := fnExactWeightOfRow.holds Try.pinned (OpenSpec.ofChange fnExactWeightOfSpec)

/-- ITS FALSE NEIGHBOUR: 'it returns false'. Refute it at one input. -/
def fnExactWeightOfWrong : ChangeSpec := { name := "fnExactWeightOf", fn := fun _ => fun
  | [d] => { results := [.lit (.bool false)], args := [d] }
  | _ => none }
def FnExactWeightOfWrongFalsely : Prop := fnExactWeightOfRow.holds Try.pinned (OpenSpec.ofChange fnExactWeightOfWrong)

/-- 'laws.FnExactAboveKey': WHATEVER THE INPUT: true; the input reads as it did. -/
def fnExactAboveKeySpec : ChangeSpec := { name := "fnExactAboveKey", fn := fun _ => fun
  | [d] => { results := [.lit (.bool true)], args := [d] }
  | _ => none }
def fnExactAboveKeyRow : OpenClaim := { program := "ytilgcfhnpnokpaa", sum := "5fa85a57fe88a64b36132457419fbd7e8b38cef692a2512738f75f4dc17c6b2a", func := "loop.example/g00274/laws.FnExactAboveKey", spec := "fnExactAboveKey", apart := false }
def FnExactAboveKeySaid : Prop := fnExactAboveKeyRow.holds Try.pinned (OpenSpec.ofChange fnExactAboveKeySpec)

/-- ITS FALSE NEIGHBOUR: 'it returns false'. Refute it at one input. -/
def fnExactAboveKeyWrong : ChangeSpec := { name := "fnExactAboveKey", fn := fun _ => fun
  | [d] => { results := [.lit (.bool false)], args := [d] }
  | _ => none }
def FnExactAboveKeyWrongFalsely : Prop := fnExactAboveKeyRow.holds Try.pinned (OpenSpec.ofChange fnExactAboveKeyWrong)

/-- 'laws.FnExactPackPostings': WHATEVER THE INPUT: true; the input reads as it did. -/
def fnExactPackPostingsSpec : ChangeSpec := { name := "fnExactPackPostings", fn := fun _ => fun
  | [d] => { results := [.lit (.bool true)], args := [d] }
  | _ => none }
def fnExactPackPostingsRow : OpenClaim := { program := "ytilgcfhnpnokpaa", sum := "5fa85a57fe88a64b36132457419fbd7e8b38cef692a2512738f75f4dc17c6b2a", func := "loop.example/g00274/laws.FnExactPackPostings", spec := "fnExactPackPostings", apart := false }
def FnExactPackPostingsSaid : Prop := fnExactPackPostingsRow.holds Try.pinned (OpenSpec.ofChange fnExactPackPostingsSpec)

/-- ITS FALSE NEIGHBOUR: 'it returns false'. Refute it at one input. -/
def fnExactPackPostingsWrong : ChangeSpec := { name := "fnExactPackPostings", fn := fun _ => fun
  | [d] => { results := [.lit (.bool false)], args := [d] }
  | _ => none }
def FnExactPackPostingsWrongFalsely : Prop := fnExactPackPostingsRow.holds Try.pinned (OpenSpec.ofChange fnExactPackPostingsWrong)

/-- 'laws.FnExactWordsIn': WHATEVER THE INPUT: true; the input reads as it did. -/
def fnExactWordsInSpec : ChangeSpec := { name := "fnExactWordsIn", fn := fun _ => fun
  | [d] => { results := [.lit (.bool true)], args := [d] }
  | _ => none }
def fnExactWordsInRow : OpenClaim := { program := "ytilgcfhnpnokpaa", sum := "5fa85a57fe88a64b36132457419fbd7e8b38cef692a2512738f75f4dc17c6b2a", func := "loop.example/g00274/laws.FnExactWordsIn", spec := "fnExactWordsIn", unfollowed := true, recurses := true, apart := false }
def FnExactWordsInSaid : Prop := fnExactWordsInRow.holds Try.pinned (OpenSpec.ofChange fnExactWordsInSpec)

/-- ITS FALSE NEIGHBOUR: 'it returns false'. Refute it at one input. -/
def fnExactWordsInWrong : ChangeSpec := { name := "fnExactWordsIn", fn := fun _ => fun
  | [d] => { results := [.lit (.bool false)], args := [d] }
  | _ => none }
def FnExactWordsInWrongFalsely : Prop := fnExactWordsInRow.holds Try.pinned (OpenSpec.ofChange fnExactWordsInWrong)

/-- 'laws.FnExactNumberOf': WHATEVER THE INPUT: true; the input reads as it did. -/
def fnExactNumberOfSpec : ChangeSpec := { name := "fnExactNumberOf", fn := fun _ => fun
  | [d] => { results := [.lit (.bool true)], args := [d] }
  | _ => none }
def fnExactNumberOfRow : OpenClaim := { program := "ytilgcfhnpnokpaa", sum := "5fa85a57fe88a64b36132457419fbd7e8b38cef692a2512738f75f4dc17c6b2a", func := "loop.example/g00274/laws.FnExactNumberOf", spec := "fnExactNumberOf", recurses := true, apart := false }
def FnExactNumberOfSaid : Prop := fnExactNumberOfRow.holds Try.pinned (OpenSpec.ofChange fnExactNumberOfSpec)

/-- ITS FALSE NEIGHBOUR: 'it returns false'. Refute it at one input. -/
def fnExactNumberOfWrong : ChangeSpec := { name := "fnExactNumberOf", fn := fun _ => fun
  | [d] => { results := [.lit (.bool false)], args := [d] }
  | _ => none }
def FnExactNumberOfWrongFalsely : Prop := fnExactNumberOfRow.holds Try.pinned (OpenSpec.ofChange fnExactNumberOfWrong)

/-- 'laws.FnExactUnpackPostings': WHATEVER THE INPUT: true; the input reads as it did. -/
def fnExactUnpackPostingsSpec : ChangeSpec := { name := "fnExactUnpackPostings", fn := fun _ => fun
  | [d] => { results := [.lit (.bool true)], args := [d] }
  | _ => none }
def fnExactUnpackPostingsRow : OpenClaim := { program := "ytilgcfhnpnokpaa", sum := "5fa85a57fe88a64b36132457419fbd7e8b38cef692a2512738f75f4dc17c6b2a", func := "loop.example/g00274/laws.FnExactUnpackPostings", spec := "fnExactUnpackPostings", apart := false }
def FnExactUnpackPostingsSaid : Prop := fnExactUnpackPostingsRow.holds Try.pinned (OpenSpec.ofChange fnExactUnpackPostingsSpec)

/-- ITS FALSE NEIGHBOUR: 'it returns false'. Refute it at one input. -/
def fnExactUnpackPostingsWrong : ChangeSpec := { name := "fnExactUnpackPostings", fn := fun _ => fun
  | [d] => { results := [.lit (.bool false)], args := [d] }
  | _ => none }
def FnExactUnpackPostingsWrongFalsely : Prop := fnExactUnpackPostingsRow.holds Try.pinned (OpenSpec.ofChange fnExactUnpackPostingsWrong)

/-- 'laws.FnExactGoodRankings': WHATEVER THE INPUT: true; the input reads as it did. -/
def fnExactGoodRankingsSpec : ChangeSpec := { name := "fnExactGoodRankings", fn := fun _ => fun
  | [d] => { results := [.lit (.bool true)], args := [d] }
  | _ => none }
def fnExactGoodRankingsRow : OpenClaim := { program := "ytilgcfhnpnokpaa", sum := "5fa85a57fe88a64b36132457419fbd7e8b38cef692a2512738f75f4dc17c6b2a", func := "loop.example/g00274/laws.FnExactGoodRankings", spec := "fnExactGoodRankings", unfollowed := true, recurses := true, apart := false }
def FnExactGoodRankingsSaid : Prop := fnExactGoodRankingsRow.holds Try.pinned (OpenSpec.ofChange fnExactGoodRankingsSpec)

/-- ITS FALSE NEIGHBOUR: 'it returns false'. Refute it at one input. -/
def fnExactGoodRankingsWrong : ChangeSpec := { name := "fnExactGoodRankings", fn := fun _ => fun
  | [d] => { results := [.lit (.bool false)], args := [d] }
  | _ => none }
def FnExactGoodRankingsWrongFalsely : Prop := fnExactGoodRankingsRow.holds Try.pinned (OpenSpec.ofChange fnExactGoodRankingsWrong)

/-- 'laws.FnPacked': WHATEVER THE INPUT: true; the input reads as it did. -/
def fnPackedSpec : ChangeSpec := { name := "fnPacked", fn := fun _ => fun
  | [d1, d2] => { results := [.lit (.bool true)], args := [d1, d2] }
  | _ => none }
def fnPackedRow : OpenClaim := { program := "ytilgcfhnpnokpaa", sum := "5fa85a57fe88a64b36132457419fbd7e8b38cef692a2512738f75f4dc17c6b2a", func := "loop.example/g00274/laws.FnPacked", spec := "fnPacked", apart := false }
def FnPackedSaid : Prop := fnPackedRow.holds Try.pinned (OpenSpec.ofChange fnPackedSpec)

/-- ITS FALSE NEIGHBOUR: 'it returns false'. Refute it at one input. -/
def fnPackedWrong : ChangeSpec := { name := "fnPacked", fn := fun _ => fun
  | [d1, d2] => { results := [.lit (.bool false)], args := [d1, d2] }
  | _ => none }
def FnPackedWrongFalsely : Prop := fnPackedRow.holds Try.pinned (OpenSpec.ofChange fnPackedWrong)

/-- 'laws.FnExactGoodWords': WHATEVER THE INPUT: true; the input reads as it did. -/
def fnExactGoodWordsSpec : ChangeSpec := { name := "fnExactGoodWords", fn := fun _ => fun
  | [d] => { results := [.lit (.bool true)], args := [d] }
  | _ => none }
def fnExactGoodWordsRow : OpenClaim := { program := "ytilgcfhnpnokpaa", sum := "5fa85a57fe88a64b36132457419fbd7e8b38cef692a2512738f75f4dc17c6b2a", func := "loop.example/g00274/laws.FnExactGoodWords", spec := "fnExactGoodWords", apart := false }
def FnExactGoodWordsSaid : Prop := fnExactGoodWordsRow.holds Try.pinned (OpenSpec.ofChange fnExactGoodWordsSpec)

/-- ITS FALSE NEIGHBOUR: 'it returns false'. Refute it at one input. -/
def fnExactGoodWordsWrong : ChangeSpec := { name := "fnExactGoodWords", fn := fun _ => fun
  | [d] => { results := [.lit (.bool false)], args := [d] }
  | _ => none }
def FnExactGoodWordsWrongFalsely : Prop := fnExactGoodWordsRow.holds Try.pinned (OpenSpec.ofChange fnExactGoodWordsWrong)

/-- 'laws.FnExactSumOf': WHATEVER THE INPUT: true; the input reads as it did. -/
def fnExactSumOfSpec : ChangeSpec := { name := "fnExactSumOf", fn := fun _ => fun
  | [d1, d2] => { results := [.lit (.bool true)], args := [d1, d2] }
  | _ => none }
def fnExactSumOfRow : OpenClaim := { program := "ytilgcfhnpnokpaa", sum := "5fa85a57fe88a64b36132457419fbd7e8b38cef692a2512738f75f4dc17c6b2a", func := "loop.example/g00274/laws.FnExactSumOf", spec := "fnExactSumOf", unfollowed := true, recurses := true, apart := false }
def FnExactSumOfSaid : Prop := fnExactSumOfRow.holds Try.pinned (OpenSpec.ofChange fnExactSumOfSpec)

/-- ITS FALSE NEIGHBOUR: 'it returns false'. Refute it at one input. -/
def fnExactSumOfWrong : ChangeSpec := { name := "fnExactSumOf", fn := fun _ => fun
  | [d1, d2] => { results := [.lit (.bool false)], args := [d1, d2] }
  | _ => none }
def FnExactSumOfWrongFalsely : Prop := fnExactSumOfRow.holds Try.pinned (OpenSpec.ofChange fnExactSumOfWrong)

/-- 'laws.FnExactPostingsOf': WHATEVER THE INPUT: true; the input reads as it did. -/
def fnExactPostingsOfSpec : ChangeSpec := { name := "fnExactPostingsOf", fn := fun _ => fun
  | [d1, d2] => { results := [.lit (.bool true)], args := [d1, d2] }
  | _ => none }
def fnExactPostingsOfRow : OpenClaim := { program := "ytilgcfhnpnokpaa", sum := "5fa85a57fe88a64b36132457419fbd7e8b38cef692a2512738f75f4dc17c6b2a", func := "loop.example/g00274/laws.FnExactPostingsOf", spec := "fnExactPostingsOf", unfollowed := true, recurses := true, apart := false }
def FnExactPostingsOfSaid : Prop := fnExactPostingsOfRow.holds Try.pinned (OpenSpec.ofChange fnExactPostingsOfSpec)

/-- ITS FALSE NEIGHBOUR: 'it returns false'. Refute it at one input. -/
def fnExactPostingsOfWrong : ChangeSpec := { name := "fnExactPostingsOf", fn := fun _ => fun
  | [d1, d2] => { results := [.lit (.bool false)], args := [d1, d2] }
  | _ => none }
def FnExactPostingsOfWrongFalsely : Prop := fnExactPostingsOfRow.holds Try.pinned (OpenSpec.ofChange fnExactPostingsOfWrong)

/- THE SECOND FORM. 'bulk': how many values and letters a reading holds, each counted each time it is reached (what is shared counts as often as it is met; a slice's spare places count too). A statement '..UptoSaid' is the law's where the arguments, and the package variables that the reading takes, are together of bulk at most 1048576: NARROWER than '..Said'. Prove '..Said' where nothing that the law and all that it calls make is longer than what came in: it says more and counts as full. Else prove '..UptoSaid'. A law counts once. -/
mutual
def uptoBulk {H : Type} : DataW H → Nat
  | .lit (.string bytes) => bytes.length + 1
  | .lit _ => 1
  | .nil => 1
  | .ptr d => uptoBulk d + 1
  | .slice elems spare => uptoBulkAll elems + uptoBulkAll spare + 1
  | .agg parts => uptoBulkAll parts + 1
  | .iface _ d => uptoBulk d + 1
  | .map entries => uptoBulkEntries entries + 1
  | .held _ => 1
def uptoBulkAll {H : Type} : List (DataW H) → Nat
  | [] => 0
  | d :: r => uptoBulk d + uptoBulkAll r
def uptoBulkEntries {H : Type} : List (Lit × DataW H) → Nat
  | [] => 0
  | x :: r => uptoBulkEntry x + uptoBulkEntries r
def uptoBulkEntry {H : Type} : Lit × DataW H → Nat
  | (.string bytes, d) => bytes.length + uptoBulk d + 1
  | (_, d) => uptoBulk d + 1
 end
def uptoSmall : (H : Type) → List (DataW H) → Bool := fun _ ds => decide (uptoBulkAll ds ≤ 1048576)
def OpenSpec.upto (s : _root_.Go.ChangeSpec) : _root_.Go.OpenSpec := { _root_.Go.OpenSpec.ofChange s with cond := some uptoSmall }

/-- 'laws.FnExactConstants', WHERE WHAT IT READS IS OF BULK AT MOST 1048576: true; the input reads as it did. -/
def fnExactConstantsUptoRow : OpenClaim := { program := "ytilgcfhnpnokpaa", sum := "5fa85a57fe88a64b36132457419fbd7e8b38cef692a2512738f75f4dc17c6b2a", func := "loop.example/g00274/laws.FnExactConstants", spec := "fnExactConstants", apart := false, narrowed := true }
def FnExactConstantsUptoSaid : Prop := fnExactConstantsUptoRow.holds Try.pinned (OpenSpec.upto fnExactConstantsSpec)

/-- 'laws.FnExactWeightOf', WHERE WHAT IT READS IS OF BULK AT MOST 1048576: true; the input reads as it did. -/
def fnExactWeightOfUptoRow : OpenClaim := { program := "ytilgcfhnpnokpaa", sum := "5fa85a57fe88a64b36132457419fbd7e8b38cef692a2512738f75f4dc17c6b2a", func := "loop.example/g00274/laws.FnExactWeightOf", spec := "fnExactWeightOf", apart := false, narrowed := true }
def FnExactWeightOfUptoSaid : Prop := fnExactWeightOfUptoRow.holds Try.pinned (OpenSpec.upto fnExactWeightOfSpec)

/-- 'laws.FnExactAboveKey', WHERE WHAT IT READS IS OF BULK AT MOST 1048576: true; the input reads as it did. -/
def fnExactAboveKeyUptoRow : OpenClaim := { program := "ytilgcfhnpnokpaa", sum := "5fa85a57fe88a64b36132457419fbd7e8b38cef692a2512738f75f4dc17c6b2a", func := "loop.example/g00274/laws.FnExactAboveKey", spec := "fnExactAboveKey", apart := false, narrowed := true }
def FnExactAboveKeyUptoSaid : Prop := fnExactAboveKeyUptoRow.holds Try.pinned (OpenSpec.upto fnExactAboveKeySpec)

/-- 'laws.FnExactPackPostings', WHERE WHAT IT READS IS OF BULK AT MOST 1048576: true; the input reads as it did. -/
def fnExactPackPostingsUptoRow : OpenClaim := { program := "ytilgcfhnpnokpaa", sum := "5fa85a57fe88a64b36132457419fbd7e8b38cef692a2512738f75f4dc17c6b2a", func := "loop.example/g00274/laws.FnExactPackPostings", spec := "fnExactPackPostings", apart := false, narrowed := true }
def FnExactPackPostingsUptoSaid : Prop := fnExactPackPostingsUptoRow.holds Try.pinned (OpenSpec.upto fnExactPackPostingsSpec)

/-- 'laws.FnExactWordsIn', WHERE WHAT IT READS IS OF BULK AT MOST 1048576: true; the input reads as it did. -/
def fnExactWordsInUptoRow : OpenClaim := { program := "ytilgcfhnpnokpaa", sum := "5fa85a57fe88a64b36132457419fbd7e8b38cef692a2512738f75f4dc17c6b2a", func := "loop.example/g00274/laws.FnExactWordsIn", spec := "fnExactWordsIn", unfollowed := true, recurses := true, apart := false, narrowed := true }
def FnExactWordsInUptoSaid : Prop := fnExactWordsInUptoRow.holds Try.pinned (OpenSpec.upto fnExactWordsInSpec)

/-- 'laws.FnExactNumberOf', WHERE WHAT IT READS IS OF BULK AT MOST 1048576: true; the input reads as it did. -/
def fnExactNumberOfUptoRow : OpenClaim := { program := "ytilgcfhnpnokpaa", sum := "5fa85a57fe88a64b36132457419fbd7e8b38cef692a2512738f75f4dc17c6b2a", func := "loop.example/g00274/laws.FnExactNumberOf", spec := "fnExactNumberOf", recurses := true, apart := false, narrowed := true }
def FnExactNumberOfUptoSaid : Prop := fnExactNumberOfUptoRow.holds Try.pinned (OpenSpec.upto fnExactNumberOfSpec)

/-- 'laws.FnExactUnpackPostings', WHERE WHAT IT READS IS OF BULK AT MOST 1048576: true; the input reads as it did. -/
def fnExactUnpackPostingsUptoRow : OpenClaim := { program := "ytilgcfhnpnokpaa", sum := "5fa85a57fe88a64b36132457419fbd7e8b38cef692a2512738f75f4dc17c6b2a", func := "loop.example/g00274/laws.FnExactUnpackPostings", spec := "fnExactUnpackPostings", apart := false, narrowed := true }
def FnExactUnpackPostingsUptoSaid : Prop := fnExactUnpackPostingsUptoRow.holds Try.pinned (OpenSpec.upto fnExactUnpackPostingsSpec)

/-- 'laws.FnExactGoodRankings', WHERE WHAT IT READS IS OF BULK AT MOST 1048576: true; the input reads as it did. -/
def fnExactGoodRankingsUptoRow : OpenClaim := { program := "ytilgcfhnpnokpaa", sum := "5fa85a57fe88a64b36132457419fbd7e8b38cef692a2512738f75f4dc17c6b2a", func := "loop.example/g00274/laws.FnExactGoodRankings", spec := "fnExactGoodRankings", unfollowed := true, recurses := true, apart := false, narrowed := true }
def FnExactGoodRankingsUptoSaid : Prop := fnExactGoodRankingsUptoRow.holds Try.pinned (OpenSpec.upto fnExactGoodRankingsSpec)

/-- 'laws.FnPacked', WHERE WHAT IT READS IS OF BULK AT MOST 1048576: true; the input reads as it did. -/
def fnPackedUptoRow : OpenClaim := { program := "ytilgcfhnpnokpaa", sum := "5fa85a57fe88a64b36132457419fbd7e8b38cef692a2512738f75f4dc17c6b2a", func := "loop.example/g00274/laws.FnPacked", spec := "fnPacked", apart := false, narrowed := true }
def FnPackedUptoSaid : Prop := fnPackedUptoRow.holds Try.pinned (OpenSpec.upto fnPackedSpec)

/-- 'laws.FnExactGoodWords', WHERE WHAT IT READS IS OF BULK AT MOST 1048576: true; the input reads as it did. -/
def fnExactGoodWordsUptoRow : OpenClaim := { program := "ytilgcfhnpnokpaa", sum := "5fa85a57fe88a64b36132457419fbd7e8b38cef692a2512738f75f4dc17c6b2a", func := "loop.example/g00274/laws.FnExactGoodWords", spec := "fnExactGoodWords", apart := false, narrowed := true }
def FnExactGoodWordsUptoSaid : Prop := fnExactGoodWordsUptoRow.holds Try.pinned (OpenSpec.upto fnExactGoodWordsSpec)

/-- 'laws.FnExactSumOf', WHERE WHAT IT READS IS OF BULK AT MOST 1048576: true; the input reads as it did. -/
def fnExactSumOfUptoRow : OpenClaim := { program := "ytilgcfhnpnokpaa", sum := "5fa85a57fe88a64b36132457419fbd7e8b38cef692a2512738f75f4dc17c6b2a", func := "loop.example/g00274/laws.FnExactSumOf", spec := "fnExactSumOf", unfollowed := true, recurses := true, apart := false, narrowed := true }
def FnExactSumOfUptoSaid : Prop := fnExactSumOfUptoRow.holds Try.pinned (OpenSpec.upto fnExactSumOfSpec)

/-- 'laws.FnExactPostingsOf', WHERE WHAT IT READS IS OF BULK AT MOST 1048576: true; the input reads as it did. -/
def fnExactPostingsOfUptoRow : OpenClaim := { program := "ytilgcfhnpnokpaa", sum := "5fa85a57fe88a64b36132457419fbd7e8b38cef692a2512738f75f4dc17c6b2a", func := "loop.example/g00274/laws.FnExactPostingsOf", spec := "fnExactPostingsOf", unfollowed := true, recurses := true, apart := false, narrowed := true }
def FnExactPostingsOfUptoSaid : Prop := fnExactPostingsOfUptoRow.holds Try.pinned (OpenSpec.upto fnExactPostingsOfSpec)

end Rows
end Go.Proofs.Ytilgcfhnpnokpaa

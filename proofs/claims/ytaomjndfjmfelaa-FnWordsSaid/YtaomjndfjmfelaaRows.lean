/-
  No cell of these rows narrows 'for every input' (looked for: loops, veiled, ifaces, maps, wideKeys, modest, calm, conditions, laid).
  DERIVED. THE GIVEN ROWS OF THIS SEAT. 12 by the template 'for every input the law returns true; each argument reads behind the call as it read before'; 0 by the template 'total and deterministic' (their statements: YtaomjndfjmfelaaTotals.lean).
  GIVEN WITH THE SEED: the statements are not yours to turn. If you find one false, say at which input.
  Laid BY PROGRAM, IN A SANDBOX (cutbox-rows.mjs): the forced cells as the released guide's own fill.sh prints them over the translation 648038c1377345e4… (all of the seat's roots in one cut). By AI agents, Wed Nov 11 2026. No macro, syntax, notation, axiom, sorry.
-/
import Derived.Test.YtaomjndfjmfelaaChecked
import GoSem.Claim
import GoSem.ClaimJoined
import GoSem.ClaimMapViews
import Derived.JoinedTies
import Derived.KernelRfl
namespace Go.Proofs.Ytaomjndfjmfelaa
/- THE CELL 'sum', in the pinned program and in every row, IS THE sha256 OF THE DUMP (.gsa) THAT YtaomjndfjmfelaaProg.lean LOADS. Nothing in Lean hashes anything: it is a label: what it is worth is what the hold of that sum in a sandbox is worth. -/
noncomputable def Try.pinned : Pinned := { name := "ytaomjndfjmfelaa", sum := "648038c1377345e41d3bdacaa76ff0729387c479eb333b6b4411c685a1ce93b1", checked := Try.checked }
namespace Rows
def none {H : Type} : Left H := { results := [], args := [] }

/-- 'laws.FnExactWithAll': WHATEVER THE INPUT: true; the input reads as it did. -/
def fnExactWithAllSpec : ChangeSpec := { name := "fnExactWithAll", fn := fun _ => fun
  | [d1, d2] => { results := [.lit (.bool true)], args := [d1, d2] }
  | _ => none }
def fnExactWithAllRow : OpenClaim := { program := "ytaomjndfjmfelaa", sum := "648038c1377345e41d3bdacaa76ff0729387c479eb333b6b4411c685a1ce93b1", func := "loop.example/g00274/laws.FnExactWithAll", spec := "fnExactWithAll", unfollowed := true, recurses := true, apart := false }
def FnExactWithAllSaid : Prop := fnExactWithAllRow.holds Try.pinned (OpenSpec.ofChange fnExactWithAllSpec)

/-- ITS FALSE NEIGHBOUR: 'it returns false'. Refute it at one input. -/
def fnExactWithAllWrong : ChangeSpec := { name := "fnExactWithAll", fn := fun _ => fun
  | [d1, d2] => { results := [.lit (.bool false)], args := [d1, d2] }
  | _ => none }
def FnExactWithAllWrongFalsely : Prop := fnExactWithAllRow.holds Try.pinned (OpenSpec.ofChange fnExactWithAllWrong)

/-- 'laws.FnExactWithAny': WHATEVER THE INPUT: true; the input reads as it did. -/
def fnExactWithAnySpec : ChangeSpec := { name := "fnExactWithAny", fn := fun _ => fun
  | [d1, d2] => { results := [.lit (.bool true)], args := [d1, d2] }
  | _ => none }
def fnExactWithAnyRow : OpenClaim := { program := "ytaomjndfjmfelaa", sum := "648038c1377345e41d3bdacaa76ff0729387c479eb333b6b4411c685a1ce93b1", func := "loop.example/g00274/laws.FnExactWithAny", spec := "fnExactWithAny", unfollowed := true, recurses := true, apart := false }
def FnExactWithAnySaid : Prop := fnExactWithAnyRow.holds Try.pinned (OpenSpec.ofChange fnExactWithAnySpec)

/-- ITS FALSE NEIGHBOUR: 'it returns false'. Refute it at one input. -/
def fnExactWithAnyWrong : ChangeSpec := { name := "fnExactWithAny", fn := fun _ => fun
  | [d1, d2] => { results := [.lit (.bool false)], args := [d1, d2] }
  | _ => none }
def FnExactWithAnyWrongFalsely : Prop := fnExactWithAnyRow.holds Try.pinned (OpenSpec.ofChange fnExactWithAnyWrong)

/-- 'laws.FnExactWithout': WHATEVER THE INPUT: true; the input reads as it did. -/
def fnExactWithoutSpec : ChangeSpec := { name := "fnExactWithout", fn := fun _ => fun
  | [d1, d2] => { results := [.lit (.bool true)], args := [d1, d2] }
  | _ => none }
def fnExactWithoutRow : OpenClaim := { program := "ytaomjndfjmfelaa", sum := "648038c1377345e41d3bdacaa76ff0729387c479eb333b6b4411c685a1ce93b1", func := "loop.example/g00274/laws.FnExactWithout", spec := "fnExactWithout", unfollowed := true, recurses := true, apart := false }
def FnExactWithoutSaid : Prop := fnExactWithoutRow.holds Try.pinned (OpenSpec.ofChange fnExactWithoutSpec)

/-- ITS FALSE NEIGHBOUR: 'it returns false'. Refute it at one input. -/
def fnExactWithoutWrong : ChangeSpec := { name := "fnExactWithout", fn := fun _ => fun
  | [d1, d2] => { results := [.lit (.bool false)], args := [d1, d2] }
  | _ => none }
def FnExactWithoutWrongFalsely : Prop := fnExactWithoutRow.holds Try.pinned (OpenSpec.ofChange fnExactWithoutWrong)

/-- 'laws.FnExactIndexOf': WHATEVER THE INPUT: true; the input reads as it did. -/
def fnExactIndexOfSpec : ChangeSpec := { name := "fnExactIndexOf", fn := fun _ => fun
  | [d] => { results := [.lit (.bool true)], args := [d] }
  | _ => none }
def fnExactIndexOfRow : OpenClaim := { program := "ytaomjndfjmfelaa", sum := "648038c1377345e41d3bdacaa76ff0729387c479eb333b6b4411c685a1ce93b1", func := "loop.example/g00274/laws.FnExactIndexOf", spec := "fnExactIndexOf", inPlace := ["slices.overlaps[loop.example/g00274/impl.Entry]"], unfollowed := true, recurses := true, apart := false }
def FnExactIndexOfSaid : Prop := fnExactIndexOfRow.holds Try.pinned (OpenSpec.ofChange fnExactIndexOfSpec)

/-- ITS FALSE NEIGHBOUR: 'it returns false'. Refute it at one input. -/
def fnExactIndexOfWrong : ChangeSpec := { name := "fnExactIndexOf", fn := fun _ => fun
  | [d] => { results := [.lit (.bool false)], args := [d] }
  | _ => none }
def FnExactIndexOfWrongFalsely : Prop := fnExactIndexOfRow.holds Try.pinned (OpenSpec.ofChange fnExactIndexOfWrong)

/-- 'laws.FnWords': WHATEVER THE INPUT: true; the input reads as it did. -/
def fnWordsSpec : ChangeSpec := { name := "fnWords", fn := fun _ => fun
  | [d1, d2] => { results := [.lit (.bool true)], args := [d1, d2] }
  | _ => none }
def fnWordsRow : OpenClaim := { program := "ytaomjndfjmfelaa", sum := "648038c1377345e41d3bdacaa76ff0729387c479eb333b6b4411c685a1ce93b1", func := "loop.example/g00274/laws.FnWords", spec := "fnWords", inPlace := ["slices.overlaps[loop.example/g00274/impl.Entry]"], unfollowed := true, recurses := true, apart := false }
def FnWordsSaid : Prop := fnWordsRow.holds Try.pinned (OpenSpec.ofChange fnWordsSpec)

/-- ITS FALSE NEIGHBOUR: 'it returns false'. Refute it at one input. -/
def fnWordsWrong : ChangeSpec := { name := "fnWords", fn := fun _ => fun
  | [d1, d2] => { results := [.lit (.bool false)], args := [d1, d2] }
  | _ => none }
def FnWordsWrongFalsely : Prop := fnWordsRow.holds Try.pinned (OpenSpec.ofChange fnWordsWrong)

/-- 'laws.FnExactAllBest': WHATEVER THE INPUT: true; the input reads as it did. -/
def fnExactAllBestSpec : ChangeSpec := { name := "fnExactAllBest", fn := fun _ => fun
  | [d1, d2] => { results := [.lit (.bool true)], args := [d1, d2] }
  | _ => none }
def fnExactAllBestRow : OpenClaim := { program := "ytaomjndfjmfelaa", sum := "648038c1377345e41d3bdacaa76ff0729387c479eb333b6b4411c685a1ce93b1", func := "loop.example/g00274/laws.FnExactAllBest", spec := "fnExactAllBest", unfollowed := true, recurses := true, apart := false }
def FnExactAllBestSaid : Prop := fnExactAllBestRow.holds Try.pinned (OpenSpec.ofChange fnExactAllBestSpec)

/-- ITS FALSE NEIGHBOUR: 'it returns false'. Refute it at one input. -/
def fnExactAllBestWrong : ChangeSpec := { name := "fnExactAllBest", fn := fun _ => fun
  | [d1, d2] => { results := [.lit (.bool false)], args := [d1, d2] }
  | _ => none }
def FnExactAllBestWrongFalsely : Prop := fnExactAllBestRow.holds Try.pinned (OpenSpec.ofChange fnExactAllBestWrong)

/-- 'laws.FnExactTopBest': WHATEVER THE INPUT: true; the input reads as it did. -/
def fnExactTopBestSpec : ChangeSpec := { name := "fnExactTopBest", fn := fun _ => fun
  | [d1, d2] => { results := [.lit (.bool true)], args := [d1, d2] }
  | _ => none }
def fnExactTopBestRow : OpenClaim := { program := "ytaomjndfjmfelaa", sum := "648038c1377345e41d3bdacaa76ff0729387c479eb333b6b4411c685a1ce93b1", func := "loop.example/g00274/laws.FnExactTopBest", spec := "fnExactTopBest", unfollowed := true, recurses := true, apart := false }
def FnExactTopBestSaid : Prop := fnExactTopBestRow.holds Try.pinned (OpenSpec.ofChange fnExactTopBestSpec)

/-- ITS FALSE NEIGHBOUR: 'it returns false'. Refute it at one input. -/
def fnExactTopBestWrong : ChangeSpec := { name := "fnExactTopBest", fn := fun _ => fun
  | [d1, d2] => { results := [.lit (.bool false)], args := [d1, d2] }
  | _ => none }
def FnExactTopBestWrongFalsely : Prop := fnExactTopBestRow.holds Try.pinned (OpenSpec.ofChange fnExactTopBestWrong)

/-- 'laws.FnThreshold': WHATEVER THE INPUT: true; the input reads as it did. -/
def fnThresholdSpec : ChangeSpec := { name := "fnThreshold", fn := fun _ => fun
  | [d1, d2] => { results := [.lit (.bool true)], args := [d1, d2] }
  | _ => none }
def fnThresholdRow : OpenClaim := { program := "ytaomjndfjmfelaa", sum := "648038c1377345e41d3bdacaa76ff0729387c479eb333b6b4411c685a1ce93b1", func := "loop.example/g00274/laws.FnThreshold", spec := "fnThreshold", unfollowed := true, recurses := true, apart := false }
def FnThresholdSaid : Prop := fnThresholdRow.holds Try.pinned (OpenSpec.ofChange fnThresholdSpec)

/-- ITS FALSE NEIGHBOUR: 'it returns false'. Refute it at one input. -/
def fnThresholdWrong : ChangeSpec := { name := "fnThreshold", fn := fun _ => fun
  | [d1, d2] => { results := [.lit (.bool false)], args := [d1, d2] }
  | _ => none }
def FnThresholdWrongFalsely : Prop := fnThresholdRow.holds Try.pinned (OpenSpec.ofChange fnThresholdWrong)

/-- 'laws.FnExactScoreOf': WHATEVER THE INPUT: true; the input reads as it did. -/
def fnExactScoreOfSpec : ChangeSpec := { name := "fnExactScoreOf", fn := fun _ => fun
  | [d1, d2, d3] => { results := [.lit (.bool true)], args := [d1, d2, d3] }
  | _ => none }
def fnExactScoreOfRow : OpenClaim := { program := "ytaomjndfjmfelaa", sum := "648038c1377345e41d3bdacaa76ff0729387c479eb333b6b4411c685a1ce93b1", func := "loop.example/g00274/laws.FnExactScoreOf", spec := "fnExactScoreOf", unfollowed := true, recurses := true, apart := false }
def FnExactScoreOfSaid : Prop := fnExactScoreOfRow.holds Try.pinned (OpenSpec.ofChange fnExactScoreOfSpec)

/-- ITS FALSE NEIGHBOUR: 'it returns false'. Refute it at one input. -/
def fnExactScoreOfWrong : ChangeSpec := { name := "fnExactScoreOf", fn := fun _ => fun
  | [d1, d2, d3] => { results := [.lit (.bool false)], args := [d1, d2, d3] }
  | _ => none }
def FnExactScoreOfWrongFalsely : Prop := fnExactScoreOfRow.holds Try.pinned (OpenSpec.ofChange fnExactScoreOfWrong)

/-- 'laws.FnExactRankingsFor': WHATEVER THE INPUT: true; the input reads as it did. -/
def fnExactRankingsForSpec : ChangeSpec := { name := "fnExactRankingsFor", fn := fun _ => fun
  | [d1, d2] => { results := [.lit (.bool true)], args := [d1, d2] }
  | _ => none }
def fnExactRankingsForRow : OpenClaim := { program := "ytaomjndfjmfelaa", sum := "648038c1377345e41d3bdacaa76ff0729387c479eb333b6b4411c685a1ce93b1", func := "loop.example/g00274/laws.FnExactRankingsFor", spec := "fnExactRankingsFor", unfollowed := true, recurses := true, apart := false }
def FnExactRankingsForSaid : Prop := fnExactRankingsForRow.holds Try.pinned (OpenSpec.ofChange fnExactRankingsForSpec)

/-- ITS FALSE NEIGHBOUR: 'it returns false'. Refute it at one input. -/
def fnExactRankingsForWrong : ChangeSpec := { name := "fnExactRankingsFor", fn := fun _ => fun
  | [d1, d2] => { results := [.lit (.bool false)], args := [d1, d2] }
  | _ => none }
def FnExactRankingsForWrongFalsely : Prop := fnExactRankingsForRow.holds Try.pinned (OpenSpec.ofChange fnExactRankingsForWrong)

/-- 'laws.FnExactRankTexts': WHATEVER THE INPUT: true; the input reads as it did. -/
def fnExactRankTextsSpec : ChangeSpec := { name := "fnExactRankTexts", fn := fun _ => fun
  | [d1, d2, d3] => { results := [.lit (.bool true)], args := [d1, d2, d3] }
  | _ => none }
def fnExactRankTextsRow : OpenClaim := { program := "ytaomjndfjmfelaa", sum := "648038c1377345e41d3bdacaa76ff0729387c479eb333b6b4411c685a1ce93b1", func := "loop.example/g00274/laws.FnExactRankTexts", spec := "fnExactRankTexts", unfollowed := true, recurses := true, apart := false }
def FnExactRankTextsSaid : Prop := fnExactRankTextsRow.holds Try.pinned (OpenSpec.ofChange fnExactRankTextsSpec)

/-- ITS FALSE NEIGHBOUR: 'it returns false'. Refute it at one input. -/
def fnExactRankTextsWrong : ChangeSpec := { name := "fnExactRankTexts", fn := fun _ => fun
  | [d1, d2, d3] => { results := [.lit (.bool false)], args := [d1, d2, d3] }
  | _ => none }
def FnExactRankTextsWrongFalsely : Prop := fnExactRankTextsRow.holds Try.pinned (OpenSpec.ofChange fnExactRankTextsWrong)

/-- 'laws.FnRanked': WHATEVER THE INPUT: true; the input reads as it did. -/
def fnRankedSpec : ChangeSpec := { name := "fnRanked", fn := fun _ => fun
  | [d] => { results := [.lit (.bool true)], args := [d] }
  | _ => none }
def fnRankedRow : OpenClaim := { program := "ytaomjndfjmfelaa", sum := "648038c1377345e41d3bdacaa76ff0729387c479eb333b6b4411c685a1ce93b1", func := "loop.example/g00274/laws.FnRanked", spec := "fnRanked", unfollowed := true, recurses := true, apart := false }
def FnRankedSaid : Prop := fnRankedRow.holds Try.pinned (OpenSpec.ofChange fnRankedSpec)

/-- ITS FALSE NEIGHBOUR: 'it returns false'. Refute it at one input. -/
def fnRankedWrong : ChangeSpec := { name := "fnRanked", fn := fun _ => fun
  | [d] => { results := [.lit (.bool false)], args := [d] }
  | _ => none }
def FnRankedWrongFalsely : Prop := fnRankedRow.holds Try.pinned (OpenSpec.ofChange fnRankedWrong)

/- THE SECOND FORM. 'bulk': how many values and letters a reading holds, each counted each time it is reached (what is shared counts as often as it is met; a slice's spare places count too). A statement '..UptoSaid' is the law's where the arguments, and the package variables that the reading takes, are together of bulk at most 1048576: NARROWER than '..Said'. Prove '..Said' where nothing that the law and all that it calls make is longer than what came in: it says more and counts as full. Else prove '..UptoSaid'. A law counts once. -/
mutual
def uptoBulk {H : Type} : DataW H → Nat
  | .lit (.string bytes) => bytes.length + 1
  | .lit _ => 1
  | .nil => 1
  | .ptr d => uptoBulk d + 1
  | .slice elems spare => uptoBulkAll elems + uptoBulkAll spare + 1
  | .agg parts => uptoBulkAll parts + 1
  | .iface _ d => uptoBulk d + 1
  | .map entries => uptoBulkEntries entries + 1
  | .held _ => 1
def uptoBulkAll {H : Type} : List (DataW H) → Nat
  | [] => 0
  | d :: r => uptoBulk d + uptoBulkAll r
def uptoBulkEntries {H : Type} : List (Lit × DataW H) → Nat
  | [] => 0
  | x :: r => uptoBulkEntry x + uptoBulkEntries r
def uptoBulkEntry {H : Type} : Lit × DataW H → Nat
  | (.string bytes, d) => bytes.length + uptoBulk d + 1
  | (_, d) => uptoBulk d + 1
 end
def uptoSmall : (H : Type) → List (DataW H) → Bool := fun _ ds => decide (uptoBulkAll ds ≤ 1048576)
def OpenSpec.upto (s : _root_.Go.ChangeSpec) : _root_.Go.OpenSpec := { _root_.Go.OpenSpec.ofChange s with cond := some uptoSmall }

/-- 'laws.FnExactWithAll', WHERE WHAT IT READS IS OF BULK AT MOST 1048576: true; the input reads as it did. -/
def fnExactWithAllUptoRow : OpenClaim := { program := "ytaomjndfjmfelaa", sum := "648038c1377345e41d3bdacaa76ff0729387c479eb333b6b4411c685a1ce93b1", func := "loop.example/g00274/laws.FnExactWithAll", spec := "fnExactWithAll", unfollowed := true, recurses := true, apart := false, narrowed := true }
def FnExactWithAllUptoSaid : Prop := fnExactWithAllUptoRow.holds Try.pinned (OpenSpec.upto fnExactWithAllSpec)

/-- 'laws.FnExactWithAny', WHERE WHAT IT READS IS OF BULK AT MOST 1048576: true; the input reads as it did. -/
def fnExactWithAnyUptoRow : OpenClaim := { program := "ytaomjndfjmfelaa", sum := "648038c1377345e41d3bdacaa76ff0729387c479eb333b6b4411c685a1ce93b1", func := "loop.example/g00274/laws.FnExactWithAny", spec := "fnExactWithAny", unfollowed := true, recurses := true, apart := false, narrowed := true }
def FnExactWithAnyUptoSaid : Prop := fnExactWithAnyUptoRow.holds Try.pinned (OpenSpec.upto fnExactWithAnySpec)

/-- 'laws.FnExactWithout', WHERE WHAT IT READS IS OF BULK AT MOST 1048576: true; the input reads as it did. -/
def fnExactWithoutUptoRow : OpenClaim := { program := "ytaomjndfjmfelaa", sum := "648038c1377345e41d3bdacaa76ff0729387c479eb333b6b4411c685a1ce93b1", func := "loop.example/g00274/laws.FnExactWithout", spec := "fnExactWithout", unfollowed := true, recurses := true, apart := false, narrowed := true }
def FnExactWithoutUptoSaid : Prop := fnExactWithoutUptoRow.holds Try.pinned (OpenSpec.upto fnExactWithoutSpec)

/-- 'laws.FnExactIndexOf', WHERE WHAT IT READS IS OF BULK AT MOST 1048576: true; the input reads as it did. -/
def fnExactIndexOfUptoRow : OpenClaim := { program := "ytaomjndfjmfelaa", sum := "648038c1377345e41d3bdacaa76ff0729387c479eb333b6b4411c685a1ce93b1", func := "loop.example/g00274/laws.FnExactIndexOf", spec := "fnExactIndexOf", inPlace := ["slices.overlaps[loop.example/g00274/impl.Entry]"], unfollowed := true, recurses := true, apart := false, narrowed := true }
def FnExactIndexOfUptoSaid : Prop := fnExactIndexOfUptoRow.holds Try.pinned (OpenSpec.upto fnExactIndexOfSpec)

/-- 'laws.FnWords', WHERE WHAT IT READS IS OF BULK AT MOST 1048576: true; the input reads as it did. -/
def fnWordsUptoRow : OpenClaim := { program := "ytaomjndfjmfelaa", sum := "648038c1377345e41d3bdacaa76ff0729387c479eb333b6b4411c685a1ce93b1", func := "loop.example/g00274/laws.FnWords", spec := "fnWords", inPlace := ["slices.overlaps[loop.example/g00274/impl.Entry]"], unfollowed := true, recurses := true, apart := false, narrowed := true }
def FnWordsUptoSaid : Prop := fnWordsUptoRow.holds Try.pinned (OpenSpec.upto fnWordsSpec)

/-- 'laws.FnExactAllBest', WHERE WHAT IT READS IS OF BULK AT MOST 1048576: true; the input reads as it did. -/
def fnExactAllBestUptoRow : OpenClaim := { program := "ytaomjndfjmfelaa", sum := "648038c1377345e41d3bdacaa76ff0729387c479eb333b6b4411c685a1ce93b1", func := "loop.example/g00274/laws.FnExactAllBest", spec := "fnExactAllBest", unfollowed := true, recurses := true, apart := false, narrowed := true }
def FnExactAllBestUptoSaid : Prop := fnExactAllBestUptoRow.holds Try.pinned (OpenSpec.upto fnExactAllBestSpec)

/-- 'laws.FnExactTopBest', WHERE WHAT IT READS IS OF BULK AT MOST 1048576: true; the input reads as it did. -/
def fnExactTopBestUptoRow : OpenClaim := { program := "ytaomjndfjmfelaa", sum := "648038c1377345e41d3bdacaa76ff0729387c479eb333b6b4411c685a1ce93b1", func := "loop.example/g00274/laws.FnExactTopBest", spec := "fnExactTopBest", unfollowed := true, recurses := true, apart := false, narrowed := true }
def FnExactTopBestUptoSaid : Prop := fnExactTopBestUptoRow.holds Try.pinned (OpenSpec.upto fnExactTopBestSpec)

/-- 'laws.FnThreshold', WHERE WHAT IT READS IS OF BULK AT MOST 1048576: true; the input reads as it did. -/
def fnThresholdUptoRow : OpenClaim := { program := "ytaomjndfjmfelaa", sum := "648038c1377345e41d3bdacaa76ff0729387c479eb333b6b4411c685a1ce93b1", func := "loop.example/g00274/laws.FnThreshold", spec := "fnThreshold", unfollowed := true, recurses := true, apart := false, narrowed := true }
def FnThresholdUptoSaid : Prop := fnThresholdUptoRow.holds Try.pinned (OpenSpec.upto fnThresholdSpec)

/-- 'laws.FnExactScoreOf', WHERE WHAT IT READS IS OF BULK AT MOST 1048576: true; the input reads as it did. -/
def fnExactScoreOfUptoRow : OpenClaim := { program := "ytaomjndfjmfelaa", sum := "648038c1377345e41d3bdacaa76ff0729387c479eb333b6b4411c685a1ce93b1", func := "loop.example/g00274/laws.FnExactScoreOf", spec := "fnExactScoreOf", unfollowed := true, recurses := true, apart := false, narrowed := true }
def FnExactScoreOfUptoSaid : Prop := fnExactScoreOfUptoRow.holds Try.pinned (OpenSpec.upto fnExactScoreOfSpec)

/-- 'laws.FnExactRankingsFor', WHERE WHAT IT READS IS OF BULK AT MOST 1048576: true; the input reads as it did. -/
def fnExactRankingsForUptoRow : OpenClaim := { program := "ytaomjndfjmfelaa", sum := "648038c1377345e41d3bdacaa76ff0729387c479eb333b6b4411c685a1ce93b1", func := "loop.example/g00274/laws.FnExactRankingsFor", spec := "fnExactRankingsFor", unfollowed := true, recurses := true, apart := false, narrowed := true }
def FnExactRankingsForUptoSaid : Prop := fnExactRankingsForUptoRow.holds Try.pinned (OpenSpec.upto fnExactRankingsForSpec)

/-- 'laws.FnExactRankTexts', WHERE WHAT IT READS IS OF BULK AT MOST 1048576: true; the input reads as it did. -/
def fnExactRankTextsUptoRow : OpenClaim := { program := "ytaomjndfjmfelaa", sum := "648038c1377345e41d3bdacaa76ff0729387c479eb333b6b4411c685a1ce93b1", func := "loop.example/g00274/laws.FnExactRankTexts", spec := "fnExactRankTexts", unfollowed := true, recurses := true, apart := false, narrowed := true }
def FnExactRankTextsUptoSaid : Prop := fnExactRankTextsUptoRow.holds Try.pinned (OpenSpec.upto fnExactRankTextsSpec)

/-- 'laws.FnRanked', WHERE WHAT IT READS IS OF BULK AT MOST 1048576: true; the input reads as it did. -/
def fnRankedUptoRow : OpenClaim := { program := "ytaomjndfjmfelaa", sum := "648038c1377345e41d3bdacaa76ff0729387c479eb333b6b4411c685a1ce93b1", func := "loop.example/g00274/laws.FnRanked", spec := "fnRanked", unfollowed := true, recurses := true, apart := false, narrowed := true }
def FnRankedUptoSaid : Prop := fnRankedUptoRow.holds Try.pinned (OpenSpec.upto fnRankedSpec)

end Rows
end Go.Proofs.Ytaomjndfjmfelaa

/-
  No cell of these rows narrows 'for every input' (looked for: loops, veiled, ifaces, maps, wideKeys, modest, calm, conditions, laid).
  DERIVED. THE GIVEN ROWS OF THIS SEAT. 11 by the template 'for every input the law returns true; each argument reads behind the call as it read before'; 0 by the template 'total and deterministic' (their statements: YtppmigiknidjhaaTotals.lean).
  GIVEN WITH THE SEED: the statements are not yours to turn. If you find one false, say at which input.
  Laid BY PROGRAM, IN A SANDBOX (cutbox-rows.mjs): the forced cells as the released guide's own fill.sh prints them over the translation 8878d57400b06652… (all of the seat's roots in one cut). By AI agents, Wed Nov 11 2026. No macro, syntax, notation, axiom, sorry.
-/
import Derived.Test.YtppmigiknidjhaaChecked
import GoSem.Claim
import GoSem.ClaimJoined
import GoSem.ClaimMapViews
import Derived.JoinedTies
import Derived.KernelRfl
namespace Go.Proofs.Ytppmigiknidjhaa
/- THE CELL 'sum', in the pinned program and in every row, IS THE sha256 OF THE DUMP (.gsa) THAT YtppmigiknidjhaaProg.lean LOADS. Nothing in Lean hashes anything: it is a label: what it is worth is what the hold of that sum in a sandbox is worth. -/
noncomputable def Try.pinned : Pinned := { name := "ytppmigiknidjhaa", sum := "8878d57400b066527bee97a4fbdef75d77f280a98b9585e273e1687c4114b0c2", checked := Try.checked }
namespace Rows
def none {H : Type} : Left H := { results := [], args := [] }

/-- 'laws.FnExactSuffixesOf': WHATEVER THE INPUT: true; the input reads as it did. -/
def fnExactSuffixesOfSpec : ChangeSpec := { name := "fnExactSuffixesOf", fn := fun _ => fun
  | [d] => { results := [.lit (.bool true)], args := [d] }
  | _ => none }
def fnExactSuffixesOfRow : OpenClaim := { program := "ytppmigiknidjhaa", sum := "8878d57400b066527bee97a4fbdef75d77f280a98b9585e273e1687c4114b0c2", func := "loop.example/g00274/laws.FnExactSuffixesOf", spec := "fnExactSuffixesOf", unfollowed := true, recurses := true, apart := false }
def FnExactSuffixesOfSaid : Prop := fnExactSuffixesOfRow.holds Try.pinned (OpenSpec.ofChange fnExactSuffixesOfSpec)

/-- ITS FALSE NEIGHBOUR: 'it returns false'. Refute it at one input. -/
def fnExactSuffixesOfWrong : ChangeSpec := { name := "fnExactSuffixesOf", fn := fun _ => fun
  | [d] => { results := [.lit (.bool false)], args := [d] }
  | _ => none }
def FnExactSuffixesOfWrongFalsely : Prop := fnExactSuffixesOfRow.holds Try.pinned (OpenSpec.ofChange fnExactSuffixesOfWrong)

/-- 'laws.FnExactDistinctIn': WHATEVER THE INPUT: true; the input reads as it did. -/
def fnExactDistinctInSpec : ChangeSpec := { name := "fnExactDistinctIn", fn := fun _ => fun
  | [d] => { results := [.lit (.bool true)], args := [d] }
  | _ => none }
def fnExactDistinctInRow : OpenClaim := { program := "ytppmigiknidjhaa", sum := "8878d57400b066527bee97a4fbdef75d77f280a98b9585e273e1687c4114b0c2", func := "loop.example/g00274/laws.FnExactDistinctIn", spec := "fnExactDistinctIn", unfollowed := true, recurses := true, apart := false }
def FnExactDistinctInSaid : Prop := fnExactDistinctInRow.holds Try.pinned (OpenSpec.ofChange fnExactDistinctInSpec)

/-- ITS FALSE NEIGHBOUR: 'it returns false'. Refute it at one input. -/
def fnExactDistinctInWrong : ChangeSpec := { name := "fnExactDistinctIn", fn := fun _ => fun
  | [d] => { results := [.lit (.bool false)], args := [d] }
  | _ => none }
def FnExactDistinctInWrongFalsely : Prop := fnExactDistinctInRow.holds Try.pinned (OpenSpec.ofChange fnExactDistinctInWrong)

/-- 'laws.FnExactLongestTwice': WHATEVER THE INPUT: true; the input reads as it did. -/
def fnExactLongestTwiceSpec : ChangeSpec := { name := "fnExactLongestTwice", fn := fun _ => fun
  | [d] => { results := [.lit (.bool true)], args := [d] }
  | _ => none }
def fnExactLongestTwiceRow : OpenClaim := { program := "ytppmigiknidjhaa", sum := "8878d57400b066527bee97a4fbdef75d77f280a98b9585e273e1687c4114b0c2", func := "loop.example/g00274/laws.FnExactLongestTwice", spec := "fnExactLongestTwice", unfollowed := true, recurses := true, apart := false }
def FnExactLongestTwiceSaid : Prop := fnExactLongestTwiceRow.holds Try.pinned (OpenSpec.ofChange fnExactLongestTwiceSpec)

/-- ITS FALSE NEIGHBOUR: 'it returns false'. Refute it at one input. -/
def fnExactLongestTwiceWrong : ChangeSpec := { name := "fnExactLongestTwice", fn := fun _ => fun
  | [d] => { results := [.lit (.bool false)], args := [d] }
  | _ => none }
def FnExactLongestTwiceWrongFalsely : Prop := fnExactLongestTwiceRow.holds Try.pinned (OpenSpec.ofChange fnExactLongestTwiceWrong)

/-- 'laws.FnExactIsSuffixes': WHATEVER THE INPUT: true; the input reads as it did. -/
def fnExactIsSuffixesSpec : ChangeSpec := { name := "fnExactIsSuffixes", fn := fun _ => fun
  | [d1, d2] => { results := [.lit (.bool true)], args := [d1, d2] }
  | _ => none }
def fnExactIsSuffixesRow : OpenClaim := { program := "ytppmigiknidjhaa", sum := "8878d57400b066527bee97a4fbdef75d77f280a98b9585e273e1687c4114b0c2", func := "loop.example/g00274/laws.FnExactIsSuffixes", spec := "fnExactIsSuffixes", unfollowed := true, recurses := true, apart := false }
def FnExactIsSuffixesSaid : Prop := fnExactIsSuffixesRow.holds Try.pinned (OpenSpec.ofChange fnExactIsSuffixesSpec)

/-- ITS FALSE NEIGHBOUR: 'it returns false'. Refute it at one input. -/
def fnExactIsSuffixesWrong : ChangeSpec := { name := "fnExactIsSuffixes", fn := fun _ => fun
  | [d1, d2] => { results := [.lit (.bool false)], args := [d1, d2] }
  | _ => none }
def FnExactIsSuffixesWrongFalsely : Prop := fnExactIsSuffixesRow.holds Try.pinned (OpenSpec.ofChange fnExactIsSuffixesWrong)

/-- 'laws.FnDistinct': WHATEVER THE INPUT: true; the input reads as it did. -/
def fnDistinctSpec : ChangeSpec := { name := "fnDistinct", fn := fun _ => fun
  | [d] => { results := [.lit (.bool true)], args := [d] }
  | _ => none }
def fnDistinctRow : OpenClaim := { program := "ytppmigiknidjhaa", sum := "8878d57400b066527bee97a4fbdef75d77f280a98b9585e273e1687c4114b0c2", func := "loop.example/g00274/laws.FnDistinct", spec := "fnDistinct", unfollowed := true, recurses := true, apart := false }
def FnDistinctSaid : Prop := fnDistinctRow.holds Try.pinned (OpenSpec.ofChange fnDistinctSpec)

/-- ITS FALSE NEIGHBOUR: 'it returns false'. Refute it at one input. -/
def fnDistinctWrong : ChangeSpec := { name := "fnDistinct", fn := fun _ => fun
  | [d] => { results := [.lit (.bool false)], args := [d] }
  | _ => none }
def FnDistinctWrongFalsely : Prop := fnDistinctRow.holds Try.pinned (OpenSpec.ofChange fnDistinctWrong)

/-- 'laws.FnExactRankOf': WHATEVER THE INPUT: true; the input reads as it did. -/
def fnExactRankOfSpec : ChangeSpec := { name := "fnExactRankOf", fn := fun _ => fun
  | [d1, d2, d3] => { results := [.lit (.bool true)], args := [d1, d2, d3] }
  | _ => none }
def fnExactRankOfRow : OpenClaim := { program := "ytppmigiknidjhaa", sum := "8878d57400b066527bee97a4fbdef75d77f280a98b9585e273e1687c4114b0c2", func := "loop.example/g00274/laws.FnExactRankOf", spec := "fnExactRankOf", inPlace := ["internal/bytealg.abigen_runtime_cmpstring"], unfollowed := true, recurses := true, apart := false }
def FnExactRankOfSaid : Prop := fnExactRankOfRow.holds Try.pinned (OpenSpec.ofChange fnExactRankOfSpec)

/-- ITS FALSE NEIGHBOUR: 'it returns false'. Refute it at one input. -/
def fnExactRankOfWrong : ChangeSpec := { name := "fnExactRankOf", fn := fun _ => fun
  | [d1, d2, d3] => { results := [.lit (.bool false)], args := [d1, d2, d3] }
  | _ => none }
def FnExactRankOfWrongFalsely : Prop := fnExactRankOfRow.holds Try.pinned (OpenSpec.ofChange fnExactRankOfWrong)

/-- 'laws.FnExactCommonOf': WHATEVER THE INPUT: true; the input reads as it did. -/
def fnExactCommonOfSpec : ChangeSpec := { name := "fnExactCommonOf", fn := fun _ => fun
  | [d1, d2] => { results := [.lit (.bool true)], args := [d1, d2] }
  | _ => none }
def fnExactCommonOfRow : OpenClaim := { program := "ytppmigiknidjhaa", sum := "8878d57400b066527bee97a4fbdef75d77f280a98b9585e273e1687c4114b0c2", func := "loop.example/g00274/laws.FnExactCommonOf", spec := "fnExactCommonOf", unfollowed := true, recurses := true, apart := false }
def FnExactCommonOfSaid : Prop := fnExactCommonOfRow.holds Try.pinned (OpenSpec.ofChange fnExactCommonOfSpec)

/-- ITS FALSE NEIGHBOUR: 'it returns false'. Refute it at one input. -/
def fnExactCommonOfWrong : ChangeSpec := { name := "fnExactCommonOf", fn := fun _ => fun
  | [d1, d2] => { results := [.lit (.bool false)], args := [d1, d2] }
  | _ => none }
def FnExactCommonOfWrongFalsely : Prop := fnExactCommonOfRow.holds Try.pinned (OpenSpec.ofChange fnExactCommonOfWrong)

/-- 'laws.FnSuffixes': WHATEVER THE INPUT: true; the input reads as it did. -/
def fnSuffixesSpec : ChangeSpec := { name := "fnSuffixes", fn := fun _ => fun
  | [d] => { results := [.lit (.bool true)], args := [d] }
  | _ => none }
def fnSuffixesRow : OpenClaim := { program := "ytppmigiknidjhaa", sum := "8878d57400b066527bee97a4fbdef75d77f280a98b9585e273e1687c4114b0c2", func := "loop.example/g00274/laws.FnSuffixes", spec := "fnSuffixes", unfollowed := true, recurses := true, apart := false }
def FnSuffixesSaid : Prop := fnSuffixesRow.holds Try.pinned (OpenSpec.ofChange fnSuffixesSpec)

/-- ITS FALSE NEIGHBOUR: 'it returns false'. Refute it at one input. -/
def fnSuffixesWrong : ChangeSpec := { name := "fnSuffixes", fn := fun _ => fun
  | [d] => { results := [.lit (.bool false)], args := [d] }
  | _ => none }
def FnSuffixesWrongFalsely : Prop := fnSuffixesRow.holds Try.pinned (OpenSpec.ofChange fnSuffixesWrong)

/-- 'laws.FnDoubled': WHATEVER THE INPUT: true; the input reads as it did. -/
def fnDoubledSpec : ChangeSpec := { name := "fnDoubled", fn := fun _ => fun
  | [d] => { results := [.lit (.bool true)], args := [d] }
  | _ => none }
def fnDoubledRow : OpenClaim := { program := "ytppmigiknidjhaa", sum := "8878d57400b066527bee97a4fbdef75d77f280a98b9585e273e1687c4114b0c2", func := "loop.example/g00274/laws.FnDoubled", spec := "fnDoubled", inPlace := ["internal/bytealg.abigen_runtime_cmpstring"], unfollowed := true, recurses := true, apart := false }
def FnDoubledSaid : Prop := fnDoubledRow.holds Try.pinned (OpenSpec.ofChange fnDoubledSpec)

/-- ITS FALSE NEIGHBOUR: 'it returns false'. Refute it at one input. -/
def fnDoubledWrong : ChangeSpec := { name := "fnDoubled", fn := fun _ => fun
  | [d] => { results := [.lit (.bool false)], args := [d] }
  | _ => none }
def FnDoubledWrongFalsely : Prop := fnDoubledRow.holds Try.pinned (OpenSpec.ofChange fnDoubledWrong)

/-- 'laws.FnExactFindIn': WHATEVER THE INPUT: true; the input reads as it did. -/
def fnExactFindInSpec : ChangeSpec := { name := "fnExactFindIn", fn := fun _ => fun
  | [d1, d2, d3] => { results := [.lit (.bool true)], args := [d1, d2, d3] }
  | _ => none }
def fnExactFindInRow : OpenClaim := { program := "ytppmigiknidjhaa", sum := "8878d57400b066527bee97a4fbdef75d77f280a98b9585e273e1687c4114b0c2", func := "loop.example/g00274/laws.FnExactFindIn", spec := "fnExactFindIn", unfollowed := true, recurses := true, apart := false }
def FnExactFindInSaid : Prop := fnExactFindInRow.holds Try.pinned (OpenSpec.ofChange fnExactFindInSpec)

/-- ITS FALSE NEIGHBOUR: 'it returns false'. Refute it at one input. -/
def fnExactFindInWrong : ChangeSpec := { name := "fnExactFindIn", fn := fun _ => fun
  | [d1, d2, d3] => { results := [.lit (.bool false)], args := [d1, d2, d3] }
  | _ => none }
def FnExactFindInWrongFalsely : Prop := fnExactFindInRow.holds Try.pinned (OpenSpec.ofChange fnExactFindInWrong)

/-- 'laws.FnFound': WHATEVER THE INPUT: true; the input reads as it did. -/
def fnFoundSpec : ChangeSpec := { name := "fnFound", fn := fun _ => fun
  | [d] => { results := [.lit (.bool true)], args := [d] }
  | _ => none }
def fnFoundRow : OpenClaim := { program := "ytppmigiknidjhaa", sum := "8878d57400b066527bee97a4fbdef75d77f280a98b9585e273e1687c4114b0c2", func := "loop.example/g00274/laws.FnFound", spec := "fnFound", unfollowed := true, recurses := true, apart := false }
def FnFoundSaid : Prop := fnFoundRow.holds Try.pinned (OpenSpec.ofChange fnFoundSpec)

/-- ITS FALSE NEIGHBOUR: 'it returns false'. Refute it at one input. -/
def fnFoundWrong : ChangeSpec := { name := "fnFound", fn := fun _ => fun
  | [d] => { results := [.lit (.bool false)], args := [d] }
  | _ => none }
def FnFoundWrongFalsely : Prop := fnFoundRow.holds Try.pinned (OpenSpec.ofChange fnFoundWrong)

/- THE SECOND FORM. 'bulk': how many values and letters a reading holds, each counted each time it is reached (what is shared counts as often as it is met; a slice's spare places count too). A statement '..UptoSaid' is the law's where the arguments, and the package variables that the reading takes, are together of bulk at most 1048576: NARROWER than '..Said'. Prove '..Said' where nothing that the law and all that it calls make is longer than what came in: it says more and counts as full. Else prove '..UptoSaid'. A law counts once. -/
mutual
def uptoBulk {H : Type} : DataW H → Nat
  | .lit (.string bytes) => bytes.length + 1
  | .lit _ => 1
  | .nil => 1
  | .ptr d => uptoBulk d + 1
  | .slice elems spare => uptoBulkAll elems + uptoBulkAll spare + 1
  | .agg parts => uptoBulkAll parts + 1
  | .iface _ d => uptoBulk d + 1
  | .map entries => uptoBulkEntries entries + 1
  | .held _ => 1
def uptoBulkAll {H : Type} : List (DataW H) → Nat
  | [] => 0
  | d :: r => uptoBulk d + uptoBulkAll r
def uptoBulkEntries {H : Type} : List (Lit × DataW H) → Nat
  | [] => 0
  | x :: r => uptoBulkEntry x + uptoBulkEntries r
def uptoBulkEntry {H : Type} : Lit × DataW H → Nat
  | (.string bytes, d) => bytes.length + uptoBulk d + 1
  | (_, d) => uptoBulk d + 1
 end
def uptoSmall : (H : Type) → List (DataW H) → Bool := fun _ ds => decide (uptoBulkAll ds ≤ 1048576)
def OpenSpec.upto (s : _root_.Go.ChangeSpec) : _root_.Go.OpenSpec := { _root_.Go.OpenSpec.ofChange s with cond := some uptoSmall }

/-- 'laws.FnExactSuffixesOf', WHERE WHAT IT READS IS OF BULK AT MOST 1048576: true; the input reads as it did. -/
def fnExactSuffixesOfUptoRow : OpenClaim := { program := "ytppmigiknidjhaa", sum := "8878d57400b066527bee97a4fbdef75d77f280a98b9585e273e1687c4114b0c2", func := "loop.example/g00274/laws.FnExactSuffixesOf", spec := "fnExactSuffixesOf", unfollowed := true, recurses := true, apart := false, narrowed := true }
def FnExactSuffixesOfUptoSaid : Prop := fnExactSuffixesOfUptoRow.holds Try.pinned (OpenSpec.upto fnExactSuffixesOfSpec)

/-- 'laws.FnExactDistinctIn', WHERE WHAT IT READS IS OF BULK AT MOST 1048576: true; the input reads as it did. -/
def fnExactDistinctInUptoRow : OpenClaim := { program := "ytppmigiknidjhaa", sum := "8878d57400b066527bee97a4fbdef75d77f280a98b9585e273e1687c4114b0c2", func := "loop.example/g00274/laws.FnExactDistinctIn", spec := "fnExactDistinctIn", unfollowed := true, recurses := true, apart := false, narrowed := true }
def FnExactDistinctInUptoSaid : Prop := fnExactDistinctInUptoRow.holds Try.pinned (OpenSpec.upto fnExactDistinctInSpec)

/-- 'laws.FnExactLongestTwice', WHERE WHAT IT READS IS OF BULK AT MOST 1048576: true; the input reads as it did. -/
def fnExactLongestTwiceUptoRow : OpenClaim := { program := "ytppmigiknidjhaa", sum := "8878d57400b066527bee97a4fbdef75d77f280a98b9585e273e1687c4114b0c2", func := "loop.example/g00274/laws.FnExactLongestTwice", spec := "fnExactLongestTwice", unfollowed := true, recurses := true, apart := false, narrowed := true }
def FnExactLongestTwiceUptoSaid : Prop := fnExactLongestTwiceUptoRow.holds Try.pinned (OpenSpec.upto fnExactLongestTwiceSpec)

/-- 'laws.FnExactIsSuffixes', WHERE WHAT IT READS IS OF BULK AT MOST 1048576: true; the input reads as it did. -/
def fnExactIsSuffixesUptoRow : OpenClaim := { program := "ytppmigiknidjhaa", sum := "8878d57400b066527bee97a4fbdef75d77f280a98b9585e273e1687c4114b0c2", func := "loop.example/g00274/laws.FnExactIsSuffixes", spec := "fnExactIsSuffixes", unfollowed := true, recurses := true, apart := false, narrowed := true }
def FnExactIsSuffixesUptoSaid : Prop := fnExactIsSuffixesUptoRow.holds Try.pinned (OpenSpec.upto fnExactIsSuffixesSpec)

/-- 'laws.FnDistinct', WHERE WHAT IT READS IS OF BULK AT MOST 1048576: true; the input reads as it did. -/
def fnDistinctUptoRow : OpenClaim := { program := "ytppmigiknidjhaa", sum := "8878d57400b066527bee97a4fbdef75d77f280a98b9585e273e1687c4114b0c2", func := "loop.example/g00274/laws.FnDistinct", spec := "fnDistinct", unfollowed := true, recurses := true, apart := false, narrowed := true }
def FnDistinctUptoSaid : Prop := fnDistinctUptoRow.holds Try.pinned (OpenSpec.upto fnDistinctSpec)

/-- 'laws.FnExactRankOf', WHERE WHAT IT READS IS OF BULK AT MOST 1048576: true; the input reads as it did. -/
def fnExactRankOfUptoRow : OpenClaim := { program := "ytppmigiknidjhaa", sum := "8878d57400b066527bee97a4fbdef75d77f280a98b9585e273e1687c4114b0c2", func := "loop.example/g00274/laws.FnExactRankOf", spec := "fnExactRankOf", inPlace := ["internal/bytealg.abigen_runtime_cmpstring"], unfollowed := true, recurses := true, apart := false, narrowed := true }
def FnExactRankOfUptoSaid : Prop := fnExactRankOfUptoRow.holds Try.pinned (OpenSpec.upto fnExactRankOfSpec)

/-- 'laws.FnExactCommonOf', WHERE WHAT IT READS IS OF BULK AT MOST 1048576: true; the input reads as it did. -/
def fnExactCommonOfUptoRow : OpenClaim := { program := "ytppmigiknidjhaa", sum := "8878d57400b066527bee97a4fbdef75d77f280a98b9585e273e1687c4114b0c2", func := "loop.example/g00274/laws.FnExactCommonOf", spec := "fnExactCommonOf", unfollowed := true, recurses := true, apart := false, narrowed := true }
def FnExactCommonOfUptoSaid : Prop := fnExactCommonOfUptoRow.holds Try.pinned (OpenSpec.upto fnExactCommonOfSpec)

/-- 'laws.FnSuffixes', WHERE WHAT IT READS IS OF BULK AT MOST 1048576: true; the input reads as it did. -/
def fnSuffixesUptoRow : OpenClaim := { program := "ytppmigiknidjhaa", sum := "8878d57400b066527bee97a4fbdef75d77f280a98b9585e273e1687c4114b0c2", func := "loop.example/g00274/laws.FnSuffixes", spec := "fnSuffixes", unfollowed := true, recurses := true, apart := false, narrowed := true }
def FnSuffixesUptoSaid : Prop := fnSuffixesUptoRow.holds Try.pinned (OpenSpec.upto fnSuffixesSpec)

/-- 'laws.FnDoubled', WHERE WHAT IT READS IS OF BULK AT MOST 1048576: true; the input reads as it did. -/
def fnDoubledUptoRow : OpenClaim := { program := "ytppmigiknidjhaa", sum := "8878d57400b066527bee97a4fbdef75d77f280a98b9585e273e1687c4114b0c2", func := "loop.example/g00274/laws.FnDoubled", spec := "fnDoubled", inPlace := ["internal/bytealg.abigen_runtime_cmpstring"], unfollowed := true, recurses := true, apart := false, narrowed := true }
def FnDoubledUptoSaid : Prop := fnDoubledUptoRow.holds Try.pinned (OpenSpec.upto fnDoubledSpec)

/-- 'laws.FnExactFindIn', WHERE WHAT IT READS IS OF BULK AT MOST 1048576: true; the input reads as it did. -/
def fnExactFindInUptoRow : OpenClaim := { program := "ytppmigiknidjhaa", sum := "8878d57400b066527bee97a4fbdef75d77f280a98b9585e273e1687c4114b0c2", func := "loop.example/g00274/laws.FnExactFindIn", spec := "fnExactFindIn", unfollowed := true, recurses := true, apart := false, narrowed := true }
def FnExactFindInUptoSaid : Prop := fnExactFindInUptoRow.holds Try.pinned (OpenSpec.upto fnExactFindInSpec)

/-- 'laws.FnFound', WHERE WHAT IT READS IS OF BULK AT MOST 1048576: true; the input reads as it did. -/
def fnFoundUptoRow : OpenClaim := { program := "ytppmigiknidjhaa", sum := "8878d57400b066527bee97a4fbdef75d77f280a98b9585e273e1687c4114b0c2", func := "loop.example/g00274/laws.FnFound", spec := "fnFound", unfollowed := true, recurses := true, apart := false, narrowed := true }
def FnFoundUptoSaid : Prop := fnFoundUptoRow.holds Try.pinned (OpenSpec.upto fnFoundSpec)

end Rows
end Go.Proofs.Ytppmigiknidjhaa

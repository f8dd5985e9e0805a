/-
  No cell of these rows narrows 'for every input' (looked for: loops, veiled, ifaces, maps, wideKeys, modest, calm, conditions, laid).
  DERIVED. THE GIVEN ROWS OF THIS SEAT. 10 by the template 'for every input the law returns true; each argument reads behind the call as it read before'; 0 by the template 'total and deterministic' (their statements: YtjknkeipginpcaaTotals.lean).
  GIVEN WITH THE SEED: the statements are not yours to turn. If you find one false, say at which input.
  Laid BY PROGRAM, IN A SANDBOX (cutbox-rows.mjs): the forced cells as the released guide's own fill.sh prints them over the translation 5bb5d0d831def2ac… (all of the seat's roots in one cut). By AI agents, Wed Nov 11 2026. No macro, syntax, notation, axiom, sorry.
-/
import Derived.Test.YtjknkeipginpcaaChecked
import GoSem.Claim
import GoSem.ClaimJoined
import GoSem.ClaimMapViews
import Derived.JoinedTies
import Derived.KernelRfl
namespace Go.Proofs.Ytjknkeipginpcaa
/- THE CELL 'sum', in the pinned program and in every row, IS THE sha256 OF THE DUMP (.gsa) THAT YtjknkeipginpcaaProg.lean LOADS. Nothing in Lean hashes anything: it is a label: what it is worth is what the hold of that sum in a sandbox is worth. -/
noncomputable def Try.pinned : Pinned := { name := "ytjknkeipginpcaa", sum := "5bb5d0d831def2acae2aeee15676f0212e205434c90410d1aa230183c117ecad", checked := Try.checked }
namespace Rows
def none {H : Type} : Left H := { results := [], args := [] }

/-- 'laws.FnExactGoodTreap': WHATEVER THE INPUT: true; the input reads as it did. -/
def fnExactGoodTreapSpec : ChangeSpec := { name := "fnExactGoodTreap", fn := fun _ => fun
  | [d] => { results := [.lit (.bool true)], args := [d] }
  | _ => none }
def fnExactGoodTreapRow : OpenClaim := { program := "ytjknkeipginpcaa", sum := "5bb5d0d831def2acae2aeee15676f0212e205434c90410d1aa230183c117ecad", func := "loop.example/g00274/laws.FnExactGoodTreap", spec := "fnExactGoodTreap", recurses := true, apart := false }
def FnExactGoodTreapSaid : Prop := fnExactGoodTreapRow.holds Try.pinned (OpenSpec.ofChange fnExactGoodTreapSpec)

/-- ITS FALSE NEIGHBOUR: 'it returns false'. Refute it at one input. -/
def fnExactGoodTreapWrong : ChangeSpec := { name := "fnExactGoodTreap", fn := fun _ => fun
  | [d] => { results := [.lit (.bool false)], args := [d] }
  | _ => none }
def FnExactGoodTreapWrongFalsely : Prop := fnExactGoodTreapRow.holds Try.pinned (OpenSpec.ofChange fnExactGoodTreapWrong)

/-- 'laws.FnExactGetKey': WHATEVER THE INPUT: true; the input reads as it did. -/
def fnExactGetKeySpec : ChangeSpec := { name := "fnExactGetKey", fn := fun _ => fun
  | [d1, d2] => { results := [.lit (.bool true)], args := [d1, d2] }
  | _ => none }
def fnExactGetKeyRow : OpenClaim := { program := "ytjknkeipginpcaa", sum := "5bb5d0d831def2acae2aeee15676f0212e205434c90410d1aa230183c117ecad", func := "loop.example/g00274/laws.FnExactGetKey", spec := "fnExactGetKey", recurses := true, apart := false }
def FnExactGetKeySaid : Prop := fnExactGetKeyRow.holds Try.pinned (OpenSpec.ofChange fnExactGetKeySpec)

/-- ITS FALSE NEIGHBOUR: 'it returns false'. Refute it at one input. -/
def fnExactGetKeyWrong : ChangeSpec := { name := "fnExactGetKey", fn := fun _ => fun
  | [d1, d2] => { results := [.lit (.bool false)], args := [d1, d2] }
  | _ => none }
def FnExactGetKeyWrongFalsely : Prop := fnExactGetKeyRow.holds Try.pinned (OpenSpec.ofChange fnExactGetKeyWrong)

/-- 'laws.FnExactDeepIn': WHATEVER THE INPUT: true; the input reads as it did. -/
def fnExactDeepInSpec : ChangeSpec := { name := "fnExactDeepIn", fn := fun _ => fun
  | [d] => { results := [.lit (.bool true)], args := [d] }
  | _ => none }
def fnExactDeepInRow : OpenClaim := { program := "ytjknkeipginpcaa", sum := "5bb5d0d831def2acae2aeee15676f0212e205434c90410d1aa230183c117ecad", func := "loop.example/g00274/laws.FnExactDeepIn", spec := "fnExactDeepIn", recurses := true, apart := false }
def FnExactDeepInSaid : Prop := fnExactDeepInRow.holds Try.pinned (OpenSpec.ofChange fnExactDeepInSpec)

/-- ITS FALSE NEIGHBOUR: 'it returns false'. Refute it at one input. -/
def fnExactDeepInWrong : ChangeSpec := { name := "fnExactDeepIn", fn := fun _ => fun
  | [d] => { results := [.lit (.bool false)], args := [d] }
  | _ => none }
def FnExactDeepInWrongFalsely : Prop := fnExactDeepInRow.holds Try.pinned (OpenSpec.ofChange fnExactDeepInWrong)

/-- 'laws.FnExactKeysFrom': WHATEVER THE INPUT: true; the input reads as it did. -/
def fnExactKeysFromSpec : ChangeSpec := { name := "fnExactKeysFrom", fn := fun _ => fun
  | [d1, d2, d3] => { results := [.lit (.bool true)], args := [d1, d2, d3] }
  | _ => none }
def fnExactKeysFromRow : OpenClaim := { program := "ytjknkeipginpcaa", sum := "5bb5d0d831def2acae2aeee15676f0212e205434c90410d1aa230183c117ecad", func := "loop.example/g00274/laws.FnExactKeysFrom", spec := "fnExactKeysFrom", recurses := true, apart := false }
def FnExactKeysFromSaid : Prop := fnExactKeysFromRow.holds Try.pinned (OpenSpec.ofChange fnExactKeysFromSpec)

/-- ITS FALSE NEIGHBOUR: 'it returns false'. Refute it at one input. -/
def fnExactKeysFromWrong : ChangeSpec := { name := "fnExactKeysFrom", fn := fun _ => fun
  | [d1, d2, d3] => { results := [.lit (.bool false)], args := [d1, d2, d3] }
  | _ => none }
def FnExactKeysFromWrongFalsely : Prop := fnExactKeysFromRow.holds Try.pinned (OpenSpec.ofChange fnExactKeysFromWrong)

/-- 'laws.FnExactJoinTreaps': WHATEVER THE INPUT: true; the input reads as it did. -/
def fnExactJoinTreapsSpec : ChangeSpec := { name := "fnExactJoinTreaps", fn := fun _ => fun
  | [d1, d2] => { results := [.lit (.bool true)], args := [d1, d2] }
  | _ => none }
def fnExactJoinTreapsRow : OpenClaim := { program := "ytjknkeipginpcaa", sum := "5bb5d0d831def2acae2aeee15676f0212e205434c90410d1aa230183c117ecad", func := "loop.example/g00274/laws.FnExactJoinTreaps", spec := "fnExactJoinTreaps", recurses := true, apart := false }
def FnExactJoinTreapsSaid : Prop := fnExactJoinTreapsRow.holds Try.pinned (OpenSpec.ofChange fnExactJoinTreapsSpec)

/-- ITS FALSE NEIGHBOUR: 'it returns false'. Refute it at one input. -/
def fnExactJoinTreapsWrong : ChangeSpec := { name := "fnExactJoinTreaps", fn := fun _ => fun
  | [d1, d2] => { results := [.lit (.bool false)], args := [d1, d2] }
  | _ => none }
def FnExactJoinTreapsWrongFalsely : Prop := fnExactJoinTreapsRow.holds Try.pinned (OpenSpec.ofChange fnExactJoinTreapsWrong)

/-- 'laws.FnExactSplitTreap': WHATEVER THE INPUT: true; the input reads as it did. -/
def fnExactSplitTreapSpec : ChangeSpec := { name := "fnExactSplitTreap", fn := fun _ => fun
  | [d1, d2] => { results := [.lit (.bool true)], args := [d1, d2] }
  | _ => none }
def fnExactSplitTreapRow : OpenClaim := { program := "ytjknkeipginpcaa", sum := "5bb5d0d831def2acae2aeee15676f0212e205434c90410d1aa230183c117ecad", func := "loop.example/g00274/laws.FnExactSplitTreap", spec := "fnExactSplitTreap", unfollowed := true, recurses := true, apart := false }
def FnExactSplitTreapSaid : Prop := fnExactSplitTreapRow.holds Try.pinned (OpenSpec.ofChange fnExactSplitTreapSpec)

/-- ITS FALSE NEIGHBOUR: 'it returns false'. Refute it at one input. -/
def fnExactSplitTreapWrong : ChangeSpec := { name := "fnExactSplitTreap", fn := fun _ => fun
  | [d1, d2] => { results := [.lit (.bool false)], args := [d1, d2] }
  | _ => none }
def FnExactSplitTreapWrongFalsely : Prop := fnExactSplitTreapRow.holds Try.pinned (OpenSpec.ofChange fnExactSplitTreapWrong)

/-- 'laws.FnExactCutKey': WHATEVER THE INPUT: true; the input reads as it did. -/
def fnExactCutKeySpec : ChangeSpec := { name := "fnExactCutKey", fn := fun _ => fun
  | [d1, d2] => { results := [.lit (.bool true)], args := [d1, d2] }
  | _ => none }
def fnExactCutKeyRow : OpenClaim := { program := "ytjknkeipginpcaa", sum := "5bb5d0d831def2acae2aeee15676f0212e205434c90410d1aa230183c117ecad", func := "loop.example/g00274/laws.FnExactCutKey", spec := "fnExactCutKey", unfollowed := true, recurses := true, apart := false }
def FnExactCutKeySaid : Prop := fnExactCutKeyRow.holds Try.pinned (OpenSpec.ofChange fnExactCutKeySpec)

/-- ITS FALSE NEIGHBOUR: 'it returns false'. Refute it at one input. -/
def fnExactCutKeyWrong : ChangeSpec := { name := "fnExactCutKey", fn := fun _ => fun
  | [d1, d2] => { results := [.lit (.bool false)], args := [d1, d2] }
  | _ => none }
def FnExactCutKeyWrongFalsely : Prop := fnExactCutKeyRow.holds Try.pinned (OpenSpec.ofChange fnExactCutKeyWrong)

/-- 'laws.FnSplit': WHATEVER THE INPUT: true; the input reads as it did. -/
def fnSplitSpec : ChangeSpec := { name := "fnSplit", fn := fun _ => fun
  | [d1, d2] => { results := [.lit (.bool true)], args := [d1, d2] }
  | _ => none }
def fnSplitRow : OpenClaim := { program := "ytjknkeipginpcaa", sum := "5bb5d0d831def2acae2aeee15676f0212e205434c90410d1aa230183c117ecad", func := "loop.example/g00274/laws.FnSplit", spec := "fnSplit", unfollowed := true, recurses := true, apart := false }
def FnSplitSaid : Prop := fnSplitRow.holds Try.pinned (OpenSpec.ofChange fnSplitSpec)

/-- ITS FALSE NEIGHBOUR: 'it returns false'. Refute it at one input. -/
def fnSplitWrong : ChangeSpec := { name := "fnSplit", fn := fun _ => fun
  | [d1, d2] => { results := [.lit (.bool false)], args := [d1, d2] }
  | _ => none }
def FnSplitWrongFalsely : Prop := fnSplitRow.holds Try.pinned (OpenSpec.ofChange fnSplitWrong)

/-- 'laws.FnExactPutKey': WHATEVER THE INPUT: true; the input reads as it did. -/
def fnExactPutKeySpec : ChangeSpec := { name := "fnExactPutKey", fn := fun _ => fun
  | [d1, d2, d3] => { results := [.lit (.bool true)], args := [d1, d2, d3] }
  | _ => none }
def fnExactPutKeyRow : OpenClaim := { program := "ytjknkeipginpcaa", sum := "5bb5d0d831def2acae2aeee15676f0212e205434c90410d1aa230183c117ecad", func := "loop.example/g00274/laws.FnExactPutKey", spec := "fnExactPutKey", inPlace := ["slices.overlaps[loop.example/g00274/impl.pair]"], unfollowed := true, recurses := true, apart := false }
def FnExactPutKeySaid : Prop := fnExactPutKeyRow.holds Try.pinned (OpenSpec.ofChange fnExactPutKeySpec)

/-- ITS FALSE NEIGHBOUR: 'it returns false'. Refute it at one input. -/
def fnExactPutKeyWrong : ChangeSpec := { name := "fnExactPutKey", fn := fun _ => fun
  | [d1, d2, d3] => { results := [.lit (.bool false)], args := [d1, d2, d3] }
  | _ => none }
def FnExactPutKeyWrongFalsely : Prop := fnExactPutKeyRow.holds Try.pinned (OpenSpec.ofChange fnExactPutKeyWrong)

/-- 'laws.FnShape': WHATEVER THE INPUT: true; the input reads as it did. -/
def fnShapeSpec : ChangeSpec := { name := "fnShape", fn := fun _ => fun
  | [d1, d2] => { results := [.lit (.bool true)], args := [d1, d2] }
  | _ => none }
def fnShapeRow : OpenClaim := { program := "ytjknkeipginpcaa", sum := "5bb5d0d831def2acae2aeee15676f0212e205434c90410d1aa230183c117ecad", func := "loop.example/g00274/laws.FnShape", spec := "fnShape", inPlace := ["slices.overlaps[loop.example/g00274/impl.pair]"], unfollowed := true, recurses := true, apart := false }
def FnShapeSaid : Prop := fnShapeRow.holds Try.pinned (OpenSpec.ofChange fnShapeSpec)

/-- ITS FALSE NEIGHBOUR: 'it returns false'. Refute it at one input. -/
def fnShapeWrong : ChangeSpec := { name := "fnShape", fn := fun _ => fun
  | [d1, d2] => { results := [.lit (.bool false)], args := [d1, d2] }
  | _ => none }
def FnShapeWrongFalsely : Prop := fnShapeRow.holds Try.pinned (OpenSpec.ofChange fnShapeWrong)

/- THE SECOND FORM. 'bulk': how many values and letters a reading holds, each counted each time it is reached (what is shared counts as often as it is met; a slice's spare places count too). A statement '..UptoSaid' is the law's where the arguments, and the package variables that the reading takes, are together of bulk at most 1048576: NARROWER than '..Said'. Prove '..Said' where nothing that the law and all that it calls make is longer than what came in: it says more and counts as full. Else prove '..UptoSaid'. A law counts once. -/
mutual
def uptoBulk {H : Type} : DataW H → Nat
  | .lit (.string bytes) => bytes.length + 1
  | .lit _ => 1
  | .nil => 1
  | .ptr d => uptoBulk d + 1
  | .slice elems spare => uptoBulkAll elems + uptoBulkAll spare + 1
  | .agg parts => uptoBulkAll parts + 1
  | .iface _ d => uptoBulk d + 1
  | .map entries => uptoBulkEntries entries + 1
  | .held _ => 1
def uptoBulkAll {H : Type} : List (DataW H) → Nat
  | [] => 0
  | d :: r => uptoBulk d + uptoBulkAll r
def uptoBulkEntries {H : Type} : List (Lit × DataW H) → Nat
  | [] => 0
  | x :: r => uptoBulkEntry x + uptoBulkEntries r
def uptoBulkEntry {H : Type} : Lit × DataW H → Nat
  | (.string bytes, d) => bytes.length + uptoBulk d + 1
  | (_, d) => uptoBulk d + 1
 end
def uptoSmall : (H : Type) → List (DataW H) → Bool := fun _ ds => decide (uptoBulkAll ds ≤ 1048576)
def OpenSpec.upto (s : _root_.Go.ChangeSpec) : _root_.Go.OpenSpec := { _root_.Go.OpenSpec.ofChange s with cond := some uptoSmall }

/-- 'laws.FnExactGoodTreap', WHERE WHAT IT READS IS OF BULK AT MOST 1048576: true; the input reads as it did. -/
def fnExactGoodTreapUptoRow : OpenClaim := { program := "ytjknkeipginpcaa", sum := "5bb5d0d831def2acae2aeee15676f0212e205434c90410d1aa230183c117ecad", func := "loop.example/g00274/laws.FnExactGoodTreap", spec := "fnExactGoodTreap", recurses := true, apart := false, narrowed := true }
def FnExactGoodTreapUptoSaid : Prop := fnExactGoodTreapUptoRow.holds Try.pinned (OpenSpec.upto fnExactGoodTreapSpec)

/-- 'laws.FnExactGetKey', WHERE WHAT IT READS IS OF BULK AT MOST 1048576: true; the input reads as it did. -/
def fnExactGetKeyUptoRow : OpenClaim := { program := "ytjknkeipginpcaa", sum := "5bb5d0d831def2acae2aeee15676f0212e205434c90410d1aa230183c117ecad", func := "loop.example/g00274/laws.FnExactGetKey", spec := "fnExactGetKey", recurses := true, apart := false, narrowed := true }
def FnExactGetKeyUptoSaid : Prop := fnExactGetKeyUptoRow.holds Try.pinned (OpenSpec.upto fnExactGetKeySpec)

/-- 'laws.FnExactDeepIn', WHERE WHAT IT READS IS OF BULK AT MOST 1048576: true; the input reads as it did. -/
def fnExactDeepInUptoRow : OpenClaim := { program := "ytjknkeipginpcaa", sum := "5bb5d0d831def2acae2aeee15676f0212e205434c90410d1aa230183c117ecad", func := "loop.example/g00274/laws.FnExactDeepIn", spec := "fnExactDeepIn", recurses := true, apart := false, narrowed := true }
def FnExactDeepInUptoSaid : Prop := fnExactDeepInUptoRow.holds Try.pinned (OpenSpec.upto fnExactDeepInSpec)

/-- 'laws.FnExactKeysFrom', WHERE WHAT IT READS IS OF BULK AT MOST 1048576: true; the input reads as it did. -/
def fnExactKeysFromUptoRow : OpenClaim := { program := "ytjknkeipginpcaa", sum := "5bb5d0d831def2acae2aeee15676f0212e205434c90410d1aa230183c117ecad", func := "loop.example/g00274/laws.FnExactKeysFrom", spec := "fnExactKeysFrom", recurses := true, apart := false, narrowed := true }
def FnExactKeysFromUptoSaid : Prop := fnExactKeysFromUptoRow.holds Try.pinned (OpenSpec.upto fnExactKeysFromSpec)

/-- 'laws.FnExactJoinTreaps', WHERE WHAT IT READS IS OF BULK AT MOST 1048576: true; the input reads as it did. -/
def fnExactJoinTreapsUptoRow : OpenClaim := { program := "ytjknkeipginpcaa", sum := "5bb5d0d831def2acae2aeee15676f0212e205434c90410d1aa230183c117ecad", func := "loop.example/g00274/laws.FnExactJoinTreaps", spec := "fnExactJoinTreaps", recurses := true, apart := false, narrowed := true }
def FnExactJoinTreapsUptoSaid : Prop := fnExactJoinTreapsUptoRow.holds Try.pinned (OpenSpec.upto fnExactJoinTreapsSpec)

/-- 'laws.FnExactSplitTreap', WHERE WHAT IT READS IS OF BULK AT MOST 1048576: true; the input reads as it did. -/
def fnExactSplitTreapUptoRow : OpenClaim := { program := "ytjknkeipginpcaa", sum := "5bb5d0d831def2acae2aeee15676f0212e205434c90410d1aa230183c117ecad", func := "loop.example/g00274/laws.FnExactSplitTreap", spec := "fnExactSplitTreap", unfollowed := true, recurses := true, apart := false, narrowed := true }
def FnExactSplitTreapUptoSaid : Prop := fnExactSplitTreapUptoRow.holds Try.pinned (OpenSpec.upto fnExactSplitTreapSpec)

/-- 'laws.FnExactCutKey', WHERE WHAT IT READS IS OF BULK AT MOST 1048576: true; the input reads as it did. -/
def fnExactCutKeyUptoRow : OpenClaim := { program := "ytjknkeipginpcaa", sum := "5bb5d0d831def2acae2aeee15676f0212e205434c90410d1aa230183c117ecad", func := "loop.example/g00274/laws.FnExactCutKey", spec := "fnExactCutKey", unfollowed := true, recurses := true, apart := false, narrowed := true }
def FnExactCutKeyUptoSaid : Prop := fnExactCutKeyUptoRow.holds Try.pinned (OpenSpec.upto fnExactCutKeySpec)

/-- 'laws.FnSplit', WHERE WHAT IT READS IS OF BULK AT MOST 1048576: true; the input reads as it did. -/
def fnSplitUptoRow : OpenClaim := { program := "ytjknkeipginpcaa", sum := "5bb5d0d831def2acae2aeee15676f0212e205434c90410d1aa230183c117ecad", func := "loop.example/g00274/laws.FnSplit", spec := "fnSplit", unfollowed := true, recurses := true, apart := false, narrowed := true }
def FnSplitUptoSaid : Prop := fnSplitUptoRow.holds Try.pinned (OpenSpec.upto fnSplitSpec)

/-- 'laws.FnExactPutKey', WHERE WHAT IT READS IS OF BULK AT MOST 1048576: true; the input reads as it did. -/
def fnExactPutKeyUptoRow : OpenClaim := { program := "ytjknkeipginpcaa", sum := "5bb5d0d831def2acae2aeee15676f0212e205434c90410d1aa230183c117ecad", func := "loop.example/g00274/laws.FnExactPutKey", spec := "fnExactPutKey", inPlace := ["slices.overlaps[loop.example/g00274/impl.pair]"], unfollowed := true, recurses := true, apart := false, narrowed := true }
def FnExactPutKeyUptoSaid : Prop := fnExactPutKeyUptoRow.holds Try.pinned (OpenSpec.upto fnExactPutKeySpec)

/-- 'laws.FnShape', WHERE WHAT IT READS IS OF BULK AT MOST 1048576: true; the input reads as it did. -/
def fnShapeUptoRow : OpenClaim := { program := "ytjknkeipginpcaa", sum := "5bb5d0d831def2acae2aeee15676f0212e205434c90410d1aa230183c117ecad", func := "loop.example/g00274/laws.FnShape", spec := "fnShape", inPlace := ["slices.overlaps[loop.example/g00274/impl.pair]"], unfollowed := true, recurses := true, apart := false, narrowed := true }
def FnShapeUptoSaid : Prop := fnShapeUptoRow.holds Try.pinned (OpenSpec.upto fnShapeSpec)

end Rows
end Go.Proofs.Ytjknkeipginpcaa

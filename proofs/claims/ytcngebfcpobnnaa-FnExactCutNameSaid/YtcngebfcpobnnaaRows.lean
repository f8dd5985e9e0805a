/-
  No cell of these rows narrows 'for every input' (looked for: loops, veiled, ifaces, maps, wideKeys, modest, calm, conditions, laid).
  DERIVED. THE GIVEN ROWS OF THIS SEAT. 8 by the template 'for every input the law returns true; each argument reads behind the call as it read before'; 0 by the template 'total and deterministic' (their statements: YtcngebfcpobnnaaTotals.lean).
  GIVEN WITH THE SEED: the statements are not yours to turn. If you find one false, say at which input.
  Laid BY PROGRAM, IN A SANDBOX (cutbox-rows.mjs): the forced cells as the released guide's own fill.sh prints them over the translation f623cb87e828fe95… (all of the seat's roots in one cut). By AI agents, Wed Nov 11 2026. No macro, syntax, notation, axiom, sorry.
-/
import Derived.Test.YtcngebfcpobnnaaChecked
import GoSem.Claim
import GoSem.ClaimJoined
import GoSem.ClaimMapViews
import Derived.JoinedTies
import Derived.KernelRfl
namespace Go.Proofs.Ytcngebfcpobnnaa
/- THE CELL 'sum', in the pinned program and in every row, IS THE sha256 OF THE DUMP (.gsa) THAT YtcngebfcpobnnaaProg.lean LOADS. Nothing in Lean hashes anything: it is a label: what it is worth is what the hold of that sum in a sandbox is worth. -/
noncomputable def Try.pinned : Pinned := { name := "ytcngebfcpobnnaa", sum := "f623cb87e828fe957809bb424ca28d91b39b08be4d7619961b258b2c6b929ca9", checked := Try.checked }
namespace Rows
def none {H : Type} : Left H := { results := [], args := [] }

/-- 'laws.FnExactRadixOf': WHATEVER THE INPUT: true; the input reads as it did. -/
def fnExactRadixOfSpec : ChangeSpec := { name := "fnExactRadixOf", fn := fun _ => fun
  | [d] => { results := [.lit (.bool true)], args := [d] }
  | _ => none }
def fnExactRadixOfRow : OpenClaim := { program := "ytcngebfcpobnnaa", sum := "f623cb87e828fe957809bb424ca28d91b39b08be4d7619961b258b2c6b929ca9", func := "loop.example/g00274/laws.FnExactRadixOf", spec := "fnExactRadixOf", unfollowed := true, recurses := true, apart := false }
def FnExactRadixOfSaid : Prop := fnExactRadixOfRow.holds Try.pinned (OpenSpec.ofChange fnExactRadixOfSpec)

/-- ITS FALSE NEIGHBOUR: 'it returns false'. Refute it at one input. -/
def fnExactRadixOfWrong : ChangeSpec := { name := "fnExactRadixOf", fn := fun _ => fun
  | [d] => { results := [.lit (.bool false)], args := [d] }
  | _ => none }
def FnExactRadixOfWrongFalsely : Prop := fnExactRadixOfRow.holds Try.pinned (OpenSpec.ofChange fnExactRadixOfWrong)

/-- 'laws.FnExactGoodRadix': WHATEVER THE INPUT: true; the input reads as it did. -/
def fnExactGoodRadixSpec : ChangeSpec := { name := "fnExactGoodRadix", fn := fun _ => fun
  | [d] => { results := [.lit (.bool true)], args := [d] }
  | _ => none }
def fnExactGoodRadixRow : OpenClaim := { program := "ytcngebfcpobnnaa", sum := "f623cb87e828fe957809bb424ca28d91b39b08be4d7619961b258b2c6b929ca9", func := "loop.example/g00274/laws.FnExactGoodRadix", spec := "fnExactGoodRadix", unfollowed := true, recurses := true, apart := false }
def FnExactGoodRadixSaid : Prop := fnExactGoodRadixRow.holds Try.pinned (OpenSpec.ofChange fnExactGoodRadixSpec)

/-- ITS FALSE NEIGHBOUR: 'it returns false'. Refute it at one input. -/
def fnExactGoodRadixWrong : ChangeSpec := { name := "fnExactGoodRadix", fn := fun _ => fun
  | [d] => { results := [.lit (.bool false)], args := [d] }
  | _ => none }
def FnExactGoodRadixWrongFalsely : Prop := fnExactGoodRadixRow.holds Try.pinned (OpenSpec.ofChange fnExactGoodRadixWrong)

/-- 'laws.FnExactLongestPrefix': WHATEVER THE INPUT: true; the input reads as it did. -/
def fnExactLongestPrefixSpec : ChangeSpec := { name := "fnExactLongestPrefix", fn := fun _ => fun
  | [d1, d2] => { results := [.lit (.bool true)], args := [d1, d2] }
  | _ => none }
def fnExactLongestPrefixRow : OpenClaim := { program := "ytcngebfcpobnnaa", sum := "f623cb87e828fe957809bb424ca28d91b39b08be4d7619961b258b2c6b929ca9", func := "loop.example/g00274/laws.FnExactLongestPrefix", spec := "fnExactLongestPrefix", unfollowed := true, recurses := true, apart := false }
def FnExactLongestPrefixSaid : Prop := fnExactLongestPrefixRow.holds Try.pinned (OpenSpec.ofChange fnExactLongestPrefixSpec)

/-- ITS FALSE NEIGHBOUR: 'it returns false'. Refute it at one input. -/
def fnExactLongestPrefixWrong : ChangeSpec := { name := "fnExactLongestPrefix", fn := fun _ => fun
  | [d1, d2] => { results := [.lit (.bool false)], args := [d1, d2] }
  | _ => none }
def FnExactLongestPrefixWrongFalsely : Prop := fnExactLongestPrefixRow.holds Try.pinned (OpenSpec.ofChange fnExactLongestPrefixWrong)

/-- 'laws.FnExactHasName': WHATEVER THE INPUT: true; the input reads as it did. -/
def fnExactHasNameSpec : ChangeSpec := { name := "fnExactHasName", fn := fun _ => fun
  | [d1, d2] => { results := [.lit (.bool true)], args := [d1, d2] }
  | _ => none }
def fnExactHasNameRow : OpenClaim := { program := "ytcngebfcpobnnaa", sum := "f623cb87e828fe957809bb424ca28d91b39b08be4d7619961b258b2c6b929ca9", func := "loop.example/g00274/laws.FnExactHasName", spec := "fnExactHasName", unfollowed := true, recurses := true, apart := false }
def FnExactHasNameSaid : Prop := fnExactHasNameRow.holds Try.pinned (OpenSpec.ofChange fnExactHasNameSpec)

/-- ITS FALSE NEIGHBOUR: 'it returns false'. Refute it at one input. -/
def fnExactHasNameWrong : ChangeSpec := { name := "fnExactHasName", fn := fun _ => fun
  | [d1, d2] => { results := [.lit (.bool false)], args := [d1, d2] }
  | _ => none }
def FnExactHasNameWrongFalsely : Prop := fnExactHasNameRow.holds Try.pinned (OpenSpec.ofChange fnExactHasNameWrong)

/-- 'laws.FnExactNamesIn': WHATEVER THE INPUT: true; the input reads as it did. -/
def fnExactNamesInSpec : ChangeSpec := { name := "fnExactNamesIn", fn := fun _ => fun
  | [d] => { results := [.lit (.bool true)], args := [d] }
  | _ => none }
def fnExactNamesInRow : OpenClaim := { program := "ytcngebfcpobnnaa", sum := "f623cb87e828fe957809bb424ca28d91b39b08be4d7619961b258b2c6b929ca9", func := "loop.example/g00274/laws.FnExactNamesIn", spec := "fnExactNamesIn", unfollowed := true, recurses := true, apart := false }
def FnExactNamesInSaid : Prop := fnExactNamesInRow.holds Try.pinned (OpenSpec.ofChange fnExactNamesInSpec)

/-- ITS FALSE NEIGHBOUR: 'it returns false'. Refute it at one input. -/
def fnExactNamesInWrong : ChangeSpec := { name := "fnExactNamesIn", fn := fun _ => fun
  | [d] => { results := [.lit (.bool false)], args := [d] }
  | _ => none }
def FnExactNamesInWrongFalsely : Prop := fnExactNamesInRow.holds Try.pinned (OpenSpec.ofChange fnExactNamesInWrong)

/-- 'laws.FnExactPutName': WHATEVER THE INPUT: true; the input reads as it did. -/
def fnExactPutNameSpec : ChangeSpec := { name := "fnExactPutName", fn := fun _ => fun
  | [d1, d2] => { results := [.lit (.bool true)], args := [d1, d2] }
  | _ => none }
def fnExactPutNameRow : OpenClaim := { program := "ytcngebfcpobnnaa", sum := "f623cb87e828fe957809bb424ca28d91b39b08be4d7619961b258b2c6b929ca9", func := "loop.example/g00274/laws.FnExactPutName", spec := "fnExactPutName", unfollowed := true, recurses := true, apart := false }
def FnExactPutNameSaid : Prop := fnExactPutNameRow.holds Try.pinned (OpenSpec.ofChange fnExactPutNameSpec)

/-- ITS FALSE NEIGHBOUR: 'it returns false'. Refute it at one input. -/
def fnExactPutNameWrong : ChangeSpec := { name := "fnExactPutName", fn := fun _ => fun
  | [d1, d2] => { results := [.lit (.bool false)], args := [d1, d2] }
  | _ => none }
def FnExactPutNameWrongFalsely : Prop := fnExactPutNameRow.holds Try.pinned (OpenSpec.ofChange fnExactPutNameWrong)

/-- 'laws.FnExactCutName': WHATEVER THE INPUT: true; the input reads as it did. -/
def fnExactCutNameSpec : ChangeSpec := { name := "fnExactCutName", fn := fun _ => fun
  | [d1, d2] => { results := [.lit (.bool true)], args := [d1, d2] }
  | _ => none }
def fnExactCutNameRow : OpenClaim := { program := "ytcngebfcpobnnaa", sum := "f623cb87e828fe957809bb424ca28d91b39b08be4d7619961b258b2c6b929ca9", func := "loop.example/g00274/laws.FnExactCutName", spec := "fnExactCutName", unfollowed := true, recurses := true, apart := false }
def FnExactCutNameSaid : Prop := fnExactCutNameRow.holds Try.pinned (OpenSpec.ofChange fnExactCutNameSpec)

/-- ITS FALSE NEIGHBOUR: 'it returns false'. Refute it at one input. -/
def fnExactCutNameWrong : ChangeSpec := { name := "fnExactCutName", fn := fun _ => fun
  | [d1, d2] => { results := [.lit (.bool false)], args := [d1, d2] }
  | _ => none }
def FnExactCutNameWrongFalsely : Prop := fnExactCutNameRow.holds Try.pinned (OpenSpec.ofChange fnExactCutNameWrong)

/-- 'laws.FnExactPathText': WHATEVER THE INPUT: true; the input reads as it did. -/
def fnExactPathTextSpec : ChangeSpec := { name := "fnExactPathText", fn := fun _ => fun
  | [d] => { results := [.lit (.bool true)], args := [d] }
  | _ => none }
def fnExactPathTextRow : OpenClaim := { program := "ytcngebfcpobnnaa", sum := "f623cb87e828fe957809bb424ca28d91b39b08be4d7619961b258b2c6b929ca9", func := "loop.example/g00274/laws.FnExactPathText", spec := "fnExactPathText", inPlace := ["sync/atomic.LoadUint32", "(*internal/sync.Mutex).Lock", "internal/race.Disable", "sync/atomic.CompareAndSwapInt32", "internal/race.Enable", "internal/race.Acquire", "(*internal/sync.Mutex).lockSlow", "internal/sync.runtime_canSpin", "internal/sync.runtime_doSpin", "internal/sync.throw", "internal/sync.runtime_nanotime", "internal/sync.runtime_SemacquireMutex", "sync/atomic.AddInt32", "(*internal/sync.Mutex).Unlock", "internal/race.ReleaseMerge", "(*internal/sync.Mutex).unlockSlow", "internal/sync.fatal", "internal/sync.runtime_Semrelease", "sync/atomic.StoreUint32", "internal/abi.NoEscape"], unfollowed := true, recurses := true, apart := false }
def FnExactPathTextSaid : Prop := fnExactPathTextRow.holds Try.pinned (OpenSpec.ofChange fnExactPathTextSpec)

/-- ITS FALSE NEIGHBOUR: 'it returns false'. Refute it at one input. -/
def fnExactPathTextWrong : ChangeSpec := { name := "fnExactPathText", fn := fun _ => fun
  | [d] => { results := [.lit (.bool false)], args := [d] }
  | _ => none }
def FnExactPathTextWrongFalsely : Prop := fnExactPathTextRow.holds Try.pinned (OpenSpec.ofChange fnExactPathTextWrong)

/- THE SECOND FORM. 'bulk': how many values and letters a reading holds, each counted each time it is reached (what is shared counts as often as it is met; a slice's spare places count too). A statement '..UptoSaid' is the law's where the arguments, and the package variables that the reading takes, are together of bulk at most 1048576: NARROWER than '..Said'. Prove '..Said' where nothing that the law and all that it calls make is longer than what came in: it says more and counts as full. Else prove '..UptoSaid'. A law counts once. -/
mutual
def uptoBulk {H : Type} : DataW H → Nat
  | .lit (.string bytes) => bytes.length + 1
  | .lit _ => 1
  | .nil => 1
  | .ptr d => uptoBulk d + 1
  | .slice elems spare => uptoBulkAll elems + uptoBulkAll spare + 1
  | .agg parts => uptoBulkAll parts + 1
  | .iface _ d => uptoBulk d + 1
  | .map entries => uptoBulkEntries entries + 1
  | .held _ => 1
def uptoBulkAll {H : Type} : List (DataW H) → Nat
  | [] => 0
  | d :: r => uptoBulk d + uptoBulkAll r
def uptoBulkEntries {H : Type} : List (Lit × DataW H) → Nat
  | [] => 0
  | x :: r => uptoBulkEntry x + uptoBulkEntries r
def uptoBulkEntry {H : Type} : Lit × DataW H → Nat
  | (.string bytes, d) => bytes.length + uptoBulk d + 1
  | (_, d) => uptoBulk d + 1
 end
def uptoSmall : (H : Type) → List (DataW H) → Bool := fun _ ds => decide (uptoBulkAll ds ≤ 1048576)
def OpenSpec.upto (s : _root_.Go.ChangeSpec) : _root_.Go.OpenSpec := { _root_.Go.OpenSpec.ofChange s with cond := some uptoSmall }

/-- 'laws.FnExactRadixOf', WHERE WHAT IT READS IS OF BULK AT MOST 1048576: true; the input reads as it did. -/
def fnExactRadixOfUptoRow : OpenClaim := { program := "ytcngebfcpobnnaa", sum := "f623cb87e828fe957809bb424ca28d91b39b08be4d7619961b258b2c6b929ca9", func := "loop.example/g00274/laws.FnExactRadixOf", spec := "fnExactRadixOf", unfollowed := true, recurses := true, apart := false, narrowed := true }
def FnExactRadixOfUptoSaid : Prop := fnExactRadixOfUptoRow.holds Try.pinned (OpenSpec.upto fnExactRadixOfSpec)

/-- 'laws.FnExactGoodRadix', WHERE WHAT IT READS IS OF BULK AT MOST 1048576: true; the input reads as it did. -/
def fnExactGoodRadixUptoRow : OpenClaim := { program := "ytcngebfcpobnnaa", sum := "f623cb87e828fe957809bb424ca28d91b39b08be4d7619961b258b2c6b929ca9", func := "loop.example/g00274/laws.FnExactGoodRadix", spec := "fnExactGoodRadix", unfollowed := true, recurses := true, apart := false, narrowed := true }
def FnExactGoodRadixUptoSaid : Prop := fnExactGoodRadixUptoRow.holds Try.pinned (OpenSpec.upto fnExactGoodRadixSpec)

/-- 'laws.FnExactLongestPrefix', WHERE WHAT IT READS IS OF BULK AT MOST 1048576: true; the input reads as it did. -/
def fnExactLongestPrefixUptoRow : OpenClaim := { program := "ytcngebfcpobnnaa", sum := "f623cb87e828fe957809bb424ca28d91b39b08be4d7619961b258b2c6b929ca9", func := "loop.example/g00274/laws.FnExactLongestPrefix", spec := "fnExactLongestPrefix", unfollowed := true, recurses := true, apart := false, narrowed := true }
def FnExactLongestPrefixUptoSaid : Prop := fnExactLongestPrefixUptoRow.holds Try.pinned (OpenSpec.upto fnExactLongestPrefixSpec)

/-- 'laws.FnExactHasName', WHERE WHAT IT READS IS OF BULK AT MOST 1048576: true; the input reads as it did. -/
def fnExactHasNameUptoRow : OpenClaim := { program := "ytcngebfcpobnnaa", sum := "f623cb87e828fe957809bb424ca28d91b39b08be4d7619961b258b2c6b929ca9", func := "loop.example/g00274/laws.FnExactHasName", spec := "fnExactHasName", unfollowed := true, recurses := true, apart := false, narrowed := true }
def FnExactHasNameUptoSaid : Prop := fnExactHasNameUptoRow.holds Try.pinned (OpenSpec.upto fnExactHasNameSpec)

/-- 'laws.FnExactNamesIn', WHERE WHAT IT READS IS OF BULK AT MOST 1048576: true; the input reads as it did. -/
def fnExactNamesInUptoRow : OpenClaim := { program := "ytcngebfcpobnnaa", sum := "f623cb87e828fe957809bb424ca28d91b39b08be4d7619961b258b2c6b929ca9", func := "loop.example/g00274/laws.FnExactNamesIn", spec := "fnExactNamesIn", unfollowed := true, recurses := true, apart := false, narrowed := true }
def FnExactNamesInUptoSaid : Prop := fnExactNamesInUptoRow.holds Try.pinned (OpenSpec.upto fnExactNamesInSpec)

/-- 'laws.FnExactPutName', WHERE WHAT IT READS IS OF BULK AT MOST 1048576: true; the input reads as it did. -/
def fnExactPutNameUptoRow : OpenClaim := { program := "ytcngebfcpobnnaa", sum := "f623cb87e828fe957809bb424ca28d91b39b08be4d7619961b258b2c6b929ca9", func := "loop.example/g00274/laws.FnExactPutName", spec := "fnExactPutName", unfollowed := true, recurses := true, apart := false, narrowed := true }
def FnExactPutNameUptoSaid : Prop := fnExactPutNameUptoRow.holds Try.pinned (OpenSpec.upto fnExactPutNameSpec)

/-- 'laws.FnExactCutName', WHERE WHAT IT READS IS OF BULK AT MOST 1048576: true; the input reads as it did. -/
def fnExactCutNameUptoRow : OpenClaim := { program := "ytcngebfcpobnnaa", sum := "f623cb87e828fe957809bb424ca28d91b39b08be4d7619961b258b2c6b929ca9", func := "loop.example/g00274/laws.FnExactCutName", spec := "fnExactCutName", unfollowed := true, recurses := true, apart := false, narrowed := true }
def FnExactCutNameUptoSaid : Prop := fnExactCutNameUptoRow.holds Try.pinned (OpenSpec.upto fnExactCutNameSpec)

/-- 'laws.FnExactPathText', WHERE WHAT IT READS IS OF BULK AT MOST 1048576: true; the input reads as it did. -/
def fnExactPathTextUptoRow : OpenClaim := { program := "ytcngebfcpobnnaa", sum := "f623cb87e828fe957809bb424ca28d91b39b08be4d7619961b258b2c6b929ca9", func := "loop.example/g00274/laws.FnExactPathText", spec := "fnExactPathText", inPlace := ["sync/atomic.LoadUint32", "(*internal/sync.Mutex).Lock", "internal/race.Disable", "sync/atomic.CompareAndSwapInt32", "internal/race.Enable", "internal/race.Acquire", "(*internal/sync.Mutex).lockSlow", "internal/sync.runtime_canSpin", "internal/sync.runtime_doSpin", "internal/sync.throw", "internal/sync.runtime_nanotime", "internal/sync.runtime_SemacquireMutex", "sync/atomic.AddInt32", "(*internal/sync.Mutex).Unlock", "internal/race.ReleaseMerge", "(*internal/sync.Mutex).unlockSlow", "internal/sync.fatal", "internal/sync.runtime_Semrelease", "sync/atomic.StoreUint32", "internal/abi.NoEscape"], unfollowed := true, recurses := true, apart := false, narrowed := true }
def FnExactPathTextUptoSaid : Prop := fnExactPathTextUptoRow.holds Try.pinned (OpenSpec.upto fnExactPathTextSpec)

end Rows
end Go.Proofs.Ytcngebfcpobnnaa

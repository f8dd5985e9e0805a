/-
  DERIVED. GIVEN WITH THE SEED: THE CARDS: each row of YtdlkmnohmdnogaaDoorRows.lean that lists a variable, with what it lists TIED to the program's text (the seventh form; the later family's looks); each row that meets fmt, with fmt's text TOLD by the authors' own Lean function (tested against real Go, not proved from fmt's source: count such statements apart). THE CARD IS WHAT COUNTS. Prove the row's statement (the work); the ties are given (YtdlkmnohmdnogaaDoorTie.lean); close each card by the builder's one call (the guide's Derived/Test/ToyasCard.lean, 'card_holds'). Laid BY PROGRAM, IN A SANDBOX (cutbox-door.mjs). By AI agents, Wed Nov 11 2026. No macro, syntax, notation, axiom, sorry.
-/
import Derived.Test.YtdlkmnohmdnogaaDoorRows
import GoSem.ClaimSeven
namespace Go.Proofs.YtdlkmnohmdnogaaDoor
namespace Rows

/-- THE TIED CARD OF 'laws.FnExactPathOf'. -/
def fnExactPathOfCard : Claim7 := { stood := { row := fnExactPathOfRow, standIns := [], harness := (true, "76b3342ecc27fd761b4a8cae0aa09e01407f3546f28a684f67691807c700cce9"), looks := true }, kinds := [], alts := [], laidByText := true, laidKinds := [.data, .pinned], laidTests := true, laidLooks := .later }
def FnExactPathOfCardSaid : Prop := Claim7.holds Tryd.pinned (.plain (OpenSpec.ofChange fnExactPathOfSpec)) fnExactPathOfCard

/-- THE SECOND FORM's CARD OF 'laws.FnExactPathOf'. -/
def fnExactPathOfUptoCard : Claim7 := { stood := { row := fnExactPathOfUptoRow, standIns := [], harness := (true, "76b3342ecc27fd761b4a8cae0aa09e01407f3546f28a684f67691807c700cce9"), looks := true }, kinds := [], alts := [], laidByText := true, laidKinds := [.data, .pinned], laidTests := true, laidLooks := .later }
def FnExactPathOfUptoCardSaid : Prop := Claim7.holds Tryd.pinned (.plain (OpenSpec.upto fnExactPathOfSpec)) fnExactPathOfUptoCard
end Rows
end Go.Proofs.YtdlkmnohmdnogaaDoor

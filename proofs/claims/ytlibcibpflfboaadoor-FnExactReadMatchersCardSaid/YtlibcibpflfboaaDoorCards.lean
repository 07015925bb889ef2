/-
  DERIVED. GIVEN WITH THE SEED: THE CARDS: each row of YtlibcibpflfboaaDoorRows.lean that lists a variable, with what it lists TIED to the program's text (the seventh form; the later family's looks); each row that meets fmt, with fmt's text TOLD by the authors' own Lean function (tested against real Go, not proved from fmt's source: count such statements apart). THE CARD IS WHAT COUNTS. Prove the row's statement (the work); the ties are given (YtlibcibpflfboaaDoorTie.lean); close each card by the builder's one call (the guide's Derived/Test/ToyasCard.lean, 'card_holds'). Laid BY PROGRAM, IN A SANDBOX (cutbox-door.mjs). By AI agents, Wed Nov 11 2026. No macro, syntax, notation, axiom, sorry.
-/
import Derived.Test.YtlibcibpflfboaaDoorRows
import GoSem.ClaimSeven
namespace Go.Proofs.YtlibcibpflfboaaDoor
namespace Rows

/-- THE TIED CARD OF 'laws.FnExactReadMatchers'. -/
def fnExactReadMatchersCard : Claim7 := { stood := { row := fnExactReadMatchersRow, standIns := [], harness := (true, "253b3efa9836e13d6f2c71ef3e0a9a0e317e0ea28890fa7db328768b3de93119"), looks := false }, kinds := [], alts := [], laidByText := true, laidKinds := [.widerDeep], laidTests := true, laidLooks := .later }
def FnExactReadMatchersCardSaid : Prop := Claim7.holds Tryd.pinned (.plain (OpenSpec.ofChange fnExactReadMatchersSpec)) fnExactReadMatchersCard

/-- THE SECOND FORM's CARD OF 'laws.FnExactReadMatchers'. -/
def fnExactReadMatchersUptoCard : Claim7 := { stood := { row := fnExactReadMatchersUptoRow, standIns := [], harness := (true, "253b3efa9836e13d6f2c71ef3e0a9a0e317e0ea28890fa7db328768b3de93119"), looks := false }, kinds := [], alts := [], laidByText := true, laidKinds := [.widerDeep], laidTests := true, laidLooks := .later }
def FnExactReadMatchersUptoCardSaid : Prop := Claim7.holds Tryd.pinned (.plain (OpenSpec.upto fnExactReadMatchersSpec)) fnExactReadMatchersUptoCard
end Rows
end Go.Proofs.YtlibcibpflfboaaDoor

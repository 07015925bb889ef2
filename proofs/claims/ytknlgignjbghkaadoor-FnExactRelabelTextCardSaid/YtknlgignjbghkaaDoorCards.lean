/-
  DERIVED. GIVEN WITH THE SEED: THE CARDS: each row of YtknlgignjbghkaaDoorRows.lean that lists a variable, with what it lists TIED to the program's text (the seventh form; the later family's looks); each row that meets fmt, with fmt's text TOLD by the authors' own Lean function (tested against real Go, not proved from fmt's source: count such statements apart). THE CARD IS WHAT COUNTS. Prove the row's statement (the work); the ties are given (YtknlgignjbghkaaDoorTie.lean); close each card by the builder's one call (the guide's Derived/Test/ToyasCard.lean, 'card_holds'). Laid BY PROGRAM, IN A SANDBOX (cutbox-door.mjs). By AI agents, Wed Nov 11 2026. No macro, syntax, notation, axiom, sorry.
-/
import Derived.Test.YtknlgignjbghkaaDoorRows
import GoSem.ClaimSeven
namespace Go.Proofs.YtknlgignjbghkaaDoor
namespace Rows

/-- THE TIED CARD OF 'laws.FnExactMatchersText'. -/
def fnExactMatchersTextCard : Claim7 := { stood := { row := fnExactMatchersTextRow, standIns := [], harness := (true, "14d09a34bdedf82015cd8486693eb54502c28d04e5cdd25bb3b3d062f42cf541"), looks := false }, kinds := [], alts := [], laidByText := true, laidKinds := [.widerDeep], laidTests := true, laidLooks := .later }
def FnExactMatchersTextCardSaid : Prop := Claim7.holds Tryd.pinned (.plain (OpenSpec.ofChange fnExactMatchersTextSpec)) fnExactMatchersTextCard

/-- THE TIED CARD OF 'laws.FnExactReadMatchers'. -/
def fnExactReadMatchersCard : Claim7 := { stood := { row := fnExactReadMatchersRow, standIns := [], harness := (true, "14d09a34bdedf82015cd8486693eb54502c28d04e5cdd25bb3b3d062f42cf541"), looks := false }, kinds := [], alts := [], laidByText := true, laidKinds := [.widerDeep], laidTests := true, laidLooks := .later }
def FnExactReadMatchersCardSaid : Prop := Claim7.holds Tryd.pinned (.plain (OpenSpec.ofChange fnExactReadMatchersSpec)) fnExactReadMatchersCard

/-- THE TIED CARD OF 'laws.FnExactRelabelText'. -/
def fnExactRelabelTextCard : Claim7 := { stood := { row := fnExactRelabelTextRow, standIns := [], harness := (true, "14d09a34bdedf82015cd8486693eb54502c28d04e5cdd25bb3b3d062f42cf541"), looks := false }, kinds := [], alts := [], laidByText := true, laidKinds := [.data, .data, .data, .widerDeep], laidTests := true, laidLooks := .later }
def FnExactRelabelTextCardSaid : Prop := Claim7.holds Tryd.pinned (.plain (OpenSpec.ofChange fnExactRelabelTextSpec)) fnExactRelabelTextCard

/-- THE SECOND FORM's CARD OF 'laws.FnExactMatchersText'. -/
def fnExactMatchersTextUptoCard : Claim7 := { stood := { row := fnExactMatchersTextUptoRow, standIns := [], harness := (true, "14d09a34bdedf82015cd8486693eb54502c28d04e5cdd25bb3b3d062f42cf541"), looks := false }, kinds := [], alts := [], laidByText := true, laidKinds := [.widerDeep], laidTests := true, laidLooks := .later }
def FnExactMatchersTextUptoCardSaid : Prop := Claim7.holds Tryd.pinned (.plain (OpenSpec.upto fnExactMatchersTextSpec)) fnExactMatchersTextUptoCard

/-- THE SECOND FORM's CARD OF 'laws.FnExactReadMatchers'. -/
def fnExactReadMatchersUptoCard : Claim7 := { stood := { row := fnExactReadMatchersUptoRow, standIns := [], harness := (true, "14d09a34bdedf82015cd8486693eb54502c28d04e5cdd25bb3b3d062f42cf541"), looks := false }, kinds := [], alts := [], laidByText := true, laidKinds := [.widerDeep], laidTests := true, laidLooks := .later }
def FnExactReadMatchersUptoCardSaid : Prop := Claim7.holds Tryd.pinned (.plain (OpenSpec.upto fnExactReadMatchersSpec)) fnExactReadMatchersUptoCard

/-- THE SECOND FORM's CARD OF 'laws.FnExactRelabelText'. -/
def fnExactRelabelTextUptoCard : Claim7 := { stood := { row := fnExactRelabelTextUptoRow, standIns := [], harness := (true, "14d09a34bdedf82015cd8486693eb54502c28d04e5cdd25bb3b3d062f42cf541"), looks := false }, kinds := [], alts := [], laidByText := true, laidKinds := [.data, .data, .data, .widerDeep], laidTests := true, laidLooks := .later }
def FnExactRelabelTextUptoCardSaid : Prop := Claim7.holds Tryd.pinned (.plain (OpenSpec.upto fnExactRelabelTextSpec)) fnExactRelabelTextUptoCard
end Rows
end Go.Proofs.YtknlgignjbghkaaDoor

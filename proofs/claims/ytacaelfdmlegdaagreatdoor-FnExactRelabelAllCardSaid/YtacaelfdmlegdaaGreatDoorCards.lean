/-
  DERIVED. GIVEN WITH THE SEED: THE CARDS: each row of YtacaelfdmlegdaaGreatDoorRows.lean that lists a variable, with what it lists TIED to the program's text (the seventh form; the later family's looks); each row that meets fmt, with fmt's text TOLD by the authors' own Lean function (tested against real Go, not proved from fmt's source: count such statements apart). THE CARD IS WHAT COUNTS. Prove the row's statement (the work); the ties are given (YtacaelfdmlegdaaGreatDoorTie.lean); close each card by the builder's one call (the guide's Derived/Test/ToyasCard.lean, 'card_holds'). Laid BY PROGRAM, IN A SANDBOX (cutbox-door.mjs). By AI agents, Wed Nov 11 2026. No macro, syntax, notation, axiom, sorry.
-/
import Derived.Test.YtacaelfdmlegdaaGreatDoorRows
import GoSem.ClaimSeven
namespace Go.Proofs.YtacaelfdmlegdaaGreatDoor
namespace Rows

/-- THE TIED CARD OF 'laws.FnExactApplyRelabel'. -/
def fnExactApplyRelabelCard : Claim7 := { stood := { row := fnExactApplyRelabelRow, standIns := [], harness := (true, "02d27cdbc9bec5cf7e72bbf86567d70061d9553fa633c868b961d504907f318b"), looks := false }, kinds := [], alts := [], laidByText := true, laidKinds := [.data, .data, .data], laidTests := true, laidLooks := .later }
def FnExactApplyRelabelCardSaid : Prop := Claim7.holds Tryz.pinned (.plain (OpenSpec.ofChange fnExactApplyRelabelSpec)) fnExactApplyRelabelCard

/-- THE TIED CARD OF 'laws.FnExactRelabelAll'. -/
def fnExactRelabelAllCard : Claim7 := { stood := { row := fnExactRelabelAllRow, standIns := [], harness := (true, "02d27cdbc9bec5cf7e72bbf86567d70061d9553fa633c868b961d504907f318b"), looks := false }, kinds := [], alts := [], laidByText := true, laidKinds := [.data, .data, .data], laidTests := true, laidLooks := .later }
def FnExactRelabelAllCardSaid : Prop := Claim7.holds Tryz.pinned (.plain (OpenSpec.ofChange fnExactRelabelAllSpec)) fnExactRelabelAllCard

/-- THE SECOND FORM's CARD OF 'laws.FnExactApplyRelabel'. -/
def fnExactApplyRelabelUptoCard : Claim7 := { stood := { row := fnExactApplyRelabelUptoRow, standIns := [], harness := (true, "02d27cdbc9bec5cf7e72bbf86567d70061d9553fa633c868b961d504907f318b"), looks := false }, kinds := [], alts := [], laidByText := true, laidKinds := [.data, .data, .data], laidTests := true, laidLooks := .later }
def FnExactApplyRelabelUptoCardSaid : Prop := Claim7.holds Tryz.pinned (.plain (OpenSpec.upto fnExactApplyRelabelSpec)) fnExactApplyRelabelUptoCard

/-- THE SECOND FORM's CARD OF 'laws.FnExactRelabelAll'. -/
def fnExactRelabelAllUptoCard : Claim7 := { stood := { row := fnExactRelabelAllUptoRow, standIns := [], harness := (true, "02d27cdbc9bec5cf7e72bbf86567d70061d9553fa633c868b961d504907f318b"), looks := false }, kinds := [], alts := [], laidByText := true, laidKinds := [.data, .data, .data], laidTests := true, laidLooks := .later }
def FnExactRelabelAllUptoCardSaid : Prop := Claim7.holds Tryz.pinned (.plain (OpenSpec.upto fnExactRelabelAllSpec)) fnExactRelabelAllUptoCard
end Rows
end Go.Proofs.YtacaelfdmlegdaaGreatDoor

/-
  DERIVED. GIVEN WITH THE SEED: THE CARDS: each row of YtfdbbpnmnogddaaGreatDoorRows.lean that lists a variable, with what it lists TIED to the program's text (the seventh form; the later family's looks); each row that meets fmt, with fmt's text TOLD by the authors' own Lean function (tested against real Go, not proved from fmt's source: count such statements apart). THE CARD IS WHAT COUNTS. Prove the row's statement (the work); the ties are given (YtfdbbpnmnogddaaGreatDoorTie.lean); close each card by the builder's one call (the guide's Derived/Test/ToyasCard.lean, 'card_holds'). Laid BY PROGRAM, IN A SANDBOX (cutbox-door.mjs). By AI agents, Wed Nov 11 2026. No macro, syntax, notation, axiom, sorry.
-/
import Derived.Test.YtfdbbpnmnogddaaGreatDoorRows
import GoSem.ClaimSeven
namespace Go.Proofs.YtfdbbpnmnogddaaGreatDoor
namespace Rows

/-- THE TIED CARD OF 'laws.FnExactGoodFamily'. -/
def fnExactGoodFamilyCard : Claim7 := { stood := { row := fnExactGoodFamilyRow, standIns := [], harness := (true, "e5d9b49b8042c2b626c0a040714e50866385170eeaa448df11d9655627ef5de1"), looks := true }, kinds := [], alts := [], laidByText := true, laidKinds := [.data, .data, .data, .sentinel, .sentinel], laidTests := true, laidLooks := .later }
def FnExactGoodFamilyCardSaid : Prop := Claim7.holds Tryz.pinned (.plain (OpenSpec.ofChange fnExactGoodFamilySpec)) fnExactGoodFamilyCard

/-- THE TIED CARD OF 'laws.FnExactGoodFamilies'. -/
def fnExactGoodFamiliesCard : Claim7 := { stood := { row := fnExactGoodFamiliesRow, standIns := [], harness := (true, "e5d9b49b8042c2b626c0a040714e50866385170eeaa448df11d9655627ef5de1"), looks := true }, kinds := [], alts := [], laidByText := true, laidKinds := [.data, .data, .data, .sentinel, .sentinel], laidTests := true, laidLooks := .later }
def FnExactGoodFamiliesCardSaid : Prop := Claim7.holds Tryz.pinned (.plain (OpenSpec.ofChange fnExactGoodFamiliesSpec)) fnExactGoodFamiliesCard

/-- THE SECOND FORM's CARD OF 'laws.FnExactGoodFamily'. -/
def fnExactGoodFamilyUptoCard : Claim7 := { stood := { row := fnExactGoodFamilyUptoRow, standIns := [], harness := (true, "e5d9b49b8042c2b626c0a040714e50866385170eeaa448df11d9655627ef5de1"), looks := true }, kinds := [], alts := [], laidByText := true, laidKinds := [.data, .data, .data, .sentinel, .sentinel], laidTests := true, laidLooks := .later }
def FnExactGoodFamilyUptoCardSaid : Prop := Claim7.holds Tryz.pinned (.plain (OpenSpec.upto fnExactGoodFamilySpec)) fnExactGoodFamilyUptoCard

/-- THE SECOND FORM's CARD OF 'laws.FnExactGoodFamilies'. -/
def fnExactGoodFamiliesUptoCard : Claim7 := { stood := { row := fnExactGoodFamiliesUptoRow, standIns := [], harness := (true, "e5d9b49b8042c2b626c0a040714e50866385170eeaa448df11d9655627ef5de1"), looks := true }, kinds := [], alts := [], laidByText := true, laidKinds := [.data, .data, .data, .sentinel, .sentinel], laidTests := true, laidLooks := .later }
def FnExactGoodFamiliesUptoCardSaid : Prop := Claim7.holds Tryz.pinned (.plain (OpenSpec.upto fnExactGoodFamiliesSpec)) fnExactGoodFamiliesUptoCard
end Rows
end Go.Proofs.YtfdbbpnmnogddaaGreatDoor

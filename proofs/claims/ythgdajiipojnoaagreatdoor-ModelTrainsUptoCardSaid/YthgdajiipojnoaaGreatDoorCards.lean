/-
  DERIVED. GIVEN WITH THE SEED: THE CARDS: each row of YthgdajiipojnoaaGreatDoorRows.lean that lists a variable, with what it lists TIED to the program's text (the seventh form; the later family's looks); each row that meets fmt, with fmt's text TOLD by the authors' own Lean function (tested against real Go, not proved from fmt's source: count such statements apart). THE CARD IS WHAT COUNTS. Prove the row's statement (the work); the ties are given (YthgdajiipojnoaaGreatDoorTie.lean); close each card by the builder's one call (the guide's Derived/Test/ToyasCard.lean, 'card_holds'). Laid BY PROGRAM, IN A SANDBOX (cutbox-door.mjs). By AI agents, Wed Nov 11 2026. No macro, syntax, notation, axiom, sorry.
-/
import Derived.Test.YthgdajiipojnoaaGreatDoorRows
import GoSem.ClaimSeven
namespace Go.Proofs.YthgdajiipojnoaaGreatDoor
namespace Rows

/-- THE TIED CARD OF 'grammarlablaw37.ModelTrains'. -/
def modelTrainsCard : Claim7 := { stood := { row := modelTrainsRow, standIns := [], harness := (true, "d08be57564e18864100785765f7ac9dce81c355e8c2e6414b0b270161f107d34"), looks := false }, kinds := [], alts := [], laidByText := true, laidKinds := [.data, .pinned], laidTests := true, laidLooks := .later }
def ModelTrainsCardSaid : Prop := Claim7.holds Tryz.pinned (.plain (OpenSpec.ofChange modelTrainsSpec)) modelTrainsCard

/-- THE SECOND FORM's CARD OF 'grammarlablaw37.ModelTrains'. -/
def modelTrainsUptoCard : Claim7 := { stood := { row := modelTrainsUptoRow, standIns := [], harness := (true, "d08be57564e18864100785765f7ac9dce81c355e8c2e6414b0b270161f107d34"), looks := false }, kinds := [], alts := [], laidByText := true, laidKinds := [.data, .pinned], laidTests := true, laidLooks := .later }
def ModelTrainsUptoCardSaid : Prop := Claim7.holds Tryz.pinned (.plain (OpenSpec.upto modelTrainsSpec)) modelTrainsUptoCard
end Rows
end Go.Proofs.YthgdajiipojnoaaGreatDoor

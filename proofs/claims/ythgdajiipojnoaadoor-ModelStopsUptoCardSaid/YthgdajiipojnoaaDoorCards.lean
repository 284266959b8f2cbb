/-
  DERIVED. GIVEN WITH THE SEED: THE CARDS: each row of YthgdajiipojnoaaDoorRows.lean that lists a variable, with what it lists TIED to the program's text (the seventh form; the later family's looks); each row that meets fmt, with fmt's text TOLD by the authors' own Lean function (tested against real Go, not proved from fmt's source: count such statements apart). THE CARD IS WHAT COUNTS. Prove the row's statement (the work); the ties are given (YthgdajiipojnoaaDoorTie.lean); close each card by the builder's one call (the guide's Derived/Test/ToyasCard.lean, 'card_holds'). Laid BY PROGRAM, IN A SANDBOX (cutbox-door.mjs). By AI agents, Wed Nov 11 2026. No macro, syntax, notation, axiom, sorry.
-/
import Derived.Test.YthgdajiipojnoaaDoorRows
import GoSem.ClaimSeven
namespace Go.Proofs.YthgdajiipojnoaaDoor
namespace Rows

/-- THE TIED CARD OF 'grammarlablaw37.ModelChecks'. -/
def modelChecksCard : Claim7 := { stood := { row := modelChecksRow, standIns := [], harness := (true, "41135987659c78d4c8936addcd2dcfc4cdd2da3bf55cfdf625dc296bf1c3c5dc"), looks := false }, kinds := [], alts := [], laidByText := true, laidKinds := [.data, .pinned], laidTests := true, laidLooks := .later }
def ModelChecksCardSaid : Prop := Claim7.holds Tryd.pinned (.plain (OpenSpec.ofChange modelChecksSpec)) modelChecksCard

/-- THE TIED CARD OF 'grammarlablaw37.ModelFeatures'. -/
def modelFeaturesCard : Claim7 := { stood := { row := modelFeaturesRow, standIns := [], harness := (true, "41135987659c78d4c8936addcd2dcfc4cdd2da3bf55cfdf625dc296bf1c3c5dc"), looks := false }, kinds := [], alts := [], laidByText := true, laidKinds := [.data, .pinned], laidTests := true, laidLooks := .later }
def ModelFeaturesCardSaid : Prop := Claim7.holds Tryd.pinned (.plain (OpenSpec.ofChange modelFeaturesSpec)) modelFeaturesCard

/-- THE TIED CARD OF 'grammarlablaw37.ModelScores'. -/
def modelScoresCard : Claim7 := { stood := { row := modelScoresRow, standIns := [], harness := (true, "41135987659c78d4c8936addcd2dcfc4cdd2da3bf55cfdf625dc296bf1c3c5dc"), looks := false }, kinds := [], alts := [], laidByText := true, laidKinds := [.data, .pinned], laidTests := true, laidLooks := .later }
def ModelScoresCardSaid : Prop := Claim7.holds Tryd.pinned (.plain (OpenSpec.ofChange modelScoresSpec)) modelScoresCard

/-- THE TIED CARD OF 'grammarlablaw37.ModelValid'. -/
def modelValidCard : Claim7 := { stood := { row := modelValidRow, standIns := [], harness := (true, "41135987659c78d4c8936addcd2dcfc4cdd2da3bf55cfdf625dc296bf1c3c5dc"), looks := false }, kinds := [], alts := [], laidByText := true, laidKinds := [.data, .pinned], laidTests := true, laidLooks := .later }
def ModelValidCardSaid : Prop := Claim7.holds Tryd.pinned (.plain (OpenSpec.ofChange modelValidSpec)) modelValidCard

/-- THE TIED CARD OF 'grammarlablaw37.ModelGreatest'. -/
def modelGreatestCard : Claim7 := { stood := { row := modelGreatestRow, standIns := [], harness := (true, "41135987659c78d4c8936addcd2dcfc4cdd2da3bf55cfdf625dc296bf1c3c5dc"), looks := false }, kinds := [], alts := [], laidByText := true, laidKinds := [.data, .pinned], laidTests := true, laidLooks := .later }
def ModelGreatestCardSaid : Prop := Claim7.holds Tryd.pinned (.plain (OpenSpec.ofChange modelGreatestSpec)) modelGreatestCard

/-- THE TIED CARD OF 'grammarlablaw37.ModelAdds'. -/
def modelAddsCard : Claim7 := { stood := { row := modelAddsRow, standIns := [], harness := (true, "41135987659c78d4c8936addcd2dcfc4cdd2da3bf55cfdf625dc296bf1c3c5dc"), looks := false }, kinds := [], alts := [], laidByText := true, laidKinds := [.data, .pinned], laidTests := true, laidLooks := .later }
def ModelAddsCardSaid : Prop := Claim7.holds Tryd.pinned (.plain (OpenSpec.ofChange modelAddsSpec)) modelAddsCard

/-- THE TIED CARD OF 'grammarlablaw37.ModelStops'. -/
def modelStopsCard : Claim7 := { stood := { row := modelStopsRow, standIns := [], harness := (true, "41135987659c78d4c8936addcd2dcfc4cdd2da3bf55cfdf625dc296bf1c3c5dc"), looks := false }, kinds := [], alts := [], laidByText := true, laidKinds := [.data, .pinned], laidTests := true, laidLooks := .later }
def ModelStopsCardSaid : Prop := Claim7.holds Tryd.pinned (.plain (OpenSpec.ofChange modelStopsSpec)) modelStopsCard

/-- THE SECOND FORM's CARD OF 'grammarlablaw37.ModelChecks'. -/
def modelChecksUptoCard : Claim7 := { stood := { row := modelChecksUptoRow, standIns := [], harness := (true, "41135987659c78d4c8936addcd2dcfc4cdd2da3bf55cfdf625dc296bf1c3c5dc"), looks := false }, kinds := [], alts := [], laidByText := true, laidKinds := [.data, .pinned], laidTests := true, laidLooks := .later }
def ModelChecksUptoCardSaid : Prop := Claim7.holds Tryd.pinned (.plain (OpenSpec.upto modelChecksSpec)) modelChecksUptoCard

/-- THE SECOND FORM's CARD OF 'grammarlablaw37.ModelFeatures'. -/
def modelFeaturesUptoCard : Claim7 := { stood := { row := modelFeaturesUptoRow, standIns := [], harness := (true, "41135987659c78d4c8936addcd2dcfc4cdd2da3bf55cfdf625dc296bf1c3c5dc"), looks := false }, kinds := [], alts := [], laidByText := true, laidKinds := [.data, .pinned], laidTests := true, laidLooks := .later }
def ModelFeaturesUptoCardSaid : Prop := Claim7.holds Tryd.pinned (.plain (OpenSpec.upto modelFeaturesSpec)) modelFeaturesUptoCard

/-- THE SECOND FORM's CARD OF 'grammarlablaw37.ModelScores'. -/
def modelScoresUptoCard : Claim7 := { stood := { row := modelScoresUptoRow, standIns := [], harness := (true, "41135987659c78d4c8936addcd2dcfc4cdd2da3bf55cfdf625dc296bf1c3c5dc"), looks := false }, kinds := [], alts := [], laidByText := true, laidKinds := [.data, .pinned], laidTests := true, laidLooks := .later }
def ModelScoresUptoCardSaid : Prop := Claim7.holds Tryd.pinned (.plain (OpenSpec.upto modelScoresSpec)) modelScoresUptoCard

/-- THE SECOND FORM's CARD OF 'grammarlablaw37.ModelValid'. -/
def modelValidUptoCard : Claim7 := { stood := { row := modelValidUptoRow, standIns := [], harness := (true, "41135987659c78d4c8936addcd2dcfc4cdd2da3bf55cfdf625dc296bf1c3c5dc"), looks := false }, kinds := [], alts := [], laidByText := true, laidKinds := [.data, .pinned], laidTests := true, laidLooks := .later }
def ModelValidUptoCardSaid : Prop := Claim7.holds Tryd.pinned (.plain (OpenSpec.upto modelValidSpec)) modelValidUptoCard

/-- THE SECOND FORM's CARD OF 'grammarlablaw37.ModelGreatest'. -/
def modelGreatestUptoCard : Claim7 := { stood := { row := modelGreatestUptoRow, standIns := [], harness := (true, "41135987659c78d4c8936addcd2dcfc4cdd2da3bf55cfdf625dc296bf1c3c5dc"), looks := false }, kinds := [], alts := [], laidByText := true, laidKinds := [.data, .pinned], laidTests := true, laidLooks := .later }
def ModelGreatestUptoCardSaid : Prop := Claim7.holds Tryd.pinned (.plain (OpenSpec.upto modelGreatestSpec)) modelGreatestUptoCard

/-- THE SECOND FORM's CARD OF 'grammarlablaw37.ModelAdds'. -/
def modelAddsUptoCard : Claim7 := { stood := { row := modelAddsUptoRow, standIns := [], harness := (true, "41135987659c78d4c8936addcd2dcfc4cdd2da3bf55cfdf625dc296bf1c3c5dc"), looks := false }, kinds := [], alts := [], laidByText := true, laidKinds := [.data, .pinned], laidTests := true, laidLooks := .later }
def ModelAddsUptoCardSaid : Prop := Claim7.holds Tryd.pinned (.plain (OpenSpec.upto modelAddsSpec)) modelAddsUptoCard

/-- THE SECOND FORM's CARD OF 'grammarlablaw37.ModelStops'. -/
def modelStopsUptoCard : Claim7 := { stood := { row := modelStopsUptoRow, standIns := [], harness := (true, "41135987659c78d4c8936addcd2dcfc4cdd2da3bf55cfdf625dc296bf1c3c5dc"), looks := false }, kinds := [], alts := [], laidByText := true, laidKinds := [.data, .pinned], laidTests := true, laidLooks := .later }
def ModelStopsUptoCardSaid : Prop := Claim7.holds Tryd.pinned (.plain (OpenSpec.upto modelStopsSpec)) modelStopsUptoCard
end Rows
end Go.Proofs.YthgdajiipojnoaaDoor

/-
  DERIVED. GIVEN WITH THE SEED: THE CARDS: each row of YtegboboemepifaaGreatDoorRows.lean that lists a variable, with what it lists TIED to the program's text (the seventh form; the later family's looks); each row that meets fmt, with fmt's text TOLD by the authors' own Lean function (tested against real Go, not proved from fmt's source: count such statements apart). THE CARD IS WHAT COUNTS. Prove the row's statement (the work); the ties are given (YtegboboemepifaaGreatDoorTie.lean); close each card by the builder's one call (the guide's Derived/Test/ToyasCard.lean, 'card_holds'). Laid BY PROGRAM, IN A SANDBOX (cutbox-door.mjs). By AI agents, Wed Nov 11 2026. No macro, syntax, notation, axiom, sorry.
-/
import Derived.Test.YtegboboemepifaaGreatDoorRows
import GoSem.ClaimSeven
namespace Go.Proofs.YtegboboemepifaaGreatDoor
namespace Rows

/-- THE TIED CARD OF 'grammarlablaw41.ScopeHandles'. -/
def scopeHandlesCard : Claim7 := { stood := { row := scopeHandlesRow, standIns := [], harness := (true, "df52e5823cc5f514f0d4b70ff3605eae76874b47929f7b76aa35af356e79f7f2"), looks := false }, kinds := [], alts := [], laidByText := true, laidKinds := [.data, .data, .data], laidTests := true, laidLooks := .later }
def ScopeHandlesCardSaid : Prop := Claim7.holds Tryz.pinned (.plain (OpenSpec.ofChange scopeHandlesSpec)) scopeHandlesCard

/-- THE TIED CARD OF 'grammarlablaw41.ScopeBelow'. -/
def scopeBelowCard : Claim7 := { stood := { row := scopeBelowRow, standIns := [], harness := (true, "df52e5823cc5f514f0d4b70ff3605eae76874b47929f7b76aa35af356e79f7f2"), looks := false }, kinds := [], alts := [], laidByText := true, laidKinds := [.data, .data, .data], laidTests := true, laidLooks := .later }
def ScopeBelowCardSaid : Prop := Claim7.holds Tryz.pinned (.plain (OpenSpec.ofChange scopeBelowSpec)) scopeBelowCard

/-- THE TIED CARD OF 'grammarlablaw41.ScopeValid'. -/
def scopeValidCard : Claim7 := { stood := { row := scopeValidRow, standIns := [], harness := (true, "df52e5823cc5f514f0d4b70ff3605eae76874b47929f7b76aa35af356e79f7f2"), looks := false }, kinds := [], alts := [], laidByText := true, laidKinds := [.data, .data, .data], laidTests := true, laidLooks := .later }
def ScopeValidCardSaid : Prop := Claim7.holds Tryz.pinned (.plain (OpenSpec.ofChange scopeValidSpec)) scopeValidCard

/-- THE TIED CARD OF 'grammarlablaw41.ScopePrints'. -/
def scopePrintsCard : Claim7 := { stood := { row := scopePrintsRow, standIns := [], harness := (true, "df52e5823cc5f514f0d4b70ff3605eae76874b47929f7b76aa35af356e79f7f2"), looks := false }, kinds := [], alts := [], laidByText := true, laidKinds := [.data, .data, .data], laidTests := true, laidLooks := .later }
def ScopePrintsCardSaid : Prop := Claim7.holds Tryz.pinned (.plain (OpenSpec.ofChange scopePrintsSpec)) scopePrintsCard

/-- THE TIED CARD OF 'grammarlablaw41.ScopeTrees'. -/
def scopeTreesCard : Claim7 := { stood := { row := scopeTreesRow, standIns := [], harness := (true, "df52e5823cc5f514f0d4b70ff3605eae76874b47929f7b76aa35af356e79f7f2"), looks := false }, kinds := [], alts := [], laidByText := true, laidKinds := [.data, .data, .data], laidTests := true, laidLooks := .later }
def ScopeTreesCardSaid : Prop := Claim7.holds Tryz.pinned (.plain (OpenSpec.ofChange scopeTreesSpec)) scopeTreesCard

/-- THE TIED CARD OF 'grammarlablaw41.ScopeConstraints'. -/
def scopeConstraintsCard : Claim7 := { stood := { row := scopeConstraintsRow, standIns := [], harness := (true, "df52e5823cc5f514f0d4b70ff3605eae76874b47929f7b76aa35af356e79f7f2"), looks := false }, kinds := [], alts := [], laidByText := true, laidKinds := [.data, .data, .data], laidTests := true, laidLooks := .later }
def ScopeConstraintsCardSaid : Prop := Claim7.holds Tryz.pinned (.plain (OpenSpec.ofChange scopeConstraintsSpec)) scopeConstraintsCard

/-- THE SECOND FORM's CARD OF 'grammarlablaw41.ScopeHandles'. -/
def scopeHandlesUptoCard : Claim7 := { stood := { row := scopeHandlesUptoRow, standIns := [], harness := (true, "df52e5823cc5f514f0d4b70ff3605eae76874b47929f7b76aa35af356e79f7f2"), looks := false }, kinds := [], alts := [], laidByText := true, laidKinds := [.data, .data, .data], laidTests := true, laidLooks := .later }
def ScopeHandlesUptoCardSaid : Prop := Claim7.holds Tryz.pinned (.plain (OpenSpec.upto scopeHandlesSpec)) scopeHandlesUptoCard

/-- THE SECOND FORM's CARD OF 'grammarlablaw41.ScopeBelow'. -/
def scopeBelowUptoCard : Claim7 := { stood := { row := scopeBelowUptoRow, standIns := [], harness := (true, "df52e5823cc5f514f0d4b70ff3605eae76874b47929f7b76aa35af356e79f7f2"), looks := false }, kinds := [], alts := [], laidByText := true, laidKinds := [.data, .data, .data], laidTests := true, laidLooks := .later }
def ScopeBelowUptoCardSaid : Prop := Claim7.holds Tryz.pinned (.plain (OpenSpec.upto scopeBelowSpec)) scopeBelowUptoCard

/-- THE SECOND FORM's CARD OF 'grammarlablaw41.ScopeValid'. -/
def scopeValidUptoCard : Claim7 := { stood := { row := scopeValidUptoRow, standIns := [], harness := (true, "df52e5823cc5f514f0d4b70ff3605eae76874b47929f7b76aa35af356e79f7f2"), looks := false }, kinds := [], alts := [], laidByText := true, laidKinds := [.data, .data, .data], laidTests := true, laidLooks := .later }
def ScopeValidUptoCardSaid : Prop := Claim7.holds Tryz.pinned (.plain (OpenSpec.upto scopeValidSpec)) scopeValidUptoCard

/-- THE SECOND FORM's CARD OF 'grammarlablaw41.ScopePrints'. -/
def scopePrintsUptoCard : Claim7 := { stood := { row := scopePrintsUptoRow, standIns := [], harness := (true, "df52e5823cc5f514f0d4b70ff3605eae76874b47929f7b76aa35af356e79f7f2"), looks := false }, kinds := [], alts := [], laidByText := true, laidKinds := [.data, .data, .data], laidTests := true, laidLooks := .later }
def ScopePrintsUptoCardSaid : Prop := Claim7.holds Tryz.pinned (.plain (OpenSpec.upto scopePrintsSpec)) scopePrintsUptoCard

/-- THE SECOND FORM's CARD OF 'grammarlablaw41.ScopeTrees'. -/
def scopeTreesUptoCard : Claim7 := { stood := { row := scopeTreesUptoRow, standIns := [], harness := (true, "df52e5823cc5f514f0d4b70ff3605eae76874b47929f7b76aa35af356e79f7f2"), looks := false }, kinds := [], alts := [], laidByText := true, laidKinds := [.data, .data, .data], laidTests := true, laidLooks := .later }
def ScopeTreesUptoCardSaid : Prop := Claim7.holds Tryz.pinned (.plain (OpenSpec.upto scopeTreesSpec)) scopeTreesUptoCard

/-- THE SECOND FORM's CARD OF 'grammarlablaw41.ScopeConstraints'. -/
def scopeConstraintsUptoCard : Claim7 := { stood := { row := scopeConstraintsUptoRow, standIns := [], harness := (true, "df52e5823cc5f514f0d4b70ff3605eae76874b47929f7b76aa35af356e79f7f2"), looks := false }, kinds := [], alts := [], laidByText := true, laidKinds := [.data, .data, .data], laidTests := true, laidLooks := .later }
def ScopeConstraintsUptoCardSaid : Prop := Claim7.holds Tryz.pinned (.plain (OpenSpec.upto scopeConstraintsSpec)) scopeConstraintsUptoCard
end Rows
end Go.Proofs.YtegboboemepifaaGreatDoor

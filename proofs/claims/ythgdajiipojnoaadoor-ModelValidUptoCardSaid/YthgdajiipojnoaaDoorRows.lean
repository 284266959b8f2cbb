/-
  NARROWER THAN 'FOR EVERY INPUT', by the rows' own cells (each row's printed sentence says how): ModelChecks: laid · ModelFeatures: loops, laid · ModelScores: loops, laid · ModelValid: loops, laid · ModelGreatest: loops, laid · ModelAdds: loops, laid · ModelStops: loops, laid.
  DERIVED. THE GIVEN ROWS OF THIS SEAT. 7 by the template 'for every input the law returns true; each argument reads behind the call as it read before'; 0 by the template 'total and deterministic' (their statements: YthgdajiipojnoaaDoorTotals.lean).
  GIVEN WITH THE SEED: the statements are not yours to turn. If you find one false, say at which input.
  Laid BY PROGRAM, IN A SANDBOX (cutbox-rows.mjs): the forced cells as the released guide's own fill.sh prints them over the translation a66f089aadca4d5a… (all of the seat's roots in one cut). By AI agents, Wed Nov 11 2026. No macro, syntax, notation, axiom, sorry.
-/
import Derived.Test.YthgdajiipojnoaaDoorChecked
import GoSem.PinnedTables
import GoSem.Claim
import GoSem.ClaimJoined
import GoSem.ClaimMapViews
import Derived.JoinedTies
import Derived.KernelRfl
namespace Go.Proofs.YthgdajiipojnoaaDoor
/- THE CELL 'sum', in the pinned program and in every row, IS THE sha256 OF THE DUMP (.gsa) THAT YthgdajiipojnoaaDoorProg.lean LOADS. Nothing in Lean hashes anything: it is a label: what it is worth is what the hold of that sum in a sandbox is worth. -/
noncomputable def Tryd.pinned : Pinned := { name := "ythgdajiipojnoaadoor", sum := "a66f089aadca4d5a89ec8936a952a530cf9bffd9d90f5a4408e1c95c7b0ac6ea", checked := Tryd.checked }
namespace Rows
def none {H : Type} : Left H := { results := [], args := [] }

/- WHAT THE LISTED PACKAGE-LEVEL VARIABLES READ AS WHEN THE CALL BEGINS. Each datum BY PROGRAM (the guide's laid-datum.mjs) off the statement by which the dump's own 'gosem.cut.vars' lays the variable. In a bare row this is a premise. The card (YthgdajiipojnoaaDoorCards.lean) ties it to the program's text. -/
def laid_unicode_utf8_acceptRanges {H : Type} : DataW H := .agg [.agg [.lit (.int .u8 128), .lit (.int .u8 191)], .agg [.lit (.int .u8 160), .lit (.int .u8 191)], .agg [.lit (.int .u8 128), .lit (.int .u8 159)], .agg [.lit (.int .u8 144), .lit (.int .u8 191)], .agg [.lit (.int .u8 128), .lit (.int .u8 143)], .agg [.lit (.int .u8 0), .lit (.int .u8 0)], .agg [.lit (.int .u8 0), .lit (.int .u8 0)], .agg [.lit (.int .u8 0), .lit (.int .u8 0)], .agg [.lit (.int .u8 0), .lit (.int .u8 0)], .agg [.lit (.int .u8 0), .lit (.int .u8 0)], .agg [.lit (.int .u8 0), .lit (.int .u8 0)], .agg [.lit (.int .u8 0), .lit (.int .u8 0)], .agg [.lit (.int .u8 0), .lit (.int .u8 0)], .agg [.lit (.int .u8 0), .lit (.int .u8 0)], .agg [.lit (.int .u8 0), .lit (.int .u8 0)], .agg [.lit (.int .u8 0), .lit (.int .u8 0)]]
/-- One of Go's own tables, pinned by name: the form's constant. -/
def laid_unicode_utf8_first : DataW Unit := Go.Pinned.utf8First

/-- 'grammarlablaw37.ModelChecks': WHATEVER THE INPUT: true; the input reads as it did. -/
def modelChecksSpec : ChangeSpec := { name := "modelChecks", fn := fun _ => fun
  | [d] => { results := [.lit (.bool true)], args := [d] }
  | _ => none }
def modelChecksRow : OpenClaim := { program := "ythgdajiipojnoaadoor", sum := "a66f089aadca4d5a89ec8936a952a530cf9bffd9d90f5a4408e1c95c7b0ac6ea", func := "grammarlab/grammarlablaw37.ModelChecks", spec := "modelChecks", inPlace := ["internal/abi.NoEscape", "internal/bytealg.MakeNoZero", "internal/bytealg.IndexByteString", "internal/bytealg.IndexString", "internal/bytealg.CountString"], unfollowed := true, recurses := true, named := ["internal/bytealg.MaxLen", "unicode/utf8.first", "unicode/utf8.acceptRanges"], apart := false, laid := [("unicode/utf8.acceptRanges", laid_unicode_utf8_acceptRanges), ("unicode/utf8.first", laid_unicode_utf8_first)] }
def ModelChecksSaid : Prop := modelChecksRow.holds Tryd.pinned (OpenSpec.ofChange modelChecksSpec)

/-- ITS FALSE NEIGHBOUR: 'it returns false'. Refute it at one input. -/
def modelChecksWrong : ChangeSpec := { name := "modelChecks", fn := fun _ => fun
  | [d] => { results := [.lit (.bool false)], args := [d] }
  | _ => none }
def ModelChecksWrongFalsely : Prop := modelChecksRow.holds Tryd.pinned (OpenSpec.ofChange modelChecksWrong)

/-- 'grammarlablaw37.ModelFeatures': WHATEVER THE INPUT: true; the input reads as it did. -/
def modelFeaturesSpec : ChangeSpec := { name := "modelFeatures", fn := fun _ => fun
  | [d] => { results := [.lit (.bool true)], args := [d] }
  | _ => none }
def modelFeaturesRow : OpenClaim := { program := "ythgdajiipojnoaadoor", sum := "a66f089aadca4d5a89ec8936a952a530cf9bffd9d90f5a4408e1c95c7b0ac6ea", func := "grammarlab/grammarlablaw37.ModelFeatures", spec := "modelFeatures", inPlace := ["internal/abi.NoEscape", "internal/bytealg.MakeNoZero", "internal/bytealg.IndexByteString", "internal/bytealg.IndexString", "internal/bytealg.CountString"], unfollowed := true, recurses := true, named := ["internal/bytealg.MaxLen", "unicode/utf8.first", "unicode/utf8.acceptRanges"], loops := true, apart := false, laid := [("unicode/utf8.acceptRanges", laid_unicode_utf8_acceptRanges), ("unicode/utf8.first", laid_unicode_utf8_first)] }
def ModelFeaturesSaid : Prop := modelFeaturesRow.holds Tryd.pinned (OpenSpec.ofChange modelFeaturesSpec)

/-- ITS FALSE NEIGHBOUR: 'it returns false'. Refute it at one input. -/
def modelFeaturesWrong : ChangeSpec := { name := "modelFeatures", fn := fun _ => fun
  | [d] => { results := [.lit (.bool false)], args := [d] }
  | _ => none }
def ModelFeaturesWrongFalsely : Prop := modelFeaturesRow.holds Tryd.pinned (OpenSpec.ofChange modelFeaturesWrong)

/-- 'grammarlablaw37.ModelScores': WHATEVER THE INPUT: true; the input reads as it did. -/
def modelScoresSpec : ChangeSpec := { name := "modelScores", fn := fun _ => fun
  | [d1, d2, d3] => { results := [.lit (.bool true)], args := [d1, d2, d3] }
  | _ => none }
def modelScoresRow : OpenClaim := { program := "ythgdajiipojnoaadoor", sum := "a66f089aadca4d5a89ec8936a952a530cf9bffd9d90f5a4408e1c95c7b0ac6ea", func := "grammarlab/grammarlablaw37.ModelScores", spec := "modelScores", inPlace := ["internal/abi.NoEscape", "internal/bytealg.MakeNoZero", "internal/bytealg.IndexByteString", "internal/bytealg.IndexString", "internal/bytealg.CountString"], unfollowed := true, recurses := true, named := ["internal/bytealg.MaxLen", "unicode/utf8.first", "unicode/utf8.acceptRanges"], loops := true, apart := false, laid := [("unicode/utf8.acceptRanges", laid_unicode_utf8_acceptRanges), ("unicode/utf8.first", laid_unicode_utf8_first)] }
def ModelScoresSaid : Prop := modelScoresRow.holds Tryd.pinned (OpenSpec.ofChange modelScoresSpec)

/-- ITS FALSE NEIGHBOUR: 'it returns false'. Refute it at one input. -/
def modelScoresWrong : ChangeSpec := { name := "modelScores", fn := fun _ => fun
  | [d1, d2, d3] => { results := [.lit (.bool false)], args := [d1, d2, d3] }
  | _ => none }
def ModelScoresWrongFalsely : Prop := modelScoresRow.holds Tryd.pinned (OpenSpec.ofChange modelScoresWrong)

/-- 'grammarlablaw37.ModelValid': WHATEVER THE INPUT: true; the input reads as it did. -/
def modelValidSpec : ChangeSpec := { name := "modelValid", fn := fun _ => fun
  | [d1, d2, d3] => { results := [.lit (.bool true)], args := [d1, d2, d3] }
  | _ => none }
def modelValidRow : OpenClaim := { program := "ythgdajiipojnoaadoor", sum := "a66f089aadca4d5a89ec8936a952a530cf9bffd9d90f5a4408e1c95c7b0ac6ea", func := "grammarlab/grammarlablaw37.ModelValid", spec := "modelValid", inPlace := ["internal/abi.NoEscape", "internal/bytealg.MakeNoZero", "internal/bytealg.IndexByteString", "internal/bytealg.IndexString", "internal/bytealg.CountString"], unfollowed := true, recurses := true, named := ["internal/bytealg.MaxLen", "unicode/utf8.first", "unicode/utf8.acceptRanges"], loops := true, apart := false, laid := [("unicode/utf8.acceptRanges", laid_unicode_utf8_acceptRanges), ("unicode/utf8.first", laid_unicode_utf8_first)] }
def ModelValidSaid : Prop := modelValidRow.holds Tryd.pinned (OpenSpec.ofChange modelValidSpec)

/-- ITS FALSE NEIGHBOUR: 'it returns false'. Refute it at one input. -/
def modelValidWrong : ChangeSpec := { name := "modelValid", fn := fun _ => fun
  | [d1, d2, d3] => { results := [.lit (.bool false)], args := [d1, d2, d3] }
  | _ => none }
def ModelValidWrongFalsely : Prop := modelValidRow.holds Tryd.pinned (OpenSpec.ofChange modelValidWrong)

/-- 'grammarlablaw37.ModelGreatest': WHATEVER THE INPUT: true; the input reads as it did. -/
def modelGreatestSpec : ChangeSpec := { name := "modelGreatest", fn := fun _ => fun
  | [d1, d2] => { results := [.lit (.bool true)], args := [d1, d2] }
  | _ => none }
def modelGreatestRow : OpenClaim := { program := "ythgdajiipojnoaadoor", sum := "a66f089aadca4d5a89ec8936a952a530cf9bffd9d90f5a4408e1c95c7b0ac6ea", func := "grammarlab/grammarlablaw37.ModelGreatest", spec := "modelGreatest", inPlace := ["internal/abi.NoEscape", "internal/bytealg.MakeNoZero", "internal/bytealg.IndexByteString", "internal/bytealg.IndexString", "internal/bytealg.CountString"], unfollowed := true, recurses := true, named := ["internal/bytealg.MaxLen", "unicode/utf8.first", "unicode/utf8.acceptRanges"], loops := true, apart := false, laid := [("unicode/utf8.acceptRanges", laid_unicode_utf8_acceptRanges), ("unicode/utf8.first", laid_unicode_utf8_first)] }
def ModelGreatestSaid : Prop := modelGreatestRow.holds Tryd.pinned (OpenSpec.ofChange modelGreatestSpec)

/-- ITS FALSE NEIGHBOUR: 'it returns false'. Refute it at one input. -/
def modelGreatestWrong : ChangeSpec := { name := "modelGreatest", fn := fun _ => fun
  | [d1, d2] => { results := [.lit (.bool false)], args := [d1, d2] }
  | _ => none }
def ModelGreatestWrongFalsely : Prop := modelGreatestRow.holds Tryd.pinned (OpenSpec.ofChange modelGreatestWrong)

/-- 'grammarlablaw37.ModelAdds': WHATEVER THE INPUT: true; the input reads as it did. -/
def modelAddsSpec : ChangeSpec := { name := "modelAdds", fn := fun _ => fun
  | [d1, d2] => { results := [.lit (.bool true)], args := [d1, d2] }
  | _ => none }
def modelAddsRow : OpenClaim := { program := "ythgdajiipojnoaadoor", sum := "a66f089aadca4d5a89ec8936a952a530cf9bffd9d90f5a4408e1c95c7b0ac6ea", func := "grammarlab/grammarlablaw37.ModelAdds", spec := "modelAdds", inPlace := ["internal/abi.NoEscape", "internal/bytealg.MakeNoZero", "internal/bytealg.IndexByteString", "internal/bytealg.IndexString", "internal/bytealg.CountString"], unfollowed := true, recurses := true, named := ["internal/bytealg.MaxLen", "unicode/utf8.first", "unicode/utf8.acceptRanges"], loops := true, apart := false, laid := [("unicode/utf8.acceptRanges", laid_unicode_utf8_acceptRanges), ("unicode/utf8.first", laid_unicode_utf8_first)] }
def ModelAddsSaid : Prop := modelAddsRow.holds Tryd.pinned (OpenSpec.ofChange modelAddsSpec)

/-- ITS FALSE NEIGHBOUR: 'it returns false'. Refute it at one input. -/
def modelAddsWrong : ChangeSpec := { name := "modelAdds", fn := fun _ => fun
  | [d1, d2] => { results := [.lit (.bool false)], args := [d1, d2] }
  | _ => none }
def ModelAddsWrongFalsely : Prop := modelAddsRow.holds Tryd.pinned (OpenSpec.ofChange modelAddsWrong)

/-- 'grammarlablaw37.ModelStops': WHATEVER THE INPUT: true; the input reads as it did. -/
def modelStopsSpec : ChangeSpec := { name := "modelStops", fn := fun _ => fun
  | [d1, d2, d3] => { results := [.lit (.bool true)], args := [d1, d2, d3] }
  | _ => none }
def modelStopsRow : OpenClaim := { program := "ythgdajiipojnoaadoor", sum := "a66f089aadca4d5a89ec8936a952a530cf9bffd9d90f5a4408e1c95c7b0ac6ea", func := "grammarlab/grammarlablaw37.ModelStops", spec := "modelStops", inPlace := ["internal/abi.NoEscape", "internal/bytealg.MakeNoZero", "internal/bytealg.IndexByteString", "internal/bytealg.IndexString", "internal/bytealg.CountString"], unfollowed := true, recurses := true, named := ["internal/bytealg.MaxLen", "unicode/utf8.first", "unicode/utf8.acceptRanges"], loops := true, apart := false, laid := [("unicode/utf8.acceptRanges", laid_unicode_utf8_acceptRanges), ("unicode/utf8.first", laid_unicode_utf8_first)] }
def ModelStopsSaid : Prop := modelStopsRow.holds Tryd.pinned (OpenSpec.ofChange modelStopsSpec)

/-- ITS FALSE NEIGHBOUR: 'it returns false'. Refute it at one input. -/
def modelStopsWrong : ChangeSpec := { name := "modelStops", fn := fun _ => fun
  | [d1, d2, d3] => { results := [.lit (.bool false)], args := [d1, d2, d3] }
  | _ => none }
def ModelStopsWrongFalsely : Prop := modelStopsRow.holds Tryd.pinned (OpenSpec.ofChange modelStopsWrong)

/- THE SECOND FORM. 'bulk': how many values and letters a reading holds, each counted each time it is reached (what is shared counts as often as it is met; a slice's spare places count too). A statement '..UptoSaid' is the law's where the arguments, and the package variables that the reading takes, are together of bulk at most 1048576: NARROWER than '..Said'. Prove '..Said' where nothing that the law and all that it calls make is longer than what came in: it says more and counts as full. Else prove '..UptoSaid'. A law counts once. -/
mutual
def uptoBulk {H : Type} : DataW H → Nat
  | .lit (.string bytes) => bytes.length + 1
  | .lit _ => 1
  | .nil => 1
  | .ptr d => uptoBulk d + 1
  | .slice elems spare => uptoBulkAll elems + uptoBulkAll spare + 1
  | .agg parts => uptoBulkAll parts + 1
  | .iface _ d => uptoBulk d + 1
  | .map entries => uptoBulkEntries entries + 1
  | .held _ => 1
def uptoBulkAll {H : Type} : List (DataW H) → Nat
  | [] => 0
  | d :: r => uptoBulk d + uptoBulkAll r
def uptoBulkEntries {H : Type} : List (Lit × DataW H) → Nat
  | [] => 0
  | x :: r => uptoBulkEntry x + uptoBulkEntries r
def uptoBulkEntry {H : Type} : Lit × DataW H → Nat
  | (.string bytes, d) => bytes.length + uptoBulk d + 1
  | (_, d) => uptoBulk d + 1
 end
def uptoSmall : (H : Type) → List (DataW H) → Bool := fun _ ds => decide (uptoBulkAll ds ≤ 1048576)
def OpenSpec.upto (s : _root_.Go.ChangeSpec) : _root_.Go.OpenSpec := { _root_.Go.OpenSpec.ofChange s with cond := some uptoSmall }

/-- 'grammarlablaw37.ModelChecks', WHERE WHAT IT READS IS OF BULK AT MOST 1048576: true; the input reads as it did. -/
def modelChecksUptoRow : OpenClaim := { program := "ythgdajiipojnoaadoor", sum := "a66f089aadca4d5a89ec8936a952a530cf9bffd9d90f5a4408e1c95c7b0ac6ea", func := "grammarlab/grammarlablaw37.ModelChecks", spec := "modelChecks", inPlace := ["internal/abi.NoEscape", "internal/bytealg.MakeNoZero", "internal/bytealg.IndexByteString", "internal/bytealg.IndexString", "internal/bytealg.CountString"], unfollowed := true, recurses := true, named := ["internal/bytealg.MaxLen", "unicode/utf8.first", "unicode/utf8.acceptRanges"], apart := false, laid := [("unicode/utf8.acceptRanges", laid_unicode_utf8_acceptRanges), ("unicode/utf8.first", laid_unicode_utf8_first)], narrowed := true }
def ModelChecksUptoSaid : Prop := modelChecksUptoRow.holds Tryd.pinned (OpenSpec.upto modelChecksSpec)

/-- 'grammarlablaw37.ModelFeatures', WHERE WHAT IT READS IS OF BULK AT MOST 1048576: true; the input reads as it did. -/
def modelFeaturesUptoRow : OpenClaim := { program := "ythgdajiipojnoaadoor", sum := "a66f089aadca4d5a89ec8936a952a530cf9bffd9d90f5a4408e1c95c7b0ac6ea", func := "grammarlab/grammarlablaw37.ModelFeatures", spec := "modelFeatures", inPlace := ["internal/abi.NoEscape", "internal/bytealg.MakeNoZero", "internal/bytealg.IndexByteString", "internal/bytealg.IndexString", "internal/bytealg.CountString"], unfollowed := true, recurses := true, named := ["internal/bytealg.MaxLen", "unicode/utf8.first", "unicode/utf8.acceptRanges"], loops := true, apart := false, laid := [("unicode/utf8.acceptRanges", laid_unicode_utf8_acceptRanges), ("unicode/utf8.first", laid_unicode_utf8_first)], narrowed := true }
def ModelFeaturesUptoSaid : Prop := modelFeaturesUptoRow.holds Tryd.pinned (OpenSpec.upto modelFeaturesSpec)

/-- 'grammarlablaw37.ModelScores', WHERE WHAT IT READS IS OF BULK AT MOST 1048576: true; the input reads as it did. -/
def modelScoresUptoRow : OpenClaim := { program := "ythgdajiipojnoaadoor", sum := "a66f089aadca4d5a89ec8936a952a530cf9bffd9d90f5a4408e1c95c7b0ac6ea", func := "grammarlab/grammarlablaw37.ModelScores", spec := "modelScores", inPlace := ["internal/abi.NoEscape", "internal/bytealg.MakeNoZero", "internal/bytealg.IndexByteString", "internal/bytealg.IndexString", "internal/bytealg.CountString"], unfollowed := true, recurses := true, named := ["internal/bytealg.MaxLen", "unicode/utf8.first", "unicode/utf8.acceptRanges"], loops := true, apart := false, laid := [("unicode/utf8.acceptRanges", laid_unicode_utf8_acceptRanges), ("unicode/utf8.first", laid_unicode_utf8_first)], narrowed := true }
def ModelScoresUptoSaid : Prop := modelScoresUptoRow.holds Tryd.pinned (OpenSpec.upto modelScoresSpec)

/-- 'grammarlablaw37.ModelValid', WHERE WHAT IT READS IS OF BULK AT MOST 1048576: true; the input reads as it did. -/
def modelValidUptoRow : OpenClaim := { program := "ythgdajiipojnoaadoor", sum := "a66f089aadca4d5a89ec8936a952a530cf9bffd9d90f5a4408e1c95c7b0ac6ea", func := "grammarlab/grammarlablaw37.ModelValid", spec := "modelValid", inPlace := ["internal/abi.NoEscape", "internal/bytealg.MakeNoZero", "internal/bytealg.IndexByteString", "internal/bytealg.IndexString", "internal/bytealg.CountString"], unfollowed := true, recurses := true, named := ["internal/bytealg.MaxLen", "unicode/utf8.first", "unicode/utf8.acceptRanges"], loops := true, apart := false, laid := [("unicode/utf8.acceptRanges", laid_unicode_utf8_acceptRanges), ("unicode/utf8.first", laid_unicode_utf8_first)], narrowed := true }
def ModelValidUptoSaid : Prop := modelValidUptoRow.holds Tryd.pinned (OpenSpec.upto modelValidSpec)

/-- 'grammarlablaw37.ModelGreatest', WHERE WHAT IT READS IS OF BULK AT MOST 1048576: true; the input reads as it did. -/
def modelGreatestUptoRow : OpenClaim := { program := "ythgdajiipojnoaadoor", sum := "a66f089aadca4d5a89ec8936a952a530cf9bffd9d90f5a4408e1c95c7b0ac6ea", func := "grammarlab/grammarlablaw37.ModelGreatest", spec := "modelGreatest", inPlace := ["internal/abi.NoEscape", "internal/bytealg.MakeNoZero", "internal/bytealg.IndexByteString", "internal/bytealg.IndexString", "internal/bytealg.CountString"], unfollowed := true, recurses := true, named := ["internal/bytealg.MaxLen", "unicode/utf8.first", "unicode/utf8.acceptRanges"], loops := true, apart := false, laid := [("unicode/utf8.acceptRanges", laid_unicode_utf8_acceptRanges), ("unicode/utf8.first", laid_unicode_utf8_first)], narrowed := true }
def ModelGreatestUptoSaid : Prop := modelGreatestUptoRow.holds Tryd.pinned (OpenSpec.upto modelGreatestSpec)

/-- 'grammarlablaw37.ModelAdds', WHERE WHAT IT READS IS OF BULK AT MOST 1048576: true; the input reads as it did. -/
def modelAddsUptoRow : OpenClaim := { program := "ythgdajiipojnoaadoor", sum := "a66f089aadca4d5a89ec8936a952a530cf9bffd9d90f5a4408e1c95c7b0ac6ea", func := "grammarlab/grammarlablaw37.ModelAdds", spec := "modelAdds", inPlace := ["internal/abi.NoEscape", "internal/bytealg.MakeNoZero", "internal/bytealg.IndexByteString", "internal/bytealg.IndexString", "internal/bytealg.CountString"], unfollowed := true, recurses := true, named := ["internal/bytealg.MaxLen", "unicode/utf8.first", "unicode/utf8.acceptRanges"], loops := true, apart := false, laid := [("unicode/utf8.acceptRanges", laid_unicode_utf8_acceptRanges), ("unicode/utf8.first", laid_unicode_utf8_first)], narrowed := true }
def ModelAddsUptoSaid : Prop := modelAddsUptoRow.holds Tryd.pinned (OpenSpec.upto modelAddsSpec)

/-- 'grammarlablaw37.ModelStops', WHERE WHAT IT READS IS OF BULK AT MOST 1048576: true; the input reads as it did. -/
def modelStopsUptoRow : OpenClaim := { program := "ythgdajiipojnoaadoor", sum := "a66f089aadca4d5a89ec8936a952a530cf9bffd9d90f5a4408e1c95c7b0ac6ea", func := "grammarlab/grammarlablaw37.ModelStops", spec := "modelStops", inPlace := ["internal/abi.NoEscape", "internal/bytealg.MakeNoZero", "internal/bytealg.IndexByteString", "internal/bytealg.IndexString", "internal/bytealg.CountString"], unfollowed := true, recurses := true, named := ["internal/bytealg.MaxLen", "unicode/utf8.first", "unicode/utf8.acceptRanges"], loops := true, apart := false, laid := [("unicode/utf8.acceptRanges", laid_unicode_utf8_acceptRanges), ("unicode/utf8.first", laid_unicode_utf8_first)], narrowed := true }
def ModelStopsUptoSaid : Prop := modelStopsUptoRow.holds Tryd.pinned (OpenSpec.upto modelStopsSpec)

end Rows
end Go.Proofs.YthgdajiipojnoaaDoor

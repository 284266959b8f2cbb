/-
  No cell of these rows narrows 'for every input' (looked for: loops, veiled, ifaces, maps, wideKeys, modest, calm, conditions, laid).
  DERIVED. THE GIVEN ROWS OF THIS SEAT. 6 by the template 'for every input the law returns true; each argument reads behind the call as it read before'; 0 by the template 'total and deterministic' (their statements: YtolgbjbfhoffpaaTotals.lean).
  GIVEN WITH THE SEED: the statements are not yours to turn. If you find one false, say at which input.
  Laid BY PROGRAM, IN A SANDBOX (cutbox-rows.mjs): the forced cells as the released guide's own fill.sh prints them over the translation 2f40aa434d1c2839… (all of the seat's roots in one cut). By AI agents, Wed Nov 11 2026. No macro, syntax, notation, axiom, sorry.
-/
import Derived.Test.YtolgbjbfhoffpaaChecked
import GoSem.Claim
import GoSem.ClaimJoined
import GoSem.ClaimMapViews
import Derived.JoinedTies
import Derived.KernelRfl
namespace Go.Proofs.Ytolgbjbfhoffpaa
/- THE CELL 'sum', in the pinned program and in every row, IS THE sha256 OF THE DUMP (.gsa) THAT YtolgbjbfhoffpaaProg.lean LOADS. Nothing in Lean hashes anything: it is a label: what it is worth is what the hold of that sum in a sandbox is worth. -/
noncomputable def Try.pinned : Pinned := { name := "ytolgbjbfhoffpaa", sum := "2f40aa434d1c2839c7cbef8a11c5c0046e74a2d90ef953a4165af79b83633e89", checked := Try.checked }
namespace Rows
def none {H : Type} : Left H := { results := [], args := [] }

/-- 'grammarlablaw23.AffixChecks': WHATEVER THE INPUT: true; the input reads as it did. -/
def affixChecksSpec : ChangeSpec := { name := "affixChecks", fn := fun _ => fun
  | [d] => { results := [.lit (.bool true)], args := [d] }
  | _ => none }
def affixChecksRow : OpenClaim := { program := "ytolgbjbfhoffpaa", sum := "2f40aa434d1c2839c7cbef8a11c5c0046e74a2d90ef953a4165af79b83633e89", func := "grammarlab/grammarlablaw23.AffixChecks", spec := "affixChecks", unfollowed := true, recurses := true, apart := false }
def AffixChecksSaid : Prop := affixChecksRow.holds Try.pinned (OpenSpec.ofChange affixChecksSpec)

/-- ITS FALSE NEIGHBOUR: 'it returns false'. Refute it at one input. -/
def affixChecksWrong : ChangeSpec := { name := "affixChecks", fn := fun _ => fun
  | [d] => { results := [.lit (.bool false)], args := [d] }
  | _ => none }
def AffixChecksWrongFalsely : Prop := affixChecksRow.holds Try.pinned (OpenSpec.ofChange affixChecksWrong)

/-- 'grammarlablaw23.AffixApplies': WHATEVER THE INPUT: true; the input reads as it did. -/
def affixAppliesSpec : ChangeSpec := { name := "affixApplies", fn := fun _ => fun
  | [d1, d2] => { results := [.lit (.bool true)], args := [d1, d2] }
  | _ => none }
def affixAppliesRow : OpenClaim := { program := "ytolgbjbfhoffpaa", sum := "2f40aa434d1c2839c7cbef8a11c5c0046e74a2d90ef953a4165af79b83633e89", func := "grammarlab/grammarlablaw23.AffixApplies", spec := "affixApplies", unfollowed := true, recurses := true, apart := false }
def AffixAppliesSaid : Prop := affixAppliesRow.holds Try.pinned (OpenSpec.ofChange affixAppliesSpec)

/-- ITS FALSE NEIGHBOUR: 'it returns false'. Refute it at one input. -/
def affixAppliesWrong : ChangeSpec := { name := "affixApplies", fn := fun _ => fun
  | [d1, d2] => { results := [.lit (.bool false)], args := [d1, d2] }
  | _ => none }
def AffixAppliesWrongFalsely : Prop := affixAppliesRow.holds Try.pinned (OpenSpec.ofChange affixAppliesWrong)

/-- 'grammarlablaw23.AffixUndoes': WHATEVER THE INPUT: true; the input reads as it did. -/
def affixUndoesSpec : ChangeSpec := { name := "affixUndoes", fn := fun _ => fun
  | [d1, d2] => { results := [.lit (.bool true)], args := [d1, d2] }
  | _ => none }
def affixUndoesRow : OpenClaim := { program := "ytolgbjbfhoffpaa", sum := "2f40aa434d1c2839c7cbef8a11c5c0046e74a2d90ef953a4165af79b83633e89", func := "grammarlab/grammarlablaw23.AffixUndoes", spec := "affixUndoes", unfollowed := true, recurses := true, apart := false }
def AffixUndoesSaid : Prop := affixUndoesRow.holds Try.pinned (OpenSpec.ofChange affixUndoesSpec)

/-- ITS FALSE NEIGHBOUR: 'it returns false'. Refute it at one input. -/
def affixUndoesWrong : ChangeSpec := { name := "affixUndoes", fn := fun _ => fun
  | [d1, d2] => { results := [.lit (.bool false)], args := [d1, d2] }
  | _ => none }
def AffixUndoesWrongFalsely : Prop := affixUndoesRow.holds Try.pinned (OpenSpec.ofChange affixUndoesWrong)

/-- 'grammarlablaw23.AffixUndo': WHATEVER THE INPUT: true; the input reads as it did. -/
def affixUndoSpec : ChangeSpec := { name := "affixUndo", fn := fun _ => fun
  | [d1, d2, d3] => { results := [.lit (.bool true)], args := [d1, d2, d3] }
  | _ => none }
def affixUndoRow : OpenClaim := { program := "ytolgbjbfhoffpaa", sum := "2f40aa434d1c2839c7cbef8a11c5c0046e74a2d90ef953a4165af79b83633e89", func := "grammarlab/grammarlablaw23.AffixUndo", spec := "affixUndo", unfollowed := true, recurses := true, apart := false }
def AffixUndoSaid : Prop := affixUndoRow.holds Try.pinned (OpenSpec.ofChange affixUndoSpec)

/-- ITS FALSE NEIGHBOUR: 'it returns false'. Refute it at one input. -/
def affixUndoWrong : ChangeSpec := { name := "affixUndo", fn := fun _ => fun
  | [d1, d2, d3] => { results := [.lit (.bool false)], args := [d1, d2, d3] }
  | _ => none }
def AffixUndoWrongFalsely : Prop := affixUndoRow.holds Try.pinned (OpenSpec.ofChange affixUndoWrong)

/-- 'grammarlablaw23.AffixWords': WHATEVER THE INPUT: true; the input reads as it did. -/
def affixWordsSpec : ChangeSpec := { name := "affixWords", fn := fun _ => fun
  | [d1, d2] => { results := [.lit (.bool true)], args := [d1, d2] }
  | _ => none }
def affixWordsRow : OpenClaim := { program := "ytolgbjbfhoffpaa", sum := "2f40aa434d1c2839c7cbef8a11c5c0046e74a2d90ef953a4165af79b83633e89", func := "grammarlab/grammarlablaw23.AffixWords", spec := "affixWords", unfollowed := true, recurses := true, apart := false }
def AffixWordsSaid : Prop := affixWordsRow.holds Try.pinned (OpenSpec.ofChange affixWordsSpec)

/-- ITS FALSE NEIGHBOUR: 'it returns false'. Refute it at one input. -/
def affixWordsWrong : ChangeSpec := { name := "affixWords", fn := fun _ => fun
  | [d1, d2] => { results := [.lit (.bool false)], args := [d1, d2] }
  | _ => none }
def AffixWordsWrongFalsely : Prop := affixWordsRow.holds Try.pinned (OpenSpec.ofChange affixWordsWrong)

/-- 'grammarlablaw23.AffixForms': WHATEVER THE INPUT: true; the input reads as it did. -/
def affixFormsSpec : ChangeSpec := { name := "affixForms", fn := fun _ => fun
  | [d1, d2] => { results := [.lit (.bool true)], args := [d1, d2] }
  | _ => none }
def affixFormsRow : OpenClaim := { program := "ytolgbjbfhoffpaa", sum := "2f40aa434d1c2839c7cbef8a11c5c0046e74a2d90ef953a4165af79b83633e89", func := "grammarlab/grammarlablaw23.AffixForms", spec := "affixForms", unfollowed := true, recurses := true, apart := false }
def AffixFormsSaid : Prop := affixFormsRow.holds Try.pinned (OpenSpec.ofChange affixFormsSpec)

/-- ITS FALSE NEIGHBOUR: 'it returns false'. Refute it at one input. -/
def affixFormsWrong : ChangeSpec := { name := "affixForms", fn := fun _ => fun
  | [d1, d2] => { results := [.lit (.bool false)], args := [d1, d2] }
  | _ => none }
def AffixFormsWrongFalsely : Prop := affixFormsRow.holds Try.pinned (OpenSpec.ofChange affixFormsWrong)

/- THE SECOND FORM. 'bulk': how many values and letters a reading holds, each counted each time it is reached (what is shared counts as often as it is met; a slice's spare places count too). A statement '..UptoSaid' is the law's where the arguments, and the package variables that the reading takes, are together of bulk at most 1048576: NARROWER than '..Said'. Prove '..Said' where nothing that the law and all that it calls make is longer than what came in: it says more and counts as full. Else prove '..UptoSaid'. A law counts once. -/
mutual
def uptoBulk {H : Type} : DataW H → Nat
  | .lit (.string bytes) => bytes.length + 1
  | .lit _ => 1
  | .nil => 1
  | .ptr d => uptoBulk d + 1
  | .slice elems spare => uptoBulkAll elems + uptoBulkAll spare + 1
  | .agg parts => uptoBulkAll parts + 1
  | .iface _ d => uptoBulk d + 1
  | .map entries => uptoBulkEntries entries + 1
  | .held _ => 1
def uptoBulkAll {H : Type} : List (DataW H) → Nat
  | [] => 0
  | d :: r => uptoBulk d + uptoBulkAll r
def uptoBulkEntries {H : Type} : List (Lit × DataW H) → Nat
  | [] => 0
  | x :: r => uptoBulkEntry x + uptoBulkEntries r
def uptoBulkEntry {H : Type} : Lit × DataW H → Nat
  | (.string bytes, d) => bytes.length + uptoBulk d + 1
  | (_, d) => uptoBulk d + 1
 end
def uptoSmall : (H : Type) → List (DataW H) → Bool := fun _ ds => decide (uptoBulkAll ds ≤ 1048576)
def OpenSpec.upto (s : _root_.Go.ChangeSpec) : _root_.Go.OpenSpec := { _root_.Go.OpenSpec.ofChange s with cond := some uptoSmall }

/-- 'grammarlablaw23.AffixChecks', WHERE WHAT IT READS IS OF BULK AT MOST 1048576: true; the input reads as it did. -/
def affixChecksUptoRow : OpenClaim := { program := "ytolgbjbfhoffpaa", sum := "2f40aa434d1c2839c7cbef8a11c5c0046e74a2d90ef953a4165af79b83633e89", func := "grammarlab/grammarlablaw23.AffixChecks", spec := "affixChecks", unfollowed := true, recurses := true, apart := false, narrowed := true }
def AffixChecksUptoSaid : Prop := affixChecksUptoRow.holds Try.pinned (OpenSpec.upto affixChecksSpec)

/-- 'grammarlablaw23.AffixApplies', WHERE WHAT IT READS IS OF BULK AT MOST 1048576: true; the input reads as it did. -/
def affixAppliesUptoRow : OpenClaim := { program := "ytolgbjbfhoffpaa", sum := "2f40aa434d1c2839c7cbef8a11c5c0046e74a2d90ef953a4165af79b83633e89", func := "grammarlab/grammarlablaw23.AffixApplies", spec := "affixApplies", unfollowed := true, recurses := true, apart := false, narrowed := true }
def AffixAppliesUptoSaid : Prop := affixAppliesUptoRow.holds Try.pinned (OpenSpec.upto affixAppliesSpec)

/-- 'grammarlablaw23.AffixUndoes', WHERE WHAT IT READS IS OF BULK AT MOST 1048576: true; the input reads as it did. -/
def affixUndoesUptoRow : OpenClaim := { program := "ytolgbjbfhoffpaa", sum := "2f40aa434d1c2839c7cbef8a11c5c0046e74a2d90ef953a4165af79b83633e89", func := "grammarlab/grammarlablaw23.AffixUndoes", spec := "affixUndoes", unfollowed := true, recurses := true, apart := false, narrowed := true }
def AffixUndoesUptoSaid : Prop := affixUndoesUptoRow.holds Try.pinned (OpenSpec.upto affixUndoesSpec)

/-- 'grammarlablaw23.AffixUndo', WHERE WHAT IT READS IS OF BULK AT MOST 1048576: true; the input reads as it did. -/
def affixUndoUptoRow : OpenClaim := { program := "ytolgbjbfhoffpaa", sum := "2f40aa434d1c2839c7cbef8a11c5c0046e74a2d90ef953a4165af79b83633e89", func := "grammarlab/grammarlablaw23.AffixUndo", spec := "affixUndo", unfollowed := true, recurses := true, apart := false, narrowed := true }
def AffixUndoUptoSaid : Prop := affixUndoUptoRow.holds Try.pinned (OpenSpec.upto affixUndoSpec)

/-- 'grammarlablaw23.AffixWords', WHERE WHAT IT READS IS OF BULK AT MOST 1048576: true; the input reads as it did. -/
def affixWordsUptoRow : OpenClaim := { program := "ytolgbjbfhoffpaa", sum := "2f40aa434d1c2839c7cbef8a11c5c0046e74a2d90ef953a4165af79b83633e89", func := "grammarlab/grammarlablaw23.AffixWords", spec := "affixWords", unfollowed := true, recurses := true, apart := false, narrowed := true }
def AffixWordsUptoSaid : Prop := affixWordsUptoRow.holds Try.pinned (OpenSpec.upto affixWordsSpec)

/-- 'grammarlablaw23.AffixForms', WHERE WHAT IT READS IS OF BULK AT MOST 1048576: true; the input reads as it did. -/
def affixFormsUptoRow : OpenClaim := { program := "ytolgbjbfhoffpaa", sum := "2f40aa434d1c2839c7cbef8a11c5c0046e74a2d90ef953a4165af79b83633e89", func := "grammarlab/grammarlablaw23.AffixForms", spec := "affixForms", unfollowed := true, recurses := true, apart := false, narrowed := true }
def AffixFormsUptoSaid : Prop := affixFormsUptoRow.holds Try.pinned (OpenSpec.upto affixFormsSpec)

end Rows
end Go.Proofs.Ytolgbjbfhoffpaa

/-
  No cell of these rows narrows 'for every input' (looked for: loops, veiled, ifaces, maps, wideKeys, modest, calm, conditions, laid).
  DERIVED. THE GIVEN ROWS OF THIS SEAT. 7 by the template 'for every input the law returns true; each argument reads behind the call as it read before'; 0 by the template 'total and deterministic' (their statements: YtgmghembhenonaaTotals.lean).
  GIVEN WITH THE SEED: the statements are not yours to turn. If you find one false, say at which input.
  Laid BY PROGRAM, IN A SANDBOX (cutbox-rows.mjs): the forced cells as the released guide's own fill.sh prints them over the translation c640e2528910638d… (all of the seat's roots in one cut). By AI agents, Wed Nov 11 2026. No macro, syntax, notation, axiom, sorry.
-/
import Derived.Test.YtgmghembhenonaaChecked
import GoSem.Claim
import GoSem.ClaimJoined
import GoSem.ClaimMapViews
import Derived.JoinedTies
import Derived.KernelRfl
namespace Go.Proofs.Ytgmghembhenonaa
/- THE CELL 'sum', in the pinned program and in every row, IS THE sha256 OF THE DUMP (.gsa) THAT YtgmghembhenonaaProg.lean LOADS. Nothing in Lean hashes anything: it is a label: what it is worth is what the hold of that sum in a sandbox is worth. -/
noncomputable def Try.pinned : Pinned := { name := "ytgmghembhenonaa", sum := "c640e2528910638ded88179faa2f9530cd458996ebe5b87abfa2772feee11e3f", checked := Try.checked }
namespace Rows
def none {H : Type} : Left H := { results := [], args := [] }

/-- 'grammarlablaw24.LexiconChecks': WHATEVER THE INPUT: true; the input reads as it did. -/
def lexiconChecksSpec : ChangeSpec := { name := "lexiconChecks", fn := fun _ => fun
  | [d] => { results := [.lit (.bool true)], args := [d] }
  | _ => none }
def lexiconChecksRow : OpenClaim := { program := "ytgmghembhenonaa", sum := "c640e2528910638ded88179faa2f9530cd458996ebe5b87abfa2772feee11e3f", func := "grammarlab/grammarlablaw24.LexiconChecks", spec := "lexiconChecks", unfollowed := true, recurses := true, apart := false }
def LexiconChecksSaid : Prop := lexiconChecksRow.holds Try.pinned (OpenSpec.ofChange lexiconChecksSpec)

/-- ITS FALSE NEIGHBOUR: 'it returns false'. Refute it at one input. -/
def lexiconChecksWrong : ChangeSpec := { name := "lexiconChecks", fn := fun _ => fun
  | [d] => { results := [.lit (.bool false)], args := [d] }
  | _ => none }
def LexiconChecksWrongFalsely : Prop := lexiconChecksRow.holds Try.pinned (OpenSpec.ofChange lexiconChecksWrong)

/-- 'grammarlablaw24.LexiconFinds': WHATEVER THE INPUT: true; the input reads as it did. -/
def lexiconFindsSpec : ChangeSpec := { name := "lexiconFinds", fn := fun _ => fun
  | [d1, d2] => { results := [.lit (.bool true)], args := [d1, d2] }
  | _ => none }
def lexiconFindsRow : OpenClaim := { program := "ytgmghembhenonaa", sum := "c640e2528910638ded88179faa2f9530cd458996ebe5b87abfa2772feee11e3f", func := "grammarlab/grammarlablaw24.LexiconFinds", spec := "lexiconFinds", unfollowed := true, recurses := true, apart := false }
def LexiconFindsSaid : Prop := lexiconFindsRow.holds Try.pinned (OpenSpec.ofChange lexiconFindsSpec)

/-- ITS FALSE NEIGHBOUR: 'it returns false'. Refute it at one input. -/
def lexiconFindsWrong : ChangeSpec := { name := "lexiconFinds", fn := fun _ => fun
  | [d1, d2] => { results := [.lit (.bool false)], args := [d1, d2] }
  | _ => none }
def LexiconFindsWrongFalsely : Prop := lexiconFindsRow.holds Try.pinned (OpenSpec.ofChange lexiconFindsWrong)

/-- 'grammarlablaw24.LexiconForms': WHATEVER THE INPUT: true; the input reads as it did. -/
def lexiconFormsSpec : ChangeSpec := { name := "lexiconForms", fn := fun _ => fun
  | [d1, d2, d3] => { results := [.lit (.bool true)], args := [d1, d2, d3] }
  | _ => none }
def lexiconFormsRow : OpenClaim := { program := "ytgmghembhenonaa", sum := "c640e2528910638ded88179faa2f9530cd458996ebe5b87abfa2772feee11e3f", func := "grammarlab/grammarlablaw24.LexiconForms", spec := "lexiconForms", unfollowed := true, recurses := true, apart := false }
def LexiconFormsSaid : Prop := lexiconFormsRow.holds Try.pinned (OpenSpec.ofChange lexiconFormsSpec)

/-- ITS FALSE NEIGHBOUR: 'it returns false'. Refute it at one input. -/
def lexiconFormsWrong : ChangeSpec := { name := "lexiconForms", fn := fun _ => fun
  | [d1, d2, d3] => { results := [.lit (.bool false)], args := [d1, d2, d3] }
  | _ => none }
def LexiconFormsWrongFalsely : Prop := lexiconFormsRow.holds Try.pinned (OpenSpec.ofChange lexiconFormsWrong)

/-- 'grammarlablaw24.LexiconAnalyses': WHATEVER THE INPUT: true; the input reads as it did. -/
def lexiconAnalysesSpec : ChangeSpec := { name := "lexiconAnalyses", fn := fun _ => fun
  | [d1, d2, d3] => { results := [.lit (.bool true)], args := [d1, d2, d3] }
  | _ => none }
def lexiconAnalysesRow : OpenClaim := { program := "ytgmghembhenonaa", sum := "c640e2528910638ded88179faa2f9530cd458996ebe5b87abfa2772feee11e3f", func := "grammarlab/grammarlablaw24.LexiconAnalyses", spec := "lexiconAnalyses", unfollowed := true, recurses := true, apart := false }
def LexiconAnalysesSaid : Prop := lexiconAnalysesRow.holds Try.pinned (OpenSpec.ofChange lexiconAnalysesSpec)

/-- ITS FALSE NEIGHBOUR: 'it returns false'. Refute it at one input. -/
def lexiconAnalysesWrong : ChangeSpec := { name := "lexiconAnalyses", fn := fun _ => fun
  | [d1, d2, d3] => { results := [.lit (.bool false)], args := [d1, d2, d3] }
  | _ => none }
def LexiconAnalysesWrongFalsely : Prop := lexiconAnalysesRow.holds Try.pinned (OpenSpec.ofChange lexiconAnalysesWrong)

/-- 'grammarlablaw24.LexiconBack': WHATEVER THE INPUT: true; the input reads as it did. -/
def lexiconBackSpec : ChangeSpec := { name := "lexiconBack", fn := fun _ => fun
  | [d1, d2, d3] => { results := [.lit (.bool true)], args := [d1, d2, d3] }
  | _ => none }
def lexiconBackRow : OpenClaim := { program := "ytgmghembhenonaa", sum := "c640e2528910638ded88179faa2f9530cd458996ebe5b87abfa2772feee11e3f", func := "grammarlab/grammarlablaw24.LexiconBack", spec := "lexiconBack", unfollowed := true, recurses := true, apart := false }
def LexiconBackSaid : Prop := lexiconBackRow.holds Try.pinned (OpenSpec.ofChange lexiconBackSpec)

/-- ITS FALSE NEIGHBOUR: 'it returns false'. Refute it at one input. -/
def lexiconBackWrong : ChangeSpec := { name := "lexiconBack", fn := fun _ => fun
  | [d1, d2, d3] => { results := [.lit (.bool false)], args := [d1, d2, d3] }
  | _ => none }
def LexiconBackWrongFalsely : Prop := lexiconBackRow.holds Try.pinned (OpenSpec.ofChange lexiconBackWrong)

/-- 'grammarlablaw24.LexiconOnce': WHATEVER THE INPUT: true; the input reads as it did. -/
def lexiconOnceSpec : ChangeSpec := { name := "lexiconOnce", fn := fun _ => fun
  | [d1, d2, d3] => { results := [.lit (.bool true)], args := [d1, d2, d3] }
  | _ => none }
def lexiconOnceRow : OpenClaim := { program := "ytgmghembhenonaa", sum := "c640e2528910638ded88179faa2f9530cd458996ebe5b87abfa2772feee11e3f", func := "grammarlab/grammarlablaw24.LexiconOnce", spec := "lexiconOnce", unfollowed := true, recurses := true, apart := false }
def LexiconOnceSaid : Prop := lexiconOnceRow.holds Try.pinned (OpenSpec.ofChange lexiconOnceSpec)

/-- ITS FALSE NEIGHBOUR: 'it returns false'. Refute it at one input. -/
def lexiconOnceWrong : ChangeSpec := { name := "lexiconOnce", fn := fun _ => fun
  | [d1, d2, d3] => { results := [.lit (.bool false)], args := [d1, d2, d3] }
  | _ => none }
def LexiconOnceWrongFalsely : Prop := lexiconOnceRow.holds Try.pinned (OpenSpec.ofChange lexiconOnceWrong)

/-- 'grammarlablaw24.LexiconGrows': WHATEVER THE INPUT: true; the input reads as it did. -/
def lexiconGrowsSpec : ChangeSpec := { name := "lexiconGrows", fn := fun _ => fun
  | [d1, d2, d3] => { results := [.lit (.bool true)], args := [d1, d2, d3] }
  | _ => none }
def lexiconGrowsRow : OpenClaim := { program := "ytgmghembhenonaa", sum := "c640e2528910638ded88179faa2f9530cd458996ebe5b87abfa2772feee11e3f", func := "grammarlab/grammarlablaw24.LexiconGrows", spec := "lexiconGrows", unfollowed := true, recurses := true, apart := false }
def LexiconGrowsSaid : Prop := lexiconGrowsRow.holds Try.pinned (OpenSpec.ofChange lexiconGrowsSpec)

/-- ITS FALSE NEIGHBOUR: 'it returns false'. Refute it at one input. -/
def lexiconGrowsWrong : ChangeSpec := { name := "lexiconGrows", fn := fun _ => fun
  | [d1, d2, d3] => { results := [.lit (.bool false)], args := [d1, d2, d3] }
  | _ => none }
def LexiconGrowsWrongFalsely : Prop := lexiconGrowsRow.holds Try.pinned (OpenSpec.ofChange lexiconGrowsWrong)

/- THE SECOND FORM. 'bulk': how many values and letters a reading holds, each counted each time it is reached (what is shared counts as often as it is met; a slice's spare places count too). A statement '..UptoSaid' is the law's where the arguments, and the package variables that the reading takes, are together of bulk at most 1048576: NARROWER than '..Said'. Prove '..Said' where nothing that the law and all that it calls make is longer than what came in: it says more and counts as full. Else prove '..UptoSaid'. A law counts once. -/
mutual
def uptoBulk {H : Type} : DataW H → Nat
  | .lit (.string bytes) => bytes.length + 1
  | .lit _ => 1
  | .nil => 1
  | .ptr d => uptoBulk d + 1
  | .slice elems spare => uptoBulkAll elems + uptoBulkAll spare + 1
  | .agg parts => uptoBulkAll parts + 1
  | .iface _ d => uptoBulk d + 1
  | .map entries => uptoBulkEntries entries + 1
  | .held _ => 1
def uptoBulkAll {H : Type} : List (DataW H) → Nat
  | [] => 0
  | d :: r => uptoBulk d + uptoBulkAll r
def uptoBulkEntries {H : Type} : List (Lit × DataW H) → Nat
  | [] => 0
  | x :: r => uptoBulkEntry x + uptoBulkEntries r
def uptoBulkEntry {H : Type} : Lit × DataW H → Nat
  | (.string bytes, d) => bytes.length + uptoBulk d + 1
  | (_, d) => uptoBulk d + 1
 end
def uptoSmall : (H : Type) → List (DataW H) → Bool := fun _ ds => decide (uptoBulkAll ds ≤ 1048576)
def OpenSpec.upto (s : _root_.Go.ChangeSpec) : _root_.Go.OpenSpec := { _root_.Go.OpenSpec.ofChange s with cond := some uptoSmall }

/-- 'grammarlablaw24.LexiconChecks', WHERE WHAT IT READS IS OF BULK AT MOST 1048576: true; the input reads as it did. -/
def lexiconChecksUptoRow : OpenClaim := { program := "ytgmghembhenonaa", sum := "c640e2528910638ded88179faa2f9530cd458996ebe5b87abfa2772feee11e3f", func := "grammarlab/grammarlablaw24.LexiconChecks", spec := "lexiconChecks", unfollowed := true, recurses := true, apart := false, narrowed := true }
def LexiconChecksUptoSaid : Prop := lexiconChecksUptoRow.holds Try.pinned (OpenSpec.upto lexiconChecksSpec)

/-- 'grammarlablaw24.LexiconFinds', WHERE WHAT IT READS IS OF BULK AT MOST 1048576: true; the input reads as it did. -/
def lexiconFindsUptoRow : OpenClaim := { program := "ytgmghembhenonaa", sum := "c640e2528910638ded88179faa2f9530cd458996ebe5b87abfa2772feee11e3f", func := "grammarlab/grammarlablaw24.LexiconFinds", spec := "lexiconFinds", unfollowed := true, recurses := true, apart := false, narrowed := true }
def LexiconFindsUptoSaid : Prop := lexiconFindsUptoRow.holds Try.pinned (OpenSpec.upto lexiconFindsSpec)

/-- 'grammarlablaw24.LexiconForms', WHERE WHAT IT READS IS OF BULK AT MOST 1048576: true; the input reads as it did. -/
def lexiconFormsUptoRow : OpenClaim := { program := "ytgmghembhenonaa", sum := "c640e2528910638ded88179faa2f9530cd458996ebe5b87abfa2772feee11e3f", func := "grammarlab/grammarlablaw24.LexiconForms", spec := "lexiconForms", unfollowed := true, recurses := true, apart := false, narrowed := true }
def LexiconFormsUptoSaid : Prop := lexiconFormsUptoRow.holds Try.pinned (OpenSpec.upto lexiconFormsSpec)

/-- 'grammarlablaw24.LexiconAnalyses', WHERE WHAT IT READS IS OF BULK AT MOST 1048576: true; the input reads as it did. -/
def lexiconAnalysesUptoRow : OpenClaim := { program := "ytgmghembhenonaa", sum := "c640e2528910638ded88179faa2f9530cd458996ebe5b87abfa2772feee11e3f", func := "grammarlab/grammarlablaw24.LexiconAnalyses", spec := "lexiconAnalyses", unfollowed := true, recurses := true, apart := false, narrowed := true }
def LexiconAnalysesUptoSaid : Prop := lexiconAnalysesUptoRow.holds Try.pinned (OpenSpec.upto lexiconAnalysesSpec)

/-- 'grammarlablaw24.LexiconBack', WHERE WHAT IT READS IS OF BULK AT MOST 1048576: true; the input reads as it did. -/
def lexiconBackUptoRow : OpenClaim := { program := "ytgmghembhenonaa", sum := "c640e2528910638ded88179faa2f9530cd458996ebe5b87abfa2772feee11e3f", func := "grammarlab/grammarlablaw24.LexiconBack", spec := "lexiconBack", unfollowed := true, recurses := true, apart := false, narrowed := true }
def LexiconBackUptoSaid : Prop := lexiconBackUptoRow.holds Try.pinned (OpenSpec.upto lexiconBackSpec)

/-- 'grammarlablaw24.LexiconOnce', WHERE WHAT IT READS IS OF BULK AT MOST 1048576: true; the input reads as it did. -/
def lexiconOnceUptoRow : OpenClaim := { program := "ytgmghembhenonaa", sum := "c640e2528910638ded88179faa2f9530cd458996ebe5b87abfa2772feee11e3f", func := "grammarlab/grammarlablaw24.LexiconOnce", spec := "lexiconOnce", unfollowed := true, recurses := true, apart := false, narrowed := true }
def LexiconOnceUptoSaid : Prop := lexiconOnceUptoRow.holds Try.pinned (OpenSpec.upto lexiconOnceSpec)

/-- 'grammarlablaw24.LexiconGrows', WHERE WHAT IT READS IS OF BULK AT MOST 1048576: true; the input reads as it did. -/
def lexiconGrowsUptoRow : OpenClaim := { program := "ytgmghembhenonaa", sum := "c640e2528910638ded88179faa2f9530cd458996ebe5b87abfa2772feee11e3f", func := "grammarlab/grammarlablaw24.LexiconGrows", spec := "lexiconGrows", unfollowed := true, recurses := true, apart := false, narrowed := true }
def LexiconGrowsUptoSaid : Prop := lexiconGrowsUptoRow.holds Try.pinned (OpenSpec.upto lexiconGrowsSpec)

end Rows
end Go.Proofs.Ytgmghembhenonaa

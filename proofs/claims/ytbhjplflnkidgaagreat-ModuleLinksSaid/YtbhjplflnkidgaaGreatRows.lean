/-
  NARROWER THAN 'FOR EVERY INPUT', by the rows' own cells (each row's printed sentence says how): ModuleOrders: loops · ModuleVisibles: loops · ModuleLinks: loops · ModuleOrder: loops · ModuleAgain: loops · ModuleImports: loops · ModuleUnused: loops.
  DERIVED. THE GIVEN ROWS OF THIS SEAT. 7 by the template 'for every input the law returns true; each argument reads behind the call as it read before'; 0 by the template 'total and deterministic' (their statements: YtbhjplflnkidgaaGreatTotals.lean).
  GIVEN WITH THE SEED: the statements are not yours to turn. If you find one false, say at which input.
  Laid BY PROGRAM, IN A SANDBOX (cutbox-rows.mjs): the forced cells as the released guide's own fill.sh prints them over the translation 75280077bf48c05e… (all of the seat's roots in one cut). By AI agents, Wed Nov 11 2026. No macro, syntax, notation, axiom, sorry.
-/
import Derived.Test.YtbhjplflnkidgaaGreatChecked
import GoSem.Claim
import GoSem.ClaimJoined
import GoSem.ClaimMapViews
import Derived.JoinedTies
import Derived.KernelRfl
namespace Go.Proofs.YtbhjplflnkidgaaGreat
/- THE CELL 'sum', in the pinned program and in every row, IS THE sha256 OF THE DUMP (.gsa) THAT YtbhjplflnkidgaaGreatProg.lean LOADS. Nothing in Lean hashes anything: it is a label: what it is worth is what the hold of that sum in a sandbox is worth. -/
noncomputable def Tryz.pinned : Pinned := { name := "ytbhjplflnkidgaagreat", sum := "75280077bf48c05ef1a090976dd4b39acdab29fea7d798b54615c9c6e1ccc264", checked := Tryz.checked }
namespace Rows
def none {H : Type} : Left H := { results := [], args := [] }

/-- 'grammarlablaw22.ModuleOrders': WHATEVER THE INPUT: true; the input reads as it did. -/
def moduleOrdersSpec : ChangeSpec := { name := "moduleOrders", fn := fun _ => fun
  | [d1, d2] => { results := [.lit (.bool true)], args := [d1, d2] }
  | _ => none }
def moduleOrdersRow : OpenClaim := { program := "ytbhjplflnkidgaagreat", sum := "75280077bf48c05ef1a090976dd4b39acdab29fea7d798b54615c9c6e1ccc264", func := "grammarlab/grammarlablaw22.ModuleOrders", spec := "moduleOrders", unfollowed := true, recurses := true, loops := true, apart := false }
def ModuleOrdersSaid : Prop := moduleOrdersRow.holds Tryz.pinned (OpenSpec.ofChange moduleOrdersSpec)

/-- ITS FALSE NEIGHBOUR: 'it returns false'. Refute it at one input. -/
def moduleOrdersWrong : ChangeSpec := { name := "moduleOrders", fn := fun _ => fun
  | [d1, d2] => { results := [.lit (.bool false)], args := [d1, d2] }
  | _ => none }
def ModuleOrdersWrongFalsely : Prop := moduleOrdersRow.holds Tryz.pinned (OpenSpec.ofChange moduleOrdersWrong)

/-- 'grammarlablaw22.ModuleVisibles': WHATEVER THE INPUT: true; the input reads as it did. -/
def moduleVisiblesSpec : ChangeSpec := { name := "moduleVisibles", fn := fun _ => fun
  | [d1, d2] => { results := [.lit (.bool true)], args := [d1, d2] }
  | _ => none }
def moduleVisiblesRow : OpenClaim := { program := "ytbhjplflnkidgaagreat", sum := "75280077bf48c05ef1a090976dd4b39acdab29fea7d798b54615c9c6e1ccc264", func := "grammarlab/grammarlablaw22.ModuleVisibles", spec := "moduleVisibles", unfollowed := true, recurses := true, loops := true, apart := false }
def ModuleVisiblesSaid : Prop := moduleVisiblesRow.holds Tryz.pinned (OpenSpec.ofChange moduleVisiblesSpec)

/-- ITS FALSE NEIGHBOUR: 'it returns false'. Refute it at one input. -/
def moduleVisiblesWrong : ChangeSpec := { name := "moduleVisibles", fn := fun _ => fun
  | [d1, d2] => { results := [.lit (.bool false)], args := [d1, d2] }
  | _ => none }
def ModuleVisiblesWrongFalsely : Prop := moduleVisiblesRow.holds Tryz.pinned (OpenSpec.ofChange moduleVisiblesWrong)

/-- 'grammarlablaw22.ModuleLinks': WHATEVER THE INPUT: true; the input reads as it did. -/
def moduleLinksSpec : ChangeSpec := { name := "moduleLinks", fn := fun _ => fun
  | [d1, d2] => { results := [.lit (.bool true)], args := [d1, d2] }
  | _ => none }
def moduleLinksRow : OpenClaim := { program := "ytbhjplflnkidgaagreat", sum := "75280077bf48c05ef1a090976dd4b39acdab29fea7d798b54615c9c6e1ccc264", func := "grammarlab/grammarlablaw22.ModuleLinks", spec := "moduleLinks", unfollowed := true, recurses := true, loops := true, apart := false }
def ModuleLinksSaid : Prop := moduleLinksRow.holds Tryz.pinned (OpenSpec.ofChange moduleLinksSpec)

/-- ITS FALSE NEIGHBOUR: 'it returns false'. Refute it at one input. -/
def moduleLinksWrong : ChangeSpec := { name := "moduleLinks", fn := fun _ => fun
  | [d1, d2] => { results := [.lit (.bool false)], args := [d1, d2] }
  | _ => none }
def ModuleLinksWrongFalsely : Prop := moduleLinksRow.holds Tryz.pinned (OpenSpec.ofChange moduleLinksWrong)

/-- 'grammarlablaw22.ModuleOrder': WHATEVER THE INPUT: true; the input reads as it did. -/
def moduleOrderSpec : ChangeSpec := { name := "moduleOrder", fn := fun _ => fun
  | [d1, d2, d3] => { results := [.lit (.bool true)], args := [d1, d2, d3] }
  | _ => none }
def moduleOrderRow : OpenClaim := { program := "ytbhjplflnkidgaagreat", sum := "75280077bf48c05ef1a090976dd4b39acdab29fea7d798b54615c9c6e1ccc264", func := "grammarlab/grammarlablaw22.ModuleOrder", spec := "moduleOrder", unfollowed := true, recurses := true, loops := true, apart := false }
def ModuleOrderSaid : Prop := moduleOrderRow.holds Tryz.pinned (OpenSpec.ofChange moduleOrderSpec)

/-- ITS FALSE NEIGHBOUR: 'it returns false'. Refute it at one input. -/
def moduleOrderWrong : ChangeSpec := { name := "moduleOrder", fn := fun _ => fun
  | [d1, d2, d3] => { results := [.lit (.bool false)], args := [d1, d2, d3] }
  | _ => none }
def ModuleOrderWrongFalsely : Prop := moduleOrderRow.holds Tryz.pinned (OpenSpec.ofChange moduleOrderWrong)

/-- 'grammarlablaw22.ModuleAgain': WHATEVER THE INPUT: true; the input reads as it did. -/
def moduleAgainSpec : ChangeSpec := { name := "moduleAgain", fn := fun _ => fun
  | [d1, d2] => { results := [.lit (.bool true)], args := [d1, d2] }
  | _ => none }
def moduleAgainRow : OpenClaim := { program := "ytbhjplflnkidgaagreat", sum := "75280077bf48c05ef1a090976dd4b39acdab29fea7d798b54615c9c6e1ccc264", func := "grammarlab/grammarlablaw22.ModuleAgain", spec := "moduleAgain", unfollowed := true, recurses := true, loops := true, apart := false }
def ModuleAgainSaid : Prop := moduleAgainRow.holds Tryz.pinned (OpenSpec.ofChange moduleAgainSpec)

/-- ITS FALSE NEIGHBOUR: 'it returns false'. Refute it at one input. -/
def moduleAgainWrong : ChangeSpec := { name := "moduleAgain", fn := fun _ => fun
  | [d1, d2] => { results := [.lit (.bool false)], args := [d1, d2] }
  | _ => none }
def ModuleAgainWrongFalsely : Prop := moduleAgainRow.holds Tryz.pinned (OpenSpec.ofChange moduleAgainWrong)

/-- 'grammarlablaw22.ModuleImports': WHATEVER THE INPUT: true; the input reads as it did. -/
def moduleImportsSpec : ChangeSpec := { name := "moduleImports", fn := fun _ => fun
  | [d1, d2] => { results := [.lit (.bool true)], args := [d1, d2] }
  | _ => none }
def moduleImportsRow : OpenClaim := { program := "ytbhjplflnkidgaagreat", sum := "75280077bf48c05ef1a090976dd4b39acdab29fea7d798b54615c9c6e1ccc264", func := "grammarlab/grammarlablaw22.ModuleImports", spec := "moduleImports", unfollowed := true, recurses := true, loops := true, apart := false }
def ModuleImportsSaid : Prop := moduleImportsRow.holds Tryz.pinned (OpenSpec.ofChange moduleImportsSpec)

/-- ITS FALSE NEIGHBOUR: 'it returns false'. Refute it at one input. -/
def moduleImportsWrong : ChangeSpec := { name := "moduleImports", fn := fun _ => fun
  | [d1, d2] => { results := [.lit (.bool false)], args := [d1, d2] }
  | _ => none }
def ModuleImportsWrongFalsely : Prop := moduleImportsRow.holds Tryz.pinned (OpenSpec.ofChange moduleImportsWrong)

/-- 'grammarlablaw22.ModuleUnused': WHATEVER THE INPUT: true; the input reads as it did. -/
def moduleUnusedSpec : ChangeSpec := { name := "moduleUnused", fn := fun _ => fun
  | [d1, d2] => { results := [.lit (.bool true)], args := [d1, d2] }
  | _ => none }
def moduleUnusedRow : OpenClaim := { program := "ytbhjplflnkidgaagreat", sum := "75280077bf48c05ef1a090976dd4b39acdab29fea7d798b54615c9c6e1ccc264", func := "grammarlab/grammarlablaw22.ModuleUnused", spec := "moduleUnused", unfollowed := true, recurses := true, loops := true, apart := false }
def ModuleUnusedSaid : Prop := moduleUnusedRow.holds Tryz.pinned (OpenSpec.ofChange moduleUnusedSpec)

/-- ITS FALSE NEIGHBOUR: 'it returns false'. Refute it at one input. -/
def moduleUnusedWrong : ChangeSpec := { name := "moduleUnused", fn := fun _ => fun
  | [d1, d2] => { results := [.lit (.bool false)], args := [d1, d2] }
  | _ => none }
def ModuleUnusedWrongFalsely : Prop := moduleUnusedRow.holds Tryz.pinned (OpenSpec.ofChange moduleUnusedWrong)

/- THE SECOND FORM. 'bulk': how many values and letters a reading holds, each counted each time it is reached (what is shared counts as often as it is met; a slice's spare places count too). A statement '..UptoSaid' is the law's where the arguments, and the package variables that the reading takes, are together of bulk at most 1048576: NARROWER than '..Said'. Prove '..Said' where nothing that the law and all that it calls make is longer than what came in: it says more and counts as full. Else prove '..UptoSaid'. A law counts once. -/
mutual
def uptoBulk {H : Type} : DataW H → Nat
  | .lit (.string bytes) => bytes.length + 1
  | .lit _ => 1
  | .nil => 1
  | .ptr d => uptoBulk d + 1
  | .slice elems spare => uptoBulkAll elems + uptoBulkAll spare + 1
  | .agg parts => uptoBulkAll parts + 1
  | .iface _ d => uptoBulk d + 1
  | .map entries => uptoBulkEntries entries + 1
  | .held _ => 1
def uptoBulkAll {H : Type} : List (DataW H) → Nat
  | [] => 0
  | d :: r => uptoBulk d + uptoBulkAll r
def uptoBulkEntries {H : Type} : List (Lit × DataW H) → Nat
  | [] => 0
  | x :: r => uptoBulkEntry x + uptoBulkEntries r
def uptoBulkEntry {H : Type} : Lit × DataW H → Nat
  | (.string bytes, d) => bytes.length + uptoBulk d + 1
  | (_, d) => uptoBulk d + 1
 end
def uptoSmall : (H : Type) → List (DataW H) → Bool := fun _ ds => decide (uptoBulkAll ds ≤ 1048576)
def OpenSpec.upto (s : _root_.Go.ChangeSpec) : _root_.Go.OpenSpec := { _root_.Go.OpenSpec.ofChange s with cond := some uptoSmall }

/-- 'grammarlablaw22.ModuleOrders', WHERE WHAT IT READS IS OF BULK AT MOST 1048576: true; the input reads as it did. -/
def moduleOrdersUptoRow : OpenClaim := { program := "ytbhjplflnkidgaagreat", sum := "75280077bf48c05ef1a090976dd4b39acdab29fea7d798b54615c9c6e1ccc264", func := "grammarlab/grammarlablaw22.ModuleOrders", spec := "moduleOrders", unfollowed := true, recurses := true, loops := true, apart := false, narrowed := true }
def ModuleOrdersUptoSaid : Prop := moduleOrdersUptoRow.holds Tryz.pinned (OpenSpec.upto moduleOrdersSpec)

/-- 'grammarlablaw22.ModuleVisibles', WHERE WHAT IT READS IS OF BULK AT MOST 1048576: true; the input reads as it did. -/
def moduleVisiblesUptoRow : OpenClaim := { program := "ytbhjplflnkidgaagreat", sum := "75280077bf48c05ef1a090976dd4b39acdab29fea7d798b54615c9c6e1ccc264", func := "grammarlab/grammarlablaw22.ModuleVisibles", spec := "moduleVisibles", unfollowed := true, recurses := true, loops := true, apart := false, narrowed := true }
def ModuleVisiblesUptoSaid : Prop := moduleVisiblesUptoRow.holds Tryz.pinned (OpenSpec.upto moduleVisiblesSpec)

/-- 'grammarlablaw22.ModuleLinks', WHERE WHAT IT READS IS OF BULK AT MOST 1048576: true; the input reads as it did. -/
def moduleLinksUptoRow : OpenClaim := { program := "ytbhjplflnkidgaagreat", sum := "75280077bf48c05ef1a090976dd4b39acdab29fea7d798b54615c9c6e1ccc264", func := "grammarlab/grammarlablaw22.ModuleLinks", spec := "moduleLinks", unfollowed := true, recurses := true, loops := true, apart := false, narrowed := true }
def ModuleLinksUptoSaid : Prop := moduleLinksUptoRow.holds Tryz.pinned (OpenSpec.upto moduleLinksSpec)

/-- 'grammarlablaw22.ModuleOrder', WHERE WHAT IT READS IS OF BULK AT MOST 1048576: true; the input reads as it did. -/
def moduleOrderUptoRow : OpenClaim := { program := "ytbhjplflnkidgaagreat", sum := "75280077bf48c05ef1a090976dd4b39acdab29fea7d798b54615c9c6e1ccc264", func := "grammarlab/grammarlablaw22.ModuleOrder", spec := "moduleOrder", unfollowed := true, recurses := true, loops := true, apart := false, narrowed := true }
def ModuleOrderUptoSaid : Prop := moduleOrderUptoRow.holds Tryz.pinned (OpenSpec.upto moduleOrderSpec)

/-- 'grammarlablaw22.ModuleAgain', WHERE WHAT IT READS IS OF BULK AT MOST 1048576: true; the input reads as it did. -/
def moduleAgainUptoRow : OpenClaim := { program := "ytbhjplflnkidgaagreat", sum := "75280077bf48c05ef1a090976dd4b39acdab29fea7d798b54615c9c6e1ccc264", func := "grammarlab/grammarlablaw22.ModuleAgain", spec := "moduleAgain", unfollowed := true, recurses := true, loops := true, apart := false, narrowed := true }
def ModuleAgainUptoSaid : Prop := moduleAgainUptoRow.holds Tryz.pinned (OpenSpec.upto moduleAgainSpec)

/-- 'grammarlablaw22.ModuleImports', WHERE WHAT IT READS IS OF BULK AT MOST 1048576: true; the input reads as it did. -/
def moduleImportsUptoRow : OpenClaim := { program := "ytbhjplflnkidgaagreat", sum := "75280077bf48c05ef1a090976dd4b39acdab29fea7d798b54615c9c6e1ccc264", func := "grammarlab/grammarlablaw22.ModuleImports", spec := "moduleImports", unfollowed := true, recurses := true, loops := true, apart := false, narrowed := true }
def ModuleImportsUptoSaid : Prop := moduleImportsUptoRow.holds Tryz.pinned (OpenSpec.upto moduleImportsSpec)

/-- 'grammarlablaw22.ModuleUnused', WHERE WHAT IT READS IS OF BULK AT MOST 1048576: true; the input reads as it did. -/
def moduleUnusedUptoRow : OpenClaim := { program := "ytbhjplflnkidgaagreat", sum := "75280077bf48c05ef1a090976dd4b39acdab29fea7d798b54615c9c6e1ccc264", func := "grammarlab/grammarlablaw22.ModuleUnused", spec := "moduleUnused", unfollowed := true, recurses := true, loops := true, apart := false, narrowed := true }
def ModuleUnusedUptoSaid : Prop := moduleUnusedUptoRow.holds Tryz.pinned (OpenSpec.upto moduleUnusedSpec)

end Rows
end Go.Proofs.YtbhjplflnkidgaaGreat

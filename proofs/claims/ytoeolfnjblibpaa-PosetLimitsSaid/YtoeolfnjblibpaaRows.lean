/-
  No cell of these rows narrows 'for every input' (looked for: loops, veiled, ifaces, maps, wideKeys, modest, calm, conditions, laid).
  DERIVED. THE GIVEN ROWS OF THIS SEAT. 8 by the template 'for every input the law returns true; each argument reads behind the call as it read before'; 0 by the template 'total and deterministic' (their statements: YtoeolfnjblibpaaTotals.lean).
  GIVEN WITH THE SEED: the statements are not yours to turn. If you find one false, say at which input.
  Laid BY PROGRAM, IN A SANDBOX (cutbox-rows.mjs): the forced cells as the released guide's own fill.sh prints them over the translation 57ea5bc7f52937a1… (all of the seat's roots in one cut). By AI agents, Wed Nov 11 2026. No macro, syntax, notation, axiom, sorry.
-/
import Derived.Test.YtoeolfnjblibpaaChecked
import GoSem.Claim
import GoSem.ClaimJoined
import GoSem.ClaimMapViews
import Derived.JoinedTies
import Derived.KernelRfl
namespace Go.Proofs.Ytoeolfnjblibpaa
/- THE CELL 'sum', in the pinned program and in every row, IS THE sha256 OF THE DUMP (.gsa) THAT YtoeolfnjblibpaaProg.lean LOADS. Nothing in Lean hashes anything: it is a label: what it is worth is what the hold of that sum in a sandbox is worth. -/
noncomputable def Try.pinned : Pinned := { name := "ytoeolfnjblibpaa", sum := "57ea5bc7f52937a151050ad20e1bbc26c1df708b70f3532aa12b53c1de5d889e", checked := Try.checked }
namespace Rows
def none {H : Type} : Left H := { results := [], args := [] }

/-- 'grammarlablaw03.PosetChecks': WHATEVER THE INPUT: true; the input reads as it did. -/
def posetChecksSpec : ChangeSpec := { name := "posetChecks", fn := fun _ => fun
  | [d] => { results := [.lit (.bool true)], args := [d] }
  | _ => none }
def posetChecksRow : OpenClaim := { program := "ytoeolfnjblibpaa", sum := "57ea5bc7f52937a151050ad20e1bbc26c1df708b70f3532aa12b53c1de5d889e", func := "grammarlab/grammarlablaw03.PosetChecks", spec := "posetChecks", unfollowed := true, recurses := true, apart := false }
def PosetChecksSaid : Prop := posetChecksRow.holds Try.pinned (OpenSpec.ofChange posetChecksSpec)

/-- ITS FALSE NEIGHBOUR: 'it returns false'. Refute it at one input. -/
def posetChecksWrong : ChangeSpec := { name := "posetChecks", fn := fun _ => fun
  | [d] => { results := [.lit (.bool false)], args := [d] }
  | _ => none }
def PosetChecksWrongFalsely : Prop := posetChecksRow.holds Try.pinned (OpenSpec.ofChange posetChecksWrong)

/-- 'grammarlablaw03.PosetOrders': WHATEVER THE INPUT: true; the input reads as it did. -/
def posetOrdersSpec : ChangeSpec := { name := "posetOrders", fn := fun _ => fun
  | [d] => { results := [.lit (.bool true)], args := [d] }
  | _ => none }
def posetOrdersRow : OpenClaim := { program := "ytoeolfnjblibpaa", sum := "57ea5bc7f52937a151050ad20e1bbc26c1df708b70f3532aa12b53c1de5d889e", func := "grammarlab/grammarlablaw03.PosetOrders", spec := "posetOrders", unfollowed := true, recurses := true, apart := false }
def PosetOrdersSaid : Prop := posetOrdersRow.holds Try.pinned (OpenSpec.ofChange posetOrdersSpec)

/-- ITS FALSE NEIGHBOUR: 'it returns false'. Refute it at one input. -/
def posetOrdersWrong : ChangeSpec := { name := "posetOrders", fn := fun _ => fun
  | [d] => { results := [.lit (.bool false)], args := [d] }
  | _ => none }
def PosetOrdersWrongFalsely : Prop := posetOrdersRow.holds Try.pinned (OpenSpec.ofChange posetOrdersWrong)

/-- 'grammarlablaw03.PosetNeighbours': WHATEVER THE INPUT: true; the input reads as it did. -/
def posetNeighboursSpec : ChangeSpec := { name := "posetNeighbours", fn := fun _ => fun
  | [d1, d2] => { results := [.lit (.bool true)], args := [d1, d2] }
  | _ => none }
def posetNeighboursRow : OpenClaim := { program := "ytoeolfnjblibpaa", sum := "57ea5bc7f52937a151050ad20e1bbc26c1df708b70f3532aa12b53c1de5d889e", func := "grammarlab/grammarlablaw03.PosetNeighbours", spec := "posetNeighbours", unfollowed := true, recurses := true, apart := false }
def PosetNeighboursSaid : Prop := posetNeighboursRow.holds Try.pinned (OpenSpec.ofChange posetNeighboursSpec)

/-- ITS FALSE NEIGHBOUR: 'it returns false'. Refute it at one input. -/
def posetNeighboursWrong : ChangeSpec := { name := "posetNeighbours", fn := fun _ => fun
  | [d1, d2] => { results := [.lit (.bool false)], args := [d1, d2] }
  | _ => none }
def PosetNeighboursWrongFalsely : Prop := posetNeighboursRow.holds Try.pinned (OpenSpec.ofChange posetNeighboursWrong)

/-- 'grammarlablaw03.PosetExtremes': WHATEVER THE INPUT: true; the input reads as it did. -/
def posetExtremesSpec : ChangeSpec := { name := "posetExtremes", fn := fun _ => fun
  | [d1, d2] => { results := [.lit (.bool true)], args := [d1, d2] }
  | _ => none }
def posetExtremesRow : OpenClaim := { program := "ytoeolfnjblibpaa", sum := "57ea5bc7f52937a151050ad20e1bbc26c1df708b70f3532aa12b53c1de5d889e", func := "grammarlab/grammarlablaw03.PosetExtremes", spec := "posetExtremes", unfollowed := true, recurses := true, apart := false }
def PosetExtremesSaid : Prop := posetExtremesRow.holds Try.pinned (OpenSpec.ofChange posetExtremesSpec)

/-- ITS FALSE NEIGHBOUR: 'it returns false'. Refute it at one input. -/
def posetExtremesWrong : ChangeSpec := { name := "posetExtremes", fn := fun _ => fun
  | [d1, d2] => { results := [.lit (.bool false)], args := [d1, d2] }
  | _ => none }
def PosetExtremesWrongFalsely : Prop := posetExtremesRow.holds Try.pinned (OpenSpec.ofChange posetExtremesWrong)

/-- 'grammarlablaw03.PosetRelates': WHATEVER THE INPUT: true; the input reads as it did. -/
def posetRelatesSpec : ChangeSpec := { name := "posetRelates", fn := fun _ => fun
  | [d] => { results := [.lit (.bool true)], args := [d] }
  | _ => none }
def posetRelatesRow : OpenClaim := { program := "ytoeolfnjblibpaa", sum := "57ea5bc7f52937a151050ad20e1bbc26c1df708b70f3532aa12b53c1de5d889e", func := "grammarlab/grammarlablaw03.PosetRelates", spec := "posetRelates", unfollowed := true, recurses := true, apart := false }
def PosetRelatesSaid : Prop := posetRelatesRow.holds Try.pinned (OpenSpec.ofChange posetRelatesSpec)

/-- ITS FALSE NEIGHBOUR: 'it returns false'. Refute it at one input. -/
def posetRelatesWrong : ChangeSpec := { name := "posetRelates", fn := fun _ => fun
  | [d] => { results := [.lit (.bool false)], args := [d] }
  | _ => none }
def PosetRelatesWrongFalsely : Prop := posetRelatesRow.holds Try.pinned (OpenSpec.ofChange posetRelatesWrong)

/-- 'grammarlablaw03.PosetCovers': WHATEVER THE INPUT: true; the input reads as it did. -/
def posetCoversSpec : ChangeSpec := { name := "posetCovers", fn := fun _ => fun
  | [d1, d2] => { results := [.lit (.bool true)], args := [d1, d2] }
  | _ => none }
def posetCoversRow : OpenClaim := { program := "ytoeolfnjblibpaa", sum := "57ea5bc7f52937a151050ad20e1bbc26c1df708b70f3532aa12b53c1de5d889e", func := "grammarlab/grammarlablaw03.PosetCovers", spec := "posetCovers", unfollowed := true, recurses := true, apart := false }
def PosetCoversSaid : Prop := posetCoversRow.holds Try.pinned (OpenSpec.ofChange posetCoversSpec)

/-- ITS FALSE NEIGHBOUR: 'it returns false'. Refute it at one input. -/
def posetCoversWrong : ChangeSpec := { name := "posetCovers", fn := fun _ => fun
  | [d1, d2] => { results := [.lit (.bool false)], args := [d1, d2] }
  | _ => none }
def PosetCoversWrongFalsely : Prop := posetCoversRow.holds Try.pinned (OpenSpec.ofChange posetCoversWrong)

/-- 'grammarlablaw03.PosetTurns': WHATEVER THE INPUT: true; the input reads as it did. -/
def posetTurnsSpec : ChangeSpec := { name := "posetTurns", fn := fun _ => fun
  | [d1, d2] => { results := [.lit (.bool true)], args := [d1, d2] }
  | _ => none }
def posetTurnsRow : OpenClaim := { program := "ytoeolfnjblibpaa", sum := "57ea5bc7f52937a151050ad20e1bbc26c1df708b70f3532aa12b53c1de5d889e", func := "grammarlab/grammarlablaw03.PosetTurns", spec := "posetTurns", unfollowed := true, recurses := true, apart := false }
def PosetTurnsSaid : Prop := posetTurnsRow.holds Try.pinned (OpenSpec.ofChange posetTurnsSpec)

/-- ITS FALSE NEIGHBOUR: 'it returns false'. Refute it at one input. -/
def posetTurnsWrong : ChangeSpec := { name := "posetTurns", fn := fun _ => fun
  | [d1, d2] => { results := [.lit (.bool false)], args := [d1, d2] }
  | _ => none }
def PosetTurnsWrongFalsely : Prop := posetTurnsRow.holds Try.pinned (OpenSpec.ofChange posetTurnsWrong)

/-- 'grammarlablaw03.PosetLimits': WHATEVER THE INPUT: true; the input reads as it did. -/
def posetLimitsSpec : ChangeSpec := { name := "posetLimits", fn := fun _ => fun
  | [d] => { results := [.lit (.bool true)], args := [d] }
  | _ => none }
def posetLimitsRow : OpenClaim := { program := "ytoeolfnjblibpaa", sum := "57ea5bc7f52937a151050ad20e1bbc26c1df708b70f3532aa12b53c1de5d889e", func := "grammarlab/grammarlablaw03.PosetLimits", spec := "posetLimits", unfollowed := true, recurses := true, apart := false }
def PosetLimitsSaid : Prop := posetLimitsRow.holds Try.pinned (OpenSpec.ofChange posetLimitsSpec)

/-- ITS FALSE NEIGHBOUR: 'it returns false'. Refute it at one input. -/
def posetLimitsWrong : ChangeSpec := { name := "posetLimits", fn := fun _ => fun
  | [d] => { results := [.lit (.bool false)], args := [d] }
  | _ => none }
def PosetLimitsWrongFalsely : Prop := posetLimitsRow.holds Try.pinned (OpenSpec.ofChange posetLimitsWrong)

/- THE SECOND FORM. 'bulk': how many values and letters a reading holds, each counted each time it is reached (what is shared counts as often as it is met; a slice's spare places count too). A statement '..UptoSaid' is the law's where the arguments, and the package variables that the reading takes, are together of bulk at most 1048576: NARROWER than '..Said'. Prove '..Said' where nothing that the law and all that it calls make is longer than what came in: it says more and counts as full. Else prove '..UptoSaid'. A law counts once. -/
mutual
def uptoBulk {H : Type} : DataW H → Nat
  | .lit (.string bytes) => bytes.length + 1
  | .lit _ => 1
  | .nil => 1
  | .ptr d => uptoBulk d + 1
  | .slice elems spare => uptoBulkAll elems + uptoBulkAll spare + 1
  | .agg parts => uptoBulkAll parts + 1
  | .iface _ d => uptoBulk d + 1
  | .map entries => uptoBulkEntries entries + 1
  | .held _ => 1
def uptoBulkAll {H : Type} : List (DataW H) → Nat
  | [] => 0
  | d :: r => uptoBulk d + uptoBulkAll r
def uptoBulkEntries {H : Type} : List (Lit × DataW H) → Nat
  | [] => 0
  | x :: r => uptoBulkEntry x + uptoBulkEntries r
def uptoBulkEntry {H : Type} : Lit × DataW H → Nat
  | (.string bytes, d) => bytes.length + uptoBulk d + 1
  | (_, d) => uptoBulk d + 1
 end
def uptoSmall : (H : Type) → List (DataW H) → Bool := fun _ ds => decide (uptoBulkAll ds ≤ 1048576)
def OpenSpec.upto (s : _root_.Go.ChangeSpec) : _root_.Go.OpenSpec := { _root_.Go.OpenSpec.ofChange s with cond := some uptoSmall }

/-- 'grammarlablaw03.PosetChecks', WHERE WHAT IT READS IS OF BULK AT MOST 1048576: true; the input reads as it did. -/
def posetChecksUptoRow : OpenClaim := { program := "ytoeolfnjblibpaa", sum := "57ea5bc7f52937a151050ad20e1bbc26c1df708b70f3532aa12b53c1de5d889e", func := "grammarlab/grammarlablaw03.PosetChecks", spec := "posetChecks", unfollowed := true, recurses := true, apart := false, narrowed := true }
def PosetChecksUptoSaid : Prop := posetChecksUptoRow.holds Try.pinned (OpenSpec.upto posetChecksSpec)

/-- 'grammarlablaw03.PosetOrders', WHERE WHAT IT READS IS OF BULK AT MOST 1048576: true; the input reads as it did. -/
def posetOrdersUptoRow : OpenClaim := { program := "ytoeolfnjblibpaa", sum := "57ea5bc7f52937a151050ad20e1bbc26c1df708b70f3532aa12b53c1de5d889e", func := "grammarlab/grammarlablaw03.PosetOrders", spec := "posetOrders", unfollowed := true, recurses := true, apart := false, narrowed := true }
def PosetOrdersUptoSaid : Prop := posetOrdersUptoRow.holds Try.pinned (OpenSpec.upto posetOrdersSpec)

/-- 'grammarlablaw03.PosetNeighbours', WHERE WHAT IT READS IS OF BULK AT MOST 1048576: true; the input reads as it did. -/
def posetNeighboursUptoRow : OpenClaim := { program := "ytoeolfnjblibpaa", sum := "57ea5bc7f52937a151050ad20e1bbc26c1df708b70f3532aa12b53c1de5d889e", func := "grammarlab/grammarlablaw03.PosetNeighbours", spec := "posetNeighbours", unfollowed := true, recurses := true, apart := false, narrowed := true }
def PosetNeighboursUptoSaid : Prop := posetNeighboursUptoRow.holds Try.pinned (OpenSpec.upto posetNeighboursSpec)

/-- 'grammarlablaw03.PosetExtremes', WHERE WHAT IT READS IS OF BULK AT MOST 1048576: true; the input reads as it did. -/
def posetExtremesUptoRow : OpenClaim := { program := "ytoeolfnjblibpaa", sum := "57ea5bc7f52937a151050ad20e1bbc26c1df708b70f3532aa12b53c1de5d889e", func := "grammarlab/grammarlablaw03.PosetExtremes", spec := "posetExtremes", unfollowed := true, recurses := true, apart := false, narrowed := true }
def PosetExtremesUptoSaid : Prop := posetExtremesUptoRow.holds Try.pinned (OpenSpec.upto posetExtremesSpec)

/-- 'grammarlablaw03.PosetRelates', WHERE WHAT IT READS IS OF BULK AT MOST 1048576: true; the input reads as it did. -/
def posetRelatesUptoRow : OpenClaim := { program := "ytoeolfnjblibpaa", sum := "57ea5bc7f52937a151050ad20e1bbc26c1df708b70f3532aa12b53c1de5d889e", func := "grammarlab/grammarlablaw03.PosetRelates", spec := "posetRelates", unfollowed := true, recurses := true, apart := false, narrowed := true }
def PosetRelatesUptoSaid : Prop := posetRelatesUptoRow.holds Try.pinned (OpenSpec.upto posetRelatesSpec)

/-- 'grammarlablaw03.PosetCovers', WHERE WHAT IT READS IS OF BULK AT MOST 1048576: true; the input reads as it did. -/
def posetCoversUptoRow : OpenClaim := { program := "ytoeolfnjblibpaa", sum := "57ea5bc7f52937a151050ad20e1bbc26c1df708b70f3532aa12b53c1de5d889e", func := "grammarlab/grammarlablaw03.PosetCovers", spec := "posetCovers", unfollowed := true, recurses := true, apart := false, narrowed := true }
def PosetCoversUptoSaid : Prop := posetCoversUptoRow.holds Try.pinned (OpenSpec.upto posetCoversSpec)

/-- 'grammarlablaw03.PosetTurns', WHERE WHAT IT READS IS OF BULK AT MOST 1048576: true; the input reads as it did. -/
def posetTurnsUptoRow : OpenClaim := { program := "ytoeolfnjblibpaa", sum := "57ea5bc7f52937a151050ad20e1bbc26c1df708b70f3532aa12b53c1de5d889e", func := "grammarlab/grammarlablaw03.PosetTurns", spec := "posetTurns", unfollowed := true, recurses := true, apart := false, narrowed := true }
def PosetTurnsUptoSaid : Prop := posetTurnsUptoRow.holds Try.pinned (OpenSpec.upto posetTurnsSpec)

/-- 'grammarlablaw03.PosetLimits', WHERE WHAT IT READS IS OF BULK AT MOST 1048576: true; the input reads as it did. -/
def posetLimitsUptoRow : OpenClaim := { program := "ytoeolfnjblibpaa", sum := "57ea5bc7f52937a151050ad20e1bbc26c1df708b70f3532aa12b53c1de5d889e", func := "grammarlab/grammarlablaw03.PosetLimits", spec := "posetLimits", unfollowed := true, recurses := true, apart := false, narrowed := true }
def PosetLimitsUptoSaid : Prop := posetLimitsUptoRow.holds Try.pinned (OpenSpec.upto posetLimitsSpec)

end Rows
end Go.Proofs.Ytoeolfnjblibpaa

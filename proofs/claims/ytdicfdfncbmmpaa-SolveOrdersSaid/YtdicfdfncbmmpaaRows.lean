/-
  No cell of these rows narrows 'for every input' (looked for: loops, veiled, ifaces, maps, wideKeys, modest, calm, conditions, laid).
  DERIVED. THE GIVEN ROWS OF THIS SEAT. 4 by the template 'for every input the law returns true; each argument reads behind the call as it read before'; 0 by the template 'total and deterministic' (their statements: YtdicfdfncbmmpaaTotals.lean).
  GIVEN WITH THE SEED: the statements are not yours to turn. If you find one false, say at which input.
  Laid BY PROGRAM, IN A SANDBOX (cutbox-rows.mjs): the forced cells as the released guide's own fill.sh prints them over the translation 19c34a003f1d1d2b… (all of the seat's roots in one cut). By AI agents, Wed Nov 11 2026. No macro, syntax, notation, axiom, sorry.
-/
import Derived.Test.YtdicfdfncbmmpaaChecked
import GoSem.Claim
import GoSem.ClaimJoined
import GoSem.ClaimMapViews
import Derived.JoinedTies
import Derived.KernelRfl
namespace Go.Proofs.Ytdicfdfncbmmpaa
/- THE CELL 'sum', in the pinned program and in every row, IS THE sha256 OF THE DUMP (.gsa) THAT YtdicfdfncbmmpaaProg.lean LOADS. Nothing in Lean hashes anything: it is a label: what it is worth is what the hold of that sum in a sandbox is worth. -/
noncomputable def Try.pinned : Pinned := { name := "ytdicfdfncbmmpaa", sum := "19c34a003f1d1d2b04792a74273abb342c29437cc76de337749519c78d82972c", checked := Try.checked }
namespace Rows
def none {H : Type} : Left H := { results := [], args := [] }

/-- 'grammarlablaw42.SolveExact': WHATEVER THE INPUT: true; the input reads as it did. -/
def solveExactSpec : ChangeSpec := { name := "solveExact", fn := fun _ => fun
  | [d] => { results := [.lit (.bool true)], args := [d] }
  | _ => none }
def solveExactRow : OpenClaim := { program := "ytdicfdfncbmmpaa", sum := "19c34a003f1d1d2b04792a74273abb342c29437cc76de337749519c78d82972c", func := "grammarlab/grammarlablaw42.SolveExact", spec := "solveExact", unfollowed := true, recurses := true, apart := false }
def SolveExactSaid : Prop := solveExactRow.holds Try.pinned (OpenSpec.ofChange solveExactSpec)

/-- ITS FALSE NEIGHBOUR: 'it returns false'. Refute it at one input. -/
def solveExactWrong : ChangeSpec := { name := "solveExact", fn := fun _ => fun
  | [d] => { results := [.lit (.bool false)], args := [d] }
  | _ => none }
def SolveExactWrongFalsely : Prop := solveExactRow.holds Try.pinned (OpenSpec.ofChange solveExactWrong)

/-- 'grammarlablaw42.SolveBegins': WHATEVER THE INPUT: true; the input reads as it did. -/
def solveBeginsSpec : ChangeSpec := { name := "solveBegins", fn := fun _ => fun
  | [d1, d2] => { results := [.lit (.bool true)], args := [d1, d2] }
  | _ => none }
def solveBeginsRow : OpenClaim := { program := "ytdicfdfncbmmpaa", sum := "19c34a003f1d1d2b04792a74273abb342c29437cc76de337749519c78d82972c", func := "grammarlab/grammarlablaw42.SolveBegins", spec := "solveBegins", unfollowed := true, recurses := true, apart := false }
def SolveBeginsSaid : Prop := solveBeginsRow.holds Try.pinned (OpenSpec.ofChange solveBeginsSpec)

/-- ITS FALSE NEIGHBOUR: 'it returns false'. Refute it at one input. -/
def solveBeginsWrong : ChangeSpec := { name := "solveBegins", fn := fun _ => fun
  | [d1, d2] => { results := [.lit (.bool false)], args := [d1, d2] }
  | _ => none }
def SolveBeginsWrongFalsely : Prop := solveBeginsRow.holds Try.pinned (OpenSpec.ofChange solveBeginsWrong)

/-- 'grammarlablaw42.SolveOrders': WHATEVER THE INPUT: true; the input reads as it did. -/
def solveOrdersSpec : ChangeSpec := { name := "solveOrders", fn := fun _ => fun
  | [d] => { results := [.lit (.bool true)], args := [d] }
  | _ => none }
def solveOrdersRow : OpenClaim := { program := "ytdicfdfncbmmpaa", sum := "19c34a003f1d1d2b04792a74273abb342c29437cc76de337749519c78d82972c", func := "grammarlab/grammarlablaw42.SolveOrders", spec := "solveOrders", unfollowed := true, recurses := true, apart := false }
def SolveOrdersSaid : Prop := solveOrdersRow.holds Try.pinned (OpenSpec.ofChange solveOrdersSpec)

/-- ITS FALSE NEIGHBOUR: 'it returns false'. Refute it at one input. -/
def solveOrdersWrong : ChangeSpec := { name := "solveOrders", fn := fun _ => fun
  | [d] => { results := [.lit (.bool false)], args := [d] }
  | _ => none }
def SolveOrdersWrongFalsely : Prop := solveOrdersRow.holds Try.pinned (OpenSpec.ofChange solveOrdersWrong)

/-- 'grammarlablaw42.SolveFewer': WHATEVER THE INPUT: true; the input reads as it did. -/
def solveFewerSpec : ChangeSpec := { name := "solveFewer", fn := fun _ => fun
  | [d1, d2] => { results := [.lit (.bool true)], args := [d1, d2] }
  | _ => none }
def solveFewerRow : OpenClaim := { program := "ytdicfdfncbmmpaa", sum := "19c34a003f1d1d2b04792a74273abb342c29437cc76de337749519c78d82972c", func := "grammarlab/grammarlablaw42.SolveFewer", spec := "solveFewer", unfollowed := true, recurses := true, apart := false }
def SolveFewerSaid : Prop := solveFewerRow.holds Try.pinned (OpenSpec.ofChange solveFewerSpec)

/-- ITS FALSE NEIGHBOUR: 'it returns false'. Refute it at one input. -/
def solveFewerWrong : ChangeSpec := { name := "solveFewer", fn := fun _ => fun
  | [d1, d2] => { results := [.lit (.bool false)], args := [d1, d2] }
  | _ => none }
def SolveFewerWrongFalsely : Prop := solveFewerRow.holds Try.pinned (OpenSpec.ofChange solveFewerWrong)

/- THE SECOND FORM. 'bulk': how many values and letters a reading holds, each counted each time it is reached (what is shared counts as often as it is met; a slice's spare places count too). A statement '..UptoSaid' is the law's where the arguments, and the package variables that the reading takes, are together of bulk at most 1048576: NARROWER than '..Said'. Prove '..Said' where nothing that the law and all that it calls make is longer than what came in: it says more and counts as full. Else prove '..UptoSaid'. A law counts once. -/
mutual
def uptoBulk {H : Type} : DataW H → Nat
  | .lit (.string bytes) => bytes.length + 1
  | .lit _ => 1
  | .nil => 1
  | .ptr d => uptoBulk d + 1
  | .slice elems spare => uptoBulkAll elems + uptoBulkAll spare + 1
  | .agg parts => uptoBulkAll parts + 1
  | .iface _ d => uptoBulk d + 1
  | .map entries => uptoBulkEntries entries + 1
  | .held _ => 1
def uptoBulkAll {H : Type} : List (DataW H) → Nat
  | [] => 0
  | d :: r => uptoBulk d + uptoBulkAll r
def uptoBulkEntries {H : Type} : List (Lit × DataW H) → Nat
  | [] => 0
  | x :: r => uptoBulkEntry x + uptoBulkEntries r
def uptoBulkEntry {H : Type} : Lit × DataW H → Nat
  | (.string bytes, d) => bytes.length + uptoBulk d + 1
  | (_, d) => uptoBulk d + 1
 end
def uptoSmall : (H : Type) → List (DataW H) → Bool := fun _ ds => decide (uptoBulkAll ds ≤ 1048576)
def OpenSpec.upto (s : _root_.Go.ChangeSpec) : _root_.Go.OpenSpec := { _root_.Go.OpenSpec.ofChange s with cond := some uptoSmall }

/-- 'grammarlablaw42.SolveExact', WHERE WHAT IT READS IS OF BULK AT MOST 1048576: true; the input reads as it did. -/
def solveExactUptoRow : OpenClaim := { program := "ytdicfdfncbmmpaa", sum := "19c34a003f1d1d2b04792a74273abb342c29437cc76de337749519c78d82972c", func := "grammarlab/grammarlablaw42.SolveExact", spec := "solveExact", unfollowed := true, recurses := true, apart := false, narrowed := true }
def SolveExactUptoSaid : Prop := solveExactUptoRow.holds Try.pinned (OpenSpec.upto solveExactSpec)

/-- 'grammarlablaw42.SolveBegins', WHERE WHAT IT READS IS OF BULK AT MOST 1048576: true; the input reads as it did. -/
def solveBeginsUptoRow : OpenClaim := { program := "ytdicfdfncbmmpaa", sum := "19c34a003f1d1d2b04792a74273abb342c29437cc76de337749519c78d82972c", func := "grammarlab/grammarlablaw42.SolveBegins", spec := "solveBegins", unfollowed := true, recurses := true, apart := false, narrowed := true }
def SolveBeginsUptoSaid : Prop := solveBeginsUptoRow.holds Try.pinned (OpenSpec.upto solveBeginsSpec)

/-- 'grammarlablaw42.SolveOrders', WHERE WHAT IT READS IS OF BULK AT MOST 1048576: true; the input reads as it did. -/
def solveOrdersUptoRow : OpenClaim := { program := "ytdicfdfncbmmpaa", sum := "19c34a003f1d1d2b04792a74273abb342c29437cc76de337749519c78d82972c", func := "grammarlab/grammarlablaw42.SolveOrders", spec := "solveOrders", unfollowed := true, recurses := true, apart := false, narrowed := true }
def SolveOrdersUptoSaid : Prop := solveOrdersUptoRow.holds Try.pinned (OpenSpec.upto solveOrdersSpec)

/-- 'grammarlablaw42.SolveFewer', WHERE WHAT IT READS IS OF BULK AT MOST 1048576: true; the input reads as it did. -/
def solveFewerUptoRow : OpenClaim := { program := "ytdicfdfncbmmpaa", sum := "19c34a003f1d1d2b04792a74273abb342c29437cc76de337749519c78d82972c", func := "grammarlab/grammarlablaw42.SolveFewer", spec := "solveFewer", unfollowed := true, recurses := true, apart := false, narrowed := true }
def SolveFewerUptoSaid : Prop := solveFewerUptoRow.holds Try.pinned (OpenSpec.upto solveFewerSpec)

end Rows
end Go.Proofs.Ytdicfdfncbmmpaa

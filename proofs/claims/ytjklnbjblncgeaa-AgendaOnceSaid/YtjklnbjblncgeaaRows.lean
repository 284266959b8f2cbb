/-
  No cell of these rows narrows 'for every input' (looked for: loops, veiled, ifaces, maps, wideKeys, modest, calm, conditions, laid).
  DERIVED. THE GIVEN ROWS OF THIS SEAT. 6 by the template 'for every input the law returns true; each argument reads behind the call as it read before'; 0 by the template 'total and deterministic' (their statements: YtjklnbjblncgeaaTotals.lean).
  GIVEN WITH THE SEED: the statements are not yours to turn. If you find one false, say at which input.
  Laid BY PROGRAM, IN A SANDBOX (cutbox-rows.mjs): the forced cells as the released guide's own fill.sh prints them over the translation 6dc5371df5469ec4… (all of the seat's roots in one cut). By AI agents, Wed Nov 11 2026. No macro, syntax, notation, axiom, sorry.
-/
import Derived.Test.YtjklnbjblncgeaaChecked
import GoSem.Claim
import GoSem.ClaimJoined
import GoSem.ClaimMapViews
import Derived.JoinedTies
import Derived.KernelRfl
namespace Go.Proofs.Ytjklnbjblncgeaa
/- THE CELL 'sum', in the pinned program and in every row, IS THE sha256 OF THE DUMP (.gsa) THAT YtjklnbjblncgeaaProg.lean LOADS. Nothing in Lean hashes anything: it is a label: what it is worth is what the hold of that sum in a sandbox is worth. -/
noncomputable def Try.pinned : Pinned := { name := "ytjklnbjblncgeaa", sum := "6dc5371df5469ec4b8ea8442b2311caeb086ba73fc7455f0fff2f01c307d5677", checked := Try.checked }
namespace Rows
def none {H : Type} : Left H := { results := [], args := [] }

/-- 'grammarlablaw31.AgendaMakes': WHATEVER THE INPUT: true; the input reads as it did. -/
def agendaMakesSpec : ChangeSpec := { name := "agendaMakes", fn := fun _ => fun
  | [d1, d2] => { results := [.lit (.bool true)], args := [d1, d2] }
  | _ => none }
def agendaMakesRow : OpenClaim := { program := "ytjklnbjblncgeaa", sum := "6dc5371df5469ec4b8ea8442b2311caeb086ba73fc7455f0fff2f01c307d5677", func := "grammarlab/grammarlablaw31.AgendaMakes", spec := "agendaMakes", unfollowed := true, recurses := true, apart := false }
def AgendaMakesSaid : Prop := agendaMakesRow.holds Try.pinned (OpenSpec.ofChange agendaMakesSpec)

/-- ITS FALSE NEIGHBOUR: 'it returns false'. Refute it at one input. -/
def agendaMakesWrong : ChangeSpec := { name := "agendaMakes", fn := fun _ => fun
  | [d1, d2] => { results := [.lit (.bool false)], args := [d1, d2] }
  | _ => none }
def AgendaMakesWrongFalsely : Prop := agendaMakesRow.holds Try.pinned (OpenSpec.ofChange agendaMakesWrong)

/-- 'grammarlablaw31.AgendaPlays': WHATEVER THE INPUT: true; the input reads as it did. -/
def agendaPlaysSpec : ChangeSpec := { name := "agendaPlays", fn := fun _ => fun
  | [d1, d2, d3] => { results := [.lit (.bool true)], args := [d1, d2, d3] }
  | _ => none }
def agendaPlaysRow : OpenClaim := { program := "ytjklnbjblncgeaa", sum := "6dc5371df5469ec4b8ea8442b2311caeb086ba73fc7455f0fff2f01c307d5677", func := "grammarlab/grammarlablaw31.AgendaPlays", spec := "agendaPlays", unfollowed := true, recurses := true, apart := false }
def AgendaPlaysSaid : Prop := agendaPlaysRow.holds Try.pinned (OpenSpec.ofChange agendaPlaysSpec)

/-- ITS FALSE NEIGHBOUR: 'it returns false'. Refute it at one input. -/
def agendaPlaysWrong : ChangeSpec := { name := "agendaPlays", fn := fun _ => fun
  | [d1, d2, d3] => { results := [.lit (.bool false)], args := [d1, d2, d3] }
  | _ => none }
def AgendaPlaysWrongFalsely : Prop := agendaPlaysRow.holds Try.pinned (OpenSpec.ofChange agendaPlaysWrong)

/-- 'grammarlablaw31.AgendaOnce': WHATEVER THE INPUT: true; the input reads as it did. -/
def agendaOnceSpec : ChangeSpec := { name := "agendaOnce", fn := fun _ => fun
  | [d1, d2, d3] => { results := [.lit (.bool true)], args := [d1, d2, d3] }
  | _ => none }
def agendaOnceRow : OpenClaim := { program := "ytjklnbjblncgeaa", sum := "6dc5371df5469ec4b8ea8442b2311caeb086ba73fc7455f0fff2f01c307d5677", func := "grammarlab/grammarlablaw31.AgendaOnce", spec := "agendaOnce", unfollowed := true, recurses := true, apart := false }
def AgendaOnceSaid : Prop := agendaOnceRow.holds Try.pinned (OpenSpec.ofChange agendaOnceSpec)

/-- ITS FALSE NEIGHBOUR: 'it returns false'. Refute it at one input. -/
def agendaOnceWrong : ChangeSpec := { name := "agendaOnce", fn := fun _ => fun
  | [d1, d2, d3] => { results := [.lit (.bool false)], args := [d1, d2, d3] }
  | _ => none }
def AgendaOnceWrongFalsely : Prop := agendaOnceRow.holds Try.pinned (OpenSpec.ofChange agendaOnceWrong)

/-- 'grammarlablaw31.AgendaOrders': WHATEVER THE INPUT: true; the input reads as it did. -/
def agendaOrdersSpec : ChangeSpec := { name := "agendaOrders", fn := fun _ => fun
  | [d1, d2] => { results := [.lit (.bool true)], args := [d1, d2] }
  | _ => none }
def agendaOrdersRow : OpenClaim := { program := "ytjklnbjblncgeaa", sum := "6dc5371df5469ec4b8ea8442b2311caeb086ba73fc7455f0fff2f01c307d5677", func := "grammarlab/grammarlablaw31.AgendaOrders", spec := "agendaOrders", unfollowed := true, recurses := true, apart := false }
def AgendaOrdersSaid : Prop := agendaOrdersRow.holds Try.pinned (OpenSpec.ofChange agendaOrdersSpec)

/-- ITS FALSE NEIGHBOUR: 'it returns false'. Refute it at one input. -/
def agendaOrdersWrong : ChangeSpec := { name := "agendaOrders", fn := fun _ => fun
  | [d1, d2] => { results := [.lit (.bool false)], args := [d1, d2] }
  | _ => none }
def AgendaOrdersWrongFalsely : Prop := agendaOrdersRow.holds Try.pinned (OpenSpec.ofChange agendaOrdersWrong)

/-- 'grammarlablaw31.AgendaKeeps': WHATEVER THE INPUT: true; the input reads as it did. -/
def agendaKeepsSpec : ChangeSpec := { name := "agendaKeeps", fn := fun _ => fun
  | [d1, d2, d3] => { results := [.lit (.bool true)], args := [d1, d2, d3] }
  | _ => none }
def agendaKeepsRow : OpenClaim := { program := "ytjklnbjblncgeaa", sum := "6dc5371df5469ec4b8ea8442b2311caeb086ba73fc7455f0fff2f01c307d5677", func := "grammarlab/grammarlablaw31.AgendaKeeps", spec := "agendaKeeps", unfollowed := true, recurses := true, apart := false }
def AgendaKeepsSaid : Prop := agendaKeepsRow.holds Try.pinned (OpenSpec.ofChange agendaKeepsSpec)

/-- ITS FALSE NEIGHBOUR: 'it returns false'. Refute it at one input. -/
def agendaKeepsWrong : ChangeSpec := { name := "agendaKeeps", fn := fun _ => fun
  | [d1, d2, d3] => { results := [.lit (.bool false)], args := [d1, d2, d3] }
  | _ => none }
def AgendaKeepsWrongFalsely : Prop := agendaKeepsRow.holds Try.pinned (OpenSpec.ofChange agendaKeepsWrong)

/-- 'grammarlablaw31.AgendaRest': WHATEVER THE INPUT: true; the input reads as it did. -/
def agendaRestSpec : ChangeSpec := { name := "agendaRest", fn := fun _ => fun
  | [d1, d2, d3] => { results := [.lit (.bool true)], args := [d1, d2, d3] }
  | _ => none }
def agendaRestRow : OpenClaim := { program := "ytjklnbjblncgeaa", sum := "6dc5371df5469ec4b8ea8442b2311caeb086ba73fc7455f0fff2f01c307d5677", func := "grammarlab/grammarlablaw31.AgendaRest", spec := "agendaRest", unfollowed := true, recurses := true, apart := false }
def AgendaRestSaid : Prop := agendaRestRow.holds Try.pinned (OpenSpec.ofChange agendaRestSpec)

/-- ITS FALSE NEIGHBOUR: 'it returns false'. Refute it at one input. -/
def agendaRestWrong : ChangeSpec := { name := "agendaRest", fn := fun _ => fun
  | [d1, d2, d3] => { results := [.lit (.bool false)], args := [d1, d2, d3] }
  | _ => none }
def AgendaRestWrongFalsely : Prop := agendaRestRow.holds Try.pinned (OpenSpec.ofChange agendaRestWrong)

/- THE SECOND FORM. 'bulk': how many values and letters a reading holds, each counted each time it is reached (what is shared counts as often as it is met; a slice's spare places count too). A statement '..UptoSaid' is the law's where the arguments, and the package variables that the reading takes, are together of bulk at most 1048576: NARROWER than '..Said'. Prove '..Said' where nothing that the law and all that it calls make is longer than what came in: it says more and counts as full. Else prove '..UptoSaid'. A law counts once. -/
mutual
def uptoBulk {H : Type} : DataW H → Nat
  | .lit (.string bytes) => bytes.length + 1
  | .lit _ => 1
  | .nil => 1
  | .ptr d => uptoBulk d + 1
  | .slice elems spare => uptoBulkAll elems + uptoBulkAll spare + 1
  | .agg parts => uptoBulkAll parts + 1
  | .iface _ d => uptoBulk d + 1
  | .map entries => uptoBulkEntries entries + 1
  | .held _ => 1
def uptoBulkAll {H : Type} : List (DataW H) → Nat
  | [] => 0
  | d :: r => uptoBulk d + uptoBulkAll r
def uptoBulkEntries {H : Type} : List (Lit × DataW H) → Nat
  | [] => 0
  | x :: r => uptoBulkEntry x + uptoBulkEntries r
def uptoBulkEntry {H : Type} : Lit × DataW H → Nat
  | (.string bytes, d) => bytes.length + uptoBulk d + 1
  | (_, d) => uptoBulk d + 1
 end
def uptoSmall : (H : Type) → List (DataW H) → Bool := fun _ ds => decide (uptoBulkAll ds ≤ 1048576)
def OpenSpec.upto (s : _root_.Go.ChangeSpec) : _root_.Go.OpenSpec := { _root_.Go.OpenSpec.ofChange s with cond := some uptoSmall }

/-- 'grammarlablaw31.AgendaMakes', WHERE WHAT IT READS IS OF BULK AT MOST 1048576: true; the input reads as it did. -/
def agendaMakesUptoRow : OpenClaim := { program := "ytjklnbjblncgeaa", sum := "6dc5371df5469ec4b8ea8442b2311caeb086ba73fc7455f0fff2f01c307d5677", func := "grammarlab/grammarlablaw31.AgendaMakes", spec := "agendaMakes", unfollowed := true, recurses := true, apart := false, narrowed := true }
def AgendaMakesUptoSaid : Prop := agendaMakesUptoRow.holds Try.pinned (OpenSpec.upto agendaMakesSpec)

/-- 'grammarlablaw31.AgendaPlays', WHERE WHAT IT READS IS OF BULK AT MOST 1048576: true; the input reads as it did. -/
def agendaPlaysUptoRow : OpenClaim := { program := "ytjklnbjblncgeaa", sum := "6dc5371df5469ec4b8ea8442b2311caeb086ba73fc7455f0fff2f01c307d5677", func := "grammarlab/grammarlablaw31.AgendaPlays", spec := "agendaPlays", unfollowed := true, recurses := true, apart := false, narrowed := true }
def AgendaPlaysUptoSaid : Prop := agendaPlaysUptoRow.holds Try.pinned (OpenSpec.upto agendaPlaysSpec)

/-- 'grammarlablaw31.AgendaOnce', WHERE WHAT IT READS IS OF BULK AT MOST 1048576: true; the input reads as it did. -/
def agendaOnceUptoRow : OpenClaim := { program := "ytjklnbjblncgeaa", sum := "6dc5371df5469ec4b8ea8442b2311caeb086ba73fc7455f0fff2f01c307d5677", func := "grammarlab/grammarlablaw31.AgendaOnce", spec := "agendaOnce", unfollowed := true, recurses := true, apart := false, narrowed := true }
def AgendaOnceUptoSaid : Prop := agendaOnceUptoRow.holds Try.pinned (OpenSpec.upto agendaOnceSpec)

/-- 'grammarlablaw31.AgendaOrders', WHERE WHAT IT READS IS OF BULK AT MOST 1048576: true; the input reads as it did. -/
def agendaOrdersUptoRow : OpenClaim := { program := "ytjklnbjblncgeaa", sum := "6dc5371df5469ec4b8ea8442b2311caeb086ba73fc7455f0fff2f01c307d5677", func := "grammarlab/grammarlablaw31.AgendaOrders", spec := "agendaOrders", unfollowed := true, recurses := true, apart := false, narrowed := true }
def AgendaOrdersUptoSaid : Prop := agendaOrdersUptoRow.holds Try.pinned (OpenSpec.upto agendaOrdersSpec)

/-- 'grammarlablaw31.AgendaKeeps', WHERE WHAT IT READS IS OF BULK AT MOST 1048576: true; the input reads as it did. -/
def agendaKeepsUptoRow : OpenClaim := { program := "ytjklnbjblncgeaa", sum := "6dc5371df5469ec4b8ea8442b2311caeb086ba73fc7455f0fff2f01c307d5677", func := "grammarlab/grammarlablaw31.AgendaKeeps", spec := "agendaKeeps", unfollowed := true, recurses := true, apart := false, narrowed := true }
def AgendaKeepsUptoSaid : Prop := agendaKeepsUptoRow.holds Try.pinned (OpenSpec.upto agendaKeepsSpec)

/-- 'grammarlablaw31.AgendaRest', WHERE WHAT IT READS IS OF BULK AT MOST 1048576: true; the input reads as it did. -/
def agendaRestUptoRow : OpenClaim := { program := "ytjklnbjblncgeaa", sum := "6dc5371df5469ec4b8ea8442b2311caeb086ba73fc7455f0fff2f01c307d5677", func := "grammarlab/grammarlablaw31.AgendaRest", spec := "agendaRest", unfollowed := true, recurses := true, apart := false, narrowed := true }
def AgendaRestUptoSaid : Prop := agendaRestUptoRow.holds Try.pinned (OpenSpec.upto agendaRestSpec)

end Rows
end Go.Proofs.Ytjklnbjblncgeaa

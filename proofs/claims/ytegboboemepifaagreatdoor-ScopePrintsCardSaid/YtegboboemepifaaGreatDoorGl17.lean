/- Own lemmas, seventeenth part: a row of strings that a call of the library's has written over (sorted, compacted). -/
import Derived.Test.YtegboboemepifaaGreatDoorGl16
import Derived.Sort.EncStr
import Derived.Sort.Grow
namespace Go.Gl
open Go.RowKit Go.Sort Go.Proofs
set_option linter.unusedVariables false
set_option linter.unusedSimpArgs false

def strs (l : List (List UInt8)) : List Value := l.map fun x => .string (bs x)
section
variable {M C : Bs} {w : World} {A : Option Addr} {n c k j : Nat} {e : TypeId} {x d : List (List UInt8)} {cs : List Value}
end
end Go.Gl


/- Chapter 22: the examples hold -/
import Derived.Test.YtbhjplflnkidgaaGreatD1
import Derived.KernelRfl
namespace Go.Proofs.YtbhjplflnkidgaaGreat
open Go.Gl
theorem ex22 : law22_exampleHolds 18446744073709551616 = some true := by kernel_rfl
end Go.Proofs.YtbhjplflnkidgaaGreat


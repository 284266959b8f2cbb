/- Chapter 27: the example. -/
import Derived.Test.YthblmjbmnfebdaaA2
namespace Go.Proofs.Ythblmjbmnfebdaa
theorem ex27 : law27_exampleHolds 100000 = some true := by kernel_rfl
end Go.Proofs.Ythblmjbmnfebdaa

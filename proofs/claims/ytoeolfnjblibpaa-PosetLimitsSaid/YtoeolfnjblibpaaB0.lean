/- Chapter 03: the example. -/
import Derived.Test.YtoeolfnjblibpaaD1
namespace Go.Proofs.Ytoeolfnjblibpaa
theorem ex03 : law03_exampleHolds 100000 = some true := by kernel_rfl
end Go.Proofs.Ytoeolfnjblibpaa

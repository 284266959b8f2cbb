/- Chapter 23: the example. -/
import Derived.Test.YtolgbjbfhoffpaaD1
namespace Go.Proofs.Ytolgbjbfhoffpaa
theorem ex23 : law23_exampleHolds 100000 = some true := by kernel_rfl
end Go.Proofs.Ytolgbjbfhoffpaa

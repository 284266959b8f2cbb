/- Chapter 24: the example. -/
import Derived.Test.YtgmghembhenonaaD1
namespace Go.Proofs.Ytgmghembhenonaa
theorem ex24 : law24_exampleHolds 100000 = some true := by kernel_rfl
end Go.Proofs.Ytgmghembhenonaa

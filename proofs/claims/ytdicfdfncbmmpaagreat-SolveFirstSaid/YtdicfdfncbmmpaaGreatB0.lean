/- Chapter 42: the example. -/
import Derived.Test.YtdicfdfncbmmpaaGreatD1
namespace Go.Proofs.YtdicfdfncbmmpaaGreat
theorem ex42 : law42_exampleHolds 100000 = some true := by kernel_rfl
end Go.Proofs.YtdicfdfncbmmpaaGreat


/- Chapter 42: the example. -/
import Derived.Test.YtdicfdfncbmmpaaD1
namespace Go.Proofs.Ytdicfdfncbmmpaa
theorem ex42 : law42_exampleHolds 100000 = some true := by kernel_rfl
end Go.Proofs.Ytdicfdfncbmmpaa

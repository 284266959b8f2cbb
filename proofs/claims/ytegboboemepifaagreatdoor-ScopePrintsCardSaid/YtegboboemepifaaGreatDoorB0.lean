/- Chapter 41: the example. -/
import Derived.Test.YtegboboemepifaaGreatDoorD1
namespace Go.Proofs.YtegboboemepifaaGreatDoor
theorem ex41 : law41_exampleHolds 100000 = some true := by kernel_rfl
end Go.Proofs.YtegboboemepifaaGreatDoor


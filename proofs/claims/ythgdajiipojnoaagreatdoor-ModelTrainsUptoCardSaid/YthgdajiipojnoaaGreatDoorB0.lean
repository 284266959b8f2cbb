/- Chapter 37: the examples hold -/
import Derived.Test.YthgdajiipojnoaaGreatDoorD1
import Derived.KernelRfl
namespace Go.Proofs.YthgdajiipojnoaaGreatDoor
open Go.Gl
theorem ex37 : law37_exampleHolds 10000000 = some true := by kernel_rfl
end Go.Proofs.YthgdajiipojnoaaGreatDoor

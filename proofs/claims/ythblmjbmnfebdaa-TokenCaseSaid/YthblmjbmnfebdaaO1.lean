/- Chapter 27: arguments opened -/
import Derived.Test.YthblmjbmnfebdaaGl14
import Derived.Test.YthblmjbmnfebdaaGl8
import Derived.Test.YthblmjbmnfebdaaProg
namespace Go.Proofs.Ythblmjbmnfebdaa
open Go.Gl Go.RowKit
set_option linter.unusedVariables false
set_option linter.unusedSimpArgs false

theorem op9 : Opens Try.prog 9 Rep.str := Opens.str Try.underlying9 (by kernel_rfl)
theorem op23 : Opens Try.prog 23 (Rep.list Rep.str) := Opens.list op9 (by decide) Try.underlying23 (by kernel_rfl)
end Go.Proofs.Ythblmjbmnfebdaa

/- Chapter 03: arguments opened -/
import Derived.Test.YtoeolfnjblibpaaD1
import Derived.Test.YtoeolfnjblibpaaGl8
namespace Go.Proofs.Ytoeolfnjblibpaa
open Go.Gl Go.RowKit Try
set_option linter.unusedVariables false
set_option linter.unusedSimpArgs false
set_option maxRecDepth 4000

theorem op5 : Opens Try.prog 5 Rep.u8 := Opens.change (Opens.int Try.underlying5 (by kernel_rfl)) rfl (fun w cs a h => ⟨UInt8.ofNat a.toNat, by obtain ⟨h1, h2⟩ := h; have := inu8.1 h2; subst h1; show [Value.int .u8 a] = [Value.int .u8 _]; congr 2; simp [UInt8.toNat_ofNat']; omega⟩)
end Go.Proofs.Ytoeolfnjblibpaa

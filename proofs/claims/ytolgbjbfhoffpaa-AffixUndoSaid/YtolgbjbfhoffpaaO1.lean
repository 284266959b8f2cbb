/- Chapter 23: arguments opened -/
import Derived.Test.YtolgbjbfhoffpaaD1
import Derived.Test.YtolgbjbfhoffpaaGl8
namespace Go.Proofs.Ytolgbjbfhoffpaa
open Go.Gl Go.RowKit
set_option linter.unusedVariables false
set_option linter.unusedSimpArgs false

theorem op3 : Opens Try.prog 3 (Rep.num .i64) := Opens.change (Opens.int Try.underlying3 (by kernel_rfl)) rfl (fun w cs a h => ⟨a, h.1⟩)
theorem op9 : Opens Try.prog 9 Rep.str := Opens.str Try.underlying9 (by kernel_rfl)
theorem fu42 : Try.prog.underlying 42 = some (.struct (Try.prog.fieldsOf 42)) := by kernel_rfl
theorem fl42 : (Try.prog.fieldsOf 42).toList = [⟨ "Old", 9, 0, false,  "",  "", 0⟩, ⟨ "New", 9, 1, false,  "",  "", 16⟩] := by kernel_rfl
theorem op42 : Opens Try.prog 42 RChange := by
  refine Opens.change (R := (Rep.prod Rep.str Rep.str)) (Opens.struct fu42 (by kernel_rfl) (by rw [fl42]; exact OpensFs.cons rfl op9 (by decide) (OpensFs.one rfl op9))) rfl ?_
  rintro w cs ⟨a0, a1⟩ h
  exact ⟨Change.mk a0 a1, h⟩
theorem op22 : Opens Try.prog 22 (Rep.list RChange) := Opens.list op42 (by decide) Try.underlying22 (by kernel_rfl)
theorem fu24 : Try.prog.underlying 24 = some (.struct (Try.prog.fieldsOf 24)) := by kernel_rfl
theorem fl24 : (Try.prog.fieldsOf 24).toList = [⟨ "Kind", 3, 0, false,  "",  "", 0⟩, ⟨ "Pairs", 22, 1, false,  "",  "", 8⟩] := by kernel_rfl
theorem op24 : Opens Try.prog 24 RAffix := by
  refine Opens.change (R := (Rep.prod (Rep.num .i64) (Rep.list RChange))) (Opens.struct fu24 (by kernel_rfl) (by rw [fl24]; exact OpensFs.cons rfl op3 (by decide) (OpensFs.one rfl op22))) rfl ?_
  rintro w cs ⟨a0, a1⟩ h
  exact ⟨Affix.mk a0 a1, h⟩
theorem op34 : Opens Try.prog 34 (Rep.list Rep.str) := Opens.list op9 (by decide) Try.underlying34 (by kernel_rfl)
end Go.Proofs.Ytolgbjbfhoffpaa

/- Chapter 24: arguments opened -/
import Derived.Test.YtgmghembhenonaaD1
import Derived.Test.YtgmghembhenonaaGl8
namespace Go.Proofs.Ytgmghembhenonaa
open Go.Gl Go.RowKit
set_option linter.unusedVariables false
set_option linter.unusedSimpArgs false

theorem op9 : Opens Try.prog 9 Rep.str := Opens.str Try.underlying9 (by kernel_rfl)
theorem op27 : Opens Try.prog 27 (Rep.list Rep.str) := Opens.list op9 (by decide) Try.underlying27 (by kernel_rfl)
theorem op3 : Opens Try.prog 3 (Rep.num .i64) := Opens.change (Opens.int Try.underlying3 (by kernel_rfl)) rfl (fun w cs a h => ⟨a, h.1⟩)
theorem fu102 : Try.prog.underlying 102 = some (.struct (Try.prog.fieldsOf 102)) := by kernel_rfl
theorem fl102 : (Try.prog.fieldsOf 102).toList = [⟨ "Feat", 3, 0, false,  "",  "", 0⟩, ⟨ "To", 3, 1, false,  "",  "", 8⟩] := by kernel_rfl
theorem op102 : Opens Try.prog 102 RArc := by
  refine Opens.change (R := (Rep.prod (Rep.num .i64) (Rep.num .i64))) (Opens.struct fu102 (by kernel_rfl) (by rw [fl102]; exact OpensFs.cons rfl op3 (by decide) (OpensFs.one rfl op3))) rfl ?_
  rintro w cs ⟨a0, a1⟩ h
  exact ⟨Arc.mk a0 a1, h⟩
theorem op97 : Opens Try.prog 97 (Rep.list RArc) := Opens.list op102 (by decide) Try.underlying97 (by kernel_rfl)
theorem fu99 : Try.prog.underlying 99 = some (.struct (Try.prog.fieldsOf 99)) := by kernel_rfl
theorem fl99 : (Try.prog.fieldsOf 99).toList = [⟨ "Type", 3, 0, false,  "",  "", 0⟩, ⟨ "Arcs", 97, 1, false,  "",  "", 8⟩] := by kernel_rfl
theorem op99 : Opens Try.prog 99 RNode := by
  refine Opens.change (R := (Rep.prod (Rep.num .i64) (Rep.list RArc))) (Opens.struct fu99 (by kernel_rfl) (by rw [fl99]; exact OpensFs.cons rfl op3 (by decide) (OpensFs.one rfl op97))) rfl ?_
  rintro w cs ⟨a0, a1⟩ h
  exact ⟨Node.mk a0 a1, h⟩
theorem op43 : Opens Try.prog 43 (Rep.list RNode) := Opens.list op99 (by decide) Try.underlying43 (by kernel_rfl)
theorem fu45 : Try.prog.underlying 45 = some (.struct (Try.prog.fieldsOf 45)) := by kernel_rfl
theorem fl45 : (Try.prog.fieldsOf 45).toList = [⟨ "Nodes", 43, 0, false,  "",  "", 0⟩] := by kernel_rfl
theorem op45 : Opens Try.prog 45 RFS := by
  refine Opens.change (R := (Rep.list RNode)) (Opens.struct fu45 (by kernel_rfl) (by rw [fl45]; exact OpensFs.one rfl op43)) rfl ?_
  rintro w cs a0 h
  exact ⟨FS.mk a0, h⟩
theorem fu47 : Try.prog.underlying 47 = some (.struct (Try.prog.fieldsOf 47)) := by kernel_rfl
theorem fl47 : (Try.prog.fieldsOf 47).toList = [⟨ "Name", 9, 0, false,  "",  "", 0⟩, ⟨ "Words", 27, 1, false,  "",  "", 16⟩, ⟨ "FS", 45, 2, false,  "",  "", 40⟩] := by kernel_rfl
theorem op47 : Opens Try.prog 47 REntry := by
  refine Opens.change (R := (Rep.prod Rep.str (Rep.prod (Rep.list Rep.str) RFS))) (Opens.struct fu47 (by kernel_rfl) (by rw [fl47]; exact OpensFs.cons rfl op9 (by decide) (OpensFs.cons rfl op27 (by decide) (OpensFs.one rfl op45)))) rfl ?_
  rintro w cs ⟨a0, a1, a2⟩ h
  exact ⟨Entry.mk a0 a1 a2, h⟩
theorem op22 : Opens Try.prog 22 (Rep.list REntry) := Opens.list op47 (by decide) Try.underlying22 (by kernel_rfl)
theorem fu49 : Try.prog.underlying 49 = some (.struct (Try.prog.fieldsOf 49)) := by kernel_rfl
theorem fl49 : (Try.prog.fieldsOf 49).toList = [⟨ "Old", 9, 0, false,  "",  "", 0⟩, ⟨ "New", 9, 1, false,  "",  "", 16⟩] := by kernel_rfl
theorem op49 : Opens Try.prog 49 RChange := by
  refine Opens.change (R := (Rep.prod Rep.str Rep.str)) (Opens.struct fu49 (by kernel_rfl) (by rw [fl49]; exact OpensFs.cons rfl op9 (by decide) (OpensFs.one rfl op9))) rfl ?_
  rintro w cs ⟨a0, a1⟩ h
  exact ⟨Change.mk a0 a1, h⟩
theorem op50 : Opens Try.prog 50 (Rep.list RChange) := Opens.list op49 (by decide) Try.underlying50 (by kernel_rfl)
theorem fu52 : Try.prog.underlying 52 = some (.struct (Try.prog.fieldsOf 52)) := by kernel_rfl
theorem fl52 : (Try.prog.fieldsOf 52).toList = [⟨ "Kind", 3, 0, false,  "",  "", 0⟩, ⟨ "Pairs", 50, 1, false,  "",  "", 8⟩] := by kernel_rfl
theorem op52 : Opens Try.prog 52 RAffix := by
  refine Opens.change (R := (Rep.prod (Rep.num .i64) (Rep.list RChange))) (Opens.struct fu52 (by kernel_rfl) (by rw [fl52]; exact OpensFs.cons rfl op3 (by decide) (OpensFs.one rfl op50))) rfl ?_
  rintro w cs ⟨a0, a1⟩ h
  exact ⟨Affix.mk a0 a1, h⟩
theorem fu54 : Try.prog.underlying 54 = some (.struct (Try.prog.fieldsOf 54)) := by kernel_rfl
theorem fl54 : (Try.prog.fieldsOf 54).toList = [⟨ "Name", 9, 0, false,  "",  "", 0⟩, ⟨ "Affix", 52, 1, false,  "",  "", 16⟩, ⟨ "FS", 45, 3, false,  "",  "", 48⟩] := by kernel_rfl
theorem op54 : Opens Try.prog 54 RLexRule := by
  refine Opens.change (R := (Rep.prod Rep.str (Rep.prod RAffix RFS))) (Opens.struct fu54 (by kernel_rfl) (by rw [fl54]; exact OpensFs.cons rfl op9 (by decide) (OpensFs.cons rfl op52 (by decide) (OpensFs.one rfl op45)))) rfl ?_
  rintro w cs ⟨a0, a1, a2⟩ h
  exact ⟨LexRule.mk a0 a1 a2, h⟩
theorem op33 : Opens Try.prog 33 (Rep.list RLexRule) := Opens.list op54 (by decide) Try.underlying33 (by kernel_rfl)
theorem op30 : Opens Try.prog 30 (Rep.list (Rep.num .i64)) := Opens.list op3 (by decide) Try.underlying30 (by kernel_rfl)
theorem fu35 : Try.prog.underlying 35 = some (.struct (Try.prog.fieldsOf 35)) := by kernel_rfl
theorem fl35 : (Try.prog.fieldsOf 35).toList = [⟨ "Entry", 3, 0, false,  "",  "", 0⟩, ⟨ "Rules", 30, 1, false,  "",  "", 8⟩] := by kernel_rfl
theorem op35 : Opens Try.prog 35 RAnalysis := by
  refine Opens.change (R := (Rep.prod (Rep.num .i64) (Rep.list (Rep.num .i64)))) (Opens.struct fu35 (by kernel_rfl) (by rw [fl35]; exact OpensFs.cons rfl op3 (by decide) (OpensFs.one rfl op30))) rfl ?_
  rintro w cs ⟨a0, a1⟩ h
  exact ⟨Analysis.mk a0 a1, h⟩
end Go.Proofs.Ytgmghembhenonaa

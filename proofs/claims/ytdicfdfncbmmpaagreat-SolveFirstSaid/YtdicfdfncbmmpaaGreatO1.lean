/- Chapter 42: arguments opened -/
import Derived.Test.YtdicfdfncbmmpaaGreatD1
import Derived.Test.YtdicfdfncbmmpaaGreatGl8
namespace Go.Proofs.YtdicfdfncbmmpaaGreat
open Go.Gl Go.RowKit Tryz
set_option linter.unusedVariables false
set_option linter.unusedSimpArgs false
set_option maxRecDepth 4000

theorem op3 : Opens Tryz.prog 3 (Rep.num .i64) := Opens.change (Opens.int Tryz.underlying3 (by kernel_rfl)) rfl (fun w cs a h => ⟨a, h.1⟩)
theorem op9 : Opens Tryz.prog 9 Rep.str := Opens.str Tryz.underlying9 (by kernel_rfl)
theorem op22 : Opens Tryz.prog 22 (Rep.list Rep.str) := Opens.list op9 (by decide) Tryz.underlying22 (by kernel_rfl)
theorem fu63 : Tryz.prog.underlying 63 = some (.struct (Tryz.prog.fieldsOf 63)) := by kernel_rfl
theorem fl63 : (Tryz.prog.fieldsOf 63).toList = [⟨ "Role", 9, 0, false,  "",  "", 0⟩, ⟨ "Var", 3, 1, false,  "",  "", 16⟩] := by kernel_rfl
theorem op63 : Opens Tryz.prog 63 RArg := by
  refine Opens.change (R := (Rep.prod Rep.str (Rep.num .i64))) (Opens.struct fu63 (by kernel_rfl) (by rw [fl63]; exact OpensFs.cons rfl op9 (by decide) (OpensFs.one rfl op3))) rfl ?_
  rintro w cs ⟨a0, a1⟩ h
  exact ⟨Arg.mk a0 a1, h⟩
theorem op47 : Opens Tryz.prog 47 (Rep.list RArg) := Opens.list op63 (by decide) Tryz.underlying47 (by kernel_rfl)
theorem fu49 : Tryz.prog.underlying 49 = some (.struct (Tryz.prog.fieldsOf 49)) := by kernel_rfl
theorem fl49 : (Tryz.prog.fieldsOf 49).toList = [⟨ "Pred", 9, 0, false,  "",  "", 0⟩, ⟨ "Label", 3, 1, false,  "",  "", 16⟩, ⟨ "Args", 47, 2, false,  "",  "", 24⟩] := by kernel_rfl
theorem op49 : Opens Tryz.prog 49 REP := by
  refine Opens.change (R := (Rep.prod Rep.str (Rep.prod (Rep.num .i64) (Rep.list RArg)))) (Opens.struct fu49 (by kernel_rfl) (by rw [fl49]; exact OpensFs.cons rfl op9 (by decide) (OpensFs.cons rfl op3 (by decide) (OpensFs.one rfl op47)))) rfl ?_
  rintro w cs ⟨a0, a1, a2⟩ h
  exact ⟨EP.mk a0 a1 a2, h⟩
theorem op23 : Opens Tryz.prog 23 (Rep.list REP) := Opens.list op49 (by decide) Tryz.underlying23 (by kernel_rfl)
theorem fu65 : Tryz.prog.underlying 65 = some (.struct (Tryz.prog.fieldsOf 65)) := by kernel_rfl
theorem fl65 : (Tryz.prog.fieldsOf 65).toList = [⟨ "High", 3, 0, false,  "",  "", 0⟩, ⟨ "Low", 3, 1, false,  "",  "", 8⟩] := by kernel_rfl
theorem op65 : Opens Tryz.prog 65 RQeq := by
  refine Opens.change (R := (Rep.prod (Rep.num .i64) (Rep.num .i64))) (Opens.struct fu65 (by kernel_rfl) (by rw [fl65]; exact OpensFs.cons rfl op3 (by decide) (OpensFs.one rfl op3))) rfl ?_
  rintro w cs ⟨a0, a1⟩ h
  exact ⟨Qeq.mk a0 a1, h⟩
theorem op24 : Opens Tryz.prog 24 (Rep.list RQeq) := Opens.list op65 (by decide) Tryz.underlying24 (by kernel_rfl)
theorem fu26 : Tryz.prog.underlying 26 = some (.struct (Tryz.prog.fieldsOf 26)) := by kernel_rfl
theorem fl26 : (Tryz.prog.fieldsOf 26).toList = [⟨ "Top", 3, 0, false,  "",  "", 0⟩, ⟨ "Index", 3, 1, false,  "",  "", 8⟩, ⟨ "Vars", 22, 2, false,  "",  "", 16⟩, ⟨ "Rels", 23, 3, false,  "",  "", 40⟩, ⟨ "Cons", 24, 4, false,  "",  "", 64⟩] := by kernel_rfl
theorem op26 : Opens Tryz.prog 26 RMRS := by
  refine Opens.change (R := (Rep.prod (Rep.num .i64) (Rep.prod (Rep.num .i64) (Rep.prod (Rep.list Rep.str) (Rep.prod (Rep.list REP) (Rep.list RQeq)))))) (Opens.struct fu26 (by kernel_rfl) (by rw [fl26]; exact OpensFs.cons rfl op3 (by decide) (OpensFs.cons rfl op3 (by decide) (OpensFs.cons rfl op22 (by decide) (OpensFs.cons rfl op23 (by decide) (OpensFs.one rfl op24)))))) rfl ?_
  rintro w cs ⟨a0, a1, a2, a3, a4⟩ h
  exact ⟨MRS.mk a0 a1 a2 a3 a4, h⟩
end Go.Proofs.YtdicfdfncbmmpaaGreat


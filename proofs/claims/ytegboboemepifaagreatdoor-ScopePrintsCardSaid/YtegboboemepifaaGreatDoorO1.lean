/- Chapter 41: arguments opened -/
import Derived.Test.YtegboboemepifaaGreatDoorD1
import Derived.Test.YtegboboemepifaaGreatDoorGl8
namespace Go.Proofs.YtegboboemepifaaGreatDoor
open Go.Gl Go.RowKit Tryz
set_option linter.unusedVariables false
set_option linter.unusedSimpArgs false
set_option maxRecDepth 4000

theorem op3 : Opens Tryz.prog 3 (Rep.num .i64) := Opens.change (Opens.int Tryz.underlying3 (by kernel_rfl)) rfl (fun w cs a h => ⟨a, h.1⟩)
theorem op9 : Opens Tryz.prog 9 Rep.str := Opens.str Tryz.underlying9 (by kernel_rfl)
theorem op22 : Opens Tryz.prog 22 (Rep.list Rep.str) := Opens.list op9 (by decide) Tryz.underlying22 (by kernel_rfl)
theorem fu45 : Tryz.prog.underlying 45 = some (.struct (Tryz.prog.fieldsOf 45)) := by kernel_rfl
theorem fl45 : (Tryz.prog.fieldsOf 45).toList = [⟨ "Role", 9, 0, false,  "",  "", 0⟩, ⟨ "Var", 3, 1, false,  "",  "", 16⟩] := by kernel_rfl
theorem op45 : Opens Tryz.prog 45 RArg := by
  refine Opens.change (R := (Rep.prod Rep.str (Rep.num .i64))) (Opens.struct fu45 (by kernel_rfl) (by rw [fl45]; exact OpensFs.cons rfl op9 (by decide) (OpensFs.one rfl op3))) rfl ?_
  rintro w cs ⟨a0, a1⟩ h
  exact ⟨Arg.mk a0 a1, h⟩
theorem op41 : Opens Tryz.prog 41 (Rep.list RArg) := Opens.list op45 (by decide) Tryz.underlying41 (by kernel_rfl)
theorem fu43 : Tryz.prog.underlying 43 = some (.struct (Tryz.prog.fieldsOf 43)) := by kernel_rfl
theorem fl43 : (Tryz.prog.fieldsOf 43).toList = [⟨ "Pred", 9, 0, false,  "",  "", 0⟩, ⟨ "Label", 3, 1, false,  "",  "", 16⟩, ⟨ "Args", 41, 2, false,  "",  "", 24⟩] := by kernel_rfl
theorem op43 : Opens Tryz.prog 43 REP := by
  refine Opens.change (R := (Rep.prod Rep.str (Rep.prod (Rep.num .i64) (Rep.list RArg)))) (Opens.struct fu43 (by kernel_rfl) (by rw [fl43]; exact OpensFs.cons rfl op9 (by decide) (OpensFs.cons rfl op3 (by decide) (OpensFs.one rfl op41)))) rfl ?_
  rintro w cs ⟨a0, a1, a2⟩ h
  exact ⟨EP.mk a0 a1 a2, h⟩
theorem op23 : Opens Tryz.prog 23 (Rep.list REP) := Opens.list op43 (by decide) Tryz.underlying23 (by kernel_rfl)
theorem fu48 : Tryz.prog.underlying 48 = some (.struct (Tryz.prog.fieldsOf 48)) := by kernel_rfl
theorem fl48 : (Tryz.prog.fieldsOf 48).toList = [⟨ "High", 3, 0, false,  "",  "", 0⟩, ⟨ "Low", 3, 1, false,  "",  "", 8⟩] := by kernel_rfl
theorem op48 : Opens Tryz.prog 48 RQeq := by
  refine Opens.change (R := (Rep.prod (Rep.num .i64) (Rep.num .i64))) (Opens.struct fu48 (by kernel_rfl) (by rw [fl48]; exact OpensFs.cons rfl op3 (by decide) (OpensFs.one rfl op3))) rfl ?_
  rintro w cs ⟨a0, a1⟩ h
  exact ⟨Qeq.mk a0 a1, h⟩
theorem op24 : Opens Tryz.prog 24 (Rep.list RQeq) := Opens.list op48 (by decide) Tryz.underlying24 (by kernel_rfl)
theorem fu26 : Tryz.prog.underlying 26 = some (.struct (Tryz.prog.fieldsOf 26)) := by kernel_rfl
theorem fl26 : (Tryz.prog.fieldsOf 26).toList = [⟨ "Top", 3, 0, false,  "",  "", 0⟩, ⟨ "Index", 3, 1, false,  "",  "", 8⟩, ⟨ "Vars", 22, 2, false,  "",  "", 16⟩, ⟨ "Rels", 23, 3, false,  "",  "", 40⟩, ⟨ "Cons", 24, 4, false,  "",  "", 64⟩] := by kernel_rfl
theorem op26 : Opens Tryz.prog 26 RMRS := by
  refine Opens.change (R := (Rep.prod (Rep.num .i64) (Rep.prod (Rep.num .i64) (Rep.prod (Rep.list Rep.str) (Rep.prod (Rep.list REP) (Rep.list RQeq)))))) (Opens.struct fu26 (by kernel_rfl) (by rw [fl26]; exact OpensFs.cons rfl op3 (by decide) (OpensFs.cons rfl op3 (by decide) (OpensFs.cons rfl op22 (by decide) (OpensFs.cons rfl op23 (by decide) (OpensFs.one rfl op24)))))) rfl ?_
  rintro w cs ⟨a0, a1, a2, a3, a4⟩ h
  exact ⟨MRS.mk a0 a1 a2 a3 a4, h⟩
theorem op5 : Opens Tryz.prog 5 Rep.u8 := Opens.change (Opens.int Tryz.underlying5 (by kernel_rfl)) rfl (fun w cs a h => ⟨UInt8.ofNat a.toNat, by obtain ⟨h1, h2⟩ := h; have := inu8.1 h2; subst h1; show [Value.int .u8 a] = [Value.int .u8 _]; congr 2; simp [UInt8.toNat_ofNat']; omega⟩)
theorem op32 : Opens Tryz.prog 32 (Rep.list Rep.u8) := Opens.list op5 (by decide) Tryz.underlying32 (by kernel_rfl)
theorem op30 : Opens Tryz.prog 30 (Rep.list (Rep.num .i64)) := Opens.list op3 (by decide) Tryz.underlying30 (by kernel_rfl)
end Go.Proofs.YtegboboemepifaaGreatDoor


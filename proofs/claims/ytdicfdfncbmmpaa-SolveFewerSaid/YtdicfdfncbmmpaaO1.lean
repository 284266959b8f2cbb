/- Chapter 42: arguments opened -/
import Derived.Test.YtdicfdfncbmmpaaD1
import Derived.Test.YtdicfdfncbmmpaaGl8
namespace Go.Proofs.Ytdicfdfncbmmpaa
open Go.Gl Go.RowKit
set_option linter.unusedVariables false
set_option linter.unusedSimpArgs false
set_option maxRecDepth 4000

theorem op3 : Opens Try.prog 3 (Rep.num .i64) := Opens.change (Opens.int Try.underlying3 (by kernel_rfl)) rfl (fun w cs a h => ⟨a, h.1⟩)
theorem op9 : Opens Try.prog 9 Rep.str := Opens.str Try.underlying9 (by kernel_rfl)
theorem op22 : Opens Try.prog 22 (Rep.list Rep.str) := Opens.list op9 (by decide) Try.underlying22 (by kernel_rfl)
theorem fu76 : Try.prog.underlying 76 = some (.struct (Try.prog.fieldsOf 76)) := by kernel_rfl
theorem fl76 : (Try.prog.fieldsOf 76).toList = [⟨ "Role", 9, 0, false,  "",  "", 0⟩, ⟨ "Var", 3, 1, false,  "",  "", 16⟩] := by kernel_rfl
theorem op76 : Opens Try.prog 76 RArg := by
  refine Opens.change (R := (Rep.prod Rep.str (Rep.num .i64))) (Opens.struct fu76 (by kernel_rfl) (by rw [fl76]; exact OpensFs.cons rfl op9 (by decide) (OpensFs.one rfl op3))) rfl ?_
  rintro w cs ⟨a0, a1⟩ h
  exact ⟨Arg.mk a0 a1, h⟩
theorem op53 : Opens Try.prog 53 (Rep.list RArg) := Opens.list op76 (by decide) Try.underlying53 (by kernel_rfl)
theorem fu55 : Try.prog.underlying 55 = some (.struct (Try.prog.fieldsOf 55)) := by kernel_rfl
theorem fl55 : (Try.prog.fieldsOf 55).toList = [⟨ "Pred", 9, 0, false,  "",  "", 0⟩, ⟨ "Label", 3, 1, false,  "",  "", 16⟩, ⟨ "Args", 53, 2, false,  "",  "", 24⟩] := by kernel_rfl
theorem op55 : Opens Try.prog 55 REP := by
  refine Opens.change (R := (Rep.prod Rep.str (Rep.prod (Rep.num .i64) (Rep.list RArg)))) (Opens.struct fu55 (by kernel_rfl) (by rw [fl55]; exact OpensFs.cons rfl op9 (by decide) (OpensFs.cons rfl op3 (by decide) (OpensFs.one rfl op53)))) rfl ?_
  rintro w cs ⟨a0, a1, a2⟩ h
  exact ⟨EP.mk a0 a1 a2, h⟩
theorem op23 : Opens Try.prog 23 (Rep.list REP) := Opens.list op55 (by decide) Try.underlying23 (by kernel_rfl)
theorem fu45 : Try.prog.underlying 45 = some (.struct (Try.prog.fieldsOf 45)) := by kernel_rfl
theorem fl45 : (Try.prog.fieldsOf 45).toList = [⟨ "High", 3, 0, false,  "",  "", 0⟩, ⟨ "Low", 3, 1, false,  "",  "", 8⟩] := by kernel_rfl
theorem op45 : Opens Try.prog 45 RQeq := by
  refine Opens.change (R := (Rep.prod (Rep.num .i64) (Rep.num .i64))) (Opens.struct fu45 (by kernel_rfl) (by rw [fl45]; exact OpensFs.cons rfl op3 (by decide) (OpensFs.one rfl op3))) rfl ?_
  rintro w cs ⟨a0, a1⟩ h
  exact ⟨Qeq.mk a0 a1, h⟩
theorem op24 : Opens Try.prog 24 (Rep.list RQeq) := Opens.list op45 (by decide) Try.underlying24 (by kernel_rfl)
theorem fu26 : Try.prog.underlying 26 = some (.struct (Try.prog.fieldsOf 26)) := by kernel_rfl
theorem fl26 : (Try.prog.fieldsOf 26).toList = [⟨ "Top", 3, 0, false,  "",  "", 0⟩, ⟨ "Index", 3, 1, false,  "",  "", 8⟩, ⟨ "Vars", 22, 2, false,  "",  "", 16⟩, ⟨ "Rels", 23, 3, false,  "",  "", 40⟩, ⟨ "Cons", 24, 4, false,  "",  "", 64⟩] := by kernel_rfl
theorem op26 : Opens Try.prog 26 RMRS := by
  refine Opens.change (R := (Rep.prod (Rep.num .i64) (Rep.prod (Rep.num .i64) (Rep.prod (Rep.list Rep.str) (Rep.prod (Rep.list REP) (Rep.list RQeq)))))) (Opens.struct fu26 (by kernel_rfl) (by rw [fl26]; exact OpensFs.cons rfl op3 (by decide) (OpensFs.cons rfl op3 (by decide) (OpensFs.cons rfl op22 (by decide) (OpensFs.cons rfl op23 (by decide) (OpensFs.one rfl op24)))))) rfl ?_
  rintro w cs ⟨a0, a1, a2, a3, a4⟩ h
  exact ⟨MRS.mk a0 a1 a2 a3 a4, h⟩
theorem op5 : Opens Try.prog 5 Rep.u8 := Opens.change (Opens.int Try.underlying5 (by kernel_rfl)) rfl (fun w cs a h => ⟨UInt8.ofNat a.toNat, by obtain ⟨h1, h2⟩ := h; have := inu8.1 h2; subst h1; show [Value.int .u8 a] = [Value.int .u8 _]; congr 2; simp [UInt8.toNat_ofNat']; omega⟩)
end Go.Proofs.Ytdicfdfncbmmpaa

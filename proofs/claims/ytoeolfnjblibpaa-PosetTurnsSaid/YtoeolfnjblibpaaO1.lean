/- Chapter 03: arguments opened -/
import Derived.Test.YtoeolfnjblibpaaD1
import Derived.Test.YtoeolfnjblibpaaGl8
namespace Go.Proofs.Ytoeolfnjblibpaa
open Go.Gl Go.RowKit Try
set_option linter.unusedVariables false
set_option linter.unusedSimpArgs false
set_option maxRecDepth 4000

theorem op9 : Opens Try.prog 9 Rep.str := Opens.str Try.underlying9 (by kernel_rfl)
theorem op27 : Opens Try.prog 27 (Rep.list Rep.str) := Opens.list op9 (by decide) Try.underlying27 (by kernel_rfl)
theorem fu44 : Try.prog.underlying 44 = some (.struct (Try.prog.fieldsOf 44)) := by kernel_rfl
theorem fl44 : (Try.prog.fieldsOf 44).toList = [⟨ "Feat", 9, 0, false,  "",  "", 0⟩, ⟨ "Value", 9, 1, false,  "",  "", 16⟩] := by kernel_rfl
theorem op44 : Opens Try.prog 44 RFeatDecl := by
  refine Opens.change (R := (Rep.prod Rep.str Rep.str)) (Opens.struct fu44 (by kernel_rfl) (by rw [fl44]; exact OpensFs.cons rfl op9 (by decide) (OpensFs.one rfl op9))) rfl ?_
  rintro w cs ⟨a0, a1⟩ h
  exact ⟨FeatDecl.mk a0 a1, h⟩
theorem op38 : Opens Try.prog 38 (Rep.list RFeatDecl) := Opens.list op44 (by decide) Try.underlying38 (by kernel_rfl)
theorem fu40 : Try.prog.underlying 40 = some (.struct (Try.prog.fieldsOf 40)) := by kernel_rfl
theorem fl40 : (Try.prog.fieldsOf 40).toList = [⟨ "Name", 9, 0, false,  "",  "", 0⟩, ⟨ "Supers", 27, 1, false,  "",  "", 16⟩, ⟨ "Feats", 38, 2, false,  "",  "", 40⟩] := by kernel_rfl
theorem op40 : Opens Try.prog 40 RTypeDecl := by
  refine Opens.change (R := (Rep.prod Rep.str (Rep.prod (Rep.list Rep.str) (Rep.list RFeatDecl)))) (Opens.struct fu40 (by kernel_rfl) (by rw [fl40]; exact OpensFs.cons rfl op9 (by decide) (OpensFs.cons rfl op27 (by decide) (OpensFs.one rfl op38)))) rfl ?_
  rintro w cs ⟨a0, a1, a2⟩ h
  exact ⟨TypeDecl.mk a0 a1 a2, h⟩
theorem op22 : Opens Try.prog 22 (Rep.list RTypeDecl) := Opens.list op40 (by decide) Try.underlying22 (by kernel_rfl)
theorem op5 : Opens Try.prog 5 Rep.u8 := Opens.change (Opens.int Try.underlying5 (by kernel_rfl)) rfl (fun w cs a h => ⟨UInt8.ofNat a.toNat, by obtain ⟨h1, h2⟩ := h; have := inu8.1 h2; subst h1; show [Value.int .u8 a] = [Value.int .u8 _]; congr 2; simp [UInt8.toNat_ofNat']; omega⟩)
end Go.Proofs.Ytoeolfnjblibpaa

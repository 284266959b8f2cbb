/- Chapter 22: arguments opened -/
import Derived.Test.YtbhjplflnkidgaaGreatD1
import Derived.Test.YtbhjplflnkidgaaGreatGl8
import Derived.Test.YtbhjplflnkidgaaGreatGl28
namespace Go.Proofs.YtbhjplflnkidgaaGreat
open Go.Gl Go.RowKit Tryz
set_option linter.unusedVariables false
set_option linter.unusedSimpArgs false
set_option maxRecDepth 4000
theorem op9 : Opens Tryz.prog 9 Rep.str := Opens.str Tryz.underlying9 (by kernel_rfl)
theorem op25 : Opens Tryz.prog 25 (Rep.list Rep.str) := Opens.list op9 (by decide) Tryz.underlying25 (by kernel_rfl)
theorem fu82 : Tryz.prog.underlying 82 = some (.struct (Tryz.prog.fieldsOf 82)) := by kernel_rfl
theorem fl82 : (Tryz.prog.fieldsOf 82).toList = [⟨ "Feat", 9, 0, false,  "",  "", 0⟩, ⟨ "Value", 9, 1, false,  "",  "", 16⟩] := by kernel_rfl
theorem op82 : Opens Tryz.prog 82 RFeatDecl := by
  refine Opens.change (R := (Rep.prod Rep.str Rep.str)) (Opens.struct fu82 (by kernel_rfl) (by rw [fl82]; exact OpensFs.cons rfl op9 (by decide) (OpensFs.one rfl op9))) rfl ?_
  rintro w cs ⟨a0, a1⟩ h
  exact ⟨FeatDecl.mk a0 a1, h⟩
theorem op47 : Opens Tryz.prog 47 (Rep.list RFeatDecl) := Opens.list op82 (by decide) Tryz.underlying47 (by kernel_rfl)
theorem fu49 : Tryz.prog.underlying 49 = some (.struct (Tryz.prog.fieldsOf 49)) := by kernel_rfl
theorem fl49 : (Tryz.prog.fieldsOf 49).toList = [⟨ "Name", 9, 0, false,  "",  "", 0⟩, ⟨ "Supers", 25, 1, false,  "",  "", 16⟩, ⟨ "Feats", 47, 2, false,  "",  "", 40⟩] := by kernel_rfl
theorem op49 : Opens Tryz.prog 49 RTypeDecl := by
  refine Opens.change (R := (Rep.prod Rep.str (Rep.prod (Rep.list Rep.str) (Rep.list RFeatDecl)))) (Opens.struct fu49 (by kernel_rfl) (by rw [fl49]; exact OpensFs.cons rfl op9 (by decide) (OpensFs.cons rfl op25 (by decide) (OpensFs.one rfl op47)))) rfl ?_
  rintro w cs ⟨a0, a1, a2⟩ h
  exact ⟨TypeDecl.mk a0 a1 a2, h⟩
theorem op32 : Opens Tryz.prog 32 (Rep.list RTypeDecl) := Opens.list op49 (by decide) Tryz.underlying32 (by kernel_rfl)
theorem op3 : Opens Tryz.prog 3 (Rep.num .i64) := Opens.change (Opens.int Tryz.underlying3 (by kernel_rfl)) rfl (fun w cs a h => ⟨a, h.1⟩)
theorem fu60 : Tryz.prog.underlying 60 = some (.struct (Tryz.prog.fieldsOf 60)) := by kernel_rfl
theorem fl60 : (Tryz.prog.fieldsOf 60).toList = [⟨ "Op", 3, 0, false,  "",  "", 0⟩, ⟨ "Name", 9, 1, false,  "",  "", 8⟩, ⟨ "Path", 25, 2, false,  "",  "", 24⟩, ⟨ "Kids", 58, 3, false,  "",  "", 48⟩] := by kernel_rfl
theorem op60 : Opens Tryz.prog 60 RDesc := OpensN.all fun N => by
  induction N with
  | zero => exact OpensN.zero (by kernel_rfl)
  | succ N ih =>
    refine OpensN.change (R := (Rep.prod (Rep.num .i64) (Rep.prod Rep.str (Rep.prod (Rep.list Rep.str) (Rep.list RDesc))))) (OpensN.struct fu60 (by kernel_rfl) (by rw [fl60]; exact OpensFsN.cons rfl (op3.n N) (by decide) (OpensFsN.cons rfl (op9.n N) (by decide) (OpensFsN.cons rfl (op25.n N) (by decide) (OpensFsN.one rfl (ih.list (by decide) Tryz.underlying58 (by kernel_rfl))))))) rfl ?_
    rintro w cs ⟨a0, a1, a2, a3⟩ h
    exact ⟨Desc.mk a0 a1 a2 a3, Rep.mu_mk FDesc.cts h⟩
theorem op58 : Opens Tryz.prog 58 (Rep.list RDesc) := Opens.list op60 (by decide) Tryz.underlying58 (by kernel_rfl)
theorem fu62 : Tryz.prog.underlying 62 = some (.struct (Tryz.prog.fieldsOf 62)) := by kernel_rfl
theorem fl62 : (Tryz.prog.fieldsOf 62).toList = [⟨ "Name", 9, 0, false,  "",  "", 0⟩, ⟨ "Strict", 60, 1, false,  "",  "", 16⟩, ⟨ "Defaults", 58, 5, false,  "",  "", 88⟩] := by kernel_rfl
theorem op62 : Opens Tryz.prog 62 RDef := by
  refine Opens.change (R := (Rep.prod Rep.str (Rep.prod RDesc (Rep.list RDesc)))) (Opens.struct fu62 (by kernel_rfl) (by rw [fl62]; exact OpensFs.cons rfl op9 (by decide) (OpensFs.cons rfl op60 (by decide) (OpensFs.one rfl op58)))) rfl ?_
  rintro w cs ⟨a0, a1, a2⟩ h
  exact ⟨Def.mk a0 a1 a2, h⟩
theorem op33 : Opens Tryz.prog 33 (Rep.list RDef) := Opens.list op62 (by decide) Tryz.underlying33 (by kernel_rfl)
theorem fu89 : Tryz.prog.underlying 89 = some (.struct (Tryz.prog.fieldsOf 89)) := by kernel_rfl
theorem fl89 : (Tryz.prog.fieldsOf 89).toList = [⟨ "Words", 25, 0, false,  "",  "", 0⟩, ⟨ "Def", 62, 1, false,  "",  "", 24⟩] := by kernel_rfl
theorem op89 : Opens Tryz.prog 89 REntryDecl := by
  refine Opens.change (R := (Rep.prod (Rep.list Rep.str) RDef)) (Opens.struct fu89 (by kernel_rfl) (by rw [fl89]; exact OpensFs.cons rfl op25 (by decide) (OpensFs.one rfl op62))) rfl ?_
  rintro w cs ⟨a0, a1⟩ h
  exact ⟨EntryDecl.mk a0 a1, h⟩
theorem op34 : Opens Tryz.prog 34 (Rep.list REntryDecl) := Opens.list op89 (by decide) Tryz.underlying34 (by kernel_rfl)
theorem fu144 : Tryz.prog.underlying 144 = some (.struct (Tryz.prog.fieldsOf 144)) := by kernel_rfl
theorem fl144 : (Tryz.prog.fieldsOf 144).toList = [⟨ "Old", 9, 0, false,  "",  "", 0⟩, ⟨ "New", 9, 1, false,  "",  "", 16⟩] := by kernel_rfl
theorem op144 : Opens Tryz.prog 144 RChange := by
  refine Opens.change (R := (Rep.prod Rep.str Rep.str)) (Opens.struct fu144 (by kernel_rfl) (by rw [fl144]; exact OpensFs.cons rfl op9 (by decide) (OpensFs.one rfl op9))) rfl ?_
  rintro w cs ⟨a0, a1⟩ h
  exact ⟨Change.mk a0 a1, h⟩
theorem op90 : Opens Tryz.prog 90 (Rep.list RChange) := Opens.list op144 (by decide) Tryz.underlying90 (by kernel_rfl)
theorem fu92 : Tryz.prog.underlying 92 = some (.struct (Tryz.prog.fieldsOf 92)) := by kernel_rfl
theorem fl92 : (Tryz.prog.fieldsOf 92).toList = [⟨ "Kind", 3, 0, false,  "",  "", 0⟩, ⟨ "Pairs", 90, 1, false,  "",  "", 8⟩] := by kernel_rfl
theorem op92 : Opens Tryz.prog 92 RAffix := by
  refine Opens.change (R := (Rep.prod (Rep.num .i64) (Rep.list RChange))) (Opens.struct fu92 (by kernel_rfl) (by rw [fl92]; exact OpensFs.cons rfl op3 (by decide) (OpensFs.one rfl op90))) rfl ?_
  rintro w cs ⟨a0, a1⟩ h
  exact ⟨Affix.mk a0 a1, h⟩
theorem fu94 : Tryz.prog.underlying 94 = some (.struct (Tryz.prog.fieldsOf 94)) := by kernel_rfl
theorem fl94 : (Tryz.prog.fieldsOf 94).toList = [⟨ "Affix", 92, 0, false,  "",  "", 0⟩, ⟨ "Def", 62, 2, false,  "",  "", 32⟩] := by kernel_rfl
theorem op94 : Opens Tryz.prog 94 RLexDecl := by
  refine Opens.change (R := (Rep.prod RAffix RDef)) (Opens.struct fu94 (by kernel_rfl) (by rw [fl94]; exact OpensFs.cons rfl op92 (by decide) (OpensFs.one rfl op62))) rfl ?_
  rintro w cs ⟨a0, a1⟩ h
  exact ⟨LexDecl.mk a0 a1, h⟩
theorem op35 : Opens Tryz.prog 35 (Rep.list RLexDecl) := Opens.list op94 (by decide) Tryz.underlying35 (by kernel_rfl)
theorem op36 : Opens Tryz.prog 36 (Rep.list (Rep.list Rep.str)) := Opens.list op25 (by decide) Tryz.underlying36 (by kernel_rfl)
theorem fu38 : Tryz.prog.underlying 38 = some (.struct (Tryz.prog.fieldsOf 38)) := by kernel_rfl
theorem fl38 : (Tryz.prog.fieldsOf 38).toList = [⟨ "Name", 9, 0, false,  "",  "", 0⟩, ⟨ "Imports", 25, 1, false,  "",  "", 16⟩, ⟨ "Types", 32, 2, false,  "",  "", 40⟩, ⟨ "Templates", 33, 3, false,  "",  "", 64⟩, ⟨ "Entries", 34, 4, false,  "",  "", 88⟩, ⟨ "LexRules", 35, 5, false,  "",  "", 112⟩, ⟨ "Rules", 33, 6, false,  "",  "", 136⟩, ⟨ "Roots", 33, 7, false,  "",  "", 160⟩, ⟨ "Checks", 36, 8, false,  "",  "", 184⟩, ⟨ "Drops", 25, 9, false,  "",  "", 208⟩] := by kernel_rfl
theorem op38 : Opens Tryz.prog 38 RModule := by
  refine Opens.change (R := (Rep.prod Rep.str (Rep.prod (Rep.list Rep.str) (Rep.prod (Rep.list RTypeDecl) (Rep.prod (Rep.list RDef) (Rep.prod (Rep.list REntryDecl) (Rep.prod (Rep.list RLexDecl) (Rep.prod (Rep.list RDef) (Rep.prod (Rep.list RDef) (Rep.prod (Rep.list (Rep.list Rep.str)) (Rep.list Rep.str))))))))))) (Opens.struct fu38 (by kernel_rfl) (by rw [fl38]; exact OpensFs.cons rfl op9 (by decide) (OpensFs.cons rfl op25 (by decide) (OpensFs.cons rfl op32 (by decide) (OpensFs.cons rfl op33 (by decide) (OpensFs.cons rfl op34 (by decide) (OpensFs.cons rfl op35 (by decide) (OpensFs.cons rfl op33 (by decide) (OpensFs.cons rfl op33 (by decide) (OpensFs.cons rfl op36 (by decide) (OpensFs.one rfl op25))))))))))) rfl ?_
  rintro w cs ⟨a0, a1, a2, a3, a4, a5, a6, a7, a8, a9⟩ h
  exact ⟨Module.mk a0 a1 a2 a3 a4 a5 a6 a7 a8 a9, h⟩
end Go.Proofs.YtbhjplflnkidgaaGreat

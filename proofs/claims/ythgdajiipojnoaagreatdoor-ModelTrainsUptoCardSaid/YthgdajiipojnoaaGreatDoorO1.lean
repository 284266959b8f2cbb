/- Chapter 37: arguments opened, with their sizes -/
import Derived.Test.YthgdajiipojnoaaGreatDoorD1
import Derived.Test.YthgdajiipojnoaaGreatDoorGl31
namespace Go.Proofs.YthgdajiipojnoaaGreatDoor
open Go.Gl Go.ChangeShapes Go.WideShapes
set_option linter.unusedVariables false
set_option linter.unusedSimpArgs false
set_option maxRecDepth 100000
theorem op3 : Opens Tryz.prog 3 (Rep.num .i64) := Opens.change (Opens.int Tryz.underlying3 (by kernel_rfl)) rfl (fun w cs a h => ⟨a, h.1⟩)
theorem fu39 : Tryz.prog.underlying 39 = some (.struct (Tryz.prog.fieldsOf 39)) := by kernel_rfl
theorem fl39 : (Tryz.prog.fieldsOf 39).toList = [⟨ "Feature", 9, 0, false,  "",  "", 0⟩, ⟨ "Value", 3, 1, false,  "",  "", 16⟩] := by kernel_rfl
theorem fu24 : Tryz.prog.underlying 24 = some (.struct (Tryz.prog.fieldsOf 24)) := by kernel_rfl
theorem fl24 : (Tryz.prog.fieldsOf 24).toList = [⟨ "Weights", 22, 0, false,  "",  "", 0⟩] := by kernel_rfl
theorem fu42 : Tryz.prog.underlying 42 = some (.struct (Tryz.prog.fieldsOf 42)) := by kernel_rfl
theorem fl42 : (Tryz.prog.fieldsOf 42).toList = [⟨ "Kind", 3, 0, false,  "",  "", 0⟩, ⟨ "Name", 9, 1, false,  "",  "", 8⟩, ⟨ "From", 3, 2, false,  "",  "", 24⟩, ⟨ "To", 3, 3, false,  "",  "", 32⟩, ⟨ "Kids", 35, 4, false,  "",  "", 40⟩] := by kernel_rfl
theorem fu37 : Tryz.prog.underlying 37 = some (.struct (Tryz.prog.fieldsOf 37)) := by kernel_rfl
theorem fl37 : (Tryz.prog.fieldsOf 37).toList = [⟨ "Readings", 35, 0, false,  "",  "", 0⟩, ⟨ "Gold", 3, 1, false,  "",  "", 24⟩] := by kernel_rfl
mutual
def szD : Deriv → Nat
  | ⟨_, nm, _, _, ks⟩ => nm.length + szL ks + 1
def szL : List Deriv → Nat
  | [] => 0
  | d :: r => szD d + szL r
end
theorem szL_eq : ∀ l : List Deriv, szL l = (l.map szD).sum
  | [] => by simp [szL]
  | d :: r => by rw [szL, szL_eq r]; simp
def szW (w : Weight) : Nat := w.Feature.length + 3
def szM (m : Model) : Nat := (m.Weights.map szW).sum + 2
def szJ (j : Judged) : Nat := szL j.Readings + 3
theorem ou3 (N : Nat) : OpensU N Tryz.prog 3 (Rep.num .i64) (fun _ => 1) := OpensU.of op3 (fun _ => Nat.le_refl _) N
theorem ou9 (N : Nat) : OpensU N Tryz.prog 9 Rep.str (fun s => s.length + 1) := OpensU.str Tryz.underlying9 (by kernel_rfl) N
theorem ou39 : ∀ N, OpensU N Tryz.prog 39 RWeight szW
  | 0 => OpensU.zero (by kernel_rfl)
  | N + 1 => by
    refine OpensU.change (R := Rep.prod Rep.str (Rep.num .i64)) (OpensU.struct fu39 (by kernel_rfl) (by rw [fl39]; exact OpensFsU.cons rfl (ou9 N) (by decide) (OpensFsU.one rfl (ou3 N)))) rfl ?_
    rintro w cs ⟨a0, a1⟩ h
    exact ⟨⟨a0, a1⟩, h, by simp only [szW]; omega⟩
theorem ou24 : ∀ N, OpensU N Tryz.prog 24 RModel szM
  | 0 => OpensU.zero (by kernel_rfl)
  | N + 1 => by
    refine OpensU.change (R := Rep.list RWeight) (OpensU.struct fu24 (by kernel_rfl) (by rw [fl24]; exact OpensFsU.one rfl ((ou39 N).list (by decide) Tryz.underlying22 (by kernel_rfl)))) rfl ?_
    rintro w cs a0 h
    exact ⟨⟨a0⟩, h, by simp only [szM]; omega⟩
theorem ou42 : ∀ N, OpensU N Tryz.prog 42 RDeriv szD
  | 0 => OpensU.zero (by kernel_rfl)
  | N + 1 => by
    refine OpensU.change (R := (Rep.prod (Rep.num .i64) (Rep.prod Rep.str (Rep.prod (Rep.num .i64) (Rep.prod (Rep.num .i64) (Rep.list RDeriv)))))) (OpensU.struct fu42 (by kernel_rfl) (by rw [fl42]; exact OpensFsU.cons rfl (ou3 N) (by decide) (OpensFsU.cons rfl (ou9 N) (by decide) (OpensFsU.cons rfl (ou3 N) (by decide) (OpensFsU.cons rfl (ou3 N) (by decide) (OpensFsU.one rfl ((ou42 N).list (by decide) Tryz.underlying35 (by kernel_rfl)))))))) rfl ?_
    rintro w cs ⟨a0, a1, a2, a3, a4⟩ h
    exact ⟨⟨a0, a1, a2, a3, a4⟩, Rep.mu_mk FDeriv.cts h, by simp only [szD, szL_eq]; omega⟩
theorem ou37 : ∀ N, OpensU N Tryz.prog 37 RJudged szJ
  | 0 => OpensU.zero (by kernel_rfl)
  | N + 1 => by
    refine OpensU.change (R := (Rep.prod (Rep.list RDeriv) (Rep.num .i64))) (OpensU.struct fu37 (by kernel_rfl) (by rw [fl37]; exact OpensFsU.cons rfl ((ou42 N).list (by decide) Tryz.underlying35 (by kernel_rfl)) (by decide) (OpensFsU.one rfl (ou3 N)))) rfl ?_
    rintro w cs ⟨a0, a1⟩ h
    exact ⟨⟨a0, a1⟩, h, by simp only [szJ, szL_eq]; omega⟩
end Go.Proofs.YthgdajiipojnoaaGreatDoor

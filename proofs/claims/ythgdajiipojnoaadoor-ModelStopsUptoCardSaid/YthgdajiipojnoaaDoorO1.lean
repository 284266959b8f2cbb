/- Chapter 37: arguments opened, with their sizes -/
import Derived.Test.YthgdajiipojnoaaDoorD1
import Derived.Test.YthgdajiipojnoaaDoorGl31
namespace Go.Proofs.YthgdajiipojnoaaDoor
open Go.Gl Go.ChangeShapes Go.WideShapes
set_option linter.unusedVariables false
set_option linter.unusedSimpArgs false
set_option maxRecDepth 100000
theorem op3 : Opens Tryd.prog 3 (Rep.num .i64) := Opens.change (Opens.int Tryd.underlying3 (by kernel_rfl)) rfl (fun w cs a h => ⟨a, h.1⟩)
theorem fu50 : Tryd.prog.underlying 50 = some (.struct (Tryd.prog.fieldsOf 50)) := by kernel_rfl
theorem fl50 : (Tryd.prog.fieldsOf 50).toList = [⟨ "Feature", 9, 0, false,  "",  "", 0⟩, ⟨ "Value", 3, 1, false,  "",  "", 16⟩] := by kernel_rfl
theorem fu24 : Tryd.prog.underlying 24 = some (.struct (Tryd.prog.fieldsOf 24)) := by kernel_rfl
theorem fl24 : (Tryd.prog.fieldsOf 24).toList = [⟨ "Weights", 22, 0, false,  "",  "", 0⟩] := by kernel_rfl
theorem fu31 : Tryd.prog.underlying 31 = some (.struct (Tryd.prog.fieldsOf 31)) := by kernel_rfl
theorem fl31 : (Tryd.prog.fieldsOf 31).toList = [⟨ "Kind", 3, 0, false,  "",  "", 0⟩, ⟨ "Name", 9, 1, false,  "",  "", 8⟩, ⟨ "From", 3, 2, false,  "",  "", 24⟩, ⟨ "To", 3, 3, false,  "",  "", 32⟩, ⟨ "Kids", 29, 4, false,  "",  "", 40⟩] := by kernel_rfl
theorem fu43 : Tryd.prog.underlying 43 = some (.struct (Tryd.prog.fieldsOf 43)) := by kernel_rfl
theorem fl43 : (Tryd.prog.fieldsOf 43).toList = [⟨ "Readings", 29, 0, false,  "",  "", 0⟩, ⟨ "Gold", 3, 1, false,  "",  "", 24⟩] := by kernel_rfl
theorem op5 : Opens Tryd.prog 5 Rep.u8 := Opens.change (Opens.int Tryd.underlying5 (by kernel_rfl)) rfl (fun w cs a h => ⟨UInt8.ofNat a.toNat, by obtain ⟨h1, h2⟩ := h; have := inu8.1 h2; subst h1; show [Value.int .u8 a] = [Value.int .u8 _]; congr 2; simp [UInt8.toNat_ofNat']; omega⟩)
mutual
def szD : Deriv → Nat
  | ⟨_, nm, _, _, ks⟩ => nm.length + szL ks + 1
def szL : List Deriv → Nat
  | [] => 0
  | d :: r => szD d + szL r
end
theorem szL_eq : ∀ l : List Deriv, szL l = (l.map szD).sum
  | [] => by simp [szL]
  | d :: r => by rw [szL, szL_eq r]; simp
def szW (w : Weight) : Nat := w.Feature.length + 3
def szM (m : Model) : Nat := (m.Weights.map szW).sum + 2
def szJ (j : Judged) : Nat := szL j.Readings + 3
theorem ou3 (N : Nat) : OpensU N Tryd.prog 3 (Rep.num .i64) (fun _ => 1) := OpensU.of op3 (fun _ => Nat.le_refl _) N
theorem ou9 (N : Nat) : OpensU N Tryd.prog 9 Rep.str (fun s => s.length + 1) := OpensU.str Tryd.underlying9 (by kernel_rfl) N
theorem ou50 : ∀ N, OpensU N Tryd.prog 50 RWeight szW
  | 0 => OpensU.zero (by kernel_rfl)
  | N + 1 => by
    refine OpensU.change (R := Rep.prod Rep.str (Rep.num .i64)) (OpensU.struct fu50 (by kernel_rfl) (by rw [fl50]; exact OpensFsU.cons rfl (ou9 N) (by decide) (OpensFsU.one rfl (ou3 N)))) rfl ?_
    rintro w cs ⟨a0, a1⟩ h
    exact ⟨⟨a0, a1⟩, h, by simp only [szW]; omega⟩
theorem ou24 : ∀ N, OpensU N Tryd.prog 24 RModel szM
  | 0 => OpensU.zero (by kernel_rfl)
  | N + 1 => by
    refine OpensU.change (R := Rep.list RWeight) (OpensU.struct fu24 (by kernel_rfl) (by rw [fl24]; exact OpensFsU.one rfl ((ou50 N).list (by decide) Tryd.underlying22 (by kernel_rfl)))) rfl ?_
    rintro w cs a0 h
    exact ⟨⟨a0⟩, h, by simp only [szM]; omega⟩
theorem ou31 : ∀ N, OpensU N Tryd.prog 31 RDeriv szD
  | 0 => OpensU.zero (by kernel_rfl)
  | N + 1 => by
    refine OpensU.change (R := (Rep.prod (Rep.num .i64) (Rep.prod Rep.str (Rep.prod (Rep.num .i64) (Rep.prod (Rep.num .i64) (Rep.list RDeriv)))))) (OpensU.struct fu31 (by kernel_rfl) (by rw [fl31]; exact OpensFsU.cons rfl (ou3 N) (by decide) (OpensFsU.cons rfl (ou9 N) (by decide) (OpensFsU.cons rfl (ou3 N) (by decide) (OpensFsU.cons rfl (ou3 N) (by decide) (OpensFsU.one rfl ((ou31 N).list (by decide) Tryd.underlying29 (by kernel_rfl)))))))) rfl ?_
    rintro w cs ⟨a0, a1, a2, a3, a4⟩ h
    exact ⟨⟨a0, a1, a2, a3, a4⟩, Rep.mu_mk FDeriv.cts h, by simp only [szD, szL_eq]; omega⟩
theorem ou43 : ∀ N, OpensU N Tryd.prog 43 RJudged szJ
  | 0 => OpensU.zero (by kernel_rfl)
  | N + 1 => by
    refine OpensU.change (R := (Rep.prod (Rep.list RDeriv) (Rep.num .i64))) (OpensU.struct fu43 (by kernel_rfl) (by rw [fl43]; exact OpensFsU.cons rfl ((ou31 N).list (by decide) Tryd.underlying29 (by kernel_rfl)) (by decide) (OpensFsU.one rfl (ou3 N)))) rfl ?_
    rintro w cs ⟨a0, a1⟩ h
    exact ⟨⟨a0, a1⟩, h, by simp only [szJ, szL_eq]; omega⟩
end Go.Proofs.YthgdajiipojnoaaDoor

/- Chapter 22: equality of pairs of strings -/
import Derived.Test.YtbhjplflnkidgaaGreatA2
import Derived.StringKeys
namespace Go.Proofs.YtbhjplflnkidgaaGreat
open Go.Gl Go.RowKit Go.Sort Go.Maps
set_option linter.unusedVariables false
set_option linter.unusedSimpArgs false
theorem bs_beq (a b : List UInt8) : ((bs a).toList == (bs b).toList) = decide (a = b) := by
  rw [ByteArray.toList_eq, ByteArray.toList_eq]
  simp [bs]
  by_cases h : a = b <;> simp [h]
theorem eqFeatDecl (X Y : FeatDecl) (w' : World) : (Op.equalIn 10000 82 (.agg #[.string (bs (X.Feat)), .string (bs (X.Value))]) (.agg #[.string (bs (Y.Feat)), .string (bs (Y.Value))])).run Tryz.prog w' = .ok (decide (X = Y)) w' := by
  have hu : Tryz.prog.underlying 82 = some (.struct (Tryz.prog.fieldsOf 82)) := by kernel_rfl
  have hf : (Tryz.prog.fieldsOf 82).toList = [⟨ "Feat", 9, 0, false,  "",  "", 0⟩, ⟨ "Value", 9, 1, false,  "",  "", 16⟩] := by kernel_rfl
  rw [run_equalIn_struct w' 9999 82 _ _ hu (by kernel_rfl), hf]
  simp [Op.eqFields, part, run_equalIn_string, Tryz.underlying9, bs_beq]
  obtain ⟨x1, x2⟩ := X
  obtain ⟨y1, y2⟩ := Y
  by_cases h1 : x1 = y1 <;> by_cases h2 : x2 = y2 <;> simp [h1, h2]
theorem eqChange (X Y : Change) (w' : World) : (Op.equalIn 10000 144 (.agg #[.string (bs (X.Old)), .string (bs (X.New))]) (.agg #[.string (bs (Y.Old)), .string (bs (Y.New))])).run Tryz.prog w' = .ok (decide (X = Y)) w' := by
  have hu : Tryz.prog.underlying 144 = some (.struct (Tryz.prog.fieldsOf 144)) := by kernel_rfl
  have hf : (Tryz.prog.fieldsOf 144).toList = [⟨ "Old", 9, 0, false,  "",  "", 0⟩, ⟨ "New", 9, 1, false,  "",  "", 16⟩] := by kernel_rfl
  rw [run_equalIn_struct w' 9999 144 _ _ hu (by kernel_rfl), hf]
  simp [Op.eqFields, part, run_equalIn_string, Tryz.underlying9, bs_beq]
  obtain ⟨x1, x2⟩ := X
  obtain ⟨y1, y2⟩ := Y
  by_cases h1 : x1 = y1 <;> by_cases h2 : x2 = y2 <;> simp [h1, h2]
end Go.Proofs.YtbhjplflnkidgaaGreat

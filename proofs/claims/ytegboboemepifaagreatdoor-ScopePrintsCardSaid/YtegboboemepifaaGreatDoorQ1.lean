/- Chapter 41: the tables that the rows list: a world that holds them; what they give a walk. -/
import Derived.Test.YtegboboemepifaaGreatDoorGl23
import Derived.Test.YtegboboemepifaaGreatDoorRows
import Derived.LaidMore
import Derived.OpenShut
import Derived.Stop.Joined
import Derived.Stop.LaidErr
import Derived.MakeChecks
namespace Go.Proofs.YtegboboemepifaaGreatDoor
open Go.Gl Go.ChangeShapes Go.WideShapes Go.ChangeAt Go.RowKit
set_option linter.unusedVariables false
theorem ownKnob41 : ownKnob Tryz.prog.godebug = none := by kernel_rfl
abbrev laid41 : List (String × DataW Unit) := Rows.scopeHandlesRow.laid
theorem door41 (os : Os) (args : Array Value) : laidMetH Tryz.prog laid41 ((World.doorLaid Tryz.prog 400 os).forCall (fun _ _ => 0) ⟨#[], args, []⟩).memory :=
  laidMetH_of_parts3 (fuel := 8) (laidMet_of_run' 8 (by kernel_rfl) (by kernel_rfl)) (by kernel_rfl) (by kernel_rfl)
theorem tab41 {W : World} (h : laidMetH Tryz.prog laid41 W) : (tabF Tryz.prog).p noB W := by
  rw [MakeChecks.laidMetH_plain _ _ _ (by kernel_rfl)] at h
  have h2 := h.tail.tail
  have e : (Rows.laid_internal_strconv_uint64pow10 : DataW Unit) = Lib.tabData .u64 Lib.pow10Tab := by kernel_rfl
  rw [e] at h2
  have hT : Lib.TabIs Tryz.prog W "internal/strconv.uint64pow10" .u64 Lib.pow10Tab := Lib.tabIs_of_head (g := 0) (t := 148) (e := 106) (n := 20) (by kernel_rfl) (by kernel_rfl) Tryz.underlying148 Tryz.underlying106 (by kernel_rfl) (by kernel_rfl) h2
  refine ⟨hT, fun g hg => ⟨?_, fun h => h.elim⟩⟩
  unfold Lib.TabIs World.var? at hT
  rw [hg] at hT
  simp only [Option.bind_some] at hT
  cases hh : W.heap[g]? with
  | none => rw [hh] at hT; cases hT
  | some o => exact (Array.getElem?_eq_some_iff.1 hh).1
end Go.Proofs.YtegboboemepifaaGreatDoor


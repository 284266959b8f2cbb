/- SolveFirst: for every input the law returns true and leaves memory as it was; no condition. -/
import Derived.Test.YtdicfdfncbmmpaaGreatWSolveFirst
import Derived.Test.YtdicfdfncbmmpaaGreatO1
import Derived.Test.YtdicfdfncbmmpaaGreatC3
import Derived.Test.YtdicfdfncbmmpaaGreatRows
namespace Go.Proofs.YtdicfdfncbmmpaaGreat.solveFirst
open Go.Gl Go.ChangeShapes Go.WideShapes Go.ChangeAt Go.RowKit
set_option linter.unusedVariables false

theorem own : ownKnob Tryz.prog.godebug = none := by kernel_rfl
set_option maxRecDepth 100000 in
theorem lifted (os : Os) (started : os.Started) (H : Type) (enc : TypeId × Value → H) :
    ReturnsInHanded {} Tryz.checked os 4 .any (Rows.solveFirstSpec.pre6 enc Tryz.prog Tryz.f4 Rows.solveFirstRow.domain false) (Rows.solveFirstSpec.post enc Tryz.prog Tryz.f4 false true false false) := by
  refine returnsInHanded_of_change (C := Tryz.checked) own started (by kernel_rfl) Tryz.func4
    (ChangeSpec.witness6 (enc := enc) (C := Tryz.checked) false ⟨#[], #[.agg #[.int .i64 0, .int .i64 0, .slice none 0 0, .slice none 0 0, .slice none 0 0]], []⟩ 8 (by kernel_rfl) (by kernel_rfl) (by kernel_rfl) (by kernel_rfl)) ?_
  intro W base args ds gs before hval0 hW hcnd _
  have hval : ∀ (j : Nat) t v, Tryz.f4.params[j]? = some t → args[j]? = some v → Value.okWide Tryz.prog W .any base t v := hval0
  have hW' := hW
  obtain ⟨p, q, hA0, hV, rfl, hfz, hnd⟩ := hW
  have hA : DataW.TrodAll enc Tryz.prog W 0 (fun _ => true) true Tryz.f4.params.toList args.toList ds p := hA0
  rw [Tryz.params4] at hA hval
  obtain ⟨v0, vs0, d0, ds0, p0, q0, hargs, rfl, rfl, h0, r0⟩ := trodAll_cons hA
  obtain ⟨rfl, rfl, rfl⟩ := trodAll_nil r0
  obtain rfl : args = #[v0] := by cases args; simp_all
  obtain ⟨rfl, rfl⟩ := trodVars_none hV
  obtain ⟨cs0, x0, rfl, hx0⟩ := Opens.argStruct op26 fu26 (hval 0 26 v0 rfl rfl) h0
  obtain ⟨As03, cs03, As04, cs04, As05, cs05, hcs0, hs03, hs04, hs05⟩ := RMRS.open hx0
  obtain ⟨cs0⟩ := cs0
  obtain rfl : cs0 = _ := hcs0
  refine mono_true (c_law42_SolveFirst 100000 noB W (fun b h => h.elim) x0 As03 cs03 As04 cs04 As05 cs05 hs03 hs04 hs05 true (law42_SolveFirst_true x0)) fun w' hk => ⟨_, rfl, ?_⟩
  exact law_post (tb := 4) rfl (by kernel_rfl) Tryz.underlying4 (by kernel_rfl) (by kernel_rfl) hW' rfl hk

theorem over : Rows.solveFirstRow.holds Tryz.pinned (OpenSpec.ofChange Rows.solveFirstSpec) :=
  OpenClaim.holds_of_wide 4 Tryz.f4 rfl rfl rfl rfl rfl rfl rfl ⟨rfl, rfl, rfl, rfl, rfl⟩ rfl rfl rfl rfl rfl (by kernel_rfl) Tryz.func4 (by kernel_rfl)
    (of_decide_eq_true (by kernel_rfl)) (by unfold Func.isWrapper; first | (rw [if_pos (by decide +kernel)]; kernel_rfl) | (rw [if_neg (by decide +kernel)]; exact ⟨rfl, rfl⟩))
    (fun os started H enc _ => lifted os started H enc)

theorem proved : Rows.SolveFirstSaid := over
#print axioms proved
end Go.Proofs.YtdicfdfncbmmpaaGreat.solveFirst


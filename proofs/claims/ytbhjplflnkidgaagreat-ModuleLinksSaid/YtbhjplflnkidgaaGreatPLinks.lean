/- ModuleLinks: for every input the law returns true and leaves memory as it was; no condition. -/
import Derived.Test.YtbhjplflnkidgaaGreatWModuleLinks
import Derived.Test.YtbhjplflnkidgaaGreatO1
import Derived.Test.YtbhjplflnkidgaaGreatNB
import Derived.Test.YtbhjplflnkidgaaGreatRows
namespace Go.Proofs.YtbhjplflnkidgaaGreat.moduleLinks
open Go.Gl Go.ChangeShapes Go.WideShapes Go.ChangeAt Go.RowKit
set_option linter.unusedVariables false
theorem own : ownKnob Tryz.prog.godebug = none := by kernel_rfl
set_option maxRecDepth 100000 in
theorem lifted (os : Os) (started : os.Started) (H : Type) (enc : TypeId × Value → H) :
    ReturnsInHanded {} Tryz.checked os 5 .any (Rows.moduleLinksSpec.pre6 enc Tryz.prog Tryz.f5 Rows.moduleLinksRow.domain false) (Rows.moduleLinksSpec.post enc Tryz.prog Tryz.f5 false true false false) := by
  refine returnsInHanded_of_change (C := Tryz.checked) own started (by kernel_rfl) Tryz.func5
    (ChangeSpec.witness6 (enc := enc) (C := Tryz.checked) false ⟨#[], #[.slice none 0 0, .string ⟨#[]⟩], []⟩ 8 (by kernel_rfl) (by kernel_rfl) (by kernel_rfl) (by kernel_rfl)) ?_
  intro W base args ds gs before hval0 hW hcnd _
  have hval : ∀ (j : Nat) t v, Tryz.f5.params[j]? = some t → args[j]? = some v → Value.okWide Tryz.prog W .any base t v := hval0
  have hW' := hW
  obtain ⟨p, q, hA0, hV, rfl, hfz, hnd⟩ := hW
  have hA : DataW.TrodAll enc Tryz.prog W 0 (fun _ => true) true Tryz.f5.params.toList args.toList ds p := hA0
  rw [Tryz.params5] at hA hval
  obtain ⟨v0, vs0, d0, ds0, p0, q0, hargs, rfl, rfl, h0, r0⟩ := trodAll_cons hA
  obtain ⟨v1, vs1, d1, ds1, p1, q1, rfl, rfl, rfl, h1, r1⟩ := trodAll_cons r0
  obtain ⟨rfl, rfl, rfl⟩ := trodAll_nil r1
  obtain rfl : args = #[v0, v1] := by cases args; simp_all
  obtain ⟨rfl, rfl⟩ := trodVars_none hV
  obtain ⟨A0, n0, c0, xs0, rfl, hs0⟩ := Opens.argSlice op38 (by decide) Tryz.underlying22 (hval 0 22 v0 rfl rfl) h0
  obtain rfl := hs0.len
  obtain ⟨x1, rfl, hx1⟩ := argStr Tryz.underlying9 (hval 1 9 v1 rfl rfl) h1
  refine mono_true (c_law22_ModuleLinks 18446744073709551616 noB W (fun b h => h.elim) xs0 A0 c0 hs0 x1 hx1 true (law22_ModuleLinks_true xs0 x1 (lens_of hs0))) fun w' hk => ⟨_, rfl, ?_⟩
  exact law_post (tb := 4) rfl (by kernel_rfl) Tryz.underlying4 (by kernel_rfl) (by kernel_rfl) hW' rfl hk
theorem over : Rows.moduleLinksRow.holds Tryz.pinned (OpenSpec.ofChange Rows.moduleLinksSpec) :=
  OpenClaim.holds_of_wide 5 Tryz.f5 rfl rfl rfl rfl rfl rfl rfl ⟨rfl, rfl, rfl, rfl, rfl⟩ rfl rfl rfl rfl rfl (by kernel_rfl) Tryz.func5 (by kernel_rfl)
    (of_decide_eq_true (by kernel_rfl)) (by unfold Func.isWrapper; first | (rw [if_pos (by decide +kernel)]; kernel_rfl) | (rw [if_neg (by decide +kernel)]; exact ⟨rfl, rfl⟩))
    (fun os started H enc _ => lifted os started H enc)
theorem proved : Rows.ModuleLinksSaid := over
#print axioms proved
end Go.Proofs.YtbhjplflnkidgaaGreat.moduleLinks

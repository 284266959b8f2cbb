/- PosetCovers: for every input the law returns true and leaves memory as it was; no condition. -/
import Derived.Test.YtoeolfnjblibpaaWPosetCovers
import Derived.Test.YtoeolfnjblibpaaO1
import Derived.Test.YtoeolfnjblibpaaC9
import Derived.Test.YtoeolfnjblibpaaRows
namespace Go.Proofs.Ytoeolfnjblibpaa.posetCovers
open Go.Gl Go.ChangeShapes Go.WideShapes Go.ChangeAt Go.RowKit
set_option linter.unusedVariables false

theorem own : ownKnob Try.prog.godebug = none := by kernel_rfl
set_option maxRecDepth 100000 in
theorem lifted (os : Os) (started : os.Started) (H : Type) (enc : TypeId × Value → H) :
    ReturnsInHanded {} Try.checked os 8 .any (Rows.posetCoversSpec.pre6 enc Try.prog Try.f8 Rows.posetCoversRow.domain false) (Rows.posetCoversSpec.post enc Try.prog Try.f8 false true false false) := by
  refine returnsInHanded_of_change (C := Try.checked) own started (by kernel_rfl) Try.func8
    (ChangeSpec.witness6 (enc := enc) (C := Try.checked) false ⟨#[], #[.slice none 0 0, .slice none 0 0], []⟩ 8 (by kernel_rfl) (by kernel_rfl) (by kernel_rfl) (by kernel_rfl)) ?_
  intro W base args ds gs before hval0 hW hcnd _
  have hval : ∀ (j : Nat) t v, Try.f8.params[j]? = some t → args[j]? = some v → Value.okWide Try.prog W .any base t v := hval0
  have hW' := hW
  obtain ⟨p, q, hA0, hV, rfl, hfz, hnd⟩ := hW
  have hA : DataW.TrodAll enc Try.prog W 0 (fun _ => true) true Try.f8.params.toList args.toList ds p := hA0
  rw [Try.params8] at hA hval
  obtain ⟨v0, vs0, d0, ds0, p0, q0, hargs, rfl, rfl, h0, r0⟩ := trodAll_cons hA
  obtain ⟨v1, vs1, d1, ds1, p1, q1, rfl, rfl, rfl, h1, r1⟩ := trodAll_cons r0
  obtain ⟨rfl, rfl, rfl⟩ := trodAll_nil r1
  obtain rfl : args = #[v0, v1] := by cases args; simp_all
  obtain ⟨rfl, rfl⟩ := trodVars_none hV
  obtain ⟨A0, n0, c0, xs0, rfl, hs0⟩ := Opens.argSlice op40 (by decide) Try.underlying22 (hval 0 22 v0 rfl rfl) h0
  obtain rfl := hs0.len
  obtain ⟨A1, n1, c1, xs1, rfl, hs1⟩ := Opens.argSlice op9 (by decide) Try.underlying27 (hval 1 27 v1 rfl rfl) h1
  obtain rfl := hs1.len
  refine mono_true (c_law03_PosetCovers 100000 noB W (fun b h => h.elim) xs0 A0 c0 hs0 xs1 A1 c1 hs1 true (law03_PosetCovers_true xs0 xs1)) fun w' hk => ⟨_, rfl, ?_⟩
  exact law_post (tb := 4) rfl (by kernel_rfl) Try.underlying4 (by kernel_rfl) (by kernel_rfl) hW' rfl hk

theorem over : Rows.posetCoversRow.holds Try.pinned (OpenSpec.ofChange Rows.posetCoversSpec) :=
  OpenClaim.holds_of_wide 8 Try.f8 rfl rfl rfl rfl rfl rfl rfl ⟨rfl, rfl, rfl, rfl, rfl⟩ rfl rfl rfl rfl rfl (by kernel_rfl) Try.func8 (by kernel_rfl)
    (of_decide_eq_true (by kernel_rfl)) (by unfold Func.isWrapper; first | (rw [if_pos (by decide +kernel)]; kernel_rfl) | (rw [if_neg (by decide +kernel)]; exact ⟨rfl, rfl⟩))
    (fun os started H enc _ => lifted os started H enc)

theorem proved : Rows.PosetCoversSaid := over
#print axioms proved
end Go.Proofs.Ytoeolfnjblibpaa.posetCovers

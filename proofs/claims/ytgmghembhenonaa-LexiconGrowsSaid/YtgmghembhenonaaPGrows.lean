/- LexiconGrows: for every input the law returns true and leaves memory as it was; no condition. -/
import Derived.Test.YtgmghembhenonaaW4
import Derived.Test.YtgmghembhenonaaO1
import Derived.Test.YtgmghembhenonaaB5
import Derived.Test.YtgmghembhenonaaRows
namespace Go.Proofs.Ytgmghembhenonaa.lexiconGrows
open Go.Gl Go.ChangeShapes Go.WideShapes Go.ChangeAt Go.RowKit
set_option linter.unusedVariables false

theorem own : ownKnob Try.prog.godebug = none := by kernel_rfl
set_option maxRecDepth 100000 in
theorem lifted (os : Os) (started : os.Started) (H : Type) (enc : TypeId × Value → H) :
    ReturnsInHanded {} Try.checked os 9 .any (Rows.lexiconGrowsSpec.pre6 enc Try.prog Try.f9 Rows.lexiconGrowsRow.domain false) (Rows.lexiconGrowsSpec.post enc Try.prog Try.f9 false true false false) := by
  refine returnsInHanded_of_change (C := Try.checked) own started (by kernel_rfl) Try.func9
    (ChangeSpec.witness6 (enc := enc) (C := Try.checked) false ⟨#[], #[.slice none 0 0, .slice none 0 0, .slice none 0 0], []⟩ 8 (by kernel_rfl) (by kernel_rfl) (by kernel_rfl) (by kernel_rfl)) ?_
  intro W base args ds gs before hval0 hW hcnd _
  have hval : ∀ (j : Nat) t v, Try.f9.params[j]? = some t → args[j]? = some v → Value.okWide Try.prog W .any base t v := hval0
  have hW' := hW
  obtain ⟨p, q, hA0, hV, rfl, hfz, hnd⟩ := hW
  have hA : DataW.TrodAll enc Try.prog W 0 (fun _ => true) true Try.f9.params.toList args.toList ds p := hA0
  rw [Try.params9] at hA hval
  obtain ⟨v0, vs0, d0, ds0, p0, q0, hargs, rfl, rfl, h0, r0⟩ := trodAll_cons hA
  obtain ⟨v1, vs1, d1, ds1, p1, q1, rfl, rfl, rfl, h1, r1⟩ := trodAll_cons r0
  obtain ⟨v2, vs2, d2, ds2, p2, q2, rfl, rfl, rfl, h2, r2⟩ := trodAll_cons r1
  obtain ⟨rfl, rfl, rfl⟩ := trodAll_nil r2
  obtain rfl : args = #[v0, v1, v2] := by cases args; simp_all
  obtain ⟨rfl, rfl⟩ := trodVars_none hV
  obtain ⟨A0, n0, c0, xs0, rfl, hs0⟩ := Opens.argSlice op47 (by decide) Try.underlying22 (hval 0 22 v0 rfl rfl) h0
  obtain rfl := hs0.len
  obtain ⟨A1, n1, c1, xs1, rfl, hs1⟩ := Opens.argSlice op54 (by decide) Try.underlying33 (hval 1 33 v1 rfl rfl) h1
  obtain rfl := hs1.len
  obtain ⟨A2, n2, c2, xs2, rfl, hs2⟩ := Opens.argSlice op9 (by decide) Try.underlying27 (hval 2 27 v2 rfl rfl) h2
  obtain rfl := hs2.len
  refine mono_true (c_law24_LexiconGrows 100000 noB W (fun b h => h.elim) xs0 A0 c0 hs0 xs1 A1 c1 hs1 xs2 A2 c2 hs2 true (law24_LexiconGrows_true xs0 xs1 xs2)) fun w' hk => ⟨_, rfl, ?_⟩
  exact law_post (tb := 4) rfl (by kernel_rfl) Try.underlying4 (by kernel_rfl) (by kernel_rfl) hW' rfl hk

theorem over : Rows.lexiconGrowsRow.holds Try.pinned (OpenSpec.ofChange Rows.lexiconGrowsSpec) :=
  OpenClaim.holds_of_wide 9 Try.f9 rfl rfl rfl rfl rfl rfl rfl ⟨rfl, rfl, rfl, rfl, rfl⟩ rfl rfl rfl rfl rfl (by kernel_rfl) Try.func9 (by kernel_rfl)
    (of_decide_eq_true (by kernel_rfl)) (by unfold Func.isWrapper; first | (rw [if_pos (by decide +kernel)]; kernel_rfl) | (rw [if_neg (by decide +kernel)]; exact ⟨rfl, rfl⟩))
    (fun os started H enc _ => lifted os started H enc)

theorem proved : Rows.LexiconGrowsSaid := over
#print axioms proved
end Go.Proofs.Ytgmghembhenonaa.lexiconGrows

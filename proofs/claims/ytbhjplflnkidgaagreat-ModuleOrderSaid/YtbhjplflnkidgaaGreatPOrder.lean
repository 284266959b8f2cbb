/- ModuleOrder: for every input the law returns true and leaves memory as it was; no condition. -/
import Derived.Test.YtbhjplflnkidgaaGreatWModuleOrder
import Derived.Test.YtbhjplflnkidgaaGreatO1
import Derived.Test.YtbhjplflnkidgaaGreatNB
import Derived.Test.YtbhjplflnkidgaaGreatRows
namespace Go.Proofs.YtbhjplflnkidgaaGreat.moduleOrder
open Go.Gl Go.ChangeShapes Go.WideShapes Go.ChangeAt Go.RowKit
set_option linter.unusedVariables false

theorem own : ownKnob Tryz.prog.godebug = none := by kernel_rfl
set_option maxRecDepth 100000 in
theorem lifted (os : Os) (started : os.Started) (H : Type) (enc : TypeId × Value → H) :
    ReturnsInHanded {} Tryz.checked os 6 .any (Rows.moduleOrderSpec.pre6 enc Tryz.prog Tryz.f6 Rows.moduleOrderRow.domain false) (Rows.moduleOrderSpec.post enc Tryz.prog Tryz.f6 false true false false) := by
  refine returnsInHanded_of_change (C := Tryz.checked) own started (by kernel_rfl) Tryz.func6
    (ChangeSpec.witness6 (enc := enc) (C := Tryz.checked) false ⟨#[], #[.slice none 0 0, .string ⟨#[]⟩, .int .u8 0], []⟩ 8 (by kernel_rfl) (by kernel_rfl) (by kernel_rfl) (by kernel_rfl)) ?_
  intro W base args ds gs before hval0 hW hcnd _
  have hval : ∀ (j : Nat) t v, Tryz.f6.params[j]? = some t → args[j]? = some v → Value.okWide Tryz.prog W .any base t v := hval0
  have hW' := hW
  obtain ⟨p, q, hA0, hV, rfl, hfz, hnd⟩ := hW
  have hA : DataW.TrodAll enc Tryz.prog W 0 (fun _ => true) true Tryz.f6.params.toList args.toList ds p := hA0
  rw [Tryz.params6] at hA hval
  obtain ⟨v0, vs0, d0, ds0, p0, q0, hargs, rfl, rfl, h0, r0⟩ := trodAll_cons hA
  obtain ⟨v1, vs1, d1, ds1, p1, q1, rfl, rfl, rfl, h1, r1⟩ := trodAll_cons r0
  obtain ⟨v2, vs2, d2, ds2, p2, q2, rfl, rfl, rfl, h2, r2⟩ := trodAll_cons r1
  obtain ⟨rfl, rfl, rfl⟩ := trodAll_nil r2
  obtain rfl : args = #[v0, v1, v2] := by cases args; simp_all
  obtain ⟨rfl, rfl⟩ := trodVars_none hV
  obtain ⟨A0, n0, c0, xs0, rfl, hs0⟩ := Opens.argSlice op38 (by decide) Tryz.underlying22 (hval 0 22 v0 rfl rfl) h0
  obtain rfl := hs0.len
  obtain ⟨x1, rfl, hx1⟩ := argStr Tryz.underlying9 (hval 1 9 v1 rfl rfl) h1
  obtain ⟨a2, rfl, rfl, rfl, w2⟩ := open_int Tryz.underlying5 (hval 2 5 v2 rfl rfl) h2
  have hb2 := bounds_u8 w2
  obtain ⟨x2, rfl⟩ : ∃ x : UInt8, a2 = ((x.toNat : Nat) : Int) := ⟨UInt8.ofNat a2.toNat, by simp [UInt8.toNat_ofNat']; omega⟩
  refine mono_true (c_law22_ModuleOrder 18446744073709551616 noB W (fun b h => h.elim) xs0 A0 c0 hs0 x1 hx1 x2 true (law22_ModuleOrder_true xs0 x1 x2 (lens_of hs0))) fun w' hk => ⟨_, rfl, ?_⟩
  exact law_post (tb := 4) rfl (by kernel_rfl) Tryz.underlying4 (by kernel_rfl) (by kernel_rfl) hW' rfl hk

theorem over : Rows.moduleOrderRow.holds Tryz.pinned (OpenSpec.ofChange Rows.moduleOrderSpec) :=
  OpenClaim.holds_of_wide 6 Tryz.f6 rfl rfl rfl rfl rfl rfl rfl ⟨rfl, rfl, rfl, rfl, rfl⟩ rfl rfl rfl rfl rfl (by kernel_rfl) Tryz.func6 (by kernel_rfl)
    (of_decide_eq_true (by kernel_rfl)) (by unfold Func.isWrapper; first | (rw [if_pos (by decide +kernel)]; kernel_rfl) | (rw [if_neg (by decide +kernel)]; exact ⟨rfl, rfl⟩))
    (fun os started H enc _ => lifted os started H enc)

theorem proved : Rows.ModuleOrderSaid := over
#print axioms proved
end Go.Proofs.YtbhjplflnkidgaaGreat.moduleOrder


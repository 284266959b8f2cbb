/- PosetTurns: for every input the law returns true and leaves memory as it was; no condition. -/
import Derived.Test.YtoeolfnjblibpaaWPosetTurns
import Derived.Test.YtoeolfnjblibpaaO1
import Derived.Test.YtoeolfnjblibpaaC10
import Derived.Test.YtoeolfnjblibpaaRows
namespace Go.Proofs.Ytoeolfnjblibpaa.posetTurns
open Go.Gl Go.ChangeShapes Go.WideShapes Go.ChangeAt Go.RowKit
set_option linter.unusedVariables false

theorem own : ownKnob Try.prog.godebug = none := by kernel_rfl
set_option maxRecDepth 100000 in
theorem lifted (os : Os) (started : os.Started) (H : Type) (enc : TypeId × Value → H) :
    ReturnsInHanded {} Try.checked os 9 .any (Rows.posetTurnsSpec.pre6 enc Try.prog Try.f9 Rows.posetTurnsRow.domain false) (Rows.posetTurnsSpec.post enc Try.prog Try.f9 false true false false) := by
  refine returnsInHanded_of_change (C := Try.checked) own started (by kernel_rfl) Try.func9
    (ChangeSpec.witness6 (enc := enc) (C := Try.checked) false ⟨#[], #[.slice none 0 0, .int .u8 0], []⟩ 8 (by kernel_rfl) (by kernel_rfl) (by kernel_rfl) (by kernel_rfl)) ?_
  intro W base args ds gs before hval0 hW hcnd _
  have hval : ∀ (j : Nat) t v, Try.f9.params[j]? = some t → args[j]? = some v → Value.okWide Try.prog W .any base t v := hval0
  have hW' := hW
  obtain ⟨p, q, hA0, hV, rfl, hfz, hnd⟩ := hW
  have hA : DataW.TrodAll enc Try.prog W 0 (fun _ => true) true Try.f9.params.toList args.toList ds p := hA0
  rw [Try.params9] at hA hval
  obtain ⟨v0, vs0, d0, ds0, p0, q0, hargs, rfl, rfl, h0, r0⟩ := trodAll_cons hA
  obtain ⟨v1, vs1, d1, ds1, p1, q1, rfl, rfl, rfl, h1, r1⟩ := trodAll_cons r0
  obtain ⟨rfl, rfl, rfl⟩ := trodAll_nil r1
  obtain rfl : args = #[v0, v1] := by cases args; simp_all
  obtain ⟨rfl, rfl⟩ := trodVars_none hV
  obtain ⟨A0, n0, c0, xs0, rfl, hs0⟩ := Opens.argSlice op40 (by decide) Try.underlying22 (hval 0 22 v0 rfl rfl) h0
  obtain rfl := hs0.len
  obtain ⟨a1, rfl, rfl, rfl, w1⟩ := open_int Try.underlying5 (hval 1 5 v1 rfl rfl) h1
  have hb1 := bounds_u8 w1
  obtain ⟨x1, rfl⟩ : ∃ x : UInt8, a1 = ((x.toNat : Nat) : Int) := ⟨UInt8.ofNat a1.toNat, by simp [UInt8.toNat_ofNat']; omega⟩
  refine mono_true (c_law03_PosetTurns 100000 noB W (fun b h => h.elim) xs0 A0 c0 hs0 x1 true (law03_PosetTurns_true xs0 x1)) fun w' hk => ⟨_, rfl, ?_⟩
  exact law_post (tb := 4) rfl (by kernel_rfl) Try.underlying4 (by kernel_rfl) (by kernel_rfl) hW' rfl hk

theorem over : Rows.posetTurnsRow.holds Try.pinned (OpenSpec.ofChange Rows.posetTurnsSpec) :=
  OpenClaim.holds_of_wide 9 Try.f9 rfl rfl rfl rfl rfl rfl rfl ⟨rfl, rfl, rfl, rfl, rfl⟩ rfl rfl rfl rfl rfl (by kernel_rfl) Try.func9 (by kernel_rfl)
    (of_decide_eq_true (by kernel_rfl)) (by unfold Func.isWrapper; first | (rw [if_pos (by decide +kernel)]; kernel_rfl) | (rw [if_neg (by decide +kernel)]; exact ⟨rfl, rfl⟩))
    (fun os started H enc _ => lifted os started H enc)

theorem proved : Rows.PosetTurnsSaid := over
#print axioms proved
end Go.Proofs.Ytoeolfnjblibpaa.posetTurns

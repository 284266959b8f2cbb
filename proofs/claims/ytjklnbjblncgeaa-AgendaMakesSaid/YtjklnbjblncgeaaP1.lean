/- AgendaMakes: for every policy and every seed the law returns true and leaves memory as it was; no condition. -/
import Derived.Test.YtjklnbjblncgeaaM1
import Derived.Test.YtjklnbjblncgeaaGl7
import Derived.Test.YtjklnbjblncgeaaRows
namespace Go.Proofs.Ytjklnbjblncgeaa.agendaMakes
open Go.Gl Go.ChangeShapes Go.WideShapes Go.ChangeAt Go.RowKit
set_option linter.unusedVariables false

theorem own : ownKnob Try.prog.godebug = none := by kernel_rfl
theorem walk (p s : Int) (w : World) : Calls Try.prog 3 [.int .i64 p, .int .u64 s].toArray w (Ret noB w fun v _ => v = .bool true) := by
  by_cases h0 : p = 0
  · subst h0; exact makes0 noB w (fun b h => h.elim) s
  by_cases h1 : p = 1
  · subst h1; exact makes1 noB w (fun b h => h.elim) s
  by_cases h2 : p = 2
  · subst h2; exact makes2 noB w (fun b h => h.elim) s
  by_cases h3 : p = 3
  · subst h3; exact makes3 noB w (fun b h => h.elim) s
  · exact makes_other noB w (fun b h => h.elim) p s (by omega)

set_option maxRecDepth 100000 in
theorem lifted (os : Os) (started : os.Started) (H : Type) (enc : TypeId × Value → H) :
    ReturnsInHanded {} Try.checked os 3 .any (Rows.agendaMakesSpec.pre6 enc Try.prog Try.f3 Rows.agendaMakesRow.domain false) (Rows.agendaMakesSpec.post enc Try.prog Try.f3 false true false false) := by
  refine returnsInHanded_of_change (C := Try.checked) own started (by kernel_rfl) Try.func3
    (ChangeSpec.witness6 (enc := enc) (C := Try.checked) false ⟨#[], #[.int .i64 0, .int .u64 0], []⟩ 8 (by kernel_rfl) (by kernel_rfl) (by kernel_rfl) (by kernel_rfl)) ?_
  intro W base args ds gs before hval0 hW hcnd _
  have hval : ∀ (j : Nat) t v, Try.f3.params[j]? = some t → args[j]? = some v → Value.okWide Try.prog W .any base t v := hval0
  have hW' := hW
  obtain ⟨p, q, hA0, hV, rfl, hfz, hnd⟩ := hW
  have hA : DataW.TrodAll enc Try.prog W 0 (fun _ => true) true Try.f3.params.toList args.toList ds p := hA0
  rw [Try.params3] at hA hval
  obtain ⟨v0, vs0, d0, ds0, p0, q0, hargs, rfl, rfl, h0, r0⟩ := trodAll_cons hA
  obtain ⟨v1, vs1, d1, ds1, p1, q1, rfl, rfl, rfl, h1, r1⟩ := trodAll_cons r0
  obtain ⟨rfl, rfl, rfl⟩ := trodAll_nil r1
  obtain rfl : args = #[v0, v1] := by cases args; simp_all
  obtain ⟨rfl, rfl⟩ := trodVars_none hV
  obtain ⟨a0, rfl, rfl, rfl, w0⟩ := open_int Try.underlying3 (hval 0 3 v0 rfl rfl) h0
  obtain ⟨a1, rfl, rfl, rfl, w1⟩ := open_int Try.underlying22 (hval 1 22 v1 rfl rfl) h1
  refine mono_true (walk a0 a1 W) fun w' hk => ⟨_, rfl, ?_⟩
  exact law_post (tb := 4) rfl (by kernel_rfl) Try.underlying4 (by kernel_rfl) (by kernel_rfl) hW' rfl hk

theorem over : Rows.agendaMakesRow.holds Try.pinned (OpenSpec.ofChange Rows.agendaMakesSpec) :=
  OpenClaim.holds_of_wide 3 Try.f3 rfl rfl rfl rfl rfl rfl rfl ⟨rfl, rfl, rfl, rfl, rfl⟩ rfl rfl rfl rfl rfl (by kernel_rfl) Try.func3 (by kernel_rfl)
    (of_decide_eq_true (by kernel_rfl)) (by unfold Func.isWrapper; first | (rw [if_pos (by decide +kernel)]; kernel_rfl) | (rw [if_neg (by decide +kernel)]; exact ⟨rfl, rfl⟩))
    (fun os started H enc _ => lifted os started H enc)

theorem proved : Rows.AgendaMakesSaid := over
#print axioms proved
end Go.Proofs.Ytjklnbjblncgeaa.agendaMakes

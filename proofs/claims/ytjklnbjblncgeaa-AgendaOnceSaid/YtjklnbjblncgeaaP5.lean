/- AgendaOnce: for every policy, seed and list of calls the law returns true and leaves memory as it was; no condition. -/
import Derived.Test.YtjklnbjblncgeaaL5
import Derived.Test.YtjklnbjblncgeaaRows
namespace Go.Proofs.Ytjklnbjblncgeaa.agendaOnce
open Go.Gl Go.ChangeShapes Go.WideShapes Go.ChangeAt Go.RowKit
set_option linter.unusedVariables false

theorem own : ownKnob Try.prog.godebug = none := by kernel_rfl
theorem tm4 (q : Int) (h : 0 ≤ q) : 0 ≤ q.tmod 4 ∧ q.tmod 4 ≤ 3 := by
  have := Int.tmod_nonneg 4 h
  have := Int.tmod_lt_of_pos q (show (0 : Int) < 4 by decide)
  omega
set_option maxRecDepth 100000 in
theorem lifted (os : Os) (started : os.Started) (H : Type) (enc : TypeId × Value → H) :
    ReturnsInHanded {} Try.checked os 5 .any (Rows.agendaOnceSpec.pre6 enc Try.prog Try.f5 Rows.agendaOnceRow.domain false) (Rows.agendaOnceSpec.post enc Try.prog Try.f5 false true false false) := by
  refine returnsInHanded_of_change (C := Try.checked) own started (by kernel_rfl) Try.func5
    (ChangeSpec.witness6 (enc := enc) (C := Try.checked) false ⟨#[], #[.int .u8 0, .int .u64 0, .slice none 0 0], []⟩ 8 (by kernel_rfl) (by kernel_rfl) (by kernel_rfl) (by kernel_rfl)) ?_
  intro W base args ds gs before hval0 hW hcnd _
  have hval : ∀ (j : Nat) t v, Try.f5.params[j]? = some t → args[j]? = some v → Value.okWide Try.prog W .any base t v := hval0
  have hW' := hW
  obtain ⟨p, q, hA0, hV, rfl, hfz, hnd⟩ := hW
  have hA : DataW.TrodAll enc Try.prog W 0 (fun _ => true) true Try.f5.params.toList args.toList ds p := hA0
  rw [Try.params5] at hA hval
  obtain ⟨v0, vs0, d0, ds0, p0, q0, hargs, rfl, rfl, h0, r0⟩ := trodAll_cons hA
  obtain ⟨v1, vs1, d1, ds1, p1, q1, rfl, rfl, rfl, h1, r1⟩ := trodAll_cons r0
  obtain ⟨v2, vs2, d2, ds2, p2, q2, rfl, rfl, rfl, h2, r2⟩ := trodAll_cons r1
  obtain ⟨rfl, rfl, rfl⟩ := trodAll_nil r2
  obtain rfl : args = #[v0, v1, v2] := by cases args; simp_all
  obtain ⟨rfl, rfl⟩ := trodVars_none hV
  obtain ⟨a0, rfl, rfl, rfl, w0⟩ := open_int Try.underlying5 (hval 0 5 v0 rfl rfl) h0
  have hb0 := bounds_u8 w0
  obtain ⟨a1, rfl, rfl, rfl, w1⟩ := open_int Try.underlying22 (hval 1 22 v1 rfl rfl) h1
  have hb1 := bounds_u64 w1
  obtain ⟨A2, n2, c2, xs2, rfl, hs2⟩ := Opens.argSlice opens39 (by decide) Try.underlying37 (hval 2 37 v2 rfl rfl) h2
  refine mono_true (onces noB W (fun b h => h.elim) a0 a1 _ A2 n2 c2 xs2 hb0 rfl (tm4 a0 hb0.1) hs2) fun w' hk => ⟨_, rfl, ?_⟩
  exact law_post (tb := 4) rfl (by kernel_rfl) Try.underlying4 (by kernel_rfl) (by kernel_rfl) hW' rfl hk

theorem over : Rows.agendaOnceRow.holds Try.pinned (OpenSpec.ofChange Rows.agendaOnceSpec) :=
  OpenClaim.holds_of_wide 5 Try.f5 rfl rfl rfl rfl rfl rfl rfl ⟨rfl, rfl, rfl, rfl, rfl⟩ rfl rfl rfl rfl rfl (by kernel_rfl) Try.func5 (by kernel_rfl)
    (of_decide_eq_true (by kernel_rfl)) (by unfold Func.isWrapper; first | (rw [if_pos (by decide +kernel)]; kernel_rfl) | (rw [if_neg (by decide +kernel)]; exact ⟨rfl, rfl⟩))
    (fun os started H enc _ => lifted os started H enc)

theorem proved : Rows.AgendaOnceSaid := over
#print axioms proved
end Go.Proofs.Ytjklnbjblncgeaa.agendaOnce

/- AgendaOrders: for every policy and list of priorities the law returns true and leaves memory as it was; no condition. -/
import Derived.Test.YtjklnbjblncgeaaL6
import Derived.Test.YtjklnbjblncgeaaRows
namespace Go.Proofs.Ytjklnbjblncgeaa.agendaOrders
open Go.Gl Go.ChangeShapes Go.WideShapes Go.ChangeAt Go.RowKit
set_option linter.unusedVariables false

theorem own : ownKnob Try.prog.godebug = none := by kernel_rfl
theorem tm3 (q : Int) (h : 0 ≤ q) : 0 ≤ q.tmod 3 ∧ q.tmod 3 ≤ 2 := by
  have := Int.tmod_nonneg 3 h
  have := Int.tmod_lt_of_pos q (show (0 : Int) < 3 by decide)
  omega
set_option maxRecDepth 100000 in
theorem lifted (os : Os) (started : os.Started) (H : Type) (enc : TypeId × Value → H) :
    ReturnsInHanded {} Try.checked os 6 .any (Rows.agendaOrdersSpec.pre6 enc Try.prog Try.f6 Rows.agendaOrdersRow.domain false) (Rows.agendaOrdersSpec.post enc Try.prog Try.f6 false true false false) := by
  refine returnsInHanded_of_change (C := Try.checked) own started (by kernel_rfl) Try.func6
    (ChangeSpec.witness6 (enc := enc) (C := Try.checked) false ⟨#[], #[.int .u8 0, .slice none 0 0], []⟩ 8 (by kernel_rfl) (by kernel_rfl) (by kernel_rfl) (by kernel_rfl)) ?_
  intro W base args ds gs before hval0 hW hcnd _
  have hval : ∀ (j : Nat) t v, Try.f6.params[j]? = some t → args[j]? = some v → Value.okWide Try.prog W .any base t v := hval0
  have hW' := hW
  obtain ⟨p, q, hA0, hV, rfl, hfz, hnd⟩ := hW
  have hA : DataW.TrodAll enc Try.prog W 0 (fun _ => true) true Try.f6.params.toList args.toList ds p := hA0
  rw [Try.params6] at hA hval
  obtain ⟨v0, vs0, d0, ds0, p0, q0, hargs, rfl, rfl, h0, r0⟩ := trodAll_cons hA
  obtain ⟨v1, vs1, d1, ds1, p1, q1, rfl, rfl, rfl, h1, r1⟩ := trodAll_cons r0
  obtain ⟨rfl, rfl, rfl⟩ := trodAll_nil r1
  obtain rfl : args = #[v0, v1] := by cases args; simp_all
  obtain ⟨rfl, rfl⟩ := trodVars_none hV
  obtain ⟨a0, rfl, rfl, rfl, w0⟩ := open_int Try.underlying5 (hval 0 5 v0 rfl rfl) h0
  have hb0 := bounds_u8 w0
  obtain ⟨A1, n1, c1, xs1, rfl, hs1⟩ := Opens.argSlice opens47 (by decide) Try.underlying46 (hval 1 46 v1 rfl rfl) h1
  refine mono_true (orders noB W (fun b h => h.elim) a0 _ A1 n1 c1 xs1 hb0 rfl (tm3 a0 hb0.1) ⟨(tm3 a0 hb0.1).1, Int.le_trans (tm3 a0 hb0.1).2 (by decide)⟩ hs1) fun w' hk => ⟨_, rfl, ?_⟩
  exact law_post (tb := 4) rfl (by kernel_rfl) Try.underlying4 (by kernel_rfl) (by kernel_rfl) hW' rfl hk

theorem over : Rows.agendaOrdersRow.holds Try.pinned (OpenSpec.ofChange Rows.agendaOrdersSpec) :=
  OpenClaim.holds_of_wide 6 Try.f6 rfl rfl rfl rfl rfl rfl rfl ⟨rfl, rfl, rfl, rfl, rfl⟩ rfl rfl rfl rfl rfl (by kernel_rfl) Try.func6 (by kernel_rfl)
    (of_decide_eq_true (by kernel_rfl)) (by unfold Func.isWrapper; first | (rw [if_pos (by decide +kernel)]; kernel_rfl) | (rw [if_neg (by decide +kernel)]; exact ⟨rfl, rfl⟩))
    (fun os started H enc _ => lifted os started H enc)

theorem proved : Rows.AgendaOrdersSaid := over
#print axioms proved
end Go.Proofs.Ytjklnbjblncgeaa.agendaOrders

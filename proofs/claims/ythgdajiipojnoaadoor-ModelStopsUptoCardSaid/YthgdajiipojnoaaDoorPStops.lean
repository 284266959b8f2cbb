/- ModelStops, where what it reads is of bulk at most 1048576: the law returns true and leaves memory as it was; the tables of the library as the program's text lays them. -/
import Derived.Test.YthgdajiipojnoaaDoorWModelStops
import Derived.Test.YthgdajiipojnoaaDoorO1
import Derived.Test.YthgdajiipojnoaaDoorQ1
import Derived.Test.YthgdajiipojnoaaDoorMA
import Derived.Test.YthgdajiipojnoaaDoorRows
import Derived.Test.YthgdajiipojnoaaDoorCards
import Derived.Test.YthgdajiipojnoaaDoorTie
import Derived.SevenTiedAt
import Derived.Deep.DeepHandedRow
namespace Go.Proofs.YthgdajiipojnoaaDoor.modelStops
open Go.Gl Go.ChangeShapes Go.WideShapes Go.ChangeAt Go.RowKit
set_option linter.unusedVariables false

theorem reads (os : Os) {H : Type} (enc : TypeId × Value → H) : ∃ places, DataW.whole enc Tryd.prog ((laidWorld os).forCall (fun _ _ => 0) ⟨#[], #[.agg #[.slice none 0 0], .slice none 0 0, .agg #[.int .u8 0, .int .u8 0]], []⟩).memory Tryd.f9.params.toList Rows.modelStopsSpec.vars false (#[.agg #[.slice none 0 0], .slice none 0 0, .agg #[.int .u8 0, .int .u8 0]] : Array Value).toList 8 = some ([.agg [.nil], .nil, .agg [.lit (.int .u8 0), .lit (.int .u8 0)]], [], places) := ⟨[], by kernel_rfl⟩
set_option maxRecDepth 100000 in
theorem lifted (os : Os) (started : os.Started) (H : Type) (enc : TypeId × Value → H) (F : Stop.Interp) :
    ReturnsInHanded {} Tryd.checked os 9 .any ((Rows.OpenSpec.upto Rows.modelStopsSpec).preRow enc Tryd.prog Tryd.f9 Rows.modelStopsUptoRow.domain false Rows.modelStopsUptoRow.laid) (((Rows.OpenSpec.upto Rows.modelStopsSpec).at F).post enc Tryd.prog Tryd.f9 false true false false) := by
  obtain ⟨places, hx⟩ := reads os enc
  refine returnsInHanded_of_row (C := Tryd.checked) (s := Rows.OpenSpec.upto Rows.modelStopsSpec) ownKnob37 started (by kernel_rfl) Tryd.func9
    (witness_row_at (enc := enc) (C := Tryd.checked) false (laidWorld os) #[.agg #[.slice none 0 0], .slice none 0 0, .agg #[.int .u8 0, .int .u8 0]] rfl (by kernel_rfl) (by kernel_rfl) (by kernel_rfl)
      (OpenSpec.preRow_of_cond 8 hx (by kernel_rfl) (fun k hk => by cases hk; kernel_rfl) (by kernel_rfl) (laid_met os _))) ?_
  intro W base args ds gs before hval0 hW _ hcond _ hL _ _
  have hB := bulk_le (hcond _ rfl)
  have hval : ∀ (j : Nat) t v, Tryd.f9.params[j]? = some t → args[j]? = some v → Value.okWide Tryd.prog W .any base t v := hval0
  have hW' := hW
  obtain ⟨p, q, hA0, hV, rfl, hfz, hnd⟩ := hW
  have hA : DataW.TrodAll enc Tryd.prog W 0 (fun _ => true) true Tryd.f9.params.toList args.toList ds p := hA0
  rw [Tryd.params9] at hA hval
  obtain ⟨v0, vs0, d0, ds0, p0, q0, hargs, rfl, rfl, h0, r0⟩ := trodAll_cons hA
  obtain ⟨v1, vs1, d1, ds1, p1, q1, rfl, rfl, rfl, h1, r1⟩ := trodAll_cons r0
  obtain ⟨v2, vs2, d2, ds2, p2, q2, rfl, rfl, rfl, h2, r2⟩ := trodAll_cons r1
  obtain ⟨rfl, rfl, rfl⟩ := trodAll_nil r2
  obtain rfl : args = #[v0, v1, v2] := by cases args; simp_all
  obtain ⟨rfl, rfl⟩ := trodVars_none hV
  simp only [List.cons_append, List.nil_append, Rows.uptoBulkAll] at hB
  obtain ⟨cs0, x0, rfl, hx0, hm0⟩ := OpensU.argStruct ou24 fu24 (hval 0 24 v0 rfl rfl) h0
  obtain ⟨As01, cs01, hcs0, hs01⟩ := RModel.open hx0
  obtain ⟨cs0⟩ := cs0
  obtain rfl : cs0 = _ := hcs0
  obtain ⟨A1, n1, c1, xs1, rfl, hs1, hm1⟩ := OpensU.argSlice ou43 (by decide) Tryd.underlying40 (by kernel_rfl) (hval 1 40 v1 rfl rfl) h1
  obtain rfl := hs1.len
  obtain ⟨cs2, x2, rfl, hx2⟩ := Opens.argArray (Opens.array2 op5 Tryd.underlying52 (by kernel_rfl)) Tryd.underlying52 (hval 2 52 v2 rfl rfl) h2
  obtain ⟨_, _, hcs2, hy2, hz2⟩ := hx2
  obtain rfl := hy2
  obtain rfl := hz2
  obtain ⟨cs2⟩ := cs2
  obtain rfl : cs2 = _ := hcs2
  refine mono_true (c_law37_ModelStops 10000000 noB W (fun b h => h.elim) x0 As01 cs01 hs01 xs1 A1 c1 hs1 x2 true (law37_ModelStops_true x0 xs1 x2 (by omega))) fun w' hk => ⟨_, rfl, ?_⟩
  exact law_post (tb := 4) rfl (by kernel_rfl) Tryd.underlying4 (by kernel_rfl) (by kernel_rfl) hW' rfl hk

theorem over : Rows.ModelStopsUptoSaid :=
  OpenClaim.holds_of_cond 9 Tryd.f9 rfl rfl rfl rfl rfl rfl rfl ⟨rfl, rfl, rfl, rfl, rfl⟩ rfl rfl rfl rfl rfl (by kernel_rfl) Tryd.func9 (by kernel_rfl)
    (of_decide_eq_true (by kernel_rfl)) (by unfold Func.isWrapper; first | (rw [if_pos (by decide +kernel)]; kernel_rfl) | (rw [if_neg (by decide +kernel)]; exact ⟨rfl, rfl⟩))
    (fun os started H enc _ F => by rw [OpenClaim.pre_eq_preRow]; exact lifted os started H enc F)

theorem plain (f : FuncId) (fn : Func) (hf : Tryd.pinned.checked.prog.funcNamed "grammarlab/grammarlablaw37.ModelStops" = some f) (hfn : Tryd.pinned.checked.prog.funcs[f]? = some fn) :
    false = Tryd.pinned.checked.prog.looks [] ∧ ∀ (j : Nat) t, fn.params[j]? = some t → Tryd.pinned.checked.prog.wantsStandIn t = false := by
  obtain rfl : f = 9 := Option.some.inj ((show Tryd.prog.funcNamed "grammarlab/grammarlablaw37.ModelStops" = some 9 by kernel_rfl).symm.trans hf) |>.symm
  obtain rfl : fn = Tryd.f9 := (Option.some.inj (Tryd.func9.symm.trans hfn)).symm
  refine ⟨by kernel_rfl, fun j t ht => ?_⟩
  rw [Tryd.params9] at ht
  have hm : t ∈ [24, 40, 52] := by simpa using Array.mem_of_getElem? ht
  have hall : ([24, 40, 52].all fun u => !Tryd.prog.wantsStandIn u) = true := by kernel_rfl
  exact (show Tryd.prog.wantsStandIn t = false by simpa using List.all_eq_true.1 hall t hm)
theorem proved : Rows.ModelStopsUptoCardSaid :=
  Claim7.holds_tied_plain_at .later [] _ _ _ _ over (fun _ h => by cases h) (by kernel_rfl) (fun _ h => by cases h) modelStopsUpto_row_tie rfl ⟨rfl, rfl⟩ (by kernel_rfl) rfl plain (by kernel_rfl)
#print axioms proved
end Go.Proofs.YthgdajiipojnoaaDoor.modelStops

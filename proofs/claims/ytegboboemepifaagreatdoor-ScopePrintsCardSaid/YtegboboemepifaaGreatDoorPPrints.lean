/- ScopePrints: for every input the law returns true and leaves memory as it was; the tables of the library as the program's text lays them. -/
import Derived.Test.YtegboboemepifaaGreatDoorWScopePrints
import Derived.Test.YtegboboemepifaaGreatDoorO1
import Derived.Test.YtegboboemepifaaGreatDoorQ1
import Derived.Test.YtegboboemepifaaGreatDoorC6
import Derived.Test.YtegboboemepifaaGreatDoorRows
import Derived.Test.YtegboboemepifaaGreatDoorCards
import Derived.Test.YtegboboemepifaaGreatDoorTie
import Derived.SevenTiedAt
namespace Go.Proofs.YtegboboemepifaaGreatDoor.scopePrints
open Go.Gl Go.ChangeShapes Go.WideShapes Go.ChangeAt Go.RowKit
set_option linter.unusedVariables false

set_option maxRecDepth 100000 in
theorem lifted (os : Os) (started : os.Started) (H : Type) (enc : TypeId × Value → H) :
    ReturnsInHanded {} Tryz.checked os 6 .any (fun w args => (Rows.scopePrintsSpec.pre enc Tryz.prog Tryz.f6 [] false w args ∧ laidMetH Tryz.prog laid41 w) ∧ sizedMet enc Tryz.prog Tryz.f6 (OpenSpec.ofChange Rows.scopePrintsSpec) false w args)
      (Rows.scopePrintsSpec.post enc Tryz.prog Tryz.f6 false true false false) := by
  refine returnsInHanded_of_change_and (C := Tryz.checked) (X := fun w _ => laidMetH Tryz.prog laid41 w) (fun _ _ _ hh h => h.of_heap hh) ownKnob41 started (by kernel_rfl) Tryz.func6
    (ChangeSpec.witness_shaped (enc := enc) (C := Tryz.checked) (os := os) (X := fun w _ => laidMetH Tryz.prog laid41 w) false (World.doorLaid Tryz.prog 400 os) #[.agg #[.int .i64 0, .int .i64 0, .slice none 0 0, .slice none 0 0, .slice none 0 0], .slice none 0 0] 8 rfl (World.shaped_of_RefB (by kernel_rfl) (by kernel_rfl)) (by kernel_rfl) (by kernel_rfl) (by kernel_rfl) (door41 os _)) ?_
  intro W base args ds gs before hval0 hW _ _ hL _
  have hval : ∀ (j : Nat) t v, Tryz.f6.params[j]? = some t → args[j]? = some v → Value.okWide Tryz.prog W .any base t v := hval0
  have hW' := hW
  obtain ⟨p, q, hA0, hV, rfl, hfz, hnd⟩ := hW
  have hA : DataW.TrodAll enc Tryz.prog W 0 (fun _ => true) true Tryz.f6.params.toList args.toList ds p := hA0
  rw [Tryz.params6] at hA hval
  obtain ⟨v0, vs0, d0, ds0, p0, q0, hargs, rfl, rfl, h0, r0⟩ := trodAll_cons hA
  obtain ⟨v1, vs1, d1, ds1, p1, q1, rfl, rfl, rfl, h1, r1⟩ := trodAll_cons r0
  obtain ⟨rfl, rfl, rfl⟩ := trodAll_nil r1
  obtain rfl : args = #[v0, v1] := by cases args; simp_all
  obtain ⟨rfl, rfl⟩ := trodVars_none hV
  obtain ⟨cs0, x0, rfl, hx0⟩ := Opens.argStruct op26 fu26 (hval 0 26 v0 rfl rfl) h0
  obtain ⟨As03, cs03, As04, cs04, As05, cs05, hcs0, hs03, hs04, hs05⟩ := RMRS.open hx0
  obtain ⟨cs0⟩ := cs0
  obtain rfl : cs0 = _ := hcs0
  obtain ⟨A1, n1, c1, xs1, rfl, hs1⟩ := Opens.argSlice op3 (by decide) Tryz.underlying30 (hval 1 30 v1 rfl rfl) h1
  obtain rfl := hs1.len
  refine mono_true (c_law41_ScopePrints 100000 noB W (fun b h => h.elim) x0 As03 cs03 As04 cs04 As05 cs05 hs03 hs04 hs05 xs1 A1 c1 hs1 (tab41 hL) true (law41_ScopePrints_true x0 xs1)) fun w' hk => ⟨_, rfl, ?_⟩
  exact law_post (tb := 4) rfl (by kernel_rfl) Tryz.underlying4 (by kernel_rfl) (by kernel_rfl) hW' rfl hk

theorem over : Rows.scopePrintsRow.holds Tryz.pinned (OpenSpec.ofChange Rows.scopePrintsSpec) :=
  OpenClaim.holds_of_wide 6 Tryz.f6 rfl rfl rfl rfl rfl rfl rfl ⟨rfl, rfl, rfl, rfl, rfl⟩ rfl rfl rfl rfl rfl (by kernel_rfl) Tryz.func6 (by kernel_rfl)
    (of_decide_eq_true (by kernel_rfl)) (by unfold Func.isWrapper; first | (rw [if_pos (by decide +kernel)]; kernel_rfl) | (rw [if_neg (by decide +kernel)]; exact ⟨rfl, rfl⟩))
    (fun os started H enc _ => lifted os started H enc)

theorem proved : Rows.ScopePrintsCardSaid :=
  Claim7.holds_tied_plain_at .later [] [.data, .data, .data] true (true, "df52e5823cc5f514f0d4b70ff3605eae76874b47929f7b76aa35af356e79f7f2") false
    over (fun _ h => by cases h) (by kernel_rfl) (fun _ h => by cases h) scopePrints_row_tie rfl ⟨rfl, rfl⟩ (by kernel_rfl) rfl
    (fun f fn hf hfn => by
      obtain rfl : f = 6 := Option.some.inj ((show Tryz.prog.funcNamed "grammarlab/grammarlablaw41.ScopePrints" = some 6 by kernel_rfl).symm.trans hf) |>.symm
      obtain rfl : fn = Tryz.f6 := (Option.some.inj (Tryz.func6.symm.trans hfn)).symm
      exact ⟨by kernel_rfl, fun j t ht => by
        rw [Tryz.params6] at ht
        have hm : t ∈ [26, 30] := by simpa using Array.mem_of_getElem? ht
        have hall : ([26, 30].all fun u => !Tryz.prog.wantsStandIn u) = true := by kernel_rfl
        exact (show Tryz.prog.wantsStandIn t = false by simpa using List.all_eq_true.1 hall t hm)⟩)
    (by kernel_rfl)
#print axioms proved
end Go.Proofs.YtegboboemepifaaGreatDoor.scopePrints


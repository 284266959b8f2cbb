/- Chapter 22: the walk of ModuleVisibles -/
import Derived.Test.YtbhjplflnkidgaaGreatWEx
namespace Go.Proofs.YtbhjplflnkidgaaGreat
open Go.Gl Go.RowKit Tryz
set_option linter.unusedVariables false
set_option linter.unusedSimpArgs false
set_option maxRecDepth 4000

set_option maxHeartbeats 1000000 in
theorem c_law22_ModuleVisibles (n : Nat) (M : Bs) (w0 : World) (hM : ∀ b, M b → b < w0.heap.size) (l_ : (List Module)) (Ap01 : Option Addr) (cp01 : Nat) (hp01 : SlR RModule M w0 Ap01 (l_).length cp01 (l_)) (name_ : (List UInt8)) (lp11 : (name_).length ≤ 9223372036854775807) (r : Bool) (hg : law22_ModuleVisibles n l_ name_ = some r) :
    Calls Tryz.prog 4 [.slice (Ap01) ((l_).length) (cp01), .string (bs (name_))].toArray w0 (Ret noB w0 fun v w => v = .bool (r)) := by
 unfold law22_ModuleVisibles at hg
 refine enter M noB func4 rfl rfl hM ?_
 intro a s
 obtain ⟨r1, hr1, hg⟩ := bind_some hg
 refine S s <| esw 101 hp01 <| vw <| aw rfl <| nw <| sw <| sw <| lw <| mw rfl fun a s => ?_
 refine lc s rfl func10 (by kernel_rfl) (c_law22_light n _ _ s.lt _ _ _ (s.ft 101 rfl) _ hr1) fun v4 a w hK hp s => ?_
 obtain rfl := hp
 refine S s <| yw rfl (y_not · rfl) <| nw fun a s => c_cond s rfl (fun hc6 => ?_) (fun hc6 => ?_)
 ·replace hg := br_t hg hc6
  obtain ⟨r7, hr7, hg⟩ := bind_some hg
  apply wQ
  apply wL
  refine lc s rfl func11 (by kernel_rfl) (c_law22_exampleHolds n _ _ s.lt  _ hr7) fun v10 a w hK hp s => ?_
  obtain rfl := hp
  refine S s <| aw rfl <| nw fun a s => ?_
  apply wp_ret
  refine p_thenR ?_
  obtain rfl := Option.some.inj hg
  refine fin1 (fn := Tryz.f4) s rfl (r_tmp s rfl) ?_
  exact rfl
 replace hg := br_n hg hc6
 obtain ⟨r12, hr12, hg⟩ := bind_some hg
 obtain ⟨r15, hr15, hg⟩ := bind_some hg
 obtain ⟨r18, hr18, hg⟩ := bind_some hg
 apply wp_skip
 apply pN
 apply wQ
 rcases Bool.eq_false_or_eq_true (r18) with hs21 | hs21
 ·replace hg := br_t hg hs21
  obtain ⟨r22, hr22, hg⟩ := bind_some hg
  refine S s <| lw <| mw rfl <| mw rfl fun a s => ?_
  refine lc s rfl func15 (by kernel_rfl) (c_module_Visible n _ _ s.lt _ _ _ (s.ft 101 rfl) _ (by omega) _ hr12) fun v25 a w hK hp s => ?_
  obtain ⟨Au26a1, cu26a1, rfl, hu26a1⟩ := hp
  refine S s <| nsw 104 hu26a1 <| mw rfl <| mw rfl fun a s => ?_
  refine lc s rfl func16 (by kernel_rfl) (c_r22_Visible n _ _ s.lt _ _ _ (s.ft 101 rfl) _ (by omega) _ hr15) fun v27 a w hK hp s => ?_
  obtain ⟨Au28a1, cu28a1, rfl, hu28a1⟩ := hp
  replace s := s.ns 105 hu28a1
  refine lc s rfl func14 (by kernel_rfl) (c_r01_Same n _ _ s.lt _ _ _ (s.ft 104 rfl) _ _ _ (s.ft 105 rfl) _ hr18) fun v29 a w hK hp s => ?_
  obtain rfl := hp.trans (congrArg Value.bool hs21)
  refine mv s rfl rfl fun a s => ?_
  refine gl s rfl (l_call (cap := []) s rfl func11 rfl (by kernel_rfl) rfl rfl (c_law22_exampleHolds n _ _ s.lt  _ hr22) fun v31 a w hK hp s => ?_)
  obtain rfl := hp
  refine S s <| yw rfl (y_pick_t · rfl rfl) <| aw rfl <| nw fun a s => ?_
  apply wp_ret
  obtain rfl := Option.some.inj hg
  refine fin1 (fn := Tryz.f4) s rfl (r_tmp s rfl) ?_
  exact rfl
 replace hg := br_n hg hs21
 refine S s <| lw <| mw rfl <| mw rfl fun a s => ?_
 refine lc s rfl func15 (by kernel_rfl) (c_module_Visible n _ _ s.lt _ _ _ (s.ft 101 rfl) _ (by omega) _ hr12) fun v33 a w hK hp s => ?_
 obtain ⟨Au34a1, cu34a1, rfl, hu34a1⟩ := hp
 refine S s <| nsw 106 hu34a1 <| mw rfl <| mw rfl fun a s => ?_
 refine lc s rfl func16 (by kernel_rfl) (c_r22_Visible n _ _ s.lt _ _ _ (s.ft 101 rfl) _ (by omega) _ hr15) fun v35 a w hK hp s => ?_
 obtain ⟨Au36a1, cu36a1, rfl, hu36a1⟩ := hp
 replace s := s.ns 107 hu36a1
 refine lc s rfl func14 (by kernel_rfl) (c_r01_Same n _ _ s.lt _ _ _ (s.ft 106 rfl) _ _ _ (s.ft 107 rfl) _ hr18) fun v37 a w hK hp s => ?_
 obtain rfl := hp.trans (congrArg Value.bool hs21)
 refine S s <| mw rfl <| gw rfl <| yw rfl (y_pick_f · rfl rfl) <| aw rfl <| nw fun a s => ?_
 apply wp_ret
 obtain rfl := Option.some.inj hg
 refine fin1 (fn := Tryz.f4) s rfl (r_tmp s rfl) ?_
 exact rfl
end Go.Proofs.YtbhjplflnkidgaaGreat


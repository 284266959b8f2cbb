/- Chapter 37: the walk of ModelChecks -/
import Derived.Test.YthgdajiipojnoaaDoorW9
import Derived.Test.YthgdajiipojnoaaDoorGl27
namespace Go.Proofs.YthgdajiipojnoaaDoor
open Go.Gl Go.RowKit Tryd
set_option linter.unusedVariables false
set_option linter.unusedSimpArgs false
set_option maxRecDepth 4000

set_option maxHeartbeats 400000 in
theorem c_law37_ModelChecks (n : Nat) (M : Bs) (w0 : World) (hM : ∀ b, M b → b < w0.heap.size) (m_ : Model) (Ap01 : Option Addr) (cp01 : Nat) (hp01 : SlR RWeight M w0 Ap01 (m_.Weights).length cp01 (m_.Weights)) (r : Bool) (hg : law37_ModelChecks n m_ = some r) :
    Calls Tryd.prog 3 [.agg #[.slice (Ap01) ((m_.Weights).length) (cp01)]].toArray w0 (Ret noB w0 fun v w => v = .bool (r)) := by
 unfold law37_ModelChecks at hg
 refine enter M noB func3 rfl rfl hM ?_
 intro a s
 replace s := s.es 101 hp01
 apply wR
 refine l_seq rfl (l_box (zs := [sl Ap01 (m_.Weights) cp01]) s 1000 rfl rfl rfl rfl fun b2 a w hb hK s => ?_)
 refine asg s rfl rfl fun a s => ?_
 apply wN
 apply wQ
 apply wR
 refine qq s rfl (y_boxField (o' := 0) s rfl underlying24 rfl rfl rfl) fun a s => ?_
 refine qq s rfl (y_loadBox1 (kk := 1000) s rfl rfl rfl underlying22 rfl) fun a s => ?_
 refine qq s rfl (y_lenSlice s rfl underlying22) fun a s => ?_
 refine qq s rfl (y_gtrN (i := ((m_.Weights).length)) (j := 60) s rfl rfl) fun a s => ?_
 apply wN
 refine c_dec s rfl (fun hc3 => ?_) (fun hc3 => ?_)
 ·replace hg := br_t hg hc3
  have hmx4 := SlR.mx (s.ft 101 rfl)
  apply wQ
  obtain ⟨r5, hr5, hg⟩ := bind_some hg
  apply wL
  refine l_seq rfl (l_call (cap := []) s rfl func10 rfl (by kernel_rfl) rfl rfl (c_law37_exampleHolds n _ _ s.lt  r5 hr5) fun v8 a w hK hp s => ?_)
  obtain rfl := hp
  refine asg s rfl rfl fun a s => ?_
  apply wN
  apply wp_ret
  refine p_thenR ?_
  obtain rfl := Option.some.inj hg
  refine fin1 (fn := Tryd.f3) s rfl (r_tmp s rfl) ?_
  exact rfl
 replace hg := br_f hg hc3
 apply wp_skip
 apply pN
 apply wQ
 obtain ⟨r10, hr10, hg⟩ := bind_some hg
 obtain ⟨r13, hr13, hg⟩ := bind_some hg
 rcases Decidable.em (r10 = r13) with hs16 | hs16
 ·have hs16e := decide_eq_true hs16
  replace hg := br_t hg hs16
  obtain ⟨r17, hr17, hg⟩ := bind_some hg
  refine d_plan s [] [(0, some 1000), (2, some 1000), (1, none), (3, none), (4, none), (5, none), (6, none), (7, none), (8, none)] rfl (by kernel_rfl) (by kernel_rfl) rfl ?_; clear s; intro wr hZ s; have hR := s.wd
  refine qt s hR rfl (y_loadAll (kk := 1000) s rfl rfl underlying24 rfl rfl) fun a s => ?_
  refine qt s hR rfl (y_loadAll (kk := 1000) s rfl rfl underlying24 rfl rfl) fun a s => ?_
  refine l_take s rfl rfl (l_call (cap := []) s rfl func11 rfl (by kernel_rfl) rfl rfl (c_model_Check n _ _ s.lt m_ (Ap01) (cp01) (s.ft 101 rfl) r10 hr10) fun v20 a w hK hp s => ?_)
  replace hZ := Nat.le_trans hZ hK.size; refine ⟨fun g _ h => h.grow hK, ?_⟩; clear hK
  obtain rfl := hp
  refine l_take s rfl rfl (l_call (cap := []) s rfl func12 rfl (by kernel_rfl) rfl rfl (c_r37_Check n _ _ s.lt m_ (Ap01) (cp01) (s.ft 101 rfl) r13 hr13) fun v22 a w hK hp s => ?_)
  replace hZ := Nat.le_trans hZ hK.size; refine ⟨fun g _ h => h.grow hK, ?_⟩; clear hK
  obtain rfl := hp
  refine l_take s rfl rfl (l_quiet s rfl rfl (yl_b (y_eql s rfl rfl) hs16e) fun a s => ?_); refine ⟨fun g _ h => h, ?_⟩
  refine l_take s rfl rfl (l_quiet s rfl rfl (y_move s rfl) fun a s => ?_); refine ⟨fun g _ h => h, ?_⟩
  refine l_take s rfl ⟨_, _, _, rfl, rfl, rfl, rfl⟩ (l_call (cap := []) s rfl func10 rfl (by kernel_rfl) rfl rfl (c_law37_exampleHolds n _ _ s.lt  r17 hr17) fun v24 a w hK hp s => ?_)
  replace hZ := Nat.le_trans hZ hK.size; refine ⟨fun g _ h => h.grow hK, ?_⟩; clear hK
  obtain rfl := hp
  refine l_take s rfl rfl (l_quiet s rfl rfl (y_pick_t s rfl rfl) fun a s => ?_); refine ⟨fun g _ h => h, ?_⟩
  refine l_take s rfl rfl (l_quiet s rfl rfl (y_assign s rfl) fun a s => ?_); refine ⟨fun g _ h => h, ?_⟩
  clear hR hZ
  apply pN
  apply wp_ret
  obtain rfl := Option.some.inj hg
  refine fin1 (fn := Tryd.f3) s rfl (r_tmp s rfl) ?_
  exact rfl
 have hs16e := decide_eq_false hs16
 replace hg := br_f hg hs16
 refine d_plan s [] [(0, some 1000), (2, some 1000), (1, none), (3, none), (4, none), (5, none), (6, none), (7, none), (8, none)] rfl (by kernel_rfl) (by kernel_rfl) rfl ?_; clear s; intro wr hZ s; have hR := s.wd
 refine qt s hR rfl (y_loadAll (kk := 1000) s rfl rfl underlying24 rfl rfl) fun a s => ?_
 refine qt s hR rfl (y_loadAll (kk := 1000) s rfl rfl underlying24 rfl rfl) fun a s => ?_
 refine l_take s rfl rfl (l_call (cap := []) s rfl func11 rfl (by kernel_rfl) rfl rfl (c_model_Check n _ _ s.lt m_ (Ap01) (cp01) (s.ft 101 rfl) r10 hr10) fun v26 a w hK hp s => ?_)
 replace hZ := Nat.le_trans hZ hK.size; refine ⟨fun g _ h => h.grow hK, ?_⟩; clear hK
 obtain rfl := hp
 refine l_take s rfl rfl (l_call (cap := []) s rfl func12 rfl (by kernel_rfl) rfl rfl (c_r37_Check n _ _ s.lt m_ (Ap01) (cp01) (s.ft 101 rfl) r13 hr13) fun v28 a w hK hp s => ?_)
 replace hZ := Nat.le_trans hZ hK.size; refine ⟨fun g _ h => h.grow hK, ?_⟩; clear hK
 obtain rfl := hp
 refine l_take s rfl rfl (l_quiet s rfl rfl (yl_b (y_eql s rfl rfl) hs16e) fun a s => ?_); refine ⟨fun g _ h => h, ?_⟩
 refine l_take s rfl rfl (l_quiet s rfl rfl (y_move s rfl) fun a s => ?_); refine ⟨fun g _ h => h, ?_⟩
 refine l_pass s rfl ⟨_, _, _, rfl, rfl, rfl, rfl⟩ rfl rfl fun a s => ?_
 refine l_take s rfl rfl (l_quiet s rfl rfl (y_pick_f s rfl rfl) fun a s => ?_); refine ⟨fun g _ h => h, ?_⟩
 refine l_take s rfl rfl (l_quiet s rfl rfl (y_assign s rfl) fun a s => ?_); refine ⟨fun g _ h => h, ?_⟩
 clear hR hZ
 apply pN
 apply wp_ret
 obtain rfl := Option.some.inj hg
 refine fin1 (fn := Tryd.f3) s rfl (r_tmp s rfl) ?_
 exact rfl
end Go.Proofs.YthgdajiipojnoaaDoor

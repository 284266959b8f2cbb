/- Chapter 37: the walk of ModelAdds -/
import Derived.Test.YthgdajiipojnoaaDoorW9
import Derived.Test.YthgdajiipojnoaaDoorGl27
namespace Go.Proofs.YthgdajiipojnoaaDoor
open Go.Gl Go.RowKit Tryd
set_option linter.unusedVariables false
set_option linter.unusedSimpArgs false
set_option maxRecDepth 4000

set_option maxHeartbeats 400000 in
theorem c_law37_ModelAdds (n : Nat) (M : Bs) (w0 : World) (hM : ∀ b, M b → b < w0.heap.size) (t_ : Model) (Ap01 : Option Addr) (cp01 : Nat) (hp01 : SlR RWeight M w0 Ap01 (t_.Weights).length cp01 (t_.Weights)) (t_' : Deriv) (Ap15 : Option Addr) (cp15 : Nat) (lp12 : (t_'.Name).length ≤ 9223372036854775807) (hp15 : SlR RDeriv M w0 Ap15 (t_'.Kids).length cp15 (t_'.Kids)) (r : Bool) (hg : law37_ModelAdds n t_ t_' = some r) :
    Calls Tryd.prog 8 [.agg #[.slice (Ap01) ((t_.Weights).length) (cp01)], .agg #[.int .i64 (t_'.Kind), .string (bs (t_'.Name)), .int .i64 (t_'.From), .int .i64 (t_'.To), .slice (Ap15) ((t_'.Kids).length) (cp15)]].toArray w0 (Ret noB w0 fun v w => v = .bool (r)) := by
 unfold law37_ModelAdds at hg
 refine enter M noB func8 rfl rfl hM ?_
 intro a s
 replace s := s.es 101 hp01
 replace s := s.es 102 hp15
 apply wR
 refine l_seq rfl (l_box (zs := [sl Ap01 (t_.Weights) cp01]) s 1000 rfl rfl rfl rfl fun b3 a w hb hK s => ?_)
 refine l_seq rfl (l_box (zs := [vI (t_'.Kind), vT (t_'.Name), vI (t_'.From), vI (t_'.To), sl Ap15 (t_'.Kids) cp15]) s 1001 rfl rfl rfl rfl fun b4 a w hb hK s => ?_)
 refine asg s rfl rfl fun a s => ?_
 apply wN
 apply wQ
 apply wQ
 obtain ⟨k5, hg, hk5⟩ := jn_some hg
 refine c_post (fun a w => ∃ (t_6 : Bool), k5 t_6 = some r ∧ St (⟨Tryd.f8.ntmps, M, noB, w0⟩ : Ctx) [(2, vP b3 0), (3, vP b4 0), (23, .bool (t_6))] [(1000, Ob.box b3 [sl Ap01 (t_.Weights) cp01] 24), (1001, Ob.box b4 [vI (t_'.Kind), vT (t_'.Name), vI (t_'.From), vI (t_'.To), sl Ap15 (t_'.Kids) cp15] 31)] [(101, slF RWeight (Ap01) ((t_.Weights).length) (cp01) (t_.Weights)), (102, slF RDeriv (Ap15) ((t_'.Kids).length) (cp15) (t_'.Kids))] a w) ?_ ?_
 ·rcases Decidable.em ((60 : Nat) < ((t_.Weights).length)) with hs7 | hs7
  ·have hs7e := decide_eq_true hs7
   replace hg := br_t hg hs7
   have hmx8 := SlR.mx (s.ft 101 rfl)
   apply wL
   refine qq s rfl (y_boxField (o' := 0) s rfl underlying24 rfl rfl rfl) fun a s => ?_
   refine qq s rfl (y_loadBox1 (kk := 1000) s rfl rfl rfl underlying22 rfl) fun a s => ?_
   refine qq s rfl (y_lenSlice s rfl underlying22) fun a s => ?_
   refine qq s rfl (yl_b (y_gtrN (i := ((t_.Weights).length)) (j := 60) s rfl rfl) hs7e) fun a s => ?_
   refine mv s rfl rfl fun a s => ?_
   refine gn s rfl fun a s => ?_
   refine gn s rfl fun a s => ?_
   refine gn s rfl fun a s => ?_
   refine qq s rfl (y_pick_t s rfl rfl) fun a s => ?_
   refine mv s rfl rfl fun a s => ?_
   refine gn s rfl fun a s => ?_
   refine gn s rfl fun a s => ?_
   refine gn s rfl fun a s => ?_
   refine qq s rfl (y_pick_t s rfl rfl) fun a s => ?_
   apply wN
   exact ⟨(true), hg, (s.sb rfl rfl rfl)⟩
  have hs7e := decide_eq_false hs7
  replace hg := br_f hg hs7
  obtain ⟨r9, hr9, hg⟩ := bind_some hg
  rcases Decidable.em ((60 : Int) < r9) with hs12 | hs12
  ·have hs12e := decide_eq_true hs12
   replace hg := br_t hg hs12
   apply wL
   refine qq s rfl (y_boxField (o' := 0) s rfl underlying24 rfl rfl rfl) fun a s => ?_
   refine qq s rfl (y_loadBox1 (kk := 1000) s rfl rfl rfl underlying22 rfl) fun a s => ?_
   refine qq s rfl (y_lenSlice s rfl underlying22) fun a s => ?_
   refine qq s rfl (yl_b (y_gtrN (i := ((t_.Weights).length)) (j := 60) s rfl rfl) hs7e) fun a s => ?_
   refine mv s rfl rfl fun a s => ?_
   refine gy s rfl (y_loadAll (kk := 1001) s rfl rfl underlying31 rfl rfl) fun a s => ?_
   refine gl s rfl (l_call (cap := []) s rfl func13 rfl (by kernel_rfl) rfl rfl (c_r37_Nodes n _ _ s.lt t_' (Ap15) (cp15) (by omega) (s.ft 102 rfl) 61 r9 hr9) fun v13 a w hK hp s => ?_)
   obtain rfl := hp
   refine gy s rfl (yl_b (y_gtr s rfl rfl) hs12e) fun a s => ?_
   refine qq s rfl (y_pick_f s rfl rfl) fun a s => ?_
   refine mv s rfl rfl fun a s => ?_
   refine gn s rfl fun a s => ?_
   refine gn s rfl fun a s => ?_
   refine gn s rfl fun a s => ?_
   refine qq s rfl (y_pick_t s rfl rfl) fun a s => ?_
   apply wN
   exact ⟨(true), hg, (s.sb rfl rfl rfl)⟩
  have hs12e := decide_eq_false hs12
  replace hg := br_f hg hs12
  obtain ⟨r15, hr15, hg⟩ := bind_some hg
  apply wL
  refine qq s rfl (y_boxField (o' := 0) s rfl underlying24 rfl rfl rfl) fun a s => ?_
  refine qq s rfl (y_loadBox1 (kk := 1000) s rfl rfl rfl underlying22 rfl) fun a s => ?_
  refine qq s rfl (y_lenSlice s rfl underlying22) fun a s => ?_
  refine qq s rfl (yl_b (y_gtrN (i := ((t_.Weights).length)) (j := 60) s rfl rfl) hs7e) fun a s => ?_
  refine mv s rfl rfl fun a s => ?_
  refine gy s rfl (y_loadAll (kk := 1001) s rfl rfl underlying31 rfl rfl) fun a s => ?_
  refine gl s rfl (l_call (cap := []) s rfl func13 rfl (by kernel_rfl) rfl rfl (c_r37_Nodes n _ _ s.lt t_' (Ap15) (cp15) (by omega) (s.ft 102 rfl) 61 r9 hr9) fun v18 a w hK hp s => ?_)
  obtain rfl := hp
  refine gy s rfl (yl_b (y_gtr s rfl rfl) hs12e) fun a s => ?_
  refine qq s rfl (y_pick_f s rfl rfl) fun a s => ?_
  refine mv s rfl rfl fun a s => ?_
  refine gy s rfl (y_loadAll (kk := 1000) s rfl rfl underlying24 rfl rfl) fun a s => ?_
  refine gl s rfl (l_call (cap := []) s rfl func12 rfl (by kernel_rfl) rfl rfl (c_r37_Check n _ _ s.lt t_ (Ap01) (cp01) (s.ft 101 rfl) r15 hr15) fun v20 a w hK hp s => ?_)
  obtain rfl := hp
  refine gy s rfl (y_neq s rfl rfl) fun a s => ?_
  refine qq s rfl (y_pick_f s rfl rfl) fun a s => ?_
  apply wN
  exact ⟨(decide (r15 ≠ 0)), hg, (s.sb rfl rfl rfl)⟩
 clear s a; rintro a w ⟨t_6, hg, s⟩
 subst hk5
 refine c_cond s rfl (fun hc22 => ?_) (fun hc22 => ?_)
 ·replace hg := br_t hg hc22
  apply wQ
  obtain ⟨r23, hr23, hg⟩ := bind_some hg
  apply wL
  refine l_seq rfl (l_call (cap := []) s rfl func10 rfl (by kernel_rfl) rfl rfl (c_law37_exampleHolds n _ _ s.lt  r23 hr23) fun v26 a w hK hp s => ?_)
  obtain rfl := hp
  refine asg s rfl rfl fun a s => ?_
  apply wN
  apply wp_ret
  refine p_thenR ?_
  obtain rfl := Option.some.inj hg
  refine fin1 (fn := Tryd.f8) s rfl (r_tmp s rfl) ?_
  exact rfl
 replace hg := br_n hg hc22
 apply wp_skip
 apply pN
 apply wQ
 obtain ⟨hk28, hg⟩ := chk_some hg
 apply wL
 refine qq s rfl (y_boxField (o' := 1) s rfl underlying31 rfl rfl rfl) fun a s => ?_
 refine qq s rfl (y_loadBox1 (kk := 1001) s rfl rfl rfl underlying9 rfl) fun a s => ?_
 refine qq s rfl (y_concat s rfl rfl hk28) fun a s => ?_
 refine asg s rfl rfl fun a s => ?_
 apply wN
 apply wR
 refine asg s rfl rfl fun a s => ?_
 apply wN
 apply wQ
 apply wR
 refine qq s rfl (y_boxField (o' := 4) s rfl underlying31 rfl rfl rfl) fun a s => ?_
 refine qq s rfl (y_loadBox1 (kk := 1001) s rfl rfl rfl underlying29 rfl) fun a s => ?_
 refine qq s rfl (y_lenSlice s rfl underlying29) fun a s => ?_
 refine mv s rfl rfl fun a s => ?_
 apply wN
 obtain ⟨k29, hg, hk29⟩ := jn_some hg
 refine c_post (fun a w => ∃ (t_30 : (List UInt8)) (t_31 : Int), k29 t_30 t_31 = some r ∧ ((t_30).length ≤ 9223372036854775807) ∧ St (⟨Tryd.f8.ntmps, M, noB, w0⟩ : Ctx) [(2, vP b3 0), (3, vP b4 0), (5, vT t_30), (6, vI t_31)] [(1000, Ob.box b3 [sl Ap01 (t_.Weights) cp01] 24), (1001, Ob.box b4 [vI (t_'.Kind), vT (t_'.Name), vI (t_'.From), vI (t_'.To), sl Ap15 (t_'.Kids) cp15] 31)] [(101, slF RWeight (Ap01) ((t_.Weights).length) (cp01) (t_.Weights)), (102, slF RDeriv (Ap15) ((t_'.Kids).length) (cp15) (t_'.Kids))] a w) ?_ ?_
 ·apply wp_block
  refine c_loop (σ := Nat) (fun m1 a w => ∃ (t_32 : (List UInt8)) (t_33 : Int) (t_34 : Nat), law37_ModelAdds_L0 n t_ t_' k29 m1 t_32 t_33 t_34 = some r ∧ ((t_32).length ≤ 9223372036854775807) ∧ St (⟨Tryd.f8.ntmps, M, noB, w0⟩ : Ctx) [(2, vP b3 0), (3, vP b4 0), (5, vT t_32), (6, vI t_33), (30, vI ((((t_'.Kids).length : Nat) : Int))), (31, vI (((t_34 : Nat) : Int)))] [(1000, Ob.box b3 [sl Ap01 (t_.Weights) cp01] 24), (1001, Ob.box b4 [vI (t_'.Kind), vT (t_'.Name), vI (t_'.From), vI (t_'.To), sl Ap15 (t_'.Kids) cp15] 31)] [(101, slF RWeight (Ap01) ((t_.Weights).length) (cp01) (t_.Weights)), (102, slF RDeriv (Ap15) ((t_'.Kids).length) (cp15) (t_'.Kids))] a w) (fun m1 => m1) n ⟨(t_'.Name ++ [62]), (0), (0), hg, (by first | omega | (rw [List.length_append]; omega) | (simp only [List.length_append]; omega) | (simp only [List.length_append, List.length_take, List.length_drop, List.length_cons, List.length_nil]; omega) | exact smin_len (by omega) (by omega)), (s.sb rfl rfl rfl)⟩ ?_
  clear s a; rintro m1 a w ⟨t_32, t_33, t_34, hg, lt_32, s⟩
  rcases m1 with _ | m1
  ·rw [law37_ModelAdds_L0] at hg; cases hg
  rw [law37_ModelAdds_L0] at hg
  apply wR
  refine qq s rfl (y_lssN (i := t_34) (j := ((t_'.Kids).length)) s rfl rfl) fun a s => ?_
  apply wN
  apply wQ
  refine c_dec s rfl (fun hc35 => ?_) (fun hc35 => ?_)
  ·replace hg := br_t hg hc35
   have hmx36 := SlR.mx (s.ft 102 rfl)
   apply wp_skip
   apply pN
   apply wQ
   apply wp_block
   apply wR
   refine mv s rfl rfl fun a s => ?_
   refine asg s rfl rfl fun a s => ?_
   apply wN
   apply wQ
   apply wR
   refine mv s rfl rfl fun a s => ?_
   refine qq s rfl (y_gtrN (i := t_34) (j := 0) s rfl rfl) fun a s => ?_
   apply wN
   obtain ⟨k37, hg, hk37⟩ := jn_some hg
   refine c_post (fun a w => ∃ (t_38 : (List UInt8)), k37 t_38 = some r ∧ ((t_38).length ≤ 9223372036854775807) ∧ St (⟨Tryd.f8.ntmps, M, noB, w0⟩ : Ctx) [(2, vP b3 0), (3, vP b4 0), (5, vT t_38), (6, vI t_33), (7, vI (((t_34 : Nat) : Int))), (30, vI ((((t_'.Kids).length : Nat) : Int))), (31, vI (((t_34 : Nat) : Int)))] [(1000, Ob.box b3 [sl Ap01 (t_.Weights) cp01] 24), (1001, Ob.box b4 [vI (t_'.Kind), vT (t_'.Name), vI (t_'.From), vI (t_'.To), sl Ap15 (t_'.Kids) cp15] 31)] [(101, slF RWeight (Ap01) ((t_.Weights).length) (cp01) (t_.Weights)), (102, slF RDeriv (Ap15) ((t_'.Kids).length) (cp15) (t_'.Kids))] a w) ?_ ?_
   ·refine c_dec s rfl (fun hc39 => ?_) (fun hc39 => ?_)
    ·replace hg := br_t hg hc39
     obtain ⟨hk40, hg⟩ := chk_some hg
     apply wL
     refine mv s rfl rfl fun a s => ?_
     refine qq s rfl (y_concat s rfl rfl hk40) fun a s => ?_
     refine asg s rfl rfl fun a s => ?_
     apply wN
     exact ⟨(t_32 ++ [32]), hg, (by first | omega | (rw [List.length_append]; omega) | (simp only [List.length_append]; omega) | (simp only [List.length_append, List.length_take, List.length_drop, List.length_cons, List.length_nil]; omega) | exact smin_len (by omega) (by omega)), (s.sb rfl rfl rfl)⟩
    replace hg := br_f hg hc39
    apply wp_skip
    apply pN
    exact ⟨(t_32), hg, (by omega), (s.sb rfl rfl rfl)⟩
   clear s a; rintro a w ⟨t_38, hg, lt_38, s⟩
   subst hk37
   apply wQ
   obtain ⟨x42, hx42, hg⟩ := bind_some hg
   obtain ⟨hk44, hg⟩ := chk_some hg
   apply wL
   refine mv s rfl rfl fun a s => ?_
   refine qq s rfl (y_boxField (o' := 4) s rfl underlying31 rfl rfl rfl) fun a s => ?_
   refine qq s rfl (y_loadBox1 (kk := 1001) s rfl rfl rfl underlying29 rfl) fun a s => ?_
   refine mv s rfl rfl fun a s => ?_
   obtain ⟨p45, hep45, hpp45⟩ := SlR.elemX (s.ft 102 rfl) hx42
   refine qq s rfl (y_elem (sz := 5) (i := t_34) s rfl rfl underlying29 rfl hep45 rfl (lt_of_get hx42)) fun a s => ?_
   refine qq s rfl (y_ptrField (o' := 1) s rfl underlying31 rfl rfl rfl) fun a s => ?_
   obtain ⟨hlq46, hmq46, csq46, hdq46, hcq46⟩ := hpp45
   obtain ⟨Aq465, cq465, rfl, lq462, hq465⟩ := RDeriv.open hdq46
   replace s := s.ns 104 hq465
   refine qq s rfl (y_ldp1 s rfl hlq46 hmq46 (hcq46 1 _ rfl) underlying9 rfl) fun a s => ?_
   refine qq s rfl (y_concat s rfl rfl hk44) fun a s => ?_
   refine asg s rfl rfl fun a s => ?_
   apply wN
   obtain ⟨r49, hr49, hg⟩ := bind_some hg
   obtain ⟨hk52, hg⟩ := chk_some hg
   refine d_plan s [] [(0, some 0), (1, some 1000), (2, some 0), (3, some 1001), (4, some 0), (5, some 0), (6, some 0), (7, none), (8, none), (9, none)] rfl (by kernel_rfl) (by kernel_rfl) rfl ?_; clear s; intro wr hZ s; have hR := s.wd
   refine qt s hR rfl (y_move s rfl) fun a s => ?_
   refine qt s hR rfl (y_loadAll (kk := 1000) s rfl rfl underlying24 rfl rfl) fun a s => ?_
   refine qt s hR rfl (y_boxField (o' := 4) s rfl underlying31 rfl rfl rfl) fun a s => ?_
   refine qt s hR rfl (y_loadBox1 (kk := 1001) s rfl rfl rfl underlying29 rfl) fun a s => ?_
   refine qt s hR rfl (y_move s rfl) fun a s => ?_
   obtain ⟨p53, hep53, hpp53⟩ := SlR.elemX (s.ft 102 rfl) hx42
   refine qt s hR rfl (y_elem (sz := 5) (i := t_34) s rfl rfl underlying29 rfl hep53 rfl (lt_of_get hx42)) fun a s => ?_
   obtain ⟨hlq54, hmq54, csq54, hdq54, hcq54⟩ := hpp53
   obtain ⟨Aq545, cq545, rfl, lq542, hq545⟩ := RDeriv.open hdq54
   replace s := s.ns 106 hq545
   refine qt s hR rfl (y_ldp s rfl hlq54 hmq54 (by simpa using hcq54) underlying31 rfl rfl) fun a s => ?_
   refine l_take s rfl rfl (l_call (cap := []) s rfl func17 rfl (by kernel_rfl) rfl rfl (c_model_Score n _ _ s.lt t_ (Ap01) (cp01) (s.ft 101 rfl) x42 (Aq545) (cq545) (by omega) (s.ft 106 rfl) r49 hr49) fun v55 a w hK hp s => ?_)
   replace hZ := Nat.le_trans hZ hK.size; refine ⟨fun g _ h => h.grow hK, ?_⟩; clear hK
   obtain rfl := hp
   refine l_take s rfl rfl (l_quiet s rfl rfl (y_add s rfl rfl (in64.2 hk52)) fun a s => ?_); refine ⟨fun g _ h => h, ?_⟩
   refine l_take s rfl rfl (l_quiet s rfl rfl (y_assign s rfl) fun a s => ?_); refine ⟨fun g _ h => h, ?_⟩
   clear hR hZ
   refine p_inN ?_
   apply pN
   apply wL
   refine qq s rfl (y_addN (i := t_34) (j := 1) s rfl rfl (in64.2 (by omega))) fun a s => ?_
   refine mv s rfl rfl fun a s => ?_
   apply wN
   exact ⟨m1, Nat.lt_succ_self _, ⟨(t_38 ++ x42.Name), (t_33 + r49), (t_34 + 1), hg, (by first | omega | (rw [List.length_append]; omega) | (simp only [List.length_append]; omega) | (simp only [List.length_append, List.length_take, List.length_drop, List.length_cons, List.length_nil]; omega) | exact smin_len (by omega) (by omega)), (s.sb rfl rfl rfl)⟩⟩
  replace hg := br_f hg hc35
  apply wp_exit
  refine p_then ?_
  refine p_then ?_
  refine p_in ?_
  apply pN
  exact ⟨(t_32), (t_33), hg, (by omega), (s.sb rfl rfl rfl)⟩
 clear s a; rintro a w ⟨t_30, t_31, hg, lt_30, s⟩
 subst hk29
 apply wQ
 apply wR
 refine qq s rfl (y_boxField (o' := 0) s rfl underlying24 rfl rfl rfl) fun a s => ?_
 refine qq s rfl (y_loadBox1 (kk := 1000) s rfl rfl rfl underlying22 rfl) fun a s => ?_
 refine qq s rfl (y_lenSlice s rfl underlying22) fun a s => ?_
 refine mv s rfl rfl fun a s => ?_
 apply wN
 obtain ⟨k57, hg, hk57⟩ := jn_some hg
 refine c_post (fun a w => ∃ (t_58 : Int), k57 t_58 = some r ∧ St (⟨Tryd.f8.ntmps, M, noB, w0⟩ : Ctx) [(2, vP b3 0), (3, vP b4 0), (6, vI t_58)] [(1000, Ob.box b3 [sl Ap01 (t_.Weights) cp01] 24), (1001, Ob.box b4 [vI (t_'.Kind), vT (t_'.Name), vI (t_'.From), vI (t_'.To), sl Ap15 (t_'.Kids) cp15] 31)] [(101, slF RWeight (Ap01) ((t_.Weights).length) (cp01) (t_.Weights)), (102, slF RDeriv (Ap15) ((t_'.Kids).length) (cp15) (t_'.Kids))] a w) ?_ ?_
 ·apply wp_block
  refine c_loop (σ := Nat) (fun m2 a w => ∃ (t_59 : Int) (t_60 : Nat), law37_ModelAdds_L1 n t_ t_' t_30 k57 m2 t_59 t_60 = some r ∧ St (⟨Tryd.f8.ntmps, M, noB, w0⟩ : Ctx) [(2, vP b3 0), (3, vP b4 0), (5, vT t_30), (6, vI t_59), (57, sl Ap01 (t_.Weights) cp01), (58, vI ((((t_.Weights).length : Nat) : Int))), (59, vI (((t_60 : Nat) : Int)))] [(1000, Ob.box b3 [sl Ap01 (t_.Weights) cp01] 24), (1001, Ob.box b4 [vI (t_'.Kind), vT (t_'.Name), vI (t_'.From), vI (t_'.To), sl Ap15 (t_'.Kids) cp15] 31)] [(101, slF RWeight (Ap01) ((t_.Weights).length) (cp01) (t_.Weights)), (102, slF RDeriv (Ap15) ((t_'.Kids).length) (cp15) (t_'.Kids))] a w) (fun m2 => m2) n ⟨(t_31), (0), hg, (s.sb rfl rfl rfl)⟩ ?_
  clear s a; rintro m2 a w ⟨t_59, t_60, hg, s⟩
  rcases m2 with _ | m2
  ·rw [law37_ModelAdds_L1] at hg; cases hg
  rw [law37_ModelAdds_L1] at hg
  apply wR
  refine qq s rfl (y_lssN (i := t_60) (j := ((t_.Weights).length)) s rfl rfl) fun a s => ?_
  apply wN
  apply wQ
  refine c_dec s rfl (fun hc61 => ?_) (fun hc61 => ?_)
  ·replace hg := br_t hg hc61
   have hmx62 := SlR.mx (s.ft 101 rfl)
   apply wp_skip
   apply pN
   apply wQ
   apply wp_block
   apply wQ
   obtain ⟨x64, hx64, hg⟩ := bind_some hg
   apply wL
   obtain ⟨p67, hep67, hpp67⟩ := SlR.elemX (s.ft 101 rfl) hx64
   refine qq s rfl (y_elem (sz := 2) (i := t_60) s rfl rfl underlying22 rfl hep67 rfl (lt_of_get hx64)) fun a s => ?_
   obtain ⟨hlq68, hmq68, csq68, hdq68, hcq68⟩ := hpp67
   obtain ⟨rfl, lq681⟩ := RWeight.open hdq68
   refine qq s rfl (y_ldp s rfl hlq68 hmq68 (by simpa using hcq68) underlying50 rfl rfl) fun a s => ?_
   refine l_seq rfl (l_alloc (zs := [vT ([]), vI 0]) s 2502 rfl rfl rfl rfl fun b69 a w hb hK s => ?_)
   refine l_seq rfl (l_store (n := 2) (cs' := [vT (x64.Feature), vI (x64.Value)]) s 2502 rfl rfl rfl rfl rfl rfl rfl rfl ?_); clear s; intro w hK s; clear hK
   apply wN
   apply wQ
   apply wR
   refine qq s rfl (y_boxField (o' := 0) s rfl underlying50 rfl rfl rfl) fun a s => ?_
   refine qq s rfl (y_loadBox1 (kk := 2502) s rfl rfl rfl underlying9 rfl) fun a s => ?_
   refine qq s rfl (y_boxField (o' := 1) s rfl underlying31 rfl rfl rfl) fun a s => ?_
   refine qq s rfl (y_loadBox1 (kk := 1001) s rfl rfl rfl underlying9 rfl) fun a s => ?_
   refine qq s rfl (y_seq s rfl rfl) fun a s => ?_
   apply wN
   obtain ⟨k70, hg, hk70⟩ := jn_some hg
   refine c_post (fun a w => ∃ (t_71 : Int), k70 t_71 = some r ∧ St (⟨Tryd.f8.ntmps, M, noB, w0⟩ : Ctx) [(2, vP b3 0), (3, vP b4 0), (5, vT t_30), (6, vI t_71), (9, vP b69 0), (57, sl Ap01 (t_.Weights) cp01), (58, vI ((((t_.Weights).length : Nat) : Int))), (59, vI (((t_60 : Nat) : Int)))] [(1000, Ob.box b3 [sl Ap01 (t_.Weights) cp01] 24), (1001, Ob.box b4 [vI (t_'.Kind), vT (t_'.Name), vI (t_'.From), vI (t_'.To), sl Ap15 (t_'.Kids) cp15] 31), (2502, Ob.box b69 [vT (x64.Feature), vI (x64.Value)] 50)] [(101, slF RWeight (Ap01) ((t_.Weights).length) (cp01) (t_.Weights)), (102, slF RDeriv (Ap15) ((t_'.Kids).length) (cp15) (t_'.Kids))] a w) ?_ ?_
   ·refine c_dec s rfl (fun hc72 => ?_) (fun hc72 => ?_)
    ·replace hg := br_t hg hc72
     obtain ⟨hk73, hg⟩ := chk_some hg
     apply wL
     refine mv s rfl rfl fun a s => ?_
     refine qq s rfl (y_boxField (o' := 1) s rfl underlying50 rfl rfl rfl) fun a s => ?_
     refine qq s rfl (y_loadBox1 (kk := 2502) s rfl rfl rfl underlying3 rfl) fun a s => ?_
     refine qq s rfl (y_add s rfl rfl (in64.2 hk73)) fun a s => ?_
     refine asg s rfl rfl fun a s => ?_
     apply wN
     exact ⟨(t_59 + x64.Value), hg, (s.sb rfl rfl rfl)⟩
    replace hg := br_f hg hc72
    apply wp_skip
    apply pN
    exact ⟨(t_59), hg, (s.sb rfl rfl rfl)⟩
   clear s a; rintro a w ⟨t_71, hg, s⟩
   subst hk70
   apply wQ
   obtain ⟨k74, hg, hk74⟩ := jn_some hg
   refine c_post (fun a w => ∃ (t_75 : Bool), k74 t_75 = some r ∧ St (⟨Tryd.f8.ntmps, M, noB, w0⟩ : Ctx) [(2, vP b3 0), (3, vP b4 0), (5, vT t_30), (6, vI t_71), (9, vP b69 0), (57, sl Ap01 (t_.Weights) cp01), (58, vI ((((t_.Weights).length : Nat) : Int))), (59, vI (((t_60 : Nat) : Int))), (81, .bool (t_75))] [(1000, Ob.box b3 [sl Ap01 (t_.Weights) cp01] 24), (1001, Ob.box b4 [vI (t_'.Kind), vT (t_'.Name), vI (t_'.From), vI (t_'.To), sl Ap15 (t_'.Kids) cp15] 31), (2502, Ob.box b69 [vT (x64.Feature), vI (x64.Value)] 50)] [(101, slF RWeight (Ap01) ((t_.Weights).length) (cp01) (t_.Weights)), (102, slF RDeriv (Ap15) ((t_'.Kids).length) (cp15) (t_'.Kids))] a w) ?_ ?_
   ·rcases Decidable.em ((x64.Feature : List UInt8) = t_30) with hs76 | hs76
    ·have hs76e := decide_eq_true hs76
     replace hg := br_t hg hs76
     apply wL
     refine qq s rfl (y_boxField (o' := 0) s rfl underlying50 rfl rfl rfl) fun a s => ?_
     refine qq s rfl (y_loadBox1 (kk := 2502) s rfl rfl rfl underlying9 rfl) fun a s => ?_
     refine mv s rfl rfl fun a s => ?_
     refine qq s rfl (yl_b (y_seq s rfl rfl) hs76e) fun a s => ?_
     refine mv s rfl rfl fun a s => ?_
     refine gy s rfl (y_boxField (o' := 4) s rfl underlying31 rfl rfl rfl) fun a s => ?_
     refine gy s rfl (y_loadBox1 (kk := 1001) s rfl rfl rfl underlying29 rfl) fun a s => ?_
     refine gy s rfl (y_lenSlice s rfl underlying29) fun a s => ?_
     refine gy s rfl (y_gtrN (i := ((t_'.Kids).length)) (j := 0) s rfl rfl) fun a s => ?_
     refine qq s rfl (y_pick_t s rfl rfl) fun a s => ?_
     apply wN
     exact ⟨(decide ((0 : Nat) < ((t_'.Kids).length))), hg, (s.sb rfl rfl rfl)⟩
    have hs76e := decide_eq_false hs76
    replace hg := br_f hg hs76
    apply wL
    refine qq s rfl (y_boxField (o' := 0) s rfl underlying50 rfl rfl rfl) fun a s => ?_
    refine qq s rfl (y_loadBox1 (kk := 2502) s rfl rfl rfl underlying9 rfl) fun a s => ?_
    refine mv s rfl rfl fun a s => ?_
    refine qq s rfl (yl_b (y_seq s rfl rfl) hs76e) fun a s => ?_
    refine mv s rfl rfl fun a s => ?_
    refine gn s rfl fun a s => ?_
    refine gn s rfl fun a s => ?_
    refine gn s rfl fun a s => ?_
    refine gn s rfl fun a s => ?_
    refine qq s rfl (y_pick_f s rfl rfl) fun a s => ?_
    apply wN
    exact ⟨(false), hg, (s.sb rfl rfl rfl)⟩
   clear s a; rintro a w ⟨t_75, hg, s⟩
   subst hk74
   refine c_cond s rfl (fun hc77 => ?_) (fun hc77 => ?_)
   ·replace hg := br_t hg hc77
    obtain ⟨hk78, hg⟩ := chk_some hg
    apply wL
    refine mv s rfl rfl fun a s => ?_
    refine qq s rfl (y_boxField (o' := 1) s rfl underlying50 rfl rfl rfl) fun a s => ?_
    refine qq s rfl (y_loadBox1 (kk := 2502) s rfl rfl rfl underlying3 rfl) fun a s => ?_
    refine qq s rfl (y_add s rfl rfl (in64.2 hk78)) fun a s => ?_
    refine asg s rfl rfl fun a s => ?_
    apply wO
    refine p_inN ?_
    apply pN
    apply wL
    refine qq s rfl (y_addN (i := t_60) (j := 1) s rfl rfl (in64.2 (by omega))) fun a s => ?_
    refine mv s rfl rfl fun a s => ?_
    apply wN
    exact ⟨m2, Nat.lt_succ_self _, ⟨(t_71 + x64.Value), (t_60 + 1), hg, (s.sb rfl rfl rfl)⟩⟩
   replace hg := br_n hg hc77
   apply wp_skip
   refine p_inN ?_
   apply pN
   apply wL
   refine qq s rfl (y_addN (i := t_60) (j := 1) s rfl rfl (in64.2 (by omega))) fun a s => ?_
   refine mv s rfl rfl fun a s => ?_
   apply wN
   exact ⟨m2, Nat.lt_succ_self _, ⟨(t_71), (t_60 + 1), hg, (s.sb rfl rfl rfl)⟩⟩
  replace hg := br_f hg hc61
  apply wp_exit
  refine p_then ?_
  refine p_then ?_
  refine p_in ?_
  apply pN
  exact ⟨(t_59), hg, (s.sb rfl rfl rfl)⟩
 clear s a; rintro a w ⟨t_58, hg, s⟩
 subst hk57
 apply wQ
 obtain ⟨r79, hr79, hg⟩ := bind_some hg
 rcases Decidable.em (r79 = t_58) with hs82 | hs82
 ·have hs82e := decide_eq_true hs82
  replace hg := br_t hg hs82
  obtain ⟨r83, hr83, hg⟩ := bind_some hg
  apply wL
  refine qq s rfl (y_loadAll (kk := 1000) s rfl rfl underlying24 rfl rfl) fun a s => ?_
  refine qq s rfl (y_loadAll (kk := 1001) s rfl rfl underlying31 rfl rfl) fun a s => ?_
  refine l_seq rfl (l_call (cap := []) s rfl func17 rfl (by kernel_rfl) rfl rfl (c_model_Score n _ _ s.lt t_ (Ap01) (cp01) (s.ft 101 rfl) t_' (Ap15) (cp15) (by omega) (s.ft 102 rfl) r79 hr79) fun v86 a w hK hp s => ?_)
  obtain rfl := hp
  refine mv s rfl rfl fun a s => ?_
  refine qq s rfl (yl_b (y_eql s rfl rfl) hs82e) fun a s => ?_
  refine mv s rfl rfl fun a s => ?_
  refine gl s rfl (l_call (cap := []) s rfl func10 rfl (by kernel_rfl) rfl rfl (c_law37_exampleHolds n _ _ s.lt  r83 hr83) fun v88 a w hK hp s => ?_)
  obtain rfl := hp
  refine qq s rfl (y_pick_t s rfl rfl) fun a s => ?_
  refine asg s rfl rfl fun a s => ?_
  apply wN
  apply wp_ret
  obtain rfl := Option.some.inj hg
  refine fin1 (fn := Tryd.f8) s rfl (r_tmp s rfl) ?_
  exact rfl
 have hs82e := decide_eq_false hs82
 replace hg := br_f hg hs82
 apply wL
 refine qq s rfl (y_loadAll (kk := 1000) s rfl rfl underlying24 rfl rfl) fun a s => ?_
 refine qq s rfl (y_loadAll (kk := 1001) s rfl rfl underlying31 rfl rfl) fun a s => ?_
 refine l_seq rfl (l_call (cap := []) s rfl func17 rfl (by kernel_rfl) rfl rfl (c_model_Score n _ _ s.lt t_ (Ap01) (cp01) (s.ft 101 rfl) t_' (Ap15) (cp15) (by omega) (s.ft 102 rfl) r79 hr79) fun v90 a w hK hp s => ?_)
 obtain rfl := hp
 refine mv s rfl rfl fun a s => ?_
 refine qq s rfl (yl_b (y_eql s rfl rfl) hs82e) fun a s => ?_
 refine mv s rfl rfl fun a s => ?_
 refine gn s rfl fun a s => ?_
 refine qq s rfl (y_pick_f s rfl rfl) fun a s => ?_
 refine asg s rfl rfl fun a s => ?_
 apply wN
 apply wp_ret
 obtain rfl := Option.some.inj hg
 refine fin1 (fn := Tryd.f8) s rfl (r_tmp s rfl) ?_
 exact rfl
end Go.Proofs.YthgdajiipojnoaaDoor

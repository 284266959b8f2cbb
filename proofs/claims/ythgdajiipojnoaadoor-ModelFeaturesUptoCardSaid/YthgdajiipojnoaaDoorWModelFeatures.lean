/- Chapter 37: the walk of ModelFeatures -/
import Derived.Test.YthgdajiipojnoaaDoorW9
import Derived.Test.YthgdajiipojnoaaDoorGl27
namespace Go.Proofs.YthgdajiipojnoaaDoor
open Go.Gl Go.RowKit Tryd
set_option linter.unusedVariables false
set_option linter.unusedSimpArgs false
set_option maxRecDepth 4000

set_option maxHeartbeats 400000 in
theorem c_law37_ModelFeatures (n : Nat) (M : Bs) (w0 : World) (hM : ∀ b, M b → b < w0.heap.size) (d_ : Deriv) (Ap05 : Option Addr) (cp05 : Nat) (lp02 : (d_.Name).length ≤ 9223372036854775807) (hp05 : SlR RDeriv M w0 Ap05 (d_.Kids).length cp05 (d_.Kids)) (r : Bool) (hg : law37_ModelFeatures n d_ = some r) :
    Calls Tryd.prog 4 [.agg #[.int .i64 (d_.Kind), .string (bs (d_.Name)), .int .i64 (d_.From), .int .i64 (d_.To), .slice (Ap05) ((d_.Kids).length) (cp05)]].toArray w0 (Ret noB w0 fun v w => v = .bool (r)) := by
 unfold law37_ModelFeatures at hg
 refine enter M noB func4 rfl rfl hM ?_
 intro a s
 replace s := s.es 101 hp05
 apply wR
 refine l_seq rfl (l_box (zs := [vI (d_.Kind), vT (d_.Name), vI (d_.From), vI (d_.To), sl Ap05 (d_.Kids) cp05]) s 1000 rfl rfl rfl rfl fun b2 a w hb hK s => ?_)
 refine asg s rfl rfl fun a s => ?_
 apply wN
 apply wQ
 apply wQ
 obtain ⟨r3, hr3, hg⟩ := bind_some hg
 apply wL
 refine qq s rfl (y_loadAll (kk := 1000) s rfl rfl underlying31 rfl rfl) fun a s => ?_
 refine l_seq rfl (l_call (cap := []) s rfl func13 rfl (by kernel_rfl) rfl rfl (c_r37_Nodes n _ _ s.lt d_ (Ap05) (cp05) (by omega) (s.ft 101 rfl) 61 r3 hr3) fun v6 a w hK hp s => ?_)
 obtain rfl := hp
 refine qq s rfl (y_gtr s rfl rfl) fun a s => ?_
 apply wN
 refine c_dec s rfl (fun hc8 => ?_) (fun hc8 => ?_)
 ·replace hg := br_t hg hc8
  apply wQ
  obtain ⟨r9, hr9, hg⟩ := bind_some hg
  apply wL
  refine l_seq rfl (l_call (cap := []) s rfl func10 rfl (by kernel_rfl) rfl rfl (c_law37_exampleHolds n _ _ s.lt  r9 hr9) fun v12 a w hK hp s => ?_)
  obtain rfl := hp
  refine asg s rfl rfl fun a s => ?_
  apply wN
  apply wp_ret
  refine p_thenR ?_
  obtain rfl := Option.some.inj hg
  refine fin1 (fn := Tryd.f4) s rfl (r_tmp s rfl) ?_
  exact rfl
 replace hg := br_f hg hc8
 apply wp_skip
 apply pN
 apply wQ
 obtain ⟨r14, hr14, hg⟩ := bind_some hg
 obtain ⟨r17, hr17, hg⟩ := bind_some hg
 refine d_plan s [] [(0, some 1000), (2, some 1000), (1, none), (3, none), (4, none), (5, none)] rfl (by kernel_rfl) (by kernel_rfl) rfl ?_; clear s; intro wr hZ s; have hR := s.wd
 refine qt s hR rfl (y_loadAll (kk := 1000) s rfl rfl underlying31 rfl rfl) fun a s => ?_
 refine qt s hR rfl (y_loadAll (kk := 1000) s rfl rfl underlying31 rfl rfl) fun a s => ?_
 refine l_take s rfl rfl (l_call (cap := []) s rfl func14 rfl (by kernel_rfl) rfl rfl (c_model_Features n _ _ s.lt d_ (Ap05) (cp05) (by omega) (s.ft 101 rfl) r14 hr14) fun v20 a w hK hp s => ?_)
 replace hZ := Nat.le_trans hZ hK.size; refine ⟨fun g _ h => h.grow hK, ?_⟩; clear hK
 obtain ⟨Au21a1, cu21a1, rfl, hu21a1⟩ := hp
 replace s := s.ns 104 hu21a1
 refine l_take s rfl rfl (l_call (cap := []) s rfl func15 rfl (by kernel_rfl) rfl rfl (c_r37_Features n _ _ s.lt d_ (Ap05) (cp05) (by omega) (s.ft 101 rfl) r17 hr17) fun v22 a w hK hp s => ?_)
 replace hZ := Nat.le_trans hZ hK.size; refine ⟨fun g _ h => h.grow hK, ?_⟩; clear hK
 obtain ⟨Au23a1, cu23a1, rfl, hu23a1⟩ := hp
 replace s := s.ns 105 hu23a1
 refine l_take s rfl rfl (l_quiet s rfl rfl (y_assign s rfl) fun a s => ?_); refine ⟨fun g _ h => h, ?_⟩
 refine l_take s rfl rfl (l_quiet s rfl rfl (y_assign s rfl) fun a s => ?_); refine ⟨fun g _ h => h, ?_⟩
 clear hR hZ
 apply pN
 apply wQ
 apply wR
 refine mv s rfl rfl fun a s => ?_
 refine qq s rfl (y_lenSlice s rfl underlying33) fun a s => ?_
 refine mv s rfl rfl fun a s => ?_
 refine qq s rfl (y_lenSlice s rfl underlying33) fun a s => ?_
 refine qq s rfl (y_neqN (i := ((r14).length)) (j := ((r17).length)) s rfl rfl) fun a s => ?_
 apply wN
 refine c_dec s rfl (fun hc24 => ?_) (fun hc24 => ?_)
 ·replace hg := br_t hg hc24
  apply wR
  refine asg s rfl rfl fun a s => ?_
  apply wN
  apply wp_ret
  refine p_thenR ?_
  obtain rfl := Option.some.inj hg
  refine fin1 (fn := Tryd.f4) s rfl (r_tmp s rfl) ?_
  exact rfl
 replace hg := br_f hg hc24
 apply wp_skip
 apply pN
 apply wQ
 apply wR
 refine mv s rfl rfl fun a s => ?_
 refine qq s rfl (y_lenSlice s rfl underlying33) fun a s => ?_
 refine mv s rfl rfl fun a s => ?_
 apply wN
 obtain ⟨k25, hg, hk25⟩ := jn_some hg
 refine c_post (fun a w => k25 = some r ∧ St (⟨Tryd.f4.ntmps, M, noB, w0⟩ : Ctx) [] [] [] a w) ?_ ?_
 ·apply wp_block
  refine c_loop (σ := Nat) (fun m1 a w => ∃ (t_26 : Nat), law37_ModelFeatures_L0 n r14 r17 k25 m1 t_26 = some r ∧ St (⟨Tryd.f4.ntmps, M, noB, w0⟩ : Ctx) [(3, sl Au21a1 (r14) cu21a1), (4, sl Au23a1 (r17) cu23a1), (20, vI ((((r14).length : Nat) : Int))), (21, vI (((t_26 : Nat) : Int)))] [] [(104, slF Rep.str (Au21a1) ((r14).length) (cu21a1) (r14)), (105, slF Rep.str (Au23a1) ((r17).length) (cu23a1) (r17))] a w) (fun m1 => m1) n ⟨(0), hg, (s.sb rfl rfl rfl)⟩ ?_
  clear s a; rintro m1 a w ⟨t_26, hg, s⟩
  rcases m1 with _ | m1
  ·rw [law37_ModelFeatures_L0] at hg; cases hg
  rw [law37_ModelFeatures_L0] at hg
  apply wR
  refine qq s rfl (y_lssN (i := t_26) (j := ((r14).length)) s rfl rfl) fun a s => ?_
  apply wN
  apply wQ
  refine c_dec s rfl (fun hc27 => ?_) (fun hc27 => ?_)
  ·replace hg := br_t hg hc27
   have hmx28 := SlR.mx (s.ft 104 rfl)
   apply wp_skip
   apply pN
   apply wQ
   apply wp_block
   apply wR
   refine mv s rfl rfl fun a s => ?_
   refine asg s rfl rfl fun a s => ?_
   apply wN
   apply wQ
   obtain ⟨x30, hx30, hg⟩ := bind_some hg
   obtain ⟨x33, hx33, hg⟩ := bind_some hg
   refine d_plan s [] [(0, some 0), (1, some 0), (2, some 0), (3, some 0), (4, some 0), (5, some 0), (6, some 0), (7, some 0), (8, some 0)] rfl (by kernel_rfl) (by kernel_rfl) rfl ?_; clear s; intro wr hZ s; have hR := s.wd
   refine qt s hR rfl (y_move s rfl) fun a s => ?_
   refine qt s hR rfl (y_move s rfl) fun a s => ?_
   obtain ⟨p35, hep35, hpp35⟩ := SlR.elemX (s.ft 104 rfl) hx30
   refine qt s hR rfl (y_elem (sz := 1) (i := t_26) s rfl rfl underlying33 rfl hep35 rfl (lt_of_get hx30)) fun a s => ?_
   obtain ⟨hlq36, hmq36, csq36, hdq36, hcq36⟩ := hpp35
   obtain ⟨rfl, lq361⟩ := hdq36
   refine qt s hR rfl (y_ldp1 s rfl hlq36 hmq36 (hcq36 0 _ rfl) underlying9 rfl) fun a s => ?_
   refine qt s hR rfl (y_move s rfl) fun a s => ?_
   refine qt s hR rfl (y_move s rfl) fun a s => ?_
   obtain ⟨p37, hep37, hpp37⟩ := SlR.elemX (s.ft 105 rfl) hx33
   refine qt s hR rfl (y_elem (sz := 1) (i := t_26) s rfl rfl underlying33 rfl hep37 rfl (lt_of_get hx33)) fun a s => ?_
   obtain ⟨hlq38, hmq38, csq38, hdq38, hcq38⟩ := hpp37
   obtain ⟨rfl, lq381⟩ := hdq38
   refine qt s hR rfl (y_ldp1 s rfl hlq38 hmq38 (hcq38 0 _ rfl) underlying9 rfl) fun a s => ?_
   refine qt s hR rfl (y_sne s rfl rfl) fun a s => ?_
   clear hR hZ
   apply pN
   refine c_dec s rfl (fun hc39 => ?_) (fun hc39 => ?_)
   ·replace hg := br_t hg hc39
    apply wR
    refine asg s rfl rfl fun a s => ?_
    apply wN
    apply wp_ret
    refine p_inR ?_
    refine p_thenR ?_
    refine p_thenR ?_
    refine p_inR ?_
    refine p_thenR ?_
    obtain rfl := Option.some.inj hg
    refine fin1 (fn := Tryd.f4) s rfl (r_tmp s rfl) ?_
    exact rfl
   replace hg := br_f hg hc39
   apply wp_skip
   refine p_inN ?_
   apply pN
   apply wL
   refine qq s rfl (y_addN (i := t_26) (j := 1) s rfl rfl (in64.2 (by omega))) fun a s => ?_
   refine mv s rfl rfl fun a s => ?_
   apply wN
   exact ⟨m1, Nat.lt_succ_self _, ⟨(t_26 + 1), hg, (s.sb rfl rfl rfl)⟩⟩
  replace hg := br_f hg hc27
  apply wp_exit
  refine p_then ?_
  refine p_then ?_
  refine p_in ?_
  apply pN
  exact ⟨hg, (s.sb rfl rfl rfl)⟩
 clear s a; rintro a w ⟨hg, s⟩
 subst hk25
 apply wQ
 obtain ⟨r40, hr40, hg⟩ := bind_some hg
 apply wL
 refine l_seq rfl (l_call (cap := []) s rfl func10 rfl (by kernel_rfl) rfl rfl (c_law37_exampleHolds n _ _ s.lt  r40 hr40) fun v43 a w hK hp s => ?_)
 obtain rfl := hp
 refine asg s rfl rfl fun a s => ?_
 apply wN
 apply wp_ret
 obtain rfl := Option.some.inj hg
 refine fin1 (fn := Tryd.f4) s rfl (r_tmp s rfl) ?_
 exact rfl
end Go.Proofs.YthgdajiipojnoaaDoor

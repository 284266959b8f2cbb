/- Chapter 37: the walks, part 9 -/
import Derived.Test.YthgdajiipojnoaaGreatDoorW8
namespace Go.Proofs.YthgdajiipojnoaaGreatDoor
open Go.Gl Go.RowKit Tryz
set_option linter.unusedVariables false
set_option linter.unusedSimpArgs false
set_option maxRecDepth 4000

set_option maxHeartbeats 400000 in
theorem c_r37_set (n : Nat) (M : Bs) (w0 : World) (hM : ∀ b, M b → b < w0.heap.size) (t_ : Model) (Ap01 : Option Addr) (cp01 : Nat) (hp01 : SlR RWeight M w0 Ap01 (t_.Weights).length cp01 (t_.Weights)) (t_' : (List UInt8)) (lp11 : (t_').length ≤ 9223372036854775807) (t_'' : Int) (r : Model) (hg : r37_set n t_ t_' t_'' = some r) :
    Calls Tryz.prog 35 [.agg #[.slice (Ap01) ((t_.Weights).length) (cp01)], .string (bs (t_')), .int .i64 (t_'')].toArray w0 (Ret noB w0 fun v w => ∃ (Aa1 : Option Addr), ∃ (ca1 : Nat), v = .agg #[.slice (Aa1) ((r.Weights).length) (ca1)] ∧ (SlR RWeight M w Aa1 (r.Weights).length ca1 (r.Weights))) := by
 unfold r37_set at hg
 refine enter M noB func35 rfl rfl hM ?_
 intro a s
 replace s := s.es 101 hp01
 apply wR
 refine l_seq rfl (l_box (zs := [sl Ap01 (t_.Weights) cp01]) s 1000 rfl rfl rfl rfl fun b3 a w hb hK s => ?_)
 refine l_seq rfl (l_alloc (zs := [.slice (none) (0) (0)]) s 1001 rfl rfl rfl rfl fun b4 a w hb hK s => ?_)
 apply wN
 apply wR
 refine mv s rfl rfl fun a s => ?_
 refine qq s rfl (y_min s rfl rfl) fun a s => ?_
 refine qq s rfl (y_max s rfl rfl) fun a s => ?_
 refine asg s rfl rfl fun a s => ?_
 apply wN
 apply wR
 refine qq s rfl (y_build (parts := []) (ps := []) (cells := #[.slice (none) (0) (0)]) s rfl (by kernel_rfl)) fun a s => ?_
 refine l_seq rfl (l_alloc (zs := [.slice (none) (0) (0)]) s 1201 rfl rfl rfl rfl fun b6 a w hb hK s => ?_)
 refine l_seq rfl (l_store (n := 1) (cs' := [.slice (none) (0) (0)]) s 1201 rfl rfl rfl rfl rfl rfl rfl rfl ?_); clear s; intro w hK s; clear hK
 apply wN
 apply wR
 refine asg s rfl rfl fun a s => ?_
 apply wN
 apply wQ
 apply wR
 refine asg s rfl rfl fun a s => ?_
 apply wN
 obtain ⟨k7, hg, hk7⟩ := jn_some hg
 refine c_post (fun a w => ∃ (t_8 : Bool) (b_9 : (List Weight)) (A10 : Option Addr) (c11 : Nat) (cs12 : List Value), k7 t_8 b_9 = some r ∧ St (⟨Tryz.f35.ntmps, M, noB, w0⟩ : Ctx) [(1, vT (t_')), (2, vI (if -1048576 < if t_'' < 1048576 then t_'' else 1048576 then if t_'' < 1048576 then t_'' else 1048576 else -1048576)), (6, vP b4 0), (7, vP b6 0), (8, .bool (t_8))] [(1001, Ob.box b4 [.slice (none) (0) (0)] 24), (1201, Ob.box b6 [sl A10 (b_9) c11] 24), (700102, Ob.row (A10) ((b_9).length) (c11) 39 2 (cs12))] [(103, rdF RWeight (cs12) (b_9))] a w) ?_ ?_
 ·apply wp_block
  replace s := s.nilRow 700104 39 2 rfl
  replace s := s.add 105 (rdF RWeight [] []) (RdAll.nil _ _ _)
  refine c_loop (σ := Nat) (fun m1 a w => ∃ (t_13 : Bool) (t_14 : Nat) (b_15 : (List Weight)) (A16 : Option Addr) (c17 : Nat) (cs18 : List Value), r37_set_L0 n t_ t_' t_'' k7 m1 t_13 t_14 b_15 = some r ∧ St (⟨Tryz.f35.ntmps, M, noB, w0⟩ : Ctx) [(1, vT (t_')), (2, vI (if -1048576 < if t_'' < 1048576 then t_'' else 1048576 then if t_'' < 1048576 then t_'' else 1048576 else -1048576)), (3, vP b3 0), (6, vP b4 0), (7, vP b6 0), (8, .bool (t_13)), (9, vI (((t_14 : Nat) : Int)))] [(1000, Ob.box b3 [sl Ap01 (t_.Weights) cp01] 24), (1001, Ob.box b4 [.slice (none) (0) (0)] 24), (1201, Ob.box b6 [sl A16 (b_15) c17] 24), (700104, Ob.row (A16) ((b_15).length) (c17) 39 2 (cs18))] [(101, slF RWeight (Ap01) ((t_.Weights).length) (cp01) (t_.Weights)), (105, rdF RWeight (cs18) (b_15))] a w) (fun m1 => m1) n ⟨(false), (0), ([]), (none), (0), ([]), hg, (s.sb rfl rfl rfl)⟩ ?_
  clear s a; rintro m1 a w ⟨t_13, t_14, b_15, A16, c17, cs18, hg, s⟩
  rcases m1 with _ | m1
  ·rw [r37_set_L0] at hg; cases hg
  rw [r37_set_L0] at hg
  apply wQ
  apply wR
  refine mv s rfl rfl fun a s => ?_
  refine qq s rfl (y_boxField (o' := 0) s rfl underlying24 rfl rfl rfl) fun a s => ?_
  refine qq s rfl (y_loadBox1 (kk := 1000) s rfl rfl rfl underlying22 rfl) fun a s => ?_
  refine qq s rfl (y_lenSlice s rfl underlying22) fun a s => ?_
  refine qq s rfl (y_lssN (i := t_14) (j := ((t_.Weights).length)) s rfl rfl) fun a s => ?_
  apply wN
  refine c_dec s rfl (fun hc19 => ?_) (fun hc19 => ?_)
  ·replace hg := br_t hg hc19
   have hmx20 := SlR.mx (s.ft 101 rfl)
   apply wp_skip
   apply pN
   apply wQ
   apply wp_block
   apply wQ
   obtain ⟨x22, hx22, hg⟩ := bind_some hg
   apply wL
   refine qq s rfl (y_boxField (o' := 0) s rfl underlying24 rfl rfl rfl) fun a s => ?_
   refine qq s rfl (y_loadBox1 (kk := 1000) s rfl rfl rfl underlying22 rfl) fun a s => ?_
   refine mv s rfl rfl fun a s => ?_
   obtain ⟨p25, hep25, hpp25⟩ := SlR.elemX (s.ft 101 rfl) hx22
   refine qq s rfl (y_elem (sz := 2) (i := t_14) s rfl rfl underlying22 rfl hep25 rfl (lt_of_get hx22)) fun a s => ?_
   obtain ⟨hlq26, hmq26, csq26, hdq26, hcq26⟩ := hpp25
   obtain ⟨rfl, lq261⟩ := RWeight.open hdq26
   refine qq s rfl (y_ldp s rfl hlq26 hmq26 (by simpa using hcq26) underlying39 rfl rfl) fun a s => ?_
   refine l_seq rfl (l_alloc (zs := [vT ([]), vI 0]) s 1705 rfl rfl rfl rfl fun b27 a w hb hK s => ?_)
   refine l_seq rfl (l_store (n := 2) (cs' := [vT (x22.Feature), vI (x22.Value)]) s 1705 rfl rfl rfl rfl rfl rfl rfl rfl ?_); clear s; intro w hK s; clear hK
   apply wN
   apply wQ
   apply wQ
   obtain ⟨k28, hg, hk28⟩ := jn_some hg
   refine c_post (fun a w => ∃ (t_29 : Bool), k28 t_29 = some r ∧ St (⟨Tryz.f35.ntmps, M, noB, w0⟩ : Ctx) [(1, vT (t_')), (2, vI (if -1048576 < if t_'' < 1048576 then t_'' else 1048576 then if t_'' < 1048576 then t_'' else 1048576 else -1048576)), (3, vP b3 0), (6, vP b4 0), (7, vP b6 0), (8, .bool (t_13)), (9, vI (((t_14 : Nat) : Int))), (10, vP b27 0), (34, .bool (t_29))] [(1000, Ob.box b3 [sl Ap01 (t_.Weights) cp01] 24), (1001, Ob.box b4 [.slice (none) (0) (0)] 24), (1201, Ob.box b6 [sl A16 (b_15) c17] 24), (1705, Ob.box b27 [vT (x22.Feature), vI (x22.Value)] 39), (700104, Ob.row (A16) ((b_15).length) (c17) 39 2 (cs18))] [(101, slF RWeight (Ap01) ((t_.Weights).length) (cp01) (t_.Weights)), (105, rdF RWeight (cs18) (b_15))] a w) ?_ ?_
   ·rcases Bool.eq_false_or_eq_true (!(t_13)) with hs30 | hs30
    ·replace hg := br_t hg hs30
     apply wL
     refine mv s rfl rfl fun a s => ?_
     refine qq s rfl (yl_b (y_not s rfl) hs30) fun a s => ?_
     refine mv s rfl rfl fun a s => ?_
     refine gm s rfl rfl fun a s => ?_
     refine gy s rfl (y_boxField (o' := 0) s rfl underlying39 rfl rfl rfl) fun a s => ?_
     refine gy s rfl (y_loadBox1 (kk := 1705) s rfl rfl rfl underlying9 rfl) fun a s => ?_
     refine gy s rfl (y_sleq s rfl rfl) fun a s => ?_
     refine qq s rfl (y_pick_t s rfl rfl) fun a s => ?_
     apply wN
     exact ⟨((Op.bytesLess t_' x22.Feature) || (t_' == x22.Feature)), hg, (s.sb rfl rfl rfl)⟩
    replace hg := br_n hg hs30
    apply wL
    refine mv s rfl rfl fun a s => ?_
    refine qq s rfl (yl_b (y_not s rfl) hs30) fun a s => ?_
    refine mv s rfl rfl fun a s => ?_
    refine gn s rfl fun a s => ?_
    refine gn s rfl fun a s => ?_
    refine gn s rfl fun a s => ?_
    refine gn s rfl fun a s => ?_
    refine qq s rfl (y_pick_f s rfl rfl) fun a s => ?_
    apply wN
    exact ⟨(false), hg, (s.sb rfl rfl rfl)⟩
   clear s a; rintro a w ⟨t_29, hg, s⟩
   subst hk28
   obtain ⟨k31, hg, hk31⟩ := jn_some hg
   refine c_post (fun a w => ∃ (t_32 : Bool) (b_33 : (List Weight)) (A34 : Option Addr) (c35 : Nat) (cs36 : List Value), k31 t_32 b_33 = some r ∧ St (⟨Tryz.f35.ntmps, M, noB, w0⟩ : Ctx) [(1, vT (t_')), (2, vI (if -1048576 < if t_'' < 1048576 then t_'' else 1048576 then if t_'' < 1048576 then t_'' else 1048576 else -1048576)), (3, vP b3 0), (6, vP b4 0), (7, vP b6 0), (8, .bool (t_32)), (9, vI (((t_14 : Nat) : Int))), (10, vP b27 0)] [(1000, Ob.box b3 [sl Ap01 (t_.Weights) cp01] 24), (1001, Ob.box b4 [.slice (none) (0) (0)] 24), (1201, Ob.box b6 [sl A34 (b_33) c35] 24), (1705, Ob.box b27 [vT (x22.Feature), vI (x22.Value)] 39), (700106, Ob.row (A34) ((b_33).length) (c35) 39 2 (cs36))] [(101, slF RWeight (Ap01) ((t_.Weights).length) (cp01) (t_.Weights)), (107, rdF RWeight (cs36) (b_33))] a w) ?_ ?_
   ·refine c_cond s rfl (fun hc37 => ?_) (fun hc37 => ?_)
    ·replace hg := br_t hg hc37
     apply wR
     refine asg s rfl rfl fun a s => ?_
     apply wN
     apply wR
     refine mv s rfl rfl fun a s => ?_
     refine qq s rfl (y_neq s rfl rfl) fun a s => ?_
     apply wN
     refine c_dec s rfl (fun hc38 => ?_) (fun hc38 => ?_)
     ·replace hg := br_t hg hc38
      obtain ⟨hk40, hg⟩ := chk_some hg
      apply wL
      refine qq s rfl (y_boxField (o' := 0) s rfl underlying24 rfl rfl rfl) fun a s => ?_
      refine qq s rfl (y_loadBox1 (kk := 1201) s rfl rfl rfl underlying22 rfl) fun a s => ?_
      refine mv s rfl rfl fun a s => ?_
      refine mv s rfl rfl fun a s => ?_
      refine qq s rfl (y_build (parts := [(0, .tmp 39), (1, .tmp 40)]) (ps := [(0, vT (t_')), (1, vI (if -1048576 < if t_'' < 1048576 then t_'' else 1048576 then if t_'' < 1048576 then t_'' else 1048576 else -1048576))]) (cells := #[vT (t_'), vI (if -1048576 < if t_'' < 1048576 then t_'' else 1048576 then if t_'' < 1048576 then t_'' else 1048576 else -1048576)]) s rfl (by kernel_rfl)) fun a s => ?_
      refine l_seq rfl (l_buildDense (sz := 2) s 2105 rfl rfl rfl underlying22 rfl rfl rfl rfl rfl rfl rfl fun b43 a w hbb43 hK s => ?_)
      clear hbb43
      replace s := s.add 110 (rdF RWeight (cellsOfL [.agg #[vT (t_'), vI (if -1048576 < if t_'' < 1048576 then t_'' else 1048576 then if t_'' < 1048576 then t_'' else 1048576 else -1048576)]]) ([(Weight.mk t_' (if -1048576 < if t_'' < 1048576 then t_'' else 1048576 then if t_'' < 1048576 then t_'' else 1048576 else -1048576))])) (RdAll.cons (by exact (RWeight.mk' (x := (Weight.mk t_' (if -1048576 < if t_'' < 1048576 then t_'' else 1048576 then if t_'' < 1048576 then t_'' else 1048576 else -1048576))) (by omega))) (RdAll.nil _ _ _))
      have hs45 := row_src (s.wd.holds 2105 _ rfl) (RdAll.one (s.ft 110 rfl))
      refine l_seq rfl (l_append (sz := 2) (by_ := 24) (N := (b_15 ++ [(Weight.mk t_' (if -1048576 < if t_'' < 1048576 then t_'' else 1048576 then if t_'' < 1048576 then t_'' else 1048576 else -1048576))]).length) (ys := cs18 ++ (cellsOfL [.agg #[vT (t_'), vI (if -1048576 < if t_'' < 1048576 then t_'' else 1048576 then if t_'' < 1048576 then t_'' else 1048576 else -1048576)]])) s 700104 rfl rfl rfl underlying22 rfl rfl rfl rfl rfl hs45 (by first | (simp; done) | (simp; omega)) rfl (by have hr := hk40; clear hg; first | omega | (simp only [List.length_append, List.length_cons, List.length_nil] at hr ⊢; omega) | (simp at hr ⊢; omega)) (by have hr := hk40; clear hg; first | omega | (simp only [List.length_append, List.length_cons, List.length_nil] at hr ⊢; omega) | (simp at hr ⊢; omega)) rfl fun Aq44 cq44 a w hA hK s => ?_)
      replace s := s.add 111 (rdF RWeight (cs18 ++ (cellsOfL [.agg #[vT (t_'), vI (if -1048576 < if t_'' < 1048576 then t_'' else 1048576 then if t_'' < 1048576 then t_'' else 1048576 else -1048576)]])) (b_15 ++ [(Weight.mk t_' (if -1048576 < if t_'' < 1048576 then t_'' else 1048576 then if t_'' < 1048576 then t_'' else 1048576 else -1048576))])) (RdAll.append (s.ft 105 rfl) (s.ft 110 rfl))
      refine qq s rfl (y_boxField (o' := 0) s rfl underlying24 rfl rfl rfl) fun a s => ?_
      refine l_seq rfl (l_store (n := 1) (cs' := [sl Aq44 (b_15 ++ [(Weight.mk t_' (if -1048576 < if t_'' < 1048576 then t_'' else 1048576 then if t_'' < 1048576 then t_'' else 1048576 else -1048576))]) cq44]) s 1201 rfl rfl rfl rfl rfl rfl rfl rfl ?_); clear s; intro w hK s; clear hK
      apply wN
      replace s := s.add 107 (rdF RWeight (cs18 ++ (cellsOfL [.agg #[vT (t_'), vI (if -1048576 < if t_'' < 1048576 then t_'' else 1048576 then if t_'' < 1048576 then t_'' else 1048576 else -1048576)]])) (b_15 ++ [(Weight.mk t_' (if -1048576 < if t_'' < 1048576 then t_'' else 1048576 then if t_'' < 1048576 then t_'' else 1048576 else -1048576))])) (s.ft 111 rfl)
      replace s := s.pk [(1000, 1000), (1001, 1001), (1201, 1201), (1705, 1705), (2105, 2105), (700106, 700104)] (by decide)
      exact ⟨(true), (b_15 ++ [(Weight.mk t_' (if -1048576 < if t_'' < 1048576 then t_'' else 1048576 then if t_'' < 1048576 then t_'' else 1048576 else -1048576))]), (Aq44), (cq44), (cs18 ++ (cellsOfL [.agg #[vT (t_'), vI (if -1048576 < if t_'' < 1048576 then t_'' else 1048576 then if t_'' < 1048576 then t_'' else 1048576 else -1048576)]])), hg, (s.sb rfl rfl rfl)⟩
     replace hg := br_f hg hc38
     apply wp_skip
     apply pN
     replace s := s.al 107 105 rfl
     replace s := s.pk [(1000, 1000), (1001, 1001), (1201, 1201), (1705, 1705), (700106, 700104)] (by decide)
     exact ⟨(true), (b_15), (A16), (c17), (cs18), hg, (s.sb rfl rfl rfl)⟩
    replace hg := br_n hg hc37
    apply wp_skip
    apply pN
    replace s := s.al 107 105 rfl
    replace s := s.pk [(1000, 1000), (1001, 1001), (1201, 1201), (1705, 1705), (700106, 700104)] (by decide)
    exact ⟨(t_13), (b_15), (A16), (c17), (cs18), hg, (s.sb rfl rfl rfl)⟩
   clear s a; rintro a w ⟨t_32, b_33, A34, c35, cs36, hg, s⟩
   subst hk31
   apply wR
   refine qq s rfl (y_boxField (o' := 0) s rfl underlying39 rfl rfl rfl) fun a s => ?_
   refine qq s rfl (y_loadBox1 (kk := 1705) s rfl rfl rfl underlying9 rfl) fun a s => ?_
   refine mv s rfl rfl fun a s => ?_
   refine qq s rfl (y_sne s rfl rfl) fun a s => ?_
   apply wN
   refine c_dec s rfl (fun hc46 => ?_) (fun hc46 => ?_)
   ·replace hg := br_t hg hc46
    obtain ⟨hk48, hg⟩ := chk_some hg
    apply wL
    refine qq s rfl (y_boxField (o' := 0) s rfl underlying24 rfl rfl rfl) fun a s => ?_
    refine qq s rfl (y_loadBox1 (kk := 1201) s rfl rfl rfl underlying22 rfl) fun a s => ?_
    refine qq s rfl (y_loadAll (kk := 1705) s rfl rfl underlying39 rfl rfl) fun a s => ?_
    refine l_seq rfl (l_buildDense (sz := 2) s 2303 rfl rfl rfl underlying22 rfl rfl rfl rfl rfl rfl rfl fun b51 a w hbb51 hK s => ?_)
    clear hbb51
    replace s := s.add 114 (rdF RWeight (cellsOfL [.agg #[vT (x22.Feature), vI (x22.Value)]]) ([x22])) (RdAll.cons (by exact (RWeight.mk' (x := x22) (by omega))) (RdAll.nil _ _ _))
    have hs53 := row_src (s.wd.holds 2303 _ rfl) (RdAll.one (s.ft 114 rfl))
    refine l_seq rfl (l_append (sz := 2) (by_ := 24) (N := (b_33 ++ [x22]).length) (ys := cs36 ++ (cellsOfL [.agg #[vT (x22.Feature), vI (x22.Value)]])) s 700106 rfl rfl rfl underlying22 rfl rfl rfl rfl rfl hs53 (by first | (simp; done) | (simp; omega)) rfl (by have hr := hk48; clear hg; first | omega | (simp only [List.length_append, List.length_cons, List.length_nil] at hr ⊢; omega) | (simp at hr ⊢; omega)) (by have hr := hk48; clear hg; first | omega | (simp only [List.length_append, List.length_cons, List.length_nil] at hr ⊢; omega) | (simp at hr ⊢; omega)) rfl fun Aq52 cq52 a w hA hK s => ?_)
    replace s := s.add 115 (rdF RWeight (cs36 ++ (cellsOfL [.agg #[vT (x22.Feature), vI (x22.Value)]])) (b_33 ++ [x22])) (RdAll.append (s.ft 107 rfl) (s.ft 114 rfl))
    refine qq s rfl (y_boxField (o' := 0) s rfl underlying24 rfl rfl rfl) fun a s => ?_
    refine l_seq rfl (l_store (n := 1) (cs' := [sl Aq52 (b_33 ++ [x22]) cq52]) s 1201 rfl rfl rfl rfl rfl rfl rfl rfl ?_); clear s; intro w hK s; clear hK
    apply wO
    refine p_inN ?_
    apply pN
    apply wL
    refine mv s rfl rfl fun a s => ?_
    refine qq s rfl (y_addN (i := t_14) (j := 1) s rfl rfl (in64.2 (by omega))) fun a s => ?_
    refine asg s rfl rfl fun a s => ?_
    apply wN
    replace s := s.add 105 (rdF RWeight (cs36 ++ (cellsOfL [.agg #[vT (x22.Feature), vI (x22.Value)]])) (b_33 ++ [x22])) (s.ft 115 rfl)
    replace s := s.pk [(1000, 1000), (1001, 1001), (1201, 1201), (1705, 1705), (2303, 2303), (700104, 700106)] (by decide)
    exact ⟨m1, Nat.lt_succ_self _, ⟨(t_32), (t_14 + 1), (b_33 ++ [x22]), (Aq52), (cq52), (cs36 ++ (cellsOfL [.agg #[vT (x22.Feature), vI (x22.Value)]])), hg, (s.sb rfl rfl rfl)⟩⟩
   replace hg := br_f hg hc46
   apply wp_skip
   refine p_inN ?_
   apply pN
   apply wL
   refine mv s rfl rfl fun a s => ?_
   refine qq s rfl (y_addN (i := t_14) (j := 1) s rfl rfl (in64.2 (by omega))) fun a s => ?_
   refine asg s rfl rfl fun a s => ?_
   apply wN
   replace s := s.al 105 107 rfl
   replace s := s.pk [(1000, 1000), (1001, 1001), (1201, 1201), (1705, 1705), (700104, 700106)] (by decide)
   exact ⟨m1, Nat.lt_succ_self _, ⟨(t_32), (t_14 + 1), (b_33), (A34), (c35), (cs36), hg, (s.sb rfl rfl rfl)⟩⟩
  replace hg := br_f hg hc19
  apply wp_exit
  refine p_then ?_
  refine p_then ?_
  refine p_in ?_
  apply pN
  replace s := s.al 103 105 rfl
  replace s := s.pk [(1000, 1000), (1001, 1001), (1201, 1201), (700102, 700104)] (by decide)
  exact ⟨(t_13), (b_15), (A16), (c17), (cs18), hg, (s.sb rfl rfl rfl)⟩
 clear s a; rintro a w ⟨t_8, b_9, A10, c11, cs12, hg, s⟩
 subst hk7
 apply wQ
 apply wQ
 obtain ⟨k54, hg, hk54⟩ := jn_some hg
 refine c_post (fun a w => ∃ (t_55 : Bool), k54 t_55 = some r ∧ St (⟨Tryz.f35.ntmps, M, noB, w0⟩ : Ctx) [(1, vT (t_')), (2, vI (if -1048576 < if t_'' < 1048576 then t_'' else 1048576 then if t_'' < 1048576 then t_'' else 1048576 else -1048576)), (6, vP b4 0), (7, vP b6 0), (60, .bool (t_55))] [(1001, Ob.box b4 [.slice (none) (0) (0)] 24), (1201, Ob.box b6 [sl A10 (b_9) c11] 24), (700102, Ob.row (A10) ((b_9).length) (c11) 39 2 (cs12))] [(103, rdF RWeight (cs12) (b_9))] a w) ?_ ?_
 ·rcases Bool.eq_false_or_eq_true (!(t_8)) with hs56 | hs56
  ·replace hg := br_t hg hs56
   apply wL
   refine mv s rfl rfl fun a s => ?_
   refine qq s rfl (yl_b (y_not s rfl) hs56) fun a s => ?_
   refine mv s rfl rfl fun a s => ?_
   refine gm s rfl rfl fun a s => ?_
   refine gy s rfl (y_neq s rfl rfl) fun a s => ?_
   refine qq s rfl (y_pick_t s rfl rfl) fun a s => ?_
   apply wN
   exact ⟨(decide ((if -1048576 < if t_'' < 1048576 then t_'' else 1048576 then if t_'' < 1048576 then t_'' else 1048576 else -1048576) ≠ 0)), hg, (s.sb rfl rfl rfl)⟩
  replace hg := br_n hg hs56
  apply wL
  refine mv s rfl rfl fun a s => ?_
  refine qq s rfl (yl_b (y_not s rfl) hs56) fun a s => ?_
  refine mv s rfl rfl fun a s => ?_
  refine gn s rfl fun a s => ?_
  refine gn s rfl fun a s => ?_
  refine qq s rfl (y_pick_f s rfl rfl) fun a s => ?_
  apply wN
  exact ⟨(false), hg, (s.sb rfl rfl rfl)⟩
 clear s a; rintro a w ⟨t_55, hg, s⟩
 subst hk54
 obtain ⟨k57, hg, hk57⟩ := jn_some hg
 refine c_post (fun a w => ∃ (b_58 : (List Weight)) (A59 : Option Addr) (c60 : Nat) (cs61 : List Value), k57 b_58 = some r ∧ St (⟨Tryz.f35.ntmps, M, noB, w0⟩ : Ctx) [(6, vP b4 0), (7, vP b6 0)] [(1001, Ob.box b4 [.slice (none) (0) (0)] 24), (1201, Ob.box b6 [sl A59 (b_58) c60] 24), (700116, Ob.row (A59) ((b_58).length) (c60) 39 2 (cs61))] [(117, rdF RWeight (cs61) (b_58))] a w) ?_ ?_
 ·refine c_cond s rfl (fun hc62 => ?_) (fun hc62 => ?_)
  ·replace hg := br_t hg hc62
   obtain ⟨hk64, hg⟩ := chk_some hg
   apply wL
   refine qq s rfl (y_boxField (o' := 0) s rfl underlying24 rfl rfl rfl) fun a s => ?_
   refine qq s rfl (y_loadBox1 (kk := 1201) s rfl rfl rfl underlying22 rfl) fun a s => ?_
   refine mv s rfl rfl fun a s => ?_
   refine mv s rfl rfl fun a s => ?_
   refine qq s rfl (y_build (parts := [(0, .tmp 63), (1, .tmp 64)]) (ps := [(0, vT (t_')), (1, vI (if -1048576 < if t_'' < 1048576 then t_'' else 1048576 then if t_'' < 1048576 then t_'' else 1048576 else -1048576))]) (cells := #[vT (t_'), vI (if -1048576 < if t_'' < 1048576 then t_'' else 1048576 then if t_'' < 1048576 then t_'' else 1048576 else -1048576)]) s rfl (by kernel_rfl)) fun a s => ?_
   refine l_seq rfl (l_buildDense (sz := 2) s 2505 rfl rfl rfl underlying22 rfl rfl rfl rfl rfl rfl rfl fun b67 a w hbb67 hK s => ?_)
   clear hbb67
   replace s := s.add 120 (rdF RWeight (cellsOfL [.agg #[vT (t_'), vI (if -1048576 < if t_'' < 1048576 then t_'' else 1048576 then if t_'' < 1048576 then t_'' else 1048576 else -1048576)]]) ([(Weight.mk t_' (if -1048576 < if t_'' < 1048576 then t_'' else 1048576 then if t_'' < 1048576 then t_'' else 1048576 else -1048576))])) (RdAll.cons (by exact (RWeight.mk' (x := (Weight.mk t_' (if -1048576 < if t_'' < 1048576 then t_'' else 1048576 then if t_'' < 1048576 then t_'' else 1048576 else -1048576))) (by omega))) (RdAll.nil _ _ _))
   have hs69 := row_src (s.wd.holds 2505 _ rfl) (RdAll.one (s.ft 120 rfl))
   refine l_seq rfl (l_append (sz := 2) (by_ := 24) (N := (b_9 ++ [(Weight.mk t_' (if -1048576 < if t_'' < 1048576 then t_'' else 1048576 then if t_'' < 1048576 then t_'' else 1048576 else -1048576))]).length) (ys := cs12 ++ (cellsOfL [.agg #[vT (t_'), vI (if -1048576 < if t_'' < 1048576 then t_'' else 1048576 then if t_'' < 1048576 then t_'' else 1048576 else -1048576)]])) s 700102 rfl rfl rfl underlying22 rfl rfl rfl rfl rfl hs69 (by first | (simp; done) | (simp; omega)) rfl (by have hr := hk64; clear hg; first | omega | (simp only [List.length_append, List.length_cons, List.length_nil] at hr ⊢; omega) | (simp at hr ⊢; omega)) (by have hr := hk64; clear hg; first | omega | (simp only [List.length_append, List.length_cons, List.length_nil] at hr ⊢; omega) | (simp at hr ⊢; omega)) rfl fun Aq68 cq68 a w hA hK s => ?_)
   replace s := s.add 121 (rdF RWeight (cs12 ++ (cellsOfL [.agg #[vT (t_'), vI (if -1048576 < if t_'' < 1048576 then t_'' else 1048576 then if t_'' < 1048576 then t_'' else 1048576 else -1048576)]])) (b_9 ++ [(Weight.mk t_' (if -1048576 < if t_'' < 1048576 then t_'' else 1048576 then if t_'' < 1048576 then t_'' else 1048576 else -1048576))])) (RdAll.append (s.ft 103 rfl) (s.ft 120 rfl))
   refine qq s rfl (y_boxField (o' := 0) s rfl underlying24 rfl rfl rfl) fun a s => ?_
   refine l_seq rfl (l_store (n := 1) (cs' := [sl Aq68 (b_9 ++ [(Weight.mk t_' (if -1048576 < if t_'' < 1048576 then t_'' else 1048576 then if t_'' < 1048576 then t_'' else 1048576 else -1048576))]) cq68]) s 1201 rfl rfl rfl rfl rfl rfl rfl rfl ?_); clear s; intro w hK s; clear hK
   apply wN
   replace s := s.add 117 (rdF RWeight (cs12 ++ (cellsOfL [.agg #[vT (t_'), vI (if -1048576 < if t_'' < 1048576 then t_'' else 1048576 then if t_'' < 1048576 then t_'' else 1048576 else -1048576)]])) (b_9 ++ [(Weight.mk t_' (if -1048576 < if t_'' < 1048576 then t_'' else 1048576 then if t_'' < 1048576 then t_'' else 1048576 else -1048576))])) (s.ft 121 rfl)
   replace s := s.pk [(1001, 1001), (1201, 1201), (2505, 2505), (700116, 700102)] (by decide)
   exact ⟨(b_9 ++ [(Weight.mk t_' (if -1048576 < if t_'' < 1048576 then t_'' else 1048576 then if t_'' < 1048576 then t_'' else 1048576 else -1048576))]), (Aq68), (cq68), (cs12 ++ (cellsOfL [.agg #[vT (t_'), vI (if -1048576 < if t_'' < 1048576 then t_'' else 1048576 then if t_'' < 1048576 then t_'' else 1048576 else -1048576)]])), hg, (s.sb rfl rfl rfl)⟩
  replace hg := br_n hg hc62
  apply wp_skip
  apply pN
  replace s := s.al 117 103 rfl
  replace s := s.pk [(1001, 1001), (1201, 1201), (700116, 700102)] (by decide)
  exact ⟨(b_9), (A10), (c11), (cs12), hg, (s.sb rfl rfl rfl)⟩
 clear s a; rintro a w ⟨b_58, A59, c60, cs61, hg, s⟩
 subst hk57
 apply wR
 refine qq s rfl (y_loadAll (kk := 1201) s rfl rfl underlying24 rfl rfl) fun a s => ?_
 refine l_seq rfl (l_store (n := 1) (cs' := [sl A59 (b_58) c60]) s 1001 rfl rfl rfl rfl rfl rfl rfl rfl ?_); clear s; intro w hK s; clear hK
 apply wN
 apply wp_ret
 obtain rfl := Option.some.inj hg
 refine fin1 (fn := Tryz.f35) s rfl (r_cell (kk := 1001) (n := 1) (vs := [sl A59 (b_58) c60]) s rfl rfl underlying24 rfl rfl rfl rfl) ?_
 exact ⟨(A59), (c60), rfl, (s.rowOut (R := RWeight) (kk := 700116) rfl rfl (s.ft 117 rfl))⟩
set_option maxHeartbeats 400000 in
theorem c_r37_count (n : Nat) (M : Bs) (w0 : World) (hM : ∀ b, M b → b < w0.heap.size) (l_ : (List (List UInt8))) (Ap01 : Option Addr) (cp01 : Nat) (hp01 : SlR Rep.str M w0 Ap01 (l_).length cp01 (l_)) (s_ : (List UInt8)) (lp11 : (s_).length ≤ 9223372036854775807) (r : Int) (hg : r37_count n l_ s_ = some r) :
    Calls Tryz.prog 37 [.slice (Ap01) ((l_).length) (cp01), .string (bs (s_))].toArray w0 (Ret noB w0 fun v w => v = .int .i64 (r)) := by
 unfold r37_count at hg
 refine enter M noB func37 rfl rfl hM ?_
 intro a s
 replace s := s.es 101 hp01
 apply wR
 refine asg s rfl rfl fun a s => ?_
 apply wN
 apply wR
 refine asg s rfl rfl fun a s => ?_
 apply wN
 apply wQ
 apply wR
 refine asg s rfl rfl fun a s => ?_
 apply wN
 apply wp_block
 refine c_loop (σ := Nat) (fun m1 a w => ∃ (n_1 : Nat) (i_2 : Nat), r37_count_L0 n l_ s_ m1 n_1 i_2 = some r ∧ St (⟨Tryz.f37.ntmps, M, noB, w0⟩ : Ctx) [(0, sl Ap01 (l_) cp01), (1, vT s_), (5, vI (((n_1 : Nat) : Int))), (6, vI (((i_2 : Nat) : Int)))] [] [(101, slF Rep.str (Ap01) ((l_).length) (cp01) (l_))] a w) (fun m1 => m1) n ⟨(0), (0), hg, (s.sb rfl rfl rfl)⟩ ?_
 clear s a; rintro m1 a w ⟨n_1, i_2, hg, s⟩
 rcases m1 with _ | m1
 ·rw [r37_count_L0] at hg; cases hg
 rw [r37_count_L0] at hg
 apply wQ
 apply wR
 refine mv s rfl rfl fun a s => ?_
 refine mv s rfl rfl fun a s => ?_
 refine qq s rfl (y_lenSlice s rfl underlying44) fun a s => ?_
 refine qq s rfl (y_lssN (i := i_2) (j := ((l_).length)) s rfl rfl) fun a s => ?_
 apply wN
 refine c_dec s rfl (fun hc3 => ?_) (fun hc3 => ?_)
 ·replace hg := br_t hg hc3
  have hmx4 := SlR.mx (s.ft 101 rfl)
  apply wp_skip
  apply pN
  apply wQ
  apply wp_block
  apply wQ
  obtain ⟨x6, hx6, hg⟩ := bind_some hg
  apply wL
  refine mv s rfl rfl fun a s => ?_
  refine mv s rfl rfl fun a s => ?_
  obtain ⟨p8, hep8, hpp8⟩ := SlR.elemX (s.ft 101 rfl) hx6
  refine qq s rfl (y_elem (sz := 1) (i := i_2) s rfl rfl underlying44 rfl hep8 rfl (lt_of_get hx6)) fun a s => ?_
  obtain ⟨hlq9, hmq9, csq9, hdq9, hcq9⟩ := hpp8
  obtain ⟨rfl, lq91⟩ := hdq9
  refine qq s rfl (y_ldp1 s rfl hlq9 hmq9 (hcq9 0 _ rfl) underlying9 rfl) fun a s => ?_
  refine mv s rfl rfl fun a s => ?_
  refine qq s rfl (y_seq s rfl rfl) fun a s => ?_
  apply wN
  refine c_dec s rfl (fun hc10 => ?_) (fun hc10 => ?_)
  ·replace hg := br_t hg hc10
   obtain ⟨hk11, hg⟩ := chk_some hg
   apply wL
   refine mv s rfl rfl fun a s => ?_
   refine qq s rfl (y_addN (i := n_1) (j := 1) s rfl rfl (in64.2 (by omega))) fun a s => ?_
   refine asg s rfl rfl fun a s => ?_
   apply wO
   refine p_inN ?_
   apply pN
   apply wL
   refine mv s rfl rfl fun a s => ?_
   refine qq s rfl (y_addN (i := i_2) (j := 1) s rfl rfl (in64.2 (by omega))) fun a s => ?_
   refine asg s rfl rfl fun a s => ?_
   apply wN
   exact ⟨m1, Nat.lt_succ_self _, ⟨(n_1 + 1), (i_2 + 1), hg, (s.sb rfl rfl rfl)⟩⟩
  replace hg := br_f hg hc10
  apply wp_skip
  refine p_inN ?_
  apply pN
  apply wL
  refine mv s rfl rfl fun a s => ?_
  refine qq s rfl (y_addN (i := i_2) (j := 1) s rfl rfl (in64.2 (by omega))) fun a s => ?_
  refine asg s rfl rfl fun a s => ?_
  apply wN
  exact ⟨m1, Nat.lt_succ_self _, ⟨(n_1), (i_2 + 1), hg, (s.sb rfl rfl rfl)⟩⟩
 replace hg := br_f hg hc3
 apply wp_exit
 refine p_then ?_
 refine p_then ?_
 refine p_in ?_
 apply pN
 apply wR
 refine mv s rfl rfl fun a s => ?_
 refine asg s rfl rfl fun a s => ?_
 apply wN
 apply wp_ret
 obtain rfl := Option.some.inj hg
 refine fin1 (fn := Tryz.f37) s rfl (r_tmp s rfl) ?_
 exact rfl
set_option maxHeartbeats 400000 in
theorem c_r37_learn (n : Nat) (M : Bs) (w0 : World) (hM : ∀ b, M b → b < w0.heap.size) (t_ : Model) (Ap01 : Option Addr) (cp01 : Nat) (hp01 : SlR RWeight M w0 Ap01 (t_.Weights).length cp01 (t_.Weights)) (t_' : Judged) (Ap11 : Option Addr) (cp11 : Nat) (hp11 : SlR RDeriv M w0 Ap11 (t_'.Readings).length cp11 (t_'.Readings)) (r : Model) (hg : r37_learn n t_ t_' = some r) :
    Calls Tryz.prog 19 [.agg #[.slice (Ap01) ((t_.Weights).length) (cp01)], .agg #[.slice (Ap11) ((t_'.Readings).length) (cp11), .int .i64 (t_'.Gold)]].toArray w0 (Ret noB w0 fun v w => ∃ (Aa1 : Option Addr), ∃ (ca1 : Nat), v = .agg #[.slice (Aa1) ((r.Weights).length) (ca1)] ∧ (SlR RWeight M w Aa1 (r.Weights).length ca1 (r.Weights))) := by
 unfold r37_learn at hg
 refine enter M noB func19 rfl rfl hM ?_
 intro a s
 replace s := s.es 101 hp01
 replace s := s.es 102 hp11
 apply wR
 refine l_seq rfl (l_box (zs := [sl Ap01 (t_.Weights) cp01]) s 1000 rfl rfl rfl rfl fun b4 a w hb hK s => ?_)
 refine l_seq rfl (l_box (zs := [sl Ap11 (t_'.Readings) cp11, vI (t_'.Gold)]) s 1001 rfl rfl rfl rfl fun b5 a w hb hK s => ?_)
 refine l_seq rfl (l_alloc (zs := [.slice (none) (0) (0)]) s 1002 rfl rfl rfl rfl fun b6 a w hb hK s => ?_)
 apply wN
 apply wQ
 obtain ⟨k7, hg, hk7⟩ := jn_some hg
 refine c_post (fun a w => ∃ (t_9 : Int) (t_10 : (List UInt8)) (t_11 : Int) (t_12 : Int) (t_13 : (List Deriv)) (b8 : Nat) (A14 : Option Addr) (c15 : Nat), k7 t_9 t_10 t_11 t_12 t_13 = some r ∧ ((t_10).length ≤ 9223372036854775807) ∧ St (⟨Tryz.f19.ntmps, M, noB, w0⟩ : Ctx) [(2, vP b4 0), (3, vP b5 0), (4, vP b6 0), (5, vP b8 0)] [(1000, Ob.box b4 [sl Ap01 (t_.Weights) cp01] 24), (1001, Ob.box b5 [sl Ap11 (t_'.Readings) cp11, vI (t_'.Gold)] 37), (1002, Ob.box b6 [.slice (none) (0) (0)] 24), (1108, Ob.box b8 [vI t_9, vT t_10, vI t_11, vI t_12, sl A14 (t_13) c15] 42)] [(101, slF RWeight (Ap01) ((t_.Weights).length) (cp01) (t_.Weights)), (102, slF RDeriv (Ap11) ((t_'.Readings).length) (cp11) (t_'.Readings)), (103, slF RDeriv (A14) ((t_13).length) (c15) (t_13))] a w) ?_ ?_
 ·obtain ⟨r16, hr16, hg⟩ := bind_some hg
  obtain ⟨x20, hx20, hg⟩ := bind_some hg
  refine d_steps s [] rfl ?_; clear s; intro wr hZ s; have hR := s.wd; have hE := Ext.init hR 0
  refine n_q 0 0 s hR rfl (by kernel_rfl) (by kernel_rfl) (by kernel_rfl) rfl rfl rfl (y_boxField (o' := 0) s rfl underlying37 rfl rfl rfl) fun a s => ?_
  refine n_q 1 1001 s hR rfl (by kernel_rfl) (by kernel_rfl) (by kernel_rfl) rfl rfl rfl (y_loadBox1 (kk := 1001) s rfl rfl rfl underlying35 rfl) fun a s => ?_
  refine n_q 2 1000 s hR rfl (by kernel_rfl) (by kernel_rfl) (by kernel_rfl) rfl rfl rfl (y_loadAll (kk := 1000) s rfl rfl underlying24 rfl rfl) fun a s => ?_
  refine n_q 3 0 s hR rfl (by kernel_rfl) (by kernel_rfl) (by kernel_rfl) rfl rfl rfl (y_boxField (o' := 0) s rfl underlying37 rfl rfl rfl) fun a s => ?_
  refine n_q 4 1001 s hR rfl (by kernel_rfl) (by kernel_rfl) (by kernel_rfl) rfl rfl rfl (y_loadBox1 (kk := 1001) s rfl rfl rfl underlying35 rfl) fun a s => ?_
  refine n_2 5 8 s (by kernel_rfl) rfl rfl rfl rfl ?_ ?_
  ·refine l_call (cap := []) s rfl func32 rfl (by kernel_rfl) rfl rfl (c_r37_Best n _ _ s.lt t_ (Ap01) (cp01) (s.ft 101 rfl) t_'.Readings (Ap11) (cp11) (s.ft 102 rfl) r16 hr16) fun v23 a w hK hp s => ?_
   replace hE := hE.grow hK; replace hZ := Nat.le_trans hZ hK.size; refine ⟨fun g _ h => h.grow hK, ?_⟩; clear hK
   obtain rfl := hp
   obtain ⟨p25, hep25, hpp25⟩ := SlR.elemX (s.ft 102 rfl) (ix_some hx20).1
   refine n_ql 6 s hE rfl (by kernel_rfl) (by kernel_rfl) (by kernel_rfl) rfl rfl rfl (fun w' s => y_elem (sz := 5) (i := ((r16).toNat)) s rfl rfl underlying35 rfl hep25 (ix_some hx20).2.1 (lt_of_get (ix_some hx20).1)) fun a s => ?_
   refine n_2 7 8 s (by kernel_rfl) rfl rfl rfl rfl ?_ ?_
   ·obtain ⟨hlq26, hmq26, csq26, hdq26, hcq26⟩ := (SlR.again (s.ft 102 rfl) (ix_some hx20).1 hep25)
    obtain ⟨Aq265, cq265, rfl, lq262, hq265⟩ := RDeriv.open hdq26
    replace s := s.ns 105 hq265
    refine l_quiet s rfl rfl (y_ldp s rfl hlq26 hmq26 (by simpa using hcq26) underlying42 rfl rfl) fun a s => ?_; refine ⟨fun g _ h => h, ?_⟩
    refine n_1 8 s (by kernel_rfl) rfl rfl (l_alloc (zs := [vI 0, vT ([]), vI 0, vI 0, .slice (none) (0) (0)]) s 1108 rfl rfl rfl rfl fun b27 a w hb hK s => ?_)
    have hNb27 := Nat.le_trans hZ hb
    replace hE := hE.grow hK; replace hZ := Nat.le_trans hZ hK.size; refine ⟨fun g _ h => h.grow hK, ?_⟩; clear hK
    refine n_1 9 s (by kernel_rfl) rfl rfl (l_store (n := 5) (cs' := [vI (x20.Kind), vT (x20.Name), vI (x20.From), vI (x20.To), sl Aq265 (x20.Kids) cq265]) s 1108 rfl rfl rfl rfl rfl rfl rfl rfl ?_); clear s; intro w hK s; replace hZ := Nat.le_trans hZ hK.size
    refine ⟨fun g _ h => h.app hR hK (fun x e => by cases e; exact hNb27), ?_⟩; clear hK
    refine n_end (by kernel_rfl) ?_; clear hR hZ hE
    apply pN
    replace s := s.al 103 105 rfl
    exact ⟨(x20.Kind), (x20.Name), (x20.From), (x20.To), (x20.Kids), (b27), (Aq265), (cq265), hg, (by omega), (s.sb rfl rfl rfl)⟩
   ·refine l_alloc (zs := [vI 0, vT ([]), vI 0, vI 0, .slice (none) (0) (0)]) s 1108 rfl rfl rfl rfl fun b28 a w hb hK s => ?_
    have hNb28 := Nat.le_trans hZ hb
    replace hE := hE.grow hK; replace hZ := Nat.le_trans hZ hK.size; refine ⟨fun g _ h => h.grow hK, ?_⟩; clear hK
    obtain ⟨hlq29, hmq29, csq29, hdq29, hcq29⟩ := (SlR.again (s.ft 102 rfl) (ix_some hx20).1 hep25)
    obtain ⟨Aq295, cq295, rfl, lq292, hq295⟩ := RDeriv.open hdq29
    replace s := s.ns 106 hq295
    refine n_1 7 s (by kernel_rfl) rfl rfl (l_quiet s rfl rfl (y_ldp s rfl hlq29 hmq29 (by simpa using hcq29) underlying42 rfl rfl) fun a s => ?_); refine ⟨fun g _ h => h, ?_⟩
    refine n_1 9 s (by kernel_rfl) rfl rfl (l_store (n := 5) (cs' := [vI (x20.Kind), vT (x20.Name), vI (x20.From), vI (x20.To), sl Aq295 (x20.Kids) cq295]) s 1108 rfl rfl rfl rfl rfl rfl rfl rfl ?_); clear s; intro w hK s; replace hZ := Nat.le_trans hZ hK.size
    refine ⟨fun g _ h => h.app hR hK (fun x e => by cases e; exact hNb28), ?_⟩; clear hK
    refine n_end (by kernel_rfl) ?_; clear hR hZ hE
    apply pN
    replace s := s.al 103 106 rfl
    exact ⟨(x20.Kind), (x20.Name), (x20.From), (x20.To), (x20.Kids), (b28), (Aq295), (cq295), hg, (by omega), (s.sb rfl rfl rfl)⟩
  ·refine l_alloc (zs := [vI 0, vT ([]), vI 0, vI 0, .slice (none) (0) (0)]) s 1108 rfl rfl rfl rfl fun b30 a w hb hK s => ?_
   have hNb30 := Nat.le_trans hZ hb
   replace hE := hE.grow hK; replace hZ := Nat.le_trans hZ hK.size; refine ⟨fun g _ h => h.grow hK, ?_⟩; clear hK
   refine n_1 5 s (by kernel_rfl) rfl rfl (l_call (cap := []) s rfl func32 rfl (by kernel_rfl) rfl rfl (c_r37_Best n _ _ s.lt t_ (Ap01) (cp01) (s.ft 101 rfl) t_'.Readings (Ap11) (cp11) (s.ft 102 rfl) r16 hr16) fun v31 a w hK hp s => ?_)
   replace hE := hE.grow hK; replace hZ := Nat.le_trans hZ hK.size; refine ⟨fun g _ h => h.grow hK, ?_⟩; clear hK
   obtain rfl := hp
   obtain ⟨p33, hep33, hpp33⟩ := SlR.elemX (s.ft 102 rfl) (ix_some hx20).1
   refine n_1 6 s (by kernel_rfl) rfl rfl (l_quiet s rfl rfl (y_elem (sz := 5) (i := ((r16).toNat)) s rfl rfl underlying35 rfl hep33 (ix_some hx20).2.1 (lt_of_get (ix_some hx20).1)) fun a s => ?_); refine ⟨fun g _ h => h, ?_⟩
   obtain ⟨hlq34, hmq34, csq34, hdq34, hcq34⟩ := (SlR.again (s.ft 102 rfl) (ix_some hx20).1 hep33)
   obtain ⟨Aq345, cq345, rfl, lq342, hq345⟩ := RDeriv.open hdq34
   replace s := s.ns 107 hq345
   refine n_1 7 s (by kernel_rfl) rfl rfl (l_quiet s rfl rfl (y_ldp s rfl hlq34 hmq34 (by simpa using hcq34) underlying42 rfl rfl) fun a s => ?_); refine ⟨fun g _ h => h, ?_⟩
   refine n_1 9 s (by kernel_rfl) rfl rfl (l_store (n := 5) (cs' := [vI (x20.Kind), vT (x20.Name), vI (x20.From), vI (x20.To), sl Aq345 (x20.Kids) cq345]) s 1108 rfl rfl rfl rfl rfl rfl rfl rfl ?_); clear s; intro w hK s; replace hZ := Nat.le_trans hZ hK.size
   refine ⟨fun g _ h => h.app hR hK (fun x e => by cases e; exact hNb30), ?_⟩; clear hK
   refine n_end (by kernel_rfl) ?_; clear hR hZ hE
   apply pN
   replace s := s.al 103 107 rfl
   exact ⟨(x20.Kind), (x20.Name), (x20.From), (x20.To), (x20.Kids), (b30), (Aq345), (cq345), hg, (by omega), (s.sb rfl rfl rfl)⟩
 clear s a; rintro a w ⟨t_9, t_10, t_11, t_12, t_13, b8, A14, c15, hg, lt_10, s⟩
 subst hk7
 apply wQ
 obtain ⟨x36, hx36, hg⟩ := bind_some hg
 apply wL
 refine qq s rfl (y_boxField (o' := 0) s rfl underlying37 rfl rfl rfl) fun a s => ?_
 refine qq s rfl (y_loadBox1 (kk := 1001) s rfl rfl rfl underlying35 rfl) fun a s => ?_
 refine qq s rfl (y_boxField (o' := 1) s rfl underlying37 rfl rfl rfl) fun a s => ?_
 refine qq s rfl (y_loadBox1 (kk := 1001) s rfl rfl rfl underlying3 rfl) fun a s => ?_
 obtain ⟨p39, hep39, hpp39⟩ := SlR.elemX (s.ft 102 rfl) (ix_some hx36).1
 refine qq s rfl (y_elem (sz := 5) (i := ((t_'.Gold).toNat)) s rfl rfl underlying35 rfl hep39 (ix_some hx36).2.1 (lt_of_get (ix_some hx36).1)) fun a s => ?_
 obtain ⟨hlq40, hmq40, csq40, hdq40, hcq40⟩ := hpp39
 obtain ⟨Aq405, cq405, rfl, lq402, hq405⟩ := RDeriv.open hdq40
 replace s := s.ns 109 hq405
 refine qq s rfl (y_ldp s rfl hlq40 hmq40 (by simpa using hcq40) underlying42 rfl rfl) fun a s => ?_
 refine l_seq rfl (l_alloc (zs := [vI 0, vT ([]), vI 0, vI 0, .slice (none) (0) (0)]) s 1206 rfl rfl rfl rfl fun b41 a w hb hK s => ?_)
 refine l_seq rfl (l_store (n := 5) (cs' := [vI (x36.Kind), vT (x36.Name), vI (x36.From), vI (x36.To), sl Aq405 (x36.Kids) cq405]) s 1206 rfl rfl rfl rfl rfl rfl rfl rfl ?_); clear s; intro w hK s; clear hK
 apply wN
 apply wQ
 apply wQ
 obtain ⟨r42, hr42, hg⟩ := bind_some hg
 apply wL
 refine qq s rfl (y_loadAll (kk := 1108) s rfl rfl underlying42 rfl rfl) fun a s => ?_
 refine qq s rfl (y_loadAll (kk := 1206) s rfl rfl underlying42 rfl rfl) fun a s => ?_
 refine l_seq rfl (l_call (cap := []) s rfl func33 rfl (by kernel_rfl) rfl rfl (c_r28_Compare n _ _ s.lt (Deriv.mk t_9 t_10 t_11 t_12 t_13) (A14) (c15) (by omega) (s.ft 103 rfl) x36 (Aq405) (cq405) (by omega) (s.ft 109 rfl) r42 hr42) fun v45 a w hK hp s => ?_)
 obtain rfl := hp
 refine qq s rfl (y_eql s rfl rfl) fun a s => ?_
 apply wN
 refine c_dec s rfl (fun hc47 => ?_) (fun hc47 => ?_)
 ·replace hg := br_t hg hc47
  apply wR
  refine qq s rfl (y_loadAll (kk := 1000) s rfl rfl underlying24 rfl rfl) fun a s => ?_
  refine l_seq rfl (l_store (n := 1) (cs' := [sl Ap01 (t_.Weights) cp01]) s 1002 rfl rfl rfl rfl rfl rfl rfl rfl ?_); clear s; intro w hK s; clear hK
  apply wN
  apply wp_ret
  refine p_thenR ?_
  obtain rfl := Option.some.inj hg
  refine fin1 (fn := Tryz.f19) s rfl (r_cell (kk := 1002) (n := 1) (vs := [sl Ap01 (t_.Weights) cp01]) s rfl rfl underlying24 rfl rfl rfl rfl) ?_
  exact ⟨(Ap01), (cp01), rfl, (s.out (k := 101) rfl)⟩
 replace hg := br_f hg hc47
 apply wp_skip
 apply pN
 apply wQ
 obtain ⟨r48, hr48, hg⟩ := bind_some hg
 apply wL
 refine qq s rfl (y_loadAll (kk := 1206) s rfl rfl underlying42 rfl rfl) fun a s => ?_
 refine l_seq rfl (l_call (cap := []) s rfl func34 rfl (by kernel_rfl) rfl rfl (c_r37_Features n _ _ s.lt x36 (Aq405) (cq405) (by omega) (s.ft 109 rfl) r48 hr48) fun v51 a w hK hp s => ?_)
 obtain ⟨Au52a1, cu52a1, rfl, hu52a1⟩ := hp
 replace s := s.ns 111 hu52a1
 refine asg s rfl rfl fun a s => ?_
 apply wN
 apply wQ
 obtain ⟨r53, hr53, hg⟩ := bind_some hg
 apply wL
 refine qq s rfl (y_loadAll (kk := 1108) s rfl rfl underlying42 rfl rfl) fun a s => ?_
 refine l_seq rfl (l_call (cap := []) s rfl func34 rfl (by kernel_rfl) rfl rfl (c_r37_Features n _ _ s.lt (Deriv.mk t_9 t_10 t_11 t_12 t_13) (A14) (c15) (by omega) (s.ft 103 rfl) r53 hr53) fun v56 a w hK hp s => ?_)
 obtain ⟨Au57a1, cu57a1, rfl, hu57a1⟩ := hp
 replace s := s.ns 113 hu57a1
 refine asg s rfl rfl fun a s => ?_
 apply wN
 apply wR
 refine qq s rfl (y_loadAll (kk := 1000) s rfl rfl underlying24 rfl rfl) fun a s => ?_
 refine l_seq rfl (l_alloc (zs := [.slice (none) (0) (0)]) s 1701 rfl rfl rfl rfl fun b59 a w hb hK s => ?_)
 refine l_seq rfl (l_store (n := 1) (cs' := [sl Ap01 (t_.Weights) cp01]) s 1701 rfl rfl rfl rfl rfl rfl rfl rfl ?_); clear s; intro w hK s; clear hK
 apply wN
 apply wQ
 apply wR
 refine asg s rfl rfl fun a s => ?_
 apply wN
 obtain ⟨k60, hg, hk60⟩ := jn_some hg
 refine c_post (fun a w => ∃ (b_61 : (List Weight)) (A62 : Option Addr) (c63 : Nat), k60 b_61 = some r ∧ St (⟨Tryz.f19.ntmps, M, noB, w0⟩ : Ctx) [(2, vP b4 0), (4, vP b6 0), (7, sl Au52a1 (r48) cu52a1), (8, sl Au57a1 (r53) cu57a1), (9, vP b59 0)] [(1000, Ob.box b4 [sl Ap01 (t_.Weights) cp01] 24), (1002, Ob.box b6 [.slice (none) (0) (0)] 24), (1701, Ob.box b59 [sl A62 (b_61) c63] 24)] [(101, slF RWeight (Ap01) ((t_.Weights).length) (cp01) (t_.Weights)), (111, slF Rep.str (Au52a1) ((r48).length) (cu52a1) (r48)), (113, slF Rep.str (Au57a1) ((r53).length) (cu57a1) (r53)), (114, slF RWeight (A62) ((b_61).length) (c63) (b_61))] a w) ?_ ?_
 ·apply wp_block
  replace s := s.al 115 101 rfl
  refine c_loop (σ := Nat) (fun m1 a w => ∃ (t_64 : Nat) (b_65 : (List Weight)) (A66 : Option Addr) (c67 : Nat), r37_learn_L0 n t_ r48 r53 k60 m1 t_64 b_65 = some r ∧ St (⟨Tryz.f19.ntmps, M, noB, w0⟩ : Ctx) [(2, vP b4 0), (4, vP b6 0), (7, sl Au52a1 (r48) cu52a1), (8, sl Au57a1 (r53) cu57a1), (9, vP b59 0), (10, vI (((t_64 : Nat) : Int)))] [(1000, Ob.box b4 [sl Ap01 (t_.Weights) cp01] 24), (1002, Ob.box b6 [.slice (none) (0) (0)] 24), (1701, Ob.box b59 [sl A66 (b_65) c67] 24)] [(101, slF RWeight (Ap01) ((t_.Weights).length) (cp01) (t_.Weights)), (111, slF Rep.str (Au52a1) ((r48).length) (cu52a1) (r48)), (113, slF Rep.str (Au57a1) ((r53).length) (cu57a1) (r53)), (115, slF RWeight (A66) ((b_65).length) (c67) (b_65))] a w) (fun m1 => m1) n ⟨(0), (t_.Weights), (Ap01), (cp01), hg, (s.sb rfl rfl rfl)⟩ ?_
  clear s a; rintro m1 a w ⟨t_64, b_65, A66, c67, hg, s⟩
  rcases m1 with _ | m1
  ·rw [r37_learn_L0] at hg; cases hg
  rw [r37_learn_L0] at hg
  apply wQ
  apply wR
  refine mv s rfl rfl fun a s => ?_
  refine mv s rfl rfl fun a s => ?_
  refine qq s rfl (y_lenSlice s rfl underlying44) fun a s => ?_
  refine qq s rfl (y_lssN (i := t_64) (j := ((r48).length)) s rfl rfl) fun a s => ?_
  apply wN
  refine c_dec s rfl (fun hc68 => ?_) (fun hc68 => ?_)
  ·replace hg := br_t hg hc68
   have hmx69 := SlR.mx (s.ft 111 rfl)
   apply wp_skip
   apply pN
   apply wQ
   apply wp_block
   obtain ⟨x71, hx71, hg⟩ := bind_some hg
   obtain ⟨r75, hr75, hg⟩ := bind_some hg
   obtain ⟨r80, hr80, hg⟩ := bind_some hg
   obtain ⟨hk83, hg⟩ := chk_some hg
   obtain ⟨r86, hr86, hg⟩ := bind_some hg
   obtain ⟨hk89, hg⟩ := chk_some hg
   obtain ⟨r90, hr90, hg⟩ := bind_some hg
   refine d_steps s [(26, 1701)] rfl ?_; clear s; intro wr hZ s; have hR := s.wd; have hE := Ext.init hR 0
   refine n_q 0 1701 s hR rfl (by kernel_rfl) (by kernel_rfl) (by kernel_rfl) rfl rfl rfl (y_loadAll (kk := 1701) s rfl rfl underlying24 rfl rfl) fun a s => ?_
   refine n_q 1 0 s hR rfl (by kernel_rfl) (by kernel_rfl) (by kernel_rfl) rfl rfl rfl (y_move s rfl) fun a s => ?_
   refine n_q 2 0 s hR rfl (by kernel_rfl) (by kernel_rfl) (by kernel_rfl) rfl rfl rfl (y_move s rfl) fun a s => ?_
   obtain ⟨p93, hep93, hpp93⟩ := SlR.elemX (s.ft 111 rfl) hx71
   refine n_q 3 0 s hR rfl (by kernel_rfl) (by kernel_rfl) (by kernel_rfl) rfl rfl rfl (y_elem (sz := 1) (i := t_64) s rfl rfl underlying44 rfl hep93 rfl (lt_of_get hx71)) fun a s => ?_
   obtain ⟨hlq94, hmq94, csq94, hdq94, hcq94⟩ := (SlR.again (s.ft 111 rfl) hx71 hep93)
   obtain ⟨rfl, lq941⟩ := hdq94
   refine n_q 4 0 s hR rfl (by kernel_rfl) (by kernel_rfl) (by kernel_rfl) rfl rfl rfl (y_ldp1 s rfl hlq94 hmq94 (hcq94 0 _ rfl) underlying9 rfl) fun a s => ?_
   refine n_q 5 1000 s hR rfl (by kernel_rfl) (by kernel_rfl) (by kernel_rfl) rfl rfl rfl (y_loadAll (kk := 1000) s rfl rfl underlying24 rfl rfl) fun a s => ?_
   refine n_q 6 0 s hR rfl (by kernel_rfl) (by kernel_rfl) (by kernel_rfl) rfl rfl rfl (y_move s rfl) fun a s => ?_
   refine n_q 7 0 s hR rfl (by kernel_rfl) (by kernel_rfl) (by kernel_rfl) rfl rfl rfl (y_move s rfl) fun a s => ?_
   obtain ⟨p95, hep95, hpp95⟩ := SlR.elemX (s.ft 111 rfl) hx71
   refine n_q 8 0 s hR rfl (by kernel_rfl) (by kernel_rfl) (by kernel_rfl) rfl rfl rfl (y_elem (sz := 1) (i := t_64) s rfl rfl underlying44 rfl hep95 rfl (lt_of_get hx71)) fun a s => ?_
   obtain ⟨hlq96, hmq96, csq96, hdq96, hcq96⟩ := (SlR.again (s.ft 111 rfl) hx71 hep95)
   obtain ⟨rfl, lq961⟩ := hdq96
   refine n_q 9 0 s hR rfl (by kernel_rfl) (by kernel_rfl) (by kernel_rfl) rfl rfl rfl (y_ldp1 s rfl hlq96 hmq96 (hcq96 0 _ rfl) underlying9 rfl) fun a s => ?_
   refine n_q 11 0 s hR rfl (by kernel_rfl) (by kernel_rfl) (by kernel_rfl) rfl rfl rfl (y_move s rfl) fun a s => ?_
   refine n_q 12 0 s hR rfl (by kernel_rfl) (by kernel_rfl) (by kernel_rfl) rfl rfl rfl (y_move s rfl) fun a s => ?_
   refine n_q 13 0 s hR rfl (by kernel_rfl) (by kernel_rfl) (by kernel_rfl) rfl rfl rfl (y_move s rfl) fun a s => ?_
   obtain ⟨p97, hep97, hpp97⟩ := SlR.elemX (s.ft 111 rfl) hx71
   refine n_q 14 0 s hR rfl (by kernel_rfl) (by kernel_rfl) (by kernel_rfl) rfl rfl rfl (y_elem (sz := 1) (i := t_64) s rfl rfl underlying44 rfl hep97 rfl (lt_of_get hx71)) fun a s => ?_
   obtain ⟨hlq98, hmq98, csq98, hdq98, hcq98⟩ := (SlR.again (s.ft 111 rfl) hx71 hep97)
   obtain ⟨rfl, lq981⟩ := hdq98
   refine n_q 15 0 s hR rfl (by kernel_rfl) (by kernel_rfl) (by kernel_rfl) rfl rfl rfl (y_ldp1 s rfl hlq98 hmq98 (hcq98 0 _ rfl) underlying9 rfl) fun a s => ?_
   refine n_q 18 0 s hR rfl (by kernel_rfl) (by kernel_rfl) (by kernel_rfl) rfl rfl rfl (y_move s rfl) fun a s => ?_
   refine n_q 19 0 s hR rfl (by kernel_rfl) (by kernel_rfl) (by kernel_rfl) rfl rfl rfl (y_move s rfl) fun a s => ?_
   refine n_q 20 0 s hR rfl (by kernel_rfl) (by kernel_rfl) (by kernel_rfl) rfl rfl rfl (y_move s rfl) fun a s => ?_
   obtain ⟨p99, hep99, hpp99⟩ := SlR.elemX (s.ft 111 rfl) hx71
   refine n_q 21 0 s hR rfl (by kernel_rfl) (by kernel_rfl) (by kernel_rfl) rfl rfl rfl (y_elem (sz := 1) (i := t_64) s rfl rfl underlying44 rfl hep99 rfl (lt_of_get hx71)) fun a s => ?_
   obtain ⟨hlq100, hmq100, csq100, hdq100, hcq100⟩ := (SlR.again (s.ft 111 rfl) hx71 hep99)
   obtain ⟨rfl, lq1001⟩ := hdq100
   refine n_q 22 0 s hR rfl (by kernel_rfl) (by kernel_rfl) (by kernel_rfl) rfl rfl rfl (y_ldp1 s rfl hlq100 hmq100 (hcq100 0 _ rfl) underlying9 rfl) fun a s => ?_
   refine n_1 10 s (by kernel_rfl) rfl rfl (l_call (cap := []) s rfl func36 rfl (by kernel_rfl) rfl rfl (c_r37_weight n _ _ s.lt t_ (Ap01) (cp01) (s.ft 101 rfl) x71 (by omega) r75 hr75) fun v101 a w hK hp s => ?_)
   replace hE := hE.grow hK; replace hZ := Nat.le_trans hZ hK.size; refine ⟨fun g _ h => h.grow hK, ?_⟩; clear hK
   obtain rfl := hp
   refine n_1 16 s (by kernel_rfl) rfl rfl (l_call (cap := []) s rfl func37 rfl (by kernel_rfl) rfl rfl (c_r37_count n _ _ s.lt r48 (Au52a1) (cu52a1) (s.ft 111 rfl) x71 (by omega) r80 hr80) fun v103 a w hK hp s => ?_)
   replace hE := hE.grow hK; replace hZ := Nat.le_trans hZ hK.size; refine ⟨fun g _ h => h.grow hK, ?_⟩; clear hK
   obtain rfl := hp
   refine n_ql 17 s hE rfl (by kernel_rfl) (by kernel_rfl) (by kernel_rfl) rfl rfl rfl (fun w' s => y_add s rfl rfl (in64.2 hk83)) fun a s => ?_
   refine n_1 23 s (by kernel_rfl) rfl rfl (l_call (cap := []) s rfl func37 rfl (by kernel_rfl) rfl rfl (c_r37_count n _ _ s.lt r53 (Au57a1) (cu57a1) (s.ft 113 rfl) x71 (by omega) r86 hr86) fun v105 a w hK hp s => ?_)
   replace hE := hE.grow hK; replace hZ := Nat.le_trans hZ hK.size; refine ⟨fun g _ h => h.grow hK, ?_⟩; clear hK
   obtain rfl := hp
   refine n_1 24 s (by kernel_rfl) rfl rfl (l_quiet s rfl rfl (y_sub s rfl rfl (in64.2 hk89)) fun a s => ?_); refine ⟨fun g _ h => h, ?_⟩
   refine n_1 25 s (by kernel_rfl) rfl rfl (l_call (cap := []) s rfl func35 rfl (by kernel_rfl) rfl rfl (c_r37_set n _ _ s.lt (Model.mk b_65) (A66) (c67) (s.ft 115 rfl) x71 (by omega) ((r75 + r80) - r86) r90 hr90) fun v107 a w hK hp s => ?_)
   replace hE := hE.grow hK; replace hZ := Nat.le_trans hZ hK.size; refine ⟨fun g _ h => h.grow hK, ?_⟩; clear hK
   obtain ⟨Au108a1, cu108a1, rfl, hu108a1⟩ := hp
   replace s := s.ns 117 hu108a1
   refine n_1 26 s (by kernel_rfl) rfl rfl (l_store (n := 1) (cs' := [sl Au108a1 (r90.Weights) cu108a1]) s 1701 rfl rfl rfl rfl rfl rfl rfl rfl ?_); clear s; intro w hK s; replace hZ := Nat.le_trans hZ hK.size
   refine ⟨fun g hg h => h.obj hR (kk := 1701) rfl hK (by rintro rfl; exact absurd hg (by decide)), ?_⟩; clear hK
   refine n_end (by kernel_rfl) ?_; clear hR hZ hE
   refine p_inN ?_
   apply pN
   apply wL
   refine mv s rfl rfl fun a s => ?_
   refine qq s rfl (y_addN (i := t_64) (j := 1) s rfl rfl (in64.2 (by omega))) fun a s => ?_
   refine asg s rfl rfl fun a s => ?_
   apply wN
   replace s := s.al 115 117 rfl
   exact ⟨m1, Nat.lt_succ_self _, ⟨(t_64 + 1), (r90.Weights), (Au108a1), (cu108a1), hg, (s.sb rfl rfl rfl)⟩⟩
  replace hg := br_f hg hc68
  apply wp_exit
  refine p_then ?_
  refine p_then ?_
  refine p_in ?_
  apply pN
  replace s := s.al 114 115 rfl
  exact ⟨(b_65), (A66), (c67), hg, (s.sb rfl rfl rfl)⟩
 clear s a; rintro a w ⟨b_61, A62, c63, hg, s⟩
 subst hk60
 apply wQ
 apply wR
 refine asg s rfl rfl fun a s => ?_
 apply wN
 obtain ⟨k109, hg, hk109⟩ := jn_some hg
 refine c_post (fun a w => ∃ (b_110 : (List Weight)) (A111 : Option Addr) (c112 : Nat), k109 b_110 = some r ∧ St (⟨Tryz.f19.ntmps, M, noB, w0⟩ : Ctx) [(4, vP b6 0), (9, vP b59 0)] [(1002, Ob.box b6 [.slice (none) (0) (0)] 24), (1701, Ob.box b59 [sl A111 (b_110) c112] 24)] [(118, slF RWeight (A111) ((b_110).length) (c112) (b_110))] a w) ?_ ?_
 ·apply wp_block
  replace s := s.al 119 114 rfl
  refine c_loop (σ := Nat) (fun m2 a w => ∃ (t_113 : Nat) (b_114 : (List Weight)) (A115 : Option Addr) (c116 : Nat), r37_learn_L1 n t_ r48 r53 k109 m2 t_113 b_114 = some r ∧ St (⟨Tryz.f19.ntmps, M, noB, w0⟩ : Ctx) [(2, vP b4 0), (4, vP b6 0), (7, sl Au52a1 (r48) cu52a1), (8, sl Au57a1 (r53) cu57a1), (9, vP b59 0), (11, vI (((t_113 : Nat) : Int)))] [(1000, Ob.box b4 [sl Ap01 (t_.Weights) cp01] 24), (1002, Ob.box b6 [.slice (none) (0) (0)] 24), (1701, Ob.box b59 [sl A115 (b_114) c116] 24)] [(101, slF RWeight (Ap01) ((t_.Weights).length) (cp01) (t_.Weights)), (111, slF Rep.str (Au52a1) ((r48).length) (cu52a1) (r48)), (113, slF Rep.str (Au57a1) ((r53).length) (cu57a1) (r53)), (119, slF RWeight (A115) ((b_114).length) (c116) (b_114))] a w) (fun m2 => m2) n ⟨(0), (b_61), (A62), (c63), hg, (s.sb rfl rfl rfl)⟩ ?_
  clear s a; rintro m2 a w ⟨t_113, b_114, A115, c116, hg, s⟩
  rcases m2 with _ | m2
  ·rw [r37_learn_L1] at hg; cases hg
  rw [r37_learn_L1] at hg
  apply wQ
  apply wR
  refine mv s rfl rfl fun a s => ?_
  refine mv s rfl rfl fun a s => ?_
  refine qq s rfl (y_lenSlice s rfl underlying44) fun a s => ?_
  refine qq s rfl (y_lssN (i := t_113) (j := ((r53).length)) s rfl rfl) fun a s => ?_
  apply wN
  refine c_dec s rfl (fun hc117 => ?_) (fun hc117 => ?_)
  ·replace hg := br_t hg hc117
   have hmx118 := SlR.mx (s.ft 113 rfl)
   apply wp_skip
   apply pN
   apply wQ
   apply wp_block
   obtain ⟨x120, hx120, hg⟩ := bind_some hg
   obtain ⟨r124, hr124, hg⟩ := bind_some hg
   obtain ⟨r129, hr129, hg⟩ := bind_some hg
   obtain ⟨hk132, hg⟩ := chk_some hg
   obtain ⟨r135, hr135, hg⟩ := bind_some hg
   obtain ⟨hk138, hg⟩ := chk_some hg
   obtain ⟨r139, hr139, hg⟩ := bind_some hg
   refine d_steps s [(26, 1701)] rfl ?_; clear s; intro wr hZ s; have hR := s.wd; have hE := Ext.init hR 0
   refine n_q 0 1701 s hR rfl (by kernel_rfl) (by kernel_rfl) (by kernel_rfl) rfl rfl rfl (y_loadAll (kk := 1701) s rfl rfl underlying24 rfl rfl) fun a s => ?_
   refine n_q 1 0 s hR rfl (by kernel_rfl) (by kernel_rfl) (by kernel_rfl) rfl rfl rfl (y_move s rfl) fun a s => ?_
   refine n_q 2 0 s hR rfl (by kernel_rfl) (by kernel_rfl) (by kernel_rfl) rfl rfl rfl (y_move s rfl) fun a s => ?_
   obtain ⟨p142, hep142, hpp142⟩ := SlR.elemX (s.ft 113 rfl) hx120
   refine n_q 3 0 s hR rfl (by kernel_rfl) (by kernel_rfl) (by kernel_rfl) rfl rfl rfl (y_elem (sz := 1) (i := t_113) s rfl rfl underlying44 rfl hep142 rfl (lt_of_get hx120)) fun a s => ?_
   obtain ⟨hlq143, hmq143, csq143, hdq143, hcq143⟩ := (SlR.again (s.ft 113 rfl) hx120 hep142)
   obtain ⟨rfl, lq1431⟩ := hdq143
   refine n_q 4 0 s hR rfl (by kernel_rfl) (by kernel_rfl) (by kernel_rfl) rfl rfl rfl (y_ldp1 s rfl hlq143 hmq143 (hcq143 0 _ rfl) underlying9 rfl) fun a s => ?_
   refine n_q 5 1000 s hR rfl (by kernel_rfl) (by kernel_rfl) (by kernel_rfl) rfl rfl rfl (y_loadAll (kk := 1000) s rfl rfl underlying24 rfl rfl) fun a s => ?_
   refine n_q 6 0 s hR rfl (by kernel_rfl) (by kernel_rfl) (by kernel_rfl) rfl rfl rfl (y_move s rfl) fun a s => ?_
   refine n_q 7 0 s hR rfl (by kernel_rfl) (by kernel_rfl) (by kernel_rfl) rfl rfl rfl (y_move s rfl) fun a s => ?_
   obtain ⟨p144, hep144, hpp144⟩ := SlR.elemX (s.ft 113 rfl) hx120
   refine n_q 8 0 s hR rfl (by kernel_rfl) (by kernel_rfl) (by kernel_rfl) rfl rfl rfl (y_elem (sz := 1) (i := t_113) s rfl rfl underlying44 rfl hep144 rfl (lt_of_get hx120)) fun a s => ?_
   obtain ⟨hlq145, hmq145, csq145, hdq145, hcq145⟩ := (SlR.again (s.ft 113 rfl) hx120 hep144)
   obtain ⟨rfl, lq1451⟩ := hdq145
   refine n_q 9 0 s hR rfl (by kernel_rfl) (by kernel_rfl) (by kernel_rfl) rfl rfl rfl (y_ldp1 s rfl hlq145 hmq145 (hcq145 0 _ rfl) underlying9 rfl) fun a s => ?_
   refine n_q 11 0 s hR rfl (by kernel_rfl) (by kernel_rfl) (by kernel_rfl) rfl rfl rfl (y_move s rfl) fun a s => ?_
   refine n_q 12 0 s hR rfl (by kernel_rfl) (by kernel_rfl) (by kernel_rfl) rfl rfl rfl (y_move s rfl) fun a s => ?_
   refine n_q 13 0 s hR rfl (by kernel_rfl) (by kernel_rfl) (by kernel_rfl) rfl rfl rfl (y_move s rfl) fun a s => ?_
   obtain ⟨p146, hep146, hpp146⟩ := SlR.elemX (s.ft 113 rfl) hx120
   refine n_q 14 0 s hR rfl (by kernel_rfl) (by kernel_rfl) (by kernel_rfl) rfl rfl rfl (y_elem (sz := 1) (i := t_113) s rfl rfl underlying44 rfl hep146 rfl (lt_of_get hx120)) fun a s => ?_
   obtain ⟨hlq147, hmq147, csq147, hdq147, hcq147⟩ := (SlR.again (s.ft 113 rfl) hx120 hep146)
   obtain ⟨rfl, lq1471⟩ := hdq147
   refine n_q 15 0 s hR rfl (by kernel_rfl) (by kernel_rfl) (by kernel_rfl) rfl rfl rfl (y_ldp1 s rfl hlq147 hmq147 (hcq147 0 _ rfl) underlying9 rfl) fun a s => ?_
   refine n_q 18 0 s hR rfl (by kernel_rfl) (by kernel_rfl) (by kernel_rfl) rfl rfl rfl (y_move s rfl) fun a s => ?_
   refine n_q 19 0 s hR rfl (by kernel_rfl) (by kernel_rfl) (by kernel_rfl) rfl rfl rfl (y_move s rfl) fun a s => ?_
   refine n_q 20 0 s hR rfl (by kernel_rfl) (by kernel_rfl) (by kernel_rfl) rfl rfl rfl (y_move s rfl) fun a s => ?_
   obtain ⟨p148, hep148, hpp148⟩ := SlR.elemX (s.ft 113 rfl) hx120
   refine n_q 21 0 s hR rfl (by kernel_rfl) (by kernel_rfl) (by kernel_rfl) rfl rfl rfl (y_elem (sz := 1) (i := t_113) s rfl rfl underlying44 rfl hep148 rfl (lt_of_get hx120)) fun a s => ?_
   obtain ⟨hlq149, hmq149, csq149, hdq149, hcq149⟩ := (SlR.again (s.ft 113 rfl) hx120 hep148)
   obtain ⟨rfl, lq1491⟩ := hdq149
   refine n_q 22 0 s hR rfl (by kernel_rfl) (by kernel_rfl) (by kernel_rfl) rfl rfl rfl (y_ldp1 s rfl hlq149 hmq149 (hcq149 0 _ rfl) underlying9 rfl) fun a s => ?_
   refine n_1 10 s (by kernel_rfl) rfl rfl (l_call (cap := []) s rfl func36 rfl (by kernel_rfl) rfl rfl (c_r37_weight n _ _ s.lt t_ (Ap01) (cp01) (s.ft 101 rfl) x120 (by omega) r124 hr124) fun v150 a w hK hp s => ?_)
   replace hE := hE.grow hK; replace hZ := Nat.le_trans hZ hK.size; refine ⟨fun g _ h => h.grow hK, ?_⟩; clear hK
   obtain rfl := hp
   refine n_1 16 s (by kernel_rfl) rfl rfl (l_call (cap := []) s rfl func37 rfl (by kernel_rfl) rfl rfl (c_r37_count n _ _ s.lt r48 (Au52a1) (cu52a1) (s.ft 111 rfl) x120 (by omega) r129 hr129) fun v152 a w hK hp s => ?_)
   replace hE := hE.grow hK; replace hZ := Nat.le_trans hZ hK.size; refine ⟨fun g _ h => h.grow hK, ?_⟩; clear hK
   obtain rfl := hp
   refine n_ql 17 s hE rfl (by kernel_rfl) (by kernel_rfl) (by kernel_rfl) rfl rfl rfl (fun w' s => y_add s rfl rfl (in64.2 hk132)) fun a s => ?_
   refine n_1 23 s (by kernel_rfl) rfl rfl (l_call (cap := []) s rfl func37 rfl (by kernel_rfl) rfl rfl (c_r37_count n _ _ s.lt r53 (Au57a1) (cu57a1) (s.ft 113 rfl) x120 (by omega) r135 hr135) fun v154 a w hK hp s => ?_)
   replace hE := hE.grow hK; replace hZ := Nat.le_trans hZ hK.size; refine ⟨fun g _ h => h.grow hK, ?_⟩; clear hK
   obtain rfl := hp
   refine n_1 24 s (by kernel_rfl) rfl rfl (l_quiet s rfl rfl (y_sub s rfl rfl (in64.2 hk138)) fun a s => ?_); refine ⟨fun g _ h => h, ?_⟩
   refine n_1 25 s (by kernel_rfl) rfl rfl (l_call (cap := []) s rfl func35 rfl (by kernel_rfl) rfl rfl (c_r37_set n _ _ s.lt (Model.mk b_114) (A115) (c116) (s.ft 119 rfl) x120 (by omega) ((r124 + r129) - r135) r139 hr139) fun v156 a w hK hp s => ?_)
   replace hE := hE.grow hK; replace hZ := Nat.le_trans hZ hK.size; refine ⟨fun g _ h => h.grow hK, ?_⟩; clear hK
   obtain ⟨Au157a1, cu157a1, rfl, hu157a1⟩ := hp
   replace s := s.ns 121 hu157a1
   refine n_1 26 s (by kernel_rfl) rfl rfl (l_store (n := 1) (cs' := [sl Au157a1 (r139.Weights) cu157a1]) s 1701 rfl rfl rfl rfl rfl rfl rfl rfl ?_); clear s; intro w hK s; replace hZ := Nat.le_trans hZ hK.size
   refine ⟨fun g hg h => h.obj hR (kk := 1701) rfl hK (by rintro rfl; exact absurd hg (by decide)), ?_⟩; clear hK
   refine n_end (by kernel_rfl) ?_; clear hR hZ hE
   refine p_inN ?_
   apply pN
   apply wL
   refine mv s rfl rfl fun a s => ?_
   refine qq s rfl (y_addN (i := t_113) (j := 1) s rfl rfl (in64.2 (by omega))) fun a s => ?_
   refine asg s rfl rfl fun a s => ?_
   apply wN
   replace s := s.al 119 121 rfl
   exact ⟨m2, Nat.lt_succ_self _, ⟨(t_113 + 1), (r139.Weights), (Au157a1), (cu157a1), hg, (s.sb rfl rfl rfl)⟩⟩
  replace hg := br_f hg hc117
  apply wp_exit
  refine p_then ?_
  refine p_then ?_
  refine p_in ?_
  apply pN
  replace s := s.al 118 119 rfl
  exact ⟨(b_114), (A115), (c116), hg, (s.sb rfl rfl rfl)⟩
 clear s a; rintro a w ⟨b_110, A111, c112, hg, s⟩
 subst hk109
 apply wR
 refine qq s rfl (y_loadAll (kk := 1701) s rfl rfl underlying24 rfl rfl) fun a s => ?_
 refine l_seq rfl (l_store (n := 1) (cs' := [sl A111 (b_110) c112]) s 1002 rfl rfl rfl rfl rfl rfl rfl rfl ?_); clear s; intro w hK s; clear hK
 apply wN
 apply wp_ret
 obtain rfl := Option.some.inj hg
 refine fin1 (fn := Tryz.f19) s rfl (r_cell (kk := 1002) (n := 1) (vs := [sl A111 (b_110) c112]) s rfl rfl underlying24 rfl rfl rfl rfl) ?_
 exact ⟨(A111), (c112), rfl, (s.out (k := 118) rfl)⟩
end Go.Proofs.YthgdajiipojnoaaGreatDoor

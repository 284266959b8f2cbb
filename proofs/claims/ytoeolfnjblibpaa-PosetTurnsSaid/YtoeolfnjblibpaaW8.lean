/- Chapter 03: the walks, part 8 -/
import Derived.Test.YtoeolfnjblibpaaW7
namespace Go.Proofs.Ytoeolfnjblibpaa
open Go.Gl Go.RowKit Try
set_option linter.unusedVariables false
set_option linter.unusedSimpArgs false
set_option maxRecDepth 4000

set_option maxHeartbeats 400000 in
theorem c_r03_Below (n : Nat) (M : Bs) (w0 : World) (hM : ∀ b, M b → b < w0.heap.size) (t_ : (List TypeDecl)) (Ap01 : Option Addr) (cp01 : Nat) (hp01 : SlR RTypeDecl M w0 Ap01 (t_).length cp01 (t_)) (t_' : (List UInt8)) (lp11 : (t_').length ≤ 9223372036854775807) (r : (List (List UInt8))) (hg : r03_Below n t_ t_' = some r) :
    Calls Try.prog 23 [.slice (Ap01) ((t_).length) (cp01), .string (bs (t_'))].toArray w0 (Ret noB w0 fun v w => ∃ (Aa1 : Option Addr), ∃ (ca1 : Nat), v = .slice (Aa1) ((r).length) (ca1) ∧ (SlR Rep.str M w Aa1 (r).length ca1 (r))) := by
 unfold r03_Below at hg
 refine enter M noB func23 rfl rfl hM ?_
 intro a s
 replace s := s.es 101 hp01
 apply wR
 refine asg s rfl rfl fun a s => ?_
 apply wN
 apply wQ
 apply wQ
 obtain ⟨r1, hr1, hg⟩ := bind_some hg
 apply wL
 refine mv s rfl rfl fun a s => ?_
 refine mv s rfl rfl fun a s => ?_
 refine l_seq rfl (l_call (cap := []) s rfl func42 rfl (by kernel_rfl) rfl rfl (c_r03_find n _ _ s.lt t_ (Ap01) (cp01) (s.ft 101 rfl) t_' (by omega) r1 hr1) fun v4 a w hK hp s => ?_)
 obtain rfl := hp
 refine qq s rfl (y_lss s rfl rfl) fun a s => ?_
 apply wN
 refine c_dec s rfl (fun hc6 => ?_) (fun hc6 => ?_)
 ·replace hg := br_t hg hc6
  apply wR
  refine asg s rfl rfl fun a s => ?_
  apply wN
  apply wp_ret
  refine p_thenR ?_
  obtain rfl := Option.some.inj hg
  refine fin1 (fn := Try.f23) s rfl (r_tmp s rfl) ?_
  exact ⟨(none), (0), rfl, (SlR.nil_ _ _ _)⟩
 replace hg := br_f hg hc6
 apply wp_skip
 apply pN
 apply wR
 refine mv s rfl rfl fun a s => ?_
 refine l_seq rfl (l_buildDense (sz := 1) s 1301 rfl rfl rfl underlying27 rfl rfl rfl rfl rfl rfl rfl fun b8 a w hbb8 hK s => ?_)
 clear hbb8
 refine asg s rfl rfl fun a s => ?_
 apply wN
 apply wQ
 apply wR
 refine asg s rfl rfl fun a s => ?_
 apply wN
 obtain ⟨k9, hg, hk9⟩ := jn_some hg
 refine c_post (fun a w => ∃ (t_10 : (List (List UInt8))) (A11 : Option Addr) (c12 : Nat) (cs13 : List Value), k9 t_10 = some r ∧ St (⟨Try.f23.ntmps, M, noB, w0⟩ : Ctx) [(5, sl A11 (t_10) c12)] [(700102, Ob.row (A11) ((t_10).length) (c12) 9 1 (cs13))] [(103, rdF Rep.str (cs13) (t_10))] a w) ?_ ?_
 ·apply wp_block
  replace s := s.add 106 (rdF Rep.str (cellsOfL [vT (t_')]) ([t_'])) (RdAll.cons (by exact ⟨rfl, (by omega)⟩) (RdAll.nil _ _ _))
  replace s := s.al 105 106 rfl
  replace s := s.pk [(700104, 1301)] (by decide)
  refine c_loop (σ := Nat) (fun m1 a w => ∃ (t_14 : (List (List UInt8))) (t_18 : Nat) (A15 : Option Addr) (c16 : Nat) (cs17 : List Value), r03_Below_L0 n t_ k9 m1 t_14 t_18 = some r ∧ St (⟨Try.f23.ntmps, M, noB, w0⟩ : Ctx) [(0, sl Ap01 (t_) cp01), (5, sl A15 (t_14) c16), (6, vI (((t_18 : Nat) : Int)))] [(700104, Ob.row (A15) ((t_14).length) (c16) 9 1 (cs17))] [(101, slF RTypeDecl (Ap01) ((t_).length) (cp01) (t_)), (105, rdF Rep.str (cs17) (t_14))] a w) (fun m1 => m1) n ⟨([t_']), (0), (some ⟨b8, 0, none⟩), (1), (cellsOfL [vT (t_')]), hg, (s.sb rfl rfl rfl)⟩ ?_
  clear s a; rintro m1 a w ⟨t_14, t_18, A15, c16, cs17, hg, s⟩
  rcases m1 with _ | m1
  ·rw [r03_Below_L0] at hg; cases hg
  rw [r03_Below_L0] at hg
  apply wQ
  apply wR
  refine mv s rfl rfl fun a s => ?_
  refine mv s rfl rfl fun a s => ?_
  refine qq s rfl (y_lenSlice s rfl underlying27) fun a s => ?_
  refine qq s rfl (y_lssN (i := t_18) (j := ((t_14).length)) s rfl rfl) fun a s => ?_
  apply wN
  refine c_dec s rfl (fun hc19 => ?_) (fun hc19 => ?_)
  ·replace hg := br_t hg hc19
   have hmx20 := row_mx (s.wd.holds 700104 _ rfl)
   apply wp_skip
   apply pN
   apply wQ
   obtain ⟨k21, hg, hk21⟩ := jn_some hg
   refine c_post (fun a w => ∃ (t_22 : (List (List UInt8))) (A23 : Option Addr) (c24 : Nat) (cs25 : List Value), k21 t_22 = some r ∧ St (⟨Try.f23.ntmps, M, noB, w0⟩ : Ctx) [(0, sl Ap01 (t_) cp01), (5, sl A23 (t_22) c24), (6, vI (((t_18 : Nat) : Int)))] [(700107, Ob.row (A23) ((t_22).length) (c24) 9 1 (cs25))] [(101, slF RTypeDecl (Ap01) ((t_).length) (cp01) (t_)), (108, rdF Rep.str (cs25) (t_22))] a w) ?_ ?_
   ·apply wp_block
    apply wR
    refine asg s rfl rfl fun a s => ?_
    apply wN
    apply wp_block
    replace s := s.al 110 105 rfl
    replace s := s.pk [(700109, 700104)] (by decide)
    refine c_loop (σ := Nat) (fun m2 a w => ∃ (t_26 : (List (List UInt8))) (t_30 : Nat) (A27 : Option Addr) (c28 : Nat) (cs29 : List Value), r03_Below_L1 n t_ t_18 k21 m2 t_26 t_30 = some r ∧ St (⟨Try.f23.ntmps, M, noB, w0⟩ : Ctx) [(0, sl Ap01 (t_) cp01), (5, sl A27 (t_26) c28), (6, vI (((t_18 : Nat) : Int))), (7, vI (((t_30 : Nat) : Int)))] [(700109, Ob.row (A27) ((t_26).length) (c28) 9 1 (cs29))] [(101, slF RTypeDecl (Ap01) ((t_).length) (cp01) (t_)), (110, rdF Rep.str (cs29) (t_26))] a w) (fun m2 => m2) n ⟨(t_14), (0), (A15), (c16), (cs17), hg, (s.sb rfl rfl rfl)⟩ ?_
    clear s a; rintro m2 a w ⟨t_26, t_30, A27, c28, cs29, hg, s⟩
    rcases m2 with _ | m2
    ·rw [r03_Below_L1] at hg; cases hg
    rw [r03_Below_L1] at hg
    apply wQ
    apply wR
    refine mv s rfl rfl fun a s => ?_
    refine mv s rfl rfl fun a s => ?_
    refine qq s rfl (y_lenSlice s rfl underlying22) fun a s => ?_
    refine qq s rfl (y_lssN (i := t_30) (j := ((t_).length)) s rfl rfl) fun a s => ?_
    apply wN
    refine c_dec s rfl (fun hc31 => ?_) (fun hc31 => ?_)
    ·replace hg := br_t hg hc31
     have hmx32 := SlR.mx (s.ft 101 rfl)
     apply wp_skip
     apply pN
     apply wQ
     apply wp_block
     apply wQ
     obtain ⟨k33, hg, hk33⟩ := jn_some hg
     refine c_post (fun a w => ∃ (t_34 : Bool), k33 t_34 = some r ∧ St (⟨Try.f23.ntmps, M, noB, w0⟩ : Ctx) [(0, sl Ap01 (t_) cp01), (5, sl A27 (t_26) c28), (6, vI (((t_18 : Nat) : Int))), (7, vI (((t_30 : Nat) : Int))), (47, .bool (t_34))] [(700109, Ob.row (A27) ((t_26).length) (c28) 9 1 (cs29))] [(101, slF RTypeDecl (Ap01) ((t_).length) (cp01) (t_)), (110, rdF Rep.str (cs29) (t_26))] a w) ?_ ?_
     ·obtain ⟨x36, hx36, hg⟩ := bind_some hg
      obtain ⟨x39, hx39, hg⟩ := bind_some hg
      obtain ⟨r41, hr41, hg⟩ := bind_some hg
      rcases Bool.eq_false_or_eq_true (r41) with hs44 | hs44
      ·replace hg := br_t hg hs44
       obtain ⟨r47, hr47, hg⟩ := bind_some hg
       refine d_steps s [] rfl ?_; clear s; intro wr hZ s; have hR := s.wd; have hE := Ext.init hR 0
       refine n_q 0 0 s hR rfl (by kernel_rfl) (by kernel_rfl) (by kernel_rfl) rfl rfl rfl (y_move s rfl) fun a s => ?_
       refine n_q 1 0 s hR rfl (by kernel_rfl) (by kernel_rfl) (by kernel_rfl) rfl rfl rfl (y_move s rfl) fun a s => ?_
       obtain ⟨p50, hep50, hpp50⟩ := SlR.elemX (s.ft 101 rfl) hx36
       refine n_q 2 0 s hR rfl (by kernel_rfl) (by kernel_rfl) (by kernel_rfl) rfl rfl rfl (y_elem (sz := 3) (i := t_30) s rfl rfl underlying22 rfl hep50 rfl (lt_of_get hx36)) fun a s => ?_
       refine n_q 3 0 s hR rfl (by kernel_rfl) (by kernel_rfl) (by kernel_rfl) rfl rfl rfl (y_ptrField (o' := 1) s rfl underlying40 rfl rfl rfl) fun a s => ?_
       obtain ⟨hlq51, hmq51, csq51, hdq51, hcq51⟩ := hpp50
       obtain ⟨Aq512, cq512, Aq513, cq513, rfl, lq511, hq512, hq513⟩ := RTypeDecl.open hdq51
       replace s := s.ns 116 hq512
       replace s := s.ns 117 hq513
       refine n_q 4 0 s hR rfl (by kernel_rfl) (by kernel_rfl) (by kernel_rfl) rfl rfl rfl (y_ldp1 s rfl hlq51 hmq51 (hcq51 1 _ rfl) underlying27 rfl) fun a s => ?_
       refine n_q 5 0 s hR rfl (by kernel_rfl) (by kernel_rfl) (by kernel_rfl) rfl rfl rfl (y_move s rfl) fun a s => ?_
       refine n_q 6 0 s hR rfl (by kernel_rfl) (by kernel_rfl) (by kernel_rfl) rfl rfl rfl (y_move s rfl) fun a s => ?_
       obtain ⟨hiq52, bq52, hAq52⟩ := SlR.row1 (s.wd.holds 700109 _ rfl) (s.ft 110 rfl) rfl rfl hx39
       refine n_q 7 0 s hR rfl (by kernel_rfl) (by kernel_rfl) (by kernel_rfl) rfl rfl rfl (y_rowIndex (sz := 1) (i := t_18) s rfl rfl underlying27 rfl hAq52 rfl hiq52) fun a s => ?_
       have hz53 := (s.ft 110 rfl).at_ _ _ hx39
       obtain ⟨ez53, lz531⟩ := hz53
       refine n_q 8 700109 s hR rfl (by kernel_rfl) (by kernel_rfl) (by kernel_rfl) rfl rfl rfl (y_loadRow1 (kk := 700109) s rfl rfl hAq52 (take1 ez53) underlying9 rfl) fun a s => ?_
       refine n_1 9 s (by kernel_rfl) rfl rfl (l_call (cap := []) s rfl func28 rfl (by kernel_rfl) rfl rfl (c_r03_Among n _ _ s.lt x36.Supers (Aq512) (cq512) (s.ft 116 rfl) x39 (by omega) r41 hr41) fun v54 a w hK hp s => ?_)
       replace hE := hE.grow hK; replace hZ := Nat.le_trans hZ hK.size; refine ⟨fun g _ h => h.grow hK, ?_⟩; clear hK
       obtain rfl := hp.trans (congrArg Value.bool hs44)
       refine n_1 10 s (by kernel_rfl) rfl rfl (l_quiet s rfl rfl (y_move s rfl) fun a s => ?_); refine ⟨fun g _ h => h, ?_⟩
       refine n_ql 11 s hE rfl (by kernel_rfl) (by kernel_rfl) (by kernel_rfl) rfl ⟨_, _, _, rfl, rfl, rfl, rfl⟩ rfl (fun w' s => y_move s rfl) fun a s => ?_
       refine n_ql 12 s hE rfl (by kernel_rfl) (by kernel_rfl) (by kernel_rfl) rfl ⟨_, _, _, rfl, rfl, rfl, rfl⟩ rfl (fun w' s => y_move s rfl) fun a s => ?_
       refine n_1 13 s (by kernel_rfl) rfl ⟨_, _, _, rfl, rfl, rfl, rfl⟩ (l_quiet s rfl rfl (y_move s rfl) fun a s => ?_); refine ⟨fun g _ h => h, ?_⟩
       obtain ⟨p56, hep56, hpp56⟩ := SlR.elemX (s.ft 101 rfl) hx36
       refine n_1 14 s (by kernel_rfl) rfl ⟨_, _, _, rfl, rfl, rfl, rfl⟩ (l_quiet s rfl rfl (y_elem (sz := 3) (i := t_30) s rfl rfl underlying22 rfl hep56 rfl (lt_of_get hx36)) fun a s => ?_); refine ⟨fun g _ h => h, ?_⟩
       refine n_1 15 s (by kernel_rfl) rfl ⟨_, _, _, rfl, rfl, rfl, rfl⟩ (l_quiet s rfl rfl (y_ptrField (o' := 0) s rfl underlying40 rfl rfl rfl) fun a s => ?_); refine ⟨fun g _ h => h, ?_⟩
       obtain ⟨hlq57, hmq57, csq57, hdq57, hcq57⟩ := hpp56
       obtain ⟨Aq572, cq572, Aq573, cq573, rfl, lq571, hq572, hq573⟩ := RTypeDecl.open hdq57
       replace s := s.ns 118 hq572
       replace s := s.ns 119 hq573
       refine n_1 16 s (by kernel_rfl) rfl ⟨_, _, _, rfl, rfl, rfl, rfl⟩ (l_quiet s rfl rfl (y_ldp1 s rfl hlq57 hmq57 (hcq57 0 _ rfl) underlying9 rfl) fun a s => ?_); refine ⟨fun g _ h => h, ?_⟩
       have hT := s
       replace hT := hT.fz (R := Rep.str) (kk := 700109) [] 120 rfl rfl (hT.ft 110 rfl) rfl
       refine n_1 17 s (by kernel_rfl) rfl ⟨_, _, _, rfl, rfl, rfl, rfl⟩ (l_call (cap := []) s rfl func28 rfl (by kernel_rfl) rfl rfl (c_r03_Among n _ _ hT.lt t_26 (A27) (c28) (hT.ft 120 rfl) x36.Name (by omega) r47 hr47) fun v58 a w hK hp s => ?_)
       replace hE := hE.grow hK; replace hZ := Nat.le_trans hZ hK.size; refine ⟨fun g _ h => h.grow hK, ?_⟩; clear hK
       obtain rfl := hp
       refine n_1 18 s (by kernel_rfl) rfl ⟨_, _, _, rfl, rfl, rfl, rfl⟩ (l_quiet s rfl rfl (y_not s rfl) fun a s => ?_); refine ⟨fun g _ h => h, ?_⟩
       refine n_1 19 s (by kernel_rfl) rfl rfl (l_quiet s rfl rfl (y_pick_t s rfl rfl) fun a s => ?_); refine ⟨fun g _ h => h, ?_⟩
       refine n_end (by kernel_rfl) ?_; clear hR hZ hE
       apply pN
       exact ⟨(!(r47)), hg, (s.sb rfl rfl rfl)⟩
      replace hg := br_n hg hs44
      refine d_steps s [] rfl ?_; clear s; intro wr hZ s; have hR := s.wd; have hE := Ext.init hR 0
      refine n_q 0 0 s hR rfl (by kernel_rfl) (by kernel_rfl) (by kernel_rfl) rfl rfl rfl (y_move s rfl) fun a s => ?_
      refine n_q 1 0 s hR rfl (by kernel_rfl) (by kernel_rfl) (by kernel_rfl) rfl rfl rfl (y_move s rfl) fun a s => ?_
      obtain ⟨p60, hep60, hpp60⟩ := SlR.elemX (s.ft 101 rfl) hx36
      refine n_q 2 0 s hR rfl (by kernel_rfl) (by kernel_rfl) (by kernel_rfl) rfl rfl rfl (y_elem (sz := 3) (i := t_30) s rfl rfl underlying22 rfl hep60 rfl (lt_of_get hx36)) fun a s => ?_
      refine n_q 3 0 s hR rfl (by kernel_rfl) (by kernel_rfl) (by kernel_rfl) rfl rfl rfl (y_ptrField (o' := 1) s rfl underlying40 rfl rfl rfl) fun a s => ?_
      obtain ⟨hlq61, hmq61, csq61, hdq61, hcq61⟩ := hpp60
      obtain ⟨Aq612, cq612, Aq613, cq613, rfl, lq611, hq612, hq613⟩ := RTypeDecl.open hdq61
      replace s := s.ns 121 hq612
      replace s := s.ns 122 hq613
      refine n_q 4 0 s hR rfl (by kernel_rfl) (by kernel_rfl) (by kernel_rfl) rfl rfl rfl (y_ldp1 s rfl hlq61 hmq61 (hcq61 1 _ rfl) underlying27 rfl) fun a s => ?_
      refine n_q 5 0 s hR rfl (by kernel_rfl) (by kernel_rfl) (by kernel_rfl) rfl rfl rfl (y_move s rfl) fun a s => ?_
      refine n_q 6 0 s hR rfl (by kernel_rfl) (by kernel_rfl) (by kernel_rfl) rfl rfl rfl (y_move s rfl) fun a s => ?_
      obtain ⟨hiq62, bq62, hAq62⟩ := SlR.row1 (s.wd.holds 700109 _ rfl) (s.ft 110 rfl) rfl rfl hx39
      refine n_q 7 0 s hR rfl (by kernel_rfl) (by kernel_rfl) (by kernel_rfl) rfl rfl rfl (y_rowIndex (sz := 1) (i := t_18) s rfl rfl underlying27 rfl hAq62 rfl hiq62) fun a s => ?_
      have hz63 := (s.ft 110 rfl).at_ _ _ hx39
      obtain ⟨ez63, lz631⟩ := hz63
      refine n_q 8 700109 s hR rfl (by kernel_rfl) (by kernel_rfl) (by kernel_rfl) rfl rfl rfl (y_loadRow1 (kk := 700109) s rfl rfl hAq62 (take1 ez63) underlying9 rfl) fun a s => ?_
      refine n_1 9 s (by kernel_rfl) rfl rfl (l_call (cap := []) s rfl func28 rfl (by kernel_rfl) rfl rfl (c_r03_Among n _ _ s.lt x36.Supers (Aq612) (cq612) (s.ft 121 rfl) x39 (by omega) r41 hr41) fun v64 a w hK hp s => ?_)
      replace hE := hE.grow hK; replace hZ := Nat.le_trans hZ hK.size; refine ⟨fun g _ h => h.grow hK, ?_⟩; clear hK
      obtain rfl := hp.trans (congrArg Value.bool hs44)
      refine n_1 10 s (by kernel_rfl) rfl rfl (l_quiet s rfl rfl (y_move s rfl) fun a s => ?_); refine ⟨fun g _ h => h, ?_⟩
      refine n_qlpass 11 s hE rfl (by kernel_rfl) (by kernel_rfl) (by kernel_rfl) rfl ⟨_, _, _, rfl, rfl, rfl, rfl⟩ rfl fun a s => ?_
      refine n_qlpass 12 s hE rfl (by kernel_rfl) (by kernel_rfl) (by kernel_rfl) rfl ⟨_, _, _, rfl, rfl, rfl, rfl⟩ rfl fun a s => ?_
      refine n_pass 13 s (by kernel_rfl) rfl ⟨_, _, _, rfl, rfl, rfl, rfl⟩ rfl rfl fun a s => ?_
      refine n_pass 14 s (by kernel_rfl) rfl ⟨_, _, _, rfl, rfl, rfl, rfl⟩ rfl rfl fun a s => ?_
      refine n_pass 15 s (by kernel_rfl) rfl ⟨_, _, _, rfl, rfl, rfl, rfl⟩ rfl rfl fun a s => ?_
      refine n_pass 16 s (by kernel_rfl) rfl ⟨_, _, _, rfl, rfl, rfl, rfl⟩ rfl rfl fun a s => ?_
      refine n_pass 17 s (by kernel_rfl) rfl ⟨_, _, _, rfl, rfl, rfl, rfl⟩ rfl rfl fun a s => ?_
      refine n_pass 18 s (by kernel_rfl) rfl ⟨_, _, _, rfl, rfl, rfl, rfl⟩ rfl rfl fun a s => ?_
      refine n_1 19 s (by kernel_rfl) rfl rfl (l_quiet s rfl rfl (y_pick_f s rfl rfl) fun a s => ?_); refine ⟨fun g _ h => h, ?_⟩
      refine n_end (by kernel_rfl) ?_; clear hR hZ hE
      apply pN
      exact ⟨(false), hg, (s.sb rfl rfl rfl)⟩
     clear s a; rintro a w ⟨t_34, hg, s⟩
     subst hk33
     refine c_cond s rfl (fun hc66 => ?_) (fun hc66 => ?_)
     ·replace hg := br_t hg hc66
      obtain ⟨x68, hx68, hg⟩ := bind_some hg
      obtain ⟨hk71, hg⟩ := chk_some hg
      apply wL
      refine mv s rfl rfl fun a s => ?_
      refine mv s rfl rfl fun a s => ?_
      refine mv s rfl rfl fun a s => ?_
      obtain ⟨p74, hep74, hpp74⟩ := SlR.elemX (s.ft 101 rfl) hx68
      refine qq s rfl (y_elem (sz := 3) (i := t_30) s rfl rfl underlying22 rfl hep74 rfl (lt_of_get hx68)) fun a s => ?_
      refine qq s rfl (y_ptrField (o' := 0) s rfl underlying40 rfl rfl rfl) fun a s => ?_
      obtain ⟨hlq75, hmq75, csq75, hdq75, hcq75⟩ := hpp74
      obtain ⟨Aq752, cq752, Aq753, cq753, rfl, lq751, hq752, hq753⟩ := RTypeDecl.open hdq75
      replace s := s.ns 127 hq752
      replace s := s.ns 128 hq753
      refine qq s rfl (y_ldp1 s rfl hlq75 hmq75 (hcq75 0 _ rfl) underlying9 rfl) fun a s => ?_
      refine l_seq rfl (l_buildDense (sz := 1) s 2106 rfl rfl rfl underlying27 rfl rfl rfl rfl rfl rfl rfl fun b76 a w hbb76 hK s => ?_)
      clear hbb76
      replace s := s.add 129 (rdF Rep.str (cellsOfL [vT (x68.Name)]) ([x68.Name])) (RdAll.cons (by exact ⟨rfl, (by omega)⟩) (RdAll.nil _ _ _))
      have hs78 := row_src (s.wd.holds 2106 _ rfl) (RdAll.one (s.ft 129 rfl))
      refine l_seq rfl (l_append (sz := 1) (by_ := 16) (N := (t_26 ++ [x68.Name]).length) (ys := cs29 ++ (cellsOfL [vT (x68.Name)])) s 700109 rfl rfl rfl underlying27 rfl rfl rfl rfl rfl hs78 (by first | (simp; done) | (simp; omega)) rfl (by have hr := hk71; clear hg; first | omega | (simp only [List.length_append, List.length_cons, List.length_nil] at hr ⊢; omega) | (simp at hr ⊢; omega)) (by have hr := hk71; clear hg; first | omega | (simp only [List.length_append, List.length_cons, List.length_nil] at hr ⊢; omega) | (simp at hr ⊢; omega)) rfl fun Aq77 cq77 a w hA hK s => ?_)
      replace s := s.add 130 (rdF Rep.str (cs29 ++ (cellsOfL [vT (x68.Name)])) (t_26 ++ [x68.Name])) (RdAll.append (s.ft 110 rfl) (s.ft 129 rfl))
      refine asg s rfl rfl fun a s => ?_
      apply wO
      refine p_inN ?_
      apply pN
      apply wL
      refine mv s rfl rfl fun a s => ?_
      refine qq s rfl (y_addN (i := t_30) (j := 1) s rfl rfl (in64.2 (by omega))) fun a s => ?_
      refine asg s rfl rfl fun a s => ?_
      apply wN
      replace s := s.add 110 (rdF Rep.str (cs29 ++ (cellsOfL [vT (x68.Name)])) (t_26 ++ [x68.Name])) (s.ft 130 rfl)
      exact ⟨m2, Nat.lt_succ_self _, ⟨(t_26 ++ [x68.Name]), (t_30 + 1), (Aq77), (cq77), (cs29 ++ (cellsOfL [vT (x68.Name)])), hg, (s.sb rfl rfl rfl)⟩⟩
     replace hg := br_n hg hc66
     apply wp_skip
     refine p_inN ?_
     apply pN
     apply wL
     refine mv s rfl rfl fun a s => ?_
     refine qq s rfl (y_addN (i := t_30) (j := 1) s rfl rfl (in64.2 (by omega))) fun a s => ?_
     refine asg s rfl rfl fun a s => ?_
     apply wN
     replace s := s.al 110 110 rfl
     exact ⟨m2, Nat.lt_succ_self _, ⟨(t_26), (t_30 + 1), (A27), (c28), (cs29), hg, (s.sb rfl rfl rfl)⟩⟩
    replace hg := br_f hg hc31
    apply wp_exit
    refine p_then ?_
    refine p_then ?_
    refine p_in ?_
    refine p_inN ?_
    apply pN
    replace s := s.al 108 110 rfl
    replace s := s.pk [(700107, 700109)] (by decide)
    exact ⟨(t_26), (A27), (c28), (cs29), hg, (s.sb rfl rfl rfl)⟩
   clear s a; rintro a w ⟨t_22, A23, c24, cs25, hg, s⟩
   subst hk21
   apply wL
   refine mv s rfl rfl fun a s => ?_
   refine qq s rfl (y_addN (i := t_18) (j := 1) s rfl rfl (in64.2 (by omega))) fun a s => ?_
   refine asg s rfl rfl fun a s => ?_
   apply wN
   replace s := s.al 105 108 rfl
   replace s := s.pk [(700104, 700107)] (by decide)
   exact ⟨m1, Nat.lt_succ_self _, ⟨(t_22), (t_18 + 1), (A23), (c24), (cs25), hg, (s.sb rfl rfl rfl)⟩⟩
  replace hg := br_f hg hc19
  apply wp_exit
  refine p_then ?_
  refine p_then ?_
  refine p_in ?_
  apply pN
  replace s := s.al 103 105 rfl
  replace s := s.pk [(700102, 700104)] (by decide)
  exact ⟨(t_14), (A15), (c16), (cs17), hg, (s.sb rfl rfl rfl)⟩
 clear s a; rintro a w ⟨t_10, A11, c12, cs13, hg, s⟩
 subst hk9
 apply wR
 refine asg s rfl rfl fun a s => ?_
 apply wN
 apply wQ
 apply wR
 refine asg s rfl rfl fun a s => ?_
 apply wN
 apply wp_block
 replace s := s.nilRow 700131 9 1 rfl
 replace s := s.add 132 (rdF Rep.str [] []) (RdAll.nil _ _ _)
 refine c_loop (σ := Nat) (fun m3 a w => ∃ (t_79 : (List (List UInt8))) (t_83 : Nat) (A80 : Option Addr) (c81 : Nat) (cs82 : List Value), r03_Below_L2 n t_10 m3 t_79 t_83 = some r ∧ St (⟨Try.f23.ntmps, M, noB, w0⟩ : Ctx) [(5, sl A11 (t_10) c12), (8, sl A80 (t_79) c81), (9, vI (((t_83 : Nat) : Int)))] [(700102, Ob.row (A11) ((t_10).length) (c12) 9 1 (cs13)), (700131, Ob.row (A80) ((t_79).length) (c81) 9 1 (cs82))] [(103, rdF Rep.str (cs13) (t_10)), (132, rdF Rep.str (cs82) (t_79))] a w) (fun m3 => m3) n ⟨([]), (0), (none), (0), ([]), hg, (s.sb rfl rfl rfl)⟩ ?_
 clear s a; rintro m3 a w ⟨t_79, t_83, A80, c81, cs82, hg, s⟩
 rcases m3 with _ | m3
 ·rw [r03_Below_L2] at hg; cases hg
 rw [r03_Below_L2] at hg
 apply wQ
 apply wR
 refine mv s rfl rfl fun a s => ?_
 refine mv s rfl rfl fun a s => ?_
 refine qq s rfl (y_lenSlice s rfl underlying27) fun a s => ?_
 refine qq s rfl (y_lssN (i := t_83) (j := ((t_10).length)) s rfl rfl) fun a s => ?_
 apply wN
 refine c_dec s rfl (fun hc84 => ?_) (fun hc84 => ?_)
 ·replace hg := br_t hg hc84
  have hmx85 := row_mx (s.wd.holds 700102 _ rfl)
  apply wp_skip
  apply pN
  apply wQ
  apply wp_block
  obtain ⟨x87, hx87, hg⟩ := bind_some hg
  obtain ⟨r89, hr89, hg⟩ := bind_some hg
  apply wL
  refine mv s rfl rfl fun a s => ?_
  refine mv s rfl rfl fun a s => ?_
  refine mv s rfl rfl fun a s => ?_
  obtain ⟨hiq92, bq92, hAq92⟩ := SlR.row1 (s.wd.holds 700102 _ rfl) (s.ft 103 rfl) rfl rfl hx87
  refine qq s rfl (y_rowIndex (sz := 1) (i := t_83) s rfl rfl underlying27 rfl hAq92 rfl hiq92) fun a s => ?_
  have hz93 := (s.ft 103 rfl).at_ _ _ hx87
  obtain ⟨ez93, lz931⟩ := hz93
  refine qq s rfl (y_loadRow1 (kk := 700102) s rfl rfl hAq92 (take1 ez93) underlying9 rfl) fun a s => ?_
  have hT := s.pk [(700102, 700102), (9200000, 700131)] (by decide)
  replace hT := hT.al 9300000 132 rfl
  refine l_seq rfl (l_callMut (cap := []) hT _ [] (sbA (by rfl)) trivial (by rfl) rfl func39 rfl (by kernel_rfl) rfl rfl (c_r03_Put n _ _ (hT.restLt [700102]) _ t_79 (A80) (c81) (cs82) x87 (by omega) (hT.wd.lendL _ _ _ (sbA (by rfl)) (keep_sub [700102]) (by rfl) (sbA (by rfl))) r89 hr89) ?_); intro v94 a' w' hK hp hF
  obtain ⟨Aou95, cou95, csou95, rfl, hWu95⟩ := hp
  have hS2 := St.mk hF (hT.wd.back (sbA (by rfl)) (keep_sub [700102]) (by rfl) hWu95 (by rfl))
  clear s hT hF hWu95 hK; revert hS2; revert w'; revert a'; intro a w s
  replace s := s.al 134 9300000 rfl
  replace s := s.ren [(700102, Ob.row (A11) ((t_10).length) (c12) 9 1 (cs13)), (700131, Ob.row (Aou95) ((r89).length) (cou95) 9 1 (csou95))] [700102, 9200000] ⟨rfl, rfl, trivial⟩ (by decide)
  refine asg s rfl rfl fun a s => ?_
  apply wO
  refine p_inN ?_
  apply pN
  apply wL
  refine mv s rfl rfl fun a s => ?_
  refine qq s rfl (y_addN (i := t_83) (j := 1) s rfl rfl (in64.2 (by omega))) fun a s => ?_
  refine asg s rfl rfl fun a s => ?_
  apply wN
  replace s := s.al 132 134 rfl
  exact ⟨m3, Nat.lt_succ_self _, ⟨(r89), (t_83 + 1), (Aou95), (cou95), (csou95), hg, (s.sb rfl rfl rfl)⟩⟩
 replace hg := br_f hg hc84
 apply wp_exit
 refine p_then ?_
 refine p_then ?_
 refine p_in ?_
 apply pN
 apply wR
 refine mv s rfl rfl fun a s => ?_
 refine asg s rfl rfl fun a s => ?_
 apply wN
 apply wp_ret
 obtain rfl := Option.some.inj hg
 refine fin1 (fn := Try.f23) s rfl (r_tmp s rfl) ?_
 exact ⟨(A80), (c81), rfl, (s.rowOut (R := Rep.str) (kk := 700131) rfl rfl (s.ft 132 rfl))⟩
set_option maxHeartbeats 400000 in
theorem c_r03_declared (n : Nat) (M : Bs) (w0 : World) (hM : ∀ b, M b → b < w0.heap.size) (d_ : (List TypeDecl)) (Ap01 : Option Addr) (cp01 : Nat) (hp01 : SlR RTypeDecl M w0 Ap01 (d_).length cp01 (d_)) (l_ : (List (List UInt8))) (Ap11 : Option Addr) (cp11 : Nat) (hp11 : SlR Rep.str M w0 Ap11 (l_).length cp11 (l_)) (r : (List (List UInt8))) (hg : r03_declared n d_ l_ = some r) :
    Calls Try.prog 47 [.slice (Ap01) ((d_).length) (cp01), .slice (Ap11) ((l_).length) (cp11)].toArray w0 (Ret noB w0 fun v w => ∃ (Aa1 : Option Addr), ∃ (ca1 : Nat), v = .slice (Aa1) ((r).length) (ca1) ∧ (SlR Rep.str M w Aa1 (r).length ca1 (r))) := by
 unfold r03_declared at hg
 refine enter M noB func47 rfl rfl hM ?_
 intro a s
 replace s := s.es 101 hp01
 replace s := s.es 102 hp11
 apply wR
 refine asg s rfl rfl fun a s => ?_
 apply wN
 apply wR
 refine asg s rfl rfl fun a s => ?_
 apply wN
 apply wQ
 apply wR
 refine asg s rfl rfl fun a s => ?_
 apply wN
 apply wp_block
 replace s := s.nilRow 700103 9 1 rfl
 replace s := s.add 104 (rdF Rep.str [] []) (RdAll.nil _ _ _)
 refine c_loop (σ := Nat) (fun m1 a w => ∃ (out_1 : (List (List UInt8))) (i_5 : Nat) (A2 : Option Addr) (c3 : Nat) (cs4 : List Value), r03_declared_L0 n d_ l_ m1 out_1 i_5 = some r ∧ St (⟨Try.f47.ntmps, M, noB, w0⟩ : Ctx) [(0, sl Ap01 (d_) cp01), (1, sl Ap11 (l_) cp11), (5, sl A2 (out_1) c3), (6, vI (((i_5 : Nat) : Int)))] [(700103, Ob.row (A2) ((out_1).length) (c3) 9 1 (cs4))] [(101, slF RTypeDecl (Ap01) ((d_).length) (cp01) (d_)), (102, slF Rep.str (Ap11) ((l_).length) (cp11) (l_)), (104, rdF Rep.str (cs4) (out_1))] a w) (fun m1 => m1) n ⟨([]), (0), (none), (0), ([]), hg, (s.sb rfl rfl rfl)⟩ ?_
 clear s a; rintro m1 a w ⟨out_1, i_5, A2, c3, cs4, hg, s⟩
 rcases m1 with _ | m1
 ·rw [r03_declared_L0] at hg; cases hg
 rw [r03_declared_L0] at hg
 apply wQ
 apply wR
 refine mv s rfl rfl fun a s => ?_
 refine mv s rfl rfl fun a s => ?_
 refine qq s rfl (y_lenSlice s rfl underlying27) fun a s => ?_
 refine qq s rfl (y_lssN (i := i_5) (j := ((l_).length)) s rfl rfl) fun a s => ?_
 apply wN
 refine c_dec s rfl (fun hc6 => ?_) (fun hc6 => ?_)
 ·replace hg := br_t hg hc6
  have hmx7 := SlR.mx (s.ft 102 rfl)
  apply wp_skip
  apply pN
  apply wQ
  apply wp_block
  apply wQ
  obtain ⟨x9, hx9, hg⟩ := bind_some hg
  obtain ⟨r11, hr11, hg⟩ := bind_some hg
  apply wL
  refine mv s rfl rfl fun a s => ?_
  refine mv s rfl rfl fun a s => ?_
  refine mv s rfl rfl fun a s => ?_
  obtain ⟨p14, hep14, hpp14⟩ := SlR.elemX (s.ft 102 rfl) hx9
  refine qq s rfl (y_elem (sz := 1) (i := i_5) s rfl rfl underlying27 rfl hep14 rfl (lt_of_get hx9)) fun a s => ?_
  obtain ⟨hlq15, hmq15, csq15, hdq15, hcq15⟩ := hpp14
  obtain ⟨rfl, lq151⟩ := hdq15
  refine qq s rfl (y_ldp1 s rfl hlq15 hmq15 (hcq15 0 _ rfl) underlying9 rfl) fun a s => ?_
  refine l_seq rfl (l_call (cap := []) s rfl func42 rfl (by kernel_rfl) rfl rfl (c_r03_find n _ _ s.lt d_ (Ap01) (cp01) (s.ft 101 rfl) x9 (by omega) r11 hr11) fun v16 a w hK hp s => ?_)
  obtain rfl := hp
  refine qq s rfl (y_geq s rfl rfl) fun a s => ?_
  apply wN
  refine c_dec s rfl (fun hc18 => ?_) (fun hc18 => ?_)
  ·replace hg := br_t hg hc18
   obtain ⟨r21, hr21, hg⟩ := bind_some hg
   apply wL
   refine mv s rfl rfl fun a s => ?_
   refine mv s rfl rfl fun a s => ?_
   refine mv s rfl rfl fun a s => ?_
   obtain ⟨p24, hep24, hpp24⟩ := SlR.elemX (s.ft 102 rfl) hx9
   refine qq s rfl (y_elem (sz := 1) (i := i_5) s rfl rfl underlying27 rfl hep24 rfl (lt_of_get hx9)) fun a s => ?_
   obtain ⟨hlq25, hmq25, csq25, hdq25, hcq25⟩ := hpp24
   obtain ⟨rfl, lq251⟩ := hdq25
   refine qq s rfl (y_ldp1 s rfl hlq25 hmq25 (hcq25 0 _ rfl) underlying9 rfl) fun a s => ?_
   have hT := s.pk [(9200000, 700103)] (by decide)
   replace hT := hT.al 9300000 104 rfl
   refine l_seq rfl (l_callMut (cap := []) hT _ [] (sbA (by rfl)) trivial (by rfl) rfl func39 rfl (by kernel_rfl) rfl rfl (c_r03_Put n _ _ (hT.restLt []) _ out_1 (A2) (c3) (cs4) x9 (by omega) (hT.wd.lendL _ _ _ (sbA (by rfl)) (keep_sub []) (by rfl) (sbA (by rfl))) r21 hr21) ?_); intro v26 a' w' hK hp hF
   obtain ⟨Aou27, cou27, csou27, rfl, hWu27⟩ := hp
   have hS2 := St.mk hF (hT.wd.back (sbA (by rfl)) (keep_sub []) (by rfl) hWu27 (by rfl))
   clear s hT hF hWu27 hK; revert hS2; revert w'; revert a'; intro a w s
   replace s := s.al 106 9300000 rfl
   replace s := s.ren [(700103, Ob.row (Aou27) ((r21).length) (cou27) 9 1 (csou27))] [9200000] ⟨rfl, trivial⟩ (by decide)
   refine asg s rfl rfl fun a s => ?_
   apply wO
   refine p_inN ?_
   apply pN
   apply wL
   refine mv s rfl rfl fun a s => ?_
   refine qq s rfl (y_addN (i := i_5) (j := 1) s rfl rfl (in64.2 (by omega))) fun a s => ?_
   refine asg s rfl rfl fun a s => ?_
   apply wN
   replace s := s.al 104 106 rfl
   exact ⟨m1, Nat.lt_succ_self _, ⟨(r21), (i_5 + 1), (Aou27), (cou27), (csou27), hg, (s.sb rfl rfl rfl)⟩⟩
  replace hg := br_f hg hc18
  apply wp_skip
  refine p_inN ?_
  apply pN
  apply wL
  refine mv s rfl rfl fun a s => ?_
  refine qq s rfl (y_addN (i := i_5) (j := 1) s rfl rfl (in64.2 (by omega))) fun a s => ?_
  refine asg s rfl rfl fun a s => ?_
  apply wN
  replace s := s.al 104 104 rfl
  exact ⟨m1, Nat.lt_succ_self _, ⟨(out_1), (i_5 + 1), (A2), (c3), (cs4), hg, (s.sb rfl rfl rfl)⟩⟩
 replace hg := br_f hg hc6
 apply wp_exit
 refine p_then ?_
 refine p_then ?_
 refine p_in ?_
 apply pN
 apply wR
 refine mv s rfl rfl fun a s => ?_
 refine asg s rfl rfl fun a s => ?_
 apply wN
 apply wp_ret
 obtain rfl := Option.some.inj hg
 refine fin1 (fn := Try.f47) s rfl (r_tmp s rfl) ?_
 exact ⟨(A2), (c3), rfl, (s.rowOut (R := Rep.str) (kk := 700103) rfl rfl (s.ft 104 rfl))⟩
set_option maxHeartbeats 400000 in
theorem c_r03_Maximal (n : Nat) (M : Bs) (w0 : World) (hM : ∀ b, M b → b < w0.heap.size) (d_ : (List TypeDecl)) (Ap01 : Option Addr) (cp01 : Nat) (hp01 : SlR RTypeDecl M w0 Ap01 (d_).length cp01 (d_)) (l_ : (List (List UInt8))) (Ap11 : Option Addr) (cp11 : Nat) (hp11 : SlR Rep.str M w0 Ap11 (l_).length cp11 (l_)) (r : (List (List UInt8))) (hg : r03_Maximal n d_ l_ = some r) :
    Calls Try.prog 25 [.slice (Ap01) ((d_).length) (cp01), .slice (Ap11) ((l_).length) (cp11)].toArray w0 (Ret noB w0 fun v w => ∃ (Aa1 : Option Addr), ∃ (ca1 : Nat), v = .slice (Aa1) ((r).length) (ca1) ∧ (SlR Rep.str M w Aa1 (r).length ca1 (r))) := by
 unfold r03_Maximal at hg
 refine enter M noB func25 rfl rfl hM ?_
 intro a s
 replace s := s.es 101 hp01
 replace s := s.es 102 hp11
 apply wR
 refine asg s rfl rfl fun a s => ?_
 apply wN
 apply wR
 refine asg s rfl rfl fun a s => ?_
 apply wN
 apply wQ
 obtain ⟨r1, hr1, hg⟩ := bind_some hg
 apply wL
 refine mv s rfl rfl fun a s => ?_
 refine mv s rfl rfl fun a s => ?_
 refine l_seq rfl (l_call (cap := []) s rfl func47 rfl (by kernel_rfl) rfl rfl (c_r03_declared n _ _ s.lt d_ (Ap01) (cp01) (s.ft 101 rfl) l_ (Ap11) (cp11) (s.ft 102 rfl) r1 hr1) fun v4 a w hK hp s => ?_)
 obtain ⟨Au5a1, cu5a1, rfl, hu5a1⟩ := hp
 replace s := s.ns 104 hu5a1
 refine asg s rfl rfl fun a s => ?_
 apply wN
 apply wQ
 apply wR
 refine asg s rfl rfl fun a s => ?_
 apply wN
 apply wp_block
 replace s := s.nilRow 700105 9 1 rfl
 replace s := s.add 106 (rdF Rep.str [] []) (RdAll.nil _ _ _)
 refine c_loop (σ := Nat) (fun m1 a w => ∃ (out_6 : (List (List UInt8))) (i_10 : Nat) (A7 : Option Addr) (c8 : Nat) (cs9 : List Value), r03_Maximal_L0 n d_ r1 m1 out_6 i_10 = some r ∧ St (⟨Try.f25.ntmps, M, noB, w0⟩ : Ctx) [(0, sl Ap01 (d_) cp01), (5, sl A7 (out_6) c8), (6, sl Au5a1 (r1) cu5a1), (7, vI (((i_10 : Nat) : Int)))] [(700105, Ob.row (A7) ((out_6).length) (c8) 9 1 (cs9))] [(101, slF RTypeDecl (Ap01) ((d_).length) (cp01) (d_)), (104, slF Rep.str (Au5a1) ((r1).length) (cu5a1) (r1)), (106, rdF Rep.str (cs9) (out_6))] a w) (fun m1 => m1) n ⟨([]), (0), (none), (0), ([]), hg, (s.sb rfl rfl rfl)⟩ ?_
 clear s a; rintro m1 a w ⟨out_6, i_10, A7, c8, cs9, hg, s⟩
 rcases m1 with _ | m1
 ·rw [r03_Maximal_L0] at hg; cases hg
 rw [r03_Maximal_L0] at hg
 apply wQ
 apply wR
 refine mv s rfl rfl fun a s => ?_
 refine mv s rfl rfl fun a s => ?_
 refine qq s rfl (y_lenSlice s rfl underlying27) fun a s => ?_
 refine qq s rfl (y_lssN (i := i_10) (j := ((r1).length)) s rfl rfl) fun a s => ?_
 apply wN
 refine c_dec s rfl (fun hc11 => ?_) (fun hc11 => ?_)
 ·replace hg := br_t hg hc11
  have hmx12 := SlR.mx (s.ft 104 rfl)
  apply wp_skip
  apply pN
  apply wQ
  apply wp_block
  apply wQ
  obtain ⟨x14, hx14, hg⟩ := bind_some hg
  obtain ⟨r16, hr16, hg⟩ := bind_some hg
  apply wL
  refine mv s rfl rfl fun a s => ?_
  refine mv s rfl rfl fun a s => ?_
  refine mv s rfl rfl fun a s => ?_
  obtain ⟨p19, hep19, hpp19⟩ := SlR.elemX (s.ft 104 rfl) hx14
  refine qq s rfl (y_elem (sz := 1) (i := i_10) s rfl rfl underlying27 rfl hep19 rfl (lt_of_get hx14)) fun a s => ?_
  obtain ⟨hlq20, hmq20, csq20, hdq20, hcq20⟩ := hpp19
  obtain ⟨rfl, lq201⟩ := hdq20
  refine qq s rfl (y_ldp1 s rfl hlq20 hmq20 (hcq20 0 _ rfl) underlying9 rfl) fun a s => ?_
  refine l_seq rfl (l_call (cap := []) s rfl func21 rfl (by kernel_rfl) rfl rfl (c_r03_Above n _ _ s.lt d_ (Ap01) (cp01) (s.ft 101 rfl) x14 (by omega) r16 hr16) fun v21 a w hK hp s => ?_)
  obtain ⟨Au22a1, cu22a1, rfl, hu22a1⟩ := hp
  replace s := s.ns 108 hu22a1
  refine asg s rfl rfl fun a s => ?_
  apply wN
  apply wR
  refine asg s rfl rfl fun a s => ?_
  apply wN
  apply wQ
  apply wR
  refine asg s rfl rfl fun a s => ?_
  apply wN
  obtain ⟨k23, hg, hk23⟩ := jn_some hg
  refine c_post (fun a w => ∃ (free_24 : Bool), k23 free_24 = some r ∧ St (⟨Try.f25.ntmps, M, noB, w0⟩ : Ctx) [(0, sl Ap01 (d_) cp01), (5, sl A7 (out_6) c8), (6, sl Au5a1 (r1) cu5a1), (7, vI (((i_10 : Nat) : Int))), (9, .bool (free_24))] [(700105, Ob.row (A7) ((out_6).length) (c8) 9 1 (cs9))] [(101, slF RTypeDecl (Ap01) ((d_).length) (cp01) (d_)), (104, slF Rep.str (Au5a1) ((r1).length) (cu5a1) (r1)), (106, rdF Rep.str (cs9) (out_6))] a w) ?_ ?_
  ·apply wp_block
   refine c_loop (σ := Nat) (fun m2 a w => ∃ (free_25 : Bool) (k_26 : Nat), r03_Maximal_L1 n r1 i_10 r16 k23 m2 free_25 k_26 = some r ∧ St (⟨Try.f25.ntmps, M, noB, w0⟩ : Ctx) [(0, sl Ap01 (d_) cp01), (5, sl A7 (out_6) c8), (6, sl Au5a1 (r1) cu5a1), (7, vI (((i_10 : Nat) : Int))), (8, sl Au22a1 (r16) cu22a1), (9, .bool (free_25)), (10, vI (((k_26 : Nat) : Int)))] [(700105, Ob.row (A7) ((out_6).length) (c8) 9 1 (cs9))] [(101, slF RTypeDecl (Ap01) ((d_).length) (cp01) (d_)), (104, slF Rep.str (Au5a1) ((r1).length) (cu5a1) (r1)), (106, rdF Rep.str (cs9) (out_6)), (108, slF Rep.str (Au22a1) ((r16).length) (cu22a1) (r16))] a w) (fun m2 => m2) n ⟨(true), (0), hg, (s.sb rfl rfl rfl)⟩ ?_
   clear s a; rintro m2 a w ⟨free_25, k_26, hg, s⟩
   rcases m2 with _ | m2
   ·rw [r03_Maximal_L1] at hg; cases hg
   rw [r03_Maximal_L1] at hg
   apply wQ
   apply wR
   refine mv s rfl rfl fun a s => ?_
   refine mv s rfl rfl fun a s => ?_
   refine qq s rfl (y_lenSlice s rfl underlying27) fun a s => ?_
   refine qq s rfl (y_lssN (i := k_26) (j := ((r1).length)) s rfl rfl) fun a s => ?_
   apply wN
   refine c_dec s rfl (fun hc27 => ?_) (fun hc27 => ?_)
   ·replace hg := br_t hg hc27
    have hmx28 := SlR.mx (s.ft 104 rfl)
    apply wp_skip
    apply pN
    apply wQ
    apply wp_block
    rcases Bool.eq_false_or_eq_true (free_25) with hs29 | hs29
    ·replace hg := br_t hg hs29
     rcases Decidable.em (k_26 = i_10) with hs30 | hs30
     ·have hs30e := decide_eq_true hs30
      replace hg := br_t hg hs30
      apply wL
      refine qq s rfl (yl_b (y_move s rfl) hs29) fun a s => ?_
      refine mv s rfl rfl fun a s => ?_
      refine gm s rfl rfl fun a s => ?_
      refine gm s rfl rfl fun a s => ?_
      refine gy s rfl (yl_b (y_eqlN (i := k_26) (j := i_10) s rfl rfl) hs30e) fun a s => ?_
      refine gm s rfl rfl fun a s => ?_
      refine gn s rfl fun a s => ?_
      refine gn s rfl fun a s => ?_
      refine gn s rfl fun a s => ?_
      refine gn s rfl fun a s => ?_
      refine gn s rfl fun a s => ?_
      refine gn s rfl fun a s => ?_
      refine gn s rfl fun a s => ?_
      refine gy s rfl (y_pick_t s rfl rfl) fun a s => ?_
      refine qq s rfl (y_pick_t s rfl rfl) fun a s => ?_
      refine asg s rfl rfl fun a s => ?_
      apply wO
      refine p_inN ?_
      apply pN
      apply wL
      refine mv s rfl rfl fun a s => ?_
      refine qq s rfl (y_addN (i := k_26) (j := 1) s rfl rfl (in64.2 (by omega))) fun a s => ?_
      refine asg s rfl rfl fun a s => ?_
      apply wN
      exact ⟨m2, Nat.lt_succ_self _, ⟨(true), (k_26 + 1), hg, (s.sb rfl rfl rfl)⟩⟩
     have hs30e := decide_eq_false hs30
     replace hg := br_f hg hs30
     obtain ⟨x32, hx32, hg⟩ := bind_some hg
     obtain ⟨r34, hr34, hg⟩ := bind_some hg
     apply wL
     refine qq s rfl (yl_b (y_move s rfl) hs29) fun a s => ?_
     refine mv s rfl rfl fun a s => ?_
     refine gm s rfl rfl fun a s => ?_
     refine gm s rfl rfl fun a s => ?_
     refine gy s rfl (yl_b (y_eqlN (i := k_26) (j := i_10) s rfl rfl) hs30e) fun a s => ?_
     refine gm s rfl rfl fun a s => ?_
     refine gm s rfl rfl fun a s => ?_
     refine gm s rfl rfl fun a s => ?_
     refine gm s rfl rfl fun a s => ?_
     obtain ⟨p37, hep37, hpp37⟩ := SlR.elemX (s.ft 104 rfl) hx32
     refine gy s rfl (y_elem (sz := 1) (i := k_26) s rfl rfl underlying27 rfl hep37 rfl (lt_of_get hx32)) fun a s => ?_
     obtain ⟨hlq38, hmq38, csq38, hdq38, hcq38⟩ := hpp37
     obtain ⟨rfl, lq381⟩ := hdq38
     refine gy s rfl (y_ldp1 s rfl hlq38 hmq38 (hcq38 0 _ rfl) underlying9 rfl) fun a s => ?_
     refine gl s rfl (l_call (cap := []) s rfl func28 rfl (by kernel_rfl) rfl rfl (c_r03_Among n _ _ s.lt r16 (Au22a1) (cu22a1) (s.ft 108 rfl) x32 (by omega) r34 hr34) fun v39 a w hK hp s => ?_)
     obtain rfl := hp
     refine gy s rfl (y_not s rfl) fun a s => ?_
     refine gy s rfl (y_pick_f s rfl rfl) fun a s => ?_
     refine qq s rfl (y_pick_t s rfl rfl) fun a s => ?_
     refine asg s rfl rfl fun a s => ?_
     apply wO
     refine p_inN ?_
     apply pN
     apply wL
     refine mv s rfl rfl fun a s => ?_
     refine qq s rfl (y_addN (i := k_26) (j := 1) s rfl rfl (in64.2 (by omega))) fun a s => ?_
     refine asg s rfl rfl fun a s => ?_
     apply wN
     exact ⟨m2, Nat.lt_succ_self _, ⟨(!(r34)), (k_26 + 1), hg, (s.sb rfl rfl rfl)⟩⟩
    replace hg := br_n hg hs29
    apply wL
    refine qq s rfl (yl_b (y_move s rfl) hs29) fun a s => ?_
    refine mv s rfl rfl fun a s => ?_
    refine gn s rfl fun a s => ?_
    refine gn s rfl fun a s => ?_
    refine gn s rfl fun a s => ?_
    refine gn s rfl fun a s => ?_
    refine gn s rfl fun a s => ?_
    refine gn s rfl fun a s => ?_
    refine gn s rfl fun a s => ?_
    refine gn s rfl fun a s => ?_
    refine gn s rfl fun a s => ?_
    refine gn s rfl fun a s => ?_
    refine gn s rfl fun a s => ?_
    refine gn s rfl fun a s => ?_
    refine qq s rfl (y_pick_f s rfl rfl) fun a s => ?_
    refine asg s rfl rfl fun a s => ?_
    apply wO
    refine p_inN ?_
    apply pN
    apply wL
    refine mv s rfl rfl fun a s => ?_
    refine qq s rfl (y_addN (i := k_26) (j := 1) s rfl rfl (in64.2 (by omega))) fun a s => ?_
    refine asg s rfl rfl fun a s => ?_
    apply wN
    exact ⟨m2, Nat.lt_succ_self _, ⟨(false), (k_26 + 1), hg, (s.sb rfl rfl rfl)⟩⟩
   replace hg := br_f hg hc27
   apply wp_exit
   refine p_then ?_
   refine p_then ?_
   refine p_in ?_
   apply pN
   exact ⟨(free_25), hg, (s.sb rfl rfl rfl)⟩
  clear s a; rintro a w ⟨free_24, hg, s⟩
  subst hk23
  apply wR
  refine mv s rfl rfl fun a s => ?_
  apply wN
  refine c_cond s rfl (fun hc41 => ?_) (fun hc41 => ?_)
  ·replace hg := br_t hg hc41
   obtain ⟨hk45, hg⟩ := chk_some hg
   apply wL
   refine mv s rfl rfl fun a s => ?_
   refine mv s rfl rfl fun a s => ?_
   refine mv s rfl rfl fun a s => ?_
   obtain ⟨p48, hep48, hpp48⟩ := SlR.elemX (s.ft 104 rfl) hx14
   refine qq s rfl (y_elem (sz := 1) (i := i_10) s rfl rfl underlying27 rfl hep48 rfl (lt_of_get hx14)) fun a s => ?_
   obtain ⟨hlq49, hmq49, csq49, hdq49, hcq49⟩ := hpp48
   obtain ⟨rfl, lq491⟩ := hdq49
   refine qq s rfl (y_ldp1 s rfl hlq49 hmq49 (hcq49 0 _ rfl) underlying9 rfl) fun a s => ?_
   refine l_seq rfl (l_buildDense (sz := 1) s 2305 rfl rfl rfl underlying27 rfl rfl rfl rfl rfl rfl rfl fun b50 a w hbb50 hK s => ?_)
   clear hbb50
   replace s := s.add 111 (rdF Rep.str (cellsOfL [vT x14]) ([x14])) (RdAll.cons (by exact ⟨rfl, (by omega)⟩) (RdAll.nil _ _ _))
   have hs52 := row_src (s.wd.holds 2305 _ rfl) (RdAll.one (s.ft 111 rfl))
   refine l_seq rfl (l_append (sz := 1) (by_ := 16) (N := (out_6 ++ [x14]).length) (ys := cs9 ++ (cellsOfL [vT x14])) s 700105 rfl rfl rfl underlying27 rfl rfl rfl rfl rfl hs52 (by first | (simp; done) | (simp; omega)) rfl (by have hr := hk45; clear hg; first | omega | (simp only [List.length_append, List.length_cons, List.length_nil] at hr ⊢; omega) | (simp at hr ⊢; omega)) (by have hr := hk45; clear hg; first | omega | (simp only [List.length_append, List.length_cons, List.length_nil] at hr ⊢; omega) | (simp at hr ⊢; omega)) rfl fun Aq51 cq51 a w hA hK s => ?_)
   replace s := s.add 112 (rdF Rep.str (cs9 ++ (cellsOfL [vT x14])) (out_6 ++ [x14])) (RdAll.append (s.ft 106 rfl) (s.ft 111 rfl))
   refine asg s rfl rfl fun a s => ?_
   apply wO
   refine p_inN ?_
   apply pN
   apply wL
   refine mv s rfl rfl fun a s => ?_
   refine qq s rfl (y_addN (i := i_10) (j := 1) s rfl rfl (in64.2 (by omega))) fun a s => ?_
   refine asg s rfl rfl fun a s => ?_
   apply wN
   replace s := s.add 106 (rdF Rep.str (cs9 ++ (cellsOfL [vT x14])) (out_6 ++ [x14])) (s.ft 112 rfl)
   exact ⟨m1, Nat.lt_succ_self _, ⟨(out_6 ++ [x14]), (i_10 + 1), (Aq51), (cq51), (cs9 ++ (cellsOfL [vT x14])), hg, (s.sb rfl rfl rfl)⟩⟩
  replace hg := br_n hg hc41
  apply wp_skip
  refine p_inN ?_
  apply pN
  apply wL
  refine mv s rfl rfl fun a s => ?_
  refine qq s rfl (y_addN (i := i_10) (j := 1) s rfl rfl (in64.2 (by omega))) fun a s => ?_
  refine asg s rfl rfl fun a s => ?_
  apply wN
  replace s := s.al 106 106 rfl
  exact ⟨m1, Nat.lt_succ_self _, ⟨(out_6), (i_10 + 1), (A7), (c8), (cs9), hg, (s.sb rfl rfl rfl)⟩⟩
 replace hg := br_f hg hc11
 apply wp_exit
 refine p_then ?_
 refine p_then ?_
 refine p_in ?_
 apply pN
 apply wR
 refine mv s rfl rfl fun a s => ?_
 refine asg s rfl rfl fun a s => ?_
 apply wN
 apply wp_ret
 obtain rfl := Option.some.inj hg
 refine fin1 (fn := Try.f25) s rfl (r_tmp s rfl) ?_
 exact ⟨(A7), (c8), rfl, (s.rowOut (R := Rep.str) (kk := 700105) rfl rfl (s.ft 106 rfl))⟩
set_option maxHeartbeats 400000 in
theorem c_r03_Minimal (n : Nat) (M : Bs) (w0 : World) (hM : ∀ b, M b → b < w0.heap.size) (d_ : (List TypeDecl)) (Ap01 : Option Addr) (cp01 : Nat) (hp01 : SlR RTypeDecl M w0 Ap01 (d_).length cp01 (d_)) (l_ : (List (List UInt8))) (Ap11 : Option Addr) (cp11 : Nat) (hp11 : SlR Rep.str M w0 Ap11 (l_).length cp11 (l_)) (r : (List (List UInt8))) (hg : r03_Minimal n d_ l_ = some r) :
    Calls Try.prog 27 [.slice (Ap01) ((d_).length) (cp01), .slice (Ap11) ((l_).length) (cp11)].toArray w0 (Ret noB w0 fun v w => ∃ (Aa1 : Option Addr), ∃ (ca1 : Nat), v = .slice (Aa1) ((r).length) (ca1) ∧ (SlR Rep.str M w Aa1 (r).length ca1 (r))) := by
 unfold r03_Minimal at hg
 refine enter M noB func27 rfl rfl hM ?_
 intro a s
 replace s := s.es 101 hp01
 replace s := s.es 102 hp11
 apply wR
 refine asg s rfl rfl fun a s => ?_
 apply wN
 apply wR
 refine asg s rfl rfl fun a s => ?_
 apply wN
 apply wQ
 obtain ⟨r1, hr1, hg⟩ := bind_some hg
 apply wL
 refine mv s rfl rfl fun a s => ?_
 refine mv s rfl rfl fun a s => ?_
 refine l_seq rfl (l_call (cap := []) s rfl func47 rfl (by kernel_rfl) rfl rfl (c_r03_declared n _ _ s.lt d_ (Ap01) (cp01) (s.ft 101 rfl) l_ (Ap11) (cp11) (s.ft 102 rfl) r1 hr1) fun v4 a w hK hp s => ?_)
 obtain ⟨Au5a1, cu5a1, rfl, hu5a1⟩ := hp
 replace s := s.ns 104 hu5a1
 refine asg s rfl rfl fun a s => ?_
 apply wN
 apply wQ
 apply wR
 refine asg s rfl rfl fun a s => ?_
 apply wN
 apply wp_block
 replace s := s.nilRow 700105 9 1 rfl
 replace s := s.add 106 (rdF Rep.str [] []) (RdAll.nil _ _ _)
 refine c_loop (σ := Nat) (fun m1 a w => ∃ (out_6 : (List (List UInt8))) (i_10 : Nat) (A7 : Option Addr) (c8 : Nat) (cs9 : List Value), r03_Minimal_L0 n d_ r1 m1 out_6 i_10 = some r ∧ St (⟨Try.f27.ntmps, M, noB, w0⟩ : Ctx) [(0, sl Ap01 (d_) cp01), (5, sl A7 (out_6) c8), (6, sl Au5a1 (r1) cu5a1), (7, vI (((i_10 : Nat) : Int)))] [(700105, Ob.row (A7) ((out_6).length) (c8) 9 1 (cs9))] [(101, slF RTypeDecl (Ap01) ((d_).length) (cp01) (d_)), (104, slF Rep.str (Au5a1) ((r1).length) (cu5a1) (r1)), (106, rdF Rep.str (cs9) (out_6))] a w) (fun m1 => m1) n ⟨([]), (0), (none), (0), ([]), hg, (s.sb rfl rfl rfl)⟩ ?_
 clear s a; rintro m1 a w ⟨out_6, i_10, A7, c8, cs9, hg, s⟩
 rcases m1 with _ | m1
 ·rw [r03_Minimal_L0] at hg; cases hg
 rw [r03_Minimal_L0] at hg
 apply wQ
 apply wR
 refine mv s rfl rfl fun a s => ?_
 refine mv s rfl rfl fun a s => ?_
 refine qq s rfl (y_lenSlice s rfl underlying27) fun a s => ?_
 refine qq s rfl (y_lssN (i := i_10) (j := ((r1).length)) s rfl rfl) fun a s => ?_
 apply wN
 refine c_dec s rfl (fun hc11 => ?_) (fun hc11 => ?_)
 ·replace hg := br_t hg hc11
  have hmx12 := SlR.mx (s.ft 104 rfl)
  apply wp_skip
  apply pN
  apply wQ
  apply wp_block
  apply wR
  refine asg s rfl rfl fun a s => ?_
  apply wN
  apply wQ
  apply wR
  refine asg s rfl rfl fun a s => ?_
  apply wN
  obtain ⟨k13, hg, hk13⟩ := jn_some hg
  refine c_post (fun a w => ∃ (free_14 : Bool), k13 free_14 = some r ∧ St (⟨Try.f27.ntmps, M, noB, w0⟩ : Ctx) [(0, sl Ap01 (d_) cp01), (5, sl A7 (out_6) c8), (6, sl Au5a1 (r1) cu5a1), (7, vI (((i_10 : Nat) : Int))), (8, .bool (free_14))] [(700105, Ob.row (A7) ((out_6).length) (c8) 9 1 (cs9))] [(101, slF RTypeDecl (Ap01) ((d_).length) (cp01) (d_)), (104, slF Rep.str (Au5a1) ((r1).length) (cu5a1) (r1)), (106, rdF Rep.str (cs9) (out_6))] a w) ?_ ?_
  ·apply wp_block
   refine c_loop (σ := Nat) (fun m2 a w => ∃ (free_15 : Bool) (k_16 : Nat), r03_Minimal_L1 n d_ r1 i_10 k13 m2 free_15 k_16 = some r ∧ St (⟨Try.f27.ntmps, M, noB, w0⟩ : Ctx) [(0, sl Ap01 (d_) cp01), (5, sl A7 (out_6) c8), (6, sl Au5a1 (r1) cu5a1), (7, vI (((i_10 : Nat) : Int))), (8, .bool (free_15)), (9, vI (((k_16 : Nat) : Int)))] [(700105, Ob.row (A7) ((out_6).length) (c8) 9 1 (cs9))] [(101, slF RTypeDecl (Ap01) ((d_).length) (cp01) (d_)), (104, slF Rep.str (Au5a1) ((r1).length) (cu5a1) (r1)), (106, rdF Rep.str (cs9) (out_6))] a w) (fun m2 => m2) n ⟨(true), (0), hg, (s.sb rfl rfl rfl)⟩ ?_
   clear s a; rintro m2 a w ⟨free_15, k_16, hg, s⟩
   rcases m2 with _ | m2
   ·rw [r03_Minimal_L1] at hg; cases hg
   rw [r03_Minimal_L1] at hg
   apply wQ
   apply wR
   refine mv s rfl rfl fun a s => ?_
   refine mv s rfl rfl fun a s => ?_
   refine qq s rfl (y_lenSlice s rfl underlying27) fun a s => ?_
   refine qq s rfl (y_lssN (i := k_16) (j := ((r1).length)) s rfl rfl) fun a s => ?_
   apply wN
   refine c_dec s rfl (fun hc17 => ?_) (fun hc17 => ?_)
   ·replace hg := br_t hg hc17
    have hmx18 := SlR.mx (s.ft 104 rfl)
    apply wp_skip
    apply pN
    apply wQ
    apply wp_block
    rcases Bool.eq_false_or_eq_true (free_15) with hs19 | hs19
    ·replace hg := br_t hg hs19
     rcases Decidable.em (k_16 = i_10) with hs20 | hs20
     ·have hs20e := decide_eq_true hs20
      replace hg := br_t hg hs20
      refine d_plan s [] [(0, some 0), (1, some 0), (2, some 0), (3, some 0), (4, some 0), (5, some 0), (6, some 0), (7, some 0), (8, some 0), (9, some 0), (10, some 0), (11, some 0), (12, some 0), (13, some 0), (14, some 0), (15, some 0), (16, some 0), (17, some 0), (18, some 0), (19, some 0), (20, some 0)] rfl (by kernel_rfl) (by kernel_rfl) rfl ?_; clear s; intro wr hZ s; have hR := s.wd
      refine qt s hR rfl (yl_b (y_move s rfl) hs19) fun a s => ?_
      refine qt s hR rfl (y_move s rfl) fun a s => ?_
      refine qg s hR rfl (y_move s rfl) fun a s => ?_
      refine qg s hR rfl (y_move s rfl) fun a s => ?_
      refine qg s hR rfl (yl_b (y_eqlN (i := k_16) (j := i_10) s rfl rfl) hs20e) fun a s => ?_
      refine qg s hR rfl (y_move s rfl) fun a s => ?_
      refine q_pass s hR rfl rfl ⟨_, _, _, rfl, rfl, rfl, rfl⟩ rfl fun a s => ?_
      refine q_pass s hR rfl rfl ⟨_, _, _, rfl, rfl, rfl, rfl⟩ rfl fun a s => ?_
      refine q_pass s hR rfl rfl ⟨_, _, _, rfl, rfl, rfl, rfl⟩ rfl fun a s => ?_
      refine q_pass s hR rfl rfl ⟨_, _, _, rfl, rfl, rfl, rfl⟩ rfl fun a s => ?_
      refine q_pass s hR rfl rfl ⟨_, _, _, rfl, rfl, rfl, rfl⟩ rfl fun a s => ?_
      refine q_pass s hR rfl rfl ⟨_, _, _, rfl, rfl, rfl, rfl⟩ rfl fun a s => ?_
      refine q_pass s hR rfl rfl ⟨_, _, _, rfl, rfl, rfl, rfl⟩ rfl fun a s => ?_
      refine q_pass s hR rfl rfl ⟨_, _, _, rfl, rfl, rfl, rfl⟩ rfl fun a s => ?_
      refine q_pass s hR rfl rfl ⟨_, _, _, rfl, rfl, rfl, rfl⟩ rfl fun a s => ?_
      refine q_pass s hR rfl rfl ⟨_, _, _, rfl, rfl, rfl, rfl⟩ rfl fun a s => ?_
      refine q_pass s hR rfl rfl ⟨_, _, _, rfl, rfl, rfl, rfl⟩ rfl fun a s => ?_
      refine q_pass s hR rfl rfl ⟨_, _, _, rfl, rfl, rfl, rfl⟩ rfl fun a s => ?_
      refine qg s hR rfl (y_pick_t s rfl rfl) fun a s => ?_
      refine qt s hR rfl (y_pick_t s rfl rfl) fun a s => ?_
      refine qt s hR rfl (y_assign s rfl) fun a s => ?_
      clear hR hZ
      refine p_inN ?_
      apply pN
      apply wL
      refine mv s rfl rfl fun a s => ?_
      refine qq s rfl (y_addN (i := k_16) (j := 1) s rfl rfl (in64.2 (by omega))) fun a s => ?_
      refine asg s rfl rfl fun a s => ?_
      apply wN
      exact ⟨m2, Nat.lt_succ_self _, ⟨(true), (k_16 + 1), hg, (s.sb rfl rfl rfl)⟩⟩
     have hs20e := decide_eq_false hs20
     replace hg := br_f hg hs20
     obtain ⟨x22, hx22, hg⟩ := bind_some hg
     obtain ⟨r24, hr24, hg⟩ := bind_some hg
     obtain ⟨x28, hx28, hg⟩ := bind_some hg
     obtain ⟨r30, hr30, hg⟩ := bind_some hg
     refine d_plan s [] [(0, some 0), (1, some 0), (2, some 0), (3, some 0), (4, some 0), (5, some 0), (6, some 0), (7, some 0), (8, some 0), (9, some 0), (10, some 0), (12, some 0), (13, some 0), (14, some 0), (15, some 0), (11, none), (16, none), (17, none), (18, none), (19, none), (20, none)] rfl (by kernel_rfl) (by kernel_rfl) rfl ?_; clear s; intro wr hZ s; have hR := s.wd
     refine qt s hR rfl (yl_b (y_move s rfl) hs19) fun a s => ?_
     refine qt s hR rfl (y_move s rfl) fun a s => ?_
     refine qg s hR rfl (y_move s rfl) fun a s => ?_
     refine qg s hR rfl (y_move s rfl) fun a s => ?_
     refine qg s hR rfl (yl_b (y_eqlN (i := k_16) (j := i_10) s rfl rfl) hs20e) fun a s => ?_
     refine qg s hR rfl (y_move s rfl) fun a s => ?_
     refine qg s hR rfl (y_move s rfl) fun a s => ?_
     refine qg s hR rfl (y_move s rfl) fun a s => ?_
     refine qg s hR rfl (y_move s rfl) fun a s => ?_
     obtain ⟨p33, hep33, hpp33⟩ := SlR.elemX (s.ft 104 rfl) hx22
     refine qg s hR rfl (y_elem (sz := 1) (i := k_16) s rfl rfl underlying27 rfl hep33 rfl (lt_of_get hx22)) fun a s => ?_
     obtain ⟨hlq34, hmq34, csq34, hdq34, hcq34⟩ := hpp33
     obtain ⟨rfl, lq341⟩ := hdq34
     refine qg s hR rfl (y_ldp1 s rfl hlq34 hmq34 (hcq34 0 _ rfl) underlying9 rfl) fun a s => ?_
     refine qg s hR rfl (y_move s rfl) fun a s => ?_
     refine qg s hR rfl (y_move s rfl) fun a s => ?_
     obtain ⟨p35, hep35, hpp35⟩ := SlR.elemX (s.ft 104 rfl) hx28
     refine qg s hR rfl (y_elem (sz := 1) (i := i_10) s rfl rfl underlying27 rfl hep35 rfl (lt_of_get hx28)) fun a s => ?_
     obtain ⟨hlq36, hmq36, csq36, hdq36, hcq36⟩ := hpp35
     obtain ⟨rfl, lq361⟩ := hdq36
     refine qg s hR rfl (y_ldp1 s rfl hlq36 hmq36 (hcq36 0 _ rfl) underlying9 rfl) fun a s => ?_
     refine l_take s rfl ⟨_, _, _, rfl, rfl, rfl, rfl⟩ (l_call (cap := []) s rfl func21 rfl (by kernel_rfl) rfl rfl (c_r03_Above n _ _ s.lt d_ (Ap01) (cp01) (s.ft 101 rfl) x22 (by omega) r24 hr24) fun v37 a w hK hp s => ?_)
     replace hZ := Nat.le_trans hZ hK.size; refine ⟨fun g _ h => h.grow hK, ?_⟩; clear hK
     obtain ⟨Au38a1, cu38a1, rfl, hu38a1⟩ := hp
     replace s := s.ns 108 hu38a1
     refine l_take s rfl ⟨_, _, _, rfl, rfl, rfl, rfl⟩ (l_call (cap := []) s rfl func28 rfl (by kernel_rfl) rfl rfl (c_r03_Among n _ _ s.lt r24 (Au38a1) (cu38a1) (s.ft 108 rfl) x28 (by omega) r30 hr30) fun v39 a w hK hp s => ?_)
     replace hZ := Nat.le_trans hZ hK.size; refine ⟨fun g _ h => h.grow hK, ?_⟩; clear hK
     obtain rfl := hp
     refine l_take s rfl ⟨_, _, _, rfl, rfl, rfl, rfl⟩ (l_quiet s rfl rfl (y_not s rfl) fun a s => ?_); refine ⟨fun g _ h => h, ?_⟩
     refine l_take s rfl ⟨_, _, _, rfl, rfl, rfl, rfl⟩ (l_quiet s rfl rfl (y_pick_f s rfl rfl) fun a s => ?_); refine ⟨fun g _ h => h, ?_⟩
     refine l_take s rfl rfl (l_quiet s rfl rfl (y_pick_t s rfl rfl) fun a s => ?_); refine ⟨fun g _ h => h, ?_⟩
     refine l_take s rfl rfl (l_quiet s rfl rfl (y_assign s rfl) fun a s => ?_); refine ⟨fun g _ h => h, ?_⟩
     clear hR hZ
     refine p_inN ?_
     apply pN
     apply wL
     refine mv s rfl rfl fun a s => ?_
     refine qq s rfl (y_addN (i := k_16) (j := 1) s rfl rfl (in64.2 (by omega))) fun a s => ?_
     refine asg s rfl rfl fun a s => ?_
     apply wN
     exact ⟨m2, Nat.lt_succ_self _, ⟨(!(r30)), (k_16 + 1), hg, (s.sb rfl rfl rfl)⟩⟩
    replace hg := br_n hg hs19
    refine d_plan s [] [(0, some 0), (1, some 0), (2, some 0), (3, some 0), (4, some 0), (5, some 0), (6, some 0), (7, some 0), (8, some 0), (9, some 0), (10, some 0), (11, some 0), (12, some 0), (13, some 0), (14, some 0), (15, some 0), (16, some 0), (17, some 0), (18, some 0), (19, some 0), (20, some 0)] rfl (by kernel_rfl) (by kernel_rfl) rfl ?_; clear s; intro wr hZ s; have hR := s.wd
    refine qt s hR rfl (yl_b (y_move s rfl) hs19) fun a s => ?_
    refine qt s hR rfl (y_move s rfl) fun a s => ?_
    refine q_pass s hR rfl rfl ⟨_, _, _, rfl, rfl, rfl, rfl⟩ rfl fun a s => ?_
    refine q_pass s hR rfl rfl ⟨_, _, _, rfl, rfl, rfl, rfl⟩ rfl fun a s => ?_
    refine q_pass s hR rfl rfl ⟨_, _, _, rfl, rfl, rfl, rfl⟩ rfl fun a s => ?_
    refine q_pass s hR rfl rfl ⟨_, _, _, rfl, rfl, rfl, rfl⟩ rfl fun a s => ?_
    refine q_pass s hR rfl rfl ⟨_, _, _, rfl, rfl, rfl, rfl⟩ rfl fun a s => ?_
    refine q_pass s hR rfl rfl ⟨_, _, _, rfl, rfl, rfl, rfl⟩ rfl fun a s => ?_
    refine q_pass s hR rfl rfl ⟨_, _, _, rfl, rfl, rfl, rfl⟩ rfl fun a s => ?_
    refine q_pass s hR rfl rfl ⟨_, _, _, rfl, rfl, rfl, rfl⟩ rfl fun a s => ?_
    refine q_pass s hR rfl rfl ⟨_, _, _, rfl, rfl, rfl, rfl⟩ rfl fun a s => ?_
    refine q_pass s hR rfl rfl ⟨_, _, _, rfl, rfl, rfl, rfl⟩ rfl fun a s => ?_
    refine q_pass s hR rfl rfl ⟨_, _, _, rfl, rfl, rfl, rfl⟩ rfl fun a s => ?_
    refine q_pass s hR rfl rfl ⟨_, _, _, rfl, rfl, rfl, rfl⟩ rfl fun a s => ?_
    refine q_pass s hR rfl rfl ⟨_, _, _, rfl, rfl, rfl, rfl⟩ rfl fun a s => ?_
    refine q_pass s hR rfl rfl ⟨_, _, _, rfl, rfl, rfl, rfl⟩ rfl fun a s => ?_
    refine q_pass s hR rfl rfl ⟨_, _, _, rfl, rfl, rfl, rfl⟩ rfl fun a s => ?_
    refine q_pass s hR rfl rfl ⟨_, _, _, rfl, rfl, rfl, rfl⟩ rfl fun a s => ?_
    refine q_pass s hR rfl rfl ⟨_, _, _, rfl, rfl, rfl, rfl⟩ rfl fun a s => ?_
    refine qt s hR rfl (y_pick_f s rfl rfl) fun a s => ?_
    refine qt s hR rfl (y_assign s rfl) fun a s => ?_
    clear hR hZ
    refine p_inN ?_
    apply pN
    apply wL
    refine mv s rfl rfl fun a s => ?_
    refine qq s rfl (y_addN (i := k_16) (j := 1) s rfl rfl (in64.2 (by omega))) fun a s => ?_
    refine asg s rfl rfl fun a s => ?_
    apply wN
    exact ⟨m2, Nat.lt_succ_self _, ⟨(false), (k_16 + 1), hg, (s.sb rfl rfl rfl)⟩⟩
   replace hg := br_f hg hc17
   apply wp_exit
   refine p_then ?_
   refine p_then ?_
   refine p_in ?_
   apply pN
   exact ⟨(free_15), hg, (s.sb rfl rfl rfl)⟩
  clear s a; rintro a w ⟨free_14, hg, s⟩
  subst hk13
  apply wR
  refine mv s rfl rfl fun a s => ?_
  apply wN
  refine c_cond s rfl (fun hc41 => ?_) (fun hc41 => ?_)
  ·replace hg := br_t hg hc41
   obtain ⟨x43, hx43, hg⟩ := bind_some hg
   obtain ⟨hk46, hg⟩ := chk_some hg
   apply wL
   refine mv s rfl rfl fun a s => ?_
   refine mv s rfl rfl fun a s => ?_
   refine mv s rfl rfl fun a s => ?_
   obtain ⟨p49, hep49, hpp49⟩ := SlR.elemX (s.ft 104 rfl) hx43
   refine qq s rfl (y_elem (sz := 1) (i := i_10) s rfl rfl underlying27 rfl hep49 rfl (lt_of_get hx43)) fun a s => ?_
   obtain ⟨hlq50, hmq50, csq50, hdq50, hcq50⟩ := hpp49
   obtain ⟨rfl, lq501⟩ := hdq50
   refine qq s rfl (y_ldp1 s rfl hlq50 hmq50 (hcq50 0 _ rfl) underlying9 rfl) fun a s => ?_
   refine l_seq rfl (l_buildDense (sz := 1) s 2205 rfl rfl rfl underlying27 rfl rfl rfl rfl rfl rfl rfl fun b51 a w hbb51 hK s => ?_)
   clear hbb51
   replace s := s.add 111 (rdF Rep.str (cellsOfL [vT x43]) ([x43])) (RdAll.cons (by exact ⟨rfl, (by omega)⟩) (RdAll.nil _ _ _))
   have hs53 := row_src (s.wd.holds 2205 _ rfl) (RdAll.one (s.ft 111 rfl))
   refine l_seq rfl (l_append (sz := 1) (by_ := 16) (N := (out_6 ++ [x43]).length) (ys := cs9 ++ (cellsOfL [vT x43])) s 700105 rfl rfl rfl underlying27 rfl rfl rfl rfl rfl hs53 (by first | (simp; done) | (simp; omega)) rfl (by have hr := hk46; clear hg; first | omega | (simp only [List.length_append, List.length_cons, List.length_nil] at hr ⊢; omega) | (simp at hr ⊢; omega)) (by have hr := hk46; clear hg; first | omega | (simp only [List.length_append, List.length_cons, List.length_nil] at hr ⊢; omega) | (simp at hr ⊢; omega)) rfl fun Aq52 cq52 a w hA hK s => ?_)
   replace s := s.add 112 (rdF Rep.str (cs9 ++ (cellsOfL [vT x43])) (out_6 ++ [x43])) (RdAll.append (s.ft 106 rfl) (s.ft 111 rfl))
   refine asg s rfl rfl fun a s => ?_
   apply wO
   refine p_inN ?_
   apply pN
   apply wL
   refine mv s rfl rfl fun a s => ?_
   refine qq s rfl (y_addN (i := i_10) (j := 1) s rfl rfl (in64.2 (by omega))) fun a s => ?_
   refine asg s rfl rfl fun a s => ?_
   apply wN
   replace s := s.add 106 (rdF Rep.str (cs9 ++ (cellsOfL [vT x43])) (out_6 ++ [x43])) (s.ft 112 rfl)
   exact ⟨m1, Nat.lt_succ_self _, ⟨(out_6 ++ [x43]), (i_10 + 1), (Aq52), (cq52), (cs9 ++ (cellsOfL [vT x43])), hg, (s.sb rfl rfl rfl)⟩⟩
  replace hg := br_n hg hc41
  apply wp_skip
  refine p_inN ?_
  apply pN
  apply wL
  refine mv s rfl rfl fun a s => ?_
  refine qq s rfl (y_addN (i := i_10) (j := 1) s rfl rfl (in64.2 (by omega))) fun a s => ?_
  refine asg s rfl rfl fun a s => ?_
  apply wN
  replace s := s.al 106 106 rfl
  exact ⟨m1, Nat.lt_succ_self _, ⟨(out_6), (i_10 + 1), (A7), (c8), (cs9), hg, (s.sb rfl rfl rfl)⟩⟩
 replace hg := br_f hg hc11
 apply wp_exit
 refine p_then ?_
 refine p_then ?_
 refine p_in ?_
 apply pN
 apply wR
 refine mv s rfl rfl fun a s => ?_
 refine asg s rfl rfl fun a s => ?_
 apply wN
 apply wp_ret
 obtain rfl := Option.some.inj hg
 refine fin1 (fn := Try.f27) s rfl (r_tmp s rfl) ?_
 exact ⟨(A7), (c8), rfl, (s.rowOut (R := Rep.str) (kk := 700105) rfl rfl (s.ft 106 rfl))⟩
end Go.Proofs.Ytoeolfnjblibpaa

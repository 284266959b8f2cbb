/- Chapter 41: the walk of ScopeConstraints -/
import Derived.Test.YtegboboemepifaaGreatDoorW5
namespace Go.Proofs.YtegboboemepifaaGreatDoor
open Go.Gl Go.RowKit Tryz
set_option linter.unusedVariables false
set_option linter.unusedSimpArgs false
set_option maxRecDepth 4000

set_option maxHeartbeats 400000 in
theorem c_law41_ScopeConstraints (n : Nat) (M : Bs) (w0 : World) (hM : ∀ b, M b → b < w0.heap.size) (m_ : MRS) (Ap03 : Option Addr) (cp03 : Nat) (Ap04 : Option Addr) (cp04 : Nat) (Ap05 : Option Addr) (cp05 : Nat) (hp03 : SlR Rep.str M w0 Ap03 (m_.Vars).length cp03 (m_.Vars)) (hp04 : SlR REP M w0 Ap04 (m_.Rels).length cp04 (m_.Rels)) (hp05 : SlR RQeq M w0 Ap05 (m_.Cons).length cp05 (m_.Cons)) (plug_ : (List Int)) (Ap11 : Option Addr) (cp11 : Nat) (hp11 : SlR (Rep.num .i64) M w0 Ap11 (plug_).length cp11 (plug_)) (hTab : (tabF Tryz.prog).p M w0) (r : Bool) (hg : law41_ScopeConstraints n m_ plug_ = some r) :
    Calls Tryz.prog 8 [.agg #[.int .i64 (m_.Top), .int .i64 (m_.Index), .slice (Ap03) ((m_.Vars).length) (cp03), .slice (Ap04) ((m_.Rels).length) (cp04), .slice (Ap05) ((m_.Cons).length) (cp05)], .slice (Ap11) ((plug_).length) (cp11)].toArray w0 (Ret noB w0 fun v w => v = .bool (r)) := by
 unfold law41_ScopeConstraints at hg
 refine enter M noB func8 rfl rfl hM ?_
 intro a s
 replace s := s.es 101 hp03
 replace s := s.es 102 hp04
 replace s := s.es 103 hp05
 replace s := s.es 104 hp11
 replace s := s.add 7 (tabF Tryz.prog) (by exact Fact.change _ enterM hTab)
 apply wR
 refine l_seq rfl (l_box (zs := [vI (m_.Top), vI (m_.Index), sl Ap03 (m_.Vars) cp03, sl Ap04 (m_.Rels) cp04, sl Ap05 (m_.Cons) cp05]) s 1000 rfl rfl rfl rfl fun b2 a w hb hK s => ?_)
 refine asg s rfl rfl fun a s => ?_
 apply wN
 apply wQ
 apply wQ
 obtain ⟨k3, hg, hk3⟩ := jn_some hg
 refine c_post (fun a w => ∃ (t_4 : Bool), k3 t_4 = some r ∧ St (⟨Tryz.f8.ntmps, M, noB, w0⟩ : Ctx) [(1, sl Ap11 (plug_) cp11), (2, vP b2 0), (14, .bool (t_4))] [(1000, Ob.box b2 [vI (m_.Top), vI (m_.Index), sl Ap03 (m_.Vars) cp03, sl Ap04 (m_.Rels) cp04, sl Ap05 (m_.Cons) cp05] 26)] [(7, tabF Tryz.prog), (101, slF Rep.str (Ap03) ((m_.Vars).length) (cp03) (m_.Vars)), (102, slF REP (Ap04) ((m_.Rels).length) (cp04) (m_.Rels)), (103, slF RQeq (Ap05) ((m_.Cons).length) (cp05) (m_.Cons)), (104, slF (Rep.num .i64) (Ap11) ((plug_).length) (cp11) (plug_))] a w) ?_ ?_
 ·obtain ⟨r5, hr5, hg⟩ := bind_some hg
  rcases Bool.eq_false_or_eq_true (!(r5)) with hs8 | hs8
  ·replace hg := br_t hg hs8
   apply wL
   refine qq s rfl (y_loadAll (kk := 1000) s rfl rfl underlying26 rfl rfl) fun a s => ?_
   refine l_seq rfl (l_call (cap := []) s rfl func9 rfl (by kernel_rfl) rfl rfl (c_law41_valid n _ _ s.lt m_ (Ap03) (cp03) (Ap04) (cp04) (Ap05) (cp05) (s.ft 101 rfl) (s.ft 102 rfl) (s.ft 103 rfl) r5 hr5) fun v9 a w hK hp s => ?_)
   obtain rfl := hp
   refine qq s rfl (yl_b (y_not s rfl) hs8) fun a s => ?_
   refine mv s rfl rfl fun a s => ?_
   refine gn s rfl fun a s => ?_
   refine gn s rfl fun a s => ?_
   refine gn s rfl fun a s => ?_
   refine qq s rfl (y_pick_t s rfl rfl) fun a s => ?_
   apply wN
   exact ⟨(true), hg, (s.sb rfl rfl rfl)⟩
  replace hg := br_n hg hs8
  apply wL
  refine qq s rfl (y_loadAll (kk := 1000) s rfl rfl underlying26 rfl rfl) fun a s => ?_
  refine l_seq rfl (l_call (cap := []) s rfl func9 rfl (by kernel_rfl) rfl rfl (c_law41_valid n _ _ s.lt m_ (Ap03) (cp03) (Ap04) (cp04) (Ap05) (cp05) (s.ft 101 rfl) (s.ft 102 rfl) (s.ft 103 rfl) r5 hr5) fun v11 a w hK hp s => ?_)
  obtain rfl := hp
  refine qq s rfl (yl_b (y_not s rfl) hs8) fun a s => ?_
  refine mv s rfl rfl fun a s => ?_
  refine gm s rfl rfl fun a s => ?_
  refine gy s rfl (y_lenSlice s rfl underlying30) fun a s => ?_
  refine gy s rfl (y_gtrN (i := ((plug_).length)) (j := 20) s rfl rfl) fun a s => ?_
  refine qq s rfl (y_pick_f s rfl rfl) fun a s => ?_
  apply wN
  exact ⟨(decide ((20 : Nat) < ((plug_).length))), hg, (s.sb rfl rfl rfl)⟩
 clear s a; rintro a w ⟨t_4, hg, s⟩
 subst hk3
 refine c_cond s rfl (fun hc13 => ?_) (fun hc13 => ?_)
 ·replace hg := br_t hg hc13
  apply wQ
  obtain ⟨r14, hr14, hg⟩ := bind_some hg
  apply wL
  refine l_seq rfl (l_call (cap := []) s rfl func10 rfl (by kernel_rfl) rfl rfl (c_law41_exampleHolds n _ _ s.lt (s.ft 7 rfl) r14 hr14) fun v17 a w hK hp s => ?_)
  obtain rfl := hp
  refine asg s rfl rfl fun a s => ?_
  apply wN
  apply wp_ret
  refine p_thenR ?_
  obtain rfl := Option.some.inj hg
  refine fin1 (fn := Tryz.f8) s rfl (r_tmp s rfl) ?_
  exact rfl
 replace hg := br_n hg hc13
 apply wp_skip
 apply pN
 apply wR
 refine qq s rfl (y_loadAll (kk := 1000) s rfl rfl underlying26 rfl rfl) fun a s => ?_
 refine l_seq rfl (l_alloc (zs := [vI 0, vI 0, .slice (none) (0) (0), .slice (none) (0) (0), .slice (none) (0) (0)]) s 1301 rfl rfl rfl rfl fun b20 a w hb hK s => ?_)
 refine l_seq rfl (l_store (n := 5) (cs' := [vI (m_.Top), vI (m_.Index), sl Ap03 (m_.Vars) cp03, sl Ap04 (m_.Rels) cp04, sl Ap05 (m_.Cons) cp05]) s 1301 rfl rfl rfl rfl rfl rfl rfl rfl ?_); clear s; intro w hK s; clear hK
 apply wN
 apply wR
 refine qq s rfl (y_boxField (o' := 4) s rfl underlying26 rfl rfl rfl) fun a s => ?_
 refine l_seq rfl (l_store (n := 1) (cs' := [vI (m_.Top), vI (m_.Index), sl Ap03 (m_.Vars) cp03, sl Ap04 (m_.Rels) cp04, .slice (none) (0) (0)]) s 1301 rfl rfl rfl rfl rfl rfl rfl rfl ?_); clear s; intro w hK s; clear hK
 apply wN
 apply wQ
 apply wR
 refine qq s rfl (y_boxField (o' := 4) s rfl underlying26 rfl rfl rfl) fun a s => ?_
 refine qq s rfl (y_loadBox1 (kk := 1000) s rfl rfl rfl underlying24 rfl) fun a s => ?_
 refine qq s rfl (y_lenSlice s rfl underlying24) fun a s => ?_
 refine mv s rfl rfl fun a s => ?_
 apply wN
 obtain ⟨k21, hg, hk21⟩ := jn_some hg
 refine c_post (fun a w => ∃ (n_22 : (List Qeq)) (A23 : Option Addr) (c24 : Nat) (cs25 : List Value), k21 n_22 = some r ∧ St (⟨Tryz.f8.ntmps, M, noB, w0⟩ : Ctx) [(1, sl Ap11 (plug_) cp11), (2, vP b2 0), (5, vP b20 0)] [(1000, Ob.box b2 [vI (m_.Top), vI (m_.Index), sl Ap03 (m_.Vars) cp03, sl Ap04 (m_.Rels) cp04, sl Ap05 (m_.Cons) cp05] 26), (1301, Ob.box b20 [vI (m_.Top), vI (m_.Index), sl Ap03 (m_.Vars) cp03, sl Ap04 (m_.Rels) cp04, sl A23 (n_22) c24] 26), (700105, Ob.row (A23) ((n_22).length) (c24) 48 2 (cs25))] [(7, tabF Tryz.prog), (101, slF Rep.str (Ap03) ((m_.Vars).length) (cp03) (m_.Vars)), (102, slF REP (Ap04) ((m_.Rels).length) (cp04) (m_.Rels)), (103, slF RQeq (Ap05) ((m_.Cons).length) (cp05) (m_.Cons)), (104, slF (Rep.num .i64) (Ap11) ((plug_).length) (cp11) (plug_)), (106, rdF RQeq (cs25) (n_22))] a w) ?_ ?_
 ·apply wp_block
  replace s := s.nilRow 700107 48 2 rfl
  replace s := s.add 108 (rdF RQeq [] []) (RdAll.nil _ _ _)
  refine c_loop (σ := Nat) (fun m1 a w => ∃ (t_26 : Nat) (n_27 : (List Qeq)) (A28 : Option Addr) (c29 : Nat) (cs30 : List Value), law41_ScopeConstraints_L0 n m_ k21 m1 t_26 n_27 = some r ∧ St (⟨Tryz.f8.ntmps, M, noB, w0⟩ : Ctx) [(1, sl Ap11 (plug_) cp11), (2, vP b2 0), (5, vP b20 0), (20, vI ((((m_.Cons).length : Nat) : Int))), (21, vI (((t_26 : Nat) : Int)))] [(1000, Ob.box b2 [vI (m_.Top), vI (m_.Index), sl Ap03 (m_.Vars) cp03, sl Ap04 (m_.Rels) cp04, sl Ap05 (m_.Cons) cp05] 26), (1301, Ob.box b20 [vI (m_.Top), vI (m_.Index), sl Ap03 (m_.Vars) cp03, sl Ap04 (m_.Rels) cp04, sl A28 (n_27) c29] 26), (700107, Ob.row (A28) ((n_27).length) (c29) 48 2 (cs30))] [(7, tabF Tryz.prog), (101, slF Rep.str (Ap03) ((m_.Vars).length) (cp03) (m_.Vars)), (102, slF REP (Ap04) ((m_.Rels).length) (cp04) (m_.Rels)), (103, slF RQeq (Ap05) ((m_.Cons).length) (cp05) (m_.Cons)), (104, slF (Rep.num .i64) (Ap11) ((plug_).length) (cp11) (plug_)), (108, rdF RQeq (cs30) (n_27))] a w) (fun m1 => m1) n ⟨(0), ([]), (none), (0), ([]), hg, (s.sb rfl rfl rfl)⟩ ?_
  clear s a; rintro m1 a w ⟨t_26, n_27, A28, c29, cs30, hg, s⟩
  rcases m1 with _ | m1
  ·rw [law41_ScopeConstraints_L0] at hg; cases hg
  rw [law41_ScopeConstraints_L0] at hg
  apply wR
  refine qq s rfl (y_lssN (i := t_26) (j := ((m_.Cons).length)) s rfl rfl) fun a s => ?_
  apply wN
  apply wQ
  refine c_dec s rfl (fun hc31 => ?_) (fun hc31 => ?_)
  ·replace hg := br_t hg hc31
   have hmx32 := SlR.mx (s.ft 103 rfl)
   apply wp_skip
   apply pN
   apply wQ
   apply wp_block
   apply wR
   refine mv s rfl rfl fun a s => ?_
   refine asg s rfl rfl fun a s => ?_
   apply wN
   obtain ⟨hk33, hg⟩ := chk_some hg
   obtain ⟨x35, hx35, hg⟩ := bind_some hg
   obtain ⟨hk38, hg⟩ := chk_some hg
   refine d_plan s [(13, 700107), (15, 1301)] [(0, some 0), (1, some 1301), (2, some 0), (3, some 1000), (4, some 0), (5, some 1000), (6, some 0), (7, some 0), (8, some 0), (9, some 0), (10, some 0), (11, some 0), (12, none), (13, none), (14, none), (15, none)] rfl (by kernel_rfl) (by kernel_rfl) rfl ?_; clear s; intro wr hZ s; have hR := s.wd
   refine qt s hR rfl (y_boxField (o' := 4) s rfl underlying26 rfl rfl rfl) fun a s => ?_
   refine qt s hR rfl (y_loadBox1 (kk := 1301) s rfl rfl rfl underlying24 rfl) fun a s => ?_
   refine qt s hR rfl (y_boxField (o' := 4) s rfl underlying26 rfl rfl rfl) fun a s => ?_
   refine qt s hR rfl (y_loadBox1 (kk := 1000) s rfl rfl rfl underlying24 rfl) fun a s => ?_
   refine qt s hR rfl (y_boxField (o' := 4) s rfl underlying26 rfl rfl rfl) fun a s => ?_
   refine qt s hR rfl (y_loadBox1 (kk := 1000) s rfl rfl rfl underlying24 rfl) fun a s => ?_
   refine qt s hR rfl (y_lenSlice s rfl underlying24) fun a s => ?_
   have hmx41 := SlR.mx (s.ft 103 rfl)
   refine qt s hR rfl (y_sub s rfl rfl (in64.2 (by omega))) fun a s => ?_
   refine qt s hR rfl (y_move s rfl) fun a s => ?_
   refine qt s hR rfl (y_sub s rfl rfl (in64.2 hk33)) fun a s => ?_
   obtain ⟨p42, hep42, hpp42⟩ := SlR.elemX (s.ft 103 rfl) (ix_some hx35).1
   refine qt s hR rfl (y_elem (sz := 2) (i := ((((((m_.Cons).length : Nat) : Int) - 1) - ((t_26 : Nat) : Int)).toNat)) s rfl rfl underlying24 rfl hep42 (ix_some hx35).2.1 (lt_of_get (ix_some hx35).1)) fun a s => ?_
   obtain ⟨hlq43, hmq43, csq43, hdq43, hcq43⟩ := hpp42
   obtain rfl := RQeq.open hdq43
   refine qt s hR rfl (y_ldp s rfl hlq43 hmq43 (by simpa using hcq43) underlying48 rfl rfl) fun a s => ?_
   refine l_take s rfl rfl (l_buildDense (sz := 2) s 1812 rfl rfl rfl underlying24 rfl rfl rfl rfl rfl rfl rfl fun b44 a w hbb44 hK s => ?_)
   have hNb44 := NewA.lit hZ hbb44
   clear hbb44
   replace hZ := Nat.le_trans hZ hK.size; refine ⟨fun g _ h => h.grow hK, ?_⟩; clear hK
   replace s := s.add 111 (rdF RQeq (cellsOfL [.agg #[vI (x35.High), vI (x35.Low)]]) ([x35])) (RdAll.cons (by exact (RQeq.mk' (x := x35) )) (RdAll.nil _ _ _))
   have hs46 := row_src (s.wd.holds 1812 _ rfl) (RdAll.one (s.ft 111 rfl))
   refine l_take s rfl rfl (l_append (sz := 2) (by_ := 16) (N := (n_27 ++ [x35]).length) (ys := cs30 ++ (cellsOfL [.agg #[vI (x35.High), vI (x35.Low)]])) s 700107 rfl rfl rfl underlying24 rfl rfl rfl rfl rfl hs46 (by simp) rfl (by have hr := hk38; clear hg; first | omega | (simp only [List.length_append, List.length_cons, List.length_nil] at hr ⊢; omega) | (simp at hr ⊢; omega)) (by have hr := hk38; clear hg; first | omega | (simp only [List.length_append, List.length_cons, List.length_nil] at hr ⊢; omega) | (simp at hr ⊢; omega)) rfl fun Aq45 cq45 a w hA hK s => ?_)
   replace hZ := Nat.le_trans hZ hK.size; refine ⟨fun g hg h => h.obj hR (kk := 700107) rfl hK (by rintro rfl; exact absurd hg (by decide)), ?_⟩
   replace s := s.add 112 (rdF RQeq (cs30 ++ (cellsOfL [.agg #[vI (x35.High), vI (x35.Low)]])) (n_27 ++ [x35])) (RdAll.append (s.ft 108 rfl) (s.ft 111 rfl))
   refine l_take s rfl rfl (l_quiet s rfl rfl (y_boxField (o' := 4) s rfl underlying26 rfl rfl rfl) fun a s => ?_); refine ⟨fun g _ h => h, ?_⟩
   refine l_take s rfl rfl (l_store (n := 1) (cs' := [vI (m_.Top), vI (m_.Index), sl Ap03 (m_.Vars) cp03, sl Ap04 (m_.Rels) cp04, sl Aq45 (n_27 ++ [x35]) cq45]) s 1301 rfl rfl rfl rfl rfl rfl rfl rfl ?_); clear s; intro w hK s; replace hZ := Nat.le_trans hZ hK.size
   refine ⟨fun g hg h => h.obj hR (kk := 1301) rfl hK (by rintro rfl; exact absurd hg (by decide)), ?_⟩; clear hK
   clear hR hZ
   refine p_inN ?_
   apply pN
   apply wL
   refine qq s rfl (y_addN (i := t_26) (j := 1) s rfl rfl (in64.2 (by omega))) fun a s => ?_
   refine mv s rfl rfl fun a s => ?_
   apply wN
   replace s := s.al 108 112 rfl
   exact ⟨m1, Nat.lt_succ_self _, ⟨(t_26 + 1), (n_27 ++ [x35]), (Aq45), (cq45), (cs30 ++ (cellsOfL [.agg #[vI (x35.High), vI (x35.Low)]])), hg, (s.sb rfl rfl rfl)⟩⟩
  replace hg := br_f hg hc31
  apply wp_exit
  refine p_then ?_
  refine p_then ?_
  refine p_in ?_
  apply pN
  replace s := s.al 106 108 rfl
  replace s := s.pk [(1000, 1000), (1301, 1301), (700105, 700107)] (by decide)
  exact ⟨(n_27), (A28), (c29), (cs30), hg, (s.sb rfl rfl rfl)⟩
 clear s a; rintro a w ⟨n_22, A23, c24, cs25, hg, s⟩
 subst hk21
 apply wQ
 obtain ⟨r47, hr47, hg⟩ := bind_some hg
 rcases Decidable.em (r47 ≠ 0) with hs50 | hs50
 ·have hs50e := decide_eq_true hs50
  replace hg := br_t hg hs50
  obtain ⟨r51, hr51, hg⟩ := bind_some hg
  refine d_steps s [] rfl ?_; clear s; intro wr hZ s; have hR := s.wd; have hE := Ext.init hR 0
  refine n_q 0 1301 s hR rfl (by kernel_rfl) (by kernel_rfl) (by kernel_rfl) rfl rfl rfl (y_loadAll (kk := 1301) s rfl rfl underlying26 rfl rfl) fun a s => ?_
  have hT := s
  replace hT := hT.fz (R := RQeq) (kk := 700105) [1000, 1301] 114 rfl rfl (hT.ft 106 rfl) rfl
  refine n_1 1 s (by kernel_rfl) rfl rfl (l_call (cap := []) s rfl func24 rfl (by kernel_rfl) rfl rfl (c_r39_Check n _ _ hT.lt (MRS.mk m_.Top m_.Index m_.Vars m_.Rels n_22) (Ap03) (cp03) (Ap04) (cp04) (A23) (c24) (hT.ft 101 rfl) (hT.ft 102 rfl) (hT.ft 114 rfl) r47 hr47) fun v54 a w hK hp s => ?_)
  replace hE := hE.grow hK; replace hZ := Nat.le_trans hZ hK.size; refine ⟨fun g _ h => h.grow hK, ?_⟩; clear hK
  obtain rfl := hp
  refine n_1 2 s (by kernel_rfl) rfl rfl (l_quiet s rfl rfl (yl_b (y_neq s rfl rfl) hs50e) fun a s => ?_); refine ⟨fun g _ h => h, ?_⟩
  refine n_1 3 s (by kernel_rfl) rfl rfl (l_quiet s rfl rfl (y_move s rfl) fun a s => ?_); refine ⟨fun g _ h => h, ?_⟩
  refine n_qlpass 4 s hE rfl (by kernel_rfl) (by kernel_rfl) (by kernel_rfl) rfl ⟨_, _, _, rfl, rfl, rfl, rfl⟩ rfl fun a s => ?_
  refine n_qlpass 5 s hE rfl (by kernel_rfl) (by kernel_rfl) (by kernel_rfl) rfl ⟨_, _, _, rfl, rfl, rfl, rfl⟩ rfl fun a s => ?_
  refine n_qlpass 6 s hE rfl (by kernel_rfl) (by kernel_rfl) (by kernel_rfl) rfl ⟨_, _, _, rfl, rfl, rfl, rfl⟩ rfl fun a s => ?_
  refine n_qlpass 7 s hE rfl (by kernel_rfl) (by kernel_rfl) (by kernel_rfl) rfl ⟨_, _, _, rfl, rfl, rfl, rfl⟩ rfl fun a s => ?_
  refine n_pass 8 s (by kernel_rfl) rfl ⟨_, _, _, rfl, rfl, rfl, rfl⟩ rfl rfl fun a s => ?_
  refine n_pass 9 s (by kernel_rfl) rfl ⟨_, _, _, rfl, rfl, rfl, rfl⟩ rfl rfl fun a s => ?_
  refine n_pass 10 s (by kernel_rfl) rfl ⟨_, _, _, rfl, rfl, rfl, rfl⟩ rfl rfl fun a s => ?_
  refine n_1 11 s (by kernel_rfl) rfl rfl (l_quiet s rfl rfl (y_pick_t s rfl rfl) fun a s => ?_); refine ⟨fun g _ h => h, ?_⟩
  refine n_1 12 s (by kernel_rfl) rfl rfl (l_quiet s rfl rfl (y_move s rfl) fun a s => ?_); refine ⟨fun g _ h => h, ?_⟩
  refine n_1 13 s (by kernel_rfl) rfl ⟨_, _, _, rfl, rfl, rfl, rfl⟩ (l_call (cap := []) s rfl func10 rfl (by kernel_rfl) rfl rfl (c_law41_exampleHolds n _ _ s.lt (s.ft 7 rfl) r51 hr51) fun v56 a w hK hp s => ?_)
  replace hE := hE.grow hK; replace hZ := Nat.le_trans hZ hK.size; refine ⟨fun g _ h => h.grow hK, ?_⟩; clear hK
  obtain rfl := hp
  refine n_1 14 s (by kernel_rfl) rfl rfl (l_quiet s rfl rfl (y_pick_t s rfl rfl) fun a s => ?_); refine ⟨fun g _ h => h, ?_⟩
  refine n_1 15 s (by kernel_rfl) rfl rfl (l_quiet s rfl rfl (y_assign s rfl) fun a s => ?_); refine ⟨fun g _ h => h, ?_⟩
  refine n_end (by kernel_rfl) ?_; clear hR hZ hE
  apply pN
  apply wp_ret
  obtain rfl := Option.some.inj hg
  refine fin1 (fn := Tryz.f8) s rfl (r_tmp s rfl) ?_
  exact rfl
 have hs50e := decide_eq_false hs50
 replace hg := br_f hg hs50
 obtain ⟨r58, hr58, hg⟩ := bind_some hg
 obtain ⟨r61, hr61, hg⟩ := bind_some hg
 rcases Decidable.em (r58 = r61) with hs64 | hs64
 ·have hs64e := decide_eq_true hs64
  replace hg := br_t hg hs64
  obtain ⟨r65, hr65, hg⟩ := bind_some hg
  refine d_steps s [] rfl ?_; clear s; intro wr hZ s; have hR := s.wd; have hE := Ext.init hR 0
  refine n_q 0 1301 s hR rfl (by kernel_rfl) (by kernel_rfl) (by kernel_rfl) rfl rfl rfl (y_loadAll (kk := 1301) s rfl rfl underlying26 rfl rfl) fun a s => ?_
  have hT := s
  replace hT := hT.fz (R := RQeq) (kk := 700105) [1000, 1301] 116 rfl rfl (hT.ft 106 rfl) rfl
  refine n_1 1 s (by kernel_rfl) rfl rfl (l_call (cap := []) s rfl func24 rfl (by kernel_rfl) rfl rfl (c_r39_Check n _ _ hT.lt (MRS.mk m_.Top m_.Index m_.Vars m_.Rels n_22) (Ap03) (cp03) (Ap04) (cp04) (A23) (c24) (hT.ft 101 rfl) (hT.ft 102 rfl) (hT.ft 116 rfl) r47 hr47) fun v68 a w hK hp s => ?_)
  replace hE := hE.grow hK; replace hZ := Nat.le_trans hZ hK.size; refine ⟨fun g _ h => h.grow hK, ?_⟩; clear hK
  obtain rfl := hp
  refine n_1 2 s (by kernel_rfl) rfl rfl (l_quiet s rfl rfl (yl_b (y_neq s rfl rfl) hs50e) fun a s => ?_); refine ⟨fun g _ h => h, ?_⟩
  refine n_1 3 s (by kernel_rfl) rfl rfl (l_quiet s rfl rfl (y_move s rfl) fun a s => ?_); refine ⟨fun g _ h => h, ?_⟩
  refine n_ql 5 s hE rfl (by kernel_rfl) (by kernel_rfl) (by kernel_rfl) rfl ⟨_, _, _, rfl, rfl, rfl, rfl⟩ rfl (fun w' s => y_move s rfl) fun a s => ?_
  refine n_ql 8 s hE rfl (by kernel_rfl) (by kernel_rfl) (by kernel_rfl) rfl ⟨_, _, _, rfl, rfl, rfl, rfl⟩ rfl (fun w' s => y_move s rfl) fun a s => ?_
  refine n_2 4 7 s (by kernel_rfl) rfl ⟨_, _, _, rfl, rfl, rfl, rfl⟩ rfl ⟨_, _, _, rfl, rfl, rfl, rfl⟩ ?_ ?_
  ·refine l_quiet s rfl rfl (y_loadAll (kk := 1301) s rfl rfl underlying26 rfl rfl) fun a s => ?_; refine ⟨fun g _ h => h, ?_⟩
   refine n_2 6 7 s (by kernel_rfl) rfl ⟨_, _, _, rfl, rfl, rfl, rfl⟩ rfl ⟨_, _, _, rfl, rfl, rfl, rfl⟩ ?_ ?_
   ·have hT := s
    replace hT := hT.fz (R := RQeq) (kk := 700105) [1000, 1301] 117 rfl rfl (hT.ft 106 rfl) rfl
    refine l_call (cap := []) s rfl func19 rfl (by kernel_rfl) rfl rfl (c_scope_Valid n _ _ hT.lt (MRS.mk m_.Top m_.Index m_.Vars m_.Rels n_22) (Ap03) (cp03) (Ap04) (cp04) (A23) (c24) (hT.ft 101 rfl) (hT.ft 102 rfl) (hT.ft 117 rfl) plug_ (Ap11) (cp11) (hT.ft 104 rfl) r58 hr58) fun v70 a w hK hp s => ?_
    replace hE := hE.grow hK; replace hZ := Nat.le_trans hZ hK.size; refine ⟨fun g _ h => h.grow hK, ?_⟩; clear hK
    obtain rfl := hp
    refine n_1 7 s (by kernel_rfl) rfl ⟨_, _, _, rfl, rfl, rfl, rfl⟩ (l_quiet s rfl rfl (y_loadAll (kk := 1000) s rfl rfl underlying26 rfl rfl) fun a s => ?_); refine ⟨fun g _ h => h, ?_⟩
    refine n_1 9 s (by kernel_rfl) rfl ⟨_, _, _, rfl, rfl, rfl, rfl⟩ (l_call (cap := []) s rfl func19 rfl (by kernel_rfl) rfl rfl (c_scope_Valid n _ _ s.lt m_ (Ap03) (cp03) (Ap04) (cp04) (Ap05) (cp05) (s.ft 101 rfl) (s.ft 102 rfl) (s.ft 103 rfl) plug_ (Ap11) (cp11) (s.ft 104 rfl) r61 hr61) fun v72 a w hK hp s => ?_)
    replace hE := hE.grow hK; replace hZ := Nat.le_trans hZ hK.size; refine ⟨fun g _ h => h.grow hK, ?_⟩; clear hK
    obtain rfl := hp
    refine n_1 10 s (by kernel_rfl) rfl ⟨_, _, _, rfl, rfl, rfl, rfl⟩ (l_quiet s rfl rfl (yl_b (y_eql s rfl rfl) hs64e) fun a s => ?_); refine ⟨fun g _ h => h, ?_⟩
    refine n_1 11 s (by kernel_rfl) rfl rfl (l_quiet s rfl rfl (y_pick_f s rfl rfl) fun a s => ?_); refine ⟨fun g _ h => h, ?_⟩
    refine n_1 12 s (by kernel_rfl) rfl rfl (l_quiet s rfl rfl (y_move s rfl) fun a s => ?_); refine ⟨fun g _ h => h, ?_⟩
    refine n_1 13 s (by kernel_rfl) rfl ⟨_, _, _, rfl, rfl, rfl, rfl⟩ (l_call (cap := []) s rfl func10 rfl (by kernel_rfl) rfl rfl (c_law41_exampleHolds n _ _ s.lt (s.ft 7 rfl) r65 hr65) fun v74 a w hK hp s => ?_)
    replace hE := hE.grow hK; replace hZ := Nat.le_trans hZ hK.size; refine ⟨fun g _ h => h.grow hK, ?_⟩; clear hK
    obtain rfl := hp
    refine n_1 14 s (by kernel_rfl) rfl rfl (l_quiet s rfl rfl (y_pick_t s rfl rfl) fun a s => ?_); refine ⟨fun g _ h => h, ?_⟩
    refine n_1 15 s (by kernel_rfl) rfl rfl (l_quiet s rfl rfl (y_assign s rfl) fun a s => ?_); refine ⟨fun g _ h => h, ?_⟩
    refine n_end (by kernel_rfl) ?_; clear hR hZ hE
    apply pN
    apply wp_ret
    obtain rfl := Option.some.inj hg
    refine fin1 (fn := Tryz.f8) s rfl (r_tmp s rfl) ?_
    exact rfl
   ·refine l_quiet s rfl rfl (y_loadAll (kk := 1000) s rfl rfl underlying26 rfl rfl) fun a s => ?_; refine ⟨fun g _ h => h, ?_⟩
    have hT := s
    replace hT := hT.fz (R := RQeq) (kk := 700105) [1000, 1301] 118 rfl rfl (hT.ft 106 rfl) rfl
    refine n_1 6 s (by kernel_rfl) rfl ⟨_, _, _, rfl, rfl, rfl, rfl⟩ (l_call (cap := []) s rfl func19 rfl (by kernel_rfl) rfl rfl (c_scope_Valid n _ _ hT.lt (MRS.mk m_.Top m_.Index m_.Vars m_.Rels n_22) (Ap03) (cp03) (Ap04) (cp04) (A23) (c24) (hT.ft 101 rfl) (hT.ft 102 rfl) (hT.ft 118 rfl) plug_ (Ap11) (cp11) (hT.ft 104 rfl) r58 hr58) fun v76 a w hK hp s => ?_)
    replace hE := hE.grow hK; replace hZ := Nat.le_trans hZ hK.size; refine ⟨fun g _ h => h.grow hK, ?_⟩; clear hK
    obtain rfl := hp
    refine n_1 9 s (by kernel_rfl) rfl ⟨_, _, _, rfl, rfl, rfl, rfl⟩ (l_call (cap := []) s rfl func19 rfl (by kernel_rfl) rfl rfl (c_scope_Valid n _ _ s.lt m_ (Ap03) (cp03) (Ap04) (cp04) (Ap05) (cp05) (s.ft 101 rfl) (s.ft 102 rfl) (s.ft 103 rfl) plug_ (Ap11) (cp11) (s.ft 104 rfl) r61 hr61) fun v78 a w hK hp s => ?_)
    replace hE := hE.grow hK; replace hZ := Nat.le_trans hZ hK.size; refine ⟨fun g _ h => h.grow hK, ?_⟩; clear hK
    obtain rfl := hp
    refine n_1 10 s (by kernel_rfl) rfl ⟨_, _, _, rfl, rfl, rfl, rfl⟩ (l_quiet s rfl rfl (yl_b (y_eql s rfl rfl) hs64e) fun a s => ?_); refine ⟨fun g _ h => h, ?_⟩
    refine n_1 11 s (by kernel_rfl) rfl rfl (l_quiet s rfl rfl (y_pick_f s rfl rfl) fun a s => ?_); refine ⟨fun g _ h => h, ?_⟩
    refine n_1 12 s (by kernel_rfl) rfl rfl (l_quiet s rfl rfl (y_move s rfl) fun a s => ?_); refine ⟨fun g _ h => h, ?_⟩
    refine n_1 13 s (by kernel_rfl) rfl ⟨_, _, _, rfl, rfl, rfl, rfl⟩ (l_call (cap := []) s rfl func10 rfl (by kernel_rfl) rfl rfl (c_law41_exampleHolds n _ _ s.lt (s.ft 7 rfl) r65 hr65) fun v80 a w hK hp s => ?_)
    replace hE := hE.grow hK; replace hZ := Nat.le_trans hZ hK.size; refine ⟨fun g _ h => h.grow hK, ?_⟩; clear hK
    obtain rfl := hp
    refine n_1 14 s (by kernel_rfl) rfl rfl (l_quiet s rfl rfl (y_pick_t s rfl rfl) fun a s => ?_); refine ⟨fun g _ h => h, ?_⟩
    refine n_1 15 s (by kernel_rfl) rfl rfl (l_quiet s rfl rfl (y_assign s rfl) fun a s => ?_); refine ⟨fun g _ h => h, ?_⟩
    refine n_end (by kernel_rfl) ?_; clear hR hZ hE
    apply pN
    apply wp_ret
    obtain rfl := Option.some.inj hg
    refine fin1 (fn := Tryz.f8) s rfl (r_tmp s rfl) ?_
    exact rfl
  ·refine l_quiet s rfl rfl (y_loadAll (kk := 1000) s rfl rfl underlying26 rfl rfl) fun a s => ?_; refine ⟨fun g _ h => h, ?_⟩
   refine n_1 4 s (by kernel_rfl) rfl ⟨_, _, _, rfl, rfl, rfl, rfl⟩ (l_quiet s rfl rfl (y_loadAll (kk := 1301) s rfl rfl underlying26 rfl rfl) fun a s => ?_); refine ⟨fun g _ h => h, ?_⟩
   have hT := s
   replace hT := hT.fz (R := RQeq) (kk := 700105) [1000, 1301] 119 rfl rfl (hT.ft 106 rfl) rfl
   refine n_1 6 s (by kernel_rfl) rfl ⟨_, _, _, rfl, rfl, rfl, rfl⟩ (l_call (cap := []) s rfl func19 rfl (by kernel_rfl) rfl rfl (c_scope_Valid n _ _ hT.lt (MRS.mk m_.Top m_.Index m_.Vars m_.Rels n_22) (Ap03) (cp03) (Ap04) (cp04) (A23) (c24) (hT.ft 101 rfl) (hT.ft 102 rfl) (hT.ft 119 rfl) plug_ (Ap11) (cp11) (hT.ft 104 rfl) r58 hr58) fun v82 a w hK hp s => ?_)
   replace hE := hE.grow hK; replace hZ := Nat.le_trans hZ hK.size; refine ⟨fun g _ h => h.grow hK, ?_⟩; clear hK
   obtain rfl := hp
   refine n_1 9 s (by kernel_rfl) rfl ⟨_, _, _, rfl, rfl, rfl, rfl⟩ (l_call (cap := []) s rfl func19 rfl (by kernel_rfl) rfl rfl (c_scope_Valid n _ _ s.lt m_ (Ap03) (cp03) (Ap04) (cp04) (Ap05) (cp05) (s.ft 101 rfl) (s.ft 102 rfl) (s.ft 103 rfl) plug_ (Ap11) (cp11) (s.ft 104 rfl) r61 hr61) fun v84 a w hK hp s => ?_)
   replace hE := hE.grow hK; replace hZ := Nat.le_trans hZ hK.size; refine ⟨fun g _ h => h.grow hK, ?_⟩; clear hK
   obtain rfl := hp
   refine n_1 10 s (by kernel_rfl) rfl ⟨_, _, _, rfl, rfl, rfl, rfl⟩ (l_quiet s rfl rfl (yl_b (y_eql s rfl rfl) hs64e) fun a s => ?_); refine ⟨fun g _ h => h, ?_⟩
   refine n_1 11 s (by kernel_rfl) rfl rfl (l_quiet s rfl rfl (y_pick_f s rfl rfl) fun a s => ?_); refine ⟨fun g _ h => h, ?_⟩
   refine n_1 12 s (by kernel_rfl) rfl rfl (l_quiet s rfl rfl (y_move s rfl) fun a s => ?_); refine ⟨fun g _ h => h, ?_⟩
   refine n_1 13 s (by kernel_rfl) rfl ⟨_, _, _, rfl, rfl, rfl, rfl⟩ (l_call (cap := []) s rfl func10 rfl (by kernel_rfl) rfl rfl (c_law41_exampleHolds n _ _ s.lt (s.ft 7 rfl) r65 hr65) fun v86 a w hK hp s => ?_)
   replace hE := hE.grow hK; replace hZ := Nat.le_trans hZ hK.size; refine ⟨fun g _ h => h.grow hK, ?_⟩; clear hK
   obtain rfl := hp
   refine n_1 14 s (by kernel_rfl) rfl rfl (l_quiet s rfl rfl (y_pick_t s rfl rfl) fun a s => ?_); refine ⟨fun g _ h => h, ?_⟩
   refine n_1 15 s (by kernel_rfl) rfl rfl (l_quiet s rfl rfl (y_assign s rfl) fun a s => ?_); refine ⟨fun g _ h => h, ?_⟩
   refine n_end (by kernel_rfl) ?_; clear hR hZ hE
   apply pN
   apply wp_ret
   obtain rfl := Option.some.inj hg
   refine fin1 (fn := Tryz.f8) s rfl (r_tmp s rfl) ?_
   exact rfl
 have hs64e := decide_eq_false hs64
 replace hg := br_f hg hs64
 refine d_steps s [] rfl ?_; clear s; intro wr hZ s; have hR := s.wd; have hE := Ext.init hR 0
 refine n_q 0 1301 s hR rfl (by kernel_rfl) (by kernel_rfl) (by kernel_rfl) rfl rfl rfl (y_loadAll (kk := 1301) s rfl rfl underlying26 rfl rfl) fun a s => ?_
 have hT := s
 replace hT := hT.fz (R := RQeq) (kk := 700105) [1000, 1301] 120 rfl rfl (hT.ft 106 rfl) rfl
 refine n_1 1 s (by kernel_rfl) rfl rfl (l_call (cap := []) s rfl func24 rfl (by kernel_rfl) rfl rfl (c_r39_Check n _ _ hT.lt (MRS.mk m_.Top m_.Index m_.Vars m_.Rels n_22) (Ap03) (cp03) (Ap04) (cp04) (A23) (c24) (hT.ft 101 rfl) (hT.ft 102 rfl) (hT.ft 120 rfl) r47 hr47) fun v88 a w hK hp s => ?_)
 replace hE := hE.grow hK; replace hZ := Nat.le_trans hZ hK.size; refine ⟨fun g _ h => h.grow hK, ?_⟩; clear hK
 obtain rfl := hp
 refine n_1 2 s (by kernel_rfl) rfl rfl (l_quiet s rfl rfl (yl_b (y_neq s rfl rfl) hs50e) fun a s => ?_); refine ⟨fun g _ h => h, ?_⟩
 refine n_1 3 s (by kernel_rfl) rfl rfl (l_quiet s rfl rfl (y_move s rfl) fun a s => ?_); refine ⟨fun g _ h => h, ?_⟩
 refine n_ql 5 s hE rfl (by kernel_rfl) (by kernel_rfl) (by kernel_rfl) rfl ⟨_, _, _, rfl, rfl, rfl, rfl⟩ rfl (fun w' s => y_move s rfl) fun a s => ?_
 refine n_ql 8 s hE rfl (by kernel_rfl) (by kernel_rfl) (by kernel_rfl) rfl ⟨_, _, _, rfl, rfl, rfl, rfl⟩ rfl (fun w' s => y_move s rfl) fun a s => ?_
 refine n_2 4 7 s (by kernel_rfl) rfl ⟨_, _, _, rfl, rfl, rfl, rfl⟩ rfl ⟨_, _, _, rfl, rfl, rfl, rfl⟩ ?_ ?_
 ·refine l_quiet s rfl rfl (y_loadAll (kk := 1301) s rfl rfl underlying26 rfl rfl) fun a s => ?_; refine ⟨fun g _ h => h, ?_⟩
  refine n_2 6 7 s (by kernel_rfl) rfl ⟨_, _, _, rfl, rfl, rfl, rfl⟩ rfl ⟨_, _, _, rfl, rfl, rfl, rfl⟩ ?_ ?_
  ·have hT := s
   replace hT := hT.fz (R := RQeq) (kk := 700105) [1000, 1301] 121 rfl rfl (hT.ft 106 rfl) rfl
   refine l_call (cap := []) s rfl func19 rfl (by kernel_rfl) rfl rfl (c_scope_Valid n _ _ hT.lt (MRS.mk m_.Top m_.Index m_.Vars m_.Rels n_22) (Ap03) (cp03) (Ap04) (cp04) (A23) (c24) (hT.ft 101 rfl) (hT.ft 102 rfl) (hT.ft 121 rfl) plug_ (Ap11) (cp11) (hT.ft 104 rfl) r58 hr58) fun v90 a w hK hp s => ?_
   replace hE := hE.grow hK; replace hZ := Nat.le_trans hZ hK.size; refine ⟨fun g _ h => h.grow hK, ?_⟩; clear hK
   obtain rfl := hp
   refine n_1 7 s (by kernel_rfl) rfl ⟨_, _, _, rfl, rfl, rfl, rfl⟩ (l_quiet s rfl rfl (y_loadAll (kk := 1000) s rfl rfl underlying26 rfl rfl) fun a s => ?_); refine ⟨fun g _ h => h, ?_⟩
   refine n_1 9 s (by kernel_rfl) rfl ⟨_, _, _, rfl, rfl, rfl, rfl⟩ (l_call (cap := []) s rfl func19 rfl (by kernel_rfl) rfl rfl (c_scope_Valid n _ _ s.lt m_ (Ap03) (cp03) (Ap04) (cp04) (Ap05) (cp05) (s.ft 101 rfl) (s.ft 102 rfl) (s.ft 103 rfl) plug_ (Ap11) (cp11) (s.ft 104 rfl) r61 hr61) fun v92 a w hK hp s => ?_)
   replace hE := hE.grow hK; replace hZ := Nat.le_trans hZ hK.size; refine ⟨fun g _ h => h.grow hK, ?_⟩; clear hK
   obtain rfl := hp
   refine n_1 10 s (by kernel_rfl) rfl ⟨_, _, _, rfl, rfl, rfl, rfl⟩ (l_quiet s rfl rfl (yl_b (y_eql s rfl rfl) hs64e) fun a s => ?_); refine ⟨fun g _ h => h, ?_⟩
   refine n_1 11 s (by kernel_rfl) rfl rfl (l_quiet s rfl rfl (y_pick_f s rfl rfl) fun a s => ?_); refine ⟨fun g _ h => h, ?_⟩
   refine n_1 12 s (by kernel_rfl) rfl rfl (l_quiet s rfl rfl (y_move s rfl) fun a s => ?_); refine ⟨fun g _ h => h, ?_⟩
   refine n_pass 13 s (by kernel_rfl) rfl ⟨_, _, _, rfl, rfl, rfl, rfl⟩ rfl rfl fun a s => ?_
   refine n_1 14 s (by kernel_rfl) rfl rfl (l_quiet s rfl rfl (y_pick_f s rfl rfl) fun a s => ?_); refine ⟨fun g _ h => h, ?_⟩
   refine n_1 15 s (by kernel_rfl) rfl rfl (l_quiet s rfl rfl (y_assign s rfl) fun a s => ?_); refine ⟨fun g _ h => h, ?_⟩
   refine n_end (by kernel_rfl) ?_; clear hR hZ hE
   apply pN
   apply wp_ret
   obtain rfl := Option.some.inj hg
   refine fin1 (fn := Tryz.f8) s rfl (r_tmp s rfl) ?_
   exact rfl
  ·refine l_quiet s rfl rfl (y_loadAll (kk := 1000) s rfl rfl underlying26 rfl rfl) fun a s => ?_; refine ⟨fun g _ h => h, ?_⟩
   have hT := s
   replace hT := hT.fz (R := RQeq) (kk := 700105) [1000, 1301] 122 rfl rfl (hT.ft 106 rfl) rfl
   refine n_1 6 s (by kernel_rfl) rfl ⟨_, _, _, rfl, rfl, rfl, rfl⟩ (l_call (cap := []) s rfl func19 rfl (by kernel_rfl) rfl rfl (c_scope_Valid n _ _ hT.lt (MRS.mk m_.Top m_.Index m_.Vars m_.Rels n_22) (Ap03) (cp03) (Ap04) (cp04) (A23) (c24) (hT.ft 101 rfl) (hT.ft 102 rfl) (hT.ft 122 rfl) plug_ (Ap11) (cp11) (hT.ft 104 rfl) r58 hr58) fun v94 a w hK hp s => ?_)
   replace hE := hE.grow hK; replace hZ := Nat.le_trans hZ hK.size; refine ⟨fun g _ h => h.grow hK, ?_⟩; clear hK
   obtain rfl := hp
   refine n_1 9 s (by kernel_rfl) rfl ⟨_, _, _, rfl, rfl, rfl, rfl⟩ (l_call (cap := []) s rfl func19 rfl (by kernel_rfl) rfl rfl (c_scope_Valid n _ _ s.lt m_ (Ap03) (cp03) (Ap04) (cp04) (Ap05) (cp05) (s.ft 101 rfl) (s.ft 102 rfl) (s.ft 103 rfl) plug_ (Ap11) (cp11) (s.ft 104 rfl) r61 hr61) fun v96 a w hK hp s => ?_)
   replace hE := hE.grow hK; replace hZ := Nat.le_trans hZ hK.size; refine ⟨fun g _ h => h.grow hK, ?_⟩; clear hK
   obtain rfl := hp
   refine n_1 10 s (by kernel_rfl) rfl ⟨_, _, _, rfl, rfl, rfl, rfl⟩ (l_quiet s rfl rfl (yl_b (y_eql s rfl rfl) hs64e) fun a s => ?_); refine ⟨fun g _ h => h, ?_⟩
   refine n_1 11 s (by kernel_rfl) rfl rfl (l_quiet s rfl rfl (y_pick_f s rfl rfl) fun a s => ?_); refine ⟨fun g _ h => h, ?_⟩
   refine n_1 12 s (by kernel_rfl) rfl rfl (l_quiet s rfl rfl (y_move s rfl) fun a s => ?_); refine ⟨fun g _ h => h, ?_⟩
   refine n_pass 13 s (by kernel_rfl) rfl ⟨_, _, _, rfl, rfl, rfl, rfl⟩ rfl rfl fun a s => ?_
   refine n_1 14 s (by kernel_rfl) rfl rfl (l_quiet s rfl rfl (y_pick_f s rfl rfl) fun a s => ?_); refine ⟨fun g _ h => h, ?_⟩
   refine n_1 15 s (by kernel_rfl) rfl rfl (l_quiet s rfl rfl (y_assign s rfl) fun a s => ?_); refine ⟨fun g _ h => h, ?_⟩
   refine n_end (by kernel_rfl) ?_; clear hR hZ hE
   apply pN
   apply wp_ret
   obtain rfl := Option.some.inj hg
   refine fin1 (fn := Tryz.f8) s rfl (r_tmp s rfl) ?_
   exact rfl
 ·refine l_quiet s rfl rfl (y_loadAll (kk := 1000) s rfl rfl underlying26 rfl rfl) fun a s => ?_; refine ⟨fun g _ h => h, ?_⟩
  refine n_1 4 s (by kernel_rfl) rfl ⟨_, _, _, rfl, rfl, rfl, rfl⟩ (l_quiet s rfl rfl (y_loadAll (kk := 1301) s rfl rfl underlying26 rfl rfl) fun a s => ?_); refine ⟨fun g _ h => h, ?_⟩
  have hT := s
  replace hT := hT.fz (R := RQeq) (kk := 700105) [1000, 1301] 123 rfl rfl (hT.ft 106 rfl) rfl
  refine n_1 6 s (by kernel_rfl) rfl ⟨_, _, _, rfl, rfl, rfl, rfl⟩ (l_call (cap := []) s rfl func19 rfl (by kernel_rfl) rfl rfl (c_scope_Valid n _ _ hT.lt (MRS.mk m_.Top m_.Index m_.Vars m_.Rels n_22) (Ap03) (cp03) (Ap04) (cp04) (A23) (c24) (hT.ft 101 rfl) (hT.ft 102 rfl) (hT.ft 123 rfl) plug_ (Ap11) (cp11) (hT.ft 104 rfl) r58 hr58) fun v98 a w hK hp s => ?_)
  replace hE := hE.grow hK; replace hZ := Nat.le_trans hZ hK.size; refine ⟨fun g _ h => h.grow hK, ?_⟩; clear hK
  obtain rfl := hp
  refine n_1 9 s (by kernel_rfl) rfl ⟨_, _, _, rfl, rfl, rfl, rfl⟩ (l_call (cap := []) s rfl func19 rfl (by kernel_rfl) rfl rfl (c_scope_Valid n _ _ s.lt m_ (Ap03) (cp03) (Ap04) (cp04) (Ap05) (cp05) (s.ft 101 rfl) (s.ft 102 rfl) (s.ft 103 rfl) plug_ (Ap11) (cp11) (s.ft 104 rfl) r61 hr61) fun v100 a w hK hp s => ?_)
  replace hE := hE.grow hK; replace hZ := Nat.le_trans hZ hK.size; refine ⟨fun g _ h => h.grow hK, ?_⟩; clear hK
  obtain rfl := hp
  refine n_1 10 s (by kernel_rfl) rfl ⟨_, _, _, rfl, rfl, rfl, rfl⟩ (l_quiet s rfl rfl (yl_b (y_eql s rfl rfl) hs64e) fun a s => ?_); refine ⟨fun g _ h => h, ?_⟩
  refine n_1 11 s (by kernel_rfl) rfl rfl (l_quiet s rfl rfl (y_pick_f s rfl rfl) fun a s => ?_); refine ⟨fun g _ h => h, ?_⟩
  refine n_1 12 s (by kernel_rfl) rfl rfl (l_quiet s rfl rfl (y_move s rfl) fun a s => ?_); refine ⟨fun g _ h => h, ?_⟩
  refine n_pass 13 s (by kernel_rfl) rfl ⟨_, _, _, rfl, rfl, rfl, rfl⟩ rfl rfl fun a s => ?_
  refine n_1 14 s (by kernel_rfl) rfl rfl (l_quiet s rfl rfl (y_pick_f s rfl rfl) fun a s => ?_); refine ⟨fun g _ h => h, ?_⟩
  refine n_1 15 s (by kernel_rfl) rfl rfl (l_quiet s rfl rfl (y_assign s rfl) fun a s => ?_); refine ⟨fun g _ h => h, ?_⟩
  refine n_end (by kernel_rfl) ?_; clear hR hZ hE
  apply pN
  apply wp_ret
  obtain rfl := Option.some.inj hg
  refine fin1 (fn := Tryz.f8) s rfl (r_tmp s rfl) ?_
  exact rfl
end Go.Proofs.YtegboboemepifaaGreatDoor


/- Chapter 41: the walks, part 2 -/
import Derived.Test.YtegboboemepifaaGreatDoorW1
namespace Go.Proofs.YtegboboemepifaaGreatDoor
open Go.Gl Go.RowKit Tryz
set_option linter.unusedVariables false
set_option linter.unusedSimpArgs false
set_option maxRecDepth 4000

set_option maxHeartbeats 400000 in
theorem c_scope_tree_form (n : Nat) (M : Bs) (w0 : World) (hM : ∀ b, M b → b < w0.heap.size) (t_ : tree) (Ap03 : Option Addr) (cp03 : Nat) (Ap04 : Option Addr) (cp04 : Nat) (Ap05 : Option Addr) (cp05 : Nat) (Ap06 : Option Addr) (cp06 : Nat) (Ap07 : Option Addr) (cp07 : Nat) (hp03 : SlR Rep.str M w0 Ap03 (t_.m_.Vars).length cp03 (t_.m_.Vars)) (hp04 : SlR REP M w0 Ap04 (t_.m_.Rels).length cp04 (t_.m_.Rels)) (hp05 : SlR RQeq M w0 Ap05 (t_.m_.Cons).length cp05 (t_.m_.Cons)) (hp06 : SlR (Rep.num .i64) M w0 Ap06 (t_.labels_).length cp06 (t_.labels_)) (hp07 : SlR (Rep.num .i64) M w0 Ap07 (t_.at_).length cp07 (t_.at_)) (r : Bool) (hg : scope_tree_form n t_ = some r) :
    Calls Tryz.prog 36 [.agg #[.int .i64 (t_.m_.Top), .int .i64 (t_.m_.Index), .slice (Ap03) ((t_.m_.Vars).length) (cp03), .slice (Ap04) ((t_.m_.Rels).length) (cp04), .slice (Ap05) ((t_.m_.Cons).length) (cp05), .slice (Ap06) ((t_.labels_).length) (cp06), .slice (Ap07) ((t_.at_).length) (cp07)]].toArray w0 (Ret noB w0 fun v w => v = .bool (r)) := by
 unfold scope_tree_form at hg
 refine enter M noB func36 rfl rfl hM ?_
 intro a s
 replace s := s.es 101 hp03
 replace s := s.es 102 hp04
 replace s := s.es 103 hp05
 replace s := s.es 104 hp06
 replace s := s.es 105 hp07
 apply wR
 refine l_seq rfl (l_box (zs := [vI (t_.m_.Top), vI (t_.m_.Index), sl Ap03 (t_.m_.Vars) cp03, sl Ap04 (t_.m_.Rels) cp04, sl Ap05 (t_.m_.Cons) cp05, sl Ap06 (t_.labels_) cp06, sl Ap07 (t_.at_) cp07]) s 1000 rfl rfl rfl rfl fun b2 a w hb hK s => ?_)
 refine asg s rfl rfl fun a s => ?_
 apply wN
 apply wQ
 obtain ⟨x4, hx4, hg⟩ := bind_some hg
 apply wL
 refine qq s rfl (y_boxField (o' := 6) s rfl underlying56 rfl rfl rfl) fun a s => ?_
 refine qq s rfl (y_loadBox1 (kk := 1000) s rfl rfl rfl underlying30 rfl) fun a s => ?_
 refine qq s rfl (y_boxField (o' := 0) s rfl underlying56 rfl rfl rfl) fun a s => ?_
 refine qq s rfl (y_boxField (o' := 0) s rfl underlying26 rfl rfl rfl) fun a s => ?_
 refine qq s rfl (y_loadBox1 (kk := 1000) s rfl rfl rfl underlying3 rfl) fun a s => ?_
 obtain ⟨p6, hep6, hpp6⟩ := SlR.elemX (s.ft 105 rfl) (ix_some hx4).1
 refine qq s rfl (y_elem (sz := 1) (i := ((t_.m_.Top).toNat)) s rfl rfl underlying30 rfl hep6 (ix_some hx4).2.1 (lt_of_get (ix_some hx4).1)) fun a s => ?_
 obtain ⟨hlq7, hmq7, csq7, hdq7, hcq7⟩ := hpp6
 obtain rfl := hdq7
 refine qq s rfl (y_ldp1 s rfl hlq7 hmq7 (hcq7 0 _ rfl) underlying3 rfl) fun a s => ?_
 refine asg s rfl rfl fun a s => ?_
 apply wN
 apply wQ
 apply wQ
 obtain ⟨k8, hg, hk8⟩ := jn_some hg
 refine c_post (fun a w => ∃ (t_9 : Bool), k8 t_9 = some r ∧ St (⟨Tryz.f36.ntmps, M, noB, w0⟩ : Ctx) [(1, vP b2 0), (3, vI x4), (29, .bool (t_9))] [(1000, Ob.box b2 [vI (t_.m_.Top), vI (t_.m_.Index), sl Ap03 (t_.m_.Vars) cp03, sl Ap04 (t_.m_.Rels) cp04, sl Ap05 (t_.m_.Cons) cp05, sl Ap06 (t_.labels_) cp06, sl Ap07 (t_.at_) cp07] 56)] [(101, slF Rep.str (Ap03) ((t_.m_.Vars).length) (cp03) (t_.m_.Vars)), (102, slF REP (Ap04) ((t_.m_.Rels).length) (cp04) (t_.m_.Rels)), (103, slF RQeq (Ap05) ((t_.m_.Cons).length) (cp05) (t_.m_.Cons)), (104, slF (Rep.num .i64) (Ap06) ((t_.labels_).length) (cp06) (t_.labels_)), (105, slF (Rep.num .i64) (Ap07) ((t_.at_).length) (cp07) (t_.at_))] a w) ?_ ?_
 ·rcases Decidable.em (x4 < 0) with hs10 | hs10
  ·have hs10e := decide_eq_true hs10
   replace hg := br_t hg hs10
   refine d_plan s [] [(0, some 0), (1, some 0), (2, some 0), (3, some 0), (4, some 0), (5, some 0), (6, some 0), (7, some 0), (8, some 0), (9, some 0), (10, some 0), (11, some 0)] rfl (by kernel_rfl) (by kernel_rfl) rfl ?_; clear s; intro wr hZ s; have hR := s.wd
   refine qt s hR rfl (y_move s rfl) fun a s => ?_
   refine qt s hR rfl (yl_b (y_lss s rfl rfl) hs10e) fun a s => ?_
   refine qt s hR rfl (y_move s rfl) fun a s => ?_
   refine q_pass s hR rfl rfl ⟨_, _, _, rfl, rfl, rfl, rfl⟩ rfl fun a s => ?_
   refine q_pass s hR rfl rfl ⟨_, _, _, rfl, rfl, rfl, rfl⟩ rfl fun a s => ?_
   refine q_pass s hR rfl rfl ⟨_, _, _, rfl, rfl, rfl, rfl⟩ rfl fun a s => ?_
   refine q_pass s hR rfl rfl ⟨_, _, _, rfl, rfl, rfl, rfl⟩ rfl fun a s => ?_
   refine q_pass s hR rfl rfl ⟨_, _, _, rfl, rfl, rfl, rfl⟩ rfl fun a s => ?_
   refine q_pass s hR rfl rfl ⟨_, _, _, rfl, rfl, rfl, rfl⟩ rfl fun a s => ?_
   refine q_pass s hR rfl rfl ⟨_, _, _, rfl, rfl, rfl, rfl⟩ rfl fun a s => ?_
   refine q_pass s hR rfl rfl ⟨_, _, _, rfl, rfl, rfl, rfl⟩ rfl fun a s => ?_
   refine qt s hR rfl (y_pick_t s rfl rfl) fun a s => ?_
   clear hR hZ
   apply pN
   exact ⟨(true), hg, (s.sb rfl rfl rfl)⟩
  have hs10e := decide_eq_false hs10
  replace hg := br_f hg hs10
  obtain ⟨r11, hr11, hg⟩ := bind_some hg
  refine d_plan s [] [(0, some 0), (1, some 0), (2, some 0), (3, some 1000), (4, some 0), (7, some 0), (8, some 1000), (9, some 0), (5, none), (6, none), (10, none), (11, none)] rfl (by kernel_rfl) (by kernel_rfl) rfl ?_; clear s; intro wr hZ s; have hR := s.wd
  refine qt s hR rfl (y_move s rfl) fun a s => ?_
  refine qt s hR rfl (yl_b (y_lss s rfl rfl) hs10e) fun a s => ?_
  refine qt s hR rfl (y_move s rfl) fun a s => ?_
  refine qg s hR rfl (y_loadAll (kk := 1000) s rfl rfl underlying56 rfl rfl) fun a s => ?_
  refine qg s hR rfl (y_move s rfl) fun a s => ?_
  refine qg s hR rfl (y_boxField (o' := 5) s rfl underlying56 rfl rfl rfl) fun a s => ?_
  refine qg s hR rfl (y_loadBox1 (kk := 1000) s rfl rfl rfl underlying30 rfl) fun a s => ?_
  refine qg s hR rfl (y_lenSlice s rfl underlying30) fun a s => ?_
  refine l_take s rfl ⟨_, _, _, rfl, rfl, rfl, rfl⟩ (l_call (cap := []) s rfl func34 rfl (by kernel_rfl) rfl rfl (c_scope_tree_below n _ _ s.lt t_ (Ap03) (cp03) (Ap04) (cp04) (Ap05) (cp05) (Ap06) (cp06) (Ap07) (cp07) (s.ft 101 rfl) (s.ft 102 rfl) (s.ft 103 rfl) (s.ft 104 rfl) (s.ft 105 rfl) x4 r11 hr11) fun v14 a w hK hp s => ?_)
  replace hZ := Nat.le_trans hZ hK.size; refine ⟨fun g _ h => h.grow hK, ?_⟩; clear hK
  obtain ⟨Au15a1, cu15a1, rfl, hu15a1⟩ := hp
  replace s := s.ns 107 hu15a1
  refine l_take s rfl ⟨_, _, _, rfl, rfl, rfl, rfl⟩ (l_quiet s rfl rfl (y_lenSlice s rfl underlying30) fun a s => ?_); refine ⟨fun g _ h => h, ?_⟩
  refine l_take s rfl ⟨_, _, _, rfl, rfl, rfl, rfl⟩ (l_quiet s rfl rfl (y_neqN (i := ((r11).length)) (j := ((t_.labels_).length)) s rfl rfl) fun a s => ?_); refine ⟨fun g _ h => h, ?_⟩
  refine l_take s rfl rfl (l_quiet s rfl rfl (y_pick_f s rfl rfl) fun a s => ?_); refine ⟨fun g _ h => h, ?_⟩
  clear hR hZ
  apply pN
  exact ⟨(decide (((r11).length) ≠ ((t_.labels_).length))), hg, (s.sb rfl rfl rfl)⟩
 clear s a; rintro a w ⟨t_9, hg, s⟩
 subst hk8
 refine c_cond s rfl (fun hc16 => ?_) (fun hc16 => ?_)
 ·replace hg := br_t hg hc16
  apply wR
  refine asg s rfl rfl fun a s => ?_
  apply wN
  apply wp_ret
  refine p_thenR ?_
  obtain rfl := Option.some.inj hg
  refine fin1 (fn := Tryz.f36) s rfl (r_tmp s rfl) ?_
  exact rfl
 replace hg := br_n hg hc16
 apply wp_skip
 apply pN
 apply wQ
 obtain ⟨hk17, hg⟩ := chk_some hg
 apply wL
 refine qq s rfl (y_boxField (o' := 0) s rfl underlying56 rfl rfl rfl) fun a s => ?_
 refine qq s rfl (y_boxField (o' := 2) s rfl underlying26 rfl rfl rfl) fun a s => ?_
 refine qq s rfl (y_loadBox1 (kk := 1000) s rfl rfl rfl underlying22 rfl) fun a s => ?_
 refine qq s rfl (y_lenSlice s rfl underlying22) fun a s => ?_
 refine l_seq rfl (l_makeSlice (n := ((t_.m_.Vars).length)) (by_ := 8) (zv := Value.int .i64 0) s 1404 rfl rfl underlying30 rfl rfl rfl rfl rfl hk17 (by omega) rfl rfl fun b19 a w hbb19 hK s => ?_)
 clear hbb19
 replace s := s.sub (l' := [(1, .pointer (some ⟨b2, 0, none⟩)), (3, .int .i64 (x4)), (29, .bool (t_9)), (30, .pointer (some ⟨b2, 0, none⟩)), (31, .pointer (some ⟨b2, 2, none⟩)), (32, .slice (Ap03) ((t_.m_.Vars).length) (cp03)), (33, .int .i64 ((((t_.m_.Vars).length : Nat) : Int))), (34, .slice (some ⟨b19, 0, none⟩) ((t_.m_.Vars).length) ((t_.m_.Vars).length))]) (L' := [(1000, Ob.box b2 [.int .i64 (t_.m_.Top), .int .i64 (t_.m_.Index), .slice (Ap03) ((t_.m_.Vars).length) (cp03), .slice (Ap04) ((t_.m_.Rels).length) (cp04), .slice (Ap05) ((t_.m_.Cons).length) (cp05), .slice (Ap06) ((t_.labels_).length) (cp06), .slice (Ap07) ((t_.at_).length) (cp07)] 56), (1404, Ob.row (some ⟨b19, 0, none⟩) ((t_.m_.Vars).length) ((t_.m_.Vars).length) 3 1 (List.replicate ((t_.m_.Vars).length) (Value.int .i64 0)))]) (D' := [(101, slF Rep.str (Ap03) ((t_.m_.Vars).length) (cp03) (t_.m_.Vars)), (102, slF REP (Ap04) ((t_.m_.Rels).length) (cp04) (t_.m_.Rels)), (103, slF RQeq (Ap05) ((t_.m_.Cons).length) (cp05) (t_.m_.Cons)), (104, slF (Rep.num .i64) (Ap06) ((t_.labels_).length) (cp06) (t_.labels_)), (105, slF (Rep.num .i64) (Ap07) ((t_.at_).length) (cp07) (t_.at_))]) ⟨rfl, rfl, rfl, rfl, rfl, rfl, rfl, rfl, trivial⟩ ⟨rfl, rfl, trivial⟩ ⟨rfl, rfl, rfl, rfl, rfl, trivial⟩
 replace s := s.eqs (l' := [(1, .pointer (some ⟨b2, 0, none⟩)), (3, .int .i64 (x4)), (29, .bool (t_9)), (30, .pointer (some ⟨b2, 0, none⟩)), (31, .pointer (some ⟨b2, 2, none⟩)), (32, .slice (Ap03) ((t_.m_.Vars).length) (cp03)), (33, .int .i64 ((((t_.m_.Vars).length : Nat) : Int))), (34, .slice (some ⟨b19, 0, none⟩) ((List.replicate ((t_.m_.Vars).length) (0 : Int)).length) ((t_.m_.Vars).length))]) (L' := [(1000, Ob.box b2 [.int .i64 (t_.m_.Top), .int .i64 (t_.m_.Index), .slice (Ap03) ((t_.m_.Vars).length) (cp03), .slice (Ap04) ((t_.m_.Rels).length) (cp04), .slice (Ap05) ((t_.m_.Cons).length) (cp05), .slice (Ap06) ((t_.labels_).length) (cp06), .slice (Ap07) ((t_.at_).length) (cp07)] 56), (1404, Ob.row (some ⟨b19, 0, none⟩) ((List.replicate ((t_.m_.Vars).length) (0 : Int)).length) ((t_.m_.Vars).length) 3 1 (List.replicate ((t_.m_.Vars).length) (Value.int .i64 0)))]) (by simp only [List.length_replicate]) (by simp only [List.length_replicate])
 replace s := s.add 109 (rdF (Rep.num .i64) (List.replicate ((t_.m_.Vars).length) (Value.int .i64 0)) (List.replicate ((t_.m_.Vars).length) (0 : Int))) (RdAll.rep rfl (by exact rfl) _)
 refine asg s rfl rfl fun a s => ?_
 apply wN
 apply wQ
 apply wR
 refine qq s rfl (y_boxField (o' := 5) s rfl underlying56 rfl rfl rfl) fun a s => ?_
 refine qq s rfl (y_loadBox1 (kk := 1000) s rfl rfl rfl underlying30 rfl) fun a s => ?_
 refine qq s rfl (y_lenSlice s rfl underlying30) fun a s => ?_
 refine mv s rfl rfl fun a s => ?_
 apply wN
 obtain ⟨k20, hg, hk20⟩ := jn_some hg
 refine c_post (fun a w => ∃ (t_21 : (List Int)) (A22 : Option Addr) (c23 : Nat) (cs24 : List Value), k20 t_21 = some r ∧ St (⟨Tryz.f36.ntmps, M, noB, w0⟩ : Ctx) [(1, vP b2 0), (3, vI x4), (4, sl A22 (t_21) c23)] [(1000, Ob.box b2 [vI (t_.m_.Top), vI (t_.m_.Index), sl Ap03 (t_.m_.Vars) cp03, sl Ap04 (t_.m_.Rels) cp04, sl Ap05 (t_.m_.Cons) cp05, sl Ap06 (t_.labels_) cp06, sl Ap07 (t_.at_) cp07] 56), (700110, Ob.row (A22) ((t_21).length) (c23) 3 1 (cs24))] [(101, slF Rep.str (Ap03) ((t_.m_.Vars).length) (cp03) (t_.m_.Vars)), (102, slF REP (Ap04) ((t_.m_.Rels).length) (cp04) (t_.m_.Rels)), (103, slF RQeq (Ap05) ((t_.m_.Cons).length) (cp05) (t_.m_.Cons)), (104, slF (Rep.num .i64) (Ap06) ((t_.labels_).length) (cp06) (t_.labels_)), (105, slF (Rep.num .i64) (Ap07) ((t_.at_).length) (cp07) (t_.at_)), (111, rdF (Rep.num .i64) (cs24) (t_21))] a w) ?_ ?_
 ·apply wp_block
  replace s := s.al 113 109 rfl
  replace s := s.pk [(1000, 1000), (700112, 1404)] (by decide)
  refine c_loop (σ := Nat) (fun m1 a w => ∃ (t_25 : (List Int)) (t_29 : Nat) (A26 : Option Addr) (c27 : Nat) (cs28 : List Value), scope_tree_form_L0 n t_ k20 m1 t_25 t_29 = some r ∧ St (⟨Tryz.f36.ntmps, M, noB, w0⟩ : Ctx) [(1, vP b2 0), (3, vI x4), (4, sl A26 (t_25) c27), (36, sl Ap06 (t_.labels_) cp06), (37, vI ((((t_.labels_).length : Nat) : Int))), (38, vI (((t_29 : Nat) : Int)))] [(1000, Ob.box b2 [vI (t_.m_.Top), vI (t_.m_.Index), sl Ap03 (t_.m_.Vars) cp03, sl Ap04 (t_.m_.Rels) cp04, sl Ap05 (t_.m_.Cons) cp05, sl Ap06 (t_.labels_) cp06, sl Ap07 (t_.at_) cp07] 56), (700112, Ob.row (A26) ((t_25).length) (c27) 3 1 (cs28))] [(101, slF Rep.str (Ap03) ((t_.m_.Vars).length) (cp03) (t_.m_.Vars)), (102, slF REP (Ap04) ((t_.m_.Rels).length) (cp04) (t_.m_.Rels)), (103, slF RQeq (Ap05) ((t_.m_.Cons).length) (cp05) (t_.m_.Cons)), (104, slF (Rep.num .i64) (Ap06) ((t_.labels_).length) (cp06) (t_.labels_)), (105, slF (Rep.num .i64) (Ap07) ((t_.at_).length) (cp07) (t_.at_)), (113, rdF (Rep.num .i64) (cs28) (t_25))] a w) (fun m1 => m1) n ⟨(List.replicate ((t_.m_.Vars).length) (0 : Int)), (0), (some ⟨b19, 0, none⟩), ((t_.m_.Vars).length), (List.replicate ((t_.m_.Vars).length) (Value.int .i64 0)), hg, (s.sb rfl rfl rfl)⟩ ?_
  clear s a; rintro m1 a w ⟨t_25, t_29, A26, c27, cs28, hg, s⟩
  rcases m1 with _ | m1
  ·rw [scope_tree_form_L0] at hg; cases hg
  rw [scope_tree_form_L0] at hg
  apply wR
  refine qq s rfl (y_lssN (i := t_29) (j := ((t_.labels_).length)) s rfl rfl) fun a s => ?_
  apply wN
  apply wQ
  refine c_dec s rfl (fun hc30 => ?_) (fun hc30 => ?_)
  ·replace hg := br_t hg hc30
   have hmx31 := SlR.mx (s.ft 104 rfl)
   apply wp_skip
   apply pN
   apply wQ
   obtain ⟨k32, hg, hk32⟩ := jn_some hg
   refine c_post (fun a w => ∃ (t_33 : (List Int)) (A34 : Option Addr) (c35 : Nat) (cs36 : List Value), k32 t_33 = some r ∧ St (⟨Tryz.f36.ntmps, M, noB, w0⟩ : Ctx) [(1, vP b2 0), (3, vI x4), (4, sl A34 (t_33) c35), (36, sl Ap06 (t_.labels_) cp06), (37, vI ((((t_.labels_).length : Nat) : Int))), (38, vI (((t_29 : Nat) : Int)))] [(1000, Ob.box b2 [vI (t_.m_.Top), vI (t_.m_.Index), sl Ap03 (t_.m_.Vars) cp03, sl Ap04 (t_.m_.Rels) cp04, sl Ap05 (t_.m_.Cons) cp05, sl Ap06 (t_.labels_) cp06, sl Ap07 (t_.at_) cp07] 56), (700114, Ob.row (A34) ((t_33).length) (c35) 3 1 (cs36))] [(101, slF Rep.str (Ap03) ((t_.m_.Vars).length) (cp03) (t_.m_.Vars)), (102, slF REP (Ap04) ((t_.m_.Rels).length) (cp04) (t_.m_.Rels)), (103, slF RQeq (Ap05) ((t_.m_.Cons).length) (cp05) (t_.m_.Cons)), (104, slF (Rep.num .i64) (Ap06) ((t_.labels_).length) (cp06) (t_.labels_)), (105, slF (Rep.num .i64) (Ap07) ((t_.at_).length) (cp07) (t_.at_)), (115, rdF (Rep.num .i64) (cs36) (t_33))] a w) ?_ ?_
   ·apply wp_block
    apply wQ
    obtain ⟨x38, hx38, hg⟩ := bind_some hg
    apply wL
    obtain ⟨p40, hep40, hpp40⟩ := SlR.elemX (s.ft 104 rfl) hx38
    refine qq s rfl (y_elem (sz := 1) (i := t_29) s rfl rfl underlying30 rfl hep40 rfl (lt_of_get hx38)) fun a s => ?_
    obtain ⟨hlq41, hmq41, csq41, hdq41, hcq41⟩ := hpp40
    obtain rfl := hdq41
    refine qq s rfl (y_ldp1 s rfl hlq41 hmq41 (hcq41 0 _ rfl) underlying3 rfl) fun a s => ?_
    refine asg s rfl rfl fun a s => ?_
    apply wN
    apply wQ
    obtain ⟨r42, hr42, hg⟩ := bind_some hg
    apply wL
    refine qq s rfl (y_loadAll (kk := 1000) s rfl rfl underlying56 rfl rfl) fun a s => ?_
    refine mv s rfl rfl fun a s => ?_
    refine l_seq rfl (l_call (cap := []) s rfl func53 rfl (by kernel_rfl) rfl rfl (c_scope_tree_children n _ _ s.lt t_ (Ap03) (cp03) (Ap04) (cp04) (Ap05) (cp05) (Ap06) (cp06) (Ap07) (cp07) (s.ft 101 rfl) (s.ft 102 rfl) (s.ft 103 rfl) (s.ft 104 rfl) (s.ft 105 rfl) x38 r42 hr42) fun v45 a w hK hp s => ?_)
    obtain ⟨Au46a1, cu46a1, rfl, hu46a1⟩ := hp
    replace s := s.ns 117 hu46a1
    refine qq s rfl (y_lenSlice s rfl underlying30) fun a s => ?_
    refine mv s rfl rfl fun a s => ?_
    apply wN
    apply wp_block
    replace s := s.al 119 113 rfl
    replace s := s.pk [(1000, 1000), (700118, 700112)] (by decide)
    refine c_loop (σ := Nat) (fun m2 a w => ∃ (t_47 : (List Int)) (t_51 : Nat) (A48 : Option Addr) (c49 : Nat) (cs50 : List Value), scope_tree_form_L1 n k32 r42 m2 t_47 t_51 = some r ∧ St (⟨Tryz.f36.ntmps, M, noB, w0⟩ : Ctx) [(1, vP b2 0), (3, vI x4), (4, sl A48 (t_47) c49), (36, sl Ap06 (t_.labels_) cp06), (37, vI ((((t_.labels_).length : Nat) : Int))), (38, vI (((t_29 : Nat) : Int))), (44, sl Au46a1 (r42) cu46a1), (45, vI ((((r42).length : Nat) : Int))), (46, vI (((t_51 : Nat) : Int)))] [(1000, Ob.box b2 [vI (t_.m_.Top), vI (t_.m_.Index), sl Ap03 (t_.m_.Vars) cp03, sl Ap04 (t_.m_.Rels) cp04, sl Ap05 (t_.m_.Cons) cp05, sl Ap06 (t_.labels_) cp06, sl Ap07 (t_.at_) cp07] 56), (700118, Ob.row (A48) ((t_47).length) (c49) 3 1 (cs50))] [(101, slF Rep.str (Ap03) ((t_.m_.Vars).length) (cp03) (t_.m_.Vars)), (102, slF REP (Ap04) ((t_.m_.Rels).length) (cp04) (t_.m_.Rels)), (103, slF RQeq (Ap05) ((t_.m_.Cons).length) (cp05) (t_.m_.Cons)), (104, slF (Rep.num .i64) (Ap06) ((t_.labels_).length) (cp06) (t_.labels_)), (105, slF (Rep.num .i64) (Ap07) ((t_.at_).length) (cp07) (t_.at_)), (117, slF (Rep.num .i64) (Au46a1) ((r42).length) (cu46a1) (r42)), (119, rdF (Rep.num .i64) (cs50) (t_47))] a w) (fun m2 => m2) n ⟨(t_25), (0), (A26), (c27), (cs28), hg, (s.sb rfl rfl rfl)⟩ ?_
    clear s a; rintro m2 a w ⟨t_47, t_51, A48, c49, cs50, hg, s⟩
    rcases m2 with _ | m2
    ·rw [scope_tree_form_L1] at hg; cases hg
    rw [scope_tree_form_L1] at hg
    apply wR
    refine qq s rfl (y_lssN (i := t_51) (j := ((r42).length)) s rfl rfl) fun a s => ?_
    apply wN
    apply wQ
    refine c_dec s rfl (fun hc52 => ?_) (fun hc52 => ?_)
    ·replace hg := br_t hg hc52
     have hmx53 := SlR.mx (s.ft 117 rfl)
     apply wp_skip
     apply pN
     apply wQ
     apply wp_block
     apply wQ
     obtain ⟨x55, hx55, hg⟩ := bind_some hg
     apply wL
     obtain ⟨p57, hep57, hpp57⟩ := SlR.elemX (s.ft 117 rfl) hx55
     refine qq s rfl (y_elem (sz := 1) (i := t_51) s rfl rfl underlying30 rfl hep57 rfl (lt_of_get hx55)) fun a s => ?_
     obtain ⟨hlq58, hmq58, csq58, hdq58, hcq58⟩ := hpp57
     obtain rfl := hdq58
     refine qq s rfl (y_ldp1 s rfl hlq58 hmq58 (hcq58 0 _ rfl) underlying3 rfl) fun a s => ?_
     refine asg s rfl rfl fun a s => ?_
     apply wN
     obtain ⟨x60, hx60, hg⟩ := bind_some hg
     obtain ⟨hk62, hg⟩ := chk_some hg
     apply wL
     refine mv s rfl rfl fun a s => ?_
     refine mv s rfl rfl fun a s => ?_
     obtain ⟨hiq64, bq64, hAq64⟩ := SlR.row1 (s.wd.holds 700118 _ rfl) (s.ft 119 rfl) rfl rfl (ix_some hx60).1
     refine qq s rfl (y_rowIndex (sz := 1) (i := ((x55).toNat)) s rfl rfl underlying30 rfl hAq64 (ix_some hx60).2.1 hiq64) fun a s => ?_
     have hz65 := (s.ft 119 rfl).at_ _ _ (ix_some hx60).1
     have ez65 := hz65
     refine qq s rfl (y_loadRow1 (kk := 700118) s rfl rfl hAq64 (take1 ez65) underlying3 rfl) fun a s => ?_
     refine qq s rfl (y_add s rfl rfl (in64.2 hk62)) fun a s => ?_
     obtain ⟨hiq66, bq66, hAq66⟩ := SlR.row1 (s.wd.holds 700118 _ rfl) (s.ft 119 rfl) rfl rfl (ix_some hx60).1
     refine qq s rfl (y_rowIndex (sz := 1) (i := ((x55).toNat)) s rfl rfl underlying30 rfl hAq66 (ix_some hx60).2.1 hiq66) fun a s => ?_
     have hzi := lt_of_get (ix_some hx60).1
     have hzn := rowN (s.wd.holds 700118 _ rfl) (s.ft 119 rfl) rfl rfl
     have hzf : ((x55).toNat) * 1 + 1 ≤ ((t_47).length) * 1 := by have := Nat.mul_le_mul_right 1 (Nat.succ_le_of_lt hzi); omega
     refine l_seq rfl (l_storeRow (N := 1) (cs' := splice (cs50) (((x55).toNat) * 1) [vI (x60 + 1)]) s 700118 rfl rfl rfl hAq66 rfl rfl hzf rfl rfl ?_); clear s; intro w hK s; clear hK
     replace s := s.sub (l' := [(1, .pointer (some ⟨b2, 0, none⟩)), (3, .int .i64 (x4)), (4, .slice (A48) ((t_47).length) (c49)), (8, .int .i64 (x55)), (36, .slice (Ap06) ((t_.labels_).length) (cp06)), (37, .int .i64 ((((t_.labels_).length : Nat) : Int))), (38, .int .i64 (((t_29 : Nat) : Int))), (44, .slice (Au46a1) ((r42).length) (cu46a1)), (45, .int .i64 ((((r42).length : Nat) : Int))), (46, .int .i64 (((t_51 : Nat) : Int))), (47, .bool (decide (t_51 < ((r42).length)))), (48, .pointer (some (p57.add 0))), (49, .int .i64 (x55)), (50, .slice (A48) ((t_47).length) (c49)), (51, .int .i64 (x55)), (52, .pointer (some ⟨bq64, ((x55).toNat) * 1, none⟩)), (53, .int .i64 (x60)), (54, .int .i64 (x60 + 1)), (55, .pointer (some ⟨bq66, ((x55).toNat) * 1, none⟩))]) (L' := [(1000, Ob.box b2 [.int .i64 (t_.m_.Top), .int .i64 (t_.m_.Index), .slice (Ap03) ((t_.m_.Vars).length) (cp03), .slice (Ap04) ((t_.m_.Rels).length) (cp04), .slice (Ap05) ((t_.m_.Cons).length) (cp05), .slice (Ap06) ((t_.labels_).length) (cp06), .slice (Ap07) ((t_.at_).length) (cp07)] 56), (700118, Ob.row (A48) ((t_47).length) (c49) 3 1 (splice (cs50) (((x55).toNat) * 1) [.int .i64 (x60 + 1)]))]) (D' := [(101, slF Rep.str (Ap03) ((t_.m_.Vars).length) (cp03) (t_.m_.Vars)), (102, slF REP (Ap04) ((t_.m_.Rels).length) (cp04) (t_.m_.Rels)), (103, slF RQeq (Ap05) ((t_.m_.Cons).length) (cp05) (t_.m_.Cons)), (104, slF (Rep.num .i64) (Ap06) ((t_.labels_).length) (cp06) (t_.labels_)), (105, slF (Rep.num .i64) (Ap07) ((t_.at_).length) (cp07) (t_.at_)), (117, slF (Rep.num .i64) (Au46a1) ((r42).length) (cu46a1) (r42)), (119, rdF (Rep.num .i64) (cs50) (t_47))]) ⟨rfl, rfl, rfl, rfl, rfl, rfl, rfl, rfl, rfl, rfl, rfl, rfl, rfl, rfl, rfl, rfl, rfl, rfl, rfl, trivial⟩ ⟨rfl, rfl, trivial⟩ ⟨rfl, rfl, rfl, rfl, rfl, rfl, rfl, trivial⟩
     replace s := s.eqs (l' := [(1, .pointer (some ⟨b2, 0, none⟩)), (3, .int .i64 (x4)), (4, .slice (A48) (((t_47).set ((x55).toNat) (x60 + 1)).length) (c49)), (8, .int .i64 (x55)), (36, .slice (Ap06) ((t_.labels_).length) (cp06)), (37, .int .i64 ((((t_.labels_).length : Nat) : Int))), (38, .int .i64 (((t_29 : Nat) : Int))), (44, .slice (Au46a1) ((r42).length) (cu46a1)), (45, .int .i64 ((((r42).length : Nat) : Int))), (46, .int .i64 (((t_51 : Nat) : Int))), (47, .bool (decide (t_51 < ((r42).length)))), (48, .pointer (some (p57.add 0))), (49, .int .i64 (x55)), (50, .slice (A48) (((t_47).set ((x55).toNat) (x60 + 1)).length) (c49)), (51, .int .i64 (x55)), (52, .pointer (some ⟨bq64, ((x55).toNat) * 1, none⟩)), (53, .int .i64 (x60)), (54, .int .i64 (x60 + 1)), (55, .pointer (some ⟨bq66, ((x55).toNat) * 1, none⟩))]) (L' := [(1000, Ob.box b2 [.int .i64 (t_.m_.Top), .int .i64 (t_.m_.Index), .slice (Ap03) ((t_.m_.Vars).length) (cp03), .slice (Ap04) ((t_.m_.Rels).length) (cp04), .slice (Ap05) ((t_.m_.Cons).length) (cp05), .slice (Ap06) ((t_.labels_).length) (cp06), .slice (Ap07) ((t_.at_).length) (cp07)] 56), (700118, Ob.row (A48) (((t_47).set ((x55).toNat) (x60 + 1)).length) (c49) 3 1 (splice (cs50) (((x55).toNat) * 1) [.int .i64 (x60 + 1)]))]) (by simp only [List.length_set]) (by simp only [List.length_set])
     replace s := s.add 121 (rdF (Rep.num .i64) (splice (cs50) (((x55).toNat) * 1) [vI (x60 + 1)]) ((t_47).set ((x55).toNat) (x60 + 1))) (RdAll.put (s.ft 119 rfl) rfl hzi)
     apply wO
     refine p_inN ?_
     apply pN
     apply wL
     refine qq s rfl (y_addN (i := t_51) (j := 1) s rfl rfl (in64.2 (by omega))) fun a s => ?_
     refine mv s rfl rfl fun a s => ?_
     apply wN
     replace s := s.add 119 (rdF (Rep.num .i64) (splice (cs50) (((x55).toNat) * 1) [vI (x60 + 1)]) ((t_47).set ((x55).toNat) (x60 + 1))) (s.ft 121 rfl)
     exact ⟨m2, Nat.lt_succ_self _, ⟨((t_47).set ((x55).toNat) (x60 + 1)), (t_51 + 1), (A48), (c49), (splice (cs50) (((x55).toNat) * 1) [vI (x60 + 1)]), hg, (s.sb rfl rfl rfl)⟩⟩
    replace hg := br_f hg hc52
    apply wp_exit
    refine p_then ?_
    refine p_then ?_
    refine p_in ?_
    refine p_inN ?_
    apply pN
    replace s := s.al 115 119 rfl
    replace s := s.pk [(1000, 1000), (700114, 700118)] (by decide)
    exact ⟨(t_47), (A48), (c49), (cs50), hg, (s.sb rfl rfl rfl)⟩
   clear s a; rintro a w ⟨t_33, A34, c35, cs36, hg, s⟩
   subst hk32
   apply wL
   refine qq s rfl (y_addN (i := t_29) (j := 1) s rfl rfl (in64.2 (by omega))) fun a s => ?_
   refine mv s rfl rfl fun a s => ?_
   apply wN
   replace s := s.al 113 115 rfl
   replace s := s.pk [(1000, 1000), (700112, 700114)] (by decide)
   exact ⟨m1, Nat.lt_succ_self _, ⟨(t_33), (t_29 + 1), (A34), (c35), (cs36), hg, (s.sb rfl rfl rfl)⟩⟩
  replace hg := br_f hg hc30
  apply wp_exit
  refine p_then ?_
  refine p_then ?_
  refine p_in ?_
  apply pN
  replace s := s.al 111 113 rfl
  replace s := s.pk [(1000, 1000), (700110, 700112)] (by decide)
  exact ⟨(t_25), (A26), (c27), (cs28), hg, (s.sb rfl rfl rfl)⟩
 clear s a; rintro a w ⟨t_21, A22, c23, cs24, hg, s⟩
 subst hk20
 apply wQ
 apply wR
 refine qq s rfl (y_boxField (o' := 5) s rfl underlying56 rfl rfl rfl) fun a s => ?_
 refine qq s rfl (y_loadBox1 (kk := 1000) s rfl rfl rfl underlying30 rfl) fun a s => ?_
 refine qq s rfl (y_lenSlice s rfl underlying30) fun a s => ?_
 refine mv s rfl rfl fun a s => ?_
 apply wN
 apply wp_block
 refine c_loop (σ := Nat) (fun m3 a w => ∃ (t_67 : Nat), scope_tree_form_L2 n t_ x4 t_21 m3 t_67 = some r ∧ St (⟨Tryz.f36.ntmps, M, noB, w0⟩ : Ctx) [(3, vI x4), (4, sl A22 (t_21) c23), (59, sl Ap06 (t_.labels_) cp06), (60, vI ((((t_.labels_).length : Nat) : Int))), (61, vI (((t_67 : Nat) : Int)))] [(700110, Ob.row (A22) ((t_21).length) (c23) 3 1 (cs24))] [(104, slF (Rep.num .i64) (Ap06) ((t_.labels_).length) (cp06) (t_.labels_)), (111, rdF (Rep.num .i64) (cs24) (t_21))] a w) (fun m3 => m3) n ⟨(0), hg, (s.sb rfl rfl rfl)⟩ ?_
 clear s a; rintro m3 a w ⟨t_67, hg, s⟩
 rcases m3 with _ | m3
 ·rw [scope_tree_form_L2] at hg; cases hg
 rw [scope_tree_form_L2] at hg
 apply wR
 refine qq s rfl (y_lssN (i := t_67) (j := ((t_.labels_).length)) s rfl rfl) fun a s => ?_
 apply wN
 apply wQ
 refine c_dec s rfl (fun hc68 => ?_) (fun hc68 => ?_)
 ·replace hg := br_t hg hc68
  have hmx69 := SlR.mx (s.ft 104 rfl)
  apply wp_skip
  apply pN
  apply wQ
  apply wp_block
  apply wQ
  obtain ⟨x71, hx71, hg⟩ := bind_some hg
  apply wL
  obtain ⟨p73, hep73, hpp73⟩ := SlR.elemX (s.ft 104 rfl) hx71
  refine qq s rfl (y_elem (sz := 1) (i := t_67) s rfl rfl underlying30 rfl hep73 rfl (lt_of_get hx71)) fun a s => ?_
  obtain ⟨hlq74, hmq74, csq74, hdq74, hcq74⟩ := hpp73
  obtain rfl := hdq74
  refine qq s rfl (y_ldp1 s rfl hlq74 hmq74 (hcq74 0 _ rfl) underlying3 rfl) fun a s => ?_
  refine asg s rfl rfl fun a s => ?_
  apply wN
  apply wQ
  obtain ⟨k75, hg, hk75⟩ := jn_some hg
  refine c_post (fun a w => ∃ (t_76 : Bool), k75 t_76 = some r ∧ St (⟨Tryz.f36.ntmps, M, noB, w0⟩ : Ctx) [(3, vI x4), (4, sl A22 (t_21) c23), (59, sl Ap06 (t_.labels_) cp06), (60, vI ((((t_.labels_).length : Nat) : Int))), (61, vI (((t_67 : Nat) : Int))), (86, .bool (t_76))] [(700110, Ob.row (A22) ((t_21).length) (c23) 3 1 (cs24))] [(104, slF (Rep.num .i64) (Ap06) ((t_.labels_).length) (cp06) (t_.labels_)), (111, rdF (Rep.num .i64) (cs24) (t_21))] a w) ?_ ?_
  ·rcases Decidable.em (x71 = x4) with hs77 | hs77
   ·have hs77e := decide_eq_true hs77
    replace hg := br_t hg hs77
    obtain ⟨x79, hx79, hg⟩ := bind_some hg
    rcases Decidable.em (x79 ≠ 0) with hs81 | hs81
    ·have hs81e := decide_eq_true hs81
     replace hg := br_t hg hs81
     apply wL
     refine mv s rfl rfl fun a s => ?_
     refine mv s rfl rfl fun a s => ?_
     refine qq s rfl (yl_b (y_eql s rfl rfl) hs77e) fun a s => ?_
     refine mv s rfl rfl fun a s => ?_
     refine gm s rfl rfl fun a s => ?_
     refine gm s rfl rfl fun a s => ?_
     obtain ⟨hiq82, bq82, hAq82⟩ := SlR.row1 (s.wd.holds 700110 _ rfl) (s.ft 111 rfl) rfl rfl (ix_some hx79).1
     refine gy s rfl (y_rowIndex (sz := 1) (i := ((x71).toNat)) s rfl rfl underlying30 rfl hAq82 (ix_some hx79).2.1 hiq82) fun a s => ?_
     have hz83 := (s.ft 111 rfl).at_ _ _ (ix_some hx79).1
     have ez83 := hz83
     refine gy s rfl (y_loadRow1 (kk := 700110) s rfl rfl hAq82 (take1 ez83) underlying3 rfl) fun a s => ?_
     refine gy s rfl (yl_b (y_neq s rfl rfl) hs81e) fun a s => ?_
     refine qq s rfl (y_pick_t s rfl rfl) fun a s => ?_
     refine mv s rfl rfl fun a s => ?_
     refine gn s rfl fun a s => ?_
     refine gn s rfl fun a s => ?_
     refine gn s rfl fun a s => ?_
     refine gn s rfl fun a s => ?_
     refine gn s rfl fun a s => ?_
     refine gn s rfl fun a s => ?_
     refine gn s rfl fun a s => ?_
     refine gn s rfl fun a s => ?_
     refine gn s rfl fun a s => ?_
     refine gn s rfl fun a s => ?_
     refine qq s rfl (y_pick_t s rfl rfl) fun a s => ?_
     apply wN
     exact ⟨(true), hg, (s.sb rfl rfl rfl)⟩
    have hs81e := decide_eq_false hs81
    replace hg := br_f hg hs81
    rcases Decidable.em (x71 ≠ x4) with hs84 | hs84
    ·have hs84e := decide_eq_true hs84
     replace hg := br_t hg hs84
     apply wL
     refine mv s rfl rfl fun a s => ?_
     refine mv s rfl rfl fun a s => ?_
     refine qq s rfl (yl_b (y_eql s rfl rfl) hs77e) fun a s => ?_
     refine mv s rfl rfl fun a s => ?_
     refine gm s rfl rfl fun a s => ?_
     refine gm s rfl rfl fun a s => ?_
     obtain ⟨hiq87, bq87, hAq87⟩ := SlR.row1 (s.wd.holds 700110 _ rfl) (s.ft 111 rfl) rfl rfl (ix_some hx79).1
     refine gy s rfl (y_rowIndex (sz := 1) (i := ((x71).toNat)) s rfl rfl underlying30 rfl hAq87 (ix_some hx79).2.1 hiq87) fun a s => ?_
     have hz88 := (s.ft 111 rfl).at_ _ _ (ix_some hx79).1
     have ez88 := hz88
     refine gy s rfl (y_loadRow1 (kk := 700110) s rfl rfl hAq87 (take1 ez88) underlying3 rfl) fun a s => ?_
     refine gy s rfl (yl_b (y_neq s rfl rfl) hs81e) fun a s => ?_
     refine qq s rfl (y_pick_t s rfl rfl) fun a s => ?_
     refine mv s rfl rfl fun a s => ?_
     refine gm s rfl rfl fun a s => ?_
     refine gm s rfl rfl fun a s => ?_
     refine gy s rfl (yl_b (y_neq s rfl rfl) hs84e) fun a s => ?_
     refine gm s rfl rfl fun a s => ?_
     refine gm s rfl rfl fun a s => ?_
     refine gm s rfl rfl fun a s => ?_
     obtain ⟨hiq89, bq89, hAq89⟩ := SlR.row1 (s.wd.holds 700110 _ rfl) (s.ft 111 rfl) rfl rfl (ix_some hx79).1
     refine gy s rfl (y_rowIndex (sz := 1) (i := ((x71).toNat)) s rfl rfl underlying30 rfl hAq89 (ix_some hx79).2.1 hiq89) fun a s => ?_
     have hz90 := (s.ft 111 rfl).at_ _ _ (ix_some hx79).1
     have ez90 := hz90
     refine gy s rfl (y_loadRow1 (kk := 700110) s rfl rfl hAq89 (take1 ez90) underlying3 rfl) fun a s => ?_
     refine gy s rfl (y_neq s rfl rfl) fun a s => ?_
     refine gy s rfl (y_pick_t s rfl rfl) fun a s => ?_
     refine qq s rfl (y_pick_f s rfl rfl) fun a s => ?_
     apply wN
     exact ⟨(decide (x79 ≠ 1)), hg, (s.sb rfl rfl rfl)⟩
    have hs84e := decide_eq_false hs84
    replace hg := br_f hg hs84
    apply wL
    refine mv s rfl rfl fun a s => ?_
    refine mv s rfl rfl fun a s => ?_
    refine qq s rfl (yl_b (y_eql s rfl rfl) hs77e) fun a s => ?_
    refine mv s rfl rfl fun a s => ?_
    refine gm s rfl rfl fun a s => ?_
    refine gm s rfl rfl fun a s => ?_
    obtain ⟨hiq91, bq91, hAq91⟩ := SlR.row1 (s.wd.holds 700110 _ rfl) (s.ft 111 rfl) rfl rfl (ix_some hx79).1
    refine gy s rfl (y_rowIndex (sz := 1) (i := ((x71).toNat)) s rfl rfl underlying30 rfl hAq91 (ix_some hx79).2.1 hiq91) fun a s => ?_
    have hz92 := (s.ft 111 rfl).at_ _ _ (ix_some hx79).1
    have ez92 := hz92
    refine gy s rfl (y_loadRow1 (kk := 700110) s rfl rfl hAq91 (take1 ez92) underlying3 rfl) fun a s => ?_
    refine gy s rfl (yl_b (y_neq s rfl rfl) hs81e) fun a s => ?_
    refine qq s rfl (y_pick_t s rfl rfl) fun a s => ?_
    refine mv s rfl rfl fun a s => ?_
    refine gm s rfl rfl fun a s => ?_
    refine gm s rfl rfl fun a s => ?_
    refine gy s rfl (yl_b (y_neq s rfl rfl) hs84e) fun a s => ?_
    refine gm s rfl rfl fun a s => ?_
    refine gn s rfl fun a s => ?_
    refine gn s rfl fun a s => ?_
    refine gn s rfl fun a s => ?_
    refine gn s rfl fun a s => ?_
    refine gn s rfl fun a s => ?_
    refine gy s rfl (y_pick_f s rfl rfl) fun a s => ?_
    refine qq s rfl (y_pick_f s rfl rfl) fun a s => ?_
    apply wN
    exact ⟨(false), hg, (s.sb rfl rfl rfl)⟩
   have hs77e := decide_eq_false hs77
   replace hg := br_f hg hs77
   rcases Decidable.em (x71 ≠ x4) with hs93 | hs93
   ·have hs93e := decide_eq_true hs93
    replace hg := br_t hg hs93
    obtain ⟨x95, hx95, hg⟩ := bind_some hg
    apply wL
    refine mv s rfl rfl fun a s => ?_
    refine mv s rfl rfl fun a s => ?_
    refine qq s rfl (yl_b (y_eql s rfl rfl) hs77e) fun a s => ?_
    refine mv s rfl rfl fun a s => ?_
    refine gn s rfl fun a s => ?_
    refine gn s rfl fun a s => ?_
    refine gn s rfl fun a s => ?_
    refine gn s rfl fun a s => ?_
    refine gn s rfl fun a s => ?_
    refine qq s rfl (y_pick_f s rfl rfl) fun a s => ?_
    refine mv s rfl rfl fun a s => ?_
    refine gm s rfl rfl fun a s => ?_
    refine gm s rfl rfl fun a s => ?_
    refine gy s rfl (yl_b (y_neq s rfl rfl) hs93e) fun a s => ?_
    refine gm s rfl rfl fun a s => ?_
    refine gm s rfl rfl fun a s => ?_
    refine gm s rfl rfl fun a s => ?_
    obtain ⟨hiq97, bq97, hAq97⟩ := SlR.row1 (s.wd.holds 700110 _ rfl) (s.ft 111 rfl) rfl rfl (ix_some hx95).1
    refine gy s rfl (y_rowIndex (sz := 1) (i := ((x71).toNat)) s rfl rfl underlying30 rfl hAq97 (ix_some hx95).2.1 hiq97) fun a s => ?_
    have hz98 := (s.ft 111 rfl).at_ _ _ (ix_some hx95).1
    have ez98 := hz98
    refine gy s rfl (y_loadRow1 (kk := 700110) s rfl rfl hAq97 (take1 ez98) underlying3 rfl) fun a s => ?_
    refine gy s rfl (y_neq s rfl rfl) fun a s => ?_
    refine gy s rfl (y_pick_t s rfl rfl) fun a s => ?_
    refine qq s rfl (y_pick_f s rfl rfl) fun a s => ?_
    apply wN
    exact ⟨(decide (x95 ≠ 1)), hg, (s.sb rfl rfl rfl)⟩
   have hs93e := decide_eq_false hs93
   replace hg := br_f hg hs93
   apply wL
   refine mv s rfl rfl fun a s => ?_
   refine mv s rfl rfl fun a s => ?_
   refine qq s rfl (yl_b (y_eql s rfl rfl) hs77e) fun a s => ?_
   refine mv s rfl rfl fun a s => ?_
   refine gn s rfl fun a s => ?_
   refine gn s rfl fun a s => ?_
   refine gn s rfl fun a s => ?_
   refine gn s rfl fun a s => ?_
   refine gn s rfl fun a s => ?_
   refine qq s rfl (y_pick_f s rfl rfl) fun a s => ?_
   refine mv s rfl rfl fun a s => ?_
   refine gm s rfl rfl fun a s => ?_
   refine gm s rfl rfl fun a s => ?_
   refine gy s rfl (yl_b (y_neq s rfl rfl) hs93e) fun a s => ?_
   refine gm s rfl rfl fun a s => ?_
   refine gn s rfl fun a s => ?_
   refine gn s rfl fun a s => ?_
   refine gn s rfl fun a s => ?_
   refine gn s rfl fun a s => ?_
   refine gn s rfl fun a s => ?_
   refine gy s rfl (y_pick_f s rfl rfl) fun a s => ?_
   refine qq s rfl (y_pick_f s rfl rfl) fun a s => ?_
   apply wN
   exact ⟨(false), hg, (s.sb rfl rfl rfl)⟩
  clear s a; rintro a w ⟨t_76, hg, s⟩
  subst hk75
  refine c_cond s rfl (fun hc99 => ?_) (fun hc99 => ?_)
  ·replace hg := br_t hg hc99
   apply wR
   refine asg s rfl rfl fun a s => ?_
   apply wN
   apply wp_ret
   refine p_inR ?_
   refine p_thenR ?_
   refine p_thenR ?_
   refine p_inR ?_
   refine p_thenR ?_
   obtain rfl := Option.some.inj hg
   refine fin1 (fn := Tryz.f36) s rfl (r_tmp s rfl) ?_
   exact rfl
  replace hg := br_n hg hc99
  apply wp_skip
  refine p_inN ?_
  apply pN
  apply wL
  refine qq s rfl (y_addN (i := t_67) (j := 1) s rfl rfl (in64.2 (by omega))) fun a s => ?_
  refine mv s rfl rfl fun a s => ?_
  apply wN
  exact ⟨m3, Nat.lt_succ_self _, ⟨(t_67 + 1), hg, (s.sb rfl rfl rfl)⟩⟩
 replace hg := br_f hg hc68
 apply wp_exit
 refine p_then ?_
 refine p_then ?_
 refine p_in ?_
 apply pN
 apply wR
 refine asg s rfl rfl fun a s => ?_
 apply wN
 apply wp_ret
 obtain rfl := Option.some.inj hg
 refine fin1 (fn := Tryz.f36) s rfl (r_tmp s rfl) ?_
 exact rfl
set_option maxHeartbeats 400000 in
theorem c_scope_role (n : Nat) (M : Bs) (w0 : World) (hM : ∀ b, M b → b < w0.heap.size) (x_ : EP) (Ap03 : Option Addr) (cp03 : Nat) (lp01 : (x_.Pred).length ≤ 9223372036854775807) (hp03 : SlR RArg M w0 Ap03 (x_.Args).length cp03 (x_.Args)) (name_ : (List UInt8)) (lp11 : (name_).length ≤ 9223372036854775807) (r : (Int × Bool)) (hg : scope_role n x_ name_ = some r) :
    Calls Tryz.prog 56 [.agg #[.string (bs (x_.Pred)), .int .i64 (x_.Label), .slice (Ap03) ((x_.Args).length) (cp03)], .string (bs (name_))].toArray w0 (Ret noB w0 fun v w => v = .tuple #[.int .i64 (r.1), .bool (r.2)]) := by
 unfold scope_role at hg
 refine enter M noB func56 rfl rfl hM ?_
 intro a s
 replace s := s.es 101 hp03
 apply wR
 refine l_seq rfl (l_box (zs := [vT (x_.Pred), vI (x_.Label), sl Ap03 (x_.Args) cp03]) s 1000 rfl rfl rfl rfl fun b2 a w hb hK s => ?_)
 refine asg s rfl rfl fun a s => ?_
 refine asg s rfl rfl fun a s => ?_
 apply wN
 apply wQ
 apply wR
 refine qq s rfl (y_boxField (o' := 2) s rfl underlying43 rfl rfl rfl) fun a s => ?_
 refine qq s rfl (y_loadBox1 (kk := 1000) s rfl rfl rfl underlying41 rfl) fun a s => ?_
 refine qq s rfl (y_lenSlice s rfl underlying41) fun a s => ?_
 refine mv s rfl rfl fun a s => ?_
 apply wN
 apply wp_block
 refine c_loop (σ := Nat) (fun m1 a w => ∃ (t_3 : Nat), scope_role_L0 n x_ name_ m1 t_3 = some r ∧ St (⟨Tryz.f56.ntmps, M, noB, w0⟩ : Ctx) [(1, vT name_), (9, sl Ap03 (x_.Args) cp03), (10, vI ((((x_.Args).length : Nat) : Int))), (11, vI (((t_3 : Nat) : Int)))] [] [(101, slF RArg (Ap03) ((x_.Args).length) (cp03) (x_.Args))] a w) (fun m1 => m1) n ⟨(0), hg, (s.sb rfl rfl rfl)⟩ ?_
 clear s a; rintro m1 a w ⟨t_3, hg, s⟩
 rcases m1 with _ | m1
 ·rw [scope_role_L0] at hg; cases hg
 rw [scope_role_L0] at hg
 apply wR
 refine qq s rfl (y_lssN (i := t_3) (j := ((x_.Args).length)) s rfl rfl) fun a s => ?_
 apply wN
 apply wQ
 refine c_dec s rfl (fun hc4 => ?_) (fun hc4 => ?_)
 ·replace hg := br_t hg hc4
  have hmx5 := SlR.mx (s.ft 101 rfl)
  apply wp_skip
  apply pN
  apply wQ
  apply wp_block
  apply wQ
  obtain ⟨x7, hx7, hg⟩ := bind_some hg
  apply wL
  obtain ⟨p10, hep10, hpp10⟩ := SlR.elemX (s.ft 101 rfl) hx7
  refine qq s rfl (y_elem (sz := 2) (i := t_3) s rfl rfl underlying41 rfl hep10 rfl (lt_of_get hx7)) fun a s => ?_
  obtain ⟨hlq11, hmq11, csq11, hdq11, hcq11⟩ := hpp10
  obtain ⟨rfl, lq111⟩ := RArg.open hdq11
  refine qq s rfl (y_ldp s rfl hlq11 hmq11 (by simpa using hcq11) underlying45 rfl rfl) fun a s => ?_
  refine l_seq rfl (l_alloc (zs := [vT ([]), vI 0]) s 1302 rfl rfl rfl rfl fun b12 a w hb hK s => ?_)
  refine l_seq rfl (l_store (n := 2) (cs' := [vT (x7.Role), vI (x7.Var)]) s 1302 rfl rfl rfl rfl rfl rfl rfl rfl ?_); clear s; intro w hK s; clear hK
  apply wN
  apply wR
  refine qq s rfl (y_boxField (o' := 0) s rfl underlying45 rfl rfl rfl) fun a s => ?_
  refine qq s rfl (y_loadBox1 (kk := 1302) s rfl rfl rfl underlying9 rfl) fun a s => ?_
  refine mv s rfl rfl fun a s => ?_
  refine qq s rfl (y_seq s rfl rfl) fun a s => ?_
  apply wN
  refine c_dec s rfl (fun hc13 => ?_) (fun hc13 => ?_)
  ·replace hg := br_t hg hc13
   apply wR
   refine qq s rfl (y_boxField (o' := 1) s rfl underlying45 rfl rfl rfl) fun a s => ?_
   refine qq s rfl (y_loadBox1 (kk := 1302) s rfl rfl rfl underlying3 rfl) fun a s => ?_
   refine asg s rfl rfl fun a s => ?_
   refine asg s rfl rfl fun a s => ?_
   apply wN
   apply wp_ret
   refine p_inR ?_
   refine p_thenR ?_
   refine p_thenR ?_
   refine p_inR ?_
   refine p_thenR ?_
   obtain rfl := Option.some.inj hg
   refine fin2 (fn := Tryz.f56) s rfl (r_tmp s rfl) (r_tmp s rfl) ?_
   exact rfl
  replace hg := br_f hg hc13
  apply wp_skip
  refine p_inN ?_
  apply pN
  apply wL
  refine qq s rfl (y_addN (i := t_3) (j := 1) s rfl rfl (in64.2 (by omega))) fun a s => ?_
  refine mv s rfl rfl fun a s => ?_
  apply wN
  exact ⟨m1, Nat.lt_succ_self _, ⟨(t_3 + 1), hg, (s.sb rfl rfl rfl)⟩⟩
 replace hg := br_f hg hc4
 apply wp_exit
 refine p_then ?_
 refine p_then ?_
 refine p_in ?_
 apply pN
 apply wR
 refine asg s rfl rfl fun a s => ?_
 refine asg s rfl rfl fun a s => ?_
 apply wN
 apply wp_ret
 obtain rfl := Option.some.inj hg
 refine fin2 (fn := Tryz.f56) s rfl (r_tmp s rfl) (r_tmp s rfl) ?_
 exact rfl
set_option maxHeartbeats 400000 in
theorem c_scope_quantifier (n : Nat) (M : Bs) (w0 : World) (hM : ∀ b, M b → b < w0.heap.size) (x_ : EP) (Ap03 : Option Addr) (cp03 : Nat) (lp01 : (x_.Pred).length ≤ 9223372036854775807) (hp03 : SlR RArg M w0 Ap03 (x_.Args).length cp03 (x_.Args)) (r : (Int × Bool)) (hg : scope_quantifier n x_ = some r) :
    Calls Tryz.prog 55 [.agg #[.string (bs (x_.Pred)), .int .i64 (x_.Label), .slice (Ap03) ((x_.Args).length) (cp03)]].toArray w0 (Ret noB w0 fun v w => v = .tuple #[.int .i64 (r.1), .bool (r.2)]) := by
 unfold scope_quantifier at hg
 refine enter M noB func55 rfl rfl hM ?_
 intro a s
 replace s := s.es 101 hp03
 apply wR
 refine l_seq rfl (l_box (zs := [vT (x_.Pred), vI (x_.Label), sl Ap03 (x_.Args) cp03]) s 1000 rfl rfl rfl rfl fun b2 a w hb hK s => ?_)
 refine asg s rfl rfl fun a s => ?_
 refine asg s rfl rfl fun a s => ?_
 apply wN
 apply wQ
 obtain ⟨r3, hr3, hg⟩ := bind_some hg
 apply wL
 refine qq s rfl (y_loadAll (kk := 1000) s rfl rfl underlying43 rfl rfl) fun a s => ?_
 refine l_seq rfl (l_call (cap := []) s rfl func56 rfl (by kernel_rfl) rfl rfl (c_scope_role n _ _ s.lt x_ (Ap03) (cp03) (by omega) (s.ft 101 rfl) [82, 83, 84, 82] (by first | omega | (rw [List.length_append]; omega) | (simp only [List.length_append]; omega) | (simp only [List.length_append, List.length_take, List.length_drop, List.length_cons, List.length_nil]; omega)) r3 hr3) fun v6 a w hK hp s => ?_)
 obtain rfl := hp
 refine mv s rfl rfl fun a s => ?_
 refine qq s rfl (y_extract s rfl rfl) fun a s => ?_
 refine qq s rfl (y_extract s rfl rfl) fun a s => ?_
 refine asg s rfl rfl fun a s => ?_
 refine asg s rfl rfl fun a s => ?_
 apply wN
 apply wQ
 obtain ⟨r8, hr8, hg⟩ := bind_some hg
 apply wL
 refine qq s rfl (y_loadAll (kk := 1000) s rfl rfl underlying43 rfl rfl) fun a s => ?_
 refine l_seq rfl (l_call (cap := []) s rfl func56 rfl (by kernel_rfl) rfl rfl (c_scope_role n _ _ s.lt x_ (Ap03) (cp03) (by omega) (s.ft 101 rfl) [66, 79, 68, 89] (by first | omega | (rw [List.length_append]; omega) | (simp only [List.length_append]; omega) | (simp only [List.length_append, List.length_take, List.length_drop, List.length_cons, List.length_nil]; omega)) r8 hr8) fun v11 a w hK hp s => ?_)
 obtain rfl := hp
 refine mv s rfl rfl fun a s => ?_
 refine qq s rfl (y_extract s rfl rfl) fun a s => ?_
 refine qq s rfl (y_extract s rfl rfl) fun a s => ?_
 refine asg s rfl rfl fun a s => ?_
 refine asg s rfl rfl fun a s => ?_
 apply wN
 apply wQ
 rcases Bool.eq_false_or_eq_true (r3.2) with hs13 | hs13
 ·replace hg := br_t hg hs13
  apply wL
  refine mv s rfl rfl fun a s => ?_
  refine qq s rfl (yl_b (y_move s rfl) hs13) fun a s => ?_
  refine mv s rfl rfl fun a s => ?_
  refine gm s rfl rfl fun a s => ?_
  refine qq s rfl (y_pick_t s rfl rfl) fun a s => ?_
  refine asg s rfl rfl fun a s => ?_
  refine asg s rfl rfl fun a s => ?_
  apply wN
  apply wp_ret
  obtain rfl := Option.some.inj hg
  refine fin2 (fn := Tryz.f55) s rfl (r_tmp s rfl) (r_tmp s rfl) ?_
  exact rfl
 replace hg := br_n hg hs13
 apply wL
 refine mv s rfl rfl fun a s => ?_
 refine qq s rfl (yl_b (y_move s rfl) hs13) fun a s => ?_
 refine mv s rfl rfl fun a s => ?_
 refine gn s rfl fun a s => ?_
 refine qq s rfl (y_pick_f s rfl rfl) fun a s => ?_
 refine asg s rfl rfl fun a s => ?_
 refine asg s rfl rfl fun a s => ?_
 apply wN
 apply wp_ret
 obtain rfl := Option.some.inj hg
 refine fin2 (fn := Tryz.f55) s rfl (r_tmp s rfl) (r_tmp s rfl) ?_
 exact rfl
set_option maxHeartbeats 400000 in
theorem c_scope_tree_reaches (n : Nat) : ∀ (M : Bs) (w0 : World) (hM : ∀ b, M b → b < w0.heap.size) (t_ : tree) (Ap03 : Option Addr) (cp03 : Nat) (Ap04 : Option Addr) (cp04 : Nat) (Ap05 : Option Addr) (cp05 : Nat) (Ap06 : Option Addr) (cp06 : Nat) (Ap07 : Option Addr) (cp07 : Nat) (hp03 : SlR Rep.str M w0 Ap03 (t_.m_.Vars).length cp03 (t_.m_.Vars)) (hp04 : SlR REP M w0 Ap04 (t_.m_.Rels).length cp04 (t_.m_.Rels)) (hp05 : SlR RQeq M w0 Ap05 (t_.m_.Cons).length cp05 (t_.m_.Cons)) (hp06 : SlR (Rep.num .i64) M w0 Ap06 (t_.labels_).length cp06 (t_.labels_)) (hp07 : SlR (Rep.num .i64) M w0 Ap07 (t_.at_).length cp07 (t_.at_)) (v_ : Int) (label_ : Int) (r : Bool) (hg : scope_tree_reaches n t_ v_ label_ = some r),
    Calls Tryz.prog 37 [.agg #[.int .i64 (t_.m_.Top), .int .i64 (t_.m_.Index), .slice (Ap03) ((t_.m_.Vars).length) (cp03), .slice (Ap04) ((t_.m_.Rels).length) (cp04), .slice (Ap05) ((t_.m_.Cons).length) (cp05), .slice (Ap06) ((t_.labels_).length) (cp06), .slice (Ap07) ((t_.at_).length) (cp07)], .int .i64 (v_), .int .i64 (label_)].toArray w0 (Ret noB w0 fun v w => v = .bool (r)) := by
 induction n with
 | zero => intros; rename_i hg; rw [scope_tree_reaches] at hg; cases hg
 | succ n c_self =>
 intro M w0 hM t_ Ap03 cp03 Ap04 cp04 Ap05 cp05 Ap06 cp06 Ap07 cp07 hp03 hp04 hp05 hp06 hp07 v_ label_ r hg
 rw [scope_tree_reaches] at hg
 refine enter M noB func37 rfl rfl hM ?_
 intro a s
 replace s := s.es 101 hp03
 replace s := s.es 102 hp04
 replace s := s.es 103 hp05
 replace s := s.es 104 hp06
 replace s := s.es 105 hp07
 apply wR
 refine l_seq rfl (l_box (zs := [vI (t_.m_.Top), vI (t_.m_.Index), sl Ap03 (t_.m_.Vars) cp03, sl Ap04 (t_.m_.Rels) cp04, sl Ap05 (t_.m_.Cons) cp05, sl Ap06 (t_.labels_) cp06, sl Ap07 (t_.at_) cp07]) s 1000 rfl rfl rfl rfl fun b2 a w hb hK s => ?_)
 refine asg s rfl rfl fun a s => ?_
 apply wN
 apply wQ
 obtain ⟨x4, hx4, hg⟩ := bind_some hg
 apply wL
 refine qq s rfl (y_boxField (o' := 6) s rfl underlying56 rfl rfl rfl) fun a s => ?_
 refine qq s rfl (y_loadBox1 (kk := 1000) s rfl rfl rfl underlying30 rfl) fun a s => ?_
 refine mv s rfl rfl fun a s => ?_
 obtain ⟨p6, hep6, hpp6⟩ := SlR.elemX (s.ft 105 rfl) (ix_some hx4).1
 refine qq s rfl (y_elem (sz := 1) (i := ((v_).toNat)) s rfl rfl underlying30 rfl hep6 (ix_some hx4).2.1 (lt_of_get (ix_some hx4).1)) fun a s => ?_
 obtain ⟨hlq7, hmq7, csq7, hdq7, hcq7⟩ := hpp6
 obtain rfl := hdq7
 refine qq s rfl (y_ldp1 s rfl hlq7 hmq7 (hcq7 0 _ rfl) underlying3 rfl) fun a s => ?_
 refine asg s rfl rfl fun a s => ?_
 apply wN
 apply wQ
 apply wR
 refine mv s rfl rfl fun a s => ?_
 refine mv s rfl rfl fun a s => ?_
 refine qq s rfl (y_eql s rfl rfl) fun a s => ?_
 apply wN
 refine c_dec s rfl (fun hc8 => ?_) (fun hc8 => ?_)
 ·replace hg := br_t hg hc8
  apply wR
  refine asg s rfl rfl fun a s => ?_
  apply wN
  apply wp_ret
  refine p_thenR ?_
  obtain rfl := Option.some.inj hg
  refine fin1 (fn := Tryz.f37) s rfl (r_tmp s rfl) ?_
  exact rfl
 replace hg := br_f hg hc8
 apply wp_skip
 apply pN
 apply wQ
 apply wR
 refine mv s rfl rfl fun a s => ?_
 refine qq s rfl (y_lss s rfl rfl) fun a s => ?_
 apply wN
 refine c_dec s rfl (fun hc9 => ?_) (fun hc9 => ?_)
 ·replace hg := br_t hg hc9
  apply wR
  refine asg s rfl rfl fun a s => ?_
  apply wN
  apply wp_ret
  refine p_thenR ?_
  obtain rfl := Option.some.inj hg
  refine fin1 (fn := Tryz.f37) s rfl (r_tmp s rfl) ?_
  exact rfl
 replace hg := br_f hg hc9
 apply wp_skip
 apply pN
 apply wQ
 apply wR
 refine qq s rfl (y_boxField (o' := 0) s rfl underlying56 rfl rfl rfl) fun a s => ?_
 refine qq s rfl (y_boxField (o' := 3) s rfl underlying26 rfl rfl rfl) fun a s => ?_
 refine qq s rfl (y_loadBox1 (kk := 1000) s rfl rfl rfl underlying23 rfl) fun a s => ?_
 refine qq s rfl (y_lenSlice s rfl underlying23) fun a s => ?_
 refine mv s rfl rfl fun a s => ?_
 apply wN
 apply wp_block
 refine c_loop (σ := Nat) (fun m1 a w => ∃ (t_10 : Nat), scope_tree_reaches_L0 n t_ label_ (scope_tree_reaches n) x4 m1 t_10 = some r ∧ St (⟨Tryz.f37.ntmps, M, noB, w0⟩ : Ctx) [(2, vI label_), (3, vP b2 0), (7, vI x4), (24, sl Ap04 (t_.m_.Rels) cp04), (25, vI ((((t_.m_.Rels).length : Nat) : Int))), (26, vI (((t_10 : Nat) : Int)))] [(1000, Ob.box b2 [vI (t_.m_.Top), vI (t_.m_.Index), sl Ap03 (t_.m_.Vars) cp03, sl Ap04 (t_.m_.Rels) cp04, sl Ap05 (t_.m_.Cons) cp05, sl Ap06 (t_.labels_) cp06, sl Ap07 (t_.at_) cp07] 56)] [(101, slF Rep.str (Ap03) ((t_.m_.Vars).length) (cp03) (t_.m_.Vars)), (102, slF REP (Ap04) ((t_.m_.Rels).length) (cp04) (t_.m_.Rels)), (103, slF RQeq (Ap05) ((t_.m_.Cons).length) (cp05) (t_.m_.Cons)), (104, slF (Rep.num .i64) (Ap06) ((t_.labels_).length) (cp06) (t_.labels_)), (105, slF (Rep.num .i64) (Ap07) ((t_.at_).length) (cp07) (t_.at_))] a w) (fun m1 => m1) n ⟨(0), hg, (s.sb rfl rfl rfl)⟩ ?_
 clear s a; rintro m1 a w ⟨t_10, hg, s⟩
 rcases m1 with _ | m1
 ·rw [scope_tree_reaches_L0] at hg; cases hg
 rw [scope_tree_reaches_L0] at hg
 apply wR
 refine qq s rfl (y_lssN (i := t_10) (j := ((t_.m_.Rels).length)) s rfl rfl) fun a s => ?_
 apply wN
 apply wQ
 refine c_dec s rfl (fun hc11 => ?_) (fun hc11 => ?_)
 ·replace hg := br_t hg hc11
  have hmx12 := SlR.mx (s.ft 102 rfl)
  apply wp_skip
  apply pN
  apply wQ
  apply wp_block
  apply wQ
  obtain ⟨x14, hx14, hg⟩ := bind_some hg
  apply wL
  obtain ⟨p17, hep17, hpp17⟩ := SlR.elemX (s.ft 102 rfl) hx14
  refine qq s rfl (y_elem (sz := 3) (i := t_10) s rfl rfl underlying23 rfl hep17 rfl (lt_of_get hx14)) fun a s => ?_
  obtain ⟨hlq18, hmq18, csq18, hdq18, hcq18⟩ := hpp17
  obtain ⟨Aq183, cq183, rfl, lq181, hq183⟩ := REP.open hdq18
  replace s := s.ns 107 hq183
  refine qq s rfl (y_ldp s rfl hlq18 hmq18 (by simpa using hcq18) underlying43 rfl rfl) fun a s => ?_
  refine l_seq rfl (l_alloc (zs := [vT ([]), vI 0, .slice (none) (0) (0)]) s 1802 rfl rfl rfl rfl fun b19 a w hb hK s => ?_)
  refine l_seq rfl (l_store (n := 3) (cs' := [vT (x14.Pred), vI (x14.Label), sl Aq183 (x14.Args) cq183]) s 1802 rfl rfl rfl rfl rfl rfl rfl rfl ?_); clear s; intro w hK s; clear hK
  apply wN
  apply wQ
  obtain ⟨r20, hr20, hg⟩ := bind_some hg
  apply wL
  refine qq s rfl (y_loadAll (kk := 1802) s rfl rfl underlying43 rfl rfl) fun a s => ?_
  refine l_seq rfl (l_call (cap := []) s rfl func55 rfl (by kernel_rfl) rfl rfl (c_scope_quantifier n _ _ s.lt x14 (Aq183) (cq183) (by omega) (s.ft 107 rfl) r20 hr20) fun v23 a w hK hp s => ?_)
  obtain rfl := hp
  refine mv s rfl rfl fun a s => ?_
  refine qq s rfl (y_extract s rfl rfl) fun a s => ?_
  refine qq s rfl (y_extract s rfl rfl) fun a s => ?_
  refine asg s rfl rfl fun a s => ?_
  refine asg s rfl rfl fun a s => ?_
  apply wN
  apply wQ
  obtain ⟨k25, hg, hk25⟩ := jn_some hg
  refine c_post (fun a w => ∃ (t_26 : Bool), k25 t_26 = some r ∧ St (⟨Tryz.f37.ntmps, M, noB, w0⟩ : Ctx) [(2, vI label_), (3, vP b2 0), (7, vI x4), (24, sl Ap04 (t_.m_.Rels) cp04), (25, vI ((((t_.m_.Rels).length : Nat) : Int))), (26, vI (((t_10 : Nat) : Int))), (47, .bool (t_26))] [(1000, Ob.box b2 [vI (t_.m_.Top), vI (t_.m_.Index), sl Ap03 (t_.m_.Vars) cp03, sl Ap04 (t_.m_.Rels) cp04, sl Ap05 (t_.m_.Cons) cp05, sl Ap06 (t_.labels_) cp06, sl Ap07 (t_.at_) cp07] 56)] [(101, slF Rep.str (Ap03) ((t_.m_.Vars).length) (cp03) (t_.m_.Vars)), (102, slF REP (Ap04) ((t_.m_.Rels).length) (cp04) (t_.m_.Rels)), (103, slF RQeq (Ap05) ((t_.m_.Cons).length) (cp05) (t_.m_.Cons)), (104, slF (Rep.num .i64) (Ap06) ((t_.labels_).length) (cp06) (t_.labels_)), (105, slF (Rep.num .i64) (Ap07) ((t_.at_).length) (cp07) (t_.at_))] a w) ?_ ?_
  ·rcases Bool.eq_false_or_eq_true (r20.2) with hs27 | hs27
   ·replace hg := br_t hg hs27
    rcases Decidable.em (x14.Label = x4) with hs28 | hs28
    ·have hs28e := decide_eq_true hs28
     replace hg := br_t hg hs28
     obtain ⟨r29, hr29, hg⟩ := bind_some hg
     apply wL
     refine qq s rfl (yl_b (y_move s rfl) hs27) fun a s => ?_
     refine mv s rfl rfl fun a s => ?_
     refine gy s rfl (y_boxField (o' := 1) s rfl underlying43 rfl rfl rfl) fun a s => ?_
     refine gy s rfl (y_loadBox1 (kk := 1802) s rfl rfl rfl underlying3 rfl) fun a s => ?_
     refine gm s rfl rfl fun a s => ?_
     refine gy s rfl (yl_b (y_eql s rfl rfl) hs28e) fun a s => ?_
     refine qq s rfl (y_pick_t s rfl rfl) fun a s => ?_
     refine mv s rfl rfl fun a s => ?_
     refine gy s rfl (y_loadAll (kk := 1000) s rfl rfl underlying56 rfl rfl) fun a s => ?_
     refine gm s rfl rfl fun a s => ?_
     refine gm s rfl rfl fun a s => ?_
     refine gl s rfl (l_call (cap := []) s rfl func37 rfl (by kernel_rfl) rfl rfl (c_self _ _ s.lt t_ (Ap03) (cp03) (Ap04) (cp04) (Ap05) (cp05) (Ap06) (cp06) (Ap07) (cp07) (s.ft 101 rfl) (s.ft 102 rfl) (s.ft 103 rfl) (s.ft 104 rfl) (s.ft 105 rfl) r20.1 label_ r29 hr29) fun v32 a w hK hp s => ?_)
     obtain rfl := hp
     refine qq s rfl (y_pick_t s rfl rfl) fun a s => ?_
     apply wN
     exact ⟨(r29), hg, (s.sb rfl rfl rfl)⟩
    have hs28e := decide_eq_false hs28
    replace hg := br_f hg hs28
    apply wL
    refine qq s rfl (yl_b (y_move s rfl) hs27) fun a s => ?_
    refine mv s rfl rfl fun a s => ?_
    refine gy s rfl (y_boxField (o' := 1) s rfl underlying43 rfl rfl rfl) fun a s => ?_
    refine gy s rfl (y_loadBox1 (kk := 1802) s rfl rfl rfl underlying3 rfl) fun a s => ?_
    refine gm s rfl rfl fun a s => ?_
    refine gy s rfl (yl_b (y_eql s rfl rfl) hs28e) fun a s => ?_
    refine qq s rfl (y_pick_t s rfl rfl) fun a s => ?_
    refine mv s rfl rfl fun a s => ?_
    refine gn s rfl fun a s => ?_
    refine gn s rfl fun a s => ?_
    refine gn s rfl fun a s => ?_
    refine gn s rfl fun a s => ?_
    refine qq s rfl (y_pick_f s rfl rfl) fun a s => ?_
    apply wN
    exact ⟨(false), hg, (s.sb rfl rfl rfl)⟩
   replace hg := br_n hg hs27
   apply wL
   refine qq s rfl (yl_b (y_move s rfl) hs27) fun a s => ?_
   refine mv s rfl rfl fun a s => ?_
   refine gn s rfl fun a s => ?_
   refine gn s rfl fun a s => ?_
   refine gn s rfl fun a s => ?_
   refine gn s rfl fun a s => ?_
   refine qq s rfl (y_pick_f s rfl rfl) fun a s => ?_
   refine mv s rfl rfl fun a s => ?_
   refine gn s rfl fun a s => ?_
   refine gn s rfl fun a s => ?_
   refine gn s rfl fun a s => ?_
   refine gn s rfl fun a s => ?_
   refine qq s rfl (y_pick_f s rfl rfl) fun a s => ?_
   apply wN
   exact ⟨(false), hg, (s.sb rfl rfl rfl)⟩
  clear s a; rintro a w ⟨t_26, hg, s⟩
  subst hk25
  refine c_cond s rfl (fun hc34 => ?_) (fun hc34 => ?_)
  ·replace hg := br_t hg hc34
   apply wR
   refine asg s rfl rfl fun a s => ?_
   apply wN
   apply wp_ret
   refine p_inR ?_
   refine p_thenR ?_
   refine p_thenR ?_
   refine p_inR ?_
   refine p_thenR ?_
   obtain rfl := Option.some.inj hg
   refine fin1 (fn := Tryz.f37) s rfl (r_tmp s rfl) ?_
   exact rfl
  replace hg := br_n hg hc34
  apply wp_skip
  refine p_inN ?_
  apply pN
  apply wL
  refine qq s rfl (y_addN (i := t_10) (j := 1) s rfl rfl (in64.2 (by omega))) fun a s => ?_
  refine mv s rfl rfl fun a s => ?_
  apply wN
  exact ⟨m1, Nat.lt_succ_self _, ⟨(t_10 + 1), hg, (s.sb rfl rfl rfl)⟩⟩
 replace hg := br_f hg hc11
 apply wp_exit
 refine p_then ?_
 refine p_then ?_
 refine p_in ?_
 apply pN
 apply wR
 refine asg s rfl rfl fun a s => ?_
 apply wN
 apply wp_ret
 obtain rfl := Option.some.inj hg
 refine fin1 (fn := Tryz.f37) s rfl (r_tmp s rfl) ?_
 exact rfl
set_option maxHeartbeats 400000 in
theorem c_scope_tree_bound (n : Nat) (M : Bs) (w0 : World) (hM : ∀ b, M b → b < w0.heap.size) (t_ : tree) (Ap03 : Option Addr) (cp03 : Nat) (Ap04 : Option Addr) (cp04 : Nat) (Ap05 : Option Addr) (cp05 : Nat) (Ap06 : Option Addr) (cp06 : Nat) (Ap07 : Option Addr) (cp07 : Nat) (hp03 : SlR Rep.str M w0 Ap03 (t_.m_.Vars).length cp03 (t_.m_.Vars)) (hp04 : SlR REP M w0 Ap04 (t_.m_.Rels).length cp04 (t_.m_.Rels)) (hp05 : SlR RQeq M w0 Ap05 (t_.m_.Cons).length cp05 (t_.m_.Cons)) (hp06 : SlR (Rep.num .i64) M w0 Ap06 (t_.labels_).length cp06 (t_.labels_)) (hp07 : SlR (Rep.num .i64) M w0 Ap07 (t_.at_).length cp07 (t_.at_)) (t_' : Int) (r : Bool) (hg : scope_tree_bound n t_ t_' = some r) :
    Calls Tryz.prog 38 [.agg #[.int .i64 (t_.m_.Top), .int .i64 (t_.m_.Index), .slice (Ap03) ((t_.m_.Vars).length) (cp03), .slice (Ap04) ((t_.m_.Rels).length) (cp04), .slice (Ap05) ((t_.m_.Cons).length) (cp05), .slice (Ap06) ((t_.labels_).length) (cp06), .slice (Ap07) ((t_.at_).length) (cp07)], .int .i64 (t_')].toArray w0 (Ret noB w0 fun v w => v = .bool (r)) := by
 unfold scope_tree_bound at hg
 refine enter M noB func38 rfl rfl hM ?_
 intro a s
 replace s := s.es 101 hp03
 replace s := s.es 102 hp04
 replace s := s.es 103 hp05
 replace s := s.es 104 hp06
 replace s := s.es 105 hp07
 apply wR
 refine l_seq rfl (l_box (zs := [vI (t_.m_.Top), vI (t_.m_.Index), sl Ap03 (t_.m_.Vars) cp03, sl Ap04 (t_.m_.Rels) cp04, sl Ap05 (t_.m_.Cons) cp05, sl Ap06 (t_.labels_) cp06, sl Ap07 (t_.at_) cp07]) s 1000 rfl rfl rfl rfl fun b2 a w hb hK s => ?_)
 refine asg s rfl rfl fun a s => ?_
 apply wN
 apply wQ
 obtain ⟨x4, hx4, hg⟩ := bind_some hg
 apply wL
 refine qq s rfl (y_boxField (o' := 0) s rfl underlying56 rfl rfl rfl) fun a s => ?_
 refine qq s rfl (y_boxField (o' := 3) s rfl underlying26 rfl rfl rfl) fun a s => ?_
 refine qq s rfl (y_loadBox1 (kk := 1000) s rfl rfl rfl underlying23 rfl) fun a s => ?_
 refine mv s rfl rfl fun a s => ?_
 obtain ⟨p7, hep7, hpp7⟩ := SlR.elemX (s.ft 102 rfl) (ix_some hx4).1
 refine qq s rfl (y_elem (sz := 3) (i := ((t_').toNat)) s rfl rfl underlying23 rfl hep7 (ix_some hx4).2.1 (lt_of_get (ix_some hx4).1)) fun a s => ?_
 obtain ⟨hlq8, hmq8, csq8, hdq8, hcq8⟩ := hpp7
 obtain ⟨Aq83, cq83, rfl, lq81, hq83⟩ := REP.open hdq8
 replace s := s.ns 107 hq83
 refine qq s rfl (y_ldp s rfl hlq8 hmq8 (by simpa using hcq8) underlying43 rfl rfl) fun a s => ?_
 refine l_seq rfl (l_alloc (zs := [vT ([]), vI 0, .slice (none) (0) (0)]) s 1106 rfl rfl rfl rfl fun b9 a w hb hK s => ?_)
 refine l_seq rfl (l_store (n := 3) (cs' := [vT (x4.Pred), vI (x4.Label), sl Aq83 (x4.Args) cq83]) s 1106 rfl rfl rfl rfl rfl rfl rfl rfl ?_); clear s; intro w hK s; clear hK
 apply wN
 apply wQ
 obtain ⟨r10, hr10, hg⟩ := bind_some hg
 apply wL
 refine qq s rfl (y_loadAll (kk := 1106) s rfl rfl underlying43 rfl rfl) fun a s => ?_
 refine l_seq rfl (l_call (cap := []) s rfl func56 rfl (by kernel_rfl) rfl rfl (c_scope_role n _ _ s.lt x4 (Aq83) (cq83) (by omega) (s.ft 107 rfl) [65, 82, 71, 48] (by first | omega | (rw [List.length_append]; omega) | (simp only [List.length_append]; omega) | (simp only [List.length_append, List.length_take, List.length_drop, List.length_cons, List.length_nil]; omega)) r10 hr10) fun v13 a w hK hp s => ?_)
 obtain rfl := hp
 refine mv s rfl rfl fun a s => ?_
 refine qq s rfl (y_extract s rfl rfl) fun a s => ?_
 refine qq s rfl (y_extract s rfl rfl) fun a s => ?_
 refine asg s rfl rfl fun a s => ?_
 refine asg s rfl rfl fun a s => ?_
 apply wN
 apply wQ
 apply wQ
 obtain ⟨r15, hr15, hg⟩ := bind_some hg
 apply wL
 refine qq s rfl (y_loadAll (kk := 1106) s rfl rfl underlying43 rfl rfl) fun a s => ?_
 refine l_seq rfl (l_call (cap := []) s rfl func55 rfl (by kernel_rfl) rfl rfl (c_scope_quantifier n _ _ s.lt x4 (Aq83) (cq83) (by omega) (s.ft 107 rfl) r15 hr15) fun v18 a w hK hp s => ?_)
 obtain rfl := hp
 refine mv s rfl rfl fun a s => ?_
 refine qq s rfl (y_extract s rfl rfl) fun a s => ?_
 refine qq s rfl (y_extract s rfl rfl) fun a s => ?_
 refine asg s rfl rfl fun a s => ?_
 refine asg s rfl rfl fun a s => ?_
 apply wN
 apply wQ
 obtain ⟨k20, hg, hk20⟩ := jn_some hg
 refine c_post (fun a w => ∃ (t_21 : Bool), k20 t_21 = some r ∧ St (⟨Tryz.f38.ntmps, M, noB, w0⟩ : Ctx) [(1, vI (t_')), (2, vP b2 0), (5, vP b9 0), (6, vI (r10.1)), (36, .bool (t_21))] [(1000, Ob.box b2 [vI (t_.m_.Top), vI (t_.m_.Index), sl Ap03 (t_.m_.Vars) cp03, sl Ap04 (t_.m_.Rels) cp04, sl Ap05 (t_.m_.Cons) cp05, sl Ap06 (t_.labels_) cp06, sl Ap07 (t_.at_) cp07] 56), (1106, Ob.box b9 [vT (x4.Pred), vI (x4.Label), sl Aq83 (x4.Args) cq83] 43)] [(101, slF Rep.str (Ap03) ((t_.m_.Vars).length) (cp03) (t_.m_.Vars)), (102, slF REP (Ap04) ((t_.m_.Rels).length) (cp04) (t_.m_.Rels)), (103, slF RQeq (Ap05) ((t_.m_.Cons).length) (cp05) (t_.m_.Cons)), (104, slF (Rep.num .i64) (Ap06) ((t_.labels_).length) (cp06) (t_.labels_)), (105, slF (Rep.num .i64) (Ap07) ((t_.at_).length) (cp07) (t_.at_)), (107, slF RArg (Aq83) ((x4.Args).length) (cq83) (x4.Args))] a w) ?_ ?_
 ·rcases Bool.eq_false_or_eq_true (!(r15.2)) with hs22 | hs22
  ·replace hg := br_t hg hs22
   apply wL
   refine mv s rfl rfl fun a s => ?_
   refine qq s rfl (yl_b (y_not s rfl) hs22) fun a s => ?_
   refine mv s rfl rfl fun a s => ?_
   refine gn s rfl fun a s => ?_
   refine gn s rfl fun a s => ?_
   refine qq s rfl (y_pick_t s rfl rfl) fun a s => ?_
   apply wN
   exact ⟨(true), hg, (s.sb rfl rfl rfl)⟩
  replace hg := br_n hg hs22
  apply wL
  refine mv s rfl rfl fun a s => ?_
  refine qq s rfl (yl_b (y_not s rfl) hs22) fun a s => ?_
  refine mv s rfl rfl fun a s => ?_
  refine gm s rfl rfl fun a s => ?_
  refine gy s rfl (y_not s rfl) fun a s => ?_
  refine qq s rfl (y_pick_f s rfl rfl) fun a s => ?_
  apply wN
  exact ⟨(!(r10.2)), hg, (s.sb rfl rfl rfl)⟩
 clear s a; rintro a w ⟨t_21, hg, s⟩
 subst hk20
 refine c_cond s rfl (fun hc23 => ?_) (fun hc23 => ?_)
 ·replace hg := br_t hg hc23
  apply wR
  refine asg s rfl rfl fun a s => ?_
  apply wN
  apply wp_ret
  refine p_thenR ?_
  obtain rfl := Option.some.inj hg
  refine fin1 (fn := Tryz.f38) s rfl (r_tmp s rfl) ?_
  exact rfl
 replace hg := br_n hg hc23
 apply wp_skip
 apply pN
 apply wR
 refine asg s rfl rfl fun a s => ?_
 apply wN
 apply wQ
 apply wR
 refine qq s rfl (y_boxField (o' := 2) s rfl underlying43 rfl rfl rfl) fun a s => ?_
 refine qq s rfl (y_loadBox1 (kk := 1106) s rfl rfl rfl underlying41 rfl) fun a s => ?_
 refine qq s rfl (y_lenSlice s rfl underlying41) fun a s => ?_
 refine mv s rfl rfl fun a s => ?_
 apply wN
 obtain ⟨k24, hg, hk24⟩ := jn_some hg
 refine c_post (fun a w => ∃ (t_25 : (List Int)) (A26 : Option Addr) (c27 : Nat) (cs28 : List Value), k24 t_25 = some r ∧ St (⟨Tryz.f38.ntmps, M, noB, w0⟩ : Ctx) [(1, vI (t_')), (2, vP b2 0), (6, vI (r10.1)), (10, sl A26 (t_25) c27)] [(1000, Ob.box b2 [vI (t_.m_.Top), vI (t_.m_.Index), sl Ap03 (t_.m_.Vars) cp03, sl Ap04 (t_.m_.Rels) cp04, sl Ap05 (t_.m_.Cons) cp05, sl Ap06 (t_.labels_) cp06, sl Ap07 (t_.at_) cp07] 56), (700108, Ob.row (A26) ((t_25).length) (c27) 3 1 (cs28))] [(101, slF Rep.str (Ap03) ((t_.m_.Vars).length) (cp03) (t_.m_.Vars)), (102, slF REP (Ap04) ((t_.m_.Rels).length) (cp04) (t_.m_.Rels)), (103, slF RQeq (Ap05) ((t_.m_.Cons).length) (cp05) (t_.m_.Cons)), (104, slF (Rep.num .i64) (Ap06) ((t_.labels_).length) (cp06) (t_.labels_)), (105, slF (Rep.num .i64) (Ap07) ((t_.at_).length) (cp07) (t_.at_)), (109, rdF (Rep.num .i64) (cs28) (t_25))] a w) ?_ ?_
 ·apply wp_block
  replace s := s.nilRow 700110 3 1 rfl
  replace s := s.add 111 (rdF (Rep.num .i64) [] []) (RdAll.nil _ _ _)
  refine c_loop (σ := Nat) (fun m1 a w => ∃ (t_29 : (List Int)) (t_33 : Nat) (A30 : Option Addr) (c31 : Nat) (cs32 : List Value), scope_tree_bound_L0 n t_ x4 k24 m1 t_29 t_33 = some r ∧ St (⟨Tryz.f38.ntmps, M, noB, w0⟩ : Ctx) [(1, vI (t_')), (2, vP b2 0), (6, vI (r10.1)), (10, sl A30 (t_29) c31), (38, sl Aq83 (x4.Args) cq83), (39, vI ((((x4.Args).length : Nat) : Int))), (40, vI (((t_33 : Nat) : Int)))] [(1000, Ob.box b2 [vI (t_.m_.Top), vI (t_.m_.Index), sl Ap03 (t_.m_.Vars) cp03, sl Ap04 (t_.m_.Rels) cp04, sl Ap05 (t_.m_.Cons) cp05, sl Ap06 (t_.labels_) cp06, sl Ap07 (t_.at_) cp07] 56), (700110, Ob.row (A30) ((t_29).length) (c31) 3 1 (cs32))] [(101, slF Rep.str (Ap03) ((t_.m_.Vars).length) (cp03) (t_.m_.Vars)), (102, slF REP (Ap04) ((t_.m_.Rels).length) (cp04) (t_.m_.Rels)), (103, slF RQeq (Ap05) ((t_.m_.Cons).length) (cp05) (t_.m_.Cons)), (104, slF (Rep.num .i64) (Ap06) ((t_.labels_).length) (cp06) (t_.labels_)), (105, slF (Rep.num .i64) (Ap07) ((t_.at_).length) (cp07) (t_.at_)), (107, slF RArg (Aq83) ((x4.Args).length) (cq83) (x4.Args)), (111, rdF (Rep.num .i64) (cs32) (t_29))] a w) (fun m1 => m1) n ⟨([]), (0), (none), (0), ([]), hg, (s.sb rfl rfl rfl)⟩ ?_
  clear s a; rintro m1 a w ⟨t_29, t_33, A30, c31, cs32, hg, s⟩
  rcases m1 with _ | m1
  ·rw [scope_tree_bound_L0] at hg; cases hg
  rw [scope_tree_bound_L0] at hg
  apply wR
  refine qq s rfl (y_lssN (i := t_33) (j := ((x4.Args).length)) s rfl rfl) fun a s => ?_
  apply wN
  apply wQ
  refine c_dec s rfl (fun hc34 => ?_) (fun hc34 => ?_)
  ·replace hg := br_t hg hc34
   have hmx35 := SlR.mx (s.ft 107 rfl)
   apply wp_skip
   apply pN
   apply wQ
   apply wp_block
   apply wQ
   obtain ⟨x37, hx37, hg⟩ := bind_some hg
   apply wL
   obtain ⟨p40, hep40, hpp40⟩ := SlR.elemX (s.ft 107 rfl) hx37
   refine qq s rfl (y_elem (sz := 2) (i := t_33) s rfl rfl underlying41 rfl hep40 rfl (lt_of_get hx37)) fun a s => ?_
   obtain ⟨hlq41, hmq41, csq41, hdq41, hcq41⟩ := hpp40
   obtain ⟨rfl, lq411⟩ := RArg.open hdq41
   refine qq s rfl (y_ldp s rfl hlq41 hmq41 (by simpa using hcq41) underlying45 rfl rfl) fun a s => ?_
   refine l_seq rfl (l_alloc (zs := [vT ([]), vI 0]) s 1902 rfl rfl rfl rfl fun b42 a w hb hK s => ?_)
   refine l_seq rfl (l_store (n := 2) (cs' := [vT (x37.Role), vI (x37.Var)]) s 1902 rfl rfl rfl rfl rfl rfl rfl rfl ?_); clear s; intro w hK s; clear hK
   apply wN
   obtain ⟨x44, hx44, hg⟩ := bind_some hg
   obtain ⟨r46, hr46, hg⟩ := bind_some hg
   obtain ⟨hk49, hg⟩ := chk_some hg
   refine d_plan s [(9, 700110)] [(0, some 0), (1, some 1000), (2, some 0), (3, some 1000), (4, some 0), (5, some 1902), (6, some 0), (7, some 0), (8, none), (9, none), (10, none)] rfl (by kernel_rfl) (by kernel_rfl) rfl ?_; clear s; intro wr hZ s; have hR := s.wd
   refine qt s hR rfl (y_move s rfl) fun a s => ?_
   refine qt s hR rfl (y_loadAll (kk := 1000) s rfl rfl underlying56 rfl rfl) fun a s => ?_
   refine qt s hR rfl (y_boxField (o' := 6) s rfl underlying56 rfl rfl rfl) fun a s => ?_
   refine qt s hR rfl (y_loadBox1 (kk := 1000) s rfl rfl rfl underlying30 rfl) fun a s => ?_
   refine qt s hR rfl (y_boxField (o' := 1) s rfl underlying45 rfl rfl rfl) fun a s => ?_
   refine qt s hR rfl (y_loadBox1 (kk := 1902) s rfl rfl rfl underlying3 rfl) fun a s => ?_
   obtain ⟨p52, hep52, hpp52⟩ := SlR.elemX (s.ft 105 rfl) (ix_some hx44).1
   refine qt s hR rfl (y_elem (sz := 1) (i := ((x37.Var).toNat)) s rfl rfl underlying30 rfl hep52 (ix_some hx44).2.1 (lt_of_get (ix_some hx44).1)) fun a s => ?_
   obtain ⟨hlq53, hmq53, csq53, hdq53, hcq53⟩ := hpp52
   obtain rfl := hdq53
   refine qt s hR rfl (y_ldp1 s rfl hlq53 hmq53 (hcq53 0 _ rfl) underlying3 rfl) fun a s => ?_
   refine l_take s rfl rfl (l_call (cap := []) s rfl func34 rfl (by kernel_rfl) rfl rfl (c_scope_tree_below n _ _ s.lt t_ (Ap03) (cp03) (Ap04) (cp04) (Ap05) (cp05) (Ap06) (cp06) (Ap07) (cp07) (s.ft 101 rfl) (s.ft 102 rfl) (s.ft 103 rfl) (s.ft 104 rfl) (s.ft 105 rfl) x44 r46 hr46) fun v54 a w hK hp s => ?_)
   replace hZ := Nat.le_trans hZ hK.size; refine ⟨fun g _ h => h.grow hK, ?_⟩; clear hK
   obtain ⟨Au55a1, cu55a1, rfl, hu55a1⟩ := hp
   replace s := s.ns 115 hu55a1
   obtain ⟨ns57, hs57, hns57⟩ := SlR.src (s.ft 115 rfl)
   replace s := s.add 116 (rdF (Rep.num .i64) ns57 (r46)) hns57
   refine l_take s rfl rfl (l_append (sz := 1) (by_ := 8) (N := (t_29 ++ r46).length) (ys := cs32 ++ ns57) s 700110 rfl rfl rfl underlying30 rfl rfl rfl rfl rfl hs57 (by simp) rfl (by have hr := hk49; clear hg; first | omega | (simp only [List.length_append, List.length_cons, List.length_nil] at hr ⊢; omega) | (simp at hr ⊢; omega)) (by have hr := hk49; clear hg; first | omega | (simp only [List.length_append, List.length_cons, List.length_nil] at hr ⊢; omega) | (simp at hr ⊢; omega)) rfl fun Aq56 cq56 a w hA hK s => ?_)
   replace hZ := Nat.le_trans hZ hK.size; refine ⟨fun g hg h => h.obj hR (kk := 700110) rfl hK (by rintro rfl; exact absurd hg (by decide)), ?_⟩
   replace s := s.add 117 (rdF (Rep.num .i64) (cs32 ++ ns57) (t_29 ++ r46)) (RdAll.append (s.ft 111 rfl) (s.ft 116 rfl))
   refine l_take s rfl rfl (l_quiet s rfl rfl (y_assign s rfl) fun a s => ?_); refine ⟨fun g _ h => h, ?_⟩
   clear hR hZ
   refine p_inN ?_
   apply pN
   apply wL
   refine qq s rfl (y_addN (i := t_33) (j := 1) s rfl rfl (in64.2 (by omega))) fun a s => ?_
   refine mv s rfl rfl fun a s => ?_
   apply wN
   replace s := s.al 111 117 rfl
   exact ⟨m1, Nat.lt_succ_self _, ⟨(t_29 ++ r46), (t_33 + 1), (Aq56), (cq56), (cs32 ++ ns57), hg, (s.sb rfl rfl rfl)⟩⟩
  replace hg := br_f hg hc34
  apply wp_exit
  refine p_then ?_
  refine p_then ?_
  refine p_in ?_
  apply pN
  replace s := s.al 109 111 rfl
  replace s := s.pk [(1000, 1000), (700108, 700110)] (by decide)
  exact ⟨(t_29), (A30), (c31), (cs32), hg, (s.sb rfl rfl rfl)⟩
 clear s a; rintro a w ⟨t_25, A26, c27, cs28, hg, s⟩
 subst hk24
 apply wQ
 apply wR
 refine qq s rfl (y_boxField (o' := 0) s rfl underlying56 rfl rfl rfl) fun a s => ?_
 refine qq s rfl (y_boxField (o' := 3) s rfl underlying26 rfl rfl rfl) fun a s => ?_
 refine qq s rfl (y_loadBox1 (kk := 1000) s rfl rfl rfl underlying23 rfl) fun a s => ?_
 refine qq s rfl (y_lenSlice s rfl underlying23) fun a s => ?_
 refine mv s rfl rfl fun a s => ?_
 apply wN
 apply wp_block
 refine c_loop (σ := Nat) (fun m2 a w => ∃ (t_58 : Nat), scope_tree_bound_L1 n t_ t_' r10 t_25 m2 t_58 = some r ∧ St (⟨Tryz.f38.ntmps, M, noB, w0⟩ : Ctx) [(1, vI (t_')), (6, vI (r10.1)), (10, sl A26 (t_25) c27), (57, sl Ap04 (t_.m_.Rels) cp04), (58, vI ((((t_.m_.Rels).length : Nat) : Int))), (59, vI (((t_58 : Nat) : Int)))] [(700108, Ob.row (A26) ((t_25).length) (c27) 3 1 (cs28))] [(102, slF REP (Ap04) ((t_.m_.Rels).length) (cp04) (t_.m_.Rels)), (109, rdF (Rep.num .i64) (cs28) (t_25))] a w) (fun m2 => m2) n ⟨(0), hg, (s.sb rfl rfl rfl)⟩ ?_
 clear s a; rintro m2 a w ⟨t_58, hg, s⟩
 rcases m2 with _ | m2
 ·rw [scope_tree_bound_L1] at hg; cases hg
 rw [scope_tree_bound_L1] at hg
 apply wR
 refine qq s rfl (y_lssN (i := t_58) (j := ((t_.m_.Rels).length)) s rfl rfl) fun a s => ?_
 apply wN
 apply wQ
 refine c_dec s rfl (fun hc59 => ?_) (fun hc59 => ?_)
 ·replace hg := br_t hg hc59
  have hmx60 := SlR.mx (s.ft 102 rfl)
  apply wp_skip
  apply pN
  apply wQ
  apply wp_block
  apply wQ
  obtain ⟨x62, hx62, hg⟩ := bind_some hg
  apply wL
  refine mv s rfl rfl fun a s => ?_
  obtain ⟨p65, hep65, hpp65⟩ := SlR.elemX (s.ft 102 rfl) hx62
  refine qq s rfl (y_elem (sz := 3) (i := t_58) s rfl rfl underlying23 rfl hep65 rfl (lt_of_get hx62)) fun a s => ?_
  obtain ⟨hlq66, hmq66, csq66, hdq66, hcq66⟩ := hpp65
  obtain ⟨Aq663, cq663, rfl, lq661, hq663⟩ := REP.open hdq66
  replace s := s.ns 119 hq663
  refine qq s rfl (y_ldp s rfl hlq66 hmq66 (by simpa using hcq66) underlying43 rfl rfl) fun a s => ?_
  refine l_seq rfl (l_alloc (zs := [vT ([]), vI 0, .slice (none) (0) (0)]) s 2403 rfl rfl rfl rfl fun b67 a w hb hK s => ?_)
  refine asg s rfl rfl fun a s => ?_
  refine l_seq rfl (l_store (n := 3) (cs' := [vT (x62.Pred), vI (x62.Label), sl Aq663 (x62.Args) cq663]) s 2403 rfl rfl rfl rfl rfl rfl rfl rfl ?_); clear s; intro w hK s; clear hK
  apply wN
  apply wQ
  obtain ⟨k68, hg, hk68⟩ := jn_some hg
  refine c_post (fun a w => ∃ (t_69 : Bool), k68 t_69 = some r ∧ St (⟨Tryz.f38.ntmps, M, noB, w0⟩ : Ctx) [(1, vI (t_')), (6, vI (r10.1)), (10, sl A26 (t_25) c27), (57, sl Ap04 (t_.m_.Rels) cp04), (58, vI ((((t_.m_.Rels).length : Nat) : Int))), (59, vI (((t_58 : Nat) : Int))), (78, .bool (t_69))] [(700108, Ob.row (A26) ((t_25).length) (c27) 3 1 (cs28))] [(102, slF REP (Ap04) ((t_.m_.Rels).length) (cp04) (t_.m_.Rels)), (109, rdF (Rep.num .i64) (cs28) (t_25))] a w) ?_ ?_
  ·rcases Decidable.em (((t_58 : Nat) : Int) ≠ t_') with hs70 | hs70
   ·have hs70e := decide_eq_true hs70
    replace hg := br_t hg hs70
    obtain ⟨r71, hr71, hg⟩ := bind_some hg
    rcases Bool.eq_false_or_eq_true (r71) with hs74 | hs74
    ·replace hg := br_t hg hs74
     obtain ⟨r75, hr75, hg⟩ := bind_some hg
     apply wL
     refine mv s rfl rfl fun a s => ?_
     refine mv s rfl rfl fun a s => ?_
     refine qq s rfl (yl_b (y_neq s rfl rfl) hs70e) fun a s => ?_
     refine mv s rfl rfl fun a s => ?_
     refine gy s rfl (y_loadAll (kk := 2403) s rfl rfl underlying43 rfl rfl) fun a s => ?_
     refine gm s rfl rfl fun a s => ?_
     refine gl s rfl (l_call (cap := []) s rfl func30 rfl (by kernel_rfl) rfl rfl (c_scope_used n _ _ s.lt x62 (Aq663) (cq663) (by omega) (s.ft 119 rfl) r10.1 r71 hr71) fun v78 a w hK hp s => ?_)
     obtain rfl := hp.trans (congrArg Value.bool hs74)
     refine qq s rfl (y_pick_t s rfl rfl) fun a s => ?_
     refine mv s rfl rfl fun a s => ?_
     refine gm s rfl rfl fun a s => ?_
     refine gy s rfl (y_boxField (o' := 1) s rfl underlying43 rfl rfl rfl) fun a s => ?_
     refine gy s rfl (y_loadBox1 (kk := 2403) s rfl rfl rfl underlying3 rfl) fun a s => ?_
     have hT := s
     replace hT := hT.fz (R := (Rep.num .i64)) (kk := 700108) [2403] 121 rfl rfl (hT.ft 109 rfl) rfl
     refine gl s rfl (l_call (cap := []) s rfl func27 rfl (by kernel_rfl) rfl rfl (c_slices_Contains_int n _ _ hT.lt t_25 (A26) (c27) (hT.ft 121 rfl) x62.Label r75 hr75) fun v80 a w hK hp s => ?_)
     obtain rfl := hp
     refine gy s rfl (y_not s rfl) fun a s => ?_
     refine qq s rfl (y_pick_t s rfl rfl) fun a s => ?_
     apply wN
     exact ⟨(!(r75)), hg, (s.sb rfl rfl rfl)⟩
    replace hg := br_n hg hs74
    apply wL
    refine mv s rfl rfl fun a s => ?_
    refine mv s rfl rfl fun a s => ?_
    refine qq s rfl (yl_b (y_neq s rfl rfl) hs70e) fun a s => ?_
    refine mv s rfl rfl fun a s => ?_
    refine gy s rfl (y_loadAll (kk := 2403) s rfl rfl underlying43 rfl rfl) fun a s => ?_
    refine gm s rfl rfl fun a s => ?_
    refine gl s rfl (l_call (cap := []) s rfl func30 rfl (by kernel_rfl) rfl rfl (c_scope_used n _ _ s.lt x62 (Aq663) (cq663) (by omega) (s.ft 119 rfl) r10.1 r71 hr71) fun v82 a w hK hp s => ?_)
    obtain rfl := hp.trans (congrArg Value.bool hs74)
    refine qq s rfl (y_pick_t s rfl rfl) fun a s => ?_
    refine mv s rfl rfl fun a s => ?_
    refine gn s rfl fun a s => ?_
    refine gn s rfl fun a s => ?_
    refine gn s rfl fun a s => ?_
    refine gn s rfl fun a s => ?_
    refine gn s rfl fun a s => ?_
    refine qq s rfl (y_pick_f s rfl rfl) fun a s => ?_
    apply wN
    exact ⟨(false), hg, (s.sb rfl rfl rfl)⟩
   have hs70e := decide_eq_false hs70
   replace hg := br_f hg hs70
   apply wL
   refine mv s rfl rfl fun a s => ?_
   refine mv s rfl rfl fun a s => ?_
   refine qq s rfl (yl_b (y_neq s rfl rfl) hs70e) fun a s => ?_
   refine mv s rfl rfl fun a s => ?_
   refine gn s rfl fun a s => ?_
   refine gn s rfl fun a s => ?_
   refine gn s rfl fun a s => ?_
   refine qq s rfl (y_pick_f s rfl rfl) fun a s => ?_
   refine mv s rfl rfl fun a s => ?_
   refine gn s rfl fun a s => ?_
   refine gn s rfl fun a s => ?_
   refine gn s rfl fun a s => ?_
   refine gn s rfl fun a s => ?_
   refine gn s rfl fun a s => ?_
   refine qq s rfl (y_pick_f s rfl rfl) fun a s => ?_
   apply wN
   exact ⟨(false), hg, (s.sb rfl rfl rfl)⟩
  clear s a; rintro a w ⟨t_69, hg, s⟩
  subst hk68
  refine c_cond s rfl (fun hc84 => ?_) (fun hc84 => ?_)
  ·replace hg := br_t hg hc84
   apply wR
   refine asg s rfl rfl fun a s => ?_
   apply wN
   apply wp_ret
   refine p_inR ?_
   refine p_thenR ?_
   refine p_thenR ?_
   refine p_inR ?_
   refine p_thenR ?_
   obtain rfl := Option.some.inj hg
   refine fin1 (fn := Tryz.f38) s rfl (r_tmp s rfl) ?_
   exact rfl
  replace hg := br_n hg hc84
  apply wp_skip
  refine p_inN ?_
  apply pN
  apply wL
  refine qq s rfl (y_addN (i := t_58) (j := 1) s rfl rfl (in64.2 (by omega))) fun a s => ?_
  refine mv s rfl rfl fun a s => ?_
  apply wN
  exact ⟨m2, Nat.lt_succ_self _, ⟨(t_58 + 1), hg, (s.sb rfl rfl rfl)⟩⟩
 replace hg := br_f hg hc59
 apply wp_exit
 refine p_then ?_
 refine p_then ?_
 refine p_in ?_
 apply pN
 apply wR
 refine asg s rfl rfl fun a s => ?_
 apply wN
 apply wp_ret
 obtain rfl := Option.some.inj hg
 refine fin1 (fn := Tryz.f38) s rfl (r_tmp s rfl) ?_
 exact rfl
set_option maxHeartbeats 400000 in
theorem c_scope_Valid (n : Nat) (M : Bs) (w0 : World) (hM : ∀ b, M b → b < w0.heap.size) (t_ : MRS) (Ap03 : Option Addr) (cp03 : Nat) (Ap04 : Option Addr) (cp04 : Nat) (Ap05 : Option Addr) (cp05 : Nat) (hp03 : SlR Rep.str M w0 Ap03 (t_.Vars).length cp03 (t_.Vars)) (hp04 : SlR REP M w0 Ap04 (t_.Rels).length cp04 (t_.Rels)) (hp05 : SlR RQeq M w0 Ap05 (t_.Cons).length cp05 (t_.Cons)) (t_' : (List Int)) (Ap11 : Option Addr) (cp11 : Nat) (hp11 : SlR (Rep.num .i64) M w0 Ap11 (t_').length cp11 (t_')) (r : Int) (hg : scope_Valid n t_ t_' = some r) :
    Calls Tryz.prog 19 [.agg #[.int .i64 (t_.Top), .int .i64 (t_.Index), .slice (Ap03) ((t_.Vars).length) (cp03), .slice (Ap04) ((t_.Rels).length) (cp04), .slice (Ap05) ((t_.Cons).length) (cp05)], .slice (Ap11) ((t_').length) (cp11)].toArray w0 (Ret noB w0 fun v w => v = .int .i64 (r)) := by
 unfold scope_Valid at hg
 refine enter M noB func19 rfl rfl hM ?_
 intro a s
 replace s := s.es 101 hp03
 replace s := s.es 102 hp04
 replace s := s.es 103 hp05
 replace s := s.es 104 hp11
 apply wR
 refine l_seq rfl (l_box (zs := [vI (t_.Top), vI (t_.Index), sl Ap03 (t_.Vars) cp03, sl Ap04 (t_.Rels) cp04, sl Ap05 (t_.Cons) cp05]) s 1000 rfl rfl rfl rfl fun b2 a w hb hK s => ?_)
 refine asg s rfl rfl fun a s => ?_
 apply wN
 apply wQ
 obtain ⟨r3, hr3, hg⟩ := bind_some hg
 apply wL
 refine qq s rfl (y_loadAll (kk := 1000) s rfl rfl underlying26 rfl rfl) fun a s => ?_
 refine l_seq rfl (l_call (cap := []) s rfl func14 rfl (by kernel_rfl) rfl rfl (c_scope_Labels n _ _ s.lt t_ (Ap03) (cp03) (Ap04) (cp04) (Ap05) (cp05) (s.ft 101 rfl) (s.ft 102 rfl) (s.ft 103 rfl) r3 hr3) fun v6 a w hK hp s => ?_)
 obtain ⟨Au7a1, cu7a1, rfl, hu7a1⟩ := hp
 replace s := s.ns 106 hu7a1
 refine asg s rfl rfl fun a s => ?_
 apply wN
 apply wQ
 apply wQ
 obtain ⟨r8, hr8, hg⟩ := bind_some hg
 apply wL
 refine mv s rfl rfl fun a s => ?_
 refine qq s rfl (y_lenSlice s rfl underlying30) fun a s => ?_
 refine qq s rfl (y_loadAll (kk := 1000) s rfl rfl underlying26 rfl rfl) fun a s => ?_
 refine l_seq rfl (l_call (cap := []) s rfl func12 rfl (by kernel_rfl) rfl rfl (c_scope_Holes n _ _ s.lt t_ (Ap03) (cp03) (Ap04) (cp04) (Ap05) (cp05) (s.ft 101 rfl) (s.ft 102 rfl) (s.ft 103 rfl) r8 hr8) fun v11 a w hK hp s => ?_)
 obtain ⟨Au12a1, cu12a1, rfl, hu12a1⟩ := hp
 replace s := s.ns 108 hu12a1
 refine qq s rfl (y_lenSlice s rfl underlying30) fun a s => ?_
 refine qq s rfl (y_neqN (i := ((t_').length)) (j := ((r8).length)) s rfl rfl) fun a s => ?_
 apply wN
 refine c_dec s rfl (fun hc13 => ?_) (fun hc13 => ?_)
 ·replace hg := br_t hg hc13
  apply wR
  refine asg s rfl rfl fun a s => ?_
  apply wN
  apply wp_ret
  refine p_thenR ?_
  obtain rfl := Option.some.inj hg
  refine fin1 (fn := Tryz.f19) s rfl (r_tmp s rfl) ?_
  exact rfl
 replace hg := br_f hg hc13
 apply wp_skip
 apply pN
 apply wQ
 apply wR
 refine mv s rfl rfl fun a s => ?_
 refine qq s rfl (y_lenSlice s rfl underlying30) fun a s => ?_
 refine mv s rfl rfl fun a s => ?_
 apply wN
 obtain ⟨k14, hg, hk14⟩ := jn_some hg
 refine c_post (fun a w => k14 = some r ∧ St (⟨Tryz.f19.ntmps, M, noB, w0⟩ : Ctx) [(1, sl Ap11 (t_') cp11), (2, vP b2 0)] [(1000, Ob.box b2 [vI (t_.Top), vI (t_.Index), sl Ap03 (t_.Vars) cp03, sl Ap04 (t_.Rels) cp04, sl Ap05 (t_.Cons) cp05] 26)] [(101, slF Rep.str (Ap03) ((t_.Vars).length) (cp03) (t_.Vars)), (102, slF REP (Ap04) ((t_.Rels).length) (cp04) (t_.Rels)), (103, slF RQeq (Ap05) ((t_.Cons).length) (cp05) (t_.Cons)), (104, slF (Rep.num .i64) (Ap11) ((t_').length) (cp11) (t_'))] a w) ?_ ?_
 ·apply wp_block
  refine c_loop (σ := Nat) (fun m1 a w => ∃ (t_15 : Nat), scope_Valid_L0 n t_' r3 k14 m1 t_15 = some r ∧ St (⟨Tryz.f19.ntmps, M, noB, w0⟩ : Ctx) [(1, sl Ap11 (t_') cp11), (2, vP b2 0), (5, sl Au7a1 (r3) cu7a1), (20, sl Ap11 (t_') cp11), (21, vI ((((t_').length : Nat) : Int))), (22, vI (((t_15 : Nat) : Int)))] [(1000, Ob.box b2 [vI (t_.Top), vI (t_.Index), sl Ap03 (t_.Vars) cp03, sl Ap04 (t_.Rels) cp04, sl Ap05 (t_.Cons) cp05] 26)] [(101, slF Rep.str (Ap03) ((t_.Vars).length) (cp03) (t_.Vars)), (102, slF REP (Ap04) ((t_.Rels).length) (cp04) (t_.Rels)), (103, slF RQeq (Ap05) ((t_.Cons).length) (cp05) (t_.Cons)), (104, slF (Rep.num .i64) (Ap11) ((t_').length) (cp11) (t_')), (106, slF (Rep.num .i64) (Au7a1) ((r3).length) (cu7a1) (r3))] a w) (fun m1 => m1) n ⟨(0), hg, (s.sb rfl rfl rfl)⟩ ?_
  clear s a; rintro m1 a w ⟨t_15, hg, s⟩
  rcases m1 with _ | m1
  ·rw [scope_Valid_L0] at hg; cases hg
  rw [scope_Valid_L0] at hg
  apply wR
  refine qq s rfl (y_lssN (i := t_15) (j := ((t_').length)) s rfl rfl) fun a s => ?_
  apply wN
  apply wQ
  refine c_dec s rfl (fun hc16 => ?_) (fun hc16 => ?_)
  ·replace hg := br_t hg hc16
   have hmx17 := SlR.mx (s.ft 104 rfl)
   apply wp_skip
   apply pN
   apply wQ
   apply wp_block
   apply wQ
   obtain ⟨x19, hx19, hg⟩ := bind_some hg
   apply wL
   refine mv s rfl rfl fun a s => ?_
   obtain ⟨p21, hep21, hpp21⟩ := SlR.elemX (s.ft 104 rfl) hx19
   refine qq s rfl (y_elem (sz := 1) (i := t_15) s rfl rfl underlying30 rfl hep21 rfl (lt_of_get hx19)) fun a s => ?_
   obtain ⟨hlq22, hmq22, csq22, hdq22, hcq22⟩ := hpp21
   obtain rfl := hdq22
   refine qq s rfl (y_ldp1 s rfl hlq22 hmq22 (hcq22 0 _ rfl) underlying3 rfl) fun a s => ?_
   refine asg s rfl rfl fun a s => ?_
   refine asg s rfl rfl fun a s => ?_
   apply wN
   apply wQ
   obtain ⟨k23, hg, hk23⟩ := jn_some hg
   refine c_post (fun a w => ∃ (t_24 : Bool), k23 t_24 = some r ∧ St (⟨Tryz.f19.ntmps, M, noB, w0⟩ : Ctx) [(1, sl Ap11 (t_') cp11), (2, vP b2 0), (5, sl Au7a1 (r3) cu7a1), (20, sl Ap11 (t_') cp11), (21, vI ((((t_').length : Nat) : Int))), (22, vI (((t_15 : Nat) : Int))), (37, .bool (t_24))] [(1000, Ob.box b2 [vI (t_.Top), vI (t_.Index), sl Ap03 (t_.Vars) cp03, sl Ap04 (t_.Rels) cp04, sl Ap05 (t_.Cons) cp05] 26)] [(101, slF Rep.str (Ap03) ((t_.Vars).length) (cp03) (t_.Vars)), (102, slF REP (Ap04) ((t_.Rels).length) (cp04) (t_.Rels)), (103, slF RQeq (Ap05) ((t_.Cons).length) (cp05) (t_.Cons)), (104, slF (Rep.num .i64) (Ap11) ((t_').length) (cp11) (t_')), (106, slF (Rep.num .i64) (Au7a1) ((r3).length) (cu7a1) (r3))] a w) ?_ ?_
   ·obtain ⟨r25, hr25, hg⟩ := bind_some hg
    rcases Bool.eq_false_or_eq_true (!(r25)) with hs28 | hs28
    ·replace hg := br_t hg hs28
     apply wL
     refine mv s rfl rfl fun a s => ?_
     refine mv s rfl rfl fun a s => ?_
     refine l_seq rfl (l_call (cap := []) s rfl func27 rfl (by kernel_rfl) rfl rfl (c_slices_Contains_int n _ _ s.lt r3 (Au7a1) (cu7a1) (s.ft 106 rfl) x19 r25 hr25) fun v29 a w hK hp s => ?_)
     obtain rfl := hp
     refine qq s rfl (yl_b (y_not s rfl) hs28) fun a s => ?_
     refine mv s rfl rfl fun a s => ?_
     refine gn s rfl fun a s => ?_
     refine gn s rfl fun a s => ?_
     refine gn s rfl fun a s => ?_
     refine gn s rfl fun a s => ?_
     refine gn s rfl fun a s => ?_
     refine qq s rfl (y_pick_t s rfl rfl) fun a s => ?_
     apply wN
     exact ⟨(true), hg, (s.sb rfl rfl rfl)⟩
    replace hg := br_n hg hs28
    obtain ⟨hk31, hg⟩ := chk_some hg
    obtain ⟨r32, hr32, hg⟩ := bind_some hg
    apply wL
    refine mv s rfl rfl fun a s => ?_
    refine mv s rfl rfl fun a s => ?_
    refine l_seq rfl (l_call (cap := []) s rfl func27 rfl (by kernel_rfl) rfl rfl (c_slices_Contains_int n _ _ s.lt r3 (Au7a1) (cu7a1) (s.ft 106 rfl) x19 r25 hr25) fun v35 a w hK hp s => ?_)
    obtain rfl := hp
    refine qq s rfl (yl_b (y_not s rfl) hs28) fun a s => ?_
    refine mv s rfl rfl fun a s => ?_
    refine gm s rfl rfl fun a s => ?_
    refine gm s rfl rfl fun a s => ?_
    have hcap110 := (s.ft 104 rfl).cap
    refine gy s rfl (y_cutH (xs := t_') (sz := 1) (i := t_15) s rfl rfl underlying30 rfl rfl hk31 hcap110) fun a s => ?_
    replace s := s.add 110 (slF (Rep.num .i64) (Ap11) (((t_').take t_15).length) (cp11) ((t_').take t_15)) (SlR.cutH (s.ft 104 rfl) t_15 hk31)
    refine gm s rfl rfl fun a s => ?_
    refine gl s rfl (l_call (cap := []) s rfl func27 rfl (by kernel_rfl) rfl rfl (c_slices_Contains_int n _ _ s.lt ((t_').take t_15) (Ap11) (cp11) (s.ft 110 rfl) x19 r32 hr32) fun v37 a w hK hp s => ?_)
    obtain rfl := hp
    refine qq s rfl (y_pick_f s rfl rfl) fun a s => ?_
    apply wN
    exact ⟨(r32), hg, (s.sb rfl rfl rfl)⟩
   clear s a; rintro a w ⟨t_24, hg, s⟩
   subst hk23
   refine c_cond s rfl (fun hc39 => ?_) (fun hc39 => ?_)
   ·replace hg := br_t hg hc39
    apply wR
    refine asg s rfl rfl fun a s => ?_
    apply wN
    apply wp_ret
    refine p_inR ?_
    refine p_thenR ?_
    refine p_thenR ?_
    refine p_inR ?_
    refine p_thenR ?_
    obtain rfl := Option.some.inj hg
    refine fin1 (fn := Tryz.f19) s rfl (r_tmp s rfl) ?_
    exact rfl
   replace hg := br_n hg hc39
   apply wp_skip
   refine p_inN ?_
   apply pN
   apply wL
   refine qq s rfl (y_addN (i := t_15) (j := 1) s rfl rfl (in64.2 (by omega))) fun a s => ?_
   refine mv s rfl rfl fun a s => ?_
   apply wN
   exact ⟨m1, Nat.lt_succ_self _, ⟨(t_15 + 1), hg, (s.sb rfl rfl rfl)⟩⟩
  replace hg := br_f hg hc16
  apply wp_exit
  refine p_then ?_
  refine p_then ?_
  refine p_in ?_
  apply pN
  exact ⟨hg, (s.sb rfl rfl rfl)⟩
 clear s a; rintro a w ⟨hg, s⟩
 subst hk14
 apply wQ
 obtain ⟨r40, hr40, hg⟩ := bind_some hg
 apply wL
 refine qq s rfl (y_loadAll (kk := 1000) s rfl rfl underlying26 rfl rfl) fun a s => ?_
 refine mv s rfl rfl fun a s => ?_
 refine l_seq rfl (l_call (cap := []) s rfl func33 rfl (by kernel_rfl) rfl rfl (c_scope_plugged n _ _ s.lt t_ (Ap03) (cp03) (Ap04) (cp04) (Ap05) (cp05) (s.ft 101 rfl) (s.ft 102 rfl) (s.ft 103 rfl) t_' (Ap11) (cp11) (s.ft 104 rfl) r40 hr40) fun v44 a w hK hp s => ?_)
 obtain ⟨Au45a3, cu45a3, Au45a4, cu45a4, Au45a5, cu45a5, Au45a6, cu45a6, Au45a7, cu45a7, rfl, hu45a3, hu45a4, hu45a5, hu45a6, hu45a7⟩ := hp
 replace s := s.ns 116 hu45a3
 replace s := s.ns 117 hu45a4
 replace s := s.ns 118 hu45a5
 replace s := s.ns 119 hu45a6
 replace s := s.ns 120 hu45a7
 refine l_seq rfl (l_alloc (zs := [vI 0, vI 0, .slice (none) (0) (0), .slice (none) (0) (0), .slice (none) (0) (0), .slice (none) (0) (0), .slice (none) (0) (0)]) s 2003 rfl rfl rfl rfl fun b46 a w hb hK s => ?_)
 refine l_seq rfl (l_store (n := 7) (cs' := [vI (r40.m_.Top), vI (r40.m_.Index), sl Au45a3 (r40.m_.Vars) cu45a3, sl Au45a4 (r40.m_.Rels) cu45a4, sl Au45a5 (r40.m_.Cons) cu45a5, sl Au45a6 (r40.labels_) cu45a6, sl Au45a7 (r40.at_) cu45a7]) s 2003 rfl rfl rfl rfl rfl rfl rfl rfl ?_); clear s; intro w hK s; clear hK
 apply wN
 apply wQ
 apply wQ
 obtain ⟨r47, hr47, hg⟩ := bind_some hg
 apply wL
 refine qq s rfl (y_loadAll (kk := 2003) s rfl rfl underlying56 rfl rfl) fun a s => ?_
 refine l_seq rfl (l_call (cap := []) s rfl func36 rfl (by kernel_rfl) rfl rfl (c_scope_tree_form n _ _ s.lt r40 (Au45a3) (cu45a3) (Au45a4) (cu45a4) (Au45a5) (cu45a5) (Au45a6) (cu45a6) (Au45a7) (cu45a7) (s.ft 116 rfl) (s.ft 117 rfl) (s.ft 118 rfl) (s.ft 119 rfl) (s.ft 120 rfl) r47 hr47) fun v50 a w hK hp s => ?_)
 obtain rfl := hp
 refine qq s rfl (y_not s rfl) fun a s => ?_
 apply wN
 refine c_cond s rfl (fun hc52 => ?_) (fun hc52 => ?_)
 ·replace hg := br_t hg hc52
  apply wR
  refine asg s rfl rfl fun a s => ?_
  apply wN
  apply wp_ret
  refine p_thenR ?_
  obtain rfl := Option.some.inj hg
  refine fin1 (fn := Tryz.f19) s rfl (r_tmp s rfl) ?_
  exact rfl
 replace hg := br_n hg hc52
 apply wp_skip
 apply pN
 apply wQ
 apply wR
 refine qq s rfl (y_boxField (o' := 4) s rfl underlying26 rfl rfl rfl) fun a s => ?_
 refine qq s rfl (y_loadBox1 (kk := 1000) s rfl rfl rfl underlying24 rfl) fun a s => ?_
 refine qq s rfl (y_lenSlice s rfl underlying24) fun a s => ?_
 refine mv s rfl rfl fun a s => ?_
 apply wN
 obtain ⟨k53, hg, hk53⟩ := jn_some hg
 refine c_post (fun a w => k53 = some r ∧ St (⟨Tryz.f19.ntmps, M, noB, w0⟩ : Ctx) [(2, vP b2 0), (8, vP b46 0)] [(1000, Ob.box b2 [vI (t_.Top), vI (t_.Index), sl Ap03 (t_.Vars) cp03, sl Ap04 (t_.Rels) cp04, sl Ap05 (t_.Cons) cp05] 26), (2003, Ob.box b46 [vI (r40.m_.Top), vI (r40.m_.Index), sl Au45a3 (r40.m_.Vars) cu45a3, sl Au45a4 (r40.m_.Rels) cu45a4, sl Au45a5 (r40.m_.Cons) cu45a5, sl Au45a6 (r40.labels_) cu45a6, sl Au45a7 (r40.at_) cu45a7] 56)] [(101, slF Rep.str (Ap03) ((t_.Vars).length) (cp03) (t_.Vars)), (102, slF REP (Ap04) ((t_.Rels).length) (cp04) (t_.Rels)), (103, slF RQeq (Ap05) ((t_.Cons).length) (cp05) (t_.Cons)), (116, slF Rep.str (Au45a3) ((r40.m_.Vars).length) (cu45a3) (r40.m_.Vars)), (117, slF REP (Au45a4) ((r40.m_.Rels).length) (cu45a4) (r40.m_.Rels)), (118, slF RQeq (Au45a5) ((r40.m_.Cons).length) (cu45a5) (r40.m_.Cons)), (119, slF (Rep.num .i64) (Au45a6) ((r40.labels_).length) (cu45a6) (r40.labels_)), (120, slF (Rep.num .i64) (Au45a7) ((r40.at_).length) (cu45a7) (r40.at_))] a w) ?_ ?_
 ·apply wp_block
  refine c_loop (σ := Nat) (fun m2 a w => ∃ (t_54 : Nat), scope_Valid_L1 n t_ r40 k53 m2 t_54 = some r ∧ St (⟨Tryz.f19.ntmps, M, noB, w0⟩ : Ctx) [(2, vP b2 0), (8, vP b46 0), (46, sl Ap05 (t_.Cons) cp05), (47, vI ((((t_.Cons).length : Nat) : Int))), (48, vI (((t_54 : Nat) : Int)))] [(1000, Ob.box b2 [vI (t_.Top), vI (t_.Index), sl Ap03 (t_.Vars) cp03, sl Ap04 (t_.Rels) cp04, sl Ap05 (t_.Cons) cp05] 26), (2003, Ob.box b46 [vI (r40.m_.Top), vI (r40.m_.Index), sl Au45a3 (r40.m_.Vars) cu45a3, sl Au45a4 (r40.m_.Rels) cu45a4, sl Au45a5 (r40.m_.Cons) cu45a5, sl Au45a6 (r40.labels_) cu45a6, sl Au45a7 (r40.at_) cu45a7] 56)] [(101, slF Rep.str (Ap03) ((t_.Vars).length) (cp03) (t_.Vars)), (102, slF REP (Ap04) ((t_.Rels).length) (cp04) (t_.Rels)), (103, slF RQeq (Ap05) ((t_.Cons).length) (cp05) (t_.Cons)), (116, slF Rep.str (Au45a3) ((r40.m_.Vars).length) (cu45a3) (r40.m_.Vars)), (117, slF REP (Au45a4) ((r40.m_.Rels).length) (cu45a4) (r40.m_.Rels)), (118, slF RQeq (Au45a5) ((r40.m_.Cons).length) (cu45a5) (r40.m_.Cons)), (119, slF (Rep.num .i64) (Au45a6) ((r40.labels_).length) (cu45a6) (r40.labels_)), (120, slF (Rep.num .i64) (Au45a7) ((r40.at_).length) (cu45a7) (r40.at_))] a w) (fun m2 => m2) n ⟨(0), hg, (s.sb rfl rfl rfl)⟩ ?_
  clear s a; rintro m2 a w ⟨t_54, hg, s⟩
  rcases m2 with _ | m2
  ·rw [scope_Valid_L1] at hg; cases hg
  rw [scope_Valid_L1] at hg
  apply wR
  refine qq s rfl (y_lssN (i := t_54) (j := ((t_.Cons).length)) s rfl rfl) fun a s => ?_
  apply wN
  apply wQ
  refine c_dec s rfl (fun hc55 => ?_) (fun hc55 => ?_)
  ·replace hg := br_t hg hc55
   have hmx56 := SlR.mx (s.ft 103 rfl)
   apply wp_skip
   apply pN
   apply wQ
   apply wp_block
   apply wQ
   obtain ⟨x58, hx58, hg⟩ := bind_some hg
   apply wL
   obtain ⟨p61, hep61, hpp61⟩ := SlR.elemX (s.ft 103 rfl) hx58
   refine qq s rfl (y_elem (sz := 2) (i := t_54) s rfl rfl underlying24 rfl hep61 rfl (lt_of_get hx58)) fun a s => ?_
   obtain ⟨hlq62, hmq62, csq62, hdq62, hcq62⟩ := hpp61
   obtain rfl := RQeq.open hdq62
   refine qq s rfl (y_ldp s rfl hlq62 hmq62 (by simpa using hcq62) underlying48 rfl rfl) fun a s => ?_
   refine l_seq rfl (l_alloc (zs := [vI 0, vI 0]) s 2502 rfl rfl rfl rfl fun b63 a w hb hK s => ?_)
   refine l_seq rfl (l_store (n := 2) (cs' := [vI (x58.High), vI (x58.Low)]) s 2502 rfl rfl rfl rfl rfl rfl rfl rfl ?_); clear s; intro w hK s; clear hK
   apply wN
   apply wQ
   obtain ⟨r64, hr64, hg⟩ := bind_some hg
   apply wL
   refine qq s rfl (y_loadAll (kk := 2003) s rfl rfl underlying56 rfl rfl) fun a s => ?_
   refine qq s rfl (y_boxField (o' := 0) s rfl underlying48 rfl rfl rfl) fun a s => ?_
   refine qq s rfl (y_loadBox1 (kk := 2502) s rfl rfl rfl underlying3 rfl) fun a s => ?_
   refine qq s rfl (y_boxField (o' := 1) s rfl underlying48 rfl rfl rfl) fun a s => ?_
   refine qq s rfl (y_loadBox1 (kk := 2502) s rfl rfl rfl underlying3 rfl) fun a s => ?_
   refine l_seq rfl (l_call (cap := []) s rfl func37 rfl (by kernel_rfl) rfl rfl (c_scope_tree_reaches n _ _ s.lt r40 (Au45a3) (cu45a3) (Au45a4) (cu45a4) (Au45a5) (cu45a5) (Au45a6) (cu45a6) (Au45a7) (cu45a7) (s.ft 116 rfl) (s.ft 117 rfl) (s.ft 118 rfl) (s.ft 119 rfl) (s.ft 120 rfl) x58.High x58.Low r64 hr64) fun v67 a w hK hp s => ?_)
   obtain rfl := hp
   refine qq s rfl (y_not s rfl) fun a s => ?_
   apply wN
   refine c_cond s rfl (fun hc69 => ?_) (fun hc69 => ?_)
   ·replace hg := br_t hg hc69
    apply wR
    refine asg s rfl rfl fun a s => ?_
    apply wN
    apply wp_ret
    refine p_inR ?_
    refine p_thenR ?_
    refine p_thenR ?_
    refine p_inR ?_
    refine p_thenR ?_
    obtain rfl := Option.some.inj hg
    refine fin1 (fn := Tryz.f19) s rfl (r_tmp s rfl) ?_
    exact rfl
   replace hg := br_n hg hc69
   apply wp_skip
   refine p_inN ?_
   apply pN
   apply wL
   refine qq s rfl (y_addN (i := t_54) (j := 1) s rfl rfl (in64.2 (by omega))) fun a s => ?_
   refine mv s rfl rfl fun a s => ?_
   apply wN
   exact ⟨m2, Nat.lt_succ_self _, ⟨(t_54 + 1), hg, (s.sb rfl rfl rfl)⟩⟩
  replace hg := br_f hg hc55
  apply wp_exit
  refine p_then ?_
  refine p_then ?_
  refine p_in ?_
  apply pN
  exact ⟨hg, (s.sb rfl rfl rfl)⟩
 clear s a; rintro a w ⟨hg, s⟩
 subst hk53
 apply wQ
 apply wR
 refine qq s rfl (y_boxField (o' := 3) s rfl underlying26 rfl rfl rfl) fun a s => ?_
 refine qq s rfl (y_loadBox1 (kk := 1000) s rfl rfl rfl underlying23 rfl) fun a s => ?_
 refine qq s rfl (y_lenSlice s rfl underlying23) fun a s => ?_
 refine mv s rfl rfl fun a s => ?_
 apply wN
 apply wp_block
 refine c_loop (σ := Nat) (fun m3 a w => ∃ (t_70 : Nat), scope_Valid_L2 n t_ r40 m3 t_70 = some r ∧ St (⟨Tryz.f19.ntmps, M, noB, w0⟩ : Ctx) [(8, vP b46 0), (62, vI ((((t_.Rels).length : Nat) : Int))), (63, vI (((t_70 : Nat) : Int)))] [(2003, Ob.box b46 [vI (r40.m_.Top), vI (r40.m_.Index), sl Au45a3 (r40.m_.Vars) cu45a3, sl Au45a4 (r40.m_.Rels) cu45a4, sl Au45a5 (r40.m_.Cons) cu45a5, sl Au45a6 (r40.labels_) cu45a6, sl Au45a7 (r40.at_) cu45a7] 56)] [(116, slF Rep.str (Au45a3) ((r40.m_.Vars).length) (cu45a3) (r40.m_.Vars)), (117, slF REP (Au45a4) ((r40.m_.Rels).length) (cu45a4) (r40.m_.Rels)), (118, slF RQeq (Au45a5) ((r40.m_.Cons).length) (cu45a5) (r40.m_.Cons)), (119, slF (Rep.num .i64) (Au45a6) ((r40.labels_).length) (cu45a6) (r40.labels_)), (120, slF (Rep.num .i64) (Au45a7) ((r40.at_).length) (cu45a7) (r40.at_))] a w) (fun m3 => m3) n ⟨(0), hg, (s.sb rfl rfl rfl)⟩ ?_
 clear s a; rintro m3 a w ⟨t_70, hg, s⟩
 rcases m3 with _ | m3
 ·rw [scope_Valid_L2] at hg; cases hg
 rw [scope_Valid_L2] at hg
 apply wR
 refine qq s rfl (y_lssN (i := t_70) (j := ((t_.Rels).length)) s rfl rfl) fun a s => ?_
 apply wN
 apply wQ
 refine c_dec s rfl (fun hc71 => ?_) (fun hc71 => ?_)
 ·replace hg := br_t hg hc71
  apply wp_skip
  apply pN
  apply wQ
  apply wp_block
  apply wR
  refine mv s rfl rfl fun a s => ?_
  refine asg s rfl rfl fun a s => ?_
  apply wN
  apply wQ
  obtain ⟨r72, hr72, hg⟩ := bind_some hg
  apply wL
  refine qq s rfl (y_loadAll (kk := 2003) s rfl rfl underlying56 rfl rfl) fun a s => ?_
  refine mv s rfl rfl fun a s => ?_
  refine l_seq rfl (l_call (cap := []) s rfl func38 rfl (by kernel_rfl) rfl rfl (c_scope_tree_bound n _ _ s.lt r40 (Au45a3) (cu45a3) (Au45a4) (cu45a4) (Au45a5) (cu45a5) (Au45a6) (cu45a6) (Au45a7) (cu45a7) (s.ft 116 rfl) (s.ft 117 rfl) (s.ft 118 rfl) (s.ft 119 rfl) (s.ft 120 rfl) ((t_70 : Nat) : Int) r72 hr72) fun v75 a w hK hp s => ?_)
  obtain rfl := hp
  refine qq s rfl (y_not s rfl) fun a s => ?_
  apply wN
  refine c_cond s rfl (fun hc77 => ?_) (fun hc77 => ?_)
  ·replace hg := br_t hg hc77
   apply wR
   refine asg s rfl rfl fun a s => ?_
   apply wN
   apply wp_ret
   refine p_inR ?_
   refine p_thenR ?_
   refine p_thenR ?_
   refine p_inR ?_
   refine p_thenR ?_
   obtain rfl := Option.some.inj hg
   refine fin1 (fn := Tryz.f19) s rfl (r_tmp s rfl) ?_
   exact rfl
  replace hg := br_n hg hc77
  apply wp_skip
  refine p_inN ?_
  apply pN
  obtain ⟨hk78, hg⟩ := chk_some hg
  apply wL
  refine qq s rfl (y_addN (i := t_70) (j := 1) s rfl rfl (in64.2 (by omega))) fun a s => ?_
  refine mv s rfl rfl fun a s => ?_
  apply wN
  exact ⟨m3, Nat.lt_succ_self _, ⟨(t_70 + 1), hg, (s.sb rfl rfl rfl)⟩⟩
 replace hg := br_f hg hc71
 apply wp_exit
 refine p_then ?_
 refine p_then ?_
 refine p_in ?_
 apply pN
 apply wR
 refine asg s rfl rfl fun a s => ?_
 apply wN
 apply wp_ret
 obtain rfl := Option.some.inj hg
 refine fin1 (fn := Tryz.f19) s rfl (r_tmp s rfl) ?_
 exact rfl
set_option maxHeartbeats 400000 in
theorem c_scope_tree_print (n : Nat) : ∀ (M : Bs) (w0 : World) (hM : ∀ b, M b → b < w0.heap.size) (t_ : tree) (Ap03 : Option Addr) (cp03 : Nat) (Ap04 : Option Addr) (cp04 : Nat) (Ap05 : Option Addr) (cp05 : Nat) (Ap06 : Option Addr) (cp06 : Nat) (Ap07 : Option Addr) (cp07 : Nat) (hp03 : SlR Rep.str M w0 Ap03 (t_.m_.Vars).length cp03 (t_.m_.Vars)) (hp04 : SlR REP M w0 Ap04 (t_.m_.Rels).length cp04 (t_.m_.Rels)) (hp05 : SlR RQeq M w0 Ap05 (t_.m_.Cons).length cp05 (t_.m_.Cons)) (hp06 : SlR (Rep.num .i64) M w0 Ap06 (t_.labels_).length cp06 (t_.labels_)) (hp07 : SlR (Rep.num .i64) M w0 Ap07 (t_.at_).length cp07 (t_.at_)) (t_' : Int) (hTab : (tabF Tryz.prog).p M w0) (r : (List UInt8)) (hg : scope_tree_print n t_ t_' = some r),
    Calls Tryz.prog 43 [.agg #[.int .i64 (t_.m_.Top), .int .i64 (t_.m_.Index), .slice (Ap03) ((t_.m_.Vars).length) (cp03), .slice (Ap04) ((t_.m_.Rels).length) (cp04), .slice (Ap05) ((t_.m_.Cons).length) (cp05), .slice (Ap06) ((t_.labels_).length) (cp06), .slice (Ap07) ((t_.at_).length) (cp07)], .int .i64 (t_')].toArray w0 (Ret noB w0 fun v w => v = .string (bs (r)) ∧ ((r).length ≤ 9223372036854775807)) := by
 induction n with
 | zero => intros; rename_i hg; rw [scope_tree_print] at hg; cases hg
 | succ n c_self =>
 intro M w0 hM t_ Ap03 cp03 Ap04 cp04 Ap05 cp05 Ap06 cp06 Ap07 cp07 hp03 hp04 hp05 hp06 hp07 t_' hTab r hg
 rw [scope_tree_print] at hg
 refine enter M noB func43 rfl rfl hM ?_
 intro a s
 replace s := s.es 101 hp03
 replace s := s.es 102 hp04
 replace s := s.es 103 hp05
 replace s := s.es 104 hp06
 replace s := s.es 105 hp07
 replace s := s.add 7 (tabF Tryz.prog) (by exact Fact.change _ enterM hTab)
 apply wR
 refine l_seq rfl (l_box (zs := [vI (t_.m_.Top), vI (t_.m_.Index), sl Ap03 (t_.m_.Vars) cp03, sl Ap04 (t_.m_.Rels) cp04, sl Ap05 (t_.m_.Cons) cp05, sl Ap06 (t_.labels_) cp06, sl Ap07 (t_.at_) cp07]) s 1000 rfl rfl rfl rfl fun b2 a w hb hK s => ?_)
 refine asg s rfl rfl fun a s => ?_
 apply wN
 apply wR
 refine asg s rfl rfl fun a s => ?_
 apply wN
 apply wQ
 apply wR
 refine qq s rfl (y_boxField (o' := 0) s rfl underlying56 rfl rfl rfl) fun a s => ?_
 refine qq s rfl (y_boxField (o' := 3) s rfl underlying26 rfl rfl rfl) fun a s => ?_
 refine qq s rfl (y_loadBox1 (kk := 1000) s rfl rfl rfl underlying23 rfl) fun a s => ?_
 refine qq s rfl (y_lenSlice s rfl underlying23) fun a s => ?_
 refine mv s rfl rfl fun a s => ?_
 apply wN
 obtain ⟨k3, hg, hk3⟩ := jn_some hg
 refine c_post (fun a w => ∃ (t_4 : (List (List UInt8))) (A5 : Option Addr) (c6 : Nat) (cs7 : List Value), k3 t_4 = some r ∧ St (⟨Tryz.f43.ntmps, M, noB, w0⟩ : Ctx) [(5, sl A5 (t_4) c6)] [(700106, Ob.row (A5) ((t_4).length) (c6) 9 1 (cs7))] [(7, tabF Tryz.prog), (107, rdF Rep.str (cs7) (t_4))] a w) ?_ ?_
 ·apply wp_block
  replace s := s.nilRow 700108 9 1 rfl
  replace s := s.add 109 (rdF Rep.str [] []) (RdAll.nil _ _ _)
  refine c_loop (σ := Nat) (fun m1 a w => ∃ (t_8 : (List (List UInt8))) (t_12 : Nat) (A9 : Option Addr) (c10 : Nat) (cs11 : List Value), scope_tree_print_L0 n t_ t_' (scope_tree_print n) k3 m1 t_8 t_12 = some r ∧ St (⟨Tryz.f43.ntmps, M, noB, w0⟩ : Ctx) [(1, vI (t_')), (2, vP b2 0), (5, sl A9 (t_8) c10), (15, sl Ap04 (t_.m_.Rels) cp04), (16, vI ((((t_.m_.Rels).length : Nat) : Int))), (17, vI (((t_12 : Nat) : Int)))] [(1000, Ob.box b2 [vI (t_.m_.Top), vI (t_.m_.Index), sl Ap03 (t_.m_.Vars) cp03, sl Ap04 (t_.m_.Rels) cp04, sl Ap05 (t_.m_.Cons) cp05, sl Ap06 (t_.labels_) cp06, sl Ap07 (t_.at_) cp07] 56), (700108, Ob.row (A9) ((t_8).length) (c10) 9 1 (cs11))] [(7, tabF Tryz.prog), (101, slF Rep.str (Ap03) ((t_.m_.Vars).length) (cp03) (t_.m_.Vars)), (102, slF REP (Ap04) ((t_.m_.Rels).length) (cp04) (t_.m_.Rels)), (103, slF RQeq (Ap05) ((t_.m_.Cons).length) (cp05) (t_.m_.Cons)), (104, slF (Rep.num .i64) (Ap06) ((t_.labels_).length) (cp06) (t_.labels_)), (105, slF (Rep.num .i64) (Ap07) ((t_.at_).length) (cp07) (t_.at_)), (109, rdF Rep.str (cs11) (t_8))] a w) (fun m1 => m1) n ⟨([]), (0), (none), (0), ([]), hg, (s.sb rfl rfl rfl)⟩ ?_
  clear s a; rintro m1 a w ⟨t_8, t_12, A9, c10, cs11, hg, s⟩
  rcases m1 with _ | m1
  ·rw [scope_tree_print_L0] at hg; cases hg
  rw [scope_tree_print_L0] at hg
  apply wR
  refine qq s rfl (y_lssN (i := t_12) (j := ((t_.m_.Rels).length)) s rfl rfl) fun a s => ?_
  apply wN
  apply wQ
  refine c_dec s rfl (fun hc13 => ?_) (fun hc13 => ?_)
  ·replace hg := br_t hg hc13
   have hmx14 := SlR.mx (s.ft 102 rfl)
   apply wp_skip
   apply pN
   apply wQ
   apply wp_block
   apply wQ
   obtain ⟨x16, hx16, hg⟩ := bind_some hg
   apply wL
   obtain ⟨p19, hep19, hpp19⟩ := SlR.elemX (s.ft 102 rfl) hx16
   refine qq s rfl (y_elem (sz := 3) (i := t_12) s rfl rfl underlying23 rfl hep19 rfl (lt_of_get hx16)) fun a s => ?_
   obtain ⟨hlq20, hmq20, csq20, hdq20, hcq20⟩ := hpp19
   obtain ⟨Aq203, cq203, rfl, lq201, hq203⟩ := REP.open hdq20
   replace s := s.ns 111 hq203
   refine qq s rfl (y_ldp s rfl hlq20 hmq20 (by simpa using hcq20) underlying43 rfl rfl) fun a s => ?_
   refine l_seq rfl (l_alloc (zs := [vT ([]), vI 0, .slice (none) (0) (0)]) s 1402 rfl rfl rfl rfl fun b21 a w hb hK s => ?_)
   refine l_seq rfl (l_store (n := 3) (cs' := [vT (x16.Pred), vI (x16.Label), sl Aq203 (x16.Args) cq203]) s 1402 rfl rfl rfl rfl rfl rfl rfl rfl ?_); clear s; intro w hK s; clear hK
   apply wN
   apply wQ
   apply wR
   refine qq s rfl (y_boxField (o' := 1) s rfl underlying43 rfl rfl rfl) fun a s => ?_
   refine qq s rfl (y_loadBox1 (kk := 1402) s rfl rfl rfl underlying3 rfl) fun a s => ?_
   refine mv s rfl rfl fun a s => ?_
   refine qq s rfl (y_neq s rfl rfl) fun a s => ?_
   apply wN
   refine c_dec s rfl (fun hc22 => ?_) (fun hc22 => ?_)
   ·replace hg := br_t hg hc22
    apply wp_exit
    refine p_then ?_
    refine p_in ?_
    apply pN
    apply wL
    refine qq s rfl (y_addN (i := t_12) (j := 1) s rfl rfl (in64.2 (by omega))) fun a s => ?_
    refine mv s rfl rfl fun a s => ?_
    apply wN
    replace s := s.al 109 109 rfl
    exact ⟨m1, Nat.lt_succ_self _, ⟨(t_8), (t_12 + 1), (A9), (c10), (cs11), hg, (s.sb rfl rfl rfl)⟩⟩
   replace hg := br_f hg hc22
   apply wp_skip
   apply pN
   apply wR
   refine asg s rfl rfl fun a s => ?_
   apply wN
   apply wQ
   apply wR
   refine qq s rfl (y_boxField (o' := 2) s rfl underlying43 rfl rfl rfl) fun a s => ?_
   refine qq s rfl (y_loadBox1 (kk := 1402) s rfl rfl rfl underlying41 rfl) fun a s => ?_
   refine qq s rfl (y_lenSlice s rfl underlying41) fun a s => ?_
   refine mv s rfl rfl fun a s => ?_
   apply wN
   obtain ⟨k23, hg, hk23⟩ := jn_some hg
   refine c_post (fun a w => ∃ (t_24 : (List (List UInt8))) (A25 : Option Addr) (c26 : Nat) (cs27 : List Value), k23 t_24 = some r ∧ St (⟨Tryz.f43.ntmps, M, noB, w0⟩ : Ctx) [(1, vI (t_')), (2, vP b2 0), (5, sl A9 (t_8) c10), (7, vP b21 0), (8, sl A25 (t_24) c26), (15, sl Ap04 (t_.m_.Rels) cp04), (16, vI ((((t_.m_.Rels).length : Nat) : Int))), (17, vI (((t_12 : Nat) : Int)))] [(1000, Ob.box b2 [vI (t_.m_.Top), vI (t_.m_.Index), sl Ap03 (t_.m_.Vars) cp03, sl Ap04 (t_.m_.Rels) cp04, sl Ap05 (t_.m_.Cons) cp05, sl Ap06 (t_.labels_) cp06, sl Ap07 (t_.at_) cp07] 56), (1402, Ob.box b21 [vT (x16.Pred), vI (x16.Label), sl Aq203 (x16.Args) cq203] 43), (700108, Ob.row (A9) ((t_8).length) (c10) 9 1 (cs11)), (700112, Ob.row (A25) ((t_24).length) (c26) 9 1 (cs27))] [(7, tabF Tryz.prog), (101, slF Rep.str (Ap03) ((t_.m_.Vars).length) (cp03) (t_.m_.Vars)), (102, slF REP (Ap04) ((t_.m_.Rels).length) (cp04) (t_.m_.Rels)), (103, slF RQeq (Ap05) ((t_.m_.Cons).length) (cp05) (t_.m_.Cons)), (104, slF (Rep.num .i64) (Ap06) ((t_.labels_).length) (cp06) (t_.labels_)), (105, slF (Rep.num .i64) (Ap07) ((t_.at_).length) (cp07) (t_.at_)), (109, rdF Rep.str (cs11) (t_8)), (111, slF RArg (Aq203) ((x16.Args).length) (cq203) (x16.Args)), (113, rdF Rep.str (cs27) (t_24))] a w) ?_ ?_
   ·apply wp_block
    replace s := s.nilRow 700114 9 1 rfl
    replace s := s.add 115 (rdF Rep.str [] []) (RdAll.nil _ _ _)
    refine c_loop (σ := Nat) (fun m2 a w => ∃ (t_28 : (List (List UInt8))) (t_32 : Nat) (A29 : Option Addr) (c30 : Nat) (cs31 : List Value), scope_tree_print_L1 n t_ (scope_tree_print n) x16 k23 m2 t_28 t_32 = some r ∧ St (⟨Tryz.f43.ntmps, M, noB, w0⟩ : Ctx) [(1, vI (t_')), (2, vP b2 0), (5, sl A9 (t_8) c10), (7, vP b21 0), (8, sl A29 (t_28) c30), (15, sl Ap04 (t_.m_.Rels) cp04), (16, vI ((((t_.m_.Rels).length : Nat) : Int))), (17, vI (((t_12 : Nat) : Int))), (26, sl Aq203 (x16.Args) cq203), (27, vI ((((x16.Args).length : Nat) : Int))), (28, vI (((t_32 : Nat) : Int)))] [(1000, Ob.box b2 [vI (t_.m_.Top), vI (t_.m_.Index), sl Ap03 (t_.m_.Vars) cp03, sl Ap04 (t_.m_.Rels) cp04, sl Ap05 (t_.m_.Cons) cp05, sl Ap06 (t_.labels_) cp06, sl Ap07 (t_.at_) cp07] 56), (1402, Ob.box b21 [vT (x16.Pred), vI (x16.Label), sl Aq203 (x16.Args) cq203] 43), (700108, Ob.row (A9) ((t_8).length) (c10) 9 1 (cs11)), (700114, Ob.row (A29) ((t_28).length) (c30) 9 1 (cs31))] [(7, tabF Tryz.prog), (101, slF Rep.str (Ap03) ((t_.m_.Vars).length) (cp03) (t_.m_.Vars)), (102, slF REP (Ap04) ((t_.m_.Rels).length) (cp04) (t_.m_.Rels)), (103, slF RQeq (Ap05) ((t_.m_.Cons).length) (cp05) (t_.m_.Cons)), (104, slF (Rep.num .i64) (Ap06) ((t_.labels_).length) (cp06) (t_.labels_)), (105, slF (Rep.num .i64) (Ap07) ((t_.at_).length) (cp07) (t_.at_)), (109, rdF Rep.str (cs11) (t_8)), (111, slF RArg (Aq203) ((x16.Args).length) (cq203) (x16.Args)), (115, rdF Rep.str (cs31) (t_28))] a w) (fun m2 => m2) n ⟨([]), (0), (none), (0), ([]), hg, (s.sb rfl rfl rfl)⟩ ?_
    clear s a; rintro m2 a w ⟨t_28, t_32, A29, c30, cs31, hg, s⟩
    rcases m2 with _ | m2
    ·rw [scope_tree_print_L1] at hg; cases hg
    rw [scope_tree_print_L1] at hg
    apply wR
    refine qq s rfl (y_lssN (i := t_32) (j := ((x16.Args).length)) s rfl rfl) fun a s => ?_
    apply wN
    apply wQ
    refine c_dec s rfl (fun hc33 => ?_) (fun hc33 => ?_)
    ·replace hg := br_t hg hc33
     have hmx34 := SlR.mx (s.ft 111 rfl)
     apply wp_skip
     apply pN
     apply wQ
     apply wp_block
     apply wQ
     obtain ⟨x36, hx36, hg⟩ := bind_some hg
     apply wL
     obtain ⟨p39, hep39, hpp39⟩ := SlR.elemX (s.ft 111 rfl) hx36
     refine qq s rfl (y_elem (sz := 2) (i := t_32) s rfl rfl underlying41 rfl hep39 rfl (lt_of_get hx36)) fun a s => ?_
     obtain ⟨hlq40, hmq40, csq40, hdq40, hcq40⟩ := hpp39
     obtain ⟨rfl, lq401⟩ := RArg.open hdq40
     refine qq s rfl (y_ldp s rfl hlq40 hmq40 (by simpa using hcq40) underlying45 rfl rfl) fun a s => ?_
     refine l_seq rfl (l_alloc (zs := [vT ([]), vI 0]) s 1902 rfl rfl rfl rfl fun b41 a w hb hK s => ?_)
     refine l_seq rfl (l_store (n := 2) (cs' := [vT (x36.Role), vI (x36.Var)]) s 1902 rfl rfl rfl rfl rfl rfl rfl rfl ?_); clear s; intro w hK s; clear hK
     apply wN
     apply wQ
     obtain ⟨x43, hx43, hg⟩ := bind_some hg
     obtain ⟨r45, hr45, hg⟩ := bind_some hg
     obtain ⟨hk48, hg⟩ := chk_some hg
     refine d_plan s [] [(0, some 0), (1, some 0), (2, some 1000), (3, some 0), (4, some 1902), (5, some 0), (6, some 0), (7, some 0), (8, some 1902), (9, none), (10, none), (11, none)] rfl (by kernel_rfl) (by kernel_rfl) rfl ?_; clear s; intro wr hZ s; have hR := s.wd
     refine qt s hR rfl (y_boxField (o' := 0) s rfl underlying56 rfl rfl rfl) fun a s => ?_
     refine qt s hR rfl (y_boxField (o' := 2) s rfl underlying26 rfl rfl rfl) fun a s => ?_
     refine qt s hR rfl (y_loadBox1 (kk := 1000) s rfl rfl rfl underlying22 rfl) fun a s => ?_
     refine qt s hR rfl (y_boxField (o' := 1) s rfl underlying45 rfl rfl rfl) fun a s => ?_
     refine qt s hR rfl (y_loadBox1 (kk := 1902) s rfl rfl rfl underlying3 rfl) fun a s => ?_
     obtain ⟨p49, hep49, hpp49⟩ := SlR.elemX (s.ft 101 rfl) (ix_some hx43).1
     refine qt s hR rfl (y_elem (sz := 1) (i := ((x36.Var).toNat)) s rfl rfl underlying22 rfl hep49 (ix_some hx43).2.1 (lt_of_get (ix_some hx43).1)) fun a s => ?_
     obtain ⟨hlq50, hmq50, csq50, hdq50, hcq50⟩ := hpp49
     obtain ⟨rfl, lq501⟩ := hdq50
     refine qt s hR rfl (y_ldp1 s rfl hlq50 hmq50 (hcq50 0 _ rfl) underlying9 rfl) fun a s => ?_
     refine qt s hR rfl (y_boxField (o' := 1) s rfl underlying45 rfl rfl rfl) fun a s => ?_
     refine qt s hR rfl (y_loadBox1 (kk := 1902) s rfl rfl rfl underlying3 rfl) fun a s => ?_
     refine l_take s rfl rfl (l_call (cap := []) s rfl func59 rfl (by kernel_rfl) rfl rfl (c_strconv_Itoa n _ _ s.lt x36.Var (s.ft 7 rfl) r45 hr45) fun v51 a w hK hp s => ?_)
     replace hZ := Nat.le_trans hZ hK.size; refine ⟨fun g _ h => h.grow hK, ?_⟩; clear hK
     obtain ⟨rfl, lu52a1⟩ := hp
     refine l_take s rfl rfl (l_quiet s rfl rfl (y_concat s rfl rfl hk48) fun a s => ?_); refine ⟨fun g _ h => h, ?_⟩
     refine l_take s rfl rfl (l_quiet s rfl rfl (y_assign s rfl) fun a s => ?_); refine ⟨fun g _ h => h, ?_⟩
     clear hR hZ
     apply pN
     apply wQ
     apply wQ
     obtain ⟨x54, hx54, hg⟩ := bind_some hg
     apply wL
     refine qq s rfl (y_boxField (o' := 6) s rfl underlying56 rfl rfl rfl) fun a s => ?_
     refine qq s rfl (y_loadBox1 (kk := 1000) s rfl rfl rfl underlying30 rfl) fun a s => ?_
     refine qq s rfl (y_boxField (o' := 1) s rfl underlying45 rfl rfl rfl) fun a s => ?_
     refine qq s rfl (y_loadBox1 (kk := 1902) s rfl rfl rfl underlying3 rfl) fun a s => ?_
     obtain ⟨p56, hep56, hpp56⟩ := SlR.elemX (s.ft 105 rfl) (ix_some hx54).1
     refine qq s rfl (y_elem (sz := 1) (i := ((x36.Var).toNat)) s rfl rfl underlying30 rfl hep56 (ix_some hx54).2.1 (lt_of_get (ix_some hx54).1)) fun a s => ?_
     obtain ⟨hlq57, hmq57, csq57, hdq57, hcq57⟩ := hpp56
     obtain rfl := hdq57
     refine qq s rfl (y_ldp1 s rfl hlq57 hmq57 (hcq57 0 _ rfl) underlying3 rfl) fun a s => ?_
     refine asg s rfl rfl fun a s => ?_
     apply wN
     apply wR
     refine mv s rfl rfl fun a s => ?_
     refine qq s rfl (y_geq s rfl rfl) fun a s => ?_
     apply wN
     obtain ⟨k58, hg, hk58⟩ := jn_some hg
     refine c_post (fun a w => ∃ (t_59 : (List UInt8)), k58 t_59 = some r ∧ ((t_59).length ≤ 9223372036854775807) ∧ St (⟨Tryz.f43.ntmps, M, noB, w0⟩ : Ctx) [(1, vI (t_')), (2, vP b2 0), (5, sl A9 (t_8) c10), (7, vP b21 0), (8, sl A29 (t_28) c30), (10, vP b41 0), (11, vT t_59), (15, sl Ap04 (t_.m_.Rels) cp04), (16, vI ((((t_.m_.Rels).length : Nat) : Int))), (17, vI (((t_12 : Nat) : Int))), (26, sl Aq203 (x16.Args) cq203), (27, vI ((((x16.Args).length : Nat) : Int))), (28, vI (((t_32 : Nat) : Int)))] [(1000, Ob.box b2 [vI (t_.m_.Top), vI (t_.m_.Index), sl Ap03 (t_.m_.Vars) cp03, sl Ap04 (t_.m_.Rels) cp04, sl Ap05 (t_.m_.Cons) cp05, sl Ap06 (t_.labels_) cp06, sl Ap07 (t_.at_) cp07] 56), (1402, Ob.box b21 [vT (x16.Pred), vI (x16.Label), sl Aq203 (x16.Args) cq203] 43), (1902, Ob.box b41 [vT (x36.Role), vI (x36.Var)] 45), (700108, Ob.row (A9) ((t_8).length) (c10) 9 1 (cs11)), (700114, Ob.row (A29) ((t_28).length) (c30) 9 1 (cs31))] [(7, tabF Tryz.prog), (101, slF Rep.str (Ap03) ((t_.m_.Vars).length) (cp03) (t_.m_.Vars)), (102, slF REP (Ap04) ((t_.m_.Rels).length) (cp04) (t_.m_.Rels)), (103, slF RQeq (Ap05) ((t_.m_.Cons).length) (cp05) (t_.m_.Cons)), (104, slF (Rep.num .i64) (Ap06) ((t_.labels_).length) (cp06) (t_.labels_)), (105, slF (Rep.num .i64) (Ap07) ((t_.at_).length) (cp07) (t_.at_)), (109, rdF Rep.str (cs11) (t_8)), (111, slF RArg (Aq203) ((x16.Args).length) (cq203) (x16.Args)), (115, rdF Rep.str (cs31) (t_28))] a w) ?_ ?_
     ·refine c_dec s rfl (fun hc60 => ?_) (fun hc60 => ?_)
      ·replace hg := br_t hg hc60
       obtain ⟨r61, hr61, hg⟩ := bind_some hg
       apply wL
       refine qq s rfl (y_loadAll (kk := 1000) s rfl rfl underlying56 rfl rfl) fun a s => ?_
       refine mv s rfl rfl fun a s => ?_
       refine l_seq rfl (l_call (cap := []) s rfl func43 rfl (by kernel_rfl) rfl rfl (c_self _ _ s.lt t_ (Ap03) (cp03) (Ap04) (cp04) (Ap05) (cp05) (Ap06) (cp06) (Ap07) (cp07) (s.ft 101 rfl) (s.ft 102 rfl) (s.ft 103 rfl) (s.ft 104 rfl) (s.ft 105 rfl) x54 (s.ft 7 rfl) r61 hr61) fun v64 a w hK hp s => ?_)
       obtain ⟨rfl, lu65a1⟩ := hp
       refine asg s rfl rfl fun a s => ?_
       apply wN
       exact ⟨(r61), hg, (by omega), (s.sb rfl rfl rfl)⟩
      replace hg := br_f hg hc60
      apply wp_skip
      apply pN
      exact ⟨(x43 ++ r45), hg, (by first | omega | (rw [List.length_append]; omega) | (simp only [List.length_append]; omega) | (simp only [List.length_append, List.length_take, List.length_drop, List.length_cons, List.length_nil]; omega)), (s.sb rfl rfl rfl)⟩
     clear s a; rintro a w ⟨t_59, hg, lt_59, s⟩
     subst hk58
     obtain ⟨hk66, hg⟩ := chk_some hg
     obtain ⟨hk67, hg⟩ := chk_some hg
     obtain ⟨hk69, hg⟩ := chk_some hg
     apply wL
     refine mv s rfl rfl fun a s => ?_
     refine qq s rfl (y_boxField (o' := 0) s rfl underlying45 rfl rfl rfl) fun a s => ?_
     refine qq s rfl (y_loadBox1 (kk := 1902) s rfl rfl rfl underlying9 rfl) fun a s => ?_
     refine qq s rfl (y_concat s rfl rfl hk66) fun a s => ?_
     refine mv s rfl rfl fun a s => ?_
     refine qq s rfl (y_concat s rfl rfl hk67) fun a s => ?_
     refine l_seq rfl (l_buildDense (sz := 1) s 2406 rfl rfl rfl underlying22 rfl rfl rfl rfl rfl rfl rfl fun b72 a w hbb72 hK s => ?_)
     clear hbb72
     replace s := s.add 118 (rdF Rep.str (cellsOfL [vT ((x36.Role ++ [32]) ++ t_59)]) ([(x36.Role ++ [32]) ++ t_59])) (RdAll.cons (by exact ⟨rfl, (by first | omega | (rw [List.length_append]; omega) | (simp only [List.length_append]; omega) | (simp only [List.length_append, List.length_take, List.length_drop, List.length_cons, List.length_nil]; omega))⟩) (RdAll.nil _ _ _))
     have hs74 := row_src (s.wd.holds 2406 _ rfl) (RdAll.one (s.ft 118 rfl))
     refine l_seq rfl (l_append (sz := 1) (by_ := 16) (N := (t_28 ++ [(x36.Role ++ [32]) ++ t_59]).length) (ys := cs31 ++ (cellsOfL [vT ((x36.Role ++ [32]) ++ t_59)])) s 700114 rfl rfl rfl underlying22 rfl rfl rfl rfl rfl hs74 (by simp) rfl (by have hr := hk69; clear hg; first | omega | (simp only [List.length_append, List.length_cons, List.length_nil] at hr ⊢; omega) | (simp at hr ⊢; omega)) (by have hr := hk69; clear hg; first | omega | (simp only [List.length_append, List.length_cons, List.length_nil] at hr ⊢; omega) | (simp at hr ⊢; omega)) rfl fun Aq73 cq73 a w hA hK s => ?_)
     replace s := s.add 119 (rdF Rep.str (cs31 ++ (cellsOfL [vT ((x36.Role ++ [32]) ++ t_59)])) (t_28 ++ [(x36.Role ++ [32]) ++ t_59])) (RdAll.append (s.ft 115 rfl) (s.ft 118 rfl))
     refine asg s rfl rfl fun a s => ?_
     apply wO
     refine p_inN ?_
     apply pN
     apply wL
     refine qq s rfl (y_addN (i := t_32) (j := 1) s rfl rfl (in64.2 (by omega))) fun a s => ?_
     refine mv s rfl rfl fun a s => ?_
     apply wN
     replace s := s.add 115 (rdF Rep.str (cs31 ++ (cellsOfL [vT ((x36.Role ++ [32]) ++ t_59)])) (t_28 ++ [(x36.Role ++ [32]) ++ t_59])) (s.ft 119 rfl)
     exact ⟨m2, Nat.lt_succ_self _, ⟨(t_28 ++ [(x36.Role ++ [32]) ++ t_59]), (t_32 + 1), (Aq73), (cq73), (cs31 ++ (cellsOfL [vT ((x36.Role ++ [32]) ++ t_59)])), hg, (s.sb rfl rfl rfl)⟩⟩
    replace hg := br_f hg hc33
    apply wp_exit
    refine p_then ?_
    refine p_then ?_
    refine p_in ?_
    apply pN
    replace s := s.al 113 115 rfl
    replace s := s.pk [(1000, 1000), (1402, 1402), (700108, 700108), (700112, 700114)] (by decide)
    exact ⟨(t_28), (A29), (c30), (cs31), hg, (s.sb rfl rfl rfl)⟩
   clear s a; rintro a w ⟨t_24, A25, c26, cs27, hg, s⟩
   subst hk23
   obtain ⟨hk75, hg⟩ := chk_some hg
   obtain ⟨r76, hr76, hg⟩ := bind_some hg
   obtain ⟨hk79, hg⟩ := chk_some hg
   obtain ⟨hk80, hg⟩ := chk_some hg
   obtain ⟨hk82, hg⟩ := chk_some hg
   refine d_plan s [(9, 700108)] [(0, some 0), (1, some 0), (2, some 1402), (3, some 0), (4, some 0), (5, none), (6, none), (7, none), (8, none), (9, none), (10, none)] rfl (by kernel_rfl) (by kernel_rfl) rfl ?_; clear s; intro wr hZ s; have hR := s.wd
   refine qt s hR rfl (y_move s rfl) fun a s => ?_
   refine qt s hR rfl (y_boxField (o' := 0) s rfl underlying43 rfl rfl rfl) fun a s => ?_
   refine qt s hR rfl (y_loadBox1 (kk := 1402) s rfl rfl rfl underlying9 rfl) fun a s => ?_
   refine qt s hR rfl (y_concat s rfl rfl hk75) fun a s => ?_
   refine qt s hR rfl (y_move s rfl) fun a s => ?_
   have hT := s
   replace hT := hT.fz (R := Rep.str) (kk := 700112) [1000, 1402, 700108] 123 rfl rfl (hT.ft 113 rfl) rfl
   refine l_take s rfl rfl (l_call (cap := []) s rfl func60 rfl (by kernel_rfl) rfl rfl (c_strings_Join n _ _ hT.lt t_24 (A25) (c26) (hT.ft 123 rfl) [44, 32] (by first | omega | (rw [List.length_append]; omega) | (simp only [List.length_append]; omega) | (simp only [List.length_append, List.length_take, List.length_drop, List.length_cons, List.length_nil]; omega)) r76 hr76) fun v85 a w hK hp s => ?_)
   replace hZ := Nat.le_trans hZ hK.size; refine ⟨fun g _ h => h.grow hK, ?_⟩; clear hK
   obtain ⟨rfl, lu86a1⟩ := hp
   refine l_take s rfl rfl (l_quiet s rfl rfl (y_concat s rfl rfl hk79) fun a s => ?_); refine ⟨fun g _ h => h, ?_⟩
   refine l_take s rfl rfl (l_quiet s rfl rfl (y_concat s rfl rfl hk80) fun a s => ?_); refine ⟨fun g _ h => h, ?_⟩
   refine l_take s rfl rfl (l_buildDense (sz := 1) s 2608 rfl rfl rfl underlying22 rfl rfl rfl rfl rfl rfl rfl fun b87 a w hbb87 hK s => ?_)
   have hNb87 := NewA.lit hZ hbb87
   clear hbb87
   replace hZ := Nat.le_trans hZ hK.size; refine ⟨fun g _ h => h.grow hK, ?_⟩; clear hK
   replace s := s.add 124 (rdF Rep.str (cellsOfL [vT (((x16.Pred ++ [40]) ++ r76) ++ [41])]) ([((x16.Pred ++ [40]) ++ r76) ++ [41]])) (RdAll.cons (by exact ⟨rfl, (by first | omega | (rw [List.length_append]; omega) | (simp only [List.length_append]; omega) | (simp only [List.length_append, List.length_take, List.length_drop, List.length_cons, List.length_nil]; omega))⟩) (RdAll.nil _ _ _))
   have hs89 := row_src (s.wd.holds 2608 _ rfl) (RdAll.one (s.ft 124 rfl))
   refine l_take s rfl rfl (l_append (sz := 1) (by_ := 16) (N := (t_8 ++ [((x16.Pred ++ [40]) ++ r76) ++ [41]]).length) (ys := cs11 ++ (cellsOfL [vT (((x16.Pred ++ [40]) ++ r76) ++ [41])])) s 700108 rfl rfl rfl underlying22 rfl rfl rfl rfl rfl hs89 (by simp) rfl (by have hr := hk82; clear hg; first | omega | (simp only [List.length_append, List.length_cons, List.length_nil] at hr ⊢; omega) | (simp at hr ⊢; omega)) (by have hr := hk82; clear hg; first | omega | (simp only [List.length_append, List.length_cons, List.length_nil] at hr ⊢; omega) | (simp at hr ⊢; omega)) rfl fun Aq88 cq88 a w hA hK s => ?_)
   replace hZ := Nat.le_trans hZ hK.size; refine ⟨fun g hg h => h.obj hR (kk := 700108) rfl hK (by rintro rfl; exact absurd hg (by decide)), ?_⟩
   replace s := s.add 125 (rdF Rep.str (cs11 ++ (cellsOfL [vT (((x16.Pred ++ [40]) ++ r76) ++ [41])])) (t_8 ++ [((x16.Pred ++ [40]) ++ r76) ++ [41]])) (RdAll.append (s.ft 109 rfl) (s.ft 124 rfl))
   refine l_take s rfl rfl (l_quiet s rfl rfl (y_assign s rfl) fun a s => ?_); refine ⟨fun g _ h => h, ?_⟩
   clear hR hZ
   refine p_inN ?_
   apply pN
   apply wL
   refine qq s rfl (y_addN (i := t_12) (j := 1) s rfl rfl (in64.2 (by omega))) fun a s => ?_
   refine mv s rfl rfl fun a s => ?_
   apply wN
   replace s := s.add 109 (rdF Rep.str (cs11 ++ (cellsOfL [vT (((x16.Pred ++ [40]) ++ r76) ++ [41])])) (t_8 ++ [((x16.Pred ++ [40]) ++ r76) ++ [41]])) (s.ft 125 rfl)
   exact ⟨m1, Nat.lt_succ_self _, ⟨(t_8 ++ [((x16.Pred ++ [40]) ++ r76) ++ [41]]), (t_12 + 1), (Aq88), (cq88), (cs11 ++ (cellsOfL [vT (((x16.Pred ++ [40]) ++ r76) ++ [41])])), hg, (s.sb rfl rfl rfl)⟩⟩
  replace hg := br_f hg hc13
  apply wp_exit
  refine p_then ?_
  refine p_then ?_
  refine p_in ?_
  apply pN
  replace s := s.al 107 109 rfl
  replace s := s.pk [(1000, 1000), (700106, 700108)] (by decide)
  exact ⟨(t_8), (A9), (c10), (cs11), hg, (s.sb rfl rfl rfl)⟩
 clear s a; rintro a w ⟨t_4, A5, c6, cs7, hg, s⟩
 subst hk3
 apply wQ
 obtain ⟨r90, hr90, hg⟩ := bind_some hg
 apply wL
 refine mv s rfl rfl fun a s => ?_
 have hT := s
 replace hT := hT.fz (R := Rep.str) (kk := 700106) [] 127 rfl rfl (hT.ft 107 rfl) rfl
 refine l_seq rfl (l_call (cap := []) s rfl func60 rfl (by kernel_rfl) rfl rfl (c_strings_Join n _ _ hT.lt t_4 (A5) (c6) (hT.ft 127 rfl) [32, 38, 32] (by first | omega | (rw [List.length_append]; omega) | (simp only [List.length_append]; omega) | (simp only [List.length_append, List.length_take, List.length_drop, List.length_cons, List.length_nil]; omega)) r90 hr90) fun v93 a w hK hp s => ?_)
 obtain ⟨rfl, lu94a1⟩ := hp
 refine asg s rfl rfl fun a s => ?_
 apply wN
 apply wp_ret
 obtain rfl := Option.some.inj hg
 refine fin1 (fn := Tryz.f43) s rfl (r_tmp s rfl) ?_
 exact ⟨rfl, (by omega)⟩
set_option maxHeartbeats 400000 in
theorem c_scope_Print (n : Nat) (M : Bs) (w0 : World) (hM : ∀ b, M b → b < w0.heap.size) (m_ : MRS) (Ap03 : Option Addr) (cp03 : Nat) (Ap04 : Option Addr) (cp04 : Nat) (Ap05 : Option Addr) (cp05 : Nat) (hp03 : SlR Rep.str M w0 Ap03 (m_.Vars).length cp03 (m_.Vars)) (hp04 : SlR REP M w0 Ap04 (m_.Rels).length cp04 (m_.Rels)) (hp05 : SlR RQeq M w0 Ap05 (m_.Cons).length cp05 (m_.Cons)) (plug_ : (List Int)) (Ap11 : Option Addr) (cp11 : Nat) (hp11 : SlR (Rep.num .i64) M w0 Ap11 (plug_).length cp11 (plug_)) (hTab : (tabF Tryz.prog).p M w0) (r : ((List UInt8) × Int)) (hg : scope_Print n m_ plug_ = some r) :
    Calls Tryz.prog 21 [.agg #[.int .i64 (m_.Top), .int .i64 (m_.Index), .slice (Ap03) ((m_.Vars).length) (cp03), .slice (Ap04) ((m_.Rels).length) (cp04), .slice (Ap05) ((m_.Cons).length) (cp05)], .slice (Ap11) ((plug_).length) (cp11)].toArray w0 (Ret noB w0 fun v w => v = .tuple #[.string (bs (r.1)), .int .i64 (r.2)] ∧ ((r.1).length ≤ 9223372036854775807)) := by
 unfold scope_Print at hg
 refine enter M noB func21 rfl rfl hM ?_
 intro a s
 replace s := s.es 101 hp03
 replace s := s.es 102 hp04
 replace s := s.es 103 hp05
 replace s := s.es 104 hp11
 replace s := s.add 7 (tabF Tryz.prog) (by exact Fact.change _ enterM hTab)
 apply wR
 refine l_seq rfl (l_box (zs := [vI (m_.Top), vI (m_.Index), sl Ap03 (m_.Vars) cp03, sl Ap04 (m_.Rels) cp04, sl Ap05 (m_.Cons) cp05]) s 1000 rfl rfl rfl rfl fun b2 a w hb hK s => ?_)
 refine asg s rfl rfl fun a s => ?_
 refine asg s rfl rfl fun a s => ?_
 apply wN
 apply wQ
 apply wQ
 obtain ⟨r3, hr3, hg⟩ := bind_some hg
 apply wL
 refine qq s rfl (y_loadAll (kk := 1000) s rfl rfl underlying26 rfl rfl) fun a s => ?_
 refine mv s rfl rfl fun a s => ?_
 refine l_seq rfl (l_call (cap := []) s rfl func19 rfl (by kernel_rfl) rfl rfl (c_scope_Valid n _ _ s.lt m_ (Ap03) (cp03) (Ap04) (cp04) (Ap05) (cp05) (s.ft 101 rfl) (s.ft 102 rfl) (s.ft 103 rfl) plug_ (Ap11) (cp11) (s.ft 104 rfl) r3 hr3) fun v6 a w hK hp s => ?_)
 obtain rfl := hp
 refine asg s rfl rfl fun a s => ?_
 apply wN
 apply wR
 refine mv s rfl rfl fun a s => ?_
 refine qq s rfl (y_neq s rfl rfl) fun a s => ?_
 apply wN
 refine c_dec s rfl (fun hc8 => ?_) (fun hc8 => ?_)
 ·replace hg := br_t hg hc8
  apply wR
  refine mv s rfl rfl fun a s => ?_
  refine asg s rfl rfl fun a s => ?_
  refine asg s rfl rfl fun a s => ?_
  apply wN
  apply wp_ret
  refine p_thenR ?_
  obtain rfl := Option.some.inj hg
  refine fin2 (fn := Tryz.f21) s rfl (r_tmp s rfl) (r_tmp s rfl) ?_
  exact ⟨rfl, (by first | omega | (rw [List.length_append]; omega) | (simp only [List.length_append]; omega) | (simp only [List.length_append, List.length_take, List.length_drop, List.length_cons, List.length_nil]; omega))⟩
 replace hg := br_f hg hc8
 apply wp_skip
 apply pN
 apply wQ
 obtain ⟨r9, hr9, hg⟩ := bind_some hg
 apply wL
 refine qq s rfl (y_loadAll (kk := 1000) s rfl rfl underlying26 rfl rfl) fun a s => ?_
 refine mv s rfl rfl fun a s => ?_
 refine l_seq rfl (l_call (cap := []) s rfl func33 rfl (by kernel_rfl) rfl rfl (c_scope_plugged n _ _ s.lt m_ (Ap03) (cp03) (Ap04) (cp04) (Ap05) (cp05) (s.ft 101 rfl) (s.ft 102 rfl) (s.ft 103 rfl) plug_ (Ap11) (cp11) (s.ft 104 rfl) r9 hr9) fun v13 a w hK hp s => ?_)
 obtain ⟨Au14a3, cu14a3, Au14a4, cu14a4, Au14a5, cu14a5, Au14a6, cu14a6, Au14a7, cu14a7, rfl, hu14a3, hu14a4, hu14a5, hu14a6, hu14a7⟩ := hp
 replace s := s.ns 110 hu14a3
 replace s := s.ns 111 hu14a4
 replace s := s.ns 112 hu14a5
 replace s := s.ns 113 hu14a6
 replace s := s.ns 114 hu14a7
 refine l_seq rfl (l_alloc (zs := [vI 0, vI 0, .slice (none) (0) (0), .slice (none) (0) (0), .slice (none) (0) (0), .slice (none) (0) (0), .slice (none) (0) (0)]) s 1403 rfl rfl rfl rfl fun b15 a w hb hK s => ?_)
 refine l_seq rfl (l_store (n := 7) (cs' := [vI (r9.m_.Top), vI (r9.m_.Index), sl Au14a3 (r9.m_.Vars) cu14a3, sl Au14a4 (r9.m_.Rels) cu14a4, sl Au14a5 (r9.m_.Cons) cu14a5, sl Au14a6 (r9.labels_) cu14a6, sl Au14a7 (r9.at_) cu14a7]) s 1403 rfl rfl rfl rfl rfl rfl rfl rfl ?_); clear s; intro w hK s; clear hK
 apply wN
 apply wQ
 obtain ⟨x17, hx17, hg⟩ := bind_some hg
 obtain ⟨r19, hr19, hg⟩ := bind_some hg
 refine d_plan s [] [(0, some 1403), (1, some 0), (2, some 1403), (3, some 0), (4, some 1000), (5, some 0), (6, some 0), (7, none), (8, none), (9, none)] rfl (by kernel_rfl) (by kernel_rfl) rfl ?_; clear s; intro wr hZ s; have hR := s.wd
 refine qt s hR rfl (y_loadAll (kk := 1403) s rfl rfl underlying56 rfl rfl) fun a s => ?_
 refine qt s hR rfl (y_boxField (o' := 6) s rfl underlying56 rfl rfl rfl) fun a s => ?_
 refine qt s hR rfl (y_loadBox1 (kk := 1403) s rfl rfl rfl underlying30 rfl) fun a s => ?_
 refine qt s hR rfl (y_boxField (o' := 0) s rfl underlying26 rfl rfl rfl) fun a s => ?_
 refine qt s hR rfl (y_loadBox1 (kk := 1000) s rfl rfl rfl underlying3 rfl) fun a s => ?_
 obtain ⟨p22, hep22, hpp22⟩ := SlR.elemX (s.ft 114 rfl) (ix_some hx17).1
 refine qt s hR rfl (y_elem (sz := 1) (i := ((m_.Top).toNat)) s rfl rfl underlying30 rfl hep22 (ix_some hx17).2.1 (lt_of_get (ix_some hx17).1)) fun a s => ?_
 obtain ⟨hlq23, hmq23, csq23, hdq23, hcq23⟩ := hpp22
 obtain rfl := hdq23
 refine qt s hR rfl (y_ldp1 s rfl hlq23 hmq23 (hcq23 0 _ rfl) underlying3 rfl) fun a s => ?_
 refine l_take s rfl rfl (l_call (cap := []) s rfl func43 rfl (by kernel_rfl) rfl rfl (c_scope_tree_print n _ _ s.lt r9 (Au14a3) (cu14a3) (Au14a4) (cu14a4) (Au14a5) (cu14a5) (Au14a6) (cu14a6) (Au14a7) (cu14a7) (s.ft 110 rfl) (s.ft 111 rfl) (s.ft 112 rfl) (s.ft 113 rfl) (s.ft 114 rfl) x17 (s.ft 7 rfl) r19 hr19) fun v24 a w hK hp s => ?_)
 replace hZ := Nat.le_trans hZ hK.size; refine ⟨fun g _ h => h.grow hK, ?_⟩; clear hK
 obtain ⟨rfl, lu25a1⟩ := hp
 refine l_take s rfl rfl (l_quiet s rfl rfl (y_assign s rfl) fun a s => ?_); refine ⟨fun g _ h => h, ?_⟩
 refine l_take s rfl rfl (l_quiet s rfl rfl (y_assign s rfl) fun a s => ?_); refine ⟨fun g _ h => h, ?_⟩
 clear hR hZ
 apply pN
 apply wp_ret
 obtain rfl := Option.some.inj hg
 refine fin2 (fn := Tryz.f21) s rfl (r_tmp s rfl) (r_tmp s rfl) ?_
 exact ⟨rfl, (by omega)⟩
set_option maxHeartbeats 400000 in
theorem c_r39_fail (n : Nat) (M : Bs) (w0 : World) (hM : ∀ b, M b → b < w0.heap.size) (C : Bs) (r_ : reader) (Ap04 : Option Addr) (cp04 : Nat) (Ap05 : Option Addr) (cp05 : Nat) (csp03 : List Value) (csp04 : List Value) (lp01 : (r_.s_).length ≤ 9223372036854775807) (hW : Wd ⟨0, M, C, w0⟩ [(9200003, Ob.row (Ap04) ((r_.sorts_).length) (cp04) 9 1 (csp03)), (9200004, Ob.row (Ap05) ((r_.texts_).length) (cp05) 9 1 (csp04))] [(9300003, rdF Rep.str (csp03) (r_.sorts_)), (9300004, rdF Rep.str (csp04) (r_.texts_))] w0) (r : reader) (hg : r39_fail n r_ = some r) :
    Calls Tryz.prog 71 [.agg #[.string (bs (r_.s_)), .int .i64 (r_.at_), .int .i64 (r_.e_), .slice (Ap04) ((r_.sorts_).length) (cp04), .slice (Ap05) ((r_.texts_).length) (cp05)]].toArray w0 (Ret C w0 fun v w => ∃ (Am04 : Option Addr), ∃ (cm04 : Nat), ∃ (csm0_3 : List Value), ∃ (Am05 : Option Addr), ∃ (cm05 : Nat), ∃ (csm0_4 : List Value), v = .agg #[.string (bs (r.s_)), .int .i64 (r.at_), .int .i64 (r.e_), .slice (Am04) ((r.sorts_).length) (cm04), .slice (Am05) ((r.texts_).length) (cm05)] ∧ ((r.s_).length ≤ 9223372036854775807) ∧ (Wd ⟨0, M, C, w0⟩ [(9200003, Ob.row (Am04) ((r.sorts_).length) (cm04) 9 1 (csm0_3)), (9200004, Ob.row (Am05) ((r.texts_).length) (cm05) 9 1 (csm0_4))] [(9300003, rdF Rep.str (csm0_3) (r.sorts_)), (9300004, rdF Rep.str (csm0_4) (r.texts_))] w)) := by
 unfold r39_fail at hg
 refine enterL M C func71 rfl rfl hW ?_
 intro a s
 apply wR
 refine l_seq rfl (l_box (zs := [vT (r_.s_), vI (r_.at_), vI (r_.e_), sl Ap04 (r_.sorts_) cp04, sl Ap05 (r_.texts_) cp05]) s 1000 rfl rfl rfl rfl fun b3 a w hb hK s => ?_)
 refine l_seq rfl (l_alloc (zs := [vT ([]), vI 0, vI 0, .slice (none) (0) (0), .slice (none) (0) (0)]) s 1001 rfl rfl rfl rfl fun b4 a w hb hK s => ?_)
 apply wN
 apply wQ
 apply wQ
 obtain ⟨k5, hg, hk5⟩ := jn_some hg
 refine c_post (fun a w => ∃ (t_6 : Bool), k5 t_6 = some r ∧ St (⟨Tryz.f71.ntmps, M, C, w0⟩ : Ctx) [(1, vP b3 0), (2, vP b4 0), (13, .bool (t_6))] [(1000, Ob.box b3 [vT (r_.s_), vI (r_.at_), vI (r_.e_), sl Ap04 (r_.sorts_) cp04, sl Ap05 (r_.texts_) cp05] 82), (1001, Ob.box b4 [vT ([]), vI 0, vI 0, .slice (none) (0) (0), .slice (none) (0) (0)] 82), (9200003, Ob.row (Ap04) ((r_.sorts_).length) (cp04) 9 1 (csp03)), (9200004, Ob.row (Ap05) ((r_.texts_).length) (cp05) 9 1 (csp04))] [(9300003, rdF Rep.str (csp03) (r_.sorts_)), (9300004, rdF Rep.str (csp04) (r_.texts_))] a w) ?_ ?_
 ·rcases Decidable.em (r_.e_ = 0) with hs7 | hs7
  ·have hs7e := decide_eq_true hs7
   replace hg := br_t hg hs7
   apply wL
   refine qq s rfl (y_boxField (o' := 2) s rfl underlying82 rfl rfl rfl) fun a s => ?_
   refine qq s rfl (y_loadBox1 (kk := 1000) s rfl rfl rfl underlying36 rfl) fun a s => ?_
   refine qq s rfl (yl_b (y_eql s rfl rfl) hs7e) fun a s => ?_
   refine mv s rfl rfl fun a s => ?_
   refine gy s rfl (y_boxField (o' := 1) s rfl underlying82 rfl rfl rfl) fun a s => ?_
   refine gy s rfl (y_loadBox1 (kk := 1000) s rfl rfl rfl underlying3 rfl) fun a s => ?_
   refine gy s rfl (y_boxField (o' := 0) s rfl underlying82 rfl rfl rfl) fun a s => ?_
   refine gy s rfl (y_loadBox1 (kk := 1000) s rfl rfl rfl underlying9 rfl) fun a s => ?_
   refine gy s rfl (y_lenStrN s rfl underlying9) fun a s => ?_
   refine gy s rfl (y_geq s rfl rfl) fun a s => ?_
   refine qq s rfl (y_pick_t s rfl rfl) fun a s => ?_
   apply wN
   exact ⟨(decide ((((r_.s_).length : Nat) : Int) ≤ r_.at_)), hg, (s.sb rfl rfl rfl)⟩
  have hs7e := decide_eq_false hs7
  replace hg := br_f hg hs7
  apply wL
  refine qq s rfl (y_boxField (o' := 2) s rfl underlying82 rfl rfl rfl) fun a s => ?_
  refine qq s rfl (y_loadBox1 (kk := 1000) s rfl rfl rfl underlying36 rfl) fun a s => ?_
  refine qq s rfl (yl_b (y_eql s rfl rfl) hs7e) fun a s => ?_
  refine mv s rfl rfl fun a s => ?_
  refine gn s rfl fun a s => ?_
  refine gn s rfl fun a s => ?_
  refine gn s rfl fun a s => ?_
  refine gn s rfl fun a s => ?_
  refine gn s rfl fun a s => ?_
  refine gn s rfl fun a s => ?_
  refine qq s rfl (y_pick_f s rfl rfl) fun a s => ?_
  apply wN
  exact ⟨(false), hg, (s.sb rfl rfl rfl)⟩
 clear s a; rintro a w ⟨t_6, hg, s⟩
 subst hk5
 obtain ⟨k8, hg, hk8⟩ := jn_some hg
 refine c_post (fun a w => ∃ (r_9 : Int), k8 r_9 = some r ∧ St (⟨Tryz.f71.ntmps, M, C, w0⟩ : Ctx) [(1, vP b3 0), (2, vP b4 0)] [(1000, Ob.box b3 [vT (r_.s_), vI (r_.at_), vI r_9, sl Ap04 (r_.sorts_) cp04, sl Ap05 (r_.texts_) cp05] 82), (1001, Ob.box b4 [vT ([]), vI 0, vI 0, .slice (none) (0) (0), .slice (none) (0) (0)] 82), (9200003, Ob.row (Ap04) ((r_.sorts_).length) (cp04) 9 1 (csp03)), (9200004, Ob.row (Ap05) ((r_.texts_).length) (cp05) 9 1 (csp04))] [(9300003, rdF Rep.str (csp03) (r_.sorts_)), (9300004, rdF Rep.str (csp04) (r_.texts_))] a w) ?_ ?_
 ·refine c_cond s rfl (fun hc10 => ?_) (fun hc10 => ?_)
  ·replace hg := br_t hg hc10
   apply wL
   refine qq s rfl (y_boxField (o' := 2) s rfl underlying82 rfl rfl rfl) fun a s => ?_
   refine l_seq rfl (l_store (n := 1) (cs' := [vT (r_.s_), vI (r_.at_), vI 9, sl Ap04 (r_.sorts_) cp04, sl Ap05 (r_.texts_) cp05]) s 1000 rfl rfl rfl rfl rfl rfl rfl rfl ?_); clear s; intro w hK s; clear hK
   apply wN
   exact ⟨(9), hg, (s.sb rfl rfl rfl)⟩
  replace hg := br_n hg hc10
  apply wR
  refine qq s rfl (y_boxField (o' := 2) s rfl underlying82 rfl rfl rfl) fun a s => ?_
  refine qq s rfl (y_loadBox1 (kk := 1000) s rfl rfl rfl underlying36 rfl) fun a s => ?_
  refine qq s rfl (y_eql s rfl rfl) fun a s => ?_
  apply wN
  refine c_dec s rfl (fun hc11 => ?_) (fun hc11 => ?_)
  ·replace hg := br_t hg hc11
   apply wL
   refine qq s rfl (y_boxField (o' := 2) s rfl underlying82 rfl rfl rfl) fun a s => ?_
   refine l_seq rfl (l_store (n := 1) (cs' := [vT (r_.s_), vI (r_.at_), vI 8, sl Ap04 (r_.sorts_) cp04, sl Ap05 (r_.texts_) cp05]) s 1000 rfl rfl rfl rfl rfl rfl rfl rfl ?_); clear s; intro w hK s; clear hK
   apply wN
   exact ⟨(8), hg, (s.sb rfl rfl rfl)⟩
  replace hg := br_f hg hc11
  apply wp_skip
  apply pN
  exact ⟨(r_.e_), hg, (s.sb rfl rfl rfl)⟩
 clear s a; rintro a w ⟨r_9, hg, s⟩
 subst hk8
 apply wR
 refine qq s rfl (y_loadAll (kk := 1000) s rfl rfl underlying82 rfl rfl) fun a s => ?_
 refine l_seq rfl (l_store (n := 5) (cs' := [vT (r_.s_), vI (r_.at_), vI r_9, sl Ap04 (r_.sorts_) cp04, sl Ap05 (r_.texts_) cp05]) s 1001 rfl rfl rfl rfl rfl rfl rfl rfl ?_); clear s; intro w hK s; clear hK
 apply wN
 apply wp_ret
 replace s := s.al 9300003 9300003 rfl
 replace s := s.al 9300004 9300004 rfl
 obtain rfl := Option.some.inj hg
 refine fin1 (fn := Tryz.f71) s rfl (r_cell (kk := 1001) (n := 5) (vs := [vT (r_.s_), vI (r_.at_), vI r_9, sl Ap04 (r_.sorts_) cp04, sl Ap05 (r_.texts_) cp05]) s rfl rfl underlying82 rfl rfl rfl rfl) ?_
 exact ⟨(Ap04), (cp04), (csp03), (Ap05), (cp05), (csp04), rfl, (by omega), ((s.ren [(9200003, Ob.row (Ap04) ((r_.sorts_).length) (cp04) 9 1 (csp03)), (9200004, Ob.row (Ap05) ((r_.texts_).length) (cp05) 9 1 (csp04))] [9200003, 9200004] ⟨rfl, rfl, trivial⟩ (by decide)).outL ⟨rfl, rfl, trivial⟩ ⟨rfl, rfl, trivial⟩)⟩
set_option maxHeartbeats 400000 in
theorem c_r39_between (n : Nat) (M : Bs) (w0 : World) (hM : ∀ b, M b → b < w0.heap.size) (c_ : UInt8) (a_ : UInt8) (b_ : UInt8) (r : Bool) (hg : r39_between n c_ a_ b_ = some r) :
    Calls Tryz.prog 82 [.int .u8 (((c_.toNat : Nat) : Int)), .int .u8 (((a_.toNat : Nat) : Int)), .int .u8 (((b_.toNat : Nat) : Int))].toArray w0 (Ret noB w0 fun v w => v = .bool (r)) := by
 unfold r39_between at hg
 refine enter M noB func82 rfl rfl hM ?_
 intro a s
 apply wR
 refine asg s rfl rfl fun a s => ?_
 apply wN
 apply wQ
 rcases Decidable.em (a_.toNat ≤ c_.toNat) with hs1 | hs1
 ·have hs1e := decide_eq_true hs1
  replace hg := br_t hg hs1
  apply wL
  refine mv s rfl rfl fun a s => ?_
  refine mv s rfl rfl fun a s => ?_
  refine qq s rfl (yl_b (y_geqN (i := c_.toNat) (j := a_.toNat) s rfl rfl) hs1e) fun a s => ?_
  refine mv s rfl rfl fun a s => ?_
  refine gm s rfl rfl fun a s => ?_
  refine gm s rfl rfl fun a s => ?_
  refine gy s rfl (y_leqN (i := c_.toNat) (j := b_.toNat) s rfl rfl) fun a s => ?_
  refine qq s rfl (y_pick_t s rfl rfl) fun a s => ?_
  refine asg s rfl rfl fun a s => ?_
  apply wN
  apply wp_ret
  obtain rfl := Option.some.inj hg
  refine fin1 (fn := Tryz.f82) s rfl (r_tmp s rfl) ?_
  exact rfl
 have hs1e := decide_eq_false hs1
 replace hg := br_f hg hs1
 apply wL
 refine mv s rfl rfl fun a s => ?_
 refine mv s rfl rfl fun a s => ?_
 refine qq s rfl (yl_b (y_geqN (i := c_.toNat) (j := a_.toNat) s rfl rfl) hs1e) fun a s => ?_
 refine mv s rfl rfl fun a s => ?_
 refine gn s rfl fun a s => ?_
 refine gn s rfl fun a s => ?_
 refine gn s rfl fun a s => ?_
 refine qq s rfl (y_pick_f s rfl rfl) fun a s => ?_
 refine asg s rfl rfl fun a s => ?_
 apply wN
 apply wp_ret
 obtain rfl := Option.some.inj hg
 refine fin1 (fn := Tryz.f82) s rfl (r_tmp s rfl) ?_
 exact rfl
set_option maxHeartbeats 400000 in
theorem c_r39_variableOf (n : Nat) (M : Bs) (w0 : World) (hM : ∀ b, M b → b < w0.heap.size) (C : Bs) (t_ : reader) (Ap04 : Option Addr) (cp04 : Nat) (Ap05 : Option Addr) (cp05 : Nat) (csp03 : List Value) (csp04 : List Value) (lp01 : (t_.s_).length ≤ 9223372036854775807) (hW : Wd ⟨0, M, C, w0⟩ [(9200003, Ob.row (Ap04) ((t_.sorts_).length) (cp04) 9 1 (csp03)), (9200004, Ob.row (Ap05) ((t_.texts_).length) (cp05) 9 1 (csp04))] [(9300003, rdF Rep.str (csp03) (t_.sorts_)), (9300004, rdF Rep.str (csp04) (t_.texts_))] w0) (r : (reader × Int)) (hg : r39_variableOf n t_ = some r) :
    Calls Tryz.prog 67 [.agg #[.string (bs (t_.s_)), .int .i64 (t_.at_), .int .i64 (t_.e_), .slice (Ap04) ((t_.sorts_).length) (cp04), .slice (Ap05) ((t_.texts_).length) (cp05)]].toArray w0 (Ret C w0 fun v w => ∃ (Am04 : Option Addr), ∃ (cm04 : Nat), ∃ (csm0_3 : List Value), ∃ (Am05 : Option Addr), ∃ (cm05 : Nat), ∃ (csm0_4 : List Value), v = .tuple #[.agg #[.string (bs (r.1.s_)), .int .i64 (r.1.at_), .int .i64 (r.1.e_), .slice (Am04) ((r.1.sorts_).length) (cm04), .slice (Am05) ((r.1.texts_).length) (cm05)], .int .i64 (r.2)] ∧ ((r.1.s_).length ≤ 9223372036854775807) ∧ (Wd ⟨0, M, C, w0⟩ [(9200003, Ob.row (Am04) ((r.1.sorts_).length) (cm04) 9 1 (csm0_3)), (9200004, Ob.row (Am05) ((r.1.texts_).length) (cm05) 9 1 (csm0_4))] [(9300003, rdF Rep.str (csm0_3) (r.1.sorts_)), (9300004, rdF Rep.str (csm0_4) (r.1.texts_))] w)) := by
 unfold r39_variableOf at hg
 refine enterL M C func67 rfl rfl hW ?_
 intro a s
 apply wR
 refine l_seq rfl (l_box (zs := [vT (t_.s_), vI (t_.at_), vI (t_.e_), sl Ap04 (t_.sorts_) cp04, sl Ap05 (t_.texts_) cp05]) s 1000 rfl rfl rfl rfl fun b3 a w hb hK s => ?_)
 refine l_seq rfl (l_alloc (zs := [vT ([]), vI 0, vI 0, .slice (none) (0) (0), .slice (none) (0) (0)]) s 1001 rfl rfl rfl rfl fun b4 a w hb hK s => ?_)
 refine asg s rfl rfl fun a s => ?_
 apply wN
 apply wQ
 apply wR
 refine qq s rfl (y_boxField (o' := 2) s rfl underlying82 rfl rfl rfl) fun a s => ?_
 refine qq s rfl (y_loadBox1 (kk := 1000) s rfl rfl rfl underlying36 rfl) fun a s => ?_
 refine qq s rfl (y_neq s rfl rfl) fun a s => ?_
 apply wN
 refine c_dec s rfl (fun hc5 => ?_) (fun hc5 => ?_)
 ·replace hg := br_t hg hc5
  apply wR
  refine qq s rfl (y_loadAll (kk := 1000) s rfl rfl underlying82 rfl rfl) fun a s => ?_
  refine l_seq rfl (l_store (n := 5) (cs' := [vT (t_.s_), vI (t_.at_), vI (t_.e_), sl Ap04 (t_.sorts_) cp04, sl Ap05 (t_.texts_) cp05]) s 1001 rfl rfl rfl rfl rfl rfl rfl rfl ?_); clear s; intro w hK s; clear hK
  refine asg s rfl rfl fun a s => ?_
  apply wN
  apply wp_ret
  refine p_thenR ?_
  replace s := s.al 9300003 9300003 rfl
  replace s := s.al 9300004 9300004 rfl
  obtain rfl := Option.some.inj hg
  refine fin2 (fn := Tryz.f67) s rfl (r_cell (kk := 1001) (n := 5) (vs := [vT (t_.s_), vI (t_.at_), vI (t_.e_), sl Ap04 (t_.sorts_) cp04, sl Ap05 (t_.texts_) cp05]) s rfl rfl underlying82 rfl rfl rfl rfl) (r_tmp s rfl) ?_
  exact ⟨(Ap04), (cp04), (csp03), (Ap05), (cp05), (csp04), rfl, (by omega), ((s.ren [(9200003, Ob.row (Ap04) ((t_.sorts_).length) (cp04) 9 1 (csp03)), (9200004, Ob.row (Ap05) ((t_.texts_).length) (cp05) 9 1 (csp04))] [9200003, 9200004] ⟨rfl, rfl, trivial⟩ (by decide)).outL ⟨rfl, rfl, trivial⟩ ⟨rfl, rfl, trivial⟩)⟩
 replace hg := br_f hg hc5
 apply wp_skip
 apply pN
 apply wQ
 apply wQ
 obtain ⟨k6, hg, hk6⟩ := jn_some hg
 refine c_post (fun a w => ∃ (t_7 : Bool), k6 t_7 = some r ∧ St (⟨Tryz.f67.ntmps, M, C, w0⟩ : Ctx) [(1, vP b3 0), (2, vP b4 0), (27, .bool (t_7))] [(1000, Ob.box b3 [vT (t_.s_), vI (t_.at_), vI (t_.e_), sl Ap04 (t_.sorts_) cp04, sl Ap05 (t_.texts_) cp05] 82), (1001, Ob.box b4 [vT ([]), vI 0, vI 0, .slice (none) (0) (0), .slice (none) (0) (0)] 82), (9200003, Ob.row (Ap04) ((t_.sorts_).length) (cp04) 9 1 (csp03)), (9200004, Ob.row (Ap05) ((t_.texts_).length) (cp05) 9 1 (csp04))] [(9300003, rdF Rep.str (csp03) (t_.sorts_)), (9300004, rdF Rep.str (csp04) (t_.texts_))] a w) ?_ ?_
 ·rcases Decidable.em ((((t_.s_).length : Nat) : Int) ≤ t_.at_) with hs8 | hs8
  ·have hs8e := decide_eq_true hs8
   replace hg := br_t hg hs8
   apply wL
   refine qq s rfl (y_boxField (o' := 1) s rfl underlying82 rfl rfl rfl) fun a s => ?_
   refine qq s rfl (y_loadBox1 (kk := 1000) s rfl rfl rfl underlying3 rfl) fun a s => ?_
   refine qq s rfl (y_boxField (o' := 0) s rfl underlying82 rfl rfl rfl) fun a s => ?_
   refine qq s rfl (y_loadBox1 (kk := 1000) s rfl rfl rfl underlying9 rfl) fun a s => ?_
   refine qq s rfl (y_lenStrN s rfl underlying9) fun a s => ?_
   refine qq s rfl (yl_b (y_geq s rfl rfl) hs8e) fun a s => ?_
   refine mv s rfl rfl fun a s => ?_
   refine gn s rfl fun a s => ?_
   refine gn s rfl fun a s => ?_
   refine gn s rfl fun a s => ?_
   refine gn s rfl fun a s => ?_
   refine gn s rfl fun a s => ?_
   refine gn s rfl fun a s => ?_
   refine gn s rfl fun a s => ?_
   refine gn s rfl fun a s => ?_
   refine gn s rfl fun a s => ?_
   refine gn s rfl fun a s => ?_
   refine qq s rfl (y_pick_t s rfl rfl) fun a s => ?_
   apply wN
   exact ⟨(true), hg, (s.sb rfl rfl rfl)⟩
  have hs8e := decide_eq_false hs8
  replace hg := br_f hg hs8
  obtain ⟨hk9, hg⟩ := chk_some hg
  obtain ⟨hk10, hg⟩ := chk_some hg
  obtain ⟨hk11, hg⟩ := chk_some hg
  obtain ⟨hk12, hg⟩ := chk_some hg
  obtain ⟨r13, hr13, hg⟩ := bind_some hg
  apply wL
  refine qq s rfl (y_boxField (o' := 1) s rfl underlying82 rfl rfl rfl) fun a s => ?_
  refine qq s rfl (y_loadBox1 (kk := 1000) s rfl rfl rfl underlying3 rfl) fun a s => ?_
  refine qq s rfl (y_boxField (o' := 0) s rfl underlying82 rfl rfl rfl) fun a s => ?_
  refine qq s rfl (y_loadBox1 (kk := 1000) s rfl rfl rfl underlying9 rfl) fun a s => ?_
  refine qq s rfl (y_lenStrN s rfl underlying9) fun a s => ?_
  refine qq s rfl (yl_b (y_geq s rfl rfl) hs8e) fun a s => ?_
  refine mv s rfl rfl fun a s => ?_
  refine gy s rfl (y_boxField (o' := 0) s rfl underlying82 rfl rfl rfl) fun a s => ?_
  refine gy s rfl (y_loadBox1 (kk := 1000) s rfl rfl rfl underlying9 rfl) fun a s => ?_
  refine gy s rfl (y_boxField (o' := 1) s rfl underlying82 rfl rfl rfl) fun a s => ?_
  refine gy s rfl (y_loadBox1 (kk := 1000) s rfl rfl rfl underlying3 rfl) fun a s => ?_
  refine gy s rfl (y_boxField (o' := 1) s rfl underlying82 rfl rfl rfl) fun a s => ?_
  refine gy s rfl (y_loadBox1 (kk := 1000) s rfl rfl rfl underlying3 rfl) fun a s => ?_
  refine gy s rfl (y_add s rfl rfl (in64.2 hk9)) fun a s => ?_
  refine gy s rfl (y_strLH (i := ((t_.at_).toNat)) (j := ((t_.at_ + 1).toNat)) s rfl rfl rfl underlying9 (by omega) (by omega) hk12.1 hk12.2) fun a s => ?_
  refine gl s rfl (l_call (cap := []) s rfl func62 rfl (by kernel_rfl) rfl rfl (c_r39_sorted n _ _ s.lt (((t_.s_).drop ((t_.at_).toNat)).take ((t_.at_ + 1).toNat - ((t_.at_).toNat))) (by first | omega | (rw [List.length_append]; omega) | (simp only [List.length_append]; omega) | (simp only [List.length_append, List.length_take, List.length_drop, List.length_cons, List.length_nil]; omega)) r13 hr13) fun v16 a w hK hp s => ?_)
  obtain rfl := hp
  refine gy s rfl (y_not s rfl) fun a s => ?_
  refine qq s rfl (y_pick_f s rfl rfl) fun a s => ?_
  apply wN
  exact ⟨(!(r13)), hg, (s.sb rfl rfl rfl)⟩
 clear s a; rintro a w ⟨t_7, hg, s⟩
 subst hk6
 refine c_cond s rfl (fun hc18 => ?_) (fun hc18 => ?_)
 ·replace hg := br_t hg hc18
  apply wQ
  obtain ⟨r19, hr19, hg⟩ := bind_some hg
  apply wL
  refine qq s rfl (y_loadAll (kk := 1000) s rfl rfl underlying82 rfl rfl) fun a s => ?_
  have hT := s.pk [(1000, 1000), (1001, 1001), (9200003, 9200003), (9200004, 9200004)] (by decide)
  replace hT := hT.al 9300003 9300003 rfl
  replace hT := hT.al 9300004 9300004 rfl
  refine l_seq rfl (l_callMut (cap := []) hT _ [] (sbA (by rfl)) trivial (by rfl) rfl func71 rfl (by kernel_rfl) rfl rfl (c_r39_fail n _ _ (hT.restLt [1000, 1001]) _ t_ (Ap04) (cp04) (Ap05) (cp05) (csp03) (csp04) (by omega) (hT.wd.lendL _ _ _ (sbA (by rfl)) (keep_sub [1000, 1001]) (by rfl) (sbA (by rfl))) r19 hr19) ?_); intro v22 a' w' hK hp hF
  obtain ⟨Am04u23, cm04u23, csm0_3u23, Am05u23, cm05u23, csm0_4u23, rfl, lm01u23, hWu23⟩ := hp
  have hS2 := St.mk hF (hT.wd.back (sbA (by rfl)) (keep_sub [1000, 1001]) (by rfl) hWu23 (by rfl))
  clear s hT hF hWu23 hK; revert hS2; revert w'; revert a'; intro a w s
  replace s := s.al 103 9300003 rfl
  replace s := s.al 104 9300004 rfl
  replace s := s.ren [(1000, Ob.box b3 [vT (t_.s_), vI (t_.at_), vI (t_.e_), sl Ap04 (t_.sorts_) cp04, sl Ap05 (t_.texts_) cp05] 82), (1001, Ob.box b4 [vT ([]), vI 0, vI 0, .slice (none) (0) (0), .slice (none) (0) (0)] 82), (9200003, Ob.row (Am04u23) ((r19.sorts_).length) (cm04u23) 9 1 (csm0_3u23)), (9200004, Ob.row (Am05u23) ((r19.texts_).length) (cm05u23) 9 1 (csm0_4u23))] [1000, 1001, 9200003, 9200004] ⟨rfl, rfl, rfl, rfl, trivial⟩ (by decide)
  refine l_seq rfl (l_store (n := 5) (cs' := [vT (r19.s_), vI (r19.at_), vI (r19.e_), sl Am04u23 (r19.sorts_) cm04u23, sl Am05u23 (r19.texts_) cm05u23]) s 1001 rfl rfl rfl rfl rfl rfl rfl rfl ?_); clear s; intro w hK s; clear hK
  refine asg s rfl rfl fun a s => ?_
  apply wN
  apply wp_ret
  refine p_thenR ?_
  replace s := s.al 9300003 103 rfl
  replace s := s.al 9300004 104 rfl
  obtain rfl := Option.some.inj hg
  refine fin2 (fn := Tryz.f67) s rfl (r_cell (kk := 1001) (n := 5) (vs := [vT (r19.s_), vI (r19.at_), vI (r19.e_), sl Am04u23 (r19.sorts_) cm04u23, sl Am05u23 (r19.texts_) cm05u23]) s rfl rfl underlying82 rfl rfl rfl rfl) (r_tmp s rfl) ?_
  exact ⟨(Am04u23), (cm04u23), (csm0_3u23), (Am05u23), (cm05u23), (csm0_4u23), rfl, (by omega), ((s.ren [(9200003, Ob.row (Am04u23) ((r19.sorts_).length) (cm04u23) 9 1 (csm0_3u23)), (9200004, Ob.row (Am05u23) ((r19.texts_).length) (cm05u23) 9 1 (csm0_4u23))] [9200003, 9200004] ⟨rfl, rfl, trivial⟩ (by decide)).outL ⟨rfl, rfl, trivial⟩ ⟨rfl, rfl, trivial⟩)⟩
 replace hg := br_n hg hc18
 apply wp_skip
 apply pN
 apply wQ
 obtain ⟨hk24, hg⟩ := chk_some hg
 obtain ⟨hk25, hg⟩ := chk_some hg
 obtain ⟨hk26, hg⟩ := chk_some hg
 obtain ⟨hk27, hg⟩ := chk_some hg
 apply wL
 refine qq s rfl (y_boxField (o' := 0) s rfl underlying82 rfl rfl rfl) fun a s => ?_
 refine qq s rfl (y_loadBox1 (kk := 1000) s rfl rfl rfl underlying9 rfl) fun a s => ?_
 refine qq s rfl (y_boxField (o' := 1) s rfl underlying82 rfl rfl rfl) fun a s => ?_
 refine qq s rfl (y_loadBox1 (kk := 1000) s rfl rfl rfl underlying3 rfl) fun a s => ?_
 refine qq s rfl (y_boxField (o' := 1) s rfl underlying82 rfl rfl rfl) fun a s => ?_
 refine qq s rfl (y_loadBox1 (kk := 1000) s rfl rfl rfl underlying3 rfl) fun a s => ?_
 refine qq s rfl (y_add s rfl rfl (in64.2 hk24)) fun a s => ?_
 refine qq s rfl (y_strLH (i := ((t_.at_).toNat)) (j := ((t_.at_ + 1).toNat)) s rfl rfl rfl underlying9 (by omega) (by omega) hk27.1 hk27.2) fun a s => ?_
 refine asg s rfl rfl fun a s => ?_
 apply wN
 apply wR
 refine qq s rfl (y_boxField (o' := 1) s rfl underlying82 rfl rfl rfl) fun a s => ?_
 refine qq s rfl (y_loadBox1 (kk := 1000) s rfl rfl rfl underlying3 rfl) fun a s => ?_
 refine qq s rfl (y_add s rfl rfl (in64.2 hk24)) fun a s => ?_
 refine qq s rfl (y_boxField (o' := 1) s rfl underlying82 rfl rfl rfl) fun a s => ?_
 refine l_seq rfl (l_store (n := 1) (cs' := [vT (t_.s_), vI (t_.at_ + 1), vI (t_.e_), sl Ap04 (t_.sorts_) cp04, sl Ap05 (t_.texts_) cp05]) s 1000 rfl rfl rfl rfl rfl rfl rfl rfl ?_); clear s; intro w hK s; clear hK
 apply wN
 apply wQ
 apply wQ
 obtain ⟨k28, hg, hk28⟩ := jn_some hg
 refine c_post (fun a w => ∃ (t_29 : Bool), k28 t_29 = some r ∧ St (⟨Tryz.f67.ntmps, M, C, w0⟩ : Ctx) [(1, vP b3 0), (2, vP b4 0), (4, vT (((t_.s_).drop ((t_.at_).toNat)).take ((t_.at_ + 1).toNat - ((t_.at_).toNat)))), (56, .bool (t_29))] [(1000, Ob.box b3 [vT (t_.s_), vI (t_.at_ + 1), vI (t_.e_), sl Ap04 (t_.sorts_) cp04, sl Ap05 (t_.texts_) cp05] 82), (1001, Ob.box b4 [vT ([]), vI 0, vI 0, .slice (none) (0) (0), .slice (none) (0) (0)] 82), (9200003, Ob.row (Ap04) ((t_.sorts_).length) (cp04) 9 1 (csp03)), (9200004, Ob.row (Ap05) ((t_.texts_).length) (cp05) 9 1 (csp04))] [(9300003, rdF Rep.str (csp03) (t_.sorts_)), (9300004, rdF Rep.str (csp04) (t_.texts_))] a w) ?_ ?_
 ·rcases Decidable.em ((((t_.s_).length : Nat) : Int) ≤ (t_.at_ + 1)) with hs30 | hs30
  ·have hs30e := decide_eq_true hs30
   replace hg := br_t hg hs30
   apply wL
   refine qq s rfl (y_boxField (o' := 1) s rfl underlying82 rfl rfl rfl) fun a s => ?_
   refine qq s rfl (y_loadBox1 (kk := 1000) s rfl rfl rfl underlying3 rfl) fun a s => ?_
   refine qq s rfl (y_boxField (o' := 0) s rfl underlying82 rfl rfl rfl) fun a s => ?_
   refine qq s rfl (y_loadBox1 (kk := 1000) s rfl rfl rfl underlying9 rfl) fun a s => ?_
   refine qq s rfl (y_lenStrN s rfl underlying9) fun a s => ?_
   refine qq s rfl (yl_b (y_geq s rfl rfl) hs30e) fun a s => ?_
   refine mv s rfl rfl fun a s => ?_
   refine gn s rfl fun a s => ?_
   refine gn s rfl fun a s => ?_
   refine gn s rfl fun a s => ?_
   refine gn s rfl fun a s => ?_
   refine gn s rfl fun a s => ?_
   refine gn s rfl fun a s => ?_
   refine gn s rfl fun a s => ?_
   refine qq s rfl (y_pick_t s rfl rfl) fun a s => ?_
   apply wN
   exact ⟨(true), hg, (s.sb rfl rfl rfl)⟩
  have hs30e := decide_eq_false hs30
  replace hg := br_f hg hs30
  obtain ⟨c31, hc31, hg⟩ := bind_some hg
  obtain ⟨r32, hr32, hg⟩ := bind_some hg
  apply wL
  refine qq s rfl (y_boxField (o' := 1) s rfl underlying82 rfl rfl rfl) fun a s => ?_
  refine qq s rfl (y_loadBox1 (kk := 1000) s rfl rfl rfl underlying3 rfl) fun a s => ?_
  refine qq s rfl (y_boxField (o' := 0) s rfl underlying82 rfl rfl rfl) fun a s => ?_
  refine qq s rfl (y_loadBox1 (kk := 1000) s rfl rfl rfl underlying9 rfl) fun a s => ?_
  refine qq s rfl (y_lenStrN s rfl underlying9) fun a s => ?_
  refine qq s rfl (yl_b (y_geq s rfl rfl) hs30e) fun a s => ?_
  refine mv s rfl rfl fun a s => ?_
  refine gy s rfl (y_boxField (o' := 0) s rfl underlying82 rfl rfl rfl) fun a s => ?_
  refine gy s rfl (y_loadBox1 (kk := 1000) s rfl rfl rfl underlying9 rfl) fun a s => ?_
  refine gy s rfl (y_boxField (o' := 1) s rfl underlying82 rfl rfl rfl) fun a s => ?_
  refine gy s rfl (y_loadBox1 (kk := 1000) s rfl rfl rfl underlying3 rfl) fun a s => ?_
  refine gy s rfl (y_indexN (i := ((t_.at_ + 1).toNat)) s rfl rfl underlying9 (ix_some hc31).2.1 (ix_some hc31).1) fun a s => ?_
  refine gl s rfl (l_call (cap := []) s rfl func82 rfl (by kernel_rfl) rfl rfl (c_r39_between n _ _ s.lt c31 (48 : UInt8) (57 : UInt8) r32 hr32) fun v35 a w hK hp s => ?_)
  obtain rfl := hp
  refine gy s rfl (y_not s rfl) fun a s => ?_
  refine qq s rfl (y_pick_f s rfl rfl) fun a s => ?_
  apply wN
  exact ⟨(!(r32)), hg, (s.sb rfl rfl rfl)⟩
 clear s a; rintro a w ⟨t_29, hg, s⟩
 subst hk28
 refine c_cond s rfl (fun hc37 => ?_) (fun hc37 => ?_)
 ·replace hg := br_t hg hc37
  apply wQ
  obtain ⟨r38, hr38, hg⟩ := bind_some hg
  apply wL
  refine qq s rfl (y_loadAll (kk := 1000) s rfl rfl underlying82 rfl rfl) fun a s => ?_
  have hT := s.pk [(1000, 1000), (1001, 1001), (9200003, 9200003), (9200004, 9200004)] (by decide)
  replace hT := hT.al 9300003 9300003 rfl
  replace hT := hT.al 9300004 9300004 rfl
  refine l_seq rfl (l_callMut (cap := []) hT _ [] (sbA (by rfl)) trivial (by rfl) rfl func71 rfl (by kernel_rfl) rfl rfl (c_r39_fail n _ _ (hT.restLt [1000, 1001]) _ (reader.mk t_.s_ (t_.at_ + 1) t_.e_ t_.sorts_ t_.texts_) (Ap04) (cp04) (Ap05) (cp05) (csp03) (csp04) (by omega) (hT.wd.lendL _ _ _ (sbA (by rfl)) (keep_sub [1000, 1001]) (by rfl) (sbA (by rfl))) r38 hr38) ?_); intro v41 a' w' hK hp hF
  obtain ⟨Am04u42, cm04u42, csm0_3u42, Am05u42, cm05u42, csm0_4u42, rfl, lm01u42, hWu42⟩ := hp
  have hS2 := St.mk hF (hT.wd.back (sbA (by rfl)) (keep_sub [1000, 1001]) (by rfl) hWu42 (by rfl))
  clear s hT hF hWu42 hK; revert hS2; revert w'; revert a'; intro a w s
  replace s := s.al 107 9300003 rfl
  replace s := s.al 108 9300004 rfl
  replace s := s.ren [(1000, Ob.box b3 [vT (t_.s_), vI (t_.at_ + 1), vI (t_.e_), sl Ap04 (t_.sorts_) cp04, sl Ap05 (t_.texts_) cp05] 82), (1001, Ob.box b4 [vT ([]), vI 0, vI 0, .slice (none) (0) (0), .slice (none) (0) (0)] 82), (9200003, Ob.row (Am04u42) ((r38.sorts_).length) (cm04u42) 9 1 (csm0_3u42)), (9200004, Ob.row (Am05u42) ((r38.texts_).length) (cm05u42) 9 1 (csm0_4u42))] [1000, 1001, 9200003, 9200004] ⟨rfl, rfl, rfl, rfl, trivial⟩ (by decide)
  refine l_seq rfl (l_store (n := 5) (cs' := [vT (r38.s_), vI (r38.at_), vI (r38.e_), sl Am04u42 (r38.sorts_) cm04u42, sl Am05u42 (r38.texts_) cm05u42]) s 1001 rfl rfl rfl rfl rfl rfl rfl rfl ?_); clear s; intro w hK s; clear hK
  refine asg s rfl rfl fun a s => ?_
  apply wN
  apply wp_ret
  refine p_thenR ?_
  replace s := s.al 9300003 107 rfl
  replace s := s.al 9300004 108 rfl
  obtain rfl := Option.some.inj hg
  refine fin2 (fn := Tryz.f67) s rfl (r_cell (kk := 1001) (n := 5) (vs := [vT (r38.s_), vI (r38.at_), vI (r38.e_), sl Am04u42 (r38.sorts_) cm04u42, sl Am05u42 (r38.texts_) cm05u42]) s rfl rfl underlying82 rfl rfl rfl rfl) (r_tmp s rfl) ?_
  exact ⟨(Am04u42), (cm04u42), (csm0_3u42), (Am05u42), (cm05u42), (csm0_4u42), rfl, (by omega), ((s.ren [(9200003, Ob.row (Am04u42) ((r38.sorts_).length) (cm04u42) 9 1 (csm0_3u42)), (9200004, Ob.row (Am05u42) ((r38.texts_).length) (cm05u42) 9 1 (csm0_4u42))] [9200003, 9200004] ⟨rfl, rfl, trivial⟩ (by decide)).outL ⟨rfl, rfl, trivial⟩ ⟨rfl, rfl, trivial⟩)⟩
 replace hg := br_n hg hc37
 apply wp_skip
 apply pN
 apply wR
 refine qq s rfl (y_boxField (o' := 1) s rfl underlying82 rfl rfl rfl) fun a s => ?_
 refine qq s rfl (y_loadBox1 (kk := 1000) s rfl rfl rfl underlying3 rfl) fun a s => ?_
 refine asg s rfl rfl fun a s => ?_
 apply wN
 apply wQ
 obtain ⟨k43, hg, hk43⟩ := jn_some hg
 refine c_post (fun a w => ∃ (b_44 : Int), k43 b_44 = some r ∧ St (⟨Tryz.f67.ntmps, M, C, w0⟩ : Ctx) [(1, vP b3 0), (2, vP b4 0), (4, vT (((t_.s_).drop ((t_.at_).toNat)).take ((t_.at_ + 1).toNat - ((t_.at_).toNat)))), (5, vI (t_.at_ + 1))] [(1000, Ob.box b3 [vT (t_.s_), vI b_44, vI (t_.e_), sl Ap04 (t_.sorts_) cp04, sl Ap05 (t_.texts_) cp05] 82), (1001, Ob.box b4 [vT ([]), vI 0, vI 0, .slice (none) (0) (0), .slice (none) (0) (0)] 82), (9200003, Ob.row (Ap04) ((t_.sorts_).length) (cp04) 9 1 (csp03)), (9200004, Ob.row (Ap05) ((t_.texts_).length) (cp05) 9 1 (csp04))] [(9300003, rdF Rep.str (csp03) (t_.sorts_)), (9300004, rdF Rep.str (csp04) (t_.texts_))] a w) ?_ ?_
 ·apply wp_block
  refine c_loop (σ := Nat) (fun m1 a w => ∃ (b_45 : Int), r39_variableOf_L0 n t_ k43 m1 b_45 = some r ∧ St (⟨Tryz.f67.ntmps, M, C, w0⟩ : Ctx) [(1, vP b3 0), (2, vP b4 0), (4, vT (((t_.s_).drop ((t_.at_).toNat)).take ((t_.at_ + 1).toNat - ((t_.at_).toNat)))), (5, vI (t_.at_ + 1))] [(1000, Ob.box b3 [vT (t_.s_), vI b_45, vI (t_.e_), sl Ap04 (t_.sorts_) cp04, sl Ap05 (t_.texts_) cp05] 82), (1001, Ob.box b4 [vT ([]), vI 0, vI 0, .slice (none) (0) (0), .slice (none) (0) (0)] 82), (9200003, Ob.row (Ap04) ((t_.sorts_).length) (cp04) 9 1 (csp03)), (9200004, Ob.row (Ap05) ((t_.texts_).length) (cp05) 9 1 (csp04))] [(9300003, rdF Rep.str (csp03) (t_.sorts_)), (9300004, rdF Rep.str (csp04) (t_.texts_))] a w) (fun m1 => m1) n ⟨(t_.at_ + 1), hg, (s.sb rfl rfl rfl)⟩ ?_
  clear s a; rintro m1 a w ⟨b_45, hg, s⟩
  rcases m1 with _ | m1
  ·rw [r39_variableOf_L0] at hg; cases hg
  rw [r39_variableOf_L0] at hg
  apply wQ
  apply wQ
  obtain ⟨k46, hg, hk46⟩ := jn_some hg
  refine c_post (fun a w => ∃ (t_47 : Bool), k46 t_47 = some r ∧ St (⟨Tryz.f67.ntmps, M, C, w0⟩ : Ctx) [(1, vP b3 0), (2, vP b4 0), (4, vT (((t_.s_).drop ((t_.at_).toNat)).take ((t_.at_ + 1).toNat - ((t_.at_).toNat)))), (5, vI (t_.at_ + 1)), (87, .bool (t_47))] [(1000, Ob.box b3 [vT (t_.s_), vI b_45, vI (t_.e_), sl Ap04 (t_.sorts_) cp04, sl Ap05 (t_.texts_) cp05] 82), (1001, Ob.box b4 [vT ([]), vI 0, vI 0, .slice (none) (0) (0), .slice (none) (0) (0)] 82), (9200003, Ob.row (Ap04) ((t_.sorts_).length) (cp04) 9 1 (csp03)), (9200004, Ob.row (Ap05) ((t_.texts_).length) (cp05) 9 1 (csp04))] [(9300003, rdF Rep.str (csp03) (t_.sorts_)), (9300004, rdF Rep.str (csp04) (t_.texts_))] a w) ?_ ?_
  ·rcases Decidable.em (b_45 < (((t_.s_).length : Nat) : Int)) with hs48 | hs48
   ·have hs48e := decide_eq_true hs48
    replace hg := br_t hg hs48
    obtain ⟨c49, hc49, hg⟩ := bind_some hg
    obtain ⟨r50, hr50, hg⟩ := bind_some hg
    rcases Bool.eq_false_or_eq_true (r50) with hs53 | hs53
    ·replace hg := br_t hg hs53
     rcases Decidable.em (b_45 = (t_.at_ + 1)) with hs54 | hs54
     ·have hs54e := decide_eq_true hs54
      replace hg := br_t hg hs54
      apply wL
      refine qq s rfl (y_boxField (o' := 1) s rfl underlying82 rfl rfl rfl) fun a s => ?_
      refine qq s rfl (y_loadBox1 (kk := 1000) s rfl rfl rfl underlying3 rfl) fun a s => ?_
      refine qq s rfl (y_boxField (o' := 0) s rfl underlying82 rfl rfl rfl) fun a s => ?_
      refine qq s rfl (y_loadBox1 (kk := 1000) s rfl rfl rfl underlying9 rfl) fun a s => ?_
      refine qq s rfl (y_lenStrN s rfl underlying9) fun a s => ?_
      refine qq s rfl (yl_b (y_lss s rfl rfl) hs48e) fun a s => ?_
      refine mv s rfl rfl fun a s => ?_
      refine gy s rfl (y_boxField (o' := 0) s rfl underlying82 rfl rfl rfl) fun a s => ?_
      refine gy s rfl (y_loadBox1 (kk := 1000) s rfl rfl rfl underlying9 rfl) fun a s => ?_
      refine gy s rfl (y_boxField (o' := 1) s rfl underlying82 rfl rfl rfl) fun a s => ?_
      refine gy s rfl (y_loadBox1 (kk := 1000) s rfl rfl rfl underlying3 rfl) fun a s => ?_
      refine gy s rfl (y_indexN (i := ((b_45).toNat)) s rfl rfl underlying9 (ix_some hc49).2.1 (ix_some hc49).1) fun a s => ?_
      refine gl s rfl (l_call (cap := []) s rfl func82 rfl (by kernel_rfl) rfl rfl (c_r39_between n _ _ s.lt c49 (48 : UInt8) (57 : UInt8) r50 hr50) fun v55 a w hK hp s => ?_)
      obtain rfl := hp.trans (congrArg Value.bool hs53)
      refine qq s rfl (y_pick_t s rfl rfl) fun a s => ?_
      refine mv s rfl rfl fun a s => ?_
      refine gy s rfl (y_boxField (o' := 1) s rfl underlying82 rfl rfl rfl) fun a s => ?_
      refine gy s rfl (y_loadBox1 (kk := 1000) s rfl rfl rfl underlying3 rfl) fun a s => ?_
      refine gm s rfl rfl fun a s => ?_
      refine gy s rfl (yl_b (y_eql s rfl rfl) hs54e) fun a s => ?_
      refine gm s rfl rfl fun a s => ?_
      refine gn s rfl fun a s => ?_
      refine gn s rfl fun a s => ?_
      refine gn s rfl fun a s => ?_
      refine gn s rfl fun a s => ?_
      refine gn s rfl fun a s => ?_
      refine gy s rfl (y_pick_t s rfl rfl) fun a s => ?_
      refine qq s rfl (y_pick_t s rfl rfl) fun a s => ?_
      apply wN
      exact ⟨(true), hg, (s.sb rfl rfl rfl)⟩
     have hs54e := decide_eq_false hs54
     replace hg := br_f hg hs54
     obtain ⟨c57, hc57, hg⟩ := bind_some hg
     apply wL
     refine qq s rfl (y_boxField (o' := 1) s rfl underlying82 rfl rfl rfl) fun a s => ?_
     refine qq s rfl (y_loadBox1 (kk := 1000) s rfl rfl rfl underlying3 rfl) fun a s => ?_
     refine qq s rfl (y_boxField (o' := 0) s rfl underlying82 rfl rfl rfl) fun a s => ?_
     refine qq s rfl (y_loadBox1 (kk := 1000) s rfl rfl rfl underlying9 rfl) fun a s => ?_
     refine qq s rfl (y_lenStrN s rfl underlying9) fun a s => ?_
     refine qq s rfl (yl_b (y_lss s rfl rfl) hs48e) fun a s => ?_
     refine mv s rfl rfl fun a s => ?_
     refine gy s rfl (y_boxField (o' := 0) s rfl underlying82 rfl rfl rfl) fun a s => ?_
     refine gy s rfl (y_loadBox1 (kk := 1000) s rfl rfl rfl underlying9 rfl) fun a s => ?_
     refine gy s rfl (y_boxField (o' := 1) s rfl underlying82 rfl rfl rfl) fun a s => ?_
     refine gy s rfl (y_loadBox1 (kk := 1000) s rfl rfl rfl underlying3 rfl) fun a s => ?_
     refine gy s rfl (y_indexN (i := ((b_45).toNat)) s rfl rfl underlying9 (ix_some hc49).2.1 (ix_some hc49).1) fun a s => ?_
     refine gl s rfl (l_call (cap := []) s rfl func82 rfl (by kernel_rfl) rfl rfl (c_r39_between n _ _ s.lt c49 (48 : UInt8) (57 : UInt8) r50 hr50) fun v58 a w hK hp s => ?_)
     obtain rfl := hp.trans (congrArg Value.bool hs53)
     refine qq s rfl (y_pick_t s rfl rfl) fun a s => ?_
     refine mv s rfl rfl fun a s => ?_
     refine gy s rfl (y_boxField (o' := 1) s rfl underlying82 rfl rfl rfl) fun a s => ?_
     refine gy s rfl (y_loadBox1 (kk := 1000) s rfl rfl rfl underlying3 rfl) fun a s => ?_
     refine gm s rfl rfl fun a s => ?_
     refine gy s rfl (yl_b (y_eql s rfl rfl) hs54e) fun a s => ?_
     refine gm s rfl rfl fun a s => ?_
     refine gy s rfl (y_boxField (o' := 0) s rfl underlying82 rfl rfl rfl) fun a s => ?_
     refine gy s rfl (y_loadBox1 (kk := 1000) s rfl rfl rfl underlying9 rfl) fun a s => ?_
     refine gm s rfl rfl fun a s => ?_
     refine gy s rfl (y_indexN (i := ((t_.at_ + 1).toNat)) s rfl rfl underlying9 (ix_some hc57).2.1 (ix_some hc57).1) fun a s => ?_
     refine gy s rfl (y_neqN (i := c57.toNat) (j := 48) s rfl rfl) fun a s => ?_
     refine gy s rfl (y_pick_f s rfl rfl) fun a s => ?_
     refine qq s rfl (y_pick_t s rfl rfl) fun a s => ?_
     apply wN
     exact ⟨(decide (c57.toNat ≠ 48)), hg, (s.sb rfl rfl rfl)⟩
    replace hg := br_n hg hs53
    apply wL
    refine qq s rfl (y_boxField (o' := 1) s rfl underlying82 rfl rfl rfl) fun a s => ?_
    refine qq s rfl (y_loadBox1 (kk := 1000) s rfl rfl rfl underlying3 rfl) fun a s => ?_
    refine qq s rfl (y_boxField (o' := 0) s rfl underlying82 rfl rfl rfl) fun a s => ?_
    refine qq s rfl (y_loadBox1 (kk := 1000) s rfl rfl rfl underlying9 rfl) fun a s => ?_
    refine qq s rfl (y_lenStrN s rfl underlying9) fun a s => ?_
    refine qq s rfl (yl_b (y_lss s rfl rfl) hs48e) fun a s => ?_
    refine mv s rfl rfl fun a s => ?_
    refine gy s rfl (y_boxField (o' := 0) s rfl underlying82 rfl rfl rfl) fun a s => ?_
    refine gy s rfl (y_loadBox1 (kk := 1000) s rfl rfl rfl underlying9 rfl) fun a s => ?_
    refine gy s rfl (y_boxField (o' := 1) s rfl underlying82 rfl rfl rfl) fun a s => ?_
    refine gy s rfl (y_loadBox1 (kk := 1000) s rfl rfl rfl underlying3 rfl) fun a s => ?_
    refine gy s rfl (y_indexN (i := ((b_45).toNat)) s rfl rfl underlying9 (ix_some hc49).2.1 (ix_some hc49).1) fun a s => ?_
    refine gl s rfl (l_call (cap := []) s rfl func82 rfl (by kernel_rfl) rfl rfl (c_r39_between n _ _ s.lt c49 (48 : UInt8) (57 : UInt8) r50 hr50) fun v60 a w hK hp s => ?_)
    obtain rfl := hp.trans (congrArg Value.bool hs53)
    refine qq s rfl (y_pick_t s rfl rfl) fun a s => ?_
    refine mv s rfl rfl fun a s => ?_
    refine gn s rfl fun a s => ?_
    refine gn s rfl fun a s => ?_
    refine gn s rfl fun a s => ?_
    refine gn s rfl fun a s => ?_
    refine gn s rfl fun a s => ?_
    refine gn s rfl fun a s => ?_
    refine gn s rfl fun a s => ?_
    refine gn s rfl fun a s => ?_
    refine gn s rfl fun a s => ?_
    refine gn s rfl fun a s => ?_
    refine gn s rfl fun a s => ?_
    refine qq s rfl (y_pick_f s rfl rfl) fun a s => ?_
    apply wN
    exact ⟨(false), hg, (s.sb rfl rfl rfl)⟩
   have hs48e := decide_eq_false hs48
   replace hg := br_f hg hs48
   apply wL
   refine qq s rfl (y_boxField (o' := 1) s rfl underlying82 rfl rfl rfl) fun a s => ?_
   refine qq s rfl (y_loadBox1 (kk := 1000) s rfl rfl rfl underlying3 rfl) fun a s => ?_
   refine qq s rfl (y_boxField (o' := 0) s rfl underlying82 rfl rfl rfl) fun a s => ?_
   refine qq s rfl (y_loadBox1 (kk := 1000) s rfl rfl rfl underlying9 rfl) fun a s => ?_
   refine qq s rfl (y_lenStrN s rfl underlying9) fun a s => ?_
   refine qq s rfl (yl_b (y_lss s rfl rfl) hs48e) fun a s => ?_
   refine mv s rfl rfl fun a s => ?_
   refine gn s rfl fun a s => ?_
   refine gn s rfl fun a s => ?_
   refine gn s rfl fun a s => ?_
   refine gn s rfl fun a s => ?_
   refine gn s rfl fun a s => ?_
   refine gn s rfl fun a s => ?_
   refine qq s rfl (y_pick_f s rfl rfl) fun a s => ?_
   refine mv s rfl rfl fun a s => ?_
   refine gn s rfl fun a s => ?_
   refine gn s rfl fun a s => ?_
   refine gn s rfl fun a s => ?_
   refine gn s rfl fun a s => ?_
   refine gn s rfl fun a s => ?_
   refine gn s rfl fun a s => ?_
   refine gn s rfl fun a s => ?_
   refine gn s rfl fun a s => ?_
   refine gn s rfl fun a s => ?_
   refine gn s rfl fun a s => ?_
   refine gn s rfl fun a s => ?_
   refine qq s rfl (y_pick_f s rfl rfl) fun a s => ?_
   apply wN
   exact ⟨(false), hg, (s.sb rfl rfl rfl)⟩
  clear s a; rintro a w ⟨t_47, hg, s⟩
  subst hk46
  refine c_cond s rfl (fun hc62 => ?_) (fun hc62 => ?_)
  ·replace hg := br_t hg hc62
   apply wp_skip
   apply pN
   apply wp_block
   obtain ⟨hk63, hg⟩ := chk_some hg
   apply wL
   refine qq s rfl (y_boxField (o' := 1) s rfl underlying82 rfl rfl rfl) fun a s => ?_
   refine qq s rfl (y_loadBox1 (kk := 1000) s rfl rfl rfl underlying3 rfl) fun a s => ?_
   refine qq s rfl (y_add s rfl rfl (in64.2 hk63)) fun a s => ?_
   refine qq s rfl (y_boxField (o' := 1) s rfl underlying82 rfl rfl rfl) fun a s => ?_
   refine l_seq rfl (l_store (n := 1) (cs' := [vT (t_.s_), vI (b_45 + 1), vI (t_.e_), sl Ap04 (t_.sorts_) cp04, sl Ap05 (t_.texts_) cp05]) s 1000 rfl rfl rfl rfl rfl rfl rfl rfl ?_); clear s; intro w hK s; clear hK
   apply wO
   refine p_inN ?_
   apply pN
   exact ⟨m1, Nat.lt_succ_self _, ⟨(b_45 + 1), hg, (s.sb rfl rfl rfl)⟩⟩
  replace hg := br_n hg hc62
  apply wp_exit
  refine p_then ?_
  refine p_then ?_
  refine p_in ?_
  apply pN
  exact ⟨(b_45), hg, (s.sb rfl rfl rfl)⟩
 clear s a; rintro a w ⟨b_44, hg, s⟩
 subst hk43
 apply wQ
 obtain ⟨hk65, hg⟩ := chk_some hg
 apply wL
 refine qq s rfl (y_boxField (o' := 3) s rfl underlying82 rfl rfl rfl) fun a s => ?_
 refine qq s rfl (y_loadBox1 (kk := 1000) s rfl rfl rfl underlying22 rfl) fun a s => ?_
 refine mv s rfl rfl fun a s => ?_
 refine l_seq rfl (l_buildDense (sz := 1) s 2203 rfl rfl rfl underlying22 rfl rfl rfl rfl rfl rfl rfl fun b68 a w hbb68 hK s => ?_)
 clear hbb68
 replace s := s.add 111 (rdF Rep.str (cellsOfL [vT (((t_.s_).drop ((t_.at_).toNat)).take ((t_.at_ + 1).toNat - ((t_.at_).toNat)))]) ([((t_.s_).drop ((t_.at_).toNat)).take ((t_.at_ + 1).toNat - ((t_.at_).toNat))])) (RdAll.cons (by exact ⟨rfl, (by first | omega | (rw [List.length_append]; omega) | (simp only [List.length_append]; omega) | (simp only [List.length_append, List.length_take, List.length_drop, List.length_cons, List.length_nil]; omega))⟩) (RdAll.nil _ _ _))
 have hs70 := row_src (s.wd.holds 2203 _ rfl) (RdAll.one (s.ft 111 rfl))
 refine l_seq rfl (l_append (sz := 1) (by_ := 16) (N := (t_.sorts_ ++ [((t_.s_).drop ((t_.at_).toNat)).take ((t_.at_ + 1).toNat - ((t_.at_).toNat))]).length) (ys := csp03 ++ (cellsOfL [vT (((t_.s_).drop ((t_.at_).toNat)).take ((t_.at_ + 1).toNat - ((t_.at_).toNat)))])) s 9200003 rfl rfl rfl underlying22 rfl rfl rfl rfl rfl hs70 (by simp) rfl (by have hr := hk65; clear hg; first | omega | (simp only [List.length_append, List.length_cons, List.length_nil] at hr ⊢; omega) | (simp at hr ⊢; omega)) (by have hr := hk65; clear hg; first | omega | (simp only [List.length_append, List.length_cons, List.length_nil] at hr ⊢; omega) | (simp at hr ⊢; omega)) rfl fun Aq69 cq69 a w hA hK s => ?_)
 replace s := s.add 112 (rdF Rep.str (csp03 ++ (cellsOfL [vT (((t_.s_).drop ((t_.at_).toNat)).take ((t_.at_ + 1).toNat - ((t_.at_).toNat)))])) (t_.sorts_ ++ [((t_.s_).drop ((t_.at_).toNat)).take ((t_.at_ + 1).toNat - ((t_.at_).toNat))])) (RdAll.append (s.ft 9300003 rfl) (s.ft 111 rfl))
 refine qq s rfl (y_boxField (o' := 3) s rfl underlying82 rfl rfl rfl) fun a s => ?_
 refine l_seq rfl (l_store (n := 1) (cs' := [vT (t_.s_), vI b_44, vI (t_.e_), sl Aq69 (t_.sorts_ ++ [((t_.s_).drop ((t_.at_).toNat)).take ((t_.at_ + 1).toNat - ((t_.at_).toNat))]) cq69, sl Ap05 (t_.texts_) cp05]) s 1000 rfl rfl rfl rfl rfl rfl rfl rfl ?_); clear s; intro w hK s; clear hK
 apply wN
 apply wQ
 obtain ⟨hk71, hg⟩ := chk_some hg
 obtain ⟨hk72, hg⟩ := chk_some hg
 obtain ⟨hk74, hg⟩ := chk_some hg
 refine d_plan s [(9, 9200004), (11, 1000)] [(0, some 0), (1, some 1000), (2, some 0), (3, some 1000), (4, some 0), (5, some 0), (6, some 1000), (7, some 0), (8, none), (9, none), (10, none), (11, none)] rfl (by kernel_rfl) (by kernel_rfl) rfl ?_; clear s; intro wr hZ s; have hR := s.wd
 refine qt s hR rfl (y_boxField (o' := 4) s rfl underlying82 rfl rfl rfl) fun a s => ?_
 refine qt s hR rfl (y_loadBox1 (kk := 1000) s rfl rfl rfl underlying22 rfl) fun a s => ?_
 refine qt s hR rfl (y_boxField (o' := 0) s rfl underlying82 rfl rfl rfl) fun a s => ?_
 refine qt s hR rfl (y_loadBox1 (kk := 1000) s rfl rfl rfl underlying9 rfl) fun a s => ?_
 refine qt s hR rfl (y_move s rfl) fun a s => ?_
 refine qt s hR rfl (y_boxField (o' := 1) s rfl underlying82 rfl rfl rfl) fun a s => ?_
 refine qt s hR rfl (y_loadBox1 (kk := 1000) s rfl rfl rfl underlying3 rfl) fun a s => ?_
 refine qt s hR rfl (y_strLH (i := ((t_.at_ + 1).toNat)) (j := ((b_44).toNat)) s rfl rfl rfl underlying9 (by omega) (by omega) hk72.1 hk72.2) fun a s => ?_
 refine l_take s rfl rfl (l_buildDense (sz := 1) s 2308 rfl rfl rfl underlying22 rfl rfl rfl rfl rfl rfl rfl fun b77 a w hbb77 hK s => ?_)
 have hNb77 := NewA.lit hZ hbb77
 clear hbb77
 replace hZ := Nat.le_trans hZ hK.size; refine ⟨fun g _ h => h.grow hK, ?_⟩; clear hK
 replace s := s.add 115 (rdF Rep.str (cellsOfL [vT (((t_.s_).drop ((t_.at_ + 1).toNat)).take ((b_44).toNat - ((t_.at_ + 1).toNat)))]) ([((t_.s_).drop ((t_.at_ + 1).toNat)).take ((b_44).toNat - ((t_.at_ + 1).toNat))])) (RdAll.cons (by exact ⟨rfl, (by first | omega | (rw [List.length_append]; omega) | (simp only [List.length_append]; omega) | (simp only [List.length_append, List.length_take, List.length_drop, List.length_cons, List.length_nil]; omega))⟩) (RdAll.nil _ _ _))
 have hs79 := row_src (s.wd.holds 2308 _ rfl) (RdAll.one (s.ft 115 rfl))
 refine l_take s rfl rfl (l_append (sz := 1) (by_ := 16) (N := (t_.texts_ ++ [((t_.s_).drop ((t_.at_ + 1).toNat)).take ((b_44).toNat - ((t_.at_ + 1).toNat))]).length) (ys := csp04 ++ (cellsOfL [vT (((t_.s_).drop ((t_.at_ + 1).toNat)).take ((b_44).toNat - ((t_.at_ + 1).toNat)))])) s 9200004 rfl rfl rfl underlying22 rfl rfl rfl rfl rfl hs79 (by simp) rfl (by have hr := hk74; clear hg; first | omega | (simp only [List.length_append, List.length_cons, List.length_nil] at hr ⊢; omega) | (simp at hr ⊢; omega)) (by have hr := hk74; clear hg; first | omega | (simp only [List.length_append, List.length_cons, List.length_nil] at hr ⊢; omega) | (simp at hr ⊢; omega)) rfl fun Aq78 cq78 a w hA hK s => ?_)
 replace hZ := Nat.le_trans hZ hK.size; refine ⟨fun g hg h => h.obj hR (kk := 9200004) rfl hK (by rintro rfl; exact absurd hg (by decide)), ?_⟩
 replace s := s.add 116 (rdF Rep.str (csp04 ++ (cellsOfL [vT (((t_.s_).drop ((t_.at_ + 1).toNat)).take ((b_44).toNat - ((t_.at_ + 1).toNat)))])) (t_.texts_ ++ [((t_.s_).drop ((t_.at_ + 1).toNat)).take ((b_44).toNat - ((t_.at_ + 1).toNat))])) (RdAll.append (s.ft 9300004 rfl) (s.ft 115 rfl))
 refine l_take s rfl rfl (l_quiet s rfl rfl (y_boxField (o' := 4) s rfl underlying82 rfl rfl rfl) fun a s => ?_); refine ⟨fun g _ h => h, ?_⟩
 refine l_take s rfl rfl (l_store (n := 1) (cs' := [vT (t_.s_), vI b_44, vI (t_.e_), sl Aq69 (t_.sorts_ ++ [((t_.s_).drop ((t_.at_).toNat)).take ((t_.at_ + 1).toNat - ((t_.at_).toNat))]) cq69, sl Aq78 (t_.texts_ ++ [((t_.s_).drop ((t_.at_ + 1).toNat)).take ((b_44).toNat - ((t_.at_ + 1).toNat))]) cq78]) s 1000 rfl rfl rfl rfl rfl rfl rfl rfl ?_); clear s; intro w hK s; replace hZ := Nat.le_trans hZ hK.size
 refine ⟨fun g hg h => h.obj hR (kk := 1000) rfl hK (by rintro rfl; exact absurd hg (by decide)), ?_⟩; clear hK
 clear hR hZ
 apply pN
 apply wQ
 refine d_plan s [(5, 1001)] [(0, some 1000), (1, some 0), (2, some 1000), (3, some 0), (4, some 0), (5, none), (6, none)] rfl (by kernel_rfl) (by kernel_rfl) rfl ?_; clear s; intro wr hZ s; have hR := s.wd
 refine qt s hR rfl (y_loadAll (kk := 1000) s rfl rfl underlying82 rfl rfl) fun a s => ?_
 refine qt s hR rfl (y_boxField (o' := 4) s rfl underlying82 rfl rfl rfl) fun a s => ?_
 refine qt s hR rfl (y_loadBox1 (kk := 1000) s rfl rfl rfl underlying22 rfl) fun a s => ?_
 refine qt s hR rfl (y_lenSlice s rfl underlying22) fun a s => ?_
 have hmx80 := row_mx (s.wd.holds 9200004 _ rfl)
 refine qt s hR rfl (y_sub s rfl rfl (in64.2 (by omega))) fun a s => ?_
 refine l_take s rfl rfl (l_store (n := 5) (cs' := [vT (t_.s_), vI b_44, vI (t_.e_), sl Aq69 (t_.sorts_ ++ [((t_.s_).drop ((t_.at_).toNat)).take ((t_.at_ + 1).toNat - ((t_.at_).toNat))]) cq69, sl Aq78 (t_.texts_ ++ [((t_.s_).drop ((t_.at_ + 1).toNat)).take ((b_44).toNat - ((t_.at_ + 1).toNat))]) cq78]) s 1001 rfl rfl rfl rfl rfl rfl rfl rfl ?_); clear s; intro w hK s; replace hZ := Nat.le_trans hZ hK.size
 refine ⟨fun g hg h => h.obj hR (kk := 1001) rfl hK (by rintro rfl; exact absurd hg (by decide)), ?_⟩; clear hK
 refine l_take s rfl rfl (l_quiet s rfl rfl (y_assign s rfl) fun a s => ?_); refine ⟨fun g _ h => h, ?_⟩
 clear hR hZ
 apply pN
 apply wp_ret
 replace s := s.add 9300003 (rdF Rep.str (csp03 ++ (cellsOfL [vT (((t_.s_).drop ((t_.at_).toNat)).take ((t_.at_ + 1).toNat - ((t_.at_).toNat)))])) (t_.sorts_ ++ [((t_.s_).drop ((t_.at_).toNat)).take ((t_.at_ + 1).toNat - ((t_.at_).toNat))])) (s.ft 112 rfl)
 replace s := s.add 9300004 (rdF Rep.str (csp04 ++ (cellsOfL [vT (((t_.s_).drop ((t_.at_ + 1).toNat)).take ((b_44).toNat - ((t_.at_ + 1).toNat)))])) (t_.texts_ ++ [((t_.s_).drop ((t_.at_ + 1).toNat)).take ((b_44).toNat - ((t_.at_ + 1).toNat))])) (s.ft 116 rfl)
 obtain rfl := Option.some.inj hg
 refine fin2 (fn := Tryz.f67) s rfl (r_cell (kk := 1001) (n := 5) (vs := [vT (t_.s_), vI b_44, vI (t_.e_), sl Aq69 (t_.sorts_ ++ [((t_.s_).drop ((t_.at_).toNat)).take ((t_.at_ + 1).toNat - ((t_.at_).toNat))]) cq69, sl Aq78 (t_.texts_ ++ [((t_.s_).drop ((t_.at_ + 1).toNat)).take ((b_44).toNat - ((t_.at_ + 1).toNat))]) cq78]) s rfl rfl underlying82 rfl rfl rfl rfl) (r_tmp s rfl) ?_
 exact ⟨(Aq69), (cq69), (csp03 ++ (cellsOfL [vT (((t_.s_).drop ((t_.at_).toNat)).take ((t_.at_ + 1).toNat - ((t_.at_).toNat)))])), (Aq78), (cq78), (csp04 ++ (cellsOfL [vT (((t_.s_).drop ((t_.at_ + 1).toNat)).take ((b_44).toNat - ((t_.at_ + 1).toNat)))])), rfl, (by omega), ((s.ren [(9200003, Ob.row (Aq69) ((t_.sorts_ ++ [((t_.s_).drop ((t_.at_).toNat)).take ((t_.at_ + 1).toNat - ((t_.at_).toNat))]).length) (cq69) 9 1 (csp03 ++ (cellsOfL [vT (((t_.s_).drop ((t_.at_).toNat)).take ((t_.at_ + 1).toNat - ((t_.at_).toNat)))]))), (9200004, Ob.row (Aq78) ((t_.texts_ ++ [((t_.s_).drop ((t_.at_ + 1).toNat)).take ((b_44).toNat - ((t_.at_ + 1).toNat))]).length) (cq78) 9 1 (csp04 ++ (cellsOfL [vT (((t_.s_).drop ((t_.at_ + 1).toNat)).take ((b_44).toNat - ((t_.at_ + 1).toNat)))])))] [9200003, 9200004] ⟨rfl, rfl, trivial⟩ (by decide)).outL ⟨rfl, rfl, trivial⟩ ⟨rfl, rfl, trivial⟩)⟩
set_option maxHeartbeats 400000 in
theorem c_r39_word (n : Nat) (M : Bs) (w0 : World) (hM : ∀ b, M b → b < w0.heap.size) (C : Bs) (r_ : reader) (Ap04 : Option Addr) (cp04 : Nat) (Ap05 : Option Addr) (cp05 : Nat) (csp03 : List Value) (csp04 : List Value) (lp01 : (r_.s_).length ≤ 9223372036854775807) (w_ : (List UInt8)) (lp11 : (w_).length ≤ 9223372036854775807) (hW : Wd ⟨0, M, C, w0⟩ [(9200003, Ob.row (Ap04) ((r_.sorts_).length) (cp04) 9 1 (csp03)), (9200004, Ob.row (Ap05) ((r_.texts_).length) (cp05) 9 1 (csp04))] [(9300003, rdF Rep.str (csp03) (r_.sorts_)), (9300004, rdF Rep.str (csp04) (r_.texts_))] w0) (r : reader) (hg : r39_word n r_ w_ = some r) :
    Calls Tryz.prog 68 [.agg #[.string (bs (r_.s_)), .int .i64 (r_.at_), .int .i64 (r_.e_), .slice (Ap04) ((r_.sorts_).length) (cp04), .slice (Ap05) ((r_.texts_).length) (cp05)], .string (bs (w_))].toArray w0 (Ret C w0 fun v w => ∃ (Am04 : Option Addr), ∃ (cm04 : Nat), ∃ (csm0_3 : List Value), ∃ (Am05 : Option Addr), ∃ (cm05 : Nat), ∃ (csm0_4 : List Value), v = .agg #[.string (bs (r.s_)), .int .i64 (r.at_), .int .i64 (r.e_), .slice (Am04) ((r.sorts_).length) (cm04), .slice (Am05) ((r.texts_).length) (cm05)] ∧ ((r.s_).length ≤ 9223372036854775807) ∧ (Wd ⟨0, M, C, w0⟩ [(9200003, Ob.row (Am04) ((r.sorts_).length) (cm04) 9 1 (csm0_3)), (9200004, Ob.row (Am05) ((r.texts_).length) (cm05) 9 1 (csm0_4))] [(9300003, rdF Rep.str (csm0_3) (r.sorts_)), (9300004, rdF Rep.str (csm0_4) (r.texts_))] w)) := by
 unfold r39_word at hg
 refine enterL M C func68 rfl rfl hW ?_
 intro a s
 apply wR
 refine l_seq rfl (l_box (zs := [vT (r_.s_), vI (r_.at_), vI (r_.e_), sl Ap04 (r_.sorts_) cp04, sl Ap05 (r_.texts_) cp05]) s 1000 rfl rfl rfl rfl fun b3 a w hb hK s => ?_)
 refine l_seq rfl (l_alloc (zs := [vT ([]), vI 0, vI 0, .slice (none) (0) (0), .slice (none) (0) (0)]) s 1001 rfl rfl rfl rfl fun b4 a w hb hK s => ?_)
 apply wN
 apply wQ
 apply wR
 refine asg s rfl rfl fun a s => ?_
 apply wN
 obtain ⟨k5, hg, hk5⟩ := jn_some hg
 refine c_post (fun a w => ∃ (r_6 : Int), k5 r_6 = some r ∧ St (⟨Tryz.f68.ntmps, M, C, w0⟩ : Ctx) [(2, vP b3 0), (4, vP b4 0)] [(1000, Ob.box b3 [vT (r_.s_), vI r_6, vI (r_.e_), sl Ap04 (r_.sorts_) cp04, sl Ap05 (r_.texts_) cp05] 82), (1001, Ob.box b4 [vT ([]), vI 0, vI 0, .slice (none) (0) (0), .slice (none) (0) (0)] 82), (9200003, Ob.row (Ap04) ((r_.sorts_).length) (cp04) 9 1 (csp03)), (9200004, Ob.row (Ap05) ((r_.texts_).length) (cp05) 9 1 (csp04))] [(9300003, rdF Rep.str (csp03) (r_.sorts_)), (9300004, rdF Rep.str (csp04) (r_.texts_))] a w) ?_ ?_
 ·apply wp_block
  refine c_loop (σ := Nat) (fun m1 a w => ∃ (i_7 : Nat) (r_8 : Int), r39_word_L0 n r_ w_ k5 m1 i_7 r_8 = some r ∧ St (⟨Tryz.f68.ntmps, M, C, w0⟩ : Ctx) [(1, vT w_), (2, vP b3 0), (4, vP b4 0), (5, vI (((i_7 : Nat) : Int)))] [(1000, Ob.box b3 [vT (r_.s_), vI r_8, vI (r_.e_), sl Ap04 (r_.sorts_) cp04, sl Ap05 (r_.texts_) cp05] 82), (1001, Ob.box b4 [vT ([]), vI 0, vI 0, .slice (none) (0) (0), .slice (none) (0) (0)] 82), (9200003, Ob.row (Ap04) ((r_.sorts_).length) (cp04) 9 1 (csp03)), (9200004, Ob.row (Ap05) ((r_.texts_).length) (cp05) 9 1 (csp04))] [(9300003, rdF Rep.str (csp03) (r_.sorts_)), (9300004, rdF Rep.str (csp04) (r_.texts_))] a w) (fun m1 => m1) n ⟨(0), (r_.at_), hg, (s.sb rfl rfl rfl)⟩ ?_
  clear s a; rintro m1 a w ⟨i_7, r_8, hg, s⟩
  rcases m1 with _ | m1
  ·rw [r39_word_L0] at hg; cases hg
  rw [r39_word_L0] at hg
  apply wQ
  apply wQ
  obtain ⟨k9, hg, hk9⟩ := jn_some hg
  refine c_post (fun a w => ∃ (t_10 : Bool), k9 t_10 = some r ∧ St (⟨Tryz.f68.ntmps, M, C, w0⟩ : Ctx) [(1, vT w_), (2, vP b3 0), (4, vP b4 0), (5, vI (((i_7 : Nat) : Int))), (14, .bool (t_10))] [(1000, Ob.box b3 [vT (r_.s_), vI r_8, vI (r_.e_), sl Ap04 (r_.sorts_) cp04, sl Ap05 (r_.texts_) cp05] 82), (1001, Ob.box b4 [vT ([]), vI 0, vI 0, .slice (none) (0) (0), .slice (none) (0) (0)] 82), (9200003, Ob.row (Ap04) ((r_.sorts_).length) (cp04) 9 1 (csp03)), (9200004, Ob.row (Ap05) ((r_.texts_).length) (cp05) 9 1 (csp04))] [(9300003, rdF Rep.str (csp03) (r_.sorts_)), (9300004, rdF Rep.str (csp04) (r_.texts_))] a w) ?_ ?_
  ·rcases Decidable.em (i_7 < ((w_).length)) with hs11 | hs11
   ·have hs11e := decide_eq_true hs11
    replace hg := br_t hg hs11
    apply wL
    refine mv s rfl rfl fun a s => ?_
    refine mv s rfl rfl fun a s => ?_
    refine qq s rfl (y_lenStrN s rfl underlying9) fun a s => ?_
    refine qq s rfl (yl_b (y_lssN (i := i_7) (j := ((w_).length)) s rfl rfl) hs11e) fun a s => ?_
    refine mv s rfl rfl fun a s => ?_
    refine gy s rfl (y_boxField (o' := 2) s rfl underlying82 rfl rfl rfl) fun a s => ?_
    refine gy s rfl (y_loadBox1 (kk := 1000) s rfl rfl rfl underlying36 rfl) fun a s => ?_
    refine gy s rfl (y_eql s rfl rfl) fun a s => ?_
    refine qq s rfl (y_pick_t s rfl rfl) fun a s => ?_
    apply wN
    exact ⟨(decide (r_.e_ = 0)), hg, (s.sb rfl rfl rfl)⟩
   have hs11e := decide_eq_false hs11
   replace hg := br_f hg hs11
   apply wL
   refine mv s rfl rfl fun a s => ?_
   refine mv s rfl rfl fun a s => ?_
   refine qq s rfl (y_lenStrN s rfl underlying9) fun a s => ?_
   refine qq s rfl (yl_b (y_lssN (i := i_7) (j := ((w_).length)) s rfl rfl) hs11e) fun a s => ?_
   refine mv s rfl rfl fun a s => ?_
   refine gn s rfl fun a s => ?_
   refine gn s rfl fun a s => ?_
   refine gn s rfl fun a s => ?_
   refine qq s rfl (y_pick_f s rfl rfl) fun a s => ?_
   apply wN
   exact ⟨(false), hg, (s.sb rfl rfl rfl)⟩
  clear s a; rintro a w ⟨t_10, hg, s⟩
  subst hk9
  refine c_cond s rfl (fun hc12 => ?_) (fun hc12 => ?_)
  ·replace hg := br_t hg hc12
   apply wp_skip
   apply pN
   apply wQ
   apply wp_block
   apply wQ
   apply wQ
   obtain ⟨k13, hg, hk13⟩ := jn_some hg
   refine c_post (fun a w => ∃ (t_14 : Bool), k13 t_14 = some r ∧ St (⟨Tryz.f68.ntmps, M, C, w0⟩ : Ctx) [(1, vT w_), (2, vP b3 0), (4, vP b4 0), (5, vI (((i_7 : Nat) : Int))), (33, .bool (t_14))] [(1000, Ob.box b3 [vT (r_.s_), vI r_8, vI (r_.e_), sl Ap04 (r_.sorts_) cp04, sl Ap05 (r_.texts_) cp05] 82), (1001, Ob.box b4 [vT ([]), vI 0, vI 0, .slice (none) (0) (0), .slice (none) (0) (0)] 82), (9200003, Ob.row (Ap04) ((r_.sorts_).length) (cp04) 9 1 (csp03)), (9200004, Ob.row (Ap05) ((r_.texts_).length) (cp05) 9 1 (csp04))] [(9300003, rdF Rep.str (csp03) (r_.sorts_)), (9300004, rdF Rep.str (csp04) (r_.texts_))] a w) ?_ ?_
   ·rcases Decidable.em ((((r_.s_).length : Nat) : Int) ≤ r_8) with hs15 | hs15
    ·have hs15e := decide_eq_true hs15
     replace hg := br_t hg hs15
     refine d_plan s [] [(0, some 0), (1, some 1000), (2, some 0), (3, some 1000), (4, some 0), (5, some 0), (6, some 0), (7, some 0), (8, some 0), (9, some 0), (10, some 0), (11, some 0), (12, some 0), (13, some 0), (14, some 0), (15, some 0), (16, some 0)] rfl (by kernel_rfl) (by kernel_rfl) rfl ?_; clear s; intro wr hZ s; have hR := s.wd
     refine qt s hR rfl (y_boxField (o' := 1) s rfl underlying82 rfl rfl rfl) fun a s => ?_
     refine qt s hR rfl (y_loadBox1 (kk := 1000) s rfl rfl rfl underlying3 rfl) fun a s => ?_
     refine qt s hR rfl (y_boxField (o' := 0) s rfl underlying82 rfl rfl rfl) fun a s => ?_
     refine qt s hR rfl (y_loadBox1 (kk := 1000) s rfl rfl rfl underlying9 rfl) fun a s => ?_
     refine qt s hR rfl (y_lenStrN s rfl underlying9) fun a s => ?_
     refine qt s hR rfl (yl_b (y_geq s rfl rfl) hs15e) fun a s => ?_
     refine qt s hR rfl (y_move s rfl) fun a s => ?_
     refine q_pass s hR rfl rfl ⟨_, _, _, rfl, rfl, rfl, rfl⟩ rfl fun a s => ?_
     refine q_pass s hR rfl rfl ⟨_, _, _, rfl, rfl, rfl, rfl⟩ rfl fun a s => ?_
     refine q_pass s hR rfl rfl ⟨_, _, _, rfl, rfl, rfl, rfl⟩ rfl fun a s => ?_
     refine q_pass s hR rfl rfl ⟨_, _, _, rfl, rfl, rfl, rfl⟩ rfl fun a s => ?_
     refine q_pass s hR rfl rfl ⟨_, _, _, rfl, rfl, rfl, rfl⟩ rfl fun a s => ?_
     refine q_pass s hR rfl rfl ⟨_, _, _, rfl, rfl, rfl, rfl⟩ rfl fun a s => ?_
     refine q_pass s hR rfl rfl ⟨_, _, _, rfl, rfl, rfl, rfl⟩ rfl fun a s => ?_
     refine q_pass s hR rfl rfl ⟨_, _, _, rfl, rfl, rfl, rfl⟩ rfl fun a s => ?_
     refine q_pass s hR rfl rfl ⟨_, _, _, rfl, rfl, rfl, rfl⟩ rfl fun a s => ?_
     refine qt s hR rfl (y_pick_t s rfl rfl) fun a s => ?_
     clear hR hZ
     apply pN
     exact ⟨(true), hg, (s.sb rfl rfl rfl)⟩
    have hs15e := decide_eq_false hs15
    replace hg := br_f hg hs15
    obtain ⟨c16, hc16, hg⟩ := bind_some hg
    obtain ⟨c17, hc17, hg⟩ := bind_some hg
    refine d_plan s [] [(0, some 0), (1, some 1000), (2, some 0), (3, some 1000), (4, some 0), (5, some 0), (6, some 0), (7, some 0), (8, some 1000), (9, some 0), (10, some 1000), (11, some 0), (12, some 0), (13, some 0), (14, some 0), (15, some 0), (16, some 0)] rfl (by kernel_rfl) (by kernel_rfl) rfl ?_; clear s; intro wr hZ s; have hR := s.wd
    refine qt s hR rfl (y_boxField (o' := 1) s rfl underlying82 rfl rfl rfl) fun a s => ?_
    refine qt s hR rfl (y_loadBox1 (kk := 1000) s rfl rfl rfl underlying3 rfl) fun a s => ?_
    refine qt s hR rfl (y_boxField (o' := 0) s rfl underlying82 rfl rfl rfl) fun a s => ?_
    refine qt s hR rfl (y_loadBox1 (kk := 1000) s rfl rfl rfl underlying9 rfl) fun a s => ?_
    refine qt s hR rfl (y_lenStrN s rfl underlying9) fun a s => ?_
    refine qt s hR rfl (yl_b (y_geq s rfl rfl) hs15e) fun a s => ?_
    refine qt s hR rfl (y_move s rfl) fun a s => ?_
    refine qg s hR rfl (y_boxField (o' := 0) s rfl underlying82 rfl rfl rfl) fun a s => ?_
    refine qg s hR rfl (y_loadBox1 (kk := 1000) s rfl rfl rfl underlying9 rfl) fun a s => ?_
    refine qg s hR rfl (y_boxField (o' := 1) s rfl underlying82 rfl rfl rfl) fun a s => ?_
    refine qg s hR rfl (y_loadBox1 (kk := 1000) s rfl rfl rfl underlying3 rfl) fun a s => ?_
    refine qg s hR rfl (y_indexN (i := ((r_8).toNat)) s rfl rfl underlying9 (ix_some hc16).2.1 (ix_some hc16).1) fun a s => ?_
    refine qg s hR rfl (y_move s rfl) fun a s => ?_
    refine qg s hR rfl (y_move s rfl) fun a s => ?_
    refine qg s hR rfl (y_indexN (i := i_7) s rfl rfl underlying9 rfl hc17) fun a s => ?_
    refine qg s hR rfl (y_neqN (i := c16.toNat) (j := c17.toNat) s rfl rfl) fun a s => ?_
    refine qt s hR rfl (y_pick_f s rfl rfl) fun a s => ?_
    clear hR hZ
    apply pN
    exact ⟨(decide (c16.toNat ≠ c17.toNat)), hg, (s.sb rfl rfl rfl)⟩
   clear s a; rintro a w ⟨t_14, hg, s⟩
   subst hk13
   refine c_cond s rfl (fun hc18 => ?_) (fun hc18 => ?_)
   ·replace hg := br_t hg hc18
    apply wQ
    obtain ⟨r19, hr19, hg⟩ := bind_some hg
    apply wL
    refine qq s rfl (y_loadAll (kk := 1000) s rfl rfl underlying82 rfl rfl) fun a s => ?_
    have hT := s.pk [(1000, 1000), (1001, 1001), (9200003, 9200003), (9200004, 9200004)] (by decide)
    replace hT := hT.al 9300003 9300003 rfl
    replace hT := hT.al 9300004 9300004 rfl
    refine l_seq rfl (l_callMut (cap := []) hT _ [] (sbA (by rfl)) trivial (by rfl) rfl func71 rfl (by kernel_rfl) rfl rfl (c_r39_fail n _ _ (hT.restLt [1000, 1001]) _ (reader.mk r_.s_ r_8 r_.e_ r_.sorts_ r_.texts_) (Ap04) (cp04) (Ap05) (cp05) (csp03) (csp04) (by omega) (hT.wd.lendL _ _ _ (sbA (by rfl)) (keep_sub [1000, 1001]) (by rfl) (sbA (by rfl))) r19 hr19) ?_); intro v22 a' w' hK hp hF
    obtain ⟨Am04u23, cm04u23, csm0_3u23, Am05u23, cm05u23, csm0_4u23, rfl, lm01u23, hWu23⟩ := hp
    have hS2 := St.mk hF (hT.wd.back (sbA (by rfl)) (keep_sub [1000, 1001]) (by rfl) hWu23 (by rfl))
    clear s hT hF hWu23 hK; revert hS2; revert w'; revert a'; intro a w s
    replace s := s.al 103 9300003 rfl
    replace s := s.al 104 9300004 rfl
    replace s := s.ren [(1000, Ob.box b3 [vT (r_.s_), vI r_8, vI (r_.e_), sl Ap04 (r_.sorts_) cp04, sl Ap05 (r_.texts_) cp05] 82), (1001, Ob.box b4 [vT ([]), vI 0, vI 0, .slice (none) (0) (0), .slice (none) (0) (0)] 82), (9200003, Ob.row (Am04u23) ((r19.sorts_).length) (cm04u23) 9 1 (csm0_3u23)), (9200004, Ob.row (Am05u23) ((r19.texts_).length) (cm05u23) 9 1 (csm0_4u23))] [1000, 1001, 9200003, 9200004] ⟨rfl, rfl, rfl, rfl, trivial⟩ (by decide)
    refine l_seq rfl (l_store (n := 5) (cs' := [vT (r19.s_), vI (r19.at_), vI (r19.e_), sl Am04u23 (r19.sorts_) cm04u23, sl Am05u23 (r19.texts_) cm05u23]) s 1001 rfl rfl rfl rfl rfl rfl rfl rfl ?_); clear s; intro w hK s; clear hK
    apply wN
    apply wp_ret
    refine p_thenR ?_
    refine p_inR ?_
    refine p_thenR ?_
    refine p_thenR ?_
    refine p_inR ?_
    refine p_thenR ?_
    replace s := s.al 9300003 103 rfl
    replace s := s.al 9300004 104 rfl
    obtain rfl := Option.some.inj hg
    refine fin1 (fn := Tryz.f68) s rfl (r_cell (kk := 1001) (n := 5) (vs := [vT (r19.s_), vI (r19.at_), vI (r19.e_), sl Am04u23 (r19.sorts_) cm04u23, sl Am05u23 (r19.texts_) cm05u23]) s rfl rfl underlying82 rfl rfl rfl rfl) ?_
    exact ⟨(Am04u23), (cm04u23), (csm0_3u23), (Am05u23), (cm05u23), (csm0_4u23), rfl, (by omega), ((s.ren [(9200003, Ob.row (Am04u23) ((r19.sorts_).length) (cm04u23) 9 1 (csm0_3u23)), (9200004, Ob.row (Am05u23) ((r19.texts_).length) (cm05u23) 9 1 (csm0_4u23))] [9200003, 9200004] ⟨rfl, rfl, trivial⟩ (by decide)).outL ⟨rfl, rfl, trivial⟩ ⟨rfl, rfl, trivial⟩)⟩
   replace hg := br_n hg hc18
   apply wp_skip
   apply pN
   obtain ⟨hk24, hg⟩ := chk_some hg
   apply wL
   refine qq s rfl (y_boxField (o' := 1) s rfl underlying82 rfl rfl rfl) fun a s => ?_
   refine qq s rfl (y_loadBox1 (kk := 1000) s rfl rfl rfl underlying3 rfl) fun a s => ?_
   refine qq s rfl (y_add s rfl rfl (in64.2 hk24)) fun a s => ?_
   refine qq s rfl (y_boxField (o' := 1) s rfl underlying82 rfl rfl rfl) fun a s => ?_
   refine l_seq rfl (l_store (n := 1) (cs' := [vT (r_.s_), vI (r_8 + 1), vI (r_.e_), sl Ap04 (r_.sorts_) cp04, sl Ap05 (r_.texts_) cp05]) s 1000 rfl rfl rfl rfl rfl rfl rfl rfl ?_); clear s; intro w hK s; clear hK
   apply wO
   refine p_inN ?_
   apply pN
   obtain ⟨hk25, hg⟩ := chk_some hg
   apply wL
   refine mv s rfl rfl fun a s => ?_
   refine qq s rfl (y_addN (i := i_7) (j := 1) s rfl rfl (in64.2 (by omega))) fun a s => ?_
   refine asg s rfl rfl fun a s => ?_
   apply wN
   exact ⟨m1, Nat.lt_succ_self _, ⟨(i_7 + 1), (r_8 + 1), hg, (s.sb rfl rfl rfl)⟩⟩
  replace hg := br_n hg hc12
  apply wp_exit
  refine p_then ?_
  refine p_then ?_
  refine p_in ?_
  apply pN
  exact ⟨(r_8), hg, (s.sb rfl rfl rfl)⟩
 clear s a; rintro a w ⟨r_6, hg, s⟩
 subst hk5
 apply wR
 refine qq s rfl (y_loadAll (kk := 1000) s rfl rfl underlying82 rfl rfl) fun a s => ?_
 refine l_seq rfl (l_store (n := 5) (cs' := [vT (r_.s_), vI r_6, vI (r_.e_), sl Ap04 (r_.sorts_) cp04, sl Ap05 (r_.texts_) cp05]) s 1001 rfl rfl rfl rfl rfl rfl rfl rfl ?_); clear s; intro w hK s; clear hK
 apply wN
 apply wp_ret
 replace s := s.al 9300003 9300003 rfl
 replace s := s.al 9300004 9300004 rfl
 obtain rfl := Option.some.inj hg
 refine fin1 (fn := Tryz.f68) s rfl (r_cell (kk := 1001) (n := 5) (vs := [vT (r_.s_), vI r_6, vI (r_.e_), sl Ap04 (r_.sorts_) cp04, sl Ap05 (r_.texts_) cp05]) s rfl rfl underlying82 rfl rfl rfl rfl) ?_
 exact ⟨(Ap04), (cp04), (csp03), (Ap05), (cp05), (csp04), rfl, (by omega), ((s.ren [(9200003, Ob.row (Ap04) ((r_.sorts_).length) (cp04) 9 1 (csp03)), (9200004, Ob.row (Ap05) ((r_.texts_).length) (cp05) 9 1 (csp04))] [9200003, 9200004] ⟨rfl, rfl, trivial⟩ (by decide)).outL ⟨rfl, rfl, trivial⟩ ⟨rfl, rfl, trivial⟩)⟩
set_option maxHeartbeats 400000 in
theorem c_r39_next (n : Nat) (M : Bs) (w0 : World) (hM : ∀ b, M b → b < w0.heap.size) (r_ : reader) (Ap04 : Option Addr) (cp04 : Nat) (Ap05 : Option Addr) (cp05 : Nat) (lp01 : (r_.s_).length ≤ 9223372036854775807) (hp04 : SlR Rep.str M w0 Ap04 (r_.sorts_).length cp04 (r_.sorts_)) (hp05 : SlR Rep.str M w0 Ap05 (r_.texts_).length cp05 (r_.texts_)) (c_ : UInt8) (r : Bool) (hg : r39_next n r_ c_ = some r) :
    Calls Tryz.prog 83 [.agg #[.string (bs (r_.s_)), .int .i64 (r_.at_), .int .i64 (r_.e_), .slice (Ap04) ((r_.sorts_).length) (cp04), .slice (Ap05) ((r_.texts_).length) (cp05)], .int .u8 (((c_.toNat : Nat) : Int))].toArray w0 (Ret noB w0 fun v w => v = .bool (r)) := by
 unfold r39_next at hg
 refine enter M noB func83 rfl rfl hM ?_
 intro a s
 replace s := s.es 101 hp04
 replace s := s.es 102 hp05
 apply wR
 refine l_seq rfl (l_box (zs := [vT (r_.s_), vI (r_.at_), vI (r_.e_), sl Ap04 (r_.sorts_) cp04, sl Ap05 (r_.texts_) cp05]) s 1000 rfl rfl rfl rfl fun b2 a w hb hK s => ?_)
 refine asg s rfl rfl fun a s => ?_
 apply wN
 apply wQ
 rcases Decidable.em (r_.e_ = 0) with hs3 | hs3
 ·have hs3e := decide_eq_true hs3
  replace hg := br_t hg hs3
  rcases Decidable.em (r_.at_ < (((r_.s_).length : Nat) : Int)) with hs4 | hs4
  ·have hs4e := decide_eq_true hs4
   replace hg := br_t hg hs4
   obtain ⟨c5, hc5, hg⟩ := bind_some hg
   apply wL
   refine qq s rfl (y_boxField (o' := 2) s rfl underlying82 rfl rfl rfl) fun a s => ?_
   refine qq s rfl (y_loadBox1 (kk := 1000) s rfl rfl rfl underlying36 rfl) fun a s => ?_
   refine qq s rfl (yl_b (y_eql s rfl rfl) hs3e) fun a s => ?_
   refine mv s rfl rfl fun a s => ?_
   refine gy s rfl (y_boxField (o' := 1) s rfl underlying82 rfl rfl rfl) fun a s => ?_
   refine gy s rfl (y_loadBox1 (kk := 1000) s rfl rfl rfl underlying3 rfl) fun a s => ?_
   refine gy s rfl (y_boxField (o' := 0) s rfl underlying82 rfl rfl rfl) fun a s => ?_
   refine gy s rfl (y_loadBox1 (kk := 1000) s rfl rfl rfl underlying9 rfl) fun a s => ?_
   refine gy s rfl (y_lenStrN s rfl underlying9) fun a s => ?_
   refine gy s rfl (yl_b (y_lss s rfl rfl) hs4e) fun a s => ?_
   refine qq s rfl (y_pick_t s rfl rfl) fun a s => ?_
   refine mv s rfl rfl fun a s => ?_
   refine gy s rfl (y_boxField (o' := 0) s rfl underlying82 rfl rfl rfl) fun a s => ?_
   refine gy s rfl (y_loadBox1 (kk := 1000) s rfl rfl rfl underlying9 rfl) fun a s => ?_
   refine gy s rfl (y_boxField (o' := 1) s rfl underlying82 rfl rfl rfl) fun a s => ?_
   refine gy s rfl (y_loadBox1 (kk := 1000) s rfl rfl rfl underlying3 rfl) fun a s => ?_
   refine gy s rfl (y_indexN (i := ((r_.at_).toNat)) s rfl rfl underlying9 (ix_some hc5).2.1 (ix_some hc5).1) fun a s => ?_
   refine gm s rfl rfl fun a s => ?_
   refine gy s rfl (y_eqlN (i := c5.toNat) (j := c_.toNat) s rfl rfl) fun a s => ?_
   refine qq s rfl (y_pick_t s rfl rfl) fun a s => ?_
   refine asg s rfl rfl fun a s => ?_
   apply wN
   apply wp_ret
   obtain rfl := Option.some.inj hg
   refine fin1 (fn := Tryz.f83) s rfl (r_tmp s rfl) ?_
   exact rfl
  have hs4e := decide_eq_false hs4
  replace hg := br_f hg hs4
  apply wL
  refine qq s rfl (y_boxField (o' := 2) s rfl underlying82 rfl rfl rfl) fun a s => ?_
  refine qq s rfl (y_loadBox1 (kk := 1000) s rfl rfl rfl underlying36 rfl) fun a s => ?_
  refine qq s rfl (yl_b (y_eql s rfl rfl) hs3e) fun a s => ?_
  refine mv s rfl rfl fun a s => ?_
  refine gy s rfl (y_boxField (o' := 1) s rfl underlying82 rfl rfl rfl) fun a s => ?_
  refine gy s rfl (y_loadBox1 (kk := 1000) s rfl rfl rfl underlying3 rfl) fun a s => ?_
  refine gy s rfl (y_boxField (o' := 0) s rfl underlying82 rfl rfl rfl) fun a s => ?_
  refine gy s rfl (y_loadBox1 (kk := 1000) s rfl rfl rfl underlying9 rfl) fun a s => ?_
  refine gy s rfl (y_lenStrN s rfl underlying9) fun a s => ?_
  refine gy s rfl (yl_b (y_lss s rfl rfl) hs4e) fun a s => ?_
  refine qq s rfl (y_pick_t s rfl rfl) fun a s => ?_
  refine mv s rfl rfl fun a s => ?_
  refine gn s rfl fun a s => ?_
  refine gn s rfl fun a s => ?_
  refine gn s rfl fun a s => ?_
  refine gn s rfl fun a s => ?_
  refine gn s rfl fun a s => ?_
  refine gn s rfl fun a s => ?_
  refine gn s rfl fun a s => ?_
  refine qq s rfl (y_pick_f s rfl rfl) fun a s => ?_
  refine asg s rfl rfl fun a s => ?_
  apply wN
  apply wp_ret
  obtain rfl := Option.some.inj hg
  refine fin1 (fn := Tryz.f83) s rfl (r_tmp s rfl) ?_
  exact rfl
 have hs3e := decide_eq_false hs3
 replace hg := br_f hg hs3
 apply wL
 refine qq s rfl (y_boxField (o' := 2) s rfl underlying82 rfl rfl rfl) fun a s => ?_
 refine qq s rfl (y_loadBox1 (kk := 1000) s rfl rfl rfl underlying36 rfl) fun a s => ?_
 refine qq s rfl (yl_b (y_eql s rfl rfl) hs3e) fun a s => ?_
 refine mv s rfl rfl fun a s => ?_
 refine gn s rfl fun a s => ?_
 refine gn s rfl fun a s => ?_
 refine gn s rfl fun a s => ?_
 refine gn s rfl fun a s => ?_
 refine gn s rfl fun a s => ?_
 refine gn s rfl fun a s => ?_
 refine qq s rfl (y_pick_f s rfl rfl) fun a s => ?_
 refine mv s rfl rfl fun a s => ?_
 refine gn s rfl fun a s => ?_
 refine gn s rfl fun a s => ?_
 refine gn s rfl fun a s => ?_
 refine gn s rfl fun a s => ?_
 refine gn s rfl fun a s => ?_
 refine gn s rfl fun a s => ?_
 refine gn s rfl fun a s => ?_
 refine qq s rfl (y_pick_f s rfl rfl) fun a s => ?_
 refine asg s rfl rfl fun a s => ?_
 apply wN
 apply wp_ret
 obtain rfl := Option.some.inj hg
 refine fin1 (fn := Tryz.f83) s rfl (r_tmp s rfl) ?_
 exact rfl
set_option maxHeartbeats 400000 in
theorem c_r39_run (n : Nat) (M : Bs) (w0 : World) (hM : ∀ b, M b → b < w0.heap.size) (C : Bs) (t_ : reader) (Ap04 : Option Addr) (cp04 : Nat) (Ap05 : Option Addr) (cp05 : Nat) (csp03 : List Value) (csp04 : List Value) (lp01 : (t_.s_).length ≤ 9223372036854775807) (t_' : UInt8) (t_'' : UInt8) (hW : Wd ⟨0, M, C, w0⟩ [(9200003, Ob.row (Ap04) ((t_.sorts_).length) (cp04) 9 1 (csp03)), (9200004, Ob.row (Ap05) ((t_.texts_).length) (cp05) 9 1 (csp04))] [(9300003, rdF Rep.str (csp03) (t_.sorts_)), (9300004, rdF Rep.str (csp04) (t_.texts_))] w0) (r : (reader × (List UInt8))) (hg : r39_run n t_ t_' t_'' = some r) :
    Calls Tryz.prog 84 [.agg #[.string (bs (t_.s_)), .int .i64 (t_.at_), .int .i64 (t_.e_), .slice (Ap04) ((t_.sorts_).length) (cp04), .slice (Ap05) ((t_.texts_).length) (cp05)], .int .u8 (((t_'.toNat : Nat) : Int)), .int .u8 (((t_''.toNat : Nat) : Int))].toArray w0 (Ret C w0 fun v w => ∃ (Am04 : Option Addr), ∃ (cm04 : Nat), ∃ (csm0_3 : List Value), ∃ (Am05 : Option Addr), ∃ (cm05 : Nat), ∃ (csm0_4 : List Value), v = .tuple #[.agg #[.string (bs (r.1.s_)), .int .i64 (r.1.at_), .int .i64 (r.1.e_), .slice (Am04) ((r.1.sorts_).length) (cm04), .slice (Am05) ((r.1.texts_).length) (cm05)], .string (bs (r.2))] ∧ ((r.1.s_).length ≤ 9223372036854775807) ∧ ((r.2).length ≤ 9223372036854775807) ∧ (Wd ⟨0, M, C, w0⟩ [(9200003, Ob.row (Am04) ((r.1.sorts_).length) (cm04) 9 1 (csm0_3)), (9200004, Ob.row (Am05) ((r.1.texts_).length) (cm05) 9 1 (csm0_4))] [(9300003, rdF Rep.str (csm0_3) (r.1.sorts_)), (9300004, rdF Rep.str (csm0_4) (r.1.texts_))] w)) := by
 unfold r39_run at hg
 refine enterL M C func84 rfl rfl hW ?_
 intro a s
 apply wR
 refine l_seq rfl (l_box (zs := [vT (t_.s_), vI (t_.at_), vI (t_.e_), sl Ap04 (t_.sorts_) cp04, sl Ap05 (t_.texts_) cp05]) s 1000 rfl rfl rfl rfl fun b3 a w hb hK s => ?_)
 refine l_seq rfl (l_alloc (zs := [vT ([]), vI 0, vI 0, .slice (none) (0) (0), .slice (none) (0) (0)]) s 1001 rfl rfl rfl rfl fun b4 a w hb hK s => ?_)
 refine asg s rfl rfl fun a s => ?_
 apply wN
 apply wQ
 apply wR
 refine qq s rfl (y_boxField (o' := 2) s rfl underlying82 rfl rfl rfl) fun a s => ?_
 refine qq s rfl (y_loadBox1 (kk := 1000) s rfl rfl rfl underlying36 rfl) fun a s => ?_
 refine qq s rfl (y_neq s rfl rfl) fun a s => ?_
 apply wN
 refine c_dec s rfl (fun hc5 => ?_) (fun hc5 => ?_)
 ·replace hg := br_t hg hc5
  apply wR
  refine qq s rfl (y_loadAll (kk := 1000) s rfl rfl underlying82 rfl rfl) fun a s => ?_
  refine l_seq rfl (l_store (n := 5) (cs' := [vT (t_.s_), vI (t_.at_), vI (t_.e_), sl Ap04 (t_.sorts_) cp04, sl Ap05 (t_.texts_) cp05]) s 1001 rfl rfl rfl rfl rfl rfl rfl rfl ?_); clear s; intro w hK s; clear hK
  refine asg s rfl rfl fun a s => ?_
  apply wN
  apply wp_ret
  refine p_thenR ?_
  replace s := s.al 9300003 9300003 rfl
  replace s := s.al 9300004 9300004 rfl
  obtain rfl := Option.some.inj hg
  refine fin2 (fn := Tryz.f84) s rfl (r_cell (kk := 1001) (n := 5) (vs := [vT (t_.s_), vI (t_.at_), vI (t_.e_), sl Ap04 (t_.sorts_) cp04, sl Ap05 (t_.texts_) cp05]) s rfl rfl underlying82 rfl rfl rfl rfl) (r_tmp s rfl) ?_
  exact ⟨(Ap04), (cp04), (csp03), (Ap05), (cp05), (csp04), rfl, (by omega), (by first | omega | (rw [List.length_append]; omega) | (simp only [List.length_append]; omega) | (simp only [List.length_append, List.length_take, List.length_drop, List.length_cons, List.length_nil]; omega)), ((s.ren [(9200003, Ob.row (Ap04) ((t_.sorts_).length) (cp04) 9 1 (csp03)), (9200004, Ob.row (Ap05) ((t_.texts_).length) (cp05) 9 1 (csp04))] [9200003, 9200004] ⟨rfl, rfl, trivial⟩ (by decide)).outL ⟨rfl, rfl, trivial⟩ ⟨rfl, rfl, trivial⟩)⟩
 replace hg := br_f hg hc5
 apply wp_skip
 apply pN
 apply wQ
 apply wQ
 obtain ⟨k6, hg, hk6⟩ := jn_some hg
 refine c_post (fun a w => ∃ (t_7 : Bool), k6 t_7 = some r ∧ St (⟨Tryz.f84.ntmps, M, C, w0⟩ : Ctx) [(1, .int .u8 (((t_'.toNat : Nat) : Int))), (2, .int .u8 (((t_''.toNat : Nat) : Int))), (3, vP b3 0), (6, vP b4 0), (29, .bool (t_7))] [(1000, Ob.box b3 [vT (t_.s_), vI (t_.at_), vI (t_.e_), sl Ap04 (t_.sorts_) cp04, sl Ap05 (t_.texts_) cp05] 82), (1001, Ob.box b4 [vT ([]), vI 0, vI 0, .slice (none) (0) (0), .slice (none) (0) (0)] 82), (9200003, Ob.row (Ap04) ((t_.sorts_).length) (cp04) 9 1 (csp03)), (9200004, Ob.row (Ap05) ((t_.texts_).length) (cp05) 9 1 (csp04))] [(9300003, rdF Rep.str (csp03) (t_.sorts_)), (9300004, rdF Rep.str (csp04) (t_.texts_))] a w) ?_ ?_
 ·rcases Decidable.em ((((t_.s_).length : Nat) : Int) ≤ t_.at_) with hs8 | hs8
  ·have hs8e := decide_eq_true hs8
   replace hg := br_t hg hs8
   apply wL
   refine qq s rfl (y_boxField (o' := 1) s rfl underlying82 rfl rfl rfl) fun a s => ?_
   refine qq s rfl (y_loadBox1 (kk := 1000) s rfl rfl rfl underlying3 rfl) fun a s => ?_
   refine qq s rfl (y_boxField (o' := 0) s rfl underlying82 rfl rfl rfl) fun a s => ?_
   refine qq s rfl (y_loadBox1 (kk := 1000) s rfl rfl rfl underlying9 rfl) fun a s => ?_
   refine qq s rfl (y_lenStrN s rfl underlying9) fun a s => ?_
   refine qq s rfl (yl_b (y_geq s rfl rfl) hs8e) fun a s => ?_
   refine mv s rfl rfl fun a s => ?_
   refine gn s rfl fun a s => ?_
   refine gn s rfl fun a s => ?_
   refine gn s rfl fun a s => ?_
   refine gn s rfl fun a s => ?_
   refine gn s rfl fun a s => ?_
   refine gn s rfl fun a s => ?_
   refine gn s rfl fun a s => ?_
   refine gn s rfl fun a s => ?_
   refine gn s rfl fun a s => ?_
   refine qq s rfl (y_pick_t s rfl rfl) fun a s => ?_
   apply wN
   exact ⟨(true), hg, (s.sb rfl rfl rfl)⟩
  have hs8e := decide_eq_false hs8
  replace hg := br_f hg hs8
  obtain ⟨c9, hc9, hg⟩ := bind_some hg
  obtain ⟨r10, hr10, hg⟩ := bind_some hg
  apply wL
  refine qq s rfl (y_boxField (o' := 1) s rfl underlying82 rfl rfl rfl) fun a s => ?_
  refine qq s rfl (y_loadBox1 (kk := 1000) s rfl rfl rfl underlying3 rfl) fun a s => ?_
  refine qq s rfl (y_boxField (o' := 0) s rfl underlying82 rfl rfl rfl) fun a s => ?_
  refine qq s rfl (y_loadBox1 (kk := 1000) s rfl rfl rfl underlying9 rfl) fun a s => ?_
  refine qq s rfl (y_lenStrN s rfl underlying9) fun a s => ?_
  refine qq s rfl (yl_b (y_geq s rfl rfl) hs8e) fun a s => ?_
  refine mv s rfl rfl fun a s => ?_
  refine gy s rfl (y_boxField (o' := 0) s rfl underlying82 rfl rfl rfl) fun a s => ?_
  refine gy s rfl (y_loadBox1 (kk := 1000) s rfl rfl rfl underlying9 rfl) fun a s => ?_
  refine gy s rfl (y_boxField (o' := 1) s rfl underlying82 rfl rfl rfl) fun a s => ?_
  refine gy s rfl (y_loadBox1 (kk := 1000) s rfl rfl rfl underlying3 rfl) fun a s => ?_
  refine gy s rfl (y_indexN (i := ((t_.at_).toNat)) s rfl rfl underlying9 (ix_some hc9).2.1 (ix_some hc9).1) fun a s => ?_
  refine gm s rfl rfl fun a s => ?_
  refine gm s rfl rfl fun a s => ?_
  refine gl s rfl (l_call (cap := []) s rfl func82 rfl (by kernel_rfl) rfl rfl (c_r39_between n _ _ s.lt c9 t_' t_'' r10 hr10) fun v13 a w hK hp s => ?_)
  obtain rfl := hp
  refine gy s rfl (y_not s rfl) fun a s => ?_
  refine qq s rfl (y_pick_f s rfl rfl) fun a s => ?_
  apply wN
  exact ⟨(!(r10)), hg, (s.sb rfl rfl rfl)⟩
 clear s a; rintro a w ⟨t_7, hg, s⟩
 subst hk6
 refine c_cond s rfl (fun hc15 => ?_) (fun hc15 => ?_)
 ·replace hg := br_t hg hc15
  apply wQ
  obtain ⟨r16, hr16, hg⟩ := bind_some hg
  apply wL
  refine qq s rfl (y_loadAll (kk := 1000) s rfl rfl underlying82 rfl rfl) fun a s => ?_
  have hT := s.pk [(1000, 1000), (1001, 1001), (9200003, 9200003), (9200004, 9200004)] (by decide)
  replace hT := hT.al 9300003 9300003 rfl
  replace hT := hT.al 9300004 9300004 rfl
  refine l_seq rfl (l_callMut (cap := []) hT _ [] (sbA (by rfl)) trivial (by rfl) rfl func71 rfl (by kernel_rfl) rfl rfl (c_r39_fail n _ _ (hT.restLt [1000, 1001]) _ t_ (Ap04) (cp04) (Ap05) (cp05) (csp03) (csp04) (by omega) (hT.wd.lendL _ _ _ (sbA (by rfl)) (keep_sub [1000, 1001]) (by rfl) (sbA (by rfl))) r16 hr16) ?_); intro v19 a' w' hK hp hF
  obtain ⟨Am04u20, cm04u20, csm0_3u20, Am05u20, cm05u20, csm0_4u20, rfl, lm01u20, hWu20⟩ := hp
  have hS2 := St.mk hF (hT.wd.back (sbA (by rfl)) (keep_sub [1000, 1001]) (by rfl) hWu20 (by rfl))
  clear s hT hF hWu20 hK; revert hS2; revert w'; revert a'; intro a w s
  replace s := s.al 103 9300003 rfl
  replace s := s.al 104 9300004 rfl
  replace s := s.ren [(1000, Ob.box b3 [vT (t_.s_), vI (t_.at_), vI (t_.e_), sl Ap04 (t_.sorts_) cp04, sl Ap05 (t_.texts_) cp05] 82), (1001, Ob.box b4 [vT ([]), vI 0, vI 0, .slice (none) (0) (0), .slice (none) (0) (0)] 82), (9200003, Ob.row (Am04u20) ((r16.sorts_).length) (cm04u20) 9 1 (csm0_3u20)), (9200004, Ob.row (Am05u20) ((r16.texts_).length) (cm05u20) 9 1 (csm0_4u20))] [1000, 1001, 9200003, 9200004] ⟨rfl, rfl, rfl, rfl, trivial⟩ (by decide)
  refine l_seq rfl (l_store (n := 5) (cs' := [vT (r16.s_), vI (r16.at_), vI (r16.e_), sl Am04u20 (r16.sorts_) cm04u20, sl Am05u20 (r16.texts_) cm05u20]) s 1001 rfl rfl rfl rfl rfl rfl rfl rfl ?_); clear s; intro w hK s; clear hK
  refine asg s rfl rfl fun a s => ?_
  apply wN
  apply wp_ret
  refine p_thenR ?_
  replace s := s.al 9300003 103 rfl
  replace s := s.al 9300004 104 rfl
  obtain rfl := Option.some.inj hg
  refine fin2 (fn := Tryz.f84) s rfl (r_cell (kk := 1001) (n := 5) (vs := [vT (r16.s_), vI (r16.at_), vI (r16.e_), sl Am04u20 (r16.sorts_) cm04u20, sl Am05u20 (r16.texts_) cm05u20]) s rfl rfl underlying82 rfl rfl rfl rfl) (r_tmp s rfl) ?_
  exact ⟨(Am04u20), (cm04u20), (csm0_3u20), (Am05u20), (cm05u20), (csm0_4u20), rfl, (by omega), (by first | omega | (rw [List.length_append]; omega) | (simp only [List.length_append]; omega) | (simp only [List.length_append, List.length_take, List.length_drop, List.length_cons, List.length_nil]; omega)), ((s.ren [(9200003, Ob.row (Am04u20) ((r16.sorts_).length) (cm04u20) 9 1 (csm0_3u20)), (9200004, Ob.row (Am05u20) ((r16.texts_).length) (cm05u20) 9 1 (csm0_4u20))] [9200003, 9200004] ⟨rfl, rfl, trivial⟩ (by decide)).outL ⟨rfl, rfl, trivial⟩ ⟨rfl, rfl, trivial⟩)⟩
 replace hg := br_n hg hc15
 apply wp_skip
 apply pN
 apply wR
 refine qq s rfl (y_boxField (o' := 1) s rfl underlying82 rfl rfl rfl) fun a s => ?_
 refine qq s rfl (y_loadBox1 (kk := 1000) s rfl rfl rfl underlying3 rfl) fun a s => ?_
 refine asg s rfl rfl fun a s => ?_
 apply wN
 apply wQ
 obtain ⟨k21, hg, hk21⟩ := jn_some hg
 refine c_post (fun a w => ∃ (b_22 : Int), k21 b_22 = some r ∧ St (⟨Tryz.f84.ntmps, M, C, w0⟩ : Ctx) [(3, vP b3 0), (6, vP b4 0), (8, vI (t_.at_))] [(1000, Ob.box b3 [vT (t_.s_), vI b_22, vI (t_.e_), sl Ap04 (t_.sorts_) cp04, sl Ap05 (t_.texts_) cp05] 82), (1001, Ob.box b4 [vT ([]), vI 0, vI 0, .slice (none) (0) (0), .slice (none) (0) (0)] 82), (9200003, Ob.row (Ap04) ((t_.sorts_).length) (cp04) 9 1 (csp03)), (9200004, Ob.row (Ap05) ((t_.texts_).length) (cp05) 9 1 (csp04))] [(9300003, rdF Rep.str (csp03) (t_.sorts_)), (9300004, rdF Rep.str (csp04) (t_.texts_))] a w) ?_ ?_
 ·apply wp_block
  refine c_loop (σ := Nat) (fun m1 a w => ∃ (b_23 : Int), r39_run_L0 n t_ t_' t_'' k21 m1 b_23 = some r ∧ St (⟨Tryz.f84.ntmps, M, C, w0⟩ : Ctx) [(1, .int .u8 (((t_'.toNat : Nat) : Int))), (2, .int .u8 (((t_''.toNat : Nat) : Int))), (3, vP b3 0), (6, vP b4 0), (8, vI (t_.at_))] [(1000, Ob.box b3 [vT (t_.s_), vI b_23, vI (t_.e_), sl Ap04 (t_.sorts_) cp04, sl Ap05 (t_.texts_) cp05] 82), (1001, Ob.box b4 [vT ([]), vI 0, vI 0, .slice (none) (0) (0), .slice (none) (0) (0)] 82), (9200003, Ob.row (Ap04) ((t_.sorts_).length) (cp04) 9 1 (csp03)), (9200004, Ob.row (Ap05) ((t_.texts_).length) (cp05) 9 1 (csp04))] [(9300003, rdF Rep.str (csp03) (t_.sorts_)), (9300004, rdF Rep.str (csp04) (t_.texts_))] a w) (fun m1 => m1) n ⟨(t_.at_), hg, (s.sb rfl rfl rfl)⟩ ?_
  clear s a; rintro m1 a w ⟨b_23, hg, s⟩
  rcases m1 with _ | m1
  ·rw [r39_run_L0] at hg; cases hg
  rw [r39_run_L0] at hg
  apply wQ
  apply wQ
  obtain ⟨k24, hg, hk24⟩ := jn_some hg
  refine c_post (fun a w => ∃ (t_25 : Bool), k24 t_25 = some r ∧ St (⟨Tryz.f84.ntmps, M, C, w0⟩ : Ctx) [(1, .int .u8 (((t_'.toNat : Nat) : Int))), (2, .int .u8 (((t_''.toNat : Nat) : Int))), (3, vP b3 0), (6, vP b4 0), (8, vI (t_.at_)), (65, .bool (t_25))] [(1000, Ob.box b3 [vT (t_.s_), vI b_23, vI (t_.e_), sl Ap04 (t_.sorts_) cp04, sl Ap05 (t_.texts_) cp05] 82), (1001, Ob.box b4 [vT ([]), vI 0, vI 0, .slice (none) (0) (0), .slice (none) (0) (0)] 82), (9200003, Ob.row (Ap04) ((t_.sorts_).length) (cp04) 9 1 (csp03)), (9200004, Ob.row (Ap05) ((t_.texts_).length) (cp05) 9 1 (csp04))] [(9300003, rdF Rep.str (csp03) (t_.sorts_)), (9300004, rdF Rep.str (csp04) (t_.texts_))] a w) ?_ ?_
  ·rcases Decidable.em (b_23 < (((t_.s_).length : Nat) : Int)) with hs26 | hs26
   ·have hs26e := decide_eq_true hs26
    replace hg := br_t hg hs26
    obtain ⟨c27, hc27, hg⟩ := bind_some hg
    obtain ⟨r28, hr28, hg⟩ := bind_some hg
    rcases Bool.eq_false_or_eq_true (r28) with hs31 | hs31
    ·replace hg := br_t hg hs31
     apply wL
     refine qq s rfl (y_boxField (o' := 1) s rfl underlying82 rfl rfl rfl) fun a s => ?_
     refine qq s rfl (y_loadBox1 (kk := 1000) s rfl rfl rfl underlying3 rfl) fun a s => ?_
     refine qq s rfl (y_boxField (o' := 0) s rfl underlying82 rfl rfl rfl) fun a s => ?_
     refine qq s rfl (y_loadBox1 (kk := 1000) s rfl rfl rfl underlying9 rfl) fun a s => ?_
     refine qq s rfl (y_lenStrN s rfl underlying9) fun a s => ?_
     refine qq s rfl (yl_b (y_lss s rfl rfl) hs26e) fun a s => ?_
     refine mv s rfl rfl fun a s => ?_
     refine gy s rfl (y_boxField (o' := 0) s rfl underlying82 rfl rfl rfl) fun a s => ?_
     refine gy s rfl (y_loadBox1 (kk := 1000) s rfl rfl rfl underlying9 rfl) fun a s => ?_
     refine gy s rfl (y_boxField (o' := 1) s rfl underlying82 rfl rfl rfl) fun a s => ?_
     refine gy s rfl (y_loadBox1 (kk := 1000) s rfl rfl rfl underlying3 rfl) fun a s => ?_
     refine gy s rfl (y_indexN (i := ((b_23).toNat)) s rfl rfl underlying9 (ix_some hc27).2.1 (ix_some hc27).1) fun a s => ?_
     refine gm s rfl rfl fun a s => ?_
     refine gm s rfl rfl fun a s => ?_
     refine gl s rfl (l_call (cap := []) s rfl func82 rfl (by kernel_rfl) rfl rfl (c_r39_between n _ _ s.lt c27 t_' t_'' r28 hr28) fun v32 a w hK hp s => ?_)
     obtain rfl := hp.trans (congrArg Value.bool hs31)
     refine gm s rfl rfl fun a s => ?_
     refine gn s rfl fun a s => ?_
     refine gn s rfl fun a s => ?_
     refine gn s rfl fun a s => ?_
     refine gn s rfl fun a s => ?_
     refine gn s rfl fun a s => ?_
     refine gn s rfl fun a s => ?_
     refine gy s rfl (y_pick_t s rfl rfl) fun a s => ?_
     refine gm s rfl rfl fun a s => ?_
     refine gn s rfl fun a s => ?_
     refine gn s rfl fun a s => ?_
     refine gn s rfl fun a s => ?_
     refine gn s rfl fun a s => ?_
     refine gn s rfl fun a s => ?_
     refine gn s rfl fun a s => ?_
     refine gy s rfl (y_pick_t s rfl rfl) fun a s => ?_
     refine qq s rfl (y_pick_t s rfl rfl) fun a s => ?_
     apply wN
     exact ⟨(true), hg, (s.sb rfl rfl rfl)⟩
    replace hg := br_n hg hs31
    obtain ⟨r34, hr34, hg⟩ := bind_some hg
    rcases Bool.eq_false_or_eq_true (r34) with hs37 | hs37
    ·replace hg := br_t hg hs37
     apply wL
     refine qq s rfl (y_boxField (o' := 1) s rfl underlying82 rfl rfl rfl) fun a s => ?_
     refine qq s rfl (y_loadBox1 (kk := 1000) s rfl rfl rfl underlying3 rfl) fun a s => ?_
     refine qq s rfl (y_boxField (o' := 0) s rfl underlying82 rfl rfl rfl) fun a s => ?_
     refine qq s rfl (y_loadBox1 (kk := 1000) s rfl rfl rfl underlying9 rfl) fun a s => ?_
     refine qq s rfl (y_lenStrN s rfl underlying9) fun a s => ?_
     refine qq s rfl (yl_b (y_lss s rfl rfl) hs26e) fun a s => ?_
     refine mv s rfl rfl fun a s => ?_
     refine gy s rfl (y_boxField (o' := 0) s rfl underlying82 rfl rfl rfl) fun a s => ?_
     refine gy s rfl (y_loadBox1 (kk := 1000) s rfl rfl rfl underlying9 rfl) fun a s => ?_
     refine gy s rfl (y_boxField (o' := 1) s rfl underlying82 rfl rfl rfl) fun a s => ?_
     refine gy s rfl (y_loadBox1 (kk := 1000) s rfl rfl rfl underlying3 rfl) fun a s => ?_
     refine gy s rfl (y_indexN (i := ((b_23).toNat)) s rfl rfl underlying9 (ix_some hc27).2.1 (ix_some hc27).1) fun a s => ?_
     refine gm s rfl rfl fun a s => ?_
     refine gm s rfl rfl fun a s => ?_
     refine gl s rfl (l_call (cap := []) s rfl func82 rfl (by kernel_rfl) rfl rfl (c_r39_between n _ _ s.lt c27 t_' t_'' r28 hr28) fun v38 a w hK hp s => ?_)
     obtain rfl := hp.trans (congrArg Value.bool hs31)
     refine gm s rfl rfl fun a s => ?_
     refine gy s rfl (y_boxField (o' := 0) s rfl underlying82 rfl rfl rfl) fun a s => ?_
     refine gy s rfl (y_loadBox1 (kk := 1000) s rfl rfl rfl underlying9 rfl) fun a s => ?_
     refine gy s rfl (y_boxField (o' := 1) s rfl underlying82 rfl rfl rfl) fun a s => ?_
     refine gy s rfl (y_loadBox1 (kk := 1000) s rfl rfl rfl underlying3 rfl) fun a s => ?_
     refine gy s rfl (y_indexN (i := ((b_23).toNat)) s rfl rfl underlying9 (ix_some hc27).2.1 (ix_some hc27).1) fun a s => ?_
     refine gl s rfl (l_call (cap := []) s rfl func82 rfl (by kernel_rfl) rfl rfl (c_r39_between n _ _ s.lt c27 (48 : UInt8) (57 : UInt8) r34 hr34) fun v40 a w hK hp s => ?_)
     obtain rfl := hp.trans (congrArg Value.bool hs37)
     refine gy s rfl (y_pick_f s rfl rfl) fun a s => ?_
     refine gm s rfl rfl fun a s => ?_
     refine gn s rfl fun a s => ?_
     refine gn s rfl fun a s => ?_
     refine gn s rfl fun a s => ?_
     refine gn s rfl fun a s => ?_
     refine gn s rfl fun a s => ?_
     refine gn s rfl fun a s => ?_
     refine gy s rfl (y_pick_t s rfl rfl) fun a s => ?_
     refine qq s rfl (y_pick_t s rfl rfl) fun a s => ?_
     apply wN
     exact ⟨(true), hg, (s.sb rfl rfl rfl)⟩
    replace hg := br_n hg hs37
    apply wL
    refine qq s rfl (y_boxField (o' := 1) s rfl underlying82 rfl rfl rfl) fun a s => ?_
    refine qq s rfl (y_loadBox1 (kk := 1000) s rfl rfl rfl underlying3 rfl) fun a s => ?_
    refine qq s rfl (y_boxField (o' := 0) s rfl underlying82 rfl rfl rfl) fun a s => ?_
    refine qq s rfl (y_loadBox1 (kk := 1000) s rfl rfl rfl underlying9 rfl) fun a s => ?_
    refine qq s rfl (y_lenStrN s rfl underlying9) fun a s => ?_
    refine qq s rfl (yl_b (y_lss s rfl rfl) hs26e) fun a s => ?_
    refine mv s rfl rfl fun a s => ?_
    refine gy s rfl (y_boxField (o' := 0) s rfl underlying82 rfl rfl rfl) fun a s => ?_
    refine gy s rfl (y_loadBox1 (kk := 1000) s rfl rfl rfl underlying9 rfl) fun a s => ?_
    refine gy s rfl (y_boxField (o' := 1) s rfl underlying82 rfl rfl rfl) fun a s => ?_
    refine gy s rfl (y_loadBox1 (kk := 1000) s rfl rfl rfl underlying3 rfl) fun a s => ?_
    refine gy s rfl (y_indexN (i := ((b_23).toNat)) s rfl rfl underlying9 (ix_some hc27).2.1 (ix_some hc27).1) fun a s => ?_
    refine gm s rfl rfl fun a s => ?_
    refine gm s rfl rfl fun a s => ?_
    refine gl s rfl (l_call (cap := []) s rfl func82 rfl (by kernel_rfl) rfl rfl (c_r39_between n _ _ s.lt c27 t_' t_'' r28 hr28) fun v42 a w hK hp s => ?_)
    obtain rfl := hp.trans (congrArg Value.bool hs31)
    refine gm s rfl rfl fun a s => ?_
    refine gy s rfl (y_boxField (o' := 0) s rfl underlying82 rfl rfl rfl) fun a s => ?_
    refine gy s rfl (y_loadBox1 (kk := 1000) s rfl rfl rfl underlying9 rfl) fun a s => ?_
    refine gy s rfl (y_boxField (o' := 1) s rfl underlying82 rfl rfl rfl) fun a s => ?_
    refine gy s rfl (y_loadBox1 (kk := 1000) s rfl rfl rfl underlying3 rfl) fun a s => ?_
    refine gy s rfl (y_indexN (i := ((b_23).toNat)) s rfl rfl underlying9 (ix_some hc27).2.1 (ix_some hc27).1) fun a s => ?_
    refine gl s rfl (l_call (cap := []) s rfl func82 rfl (by kernel_rfl) rfl rfl (c_r39_between n _ _ s.lt c27 (48 : UInt8) (57 : UInt8) r34 hr34) fun v44 a w hK hp s => ?_)
    obtain rfl := hp.trans (congrArg Value.bool hs37)
    refine gy s rfl (y_pick_f s rfl rfl) fun a s => ?_
    refine gm s rfl rfl fun a s => ?_
    refine gy s rfl (y_boxField (o' := 0) s rfl underlying82 rfl rfl rfl) fun a s => ?_
    refine gy s rfl (y_loadBox1 (kk := 1000) s rfl rfl rfl underlying9 rfl) fun a s => ?_
    refine gy s rfl (y_boxField (o' := 1) s rfl underlying82 rfl rfl rfl) fun a s => ?_
    refine gy s rfl (y_loadBox1 (kk := 1000) s rfl rfl rfl underlying3 rfl) fun a s => ?_
    refine gy s rfl (y_indexN (i := ((b_23).toNat)) s rfl rfl underlying9 (ix_some hc27).2.1 (ix_some hc27).1) fun a s => ?_
    refine gy s rfl (y_eqlN (i := c27.toNat) (j := 45) s rfl rfl) fun a s => ?_
    refine gy s rfl (y_pick_f s rfl rfl) fun a s => ?_
    refine qq s rfl (y_pick_t s rfl rfl) fun a s => ?_
    apply wN
    exact ⟨(decide (c27.toNat = 45)), hg, (s.sb rfl rfl rfl)⟩
   have hs26e := decide_eq_false hs26
   replace hg := br_f hg hs26
   apply wL
   refine qq s rfl (y_boxField (o' := 1) s rfl underlying82 rfl rfl rfl) fun a s => ?_
   refine qq s rfl (y_loadBox1 (kk := 1000) s rfl rfl rfl underlying3 rfl) fun a s => ?_
   refine qq s rfl (y_boxField (o' := 0) s rfl underlying82 rfl rfl rfl) fun a s => ?_
   refine qq s rfl (y_loadBox1 (kk := 1000) s rfl rfl rfl underlying9 rfl) fun a s => ?_
   refine qq s rfl (y_lenStrN s rfl underlying9) fun a s => ?_
   refine qq s rfl (yl_b (y_lss s rfl rfl) hs26e) fun a s => ?_
   refine mv s rfl rfl fun a s => ?_
   refine gn s rfl fun a s => ?_
   refine gn s rfl fun a s => ?_
   refine gn s rfl fun a s => ?_
   refine gn s rfl fun a s => ?_
   refine gn s rfl fun a s => ?_
   refine gn s rfl fun a s => ?_
   refine gn s rfl fun a s => ?_
   refine gn s rfl fun a s => ?_
   refine gn s rfl fun a s => ?_
   refine gn s rfl fun a s => ?_
   refine gn s rfl fun a s => ?_
   refine gn s rfl fun a s => ?_
   refine gn s rfl fun a s => ?_
   refine gn s rfl fun a s => ?_
   refine gn s rfl fun a s => ?_
   refine gn s rfl fun a s => ?_
   refine gn s rfl fun a s => ?_
   refine gn s rfl fun a s => ?_
   refine gn s rfl fun a s => ?_
   refine gn s rfl fun a s => ?_
   refine gn s rfl fun a s => ?_
   refine gn s rfl fun a s => ?_
   refine gn s rfl fun a s => ?_
   refine gn s rfl fun a s => ?_
   refine qq s rfl (y_pick_f s rfl rfl) fun a s => ?_
   apply wN
   exact ⟨(false), hg, (s.sb rfl rfl rfl)⟩
  clear s a; rintro a w ⟨t_25, hg, s⟩
  subst hk24
  refine c_cond s rfl (fun hc46 => ?_) (fun hc46 => ?_)
  ·replace hg := br_t hg hc46
   apply wp_skip
   apply pN
   apply wp_block
   obtain ⟨hk47, hg⟩ := chk_some hg
   apply wL
   refine qq s rfl (y_boxField (o' := 1) s rfl underlying82 rfl rfl rfl) fun a s => ?_
   refine qq s rfl (y_loadBox1 (kk := 1000) s rfl rfl rfl underlying3 rfl) fun a s => ?_
   refine qq s rfl (y_add s rfl rfl (in64.2 hk47)) fun a s => ?_
   refine qq s rfl (y_boxField (o' := 1) s rfl underlying82 rfl rfl rfl) fun a s => ?_
   refine l_seq rfl (l_store (n := 1) (cs' := [vT (t_.s_), vI (b_23 + 1), vI (t_.e_), sl Ap04 (t_.sorts_) cp04, sl Ap05 (t_.texts_) cp05]) s 1000 rfl rfl rfl rfl rfl rfl rfl rfl ?_); clear s; intro w hK s; clear hK
   apply wO
   refine p_inN ?_
   apply pN
   exact ⟨m1, Nat.lt_succ_self _, ⟨(b_23 + 1), hg, (s.sb rfl rfl rfl)⟩⟩
  replace hg := br_n hg hc46
  apply wp_exit
  refine p_then ?_
  refine p_then ?_
  refine p_in ?_
  apply pN
  exact ⟨(b_23), hg, (s.sb rfl rfl rfl)⟩
 clear s a; rintro a w ⟨b_22, hg, s⟩
 subst hk21
 apply wQ
 obtain ⟨hk48, hg⟩ := chk_some hg
 obtain ⟨hk49, hg⟩ := chk_some hg
 obtain ⟨hk50, hg⟩ := chk_some hg
 refine d_plan s [(7, 1001)] [(0, some 1000), (1, some 0), (2, some 1000), (3, some 0), (4, some 0), (5, some 1000), (6, some 0), (7, none), (8, none)] rfl (by kernel_rfl) (by kernel_rfl) rfl ?_; clear s; intro wr hZ s; have hR := s.wd
 refine qt s hR rfl (y_loadAll (kk := 1000) s rfl rfl underlying82 rfl rfl) fun a s => ?_
 refine qt s hR rfl (y_boxField (o' := 0) s rfl underlying82 rfl rfl rfl) fun a s => ?_
 refine qt s hR rfl (y_loadBox1 (kk := 1000) s rfl rfl rfl underlying9 rfl) fun a s => ?_
 refine qt s hR rfl (y_move s rfl) fun a s => ?_
 refine qt s hR rfl (y_boxField (o' := 1) s rfl underlying82 rfl rfl rfl) fun a s => ?_
 refine qt s hR rfl (y_loadBox1 (kk := 1000) s rfl rfl rfl underlying3 rfl) fun a s => ?_
 refine qt s hR rfl (y_strLH (i := ((t_.at_).toNat)) (j := ((b_22).toNat)) s rfl rfl rfl underlying9 (by omega) (by omega) hk50.1 hk50.2) fun a s => ?_
 refine l_take s rfl rfl (l_store (n := 5) (cs' := [vT (t_.s_), vI b_22, vI (t_.e_), sl Ap04 (t_.sorts_) cp04, sl Ap05 (t_.texts_) cp05]) s 1001 rfl rfl rfl rfl rfl rfl rfl rfl ?_); clear s; intro w hK s; replace hZ := Nat.le_trans hZ hK.size
 refine ⟨fun g hg h => h.obj hR (kk := 1001) rfl hK (by rintro rfl; exact absurd hg (by decide)), ?_⟩; clear hK
 refine l_take s rfl rfl (l_quiet s rfl rfl (y_assign s rfl) fun a s => ?_); refine ⟨fun g _ h => h, ?_⟩
 clear hR hZ
 apply pN
 apply wp_ret
 replace s := s.al 9300003 9300003 rfl
 replace s := s.al 9300004 9300004 rfl
 obtain rfl := Option.some.inj hg
 refine fin2 (fn := Tryz.f84) s rfl (r_cell (kk := 1001) (n := 5) (vs := [vT (t_.s_), vI b_22, vI (t_.e_), sl Ap04 (t_.sorts_) cp04, sl Ap05 (t_.texts_) cp05]) s rfl rfl underlying82 rfl rfl rfl rfl) (r_tmp s rfl) ?_
 exact ⟨(Ap04), (cp04), (csp03), (Ap05), (cp05), (csp04), rfl, (by omega), (by first | omega | (rw [List.length_append]; omega) | (simp only [List.length_append]; omega) | (simp only [List.length_append, List.length_take, List.length_drop, List.length_cons, List.length_nil]; omega)), ((s.ren [(9200003, Ob.row (Ap04) ((t_.sorts_).length) (cp04) 9 1 (csp03)), (9200004, Ob.row (Ap05) ((t_.texts_).length) (cp05) 9 1 (csp04))] [9200003, 9200004] ⟨rfl, rfl, trivial⟩ (by decide)).outL ⟨rfl, rfl, trivial⟩ ⟨rfl, rfl, trivial⟩)⟩
end Go.Proofs.YtegboboemepifaaGreatDoor


/- Chapter 42: the walk of SolveExact -/
import Derived.Test.YtdicfdfncbmmpaaW4
namespace Go.Proofs.Ytdicfdfncbmmpaa
open Go.Gl Go.RowKit
set_option linter.unusedVariables false
set_option linter.unusedSimpArgs false
set_option maxRecDepth 4000

set_option maxHeartbeats 400000 in
theorem c_law42_SolveExact (n : Nat) (M : Bs) (w0 : World) (hM : ∀ b, M b → b < w0.heap.size) (t_ : MRS) (Ap03 : Option Addr) (cp03 : Nat) (Ap04 : Option Addr) (cp04 : Nat) (Ap05 : Option Addr) (cp05 : Nat) (hp03 : SlR Rep.str M w0 Ap03 (t_.Vars).length cp03 (t_.Vars)) (hp04 : SlR REP M w0 Ap04 (t_.Rels).length cp04 (t_.Rels)) (hp05 : SlR RQeq M w0 Ap05 (t_.Cons).length cp05 (t_.Cons)) (r : Bool) (hg : law42_SolveExact n t_ = some r) :
    Calls Try.prog 3 [.agg #[.int .i64 (t_.Top), .int .i64 (t_.Index), .slice (Ap03) ((t_.Vars).length) (cp03), .slice (Ap04) ((t_.Rels).length) (cp04), .slice (Ap05) ((t_.Cons).length) (cp05)]].toArray w0 (Ret noB w0 fun v w => v = .bool (r)) := by
 unfold law42_SolveExact at hg
 refine enter M noB Try.func3 rfl rfl hM ?_
 intro a hS
 replace hS := hS.es 101 hp03
 replace hS := hS.es 102 hp04
 replace hS := hS.es 103 hp05
 apply wR
 refine l_seq rfl (l_box (zs := [.int .i64 (t_.Top), .int .i64 (t_.Index), .slice (Ap03) ((t_.Vars).length) (cp03), .slice (Ap04) ((t_.Rels).length) (cp04), .slice (Ap05) ((t_.Cons).length) (cp05)]) hS 1000 rfl rfl rfl rfl ?_); clear hS a; intro b2 a w hb hK hS
 clear hb hK
 refine qq hS rfl (y_assign hS rfl) fun a hS => ?_
 apply wN
 apply wp_seq
 apply wp_seq
 obtain ⟨r3, hr3, hg⟩ := bind_some hg
 apply wp_region_lit
 refine qq hS rfl (y_loadBox (kk := 1000) (n := 5) (vs := [.int .i64 (t_.Top), .int .i64 (t_.Index), .slice (Ap03) ((t_.Vars).length) (cp03), .slice (Ap04) ((t_.Rels).length) (cp04), .slice (Ap05) ((t_.Cons).length) (cp05)]) hS rfl rfl Try.underlying26 rfl rfl rfl rfl) fun a hS => ?_
 refine l_seq rfl (l_call (cap := []) hS rfl Try.func7 rfl (by kernel_rfl) rfl rfl (c_law42_valid n _ _ hS.lt t_ (Ap03) (cp03) (Ap04) (cp04) (Ap05) (cp05) (hS.fact (k := 101) rfl) (hS.fact (k := 102) rfl) (hS.fact (k := 103) rfl) r3 hr3) ?_); clear hS a; intro v6 a w hK hp hS
 clear hK
 obtain rfl := hp
 refine qq hS rfl (y_not hS rfl) fun a hS => ?_
 apply wN
 refine c_cond hS rfl (fun hc8 => ?_) (fun hc8 => ?_)
 ·replace hg := br_t hg hc8
  apply wp_seq
  obtain ⟨r9, hr9, hg⟩ := bind_some hg
  apply wp_region_lit
  refine l_seq rfl (l_call (cap := []) hS rfl Try.func8 rfl (by kernel_rfl) rfl rfl (c_law42_exampleHolds n _ _ hS.lt  r9 hr9) ?_); clear hS a; intro v12 a w hK hp hS
  clear hK
  obtain rfl := hp
  refine qq hS rfl (y_assign hS rfl) fun a hS => ?_
  apply wN
  apply wp_ret
  refine p_thenR ?_
  obtain rfl := Option.some.inj hg
  refine fin1 (fn := Try.f3) hS rfl (r_tmp hS rfl) ?_
  exact rfl
 ·replace hg := br_f hg (by rw [hc8]; exact Bool.false_ne_true)
  apply wp_skip
  refine p_norm ?_
  apply wp_seq
  obtain ⟨r14, hr14, hg⟩ := bind_some hg
  apply wp_region_lit
  refine qq hS rfl (y_loadBox (kk := 1000) (n := 5) (vs := [.int .i64 (t_.Top), .int .i64 (t_.Index), .slice (Ap03) ((t_.Vars).length) (cp03), .slice (Ap04) ((t_.Rels).length) (cp04), .slice (Ap05) ((t_.Cons).length) (cp05)]) hS rfl rfl Try.underlying26 rfl rfl rfl rfl) fun a hS => ?_
  refine l_seq rfl (l_call (cap := []) hS rfl Try.func9 rfl (by kernel_rfl) rfl rfl (c_solve_All n _ _ hS.lt t_ (Ap03) (cp03) (Ap04) (cp04) (Ap05) (cp05) (hS.fact (k := 101) rfl) (hS.fact (k := 102) rfl) (hS.fact (k := 103) rfl) 0 r14 hr14) ?_); clear hS a; intro v17 a w hK hp hS
  clear hK
  obtain ⟨Au18a1, cu18a1, rfl, hu18a1⟩ := hp
  replace hS := hS.add 105 (slF (Rep.list (Rep.num .i64)) (Au18a1) ((r14.1).length) (cu18a1) (r14.1)) hu18a1
  refine qq hS rfl (y_move hS rfl) fun a hS => ?_
  refine qq hS rfl (y_extract hS rfl rfl) fun a hS => ?_
  refine qq hS rfl (y_extract hS rfl rfl) fun a hS => ?_
  refine qq hS rfl (y_extract hS rfl rfl) fun a hS => ?_
  refine qq hS rfl (y_assign hS rfl) fun a hS => ?_
  refine qq hS rfl (y_assign hS rfl) fun a hS => ?_
  refine qq hS rfl (y_assign hS rfl) fun a hS => ?_
  apply wN
  apply wp_seq
  obtain ⟨r19, hr19, hg⟩ := bind_some hg
  apply wp_region_lit
  refine qq hS rfl (y_loadBox (kk := 1000) (n := 5) (vs := [.int .i64 (t_.Top), .int .i64 (t_.Index), .slice (Ap03) ((t_.Vars).length) (cp03), .slice (Ap04) ((t_.Rels).length) (cp04), .slice (Ap05) ((t_.Cons).length) (cp05)]) hS rfl rfl Try.underlying26 rfl rfl rfl rfl) fun a hS => ?_
  refine l_seq rfl (l_call (cap := []) hS rfl Try.func10 rfl (by kernel_rfl) rfl rfl (c_scope_Holes n _ _ hS.lt t_ (Ap03) (cp03) (Ap04) (cp04) (Ap05) (cp05) (hS.fact (k := 101) rfl) (hS.fact (k := 102) rfl) (hS.fact (k := 103) rfl) r19 hr19) ?_); clear hS a; intro v22 a w hK hp hS
  clear hK
  obtain ⟨Au23a1, cu23a1, rfl, hu23a1⟩ := hp
  replace hS := hS.add 107 (slF (Rep.num .i64) (Au23a1) ((r19).length) (cu23a1) (r19)) hu23a1
  refine qq hS rfl (y_assign hS rfl) fun a hS => ?_
  apply wN
  apply wp_seq
  apply wR
  refine qq hS rfl (y_move hS rfl) fun a hS => ?_
  refine qq hS rfl (y_lenSlice hS rfl Try.underlying33) fun a hS => ?_
  refine qq hS rfl (y_gtrN (i := ((r19).length)) (j := 6) hS rfl rfl) fun a hS => ?_
  apply wN
  refine c_dec hS rfl (fun hc24 => ?_) (fun hc24 => ?_)
  ·replace hg := br_t hg hc24
   have hmx25 := SlR.mx (hS.fact (k := 107) rfl)
   apply wp_seq
   rcases Decidable.em (r14.2.2 = 7) with hs26 | hs26
   ·have hs26e : decide (r14.2.2 = 7) = true := decide_eq_true hs26
    replace hg := br_t hg hs26
    rcases Decidable.em (((r14.1).length) = 0) with hs27 | hs27
    ·have hs27e : decide (((r14.1).length) = 0) = true := decide_eq_true hs27
     replace hg := br_t hg hs27
     obtain ⟨r28, hr28, hg⟩ := bind_some hg
     apply wp_region_lit
     refine qq hS rfl (y_move hS rfl) fun a hS => ?_
     refine qq hS rfl (yl_b (y_eql hS rfl rfl) hs26e) fun a hS => ?_
     refine qq hS rfl (y_move hS rfl) fun a hS => ?_
     refine gy hS rfl (y_move hS rfl) fun a hS => ?_
     refine gy hS rfl (y_lenSlice hS rfl Try.underlying29) fun a hS => ?_
     refine gy hS rfl (yl_b (y_eqlN (i := ((r14.1).length)) (j := 0) hS rfl rfl) hs27e) fun a hS => ?_
     refine qq hS rfl (y_pick_t hS rfl rfl) fun a hS => ?_
     refine qq hS rfl (y_move hS rfl) fun a hS => ?_
     refine gl hS rfl (l_call (cap := []) hS rfl Try.func8 rfl (by kernel_rfl) rfl rfl (c_law42_exampleHolds n _ _ hS.lt  r28 hr28) ?_); clear hS a; intro v31 a w hK hp hS
     clear hK
     obtain rfl := hp
     refine qq hS rfl (y_pick_t hS rfl rfl) fun a hS => ?_
     refine qq hS rfl (y_assign hS rfl) fun a hS => ?_
     apply wN
     apply wp_ret
     refine p_thenR ?_
     obtain rfl := Option.some.inj hg
     refine fin1 (fn := Try.f3) hS rfl (r_tmp hS rfl) ?_
     exact rfl
    ·have hs27e : decide (((r14.1).length) = 0) = false := decide_eq_false hs27
     replace hg := br_f hg hs27
     apply wp_region_lit
     refine qq hS rfl (y_move hS rfl) fun a hS => ?_
     refine qq hS rfl (yl_b (y_eql hS rfl rfl) hs26e) fun a hS => ?_
     refine qq hS rfl (y_move hS rfl) fun a hS => ?_
     refine gy hS rfl (y_move hS rfl) fun a hS => ?_
     refine gy hS rfl (y_lenSlice hS rfl Try.underlying29) fun a hS => ?_
     refine gy hS rfl (yl_b (y_eqlN (i := ((r14.1).length)) (j := 0) hS rfl rfl) hs27e) fun a hS => ?_
     refine qq hS rfl (y_pick_t hS rfl rfl) fun a hS => ?_
     refine qq hS rfl (y_move hS rfl) fun a hS => ?_
     refine gn hS rfl fun a hS => ?_
     refine qq hS rfl (y_pick_f hS rfl rfl) fun a hS => ?_
     refine qq hS rfl (y_assign hS rfl) fun a hS => ?_
     apply wN
     apply wp_ret
     refine p_thenR ?_
     obtain rfl := Option.some.inj hg
     refine fin1 (fn := Try.f3) hS rfl (r_tmp hS rfl) ?_
     exact rfl
   ·have hs26e : decide (r14.2.2 = 7) = false := decide_eq_false hs26
    replace hg := br_f hg hs26
    apply wp_region_lit
    refine qq hS rfl (y_move hS rfl) fun a hS => ?_
    refine qq hS rfl (yl_b (y_eql hS rfl rfl) hs26e) fun a hS => ?_
    refine qq hS rfl (y_move hS rfl) fun a hS => ?_
    refine gn hS rfl fun a hS => ?_
    refine gn hS rfl fun a hS => ?_
    refine gn hS rfl fun a hS => ?_
    refine qq hS rfl (y_pick_f hS rfl rfl) fun a hS => ?_
    refine qq hS rfl (y_move hS rfl) fun a hS => ?_
    refine gn hS rfl fun a hS => ?_
    refine qq hS rfl (y_pick_f hS rfl rfl) fun a hS => ?_
    refine qq hS rfl (y_assign hS rfl) fun a hS => ?_
    apply wN
    apply wp_ret
    refine p_thenR ?_
    obtain rfl := Option.some.inj hg
    refine fin1 (fn := Try.f3) hS rfl (r_tmp hS rfl) ?_
    exact rfl
  ·replace hg := br_f hg hc24
   apply wp_skip
   refine p_norm ?_
   apply wp_seq
   apply wp_seq
   obtain ⟨k33, hg, hk33⟩ := jn_some hg
   refine c_post (fun a w => ∃ (t_34 : Bool), k33 t_34 = some r ∧ St (⟨Try.f3.ntmps, M, noB, w0⟩ : Ctx) [(1, .pointer (some ⟨b2, 0, none⟩)), (3, .slice (Au18a1) ((r14.1).length) (cu18a1)), (6, .slice (Au23a1) ((r19).length) (cu23a1)), (39, .bool (t_34))] [(1000, Ob.box b2 [.int .i64 (t_.Top), .int .i64 (t_.Index), .slice (Ap03) ((t_.Vars).length) (cp03), .slice (Ap04) ((t_.Rels).length) (cp04), .slice (Ap05) ((t_.Cons).length) (cp05)] 26)] [(101, slF Rep.str (Ap03) ((t_.Vars).length) (cp03) (t_.Vars)), (102, slF REP (Ap04) ((t_.Rels).length) (cp04) (t_.Rels)), (103, slF RQeq (Ap05) ((t_.Cons).length) (cp05) (t_.Cons)), (105, slF (Rep.list (Rep.num .i64)) (Au18a1) ((r14.1).length) (cu18a1) (r14.1)), (107, slF (Rep.num .i64) (Au23a1) ((r19).length) (cu23a1) (r19))] a w) ?_ ?_
   ·rcases Decidable.em (r14.2.2 ≠ 0) with hs35 | hs35
    ·have hs35e : decide (r14.2.2 ≠ 0) = true := decide_eq_true hs35
     replace hg := br_t hg hs35
     apply wp_region_lit
     refine qq hS rfl (y_move hS rfl) fun a hS => ?_
     refine qq hS rfl (yl_b (y_neq hS rfl rfl) hs35e) fun a hS => ?_
     refine qq hS rfl (y_move hS rfl) fun a hS => ?_
     refine gn hS rfl fun a hS => ?_
     refine qq hS rfl (y_pick_t hS rfl rfl) fun a hS => ?_
     apply wN
     exact ⟨(true), hg, (hS.sb rfl rfl rfl)⟩
    ·have hs35e : decide (r14.2.2 ≠ 0) = false := decide_eq_false hs35
     replace hg := br_f hg hs35
     apply wp_region_lit
     refine qq hS rfl (y_move hS rfl) fun a hS => ?_
     refine qq hS rfl (yl_b (y_neq hS rfl rfl) hs35e) fun a hS => ?_
     refine qq hS rfl (y_move hS rfl) fun a hS => ?_
     refine gy hS rfl (y_move hS rfl) fun a hS => ?_
     refine qq hS rfl (y_pick_f hS rfl rfl) fun a hS => ?_
     apply wN
     exact ⟨(r14.2.1), hg, (hS.sb rfl rfl rfl)⟩
   clear hS a; rintro a w ⟨t_34, hg, hS⟩
   subst hk33
   refine c_cond hS rfl (fun hc36 => ?_) (fun hc36 => ?_)
   ·replace hg := br_t hg hc36
    apply wR
    refine qq hS rfl (y_assign hS rfl) fun a hS => ?_
    apply wN
    apply wp_ret
    refine p_thenR ?_
    obtain rfl := Option.some.inj hg
    refine fin1 (fn := Try.f3) hS rfl (r_tmp hS rfl) ?_
    exact rfl
   ·replace hg := br_f hg (by rw [hc36]; exact Bool.false_ne_true)
    apply wp_skip
    refine p_norm ?_
    apply wR
    refine qq hS rfl (y_assign hS rfl) fun a hS => ?_
    apply wN
    apply wp_seq
    apply wp_seq
    obtain ⟨r37, hr37, hg⟩ := bind_some hg
    obtain ⟨r40, hr40, hg⟩ := bind_some hg
    apply wp_region_lit
    refine qq hS rfl (y_loadBox (kk := 1000) (n := 5) (vs := [.int .i64 (t_.Top), .int .i64 (t_.Index), .slice (Ap03) ((t_.Vars).length) (cp03), .slice (Ap04) ((t_.Rels).length) (cp04), .slice (Ap05) ((t_.Cons).length) (cp05)]) hS rfl rfl Try.underlying26 rfl rfl rfl rfl) fun a hS => ?_
    refine l_seq rfl (l_call (cap := []) hS rfl Try.func12 rfl (by kernel_rfl) rfl rfl (c_scope_Labels n _ _ hS.lt t_ (Ap03) (cp03) (Ap04) (cp04) (Ap05) (cp05) (hS.fact (k := 101) rfl) (hS.fact (k := 102) rfl) (hS.fact (k := 103) rfl) r37 hr37) ?_); clear hS a; intro v43 a w hK hp hS
    clear hK
    obtain ⟨Au44a1, cu44a1, rfl, hu44a1⟩ := hp
    replace hS := hS.add 110 (slF (Rep.num .i64) (Au44a1) ((r37).length) (cu44a1) (r37)) hu44a1
    refine qq hS rfl (y_move hS rfl) fun a hS => ?_
    refine qq hS rfl (y_lenSlice hS rfl Try.underlying33) fun a hS => ?_
    refine l_seq rfl (l_call (cap := []) hS rfl Try.func11 rfl (by kernel_rfl) rfl rfl (c_law42_lists n _ _ hS.lt r37 (Au44a1) (cu44a1) (hS.fact (k := 110) rfl) [] (none) (0) (SlR.nil_ _ _ _) (((r19).length : Nat) : Int) r40 hr40) ?_); clear hS a; intro v45 a w hK hp hS
    clear hK
    obtain ⟨Au46a1, cu46a1, rfl, hu46a1⟩ := hp
    replace hS := hS.add 111 (slF (Rep.list (Rep.num .i64)) (Au46a1) ((r40).length) (cu46a1) (r40)) hu46a1
    refine qq hS rfl (y_lenSlice hS rfl Try.underlying29) fun a hS => ?_
    refine qq hS rfl (y_move hS rfl) fun a hS => ?_
    apply wN
    obtain ⟨k47, hg, hk47⟩ := jn_some hg
    refine c_post (fun a w => ∃ (t_48 : (List (List Int))), ∃ (A49 : Option Addr), ∃ (c50 : Nat), ∃ (cs51 : List Value), k47 t_48 = some r ∧ St (⟨Try.f3.ntmps, M, noB, w0⟩ : Ctx) [(3, .slice (Au18a1) ((r14.1).length) (cu18a1)), (7, .slice (A49) ((t_48).length) (c50))] [(700112, Ob.row (A49) ((t_48).length) (c50) 33 1 (cs51))] [(105, slF (Rep.list (Rep.num .i64)) (Au18a1) ((r14.1).length) (cu18a1) (r14.1)), (113, rdF (Rep.list (Rep.num .i64)) (cs51) (t_48))] a w) ?_ ?_
    ·apply wp_block
     replace hS := hS.nilRow 700114 33 1 rfl
     replace hS := hS.add 115 (rdF (Rep.list (Rep.num .i64)) [] []) (RdAll.nil _ _ _)
     refine c_loop (σ := Nat) (fun m1 a w => ∃ (t_52 : (List (List Int))), ∃ (t_56 : Nat), ∃ (A53 : Option Addr), ∃ (c54 : Nat), ∃ (cs55 : List Value), law42_SolveExact_L0 n t_ r40 k47 m1 t_52 t_56 = some r ∧ St (⟨Try.f3.ntmps, M, noB, w0⟩ : Ctx) [(1, .pointer (some ⟨b2, 0, none⟩)), (3, .slice (Au18a1) ((r14.1).length) (cu18a1)), (7, .slice (A53) ((t_52).length) (c54)), (44, .slice (Au46a1) ((r40).length) (cu46a1)), (45, .int .i64 ((((r40).length : Nat) : Int))), (46, .int .i64 (((t_56 : Nat) : Int)))] [(1000, Ob.box b2 [.int .i64 (t_.Top), .int .i64 (t_.Index), .slice (Ap03) ((t_.Vars).length) (cp03), .slice (Ap04) ((t_.Rels).length) (cp04), .slice (Ap05) ((t_.Cons).length) (cp05)] 26), (700114, Ob.row (A53) ((t_52).length) (c54) 33 1 (cs55))] [(101, slF Rep.str (Ap03) ((t_.Vars).length) (cp03) (t_.Vars)), (102, slF REP (Ap04) ((t_.Rels).length) (cp04) (t_.Rels)), (103, slF RQeq (Ap05) ((t_.Cons).length) (cp05) (t_.Cons)), (105, slF (Rep.list (Rep.num .i64)) (Au18a1) ((r14.1).length) (cu18a1) (r14.1)), (111, slF (Rep.list (Rep.num .i64)) (Au46a1) ((r40).length) (cu46a1) (r40)), (115, rdF (Rep.list (Rep.num .i64)) (cs55) (t_52))] a w) (fun m1 => m1) n ⟨([]), (0), (none), (0), ([]), hg, (hS.sb rfl rfl rfl)⟩ ?_
     clear hS a; rintro m1 a w ⟨t_52, t_56, A53, c54, cs55, hg, hS⟩
     rcases m1 with _ | m1
     ·rw [law42_SolveExact_L0] at hg; cases hg
     rw [law42_SolveExact_L0] at hg
     apply wR
     refine qq hS rfl (y_lssN (i := t_56) (j := ((r40).length)) hS rfl rfl) fun a hS => ?_
     apply wN
     apply wp_seq
     refine c_dec hS rfl (fun hc57 => ?_) (fun hc57 => ?_)
     ·replace hg := br_t hg hc57
      have hmx58 := SlR.mx (hS.fact (k := 111) rfl)
      apply wp_skip
      refine p_norm ?_
      apply wp_seq
      apply wp_block
      apply wp_seq
      obtain ⟨x60, hx60, hg⟩ := bind_some hg
      apply wp_region_lit
      obtain ⟨p62, hep62, hpp62⟩ := SlR.elemX (hS.fact (k := 111) rfl) hx60
      refine qq hS rfl (y_elem (sz := 1) (i := t_56) hS rfl rfl Try.underlying29 rfl hep62 rfl (lt_of_get hx60)) fun a hS => ?_
      obtain ⟨hlq63, hmq63, csq63, hdq63, hcq63⟩ := hpp62
      obtain ⟨Aq631, nnq63, cq631, rfl, hq631⟩ := hdq63
      obtain rfl := hq631.len
      replace hS := hS.add 117 (slF (Rep.num .i64) (Aq631) ((x60).length) (cq631) (x60)) hq631
      refine qq hS rfl (y_ldp1 hS rfl hlq63 hmq63 (hcq63 0 _ rfl) Try.underlying33 rfl) fun a hS => ?_
      refine qq hS rfl (y_assign hS rfl) fun a hS => ?_
      apply wN
      apply wp_seq
      obtain ⟨r64, hr64, hg⟩ := bind_some hg
      apply wp_region_lit
      refine qq hS rfl (y_loadBox (kk := 1000) (n := 5) (vs := [.int .i64 (t_.Top), .int .i64 (t_.Index), .slice (Ap03) ((t_.Vars).length) (cp03), .slice (Ap04) ((t_.Rels).length) (cp04), .slice (Ap05) ((t_.Cons).length) (cp05)]) hS rfl rfl Try.underlying26 rfl rfl rfl rfl) fun a hS => ?_
      refine qq hS rfl (y_move hS rfl) fun a hS => ?_
      refine l_seq rfl (l_call (cap := []) hS rfl Try.func13 rfl (by kernel_rfl) rfl rfl (c_scope_Valid n _ _ hS.lt t_ (Ap03) (cp03) (Ap04) (cp04) (Ap05) (cp05) (hS.fact (k := 101) rfl) (hS.fact (k := 102) rfl) (hS.fact (k := 103) rfl) x60 (Aq631) (cq631) (hS.fact (k := 117) rfl) r64 hr64) ?_); clear hS a; intro v67 a w hK hp hS
      clear hK
      obtain rfl := hp
      refine qq hS rfl (y_eql hS rfl rfl) fun a hS => ?_
      apply wN
      refine c_dec hS rfl (fun hc69 => ?_) (fun hc69 => ?_)
      ·replace hg := br_t hg hc69
       obtain ⟨hk71, hg⟩ := chk_some hg
       apply wp_region_lit
       refine qq hS rfl (y_move hS rfl) fun a hS => ?_
       refine qq hS rfl (y_move hS rfl) fun a hS => ?_
       refine l_seq rfl (l_buildDense (sz := 1) hS 2402 rfl rfl rfl Try.underlying29 rfl rfl rfl rfl rfl rfl rfl ?_); clear hS a; intro b74 a w hbb74 hK hS
       clear hbb74 hK
       replace hS := hS.add 120 (rdF (Rep.list (Rep.num .i64)) (cellsOfL [.slice (Aq631) ((x60).length) (cq631)]) ([x60])) (RdAll.cons (by exact ⟨_, _, _, rfl, (hS.fact (k := 117) rfl)⟩) (RdAll.nil _ _ _))
       have hs76 := row_src (hS.wd.holds 2402 _ rfl) (RdAll.one (hS.fact (k := 120) rfl))
       refine l_seq rfl (l_append (sz := 1) (by_ := 24) (N := (t_52 ++ [x60]).length) (ys := cs55 ++ (cellsOfL [.slice (Aq631) ((x60).length) (cq631)])) hS 700114 rfl rfl rfl Try.underlying29 rfl rfl rfl rfl rfl hs76 (by simp) rfl (by have hr := hk71; clear hg; first | omega | (simp only [List.length_append, List.length_cons, List.length_nil] at hr ⊢; omega) | (simp at hr ⊢; omega)) (by have hr := hk71; clear hg; first | omega | (simp only [List.length_append, List.length_cons, List.length_nil] at hr ⊢; omega) | (simp at hr ⊢; omega)) rfl ?_); clear hS a; intro Aq75 cq75 a w hA hK hS
       clear hK hA
       replace hS := hS.add 121 (rdF (Rep.list (Rep.num .i64)) (cs55 ++ (cellsOfL [.slice (Aq631) ((x60).length) (cq631)])) (t_52 ++ [x60])) (RdAll.append (hS.fact (k := 115) rfl) (hS.fact (k := 120) rfl))
       refine qq hS rfl (y_assign hS rfl) fun a hS => ?_
       apply wpList_nil
       refine p_inN ?_
       refine p_norm ?_
       apply wp_region_lit
       refine qq hS rfl (y_addN (i := t_56) (j := 1) hS rfl rfl (in64.2 (by omega))) fun a hS => ?_
       refine qq hS rfl (y_move hS rfl) fun a hS => ?_
       apply wN
       replace hS := hS.add 115 (rdF (Rep.list (Rep.num .i64)) (cs55 ++ (cellsOfL [.slice (Aq631) ((x60).length) (cq631)])) (t_52 ++ [x60])) (hS.fact (k := 121) rfl)
       exact ⟨m1, Nat.lt_succ_self _, ⟨(t_52 ++ [x60]), (t_56 + 1), (Aq75), (cq75), (cs55 ++ (cellsOfL [.slice (Aq631) ((x60).length) (cq631)])), hg, (hS.sb rfl rfl rfl)⟩⟩
      ·replace hg := br_f hg hc69
       apply wp_skip
       refine p_inN ?_
       refine p_norm ?_
       apply wp_region_lit
       refine qq hS rfl (y_addN (i := t_56) (j := 1) hS rfl rfl (in64.2 (by omega))) fun a hS => ?_
       refine qq hS rfl (y_move hS rfl) fun a hS => ?_
       apply wN
       replace hS := hS.al 115 115 rfl
       exact ⟨m1, Nat.lt_succ_self _, ⟨(t_52), (t_56 + 1), (A53), (c54), (cs55), hg, (hS.sb rfl rfl rfl)⟩⟩
     ·replace hg := br_f hg hc57
      apply wp_exit
      refine p_then ?_
      refine p_then ?_
      refine p_in ?_
      refine p_norm ?_
      replace hS := hS.al 113 115 rfl
      replace hS := hS.pk [(1000, 1000), (700112, 700114)] (by decide)
      exact ⟨(t_52), (A53), (c54), (cs55), hg, (hS.sb rfl rfl rfl)⟩
    clear hS a; rintro a w ⟨t_48, A49, c50, cs51, hg, hS⟩
    subst hk47
    apply wp_seq
    obtain ⟨r77, hr77, hg⟩ := bind_some hg
    rcases Bool.eq_false_or_eq_true (r77) with hs80 | hs80
    ·replace hg := br_t hg hs80
     obtain ⟨r81, hr81, hg⟩ := bind_some hg
     apply wp_region_lit
     refine qq hS rfl (y_move hS rfl) fun a hS => ?_
     refine qq hS rfl (y_move hS rfl) fun a hS => ?_
     have hT := hS
     replace hT := hT.fz (R := (Rep.list (Rep.num .i64))) (kk := 700112) [] 123 rfl rfl (hT.fact (k := 113) rfl) rfl
     refine l_seq rfl (l_call (cap := []) hS rfl Try.func14 rfl (by kernel_rfl) rfl rfl (c_r42_Same n _ _ hT.lt r14.1 (Au18a1) (cu18a1) (hT.fact (k := 105) rfl) t_48 (A49) (c50) (hT.fact (k := 123) rfl) r77 hr77) ?_); clear hS hT a; intro v84 a w hK hp hS
     clear hK
     obtain rfl := hp.trans (congrArg Value.bool hs80)
     refine qq hS rfl (y_move hS rfl) fun a hS => ?_
     refine gl hS rfl (l_call (cap := []) hS rfl Try.func8 rfl (by kernel_rfl) rfl rfl (c_law42_exampleHolds n _ _ hS.lt  r81 hr81) ?_); clear hS a; intro v86 a w hK hp hS
     clear hK
     obtain rfl := hp
     refine qq hS rfl (y_pick_t hS rfl rfl) fun a hS => ?_
     refine qq hS rfl (y_assign hS rfl) fun a hS => ?_
     apply wN
     apply wp_ret
     obtain rfl := Option.some.inj hg
     refine fin1 (fn := Try.f3) hS rfl (r_tmp hS rfl) ?_
     exact rfl
    ·replace hg := br_f hg (by rw [hs80]; exact Bool.false_ne_true)
     apply wp_region_lit
     refine qq hS rfl (y_move hS rfl) fun a hS => ?_
     refine qq hS rfl (y_move hS rfl) fun a hS => ?_
     have hT := hS
     replace hT := hT.fz (R := (Rep.list (Rep.num .i64))) (kk := 700112) [] 124 rfl rfl (hT.fact (k := 113) rfl) rfl
     refine l_seq rfl (l_call (cap := []) hS rfl Try.func14 rfl (by kernel_rfl) rfl rfl (c_r42_Same n _ _ hT.lt r14.1 (Au18a1) (cu18a1) (hT.fact (k := 105) rfl) t_48 (A49) (c50) (hT.fact (k := 124) rfl) r77 hr77) ?_); clear hS hT a; intro v88 a w hK hp hS
     clear hK
     obtain rfl := hp.trans (congrArg Value.bool hs80)
     refine qq hS rfl (y_move hS rfl) fun a hS => ?_
     refine gn hS rfl fun a hS => ?_
     refine qq hS rfl (y_pick_f hS rfl rfl) fun a hS => ?_
     refine qq hS rfl (y_assign hS rfl) fun a hS => ?_
     apply wN
     apply wp_ret
     obtain rfl := Option.some.inj hg
     refine fin1 (fn := Try.f3) hS rfl (r_tmp hS rfl) ?_
     exact rfl
end Go.Proofs.Ytdicfdfncbmmpaa

/- Chapter 42: the walks, part 2 -/
import Derived.Test.YtdicfdfncbmmpaaW1
namespace Go.Proofs.Ytdicfdfncbmmpaa
open Go.Gl Go.RowKit
set_option linter.unusedVariables false
set_option linter.unusedSimpArgs false
set_option maxRecDepth 4000

set_option maxHeartbeats 400000 in
theorem c_scope_tree_children (n : Nat) (M : Bs) (w0 : World) (hM : ∀ b, M b → b < w0.heap.size) (t_ : tree) (Ap03 : Option Addr) (cp03 : Nat) (Ap04 : Option Addr) (cp04 : Nat) (Ap05 : Option Addr) (cp05 : Nat) (Ap06 : Option Addr) (cp06 : Nat) (Ap07 : Option Addr) (cp07 : Nat) (hp03 : SlR Rep.str M w0 Ap03 (t_.m_.Vars).length cp03 (t_.m_.Vars)) (hp04 : SlR REP M w0 Ap04 (t_.m_.Rels).length cp04 (t_.m_.Rels)) (hp05 : SlR RQeq M w0 Ap05 (t_.m_.Cons).length cp05 (t_.m_.Cons)) (hp06 : SlR (Rep.num .i64) M w0 Ap06 (t_.labels_).length cp06 (t_.labels_)) (hp07 : SlR (Rep.num .i64) M w0 Ap07 (t_.at_).length cp07 (t_.at_)) (label_ : Int) (r : (List Int)) (hg : scope_tree_children n t_ label_ = some r) :
    Calls Try.prog 49 [.agg #[.int .i64 (t_.m_.Top), .int .i64 (t_.m_.Index), .slice (Ap03) ((t_.m_.Vars).length) (cp03), .slice (Ap04) ((t_.m_.Rels).length) (cp04), .slice (Ap05) ((t_.m_.Cons).length) (cp05), .slice (Ap06) ((t_.labels_).length) (cp06), .slice (Ap07) ((t_.at_).length) (cp07)], .int .i64 (label_)].toArray w0 (Ret noB w0 fun v w => ∃ (Aa1 : Option Addr), ∃ (ca1 : Nat), v = .slice (Aa1) ((r).length) (ca1) ∧ (SlR (Rep.num .i64) M w Aa1 (r).length ca1 (r))) := by
 unfold scope_tree_children at hg
 refine enter M noB Try.func49 rfl rfl hM ?_
 intro a hS
 replace hS := hS.es 101 hp03
 replace hS := hS.es 102 hp04
 replace hS := hS.es 103 hp05
 replace hS := hS.es 104 hp06
 replace hS := hS.es 105 hp07
 apply wR
 refine l_seq rfl (l_box (zs := [.int .i64 (t_.m_.Top), .int .i64 (t_.m_.Index), .slice (Ap03) ((t_.m_.Vars).length) (cp03), .slice (Ap04) ((t_.m_.Rels).length) (cp04), .slice (Ap05) ((t_.m_.Cons).length) (cp05), .slice (Ap06) ((t_.labels_).length) (cp06), .slice (Ap07) ((t_.at_).length) (cp07)]) hS 1000 rfl rfl rfl rfl ?_); clear hS a; intro b2 a w hb hK hS
 clear hb hK
 refine qq hS rfl (y_assign hS rfl) fun a hS => ?_
 apply wN
 apply wR
 refine qq hS rfl (y_assign hS rfl) fun a hS => ?_
 apply wN
 apply wp_seq
 apply wR
 refine qq hS rfl (y_boxField (o' := 0) hS rfl Try.underlying59 rfl rfl rfl) fun a hS => ?_
 refine qq hS rfl (y_boxField (o' := 3) hS rfl Try.underlying26 rfl rfl rfl) fun a hS => ?_
 refine qq hS rfl (y_loadBox1 (kk := 1000) hS rfl rfl rfl Try.underlying23 rfl) fun a hS => ?_
 refine qq hS rfl (y_lenSlice hS rfl Try.underlying23) fun a hS => ?_
 refine qq hS rfl (y_move hS rfl) fun a hS => ?_
 apply wN
 apply wp_block
 replace hS := hS.nilRow 700106 3 1 rfl
 replace hS := hS.add 107 (rdF (Rep.num .i64) [] []) (RdAll.nil _ _ _)
 refine c_loop (σ := Nat) (fun m1 a w => ∃ (out_3 : (List Int)), ∃ (t_7 : Nat), ∃ (A4 : Option Addr), ∃ (c5 : Nat), ∃ (cs6 : List Value), scope_tree_children_L0 n t_ label_ m1 out_3 t_7 = some r ∧ St (⟨Try.f49.ntmps, M, noB, w0⟩ : Ctx) [(1, .int .i64 (label_)), (2, .pointer (some ⟨b2, 0, none⟩)), (5, .slice (A4) ((out_3).length) (c5)), (13, .slice (Ap04) ((t_.m_.Rels).length) (cp04)), (14, .int .i64 ((((t_.m_.Rels).length : Nat) : Int))), (15, .int .i64 (((t_7 : Nat) : Int)))] [(1000, Ob.box b2 [.int .i64 (t_.m_.Top), .int .i64 (t_.m_.Index), .slice (Ap03) ((t_.m_.Vars).length) (cp03), .slice (Ap04) ((t_.m_.Rels).length) (cp04), .slice (Ap05) ((t_.m_.Cons).length) (cp05), .slice (Ap06) ((t_.labels_).length) (cp06), .slice (Ap07) ((t_.at_).length) (cp07)] 59), (700106, Ob.row (A4) ((out_3).length) (c5) 3 1 (cs6))] [(101, slF Rep.str (Ap03) ((t_.m_.Vars).length) (cp03) (t_.m_.Vars)), (102, slF REP (Ap04) ((t_.m_.Rels).length) (cp04) (t_.m_.Rels)), (103, slF RQeq (Ap05) ((t_.m_.Cons).length) (cp05) (t_.m_.Cons)), (104, slF (Rep.num .i64) (Ap06) ((t_.labels_).length) (cp06) (t_.labels_)), (105, slF (Rep.num .i64) (Ap07) ((t_.at_).length) (cp07) (t_.at_)), (107, rdF (Rep.num .i64) (cs6) (out_3))] a w) (fun m1 => m1) n ⟨([]), (0), (none), (0), ([]), hg, (hS.sb rfl rfl rfl)⟩ ?_
 clear hS a; rintro m1 a w ⟨out_3, t_7, A4, c5, cs6, hg, hS⟩
 rcases m1 with _ | m1
 ·rw [scope_tree_children_L0] at hg; cases hg
 rw [scope_tree_children_L0] at hg
 apply wR
 refine qq hS rfl (y_lssN (i := t_7) (j := ((t_.m_.Rels).length)) hS rfl rfl) fun a hS => ?_
 apply wN
 apply wp_seq
 refine c_dec hS rfl (fun hc8 => ?_) (fun hc8 => ?_)
 ·replace hg := br_t hg hc8
  have hmx9 := SlR.mx (hS.fact (k := 102) rfl)
  apply wp_skip
  refine p_norm ?_
  apply wp_seq
  obtain ⟨k10, hg, hk10⟩ := jn_some hg
  refine c_post (fun a w => ∃ (out_11 : (List Int)), ∃ (A12 : Option Addr), ∃ (c13 : Nat), ∃ (cs14 : List Value), k10 out_11 = some r ∧ St (⟨Try.f49.ntmps, M, noB, w0⟩ : Ctx) [(1, .int .i64 (label_)), (2, .pointer (some ⟨b2, 0, none⟩)), (5, .slice (A12) ((out_11).length) (c13)), (13, .slice (Ap04) ((t_.m_.Rels).length) (cp04)), (14, .int .i64 ((((t_.m_.Rels).length : Nat) : Int))), (15, .int .i64 (((t_7 : Nat) : Int)))] [(1000, Ob.box b2 [.int .i64 (t_.m_.Top), .int .i64 (t_.m_.Index), .slice (Ap03) ((t_.m_.Vars).length) (cp03), .slice (Ap04) ((t_.m_.Rels).length) (cp04), .slice (Ap05) ((t_.m_.Cons).length) (cp05), .slice (Ap06) ((t_.labels_).length) (cp06), .slice (Ap07) ((t_.at_).length) (cp07)] 59), (700108, Ob.row (A12) ((out_11).length) (c13) 3 1 (cs14))] [(101, slF Rep.str (Ap03) ((t_.m_.Vars).length) (cp03) (t_.m_.Vars)), (102, slF REP (Ap04) ((t_.m_.Rels).length) (cp04) (t_.m_.Rels)), (103, slF RQeq (Ap05) ((t_.m_.Cons).length) (cp05) (t_.m_.Cons)), (104, slF (Rep.num .i64) (Ap06) ((t_.labels_).length) (cp06) (t_.labels_)), (105, slF (Rep.num .i64) (Ap07) ((t_.at_).length) (cp07) (t_.at_)), (109, rdF (Rep.num .i64) (cs14) (out_11))] a w) ?_ ?_
  ·apply wp_block
   apply wp_seq
   obtain ⟨x16, hx16, hg⟩ := bind_some hg
   apply wp_region_lit
   obtain ⟨p19, hep19, hpp19⟩ := SlR.elemX (hS.fact (k := 102) rfl) hx16
   refine qq hS rfl (y_elem (sz := 3) (i := t_7) hS rfl rfl Try.underlying23 rfl hep19 rfl (lt_of_get hx16)) fun a hS => ?_
   obtain ⟨hlq20, hmq20, csq20, hdq20, hcq20⟩ := hpp19
   obtain ⟨Aq203, cq203, rfl, lq201, hq203⟩ := REP.open hdq20
   replace hS := hS.add 111 (slF RArg (Aq203) ((x16.Args).length) (cq203) (x16.Args)) hq203
   refine qq hS rfl (y_ldp hS rfl hlq20 hmq20 (by simpa using hcq20) Try.underlying55 rfl rfl) fun a hS => ?_
   refine l_seq rfl (l_alloc (zs := [.string (bs ([])), .int .i64 (0), .slice (none) (0) (0)]) hS 1402 rfl rfl rfl rfl ?_); clear hS a; intro b21 a w hb hK hS
   clear hb hK
   refine l_seq rfl (l_store (n := 3) (cs' := [.string (bs (x16.Pred)), .int .i64 (x16.Label), .slice (Aq203) ((x16.Args).length) (cq203)]) hS 1402 rfl rfl rfl rfl rfl rfl rfl rfl ?_); clear hS; intro w hK hS; clear hK
   apply wN
   apply wp_seq
   apply wR
   refine qq hS rfl (y_boxField (o' := 1) hS rfl Try.underlying55 rfl rfl rfl) fun a hS => ?_
   refine qq hS rfl (y_loadBox1 (kk := 1402) hS rfl rfl rfl Try.underlying3 rfl) fun a hS => ?_
   refine qq hS rfl (y_move hS rfl) fun a hS => ?_
   refine qq hS rfl (y_neq hS rfl rfl) fun a hS => ?_
   apply wN
   refine c_dec hS rfl (fun hc22 => ?_) (fun hc22 => ?_)
   ·replace hg := br_t hg hc22
    apply wp_exit
    refine p_then ?_
    refine p_in ?_
    refine p_norm ?_
    replace hS := hS.al 109 107 rfl
    replace hS := hS.pk [(1000, 1000), (1402, 1402), (700108, 700106)] (by decide)
    exact ⟨(out_3), (A4), (c5), (cs6), hg, (hS.sb rfl rfl rfl)⟩
   ·replace hg := br_f hg hc22
    apply wp_skip
    refine p_norm ?_
    apply wR
    refine qq hS rfl (y_boxField (o' := 2) hS rfl Try.underlying55 rfl rfl rfl) fun a hS => ?_
    refine qq hS rfl (y_loadBox1 (kk := 1402) hS rfl rfl rfl Try.underlying53 rfl) fun a hS => ?_
    refine qq hS rfl (y_lenSlice hS rfl Try.underlying53) fun a hS => ?_
    refine qq hS rfl (y_move hS rfl) fun a hS => ?_
    apply wN
    apply wp_block
    replace hS := hS.al 113 107 rfl
    replace hS := hS.pk [(1000, 1000), (1402, 1402), (700112, 700106)] (by decide)
    refine c_loop (σ := Nat) (fun m2 a w => ∃ (out_23 : (List Int)), ∃ (t_27 : Nat), ∃ (A24 : Option Addr), ∃ (c25 : Nat), ∃ (cs26 : List Value), scope_tree_children_L1 n t_ k10 x16 m2 out_23 t_27 = some r ∧ St (⟨Try.f49.ntmps, M, noB, w0⟩ : Ctx) [(1, .int .i64 (label_)), (2, .pointer (some ⟨b2, 0, none⟩)), (5, .slice (A24) ((out_23).length) (c25)), (13, .slice (Ap04) ((t_.m_.Rels).length) (cp04)), (14, .int .i64 ((((t_.m_.Rels).length : Nat) : Int))), (15, .int .i64 (((t_7 : Nat) : Int))), (24, .slice (Aq203) ((x16.Args).length) (cq203)), (25, .int .i64 ((((x16.Args).length : Nat) : Int))), (26, .int .i64 (((t_27 : Nat) : Int)))] [(1000, Ob.box b2 [.int .i64 (t_.m_.Top), .int .i64 (t_.m_.Index), .slice (Ap03) ((t_.m_.Vars).length) (cp03), .slice (Ap04) ((t_.m_.Rels).length) (cp04), .slice (Ap05) ((t_.m_.Cons).length) (cp05), .slice (Ap06) ((t_.labels_).length) (cp06), .slice (Ap07) ((t_.at_).length) (cp07)] 59), (700112, Ob.row (A24) ((out_23).length) (c25) 3 1 (cs26))] [(101, slF Rep.str (Ap03) ((t_.m_.Vars).length) (cp03) (t_.m_.Vars)), (102, slF REP (Ap04) ((t_.m_.Rels).length) (cp04) (t_.m_.Rels)), (103, slF RQeq (Ap05) ((t_.m_.Cons).length) (cp05) (t_.m_.Cons)), (104, slF (Rep.num .i64) (Ap06) ((t_.labels_).length) (cp06) (t_.labels_)), (105, slF (Rep.num .i64) (Ap07) ((t_.at_).length) (cp07) (t_.at_)), (111, slF RArg (Aq203) ((x16.Args).length) (cq203) (x16.Args)), (113, rdF (Rep.num .i64) (cs26) (out_23))] a w) (fun m2 => m2) n ⟨(out_3), (0), (A4), (c5), (cs6), hg, (hS.sb rfl rfl rfl)⟩ ?_
    clear hS a; rintro m2 a w ⟨out_23, t_27, A24, c25, cs26, hg, hS⟩
    rcases m2 with _ | m2
    ·rw [scope_tree_children_L1] at hg; cases hg
    rw [scope_tree_children_L1] at hg
    apply wR
    refine qq hS rfl (y_lssN (i := t_27) (j := ((x16.Args).length)) hS rfl rfl) fun a hS => ?_
    apply wN
    apply wp_seq
    refine c_dec hS rfl (fun hc28 => ?_) (fun hc28 => ?_)
    ·replace hg := br_t hg hc28
     have hmx29 := SlR.mx (hS.fact (k := 111) rfl)
     apply wp_skip
     refine p_norm ?_
     apply wp_seq
     apply wp_block
     apply wp_seq
     obtain ⟨x31, hx31, hg⟩ := bind_some hg
     apply wp_region_lit
     obtain ⟨p34, hep34, hpp34⟩ := SlR.elemX (hS.fact (k := 111) rfl) hx31
     refine qq hS rfl (y_elem (sz := 2) (i := t_27) hS rfl rfl Try.underlying53 rfl hep34 rfl (lt_of_get hx31)) fun a hS => ?_
     obtain ⟨hlq35, hmq35, csq35, hdq35, hcq35⟩ := hpp34
     obtain ⟨rfl, lq351⟩ := RArg.open hdq35
     refine qq hS rfl (y_ldp hS rfl hlq35 hmq35 (by simpa using hcq35) Try.underlying76 rfl rfl) fun a hS => ?_
     refine l_seq rfl (l_alloc (zs := [.string (bs ([])), .int .i64 (0)]) hS 1802 rfl rfl rfl rfl ?_); clear hS a; intro b36 a w hb hK hS
     clear hb hK
     refine l_seq rfl (l_store (n := 2) (cs' := [.string (bs (x31.Role)), .int .i64 (x31.Var)]) hS 1802 rfl rfl rfl rfl rfl rfl rfl rfl ?_); clear hS; intro w hK hS; clear hK
     apply wN
     apply wp_seq
     obtain ⟨x38, hx38, hg⟩ := bind_some hg
     apply wp_region_lit
     refine qq hS rfl (y_boxField (o' := 6) hS rfl Try.underlying59 rfl rfl rfl) fun a hS => ?_
     refine qq hS rfl (y_loadBox1 (kk := 1000) hS rfl rfl rfl Try.underlying33 rfl) fun a hS => ?_
     refine qq hS rfl (y_boxField (o' := 1) hS rfl Try.underlying76 rfl rfl rfl) fun a hS => ?_
     refine qq hS rfl (y_loadBox1 (kk := 1802) hS rfl rfl rfl Try.underlying3 rfl) fun a hS => ?_
     obtain ⟨p40, hep40, hpp40⟩ := SlR.elemX (hS.fact (k := 105) rfl) (ix_some hx38).1
     refine qq hS rfl (y_elem (sz := 1) (i := ((x31.Var).toNat)) hS rfl rfl Try.underlying33 rfl hep40 (ix_some hx38).2.1 (lt_of_get (ix_some hx38).1)) fun a hS => ?_
     obtain ⟨hlq41, hmq41, csq41, hdq41, hcq41⟩ := hpp40
     obtain rfl := hdq41
     refine qq hS rfl (y_ldp1 hS rfl hlq41 hmq41 (hcq41 0 _ rfl) Try.underlying3 rfl) fun a hS => ?_
     refine qq hS rfl (y_assign hS rfl) fun a hS => ?_
     apply wN
     apply wR
     refine qq hS rfl (y_move hS rfl) fun a hS => ?_
     refine qq hS rfl (y_geq hS rfl rfl) fun a hS => ?_
     apply wN
     refine c_dec hS rfl (fun hc42 => ?_) (fun hc42 => ?_)
     ·replace hg := br_t hg hc42
      obtain ⟨hk44, hg⟩ := chk_some hg
      apply wp_region_lit
      refine qq hS rfl (y_move hS rfl) fun a hS => ?_
      refine qq hS rfl (y_move hS rfl) fun a hS => ?_
      refine l_seq rfl (l_buildDense (sz := 1) hS 2102 rfl rfl rfl Try.underlying33 rfl rfl rfl rfl rfl rfl rfl ?_); clear hS a; intro b47 a w hbb47 hK hS
      clear hbb47 hK
      replace hS := hS.add 116 (rdF (Rep.num .i64) (cellsOfL [.int .i64 (x38)]) ([x38])) (RdAll.cons (by exact rfl) (RdAll.nil _ _ _))
      have hs49 := row_src (hS.wd.holds 2102 _ rfl) (RdAll.one (hS.fact (k := 116) rfl))
      refine l_seq rfl (l_append (sz := 1) (by_ := 8) (N := (out_23 ++ [x38]).length) (ys := cs26 ++ (cellsOfL [.int .i64 (x38)])) hS 700112 rfl rfl rfl Try.underlying33 rfl rfl rfl rfl rfl hs49 (by simp) rfl (by have hr := hk44; clear hg; first | omega | (simp only [List.length_append, List.length_cons, List.length_nil] at hr ⊢; omega) | (simp at hr ⊢; omega)) (by have hr := hk44; clear hg; first | omega | (simp only [List.length_append, List.length_cons, List.length_nil] at hr ⊢; omega) | (simp at hr ⊢; omega)) rfl ?_); clear hS a; intro Aq48 cq48 a w hA hK hS
      clear hK hA
      replace hS := hS.add 117 (rdF (Rep.num .i64) (cs26 ++ (cellsOfL [.int .i64 (x38)])) (out_23 ++ [x38])) (RdAll.append (hS.fact (k := 113) rfl) (hS.fact (k := 116) rfl))
      refine qq hS rfl (y_assign hS rfl) fun a hS => ?_
      apply wpList_nil
      refine p_inN ?_
      refine p_norm ?_
      apply wp_region_lit
      refine qq hS rfl (y_addN (i := t_27) (j := 1) hS rfl rfl (in64.2 (by omega))) fun a hS => ?_
      refine qq hS rfl (y_move hS rfl) fun a hS => ?_
      apply wN
      replace hS := hS.al 113 117 rfl
      exact ⟨m2, Nat.lt_succ_self _, ⟨(out_23 ++ [x38]), (t_27 + 1), (Aq48), (cq48), (cs26 ++ (cellsOfL [.int .i64 (x38)])), hg, (hS.sb rfl rfl rfl)⟩⟩
     ·replace hg := br_f hg hc42
      apply wp_skip
      refine p_inN ?_
      refine p_norm ?_
      apply wp_region_lit
      refine qq hS rfl (y_addN (i := t_27) (j := 1) hS rfl rfl (in64.2 (by omega))) fun a hS => ?_
      refine qq hS rfl (y_move hS rfl) fun a hS => ?_
      apply wN
      replace hS := hS.al 113 113 rfl
      exact ⟨m2, Nat.lt_succ_self _, ⟨(out_23), (t_27 + 1), (A24), (c25), (cs26), hg, (hS.sb rfl rfl rfl)⟩⟩
    ·replace hg := br_f hg hc28
     apply wp_exit
     refine p_then ?_
     refine p_then ?_
     refine p_in ?_
     refine p_inN ?_
     refine p_norm ?_
     replace hS := hS.al 109 113 rfl
     replace hS := hS.pk [(1000, 1000), (700108, 700112)] (by decide)
     exact ⟨(out_23), (A24), (c25), (cs26), hg, (hS.sb rfl rfl rfl)⟩
  clear hS a; rintro a w ⟨out_11, A12, c13, cs14, hg, hS⟩
  subst hk10
  apply wp_region_lit
  refine qq hS rfl (y_addN (i := t_7) (j := 1) hS rfl rfl (in64.2 (by omega))) fun a hS => ?_
  refine qq hS rfl (y_move hS rfl) fun a hS => ?_
  apply wN
  replace hS := hS.al 107 109 rfl
  replace hS := hS.pk [(1000, 1000), (700106, 700108)] (by decide)
  exact ⟨m1, Nat.lt_succ_self _, ⟨(out_11), (t_7 + 1), (A12), (c13), (cs14), hg, (hS.sb rfl rfl rfl)⟩⟩
 ·replace hg := br_f hg hc8
  apply wp_exit
  refine p_then ?_
  refine p_then ?_
  refine p_in ?_
  refine p_norm ?_
  apply wR
  refine qq hS rfl (y_move hS rfl) fun a hS => ?_
  refine qq hS rfl (y_assign hS rfl) fun a hS => ?_
  apply wN
  apply wp_ret
  obtain rfl := Option.some.inj hg
  refine fin1 (fn := Try.f49) hS rfl (r_tmp hS rfl) ?_
  exact ⟨(A4), (c5), rfl, (hS.rowOut (R := (Rep.num .i64)) (kk := 700106) rfl rfl (hS.fact (k := 107) rfl))⟩
set_option maxHeartbeats 400000 in
theorem c_scope_tree_below (n : Nat) (M : Bs) (w0 : World) (hM : ∀ b, M b → b < w0.heap.size) (t_ : tree) (Ap03 : Option Addr) (cp03 : Nat) (Ap04 : Option Addr) (cp04 : Nat) (Ap05 : Option Addr) (cp05 : Nat) (Ap06 : Option Addr) (cp06 : Nat) (Ap07 : Option Addr) (cp07 : Nat) (hp03 : SlR Rep.str M w0 Ap03 (t_.m_.Vars).length cp03 (t_.m_.Vars)) (hp04 : SlR REP M w0 Ap04 (t_.m_.Rels).length cp04 (t_.m_.Rels)) (hp05 : SlR RQeq M w0 Ap05 (t_.m_.Cons).length cp05 (t_.m_.Cons)) (hp06 : SlR (Rep.num .i64) M w0 Ap06 (t_.labels_).length cp06 (t_.labels_)) (hp07 : SlR (Rep.num .i64) M w0 Ap07 (t_.at_).length cp07 (t_.at_)) (label_ : Int) (r : (List Int)) (hg : scope_tree_below n t_ label_ = some r) :
    Calls Try.prog 48 [.agg #[.int .i64 (t_.m_.Top), .int .i64 (t_.m_.Index), .slice (Ap03) ((t_.m_.Vars).length) (cp03), .slice (Ap04) ((t_.m_.Rels).length) (cp04), .slice (Ap05) ((t_.m_.Cons).length) (cp05), .slice (Ap06) ((t_.labels_).length) (cp06), .slice (Ap07) ((t_.at_).length) (cp07)], .int .i64 (label_)].toArray w0 (Ret noB w0 fun v w => ∃ (Aa1 : Option Addr), ∃ (ca1 : Nat), v = .slice (Aa1) ((r).length) (ca1) ∧ (SlR (Rep.num .i64) M w Aa1 (r).length ca1 (r))) := by
 unfold scope_tree_below at hg
 refine enter M noB Try.func48 rfl rfl hM ?_
 intro a hS
 replace hS := hS.es 101 hp03
 replace hS := hS.es 102 hp04
 replace hS := hS.es 103 hp05
 replace hS := hS.es 104 hp06
 replace hS := hS.es 105 hp07
 apply wR
 refine l_seq rfl (l_box (zs := [.int .i64 (t_.m_.Top), .int .i64 (t_.m_.Index), .slice (Ap03) ((t_.m_.Vars).length) (cp03), .slice (Ap04) ((t_.m_.Rels).length) (cp04), .slice (Ap05) ((t_.m_.Cons).length) (cp05), .slice (Ap06) ((t_.labels_).length) (cp06), .slice (Ap07) ((t_.at_).length) (cp07)]) hS 1000 rfl rfl rfl rfl ?_); clear hS a; intro b2 a w hb hK hS
 clear hb hK
 refine qq hS rfl (y_assign hS rfl) fun a hS => ?_
 apply wN
 apply wp_seq
 apply wp_seq
 obtain ⟨r3, hr3, hg⟩ := bind_some hg
 apply wp_region_lit
 refine qq hS rfl (y_boxField (o' := 5) hS rfl Try.underlying59 rfl rfl rfl) fun a hS => ?_
 refine qq hS rfl (y_loadBox1 (kk := 1000) hS rfl rfl rfl Try.underlying33 rfl) fun a hS => ?_
 refine qq hS rfl (y_move hS rfl) fun a hS => ?_
 refine l_seq rfl (l_call (cap := []) hS rfl Try.func23 rfl (by kernel_rfl) rfl rfl (c_slices_Contains_int n _ _ hS.lt t_.labels_ (Ap06) (cp06) (hS.fact (k := 104) rfl) label_ r3 hr3) ?_); clear hS a; intro v6 a w hK hp hS
 clear hK
 obtain rfl := hp
 refine qq hS rfl (y_not hS rfl) fun a hS => ?_
 apply wN
 refine c_cond hS rfl (fun hc8 => ?_) (fun hc8 => ?_)
 ·replace hg := br_t hg hc8
  apply wR
  refine qq hS rfl (y_assign hS rfl) fun a hS => ?_
  apply wN
  apply wp_ret
  refine p_thenR ?_
  obtain rfl := Option.some.inj hg
  refine fin1 (fn := Try.f48) hS rfl (r_tmp hS rfl) ?_
  exact ⟨(none), (0), rfl, (SlR.nil_ _ _ _)⟩
 ·replace hg := br_f hg (by rw [hc8]; exact Bool.false_ne_true)
  apply wp_skip
  refine p_norm ?_
  apply wR
  refine qq hS rfl (y_move hS rfl) fun a hS => ?_
  refine l_seq rfl (l_buildDense (sz := 1) hS 1301 rfl rfl rfl Try.underlying33 rfl rfl rfl rfl rfl rfl rfl ?_); clear hS a; intro b10 a w hbb10 hK hS
  clear hbb10 hK
  refine qq hS rfl (y_assign hS rfl) fun a hS => ?_
  apply wN
  apply wp_seq
  apply wR
  refine qq hS rfl (y_assign hS rfl) fun a hS => ?_
  apply wN
  obtain ⟨k11, hg, hk11⟩ := jn_some hg
  refine c_post (fun a w => ∃ (out_12 : (List Int)), ∃ (A13 : Option Addr), ∃ (c14 : Nat), ∃ (cs15 : List Value), k11 out_12 = some r ∧ St (⟨Try.f48.ntmps, M, noB, w0⟩ : Ctx) [(5, .slice (A13) ((out_12).length) (c14))] [(700106, Ob.row (A13) ((out_12).length) (c14) 3 1 (cs15))] [(107, rdF (Rep.num .i64) (cs15) (out_12))] a w) ?_ ?_
  ·apply wp_block
   replace hS := hS.add 110 (rdF (Rep.num .i64) (cellsOfL [.int .i64 (label_)]) ([label_])) (RdAll.cons (by exact rfl) (RdAll.nil _ _ _))
   replace hS := hS.al 109 110 rfl
   replace hS := hS.pk [(1000, 1000), (700108, 1301)] (by decide)
   refine c_loop (σ := Nat) (fun m1 a w => ∃ (out_16 : (List Int)), ∃ (i_20 : Nat), ∃ (A17 : Option Addr), ∃ (c18 : Nat), ∃ (cs19 : List Value), scope_tree_below_L0 n t_ k11 m1 out_16 i_20 = some r ∧ St (⟨Try.f48.ntmps, M, noB, w0⟩ : Ctx) [(2, .pointer (some ⟨b2, 0, none⟩)), (5, .slice (A17) ((out_16).length) (c18)), (6, .int .i64 (((i_20 : Nat) : Int)))] [(1000, Ob.box b2 [.int .i64 (t_.m_.Top), .int .i64 (t_.m_.Index), .slice (Ap03) ((t_.m_.Vars).length) (cp03), .slice (Ap04) ((t_.m_.Rels).length) (cp04), .slice (Ap05) ((t_.m_.Cons).length) (cp05), .slice (Ap06) ((t_.labels_).length) (cp06), .slice (Ap07) ((t_.at_).length) (cp07)] 59), (700108, Ob.row (A17) ((out_16).length) (c18) 3 1 (cs19))] [(101, slF Rep.str (Ap03) ((t_.m_.Vars).length) (cp03) (t_.m_.Vars)), (102, slF REP (Ap04) ((t_.m_.Rels).length) (cp04) (t_.m_.Rels)), (103, slF RQeq (Ap05) ((t_.m_.Cons).length) (cp05) (t_.m_.Cons)), (104, slF (Rep.num .i64) (Ap06) ((t_.labels_).length) (cp06) (t_.labels_)), (105, slF (Rep.num .i64) (Ap07) ((t_.at_).length) (cp07) (t_.at_)), (109, rdF (Rep.num .i64) (cs19) (out_16))] a w) (fun m1 => m1) n ⟨([label_]), (0), (some ⟨b10, 0, none⟩), (1), (cellsOfL [.int .i64 (label_)]), hg, (hS.sb rfl rfl rfl)⟩ ?_
   clear hS a; rintro m1 a w ⟨out_16, i_20, A17, c18, cs19, hg, hS⟩
   rcases m1 with _ | m1
   ·rw [scope_tree_below_L0] at hg; cases hg
   rw [scope_tree_below_L0] at hg
   apply wp_seq
   apply wR
   refine qq hS rfl (y_move hS rfl) fun a hS => ?_
   refine qq hS rfl (y_move hS rfl) fun a hS => ?_
   refine qq hS rfl (y_lenSlice hS rfl Try.underlying33) fun a hS => ?_
   refine qq hS rfl (y_lssN (i := i_20) (j := ((out_16).length)) hS rfl rfl) fun a hS => ?_
   apply wN
   refine c_dec hS rfl (fun hc21 => ?_) (fun hc21 => ?_)
   ·replace hg := br_t hg hc21
    have hmx22 := row_mx (hS.wd.holds 700108 _ rfl)
    apply wp_skip
    refine p_norm ?_
    apply wp_seq
    obtain ⟨k23, hg, hk23⟩ := jn_some hg
    refine c_post (fun a w => ∃ (out_24 : (List Int)), ∃ (A25 : Option Addr), ∃ (c26 : Nat), ∃ (cs27 : List Value), k23 out_24 = some r ∧ St (⟨Try.f48.ntmps, M, noB, w0⟩ : Ctx) [(2, .pointer (some ⟨b2, 0, none⟩)), (5, .slice (A25) ((out_24).length) (c26)), (6, .int .i64 (((i_20 : Nat) : Int)))] [(1000, Ob.box b2 [.int .i64 (t_.m_.Top), .int .i64 (t_.m_.Index), .slice (Ap03) ((t_.m_.Vars).length) (cp03), .slice (Ap04) ((t_.m_.Rels).length) (cp04), .slice (Ap05) ((t_.m_.Cons).length) (cp05), .slice (Ap06) ((t_.labels_).length) (cp06), .slice (Ap07) ((t_.at_).length) (cp07)] 59), (700111, Ob.row (A25) ((out_24).length) (c26) 3 1 (cs27))] [(101, slF Rep.str (Ap03) ((t_.m_.Vars).length) (cp03) (t_.m_.Vars)), (102, slF REP (Ap04) ((t_.m_.Rels).length) (cp04) (t_.m_.Rels)), (103, slF RQeq (Ap05) ((t_.m_.Cons).length) (cp05) (t_.m_.Cons)), (104, slF (Rep.num .i64) (Ap06) ((t_.labels_).length) (cp06) (t_.labels_)), (105, slF (Rep.num .i64) (Ap07) ((t_.at_).length) (cp07) (t_.at_)), (112, rdF (Rep.num .i64) (cs27) (out_24))] a w) ?_ ?_
    ·apply wp_block
     apply wp_seq
     obtain ⟨x29, hx29, hg⟩ := bind_some hg
     obtain ⟨r31, hr31, hg⟩ := bind_some hg
     refine d_plan hS [] [(0, some 1000), (1, some 0), (2, some 0), (3, some 0), (4, some 700108), (7, some 0), (5, none), (6, none)] rfl (by kernel_rfl) (by kernel_rfl) rfl ?_; clear hS; intro wr hZ hS; have hR := hS.wd
     refine q_take hS hR rfl rfl rfl rfl (y_loadBox (kk := 1000) (n := 7) (vs := [.int .i64 (t_.m_.Top), .int .i64 (t_.m_.Index), .slice (Ap03) ((t_.m_.Vars).length) (cp03), .slice (Ap04) ((t_.m_.Rels).length) (cp04), .slice (Ap05) ((t_.m_.Cons).length) (cp05), .slice (Ap06) ((t_.labels_).length) (cp06), .slice (Ap07) ((t_.at_).length) (cp07)]) hS rfl rfl Try.underlying59 rfl rfl rfl rfl) fun a hS => ?_
     refine q_take hS hR rfl rfl rfl rfl (y_move hS rfl) fun a hS => ?_
     refine q_take hS hR rfl rfl rfl rfl (y_move hS rfl) fun a hS => ?_
     obtain ⟨hiq34, bq34, hAq34⟩ := SlR.row1 (hS.wd.holds 700108 _ rfl) (hS.fact (k := 109) rfl) rfl rfl hx29
     refine q_take hS hR rfl rfl rfl rfl (y_rowIndex (sz := 1) (i := i_20) hS rfl rfl Try.underlying33 rfl hAq34 rfl hiq34) fun a hS => ?_
     have hz35 := (hS.fact (k := 109) rfl).at_ _ _ hx29
     have ez35 := hz35
     refine q_take hS hR rfl rfl rfl rfl (y_loadRow1 (kk := 700108) hS rfl rfl hAq34 (take1 ez35) Try.underlying3 rfl) fun a hS => ?_
     refine q_take hS hR rfl rfl rfl rfl (y_move hS rfl) fun a hS => ?_
     refine l_take hS rfl rfl (l_call (cap := []) hS rfl Try.func49 rfl (by kernel_rfl) rfl rfl (c_scope_tree_children n _ _ hS.lt t_ (Ap03) (cp03) (Ap04) (cp04) (Ap05) (cp05) (Ap06) (cp06) (Ap07) (cp07) (hS.fact (k := 101) rfl) (hS.fact (k := 102) rfl) (hS.fact (k := 103) rfl) (hS.fact (k := 104) rfl) (hS.fact (k := 105) rfl) x29 r31 hr31) ?_); clear hS a; intro v36 a w hK hp hS
     replace hZ := Nat.le_trans hZ hK.size; refine ⟨fun g _ h => h.grow hK, ?_⟩; clear hK
     obtain ⟨Au37a1, cu37a1, rfl, hu37a1⟩ := hp
     replace hS := hS.add 114 (slF (Rep.num .i64) (Au37a1) ((r31).length) (cu37a1) (r31)) hu37a1
     refine l_take hS rfl rfl (l_quiet hS rfl rfl (y_lenSlice hS rfl Try.underlying33) fun a hS => ?_); refine ⟨fun g _ h => h, ?_⟩
     clear hR hZ
     refine p_norm ?_
     apply wp_block
     replace hS := hS.al 116 109 rfl
     replace hS := hS.pk [(1000, 1000), (700115, 700108)] (by decide)
     refine c_loop (σ := Nat) (fun m2 a w => ∃ (out_38 : (List Int)), ∃ (t_42 : Nat), ∃ (A39 : Option Addr), ∃ (c40 : Nat), ∃ (cs41 : List Value), scope_tree_below_L1 n k23 r31 m2 out_38 t_42 = some r ∧ St (⟨Try.f48.ntmps, M, noB, w0⟩ : Ctx) [(2, .pointer (some ⟨b2, 0, none⟩)), (5, .slice (A39) ((out_38).length) (c40)), (6, .int .i64 (((i_20 : Nat) : Int))), (27, .slice (Au37a1) ((r31).length) (cu37a1)), (28, .int .i64 ((((r31).length : Nat) : Int))), (29, .int .i64 (((t_42 : Nat) : Int)))] [(1000, Ob.box b2 [.int .i64 (t_.m_.Top), .int .i64 (t_.m_.Index), .slice (Ap03) ((t_.m_.Vars).length) (cp03), .slice (Ap04) ((t_.m_.Rels).length) (cp04), .slice (Ap05) ((t_.m_.Cons).length) (cp05), .slice (Ap06) ((t_.labels_).length) (cp06), .slice (Ap07) ((t_.at_).length) (cp07)] 59), (700115, Ob.row (A39) ((out_38).length) (c40) 3 1 (cs41))] [(101, slF Rep.str (Ap03) ((t_.m_.Vars).length) (cp03) (t_.m_.Vars)), (102, slF REP (Ap04) ((t_.m_.Rels).length) (cp04) (t_.m_.Rels)), (103, slF RQeq (Ap05) ((t_.m_.Cons).length) (cp05) (t_.m_.Cons)), (104, slF (Rep.num .i64) (Ap06) ((t_.labels_).length) (cp06) (t_.labels_)), (105, slF (Rep.num .i64) (Ap07) ((t_.at_).length) (cp07) (t_.at_)), (114, slF (Rep.num .i64) (Au37a1) ((r31).length) (cu37a1) (r31)), (116, rdF (Rep.num .i64) (cs41) (out_38))] a w) (fun m2 => m2) n ⟨(out_16), (0), (A17), (c18), (cs19), hg, (hS.sb rfl rfl rfl)⟩ ?_
     clear hS a; rintro m2 a w ⟨out_38, t_42, A39, c40, cs41, hg, hS⟩
     rcases m2 with _ | m2
     ·rw [scope_tree_below_L1] at hg; cases hg
     rw [scope_tree_below_L1] at hg
     apply wR
     refine qq hS rfl (y_lssN (i := t_42) (j := ((r31).length)) hS rfl rfl) fun a hS => ?_
     apply wN
     apply wp_seq
     refine c_dec hS rfl (fun hc43 => ?_) (fun hc43 => ?_)
     ·replace hg := br_t hg hc43
      have hmx44 := SlR.mx (hS.fact (k := 114) rfl)
      apply wp_skip
      refine p_norm ?_
      apply wp_seq
      apply wp_block
      apply wp_seq
      obtain ⟨x46, hx46, hg⟩ := bind_some hg
      apply wp_region_lit
      obtain ⟨p48, hep48, hpp48⟩ := SlR.elemX (hS.fact (k := 114) rfl) hx46
      refine qq hS rfl (y_elem (sz := 1) (i := t_42) hS rfl rfl Try.underlying33 rfl hep48 rfl (lt_of_get hx46)) fun a hS => ?_
      obtain ⟨hlq49, hmq49, csq49, hdq49, hcq49⟩ := hpp48
      obtain rfl := hdq49
      refine qq hS rfl (y_ldp1 hS rfl hlq49 hmq49 (hcq49 0 _ rfl) Try.underlying3 rfl) fun a hS => ?_
      refine qq hS rfl (y_assign hS rfl) fun a hS => ?_
      apply wN
      apply wp_seq
      obtain ⟨r50, hr50, hg⟩ := bind_some hg
      apply wp_region_lit
      refine qq hS rfl (y_move hS rfl) fun a hS => ?_
      refine qq hS rfl (y_move hS rfl) fun a hS => ?_
      have hT := hS
      replace hT := hT.fz (R := (Rep.num .i64)) (kk := 700115) [1000] 118 rfl rfl (hT.fact (k := 116) rfl) rfl
      refine l_seq rfl (l_call (cap := []) hS rfl Try.func23 rfl (by kernel_rfl) rfl rfl (c_slices_Contains_int n _ _ hT.lt out_38 (A39) (c40) (hT.fact (k := 118) rfl) x46 r50 hr50) ?_); clear hS hT a; intro v53 a w hK hp hS
      clear hK
      obtain rfl := hp
      refine qq hS rfl (y_not hS rfl) fun a hS => ?_
      apply wN
      refine c_cond hS rfl (fun hc55 => ?_) (fun hc55 => ?_)
      ·replace hg := br_t hg hc55
       obtain ⟨hk57, hg⟩ := chk_some hg
       apply wp_region_lit
       refine qq hS rfl (y_move hS rfl) fun a hS => ?_
       refine qq hS rfl (y_move hS rfl) fun a hS => ?_
       refine l_seq rfl (l_buildDense (sz := 1) hS 2102 rfl rfl rfl Try.underlying33 rfl rfl rfl rfl rfl rfl rfl ?_); clear hS a; intro b60 a w hbb60 hK hS
       clear hbb60 hK
       replace hS := hS.add 121 (rdF (Rep.num .i64) (cellsOfL [.int .i64 (x46)]) ([x46])) (RdAll.cons (by exact rfl) (RdAll.nil _ _ _))
       have hs62 := row_src (hS.wd.holds 2102 _ rfl) (RdAll.one (hS.fact (k := 121) rfl))
       refine l_seq rfl (l_append (sz := 1) (by_ := 8) (N := (out_38 ++ [x46]).length) (ys := cs41 ++ (cellsOfL [.int .i64 (x46)])) hS 700115 rfl rfl rfl Try.underlying33 rfl rfl rfl rfl rfl hs62 (by simp) rfl (by have hr := hk57; clear hg; first | omega | (simp only [List.length_append, List.length_cons, List.length_nil] at hr ⊢; omega) | (simp at hr ⊢; omega)) (by have hr := hk57; clear hg; first | omega | (simp only [List.length_append, List.length_cons, List.length_nil] at hr ⊢; omega) | (simp at hr ⊢; omega)) rfl ?_); clear hS a; intro Aq61 cq61 a w hA hK hS
       clear hK hA
       replace hS := hS.add 122 (rdF (Rep.num .i64) (cs41 ++ (cellsOfL [.int .i64 (x46)])) (out_38 ++ [x46])) (RdAll.append (hS.fact (k := 116) rfl) (hS.fact (k := 121) rfl))
       refine qq hS rfl (y_assign hS rfl) fun a hS => ?_
       apply wpList_nil
       refine p_inN ?_
       refine p_norm ?_
       apply wp_region_lit
       refine qq hS rfl (y_addN (i := t_42) (j := 1) hS rfl rfl (in64.2 (by omega))) fun a hS => ?_
       refine qq hS rfl (y_move hS rfl) fun a hS => ?_
       apply wN
       replace hS := hS.al 116 122 rfl
       exact ⟨m2, Nat.lt_succ_self _, ⟨(out_38 ++ [x46]), (t_42 + 1), (Aq61), (cq61), (cs41 ++ (cellsOfL [.int .i64 (x46)])), hg, (hS.sb rfl rfl rfl)⟩⟩
      ·replace hg := br_f hg (by rw [hc55]; exact Bool.false_ne_true)
       apply wp_skip
       refine p_inN ?_
       refine p_norm ?_
       apply wp_region_lit
       refine qq hS rfl (y_addN (i := t_42) (j := 1) hS rfl rfl (in64.2 (by omega))) fun a hS => ?_
       refine qq hS rfl (y_move hS rfl) fun a hS => ?_
       apply wN
       replace hS := hS.al 116 116 rfl
       exact ⟨m2, Nat.lt_succ_self _, ⟨(out_38), (t_42 + 1), (A39), (c40), (cs41), hg, (hS.sb rfl rfl rfl)⟩⟩
     ·replace hg := br_f hg hc43
      apply wp_exit
      refine p_then ?_
      refine p_then ?_
      refine p_in ?_
      refine p_inN ?_
      refine p_norm ?_
      replace hS := hS.al 112 116 rfl
      replace hS := hS.pk [(1000, 1000), (700111, 700115)] (by decide)
      exact ⟨(out_38), (A39), (c40), (cs41), hg, (hS.sb rfl rfl rfl)⟩
    clear hS a; rintro a w ⟨out_24, A25, c26, cs27, hg, hS⟩
    subst hk23
    apply wp_region_lit
    refine qq hS rfl (y_move hS rfl) fun a hS => ?_
    refine qq hS rfl (y_addN (i := i_20) (j := 1) hS rfl rfl (in64.2 (by omega))) fun a hS => ?_
    refine qq hS rfl (y_assign hS rfl) fun a hS => ?_
    apply wN
    replace hS := hS.al 109 112 rfl
    replace hS := hS.pk [(1000, 1000), (700108, 700111)] (by decide)
    exact ⟨m1, Nat.lt_succ_self _, ⟨(out_24), (i_20 + 1), (A25), (c26), (cs27), hg, (hS.sb rfl rfl rfl)⟩⟩
   ·replace hg := br_f hg hc21
    apply wp_exit
    refine p_then ?_
    refine p_then ?_
    refine p_in ?_
    refine p_norm ?_
    replace hS := hS.al 107 109 rfl
    replace hS := hS.pk [(1000, 1000), (700106, 700108)] (by decide)
    exact ⟨(out_16), (A17), (c18), (cs19), hg, (hS.sb rfl rfl rfl)⟩
  clear hS a; rintro a w ⟨out_12, A13, c14, cs15, hg, hS⟩
  subst hk11
  apply wp_seq
  obtain ⟨r63, hr63, hg⟩ := bind_some hg
  apply wp_region_lit
  refine qq hS rfl (y_move hS rfl) fun a hS => ?_
  have hT := hS.pk [(9200000, 700106)] (by decide)
  replace hT := hT.al 9300000 107 rfl
  refine l_seq rfl (l_callMut (cap := []) hT _ [] (sbA (by rfl)) trivial (by rfl) rfl Try.func66 rfl (by kernel_rfl) rfl rfl (c_slices_Sort_int n _ _ (hT.restLt []) _ out_12 (A13) (c14) (cs15) (hT.wd.lendL _ _ _ (sbA (by rfl)) (keep_sub []) (by rfl) (sbA (by rfl))) r63 hr63) ?_); intro v66 a' w' hK hp hF
  obtain ⟨csm0_0u67, rfl, hWu67⟩ := hp
  have hS2 := St.mk hF (hT.wd.back (sbA (by rfl)) (keep_sub []) (by rfl) hWu67 (by rfl))
  clear hS hT hF hWu67 hK; revert hS2; revert w'; revert a'; intro a w hS
  replace hS := hS.al 124 9300000 rfl
  replace hS := hS.ren [(700106, Ob.row (A13) ((out_12).length) (c14) 3 1 (csm0_0u67))] [9200000] ⟨rfl, trivial⟩ (by decide)
  replace hS := hS.sub (l' := [(5, .slice (A13) ((out_12).length) (c14)), (42, .slice (A13) ((out_12).length) (c14)), (43, .tuple #[])]) (L' := [(700106, Ob.row (A13) ((out_12).length) (c14) 3 1 (csm0_0u67))]) (D' := [(107, rdF (Rep.num .i64) (cs15) (out_12)), (124, rdF (Rep.num .i64) (csm0_0u67) (r63))]) ⟨rfl, rfl, rfl, trivial⟩ ⟨rfl, trivial⟩ ⟨rfl, rfl, trivial⟩
  have hrlu670 := rowN (hS.wd.holds 700106 _ rfl) (hS.fact (k := 124) rfl) rfl rfl
  replace hS := hS.eqs (l' := [(5, .slice (A13) ((r63).length) (c14)), (42, .slice (A13) ((r63).length) (c14)), (43, .tuple #[])]) (L' := [(700106, Ob.row (A13) ((r63).length) (c14) 3 1 (csm0_0u67))]) (by simp only [hrlu670]) (by simp only [hrlu670])
  apply wN
  apply wR
  refine qq hS rfl (y_move hS rfl) fun a hS => ?_
  refine qq hS rfl (y_assign hS rfl) fun a hS => ?_
  apply wN
  apply wp_ret
  obtain rfl := Option.some.inj hg
  refine fin1 (fn := Try.f48) hS rfl (r_tmp hS rfl) ?_
  exact ⟨(A13), (c14), rfl, (hS.rowOut (R := (Rep.num .i64)) (kk := 700106) rfl rfl (hS.fact (k := 124) rfl))⟩
set_option maxHeartbeats 400000 in
theorem c_scope_tree_form (n : Nat) (M : Bs) (w0 : World) (hM : ∀ b, M b → b < w0.heap.size) (t_ : tree) (Ap03 : Option Addr) (cp03 : Nat) (Ap04 : Option Addr) (cp04 : Nat) (Ap05 : Option Addr) (cp05 : Nat) (Ap06 : Option Addr) (cp06 : Nat) (Ap07 : Option Addr) (cp07 : Nat) (hp03 : SlR Rep.str M w0 Ap03 (t_.m_.Vars).length cp03 (t_.m_.Vars)) (hp04 : SlR REP M w0 Ap04 (t_.m_.Rels).length cp04 (t_.m_.Rels)) (hp05 : SlR RQeq M w0 Ap05 (t_.m_.Cons).length cp05 (t_.m_.Cons)) (hp06 : SlR (Rep.num .i64) M w0 Ap06 (t_.labels_).length cp06 (t_.labels_)) (hp07 : SlR (Rep.num .i64) M w0 Ap07 (t_.at_).length cp07 (t_.at_)) (r : Bool) (hg : scope_tree_form n t_ = some r) :
    Calls Try.prog 30 [.agg #[.int .i64 (t_.m_.Top), .int .i64 (t_.m_.Index), .slice (Ap03) ((t_.m_.Vars).length) (cp03), .slice (Ap04) ((t_.m_.Rels).length) (cp04), .slice (Ap05) ((t_.m_.Cons).length) (cp05), .slice (Ap06) ((t_.labels_).length) (cp06), .slice (Ap07) ((t_.at_).length) (cp07)]].toArray w0 (Ret noB w0 fun v w => v = .bool (r)) := by
 unfold scope_tree_form at hg
 refine enter M noB Try.func30 rfl rfl hM ?_
 intro a hS
 replace hS := hS.es 101 hp03
 replace hS := hS.es 102 hp04
 replace hS := hS.es 103 hp05
 replace hS := hS.es 104 hp06
 replace hS := hS.es 105 hp07
 apply wR
 refine l_seq rfl (l_box (zs := [.int .i64 (t_.m_.Top), .int .i64 (t_.m_.Index), .slice (Ap03) ((t_.m_.Vars).length) (cp03), .slice (Ap04) ((t_.m_.Rels).length) (cp04), .slice (Ap05) ((t_.m_.Cons).length) (cp05), .slice (Ap06) ((t_.labels_).length) (cp06), .slice (Ap07) ((t_.at_).length) (cp07)]) hS 1000 rfl rfl rfl rfl ?_); clear hS a; intro b2 a w hb hK hS
 clear hb hK
 refine qq hS rfl (y_assign hS rfl) fun a hS => ?_
 apply wN
 apply wp_seq
 obtain ⟨x4, hx4, hg⟩ := bind_some hg
 apply wp_region_lit
 refine qq hS rfl (y_boxField (o' := 6) hS rfl Try.underlying59 rfl rfl rfl) fun a hS => ?_
 refine qq hS rfl (y_loadBox1 (kk := 1000) hS rfl rfl rfl Try.underlying33 rfl) fun a hS => ?_
 refine qq hS rfl (y_boxField (o' := 0) hS rfl Try.underlying59 rfl rfl rfl) fun a hS => ?_
 refine qq hS rfl (y_boxField (o' := 0) hS rfl Try.underlying26 rfl rfl rfl) fun a hS => ?_
 refine qq hS rfl (y_loadBox1 (kk := 1000) hS rfl rfl rfl Try.underlying3 rfl) fun a hS => ?_
 obtain ⟨p6, hep6, hpp6⟩ := SlR.elemX (hS.fact (k := 105) rfl) (ix_some hx4).1
 refine qq hS rfl (y_elem (sz := 1) (i := ((t_.m_.Top).toNat)) hS rfl rfl Try.underlying33 rfl hep6 (ix_some hx4).2.1 (lt_of_get (ix_some hx4).1)) fun a hS => ?_
 obtain ⟨hlq7, hmq7, csq7, hdq7, hcq7⟩ := hpp6
 obtain rfl := hdq7
 refine qq hS rfl (y_ldp1 hS rfl hlq7 hmq7 (hcq7 0 _ rfl) Try.underlying3 rfl) fun a hS => ?_
 refine qq hS rfl (y_assign hS rfl) fun a hS => ?_
 apply wN
 apply wp_seq
 apply wp_seq
 obtain ⟨k8, hg, hk8⟩ := jn_some hg
 refine c_post (fun a w => ∃ (t_9 : Bool), k8 t_9 = some r ∧ St (⟨Try.f30.ntmps, M, noB, w0⟩ : Ctx) [(1, .pointer (some ⟨b2, 0, none⟩)), (3, .int .i64 (x4)), (29, .bool (t_9))] [(1000, Ob.box b2 [.int .i64 (t_.m_.Top), .int .i64 (t_.m_.Index), .slice (Ap03) ((t_.m_.Vars).length) (cp03), .slice (Ap04) ((t_.m_.Rels).length) (cp04), .slice (Ap05) ((t_.m_.Cons).length) (cp05), .slice (Ap06) ((t_.labels_).length) (cp06), .slice (Ap07) ((t_.at_).length) (cp07)] 59)] [(101, slF Rep.str (Ap03) ((t_.m_.Vars).length) (cp03) (t_.m_.Vars)), (102, slF REP (Ap04) ((t_.m_.Rels).length) (cp04) (t_.m_.Rels)), (103, slF RQeq (Ap05) ((t_.m_.Cons).length) (cp05) (t_.m_.Cons)), (104, slF (Rep.num .i64) (Ap06) ((t_.labels_).length) (cp06) (t_.labels_)), (105, slF (Rep.num .i64) (Ap07) ((t_.at_).length) (cp07) (t_.at_))] a w) ?_ ?_
 ·rcases Decidable.em (x4 < 0) with hs10 | hs10
  ·have hs10e : decide (x4 < 0) = true := decide_eq_true hs10
   replace hg := br_t hg hs10
   refine d_plan hS [] [(0, some 0), (1, some 0), (2, some 0), (3, some 0), (4, some 0), (5, some 0), (6, some 0), (7, some 0), (8, some 0), (9, some 0), (10, some 0), (11, some 0)] rfl (by kernel_rfl) (by kernel_rfl) rfl ?_; clear hS; intro wr hZ hS; have hR := hS.wd
   refine q_take hS hR rfl rfl rfl rfl (y_move hS rfl) fun a hS => ?_
   refine q_take hS hR rfl rfl rfl rfl (yl_b (y_lss hS rfl rfl) hs10e) fun a hS => ?_
   refine q_take hS hR rfl rfl rfl rfl (y_move hS rfl) fun a hS => ?_
   refine q_pass hS hR rfl rfl ⟨_, _, _, rfl, rfl, rfl, rfl⟩ rfl fun a hS => ?_
   refine q_pass hS hR rfl rfl ⟨_, _, _, rfl, rfl, rfl, rfl⟩ rfl fun a hS => ?_
   refine q_pass hS hR rfl rfl ⟨_, _, _, rfl, rfl, rfl, rfl⟩ rfl fun a hS => ?_
   refine q_pass hS hR rfl rfl ⟨_, _, _, rfl, rfl, rfl, rfl⟩ rfl fun a hS => ?_
   refine q_pass hS hR rfl rfl ⟨_, _, _, rfl, rfl, rfl, rfl⟩ rfl fun a hS => ?_
   refine q_pass hS hR rfl rfl ⟨_, _, _, rfl, rfl, rfl, rfl⟩ rfl fun a hS => ?_
   refine q_pass hS hR rfl rfl ⟨_, _, _, rfl, rfl, rfl, rfl⟩ rfl fun a hS => ?_
   refine q_pass hS hR rfl rfl ⟨_, _, _, rfl, rfl, rfl, rfl⟩ rfl fun a hS => ?_
   refine q_take hS hR rfl rfl rfl rfl (y_pick_t hS rfl rfl) fun a hS => ?_
   clear hR hZ
   refine p_norm ?_
   exact ⟨(true), hg, (hS.sb rfl rfl rfl)⟩
  ·have hs10e : decide (x4 < 0) = false := decide_eq_false hs10
   replace hg := br_f hg hs10
   obtain ⟨r11, hr11, hg⟩ := bind_some hg
   refine d_plan hS [] [(0, some 0), (1, some 0), (2, some 0), (3, some 1000), (4, some 0), (7, some 0), (8, some 1000), (9, some 0), (5, none), (6, none), (10, none), (11, none)] rfl (by kernel_rfl) (by kernel_rfl) rfl ?_; clear hS; intro wr hZ hS; have hR := hS.wd
   refine q_take hS hR rfl rfl rfl rfl (y_move hS rfl) fun a hS => ?_
   refine q_take hS hR rfl rfl rfl rfl (yl_b (y_lss hS rfl rfl) hs10e) fun a hS => ?_
   refine q_take hS hR rfl rfl rfl rfl (y_move hS rfl) fun a hS => ?_
   refine q_take hS hR rfl rfl ⟨_, _, _, rfl, rfl, rfl, rfl⟩ rfl (y_loadBox (kk := 1000) (n := 7) (vs := [.int .i64 (t_.m_.Top), .int .i64 (t_.m_.Index), .slice (Ap03) ((t_.m_.Vars).length) (cp03), .slice (Ap04) ((t_.m_.Rels).length) (cp04), .slice (Ap05) ((t_.m_.Cons).length) (cp05), .slice (Ap06) ((t_.labels_).length) (cp06), .slice (Ap07) ((t_.at_).length) (cp07)]) hS rfl rfl Try.underlying59 rfl rfl rfl rfl) fun a hS => ?_
   refine q_take hS hR rfl rfl ⟨_, _, _, rfl, rfl, rfl, rfl⟩ rfl (y_move hS rfl) fun a hS => ?_
   refine q_take hS hR rfl rfl ⟨_, _, _, rfl, rfl, rfl, rfl⟩ rfl (y_boxField (o' := 5) hS rfl Try.underlying59 rfl rfl rfl) fun a hS => ?_
   refine q_take hS hR rfl rfl ⟨_, _, _, rfl, rfl, rfl, rfl⟩ rfl (y_loadBox1 (kk := 1000) hS rfl rfl rfl Try.underlying33 rfl) fun a hS => ?_
   refine q_take hS hR rfl rfl ⟨_, _, _, rfl, rfl, rfl, rfl⟩ rfl (y_lenSlice hS rfl Try.underlying33) fun a hS => ?_
   refine l_take hS rfl ⟨_, _, _, rfl, rfl, rfl, rfl⟩ (l_call (cap := []) hS rfl Try.func48 rfl (by kernel_rfl) rfl rfl (c_scope_tree_below n _ _ hS.lt t_ (Ap03) (cp03) (Ap04) (cp04) (Ap05) (cp05) (Ap06) (cp06) (Ap07) (cp07) (hS.fact (k := 101) rfl) (hS.fact (k := 102) rfl) (hS.fact (k := 103) rfl) (hS.fact (k := 104) rfl) (hS.fact (k := 105) rfl) x4 r11 hr11) ?_); clear hS a; intro v14 a w hK hp hS
   replace hZ := Nat.le_trans hZ hK.size; refine ⟨fun g _ h => h.grow hK, ?_⟩; clear hK
   obtain ⟨Au15a1, cu15a1, rfl, hu15a1⟩ := hp
   replace hS := hS.add 107 (slF (Rep.num .i64) (Au15a1) ((r11).length) (cu15a1) (r11)) hu15a1
   refine l_take hS rfl ⟨_, _, _, rfl, rfl, rfl, rfl⟩ (l_quiet hS rfl rfl (y_lenSlice hS rfl Try.underlying33) fun a hS => ?_); refine ⟨fun g _ h => h, ?_⟩
   refine l_take hS rfl ⟨_, _, _, rfl, rfl, rfl, rfl⟩ (l_quiet hS rfl rfl (y_neqN (i := ((r11).length)) (j := ((t_.labels_).length)) hS rfl rfl) fun a hS => ?_); refine ⟨fun g _ h => h, ?_⟩
   refine l_take hS rfl rfl (l_quiet hS rfl rfl (y_pick_f hS rfl rfl) fun a hS => ?_); refine ⟨fun g _ h => h, ?_⟩
   clear hR hZ
   refine p_norm ?_
   exact ⟨(decide (((r11).length) ≠ ((t_.labels_).length))), hg, (hS.sb rfl rfl rfl)⟩
 clear hS a; rintro a w ⟨t_9, hg, hS⟩
 subst hk8
 refine c_cond hS rfl (fun hc16 => ?_) (fun hc16 => ?_)
 ·replace hg := br_t hg hc16
  apply wR
  refine qq hS rfl (y_assign hS rfl) fun a hS => ?_
  apply wN
  apply wp_ret
  refine p_thenR ?_
  obtain rfl := Option.some.inj hg
  refine fin1 (fn := Try.f30) hS rfl (r_tmp hS rfl) ?_
  exact rfl
 ·replace hg := br_f hg (by rw [hc16]; exact Bool.false_ne_true)
  apply wp_skip
  refine p_norm ?_
  apply wp_seq
  obtain ⟨hk17, hg⟩ := chk_some hg
  apply wp_region_lit
  refine qq hS rfl (y_boxField (o' := 0) hS rfl Try.underlying59 rfl rfl rfl) fun a hS => ?_
  refine qq hS rfl (y_boxField (o' := 2) hS rfl Try.underlying26 rfl rfl rfl) fun a hS => ?_
  refine qq hS rfl (y_loadBox1 (kk := 1000) hS rfl rfl rfl Try.underlying22 rfl) fun a hS => ?_
  refine qq hS rfl (y_lenSlice hS rfl Try.underlying22) fun a hS => ?_
  refine l_seq rfl (l_makeSlice (n := ((t_.m_.Vars).length)) (by_ := 8) (zv := Value.int .i64 0) hS 1404 rfl rfl Try.underlying33 rfl rfl rfl rfl rfl hk17 (by omega) rfl rfl ?_); clear hS a; intro b19 a w hbb19 hK hS
  clear hbb19 hK
  replace hS := hS.sub (l' := [(1, .pointer (some ⟨b2, 0, none⟩)), (3, .int .i64 (x4)), (29, .bool (t_9)), (30, .pointer (some ⟨b2, 0, none⟩)), (31, .pointer (some ⟨b2, 2, none⟩)), (32, .slice (Ap03) ((t_.m_.Vars).length) (cp03)), (33, .int .i64 ((((t_.m_.Vars).length : Nat) : Int))), (34, .slice (some ⟨b19, 0, none⟩) ((t_.m_.Vars).length) ((t_.m_.Vars).length))]) (L' := [(1000, Ob.box b2 [.int .i64 (t_.m_.Top), .int .i64 (t_.m_.Index), .slice (Ap03) ((t_.m_.Vars).length) (cp03), .slice (Ap04) ((t_.m_.Rels).length) (cp04), .slice (Ap05) ((t_.m_.Cons).length) (cp05), .slice (Ap06) ((t_.labels_).length) (cp06), .slice (Ap07) ((t_.at_).length) (cp07)] 59), (1404, Ob.row (some ⟨b19, 0, none⟩) ((t_.m_.Vars).length) ((t_.m_.Vars).length) 3 1 (List.replicate ((t_.m_.Vars).length) (Value.int .i64 0)))]) (D' := [(101, slF Rep.str (Ap03) ((t_.m_.Vars).length) (cp03) (t_.m_.Vars)), (102, slF REP (Ap04) ((t_.m_.Rels).length) (cp04) (t_.m_.Rels)), (103, slF RQeq (Ap05) ((t_.m_.Cons).length) (cp05) (t_.m_.Cons)), (104, slF (Rep.num .i64) (Ap06) ((t_.labels_).length) (cp06) (t_.labels_)), (105, slF (Rep.num .i64) (Ap07) ((t_.at_).length) (cp07) (t_.at_))]) ⟨rfl, rfl, rfl, rfl, rfl, rfl, rfl, rfl, trivial⟩ ⟨rfl, rfl, trivial⟩ ⟨rfl, rfl, rfl, rfl, rfl, trivial⟩
  replace hS := hS.eqs (l' := [(1, .pointer (some ⟨b2, 0, none⟩)), (3, .int .i64 (x4)), (29, .bool (t_9)), (30, .pointer (some ⟨b2, 0, none⟩)), (31, .pointer (some ⟨b2, 2, none⟩)), (32, .slice (Ap03) ((t_.m_.Vars).length) (cp03)), (33, .int .i64 ((((t_.m_.Vars).length : Nat) : Int))), (34, .slice (some ⟨b19, 0, none⟩) ((List.replicate ((t_.m_.Vars).length) (0 : Int)).length) ((t_.m_.Vars).length))]) (L' := [(1000, Ob.box b2 [.int .i64 (t_.m_.Top), .int .i64 (t_.m_.Index), .slice (Ap03) ((t_.m_.Vars).length) (cp03), .slice (Ap04) ((t_.m_.Rels).length) (cp04), .slice (Ap05) ((t_.m_.Cons).length) (cp05), .slice (Ap06) ((t_.labels_).length) (cp06), .slice (Ap07) ((t_.at_).length) (cp07)] 59), (1404, Ob.row (some ⟨b19, 0, none⟩) ((List.replicate ((t_.m_.Vars).length) (0 : Int)).length) ((t_.m_.Vars).length) 3 1 (List.replicate ((t_.m_.Vars).length) (Value.int .i64 0)))]) (by simp only [List.length_replicate]) (by simp only [List.length_replicate])
  replace hS := hS.add 109 (rdF (Rep.num .i64) (List.replicate ((t_.m_.Vars).length) (Value.int .i64 0)) (List.replicate ((t_.m_.Vars).length) (0 : Int))) (RdAll.rep rfl (by exact rfl) _)
  refine qq hS rfl (y_assign hS rfl) fun a hS => ?_
  apply wN
  apply wp_seq
  apply wR
  refine qq hS rfl (y_boxField (o' := 5) hS rfl Try.underlying59 rfl rfl rfl) fun a hS => ?_
  refine qq hS rfl (y_loadBox1 (kk := 1000) hS rfl rfl rfl Try.underlying33 rfl) fun a hS => ?_
  refine qq hS rfl (y_lenSlice hS rfl Try.underlying33) fun a hS => ?_
  refine qq hS rfl (y_move hS rfl) fun a hS => ?_
  apply wN
  obtain ⟨k20, hg, hk20⟩ := jn_some hg
  refine c_post (fun a w => ∃ (t_21 : (List Int)), ∃ (A22 : Option Addr), ∃ (c23 : Nat), ∃ (cs24 : List Value), k20 t_21 = some r ∧ St (⟨Try.f30.ntmps, M, noB, w0⟩ : Ctx) [(1, .pointer (some ⟨b2, 0, none⟩)), (3, .int .i64 (x4)), (4, .slice (A22) ((t_21).length) (c23))] [(1000, Ob.box b2 [.int .i64 (t_.m_.Top), .int .i64 (t_.m_.Index), .slice (Ap03) ((t_.m_.Vars).length) (cp03), .slice (Ap04) ((t_.m_.Rels).length) (cp04), .slice (Ap05) ((t_.m_.Cons).length) (cp05), .slice (Ap06) ((t_.labels_).length) (cp06), .slice (Ap07) ((t_.at_).length) (cp07)] 59), (700110, Ob.row (A22) ((t_21).length) (c23) 3 1 (cs24))] [(101, slF Rep.str (Ap03) ((t_.m_.Vars).length) (cp03) (t_.m_.Vars)), (102, slF REP (Ap04) ((t_.m_.Rels).length) (cp04) (t_.m_.Rels)), (103, slF RQeq (Ap05) ((t_.m_.Cons).length) (cp05) (t_.m_.Cons)), (104, slF (Rep.num .i64) (Ap06) ((t_.labels_).length) (cp06) (t_.labels_)), (105, slF (Rep.num .i64) (Ap07) ((t_.at_).length) (cp07) (t_.at_)), (111, rdF (Rep.num .i64) (cs24) (t_21))] a w) ?_ ?_
  ·apply wp_block
   replace hS := hS.al 113 109 rfl
   replace hS := hS.pk [(1000, 1000), (700112, 1404)] (by decide)
   refine c_loop (σ := Nat) (fun m1 a w => ∃ (t_25 : (List Int)), ∃ (t_29 : Nat), ∃ (A26 : Option Addr), ∃ (c27 : Nat), ∃ (cs28 : List Value), scope_tree_form_L0 n t_ k20 m1 t_25 t_29 = some r ∧ St (⟨Try.f30.ntmps, M, noB, w0⟩ : Ctx) [(1, .pointer (some ⟨b2, 0, none⟩)), (3, .int .i64 (x4)), (4, .slice (A26) ((t_25).length) (c27)), (36, .slice (Ap06) ((t_.labels_).length) (cp06)), (37, .int .i64 ((((t_.labels_).length : Nat) : Int))), (38, .int .i64 (((t_29 : Nat) : Int)))] [(1000, Ob.box b2 [.int .i64 (t_.m_.Top), .int .i64 (t_.m_.Index), .slice (Ap03) ((t_.m_.Vars).length) (cp03), .slice (Ap04) ((t_.m_.Rels).length) (cp04), .slice (Ap05) ((t_.m_.Cons).length) (cp05), .slice (Ap06) ((t_.labels_).length) (cp06), .slice (Ap07) ((t_.at_).length) (cp07)] 59), (700112, Ob.row (A26) ((t_25).length) (c27) 3 1 (cs28))] [(101, slF Rep.str (Ap03) ((t_.m_.Vars).length) (cp03) (t_.m_.Vars)), (102, slF REP (Ap04) ((t_.m_.Rels).length) (cp04) (t_.m_.Rels)), (103, slF RQeq (Ap05) ((t_.m_.Cons).length) (cp05) (t_.m_.Cons)), (104, slF (Rep.num .i64) (Ap06) ((t_.labels_).length) (cp06) (t_.labels_)), (105, slF (Rep.num .i64) (Ap07) ((t_.at_).length) (cp07) (t_.at_)), (113, rdF (Rep.num .i64) (cs28) (t_25))] a w) (fun m1 => m1) n ⟨(List.replicate ((t_.m_.Vars).length) (0 : Int)), (0), (some ⟨b19, 0, none⟩), ((t_.m_.Vars).length), (List.replicate ((t_.m_.Vars).length) (Value.int .i64 0)), hg, (hS.sb rfl rfl rfl)⟩ ?_
   clear hS a; rintro m1 a w ⟨t_25, t_29, A26, c27, cs28, hg, hS⟩
   rcases m1 with _ | m1
   ·rw [scope_tree_form_L0] at hg; cases hg
   rw [scope_tree_form_L0] at hg
   apply wR
   refine qq hS rfl (y_lssN (i := t_29) (j := ((t_.labels_).length)) hS rfl rfl) fun a hS => ?_
   apply wN
   apply wp_seq
   refine c_dec hS rfl (fun hc30 => ?_) (fun hc30 => ?_)
   ·replace hg := br_t hg hc30
    have hmx31 := SlR.mx (hS.fact (k := 104) rfl)
    apply wp_skip
    refine p_norm ?_
    apply wp_seq
    obtain ⟨k32, hg, hk32⟩ := jn_some hg
    refine c_post (fun a w => ∃ (t_33 : (List Int)), ∃ (A34 : Option Addr), ∃ (c35 : Nat), ∃ (cs36 : List Value), k32 t_33 = some r ∧ St (⟨Try.f30.ntmps, M, noB, w0⟩ : Ctx) [(1, .pointer (some ⟨b2, 0, none⟩)), (3, .int .i64 (x4)), (4, .slice (A34) ((t_33).length) (c35)), (36, .slice (Ap06) ((t_.labels_).length) (cp06)), (37, .int .i64 ((((t_.labels_).length : Nat) : Int))), (38, .int .i64 (((t_29 : Nat) : Int)))] [(1000, Ob.box b2 [.int .i64 (t_.m_.Top), .int .i64 (t_.m_.Index), .slice (Ap03) ((t_.m_.Vars).length) (cp03), .slice (Ap04) ((t_.m_.Rels).length) (cp04), .slice (Ap05) ((t_.m_.Cons).length) (cp05), .slice (Ap06) ((t_.labels_).length) (cp06), .slice (Ap07) ((t_.at_).length) (cp07)] 59), (700114, Ob.row (A34) ((t_33).length) (c35) 3 1 (cs36))] [(101, slF Rep.str (Ap03) ((t_.m_.Vars).length) (cp03) (t_.m_.Vars)), (102, slF REP (Ap04) ((t_.m_.Rels).length) (cp04) (t_.m_.Rels)), (103, slF RQeq (Ap05) ((t_.m_.Cons).length) (cp05) (t_.m_.Cons)), (104, slF (Rep.num .i64) (Ap06) ((t_.labels_).length) (cp06) (t_.labels_)), (105, slF (Rep.num .i64) (Ap07) ((t_.at_).length) (cp07) (t_.at_)), (115, rdF (Rep.num .i64) (cs36) (t_33))] a w) ?_ ?_
    ·apply wp_block
     apply wp_seq
     obtain ⟨x38, hx38, hg⟩ := bind_some hg
     apply wp_region_lit
     obtain ⟨p40, hep40, hpp40⟩ := SlR.elemX (hS.fact (k := 104) rfl) hx38
     refine qq hS rfl (y_elem (sz := 1) (i := t_29) hS rfl rfl Try.underlying33 rfl hep40 rfl (lt_of_get hx38)) fun a hS => ?_
     obtain ⟨hlq41, hmq41, csq41, hdq41, hcq41⟩ := hpp40
     obtain rfl := hdq41
     refine qq hS rfl (y_ldp1 hS rfl hlq41 hmq41 (hcq41 0 _ rfl) Try.underlying3 rfl) fun a hS => ?_
     refine qq hS rfl (y_assign hS rfl) fun a hS => ?_
     apply wN
     apply wp_seq
     obtain ⟨r42, hr42, hg⟩ := bind_some hg
     apply wp_region_lit
     refine qq hS rfl (y_loadBox (kk := 1000) (n := 7) (vs := [.int .i64 (t_.m_.Top), .int .i64 (t_.m_.Index), .slice (Ap03) ((t_.m_.Vars).length) (cp03), .slice (Ap04) ((t_.m_.Rels).length) (cp04), .slice (Ap05) ((t_.m_.Cons).length) (cp05), .slice (Ap06) ((t_.labels_).length) (cp06), .slice (Ap07) ((t_.at_).length) (cp07)]) hS rfl rfl Try.underlying59 rfl rfl rfl rfl) fun a hS => ?_
     refine qq hS rfl (y_move hS rfl) fun a hS => ?_
     refine l_seq rfl (l_call (cap := []) hS rfl Try.func49 rfl (by kernel_rfl) rfl rfl (c_scope_tree_children n _ _ hS.lt t_ (Ap03) (cp03) (Ap04) (cp04) (Ap05) (cp05) (Ap06) (cp06) (Ap07) (cp07) (hS.fact (k := 101) rfl) (hS.fact (k := 102) rfl) (hS.fact (k := 103) rfl) (hS.fact (k := 104) rfl) (hS.fact (k := 105) rfl) x38 r42 hr42) ?_); clear hS a; intro v45 a w hK hp hS
     clear hK
     obtain ⟨Au46a1, cu46a1, rfl, hu46a1⟩ := hp
     replace hS := hS.add 117 (slF (Rep.num .i64) (Au46a1) ((r42).length) (cu46a1) (r42)) hu46a1
     refine qq hS rfl (y_lenSlice hS rfl Try.underlying33) fun a hS => ?_
     refine qq hS rfl (y_move hS rfl) fun a hS => ?_
     apply wN
     apply wp_block
     replace hS := hS.al 119 113 rfl
     replace hS := hS.pk [(1000, 1000), (700118, 700112)] (by decide)
     refine c_loop (σ := Nat) (fun m2 a w => ∃ (t_47 : (List Int)), ∃ (t_51 : Nat), ∃ (A48 : Option Addr), ∃ (c49 : Nat), ∃ (cs50 : List Value), scope_tree_form_L1 n k32 r42 m2 t_47 t_51 = some r ∧ St (⟨Try.f30.ntmps, M, noB, w0⟩ : Ctx) [(1, .pointer (some ⟨b2, 0, none⟩)), (3, .int .i64 (x4)), (4, .slice (A48) ((t_47).length) (c49)), (36, .slice (Ap06) ((t_.labels_).length) (cp06)), (37, .int .i64 ((((t_.labels_).length : Nat) : Int))), (38, .int .i64 (((t_29 : Nat) : Int))), (44, .slice (Au46a1) ((r42).length) (cu46a1)), (45, .int .i64 ((((r42).length : Nat) : Int))), (46, .int .i64 (((t_51 : Nat) : Int)))] [(1000, Ob.box b2 [.int .i64 (t_.m_.Top), .int .i64 (t_.m_.Index), .slice (Ap03) ((t_.m_.Vars).length) (cp03), .slice (Ap04) ((t_.m_.Rels).length) (cp04), .slice (Ap05) ((t_.m_.Cons).length) (cp05), .slice (Ap06) ((t_.labels_).length) (cp06), .slice (Ap07) ((t_.at_).length) (cp07)] 59), (700118, Ob.row (A48) ((t_47).length) (c49) 3 1 (cs50))] [(101, slF Rep.str (Ap03) ((t_.m_.Vars).length) (cp03) (t_.m_.Vars)), (102, slF REP (Ap04) ((t_.m_.Rels).length) (cp04) (t_.m_.Rels)), (103, slF RQeq (Ap05) ((t_.m_.Cons).length) (cp05) (t_.m_.Cons)), (104, slF (Rep.num .i64) (Ap06) ((t_.labels_).length) (cp06) (t_.labels_)), (105, slF (Rep.num .i64) (Ap07) ((t_.at_).length) (cp07) (t_.at_)), (117, slF (Rep.num .i64) (Au46a1) ((r42).length) (cu46a1) (r42)), (119, rdF (Rep.num .i64) (cs50) (t_47))] a w) (fun m2 => m2) n ⟨(t_25), (0), (A26), (c27), (cs28), hg, (hS.sb rfl rfl rfl)⟩ ?_
     clear hS a; rintro m2 a w ⟨t_47, t_51, A48, c49, cs50, hg, hS⟩
     rcases m2 with _ | m2
     ·rw [scope_tree_form_L1] at hg; cases hg
     rw [scope_tree_form_L1] at hg
     apply wR
     refine qq hS rfl (y_lssN (i := t_51) (j := ((r42).length)) hS rfl rfl) fun a hS => ?_
     apply wN
     apply wp_seq
     refine c_dec hS rfl (fun hc52 => ?_) (fun hc52 => ?_)
     ·replace hg := br_t hg hc52
      have hmx53 := SlR.mx (hS.fact (k := 117) rfl)
      apply wp_skip
      refine p_norm ?_
      apply wp_seq
      apply wp_block
      apply wp_seq
      obtain ⟨x55, hx55, hg⟩ := bind_some hg
      apply wp_region_lit
      obtain ⟨p57, hep57, hpp57⟩ := SlR.elemX (hS.fact (k := 117) rfl) hx55
      refine qq hS rfl (y_elem (sz := 1) (i := t_51) hS rfl rfl Try.underlying33 rfl hep57 rfl (lt_of_get hx55)) fun a hS => ?_
      obtain ⟨hlq58, hmq58, csq58, hdq58, hcq58⟩ := hpp57
      obtain rfl := hdq58
      refine qq hS rfl (y_ldp1 hS rfl hlq58 hmq58 (hcq58 0 _ rfl) Try.underlying3 rfl) fun a hS => ?_
      refine qq hS rfl (y_assign hS rfl) fun a hS => ?_
      apply wN
      obtain ⟨x60, hx60, hg⟩ := bind_some hg
      obtain ⟨hk62, hg⟩ := chk_some hg
      apply wp_region_lit
      refine qq hS rfl (y_move hS rfl) fun a hS => ?_
      refine qq hS rfl (y_move hS rfl) fun a hS => ?_
      obtain ⟨hiq64, bq64, hAq64⟩ := SlR.row1 (hS.wd.holds 700118 _ rfl) (hS.fact (k := 119) rfl) rfl rfl (ix_some hx60).1
      refine qq hS rfl (y_rowIndex (sz := 1) (i := ((x55).toNat)) hS rfl rfl Try.underlying33 rfl hAq64 (ix_some hx60).2.1 hiq64) fun a hS => ?_
      have hz65 := (hS.fact (k := 119) rfl).at_ _ _ (ix_some hx60).1
      have ez65 := hz65
      refine qq hS rfl (y_loadRow1 (kk := 700118) hS rfl rfl hAq64 (take1 ez65) Try.underlying3 rfl) fun a hS => ?_
      refine qq hS rfl (y_add hS rfl rfl (in64.2 hk62)) fun a hS => ?_
      obtain ⟨hiq66, bq66, hAq66⟩ := SlR.row1 (hS.wd.holds 700118 _ rfl) (hS.fact (k := 119) rfl) rfl rfl (ix_some hx60).1
      refine qq hS rfl (y_rowIndex (sz := 1) (i := ((x55).toNat)) hS rfl rfl Try.underlying33 rfl hAq66 (ix_some hx60).2.1 hiq66) fun a hS => ?_
      have hzi := lt_of_get (ix_some hx60).1
      have hzn := rowN (hS.wd.holds 700118 _ rfl) (hS.fact (k := 119) rfl) rfl rfl
      have hzf : ((x55).toNat) * 1 + 1 ≤ ((t_47).length) * 1 := by have := Nat.mul_le_mul_right 1 (Nat.succ_le_of_lt hzi); omega
      refine l_seq rfl (l_storeRow (N := 1) (cs' := splice (cs50) (((x55).toNat) * 1) [.int .i64 (x60 + 1)]) hS 700118 rfl rfl rfl hAq66 rfl rfl hzf rfl rfl ?_); clear hS; intro w hK hS; clear hK
      replace hS := hS.sub (l' := [(1, .pointer (some ⟨b2, 0, none⟩)), (3, .int .i64 (x4)), (4, .slice (A48) ((t_47).length) (c49)), (8, .int .i64 (x55)), (36, .slice (Ap06) ((t_.labels_).length) (cp06)), (37, .int .i64 ((((t_.labels_).length : Nat) : Int))), (38, .int .i64 (((t_29 : Nat) : Int))), (44, .slice (Au46a1) ((r42).length) (cu46a1)), (45, .int .i64 ((((r42).length : Nat) : Int))), (46, .int .i64 (((t_51 : Nat) : Int))), (47, .bool (decide (t_51 < ((r42).length)))), (48, .pointer (some (p57.add 0))), (49, .int .i64 (x55)), (50, .slice (A48) ((t_47).length) (c49)), (51, .int .i64 (x55)), (52, .pointer (some ⟨bq64, ((x55).toNat) * 1, none⟩)), (53, .int .i64 (x60)), (54, .int .i64 (x60 + 1)), (55, .pointer (some ⟨bq66, ((x55).toNat) * 1, none⟩))]) (L' := [(1000, Ob.box b2 [.int .i64 (t_.m_.Top), .int .i64 (t_.m_.Index), .slice (Ap03) ((t_.m_.Vars).length) (cp03), .slice (Ap04) ((t_.m_.Rels).length) (cp04), .slice (Ap05) ((t_.m_.Cons).length) (cp05), .slice (Ap06) ((t_.labels_).length) (cp06), .slice (Ap07) ((t_.at_).length) (cp07)] 59), (700118, Ob.row (A48) ((t_47).length) (c49) 3 1 (splice (cs50) (((x55).toNat) * 1) [.int .i64 (x60 + 1)]))]) (D' := [(101, slF Rep.str (Ap03) ((t_.m_.Vars).length) (cp03) (t_.m_.Vars)), (102, slF REP (Ap04) ((t_.m_.Rels).length) (cp04) (t_.m_.Rels)), (103, slF RQeq (Ap05) ((t_.m_.Cons).length) (cp05) (t_.m_.Cons)), (104, slF (Rep.num .i64) (Ap06) ((t_.labels_).length) (cp06) (t_.labels_)), (105, slF (Rep.num .i64) (Ap07) ((t_.at_).length) (cp07) (t_.at_)), (117, slF (Rep.num .i64) (Au46a1) ((r42).length) (cu46a1) (r42)), (119, rdF (Rep.num .i64) (cs50) (t_47))]) ⟨rfl, rfl, rfl, rfl, rfl, rfl, rfl, rfl, rfl, rfl, rfl, rfl, rfl, rfl, rfl, rfl, rfl, rfl, rfl, trivial⟩ ⟨rfl, rfl, trivial⟩ ⟨rfl, rfl, rfl, rfl, rfl, rfl, rfl, trivial⟩
      replace hS := hS.eqs (l' := [(1, .pointer (some ⟨b2, 0, none⟩)), (3, .int .i64 (x4)), (4, .slice (A48) (((t_47).set ((x55).toNat) (x60 + 1)).length) (c49)), (8, .int .i64 (x55)), (36, .slice (Ap06) ((t_.labels_).length) (cp06)), (37, .int .i64 ((((t_.labels_).length : Nat) : Int))), (38, .int .i64 (((t_29 : Nat) : Int))), (44, .slice (Au46a1) ((r42).length) (cu46a1)), (45, .int .i64 ((((r42).length : Nat) : Int))), (46, .int .i64 (((t_51 : Nat) : Int))), (47, .bool (decide (t_51 < ((r42).length)))), (48, .pointer (some (p57.add 0))), (49, .int .i64 (x55)), (50, .slice (A48) (((t_47).set ((x55).toNat) (x60 + 1)).length) (c49)), (51, .int .i64 (x55)), (52, .pointer (some ⟨bq64, ((x55).toNat) * 1, none⟩)), (53, .int .i64 (x60)), (54, .int .i64 (x60 + 1)), (55, .pointer (some ⟨bq66, ((x55).toNat) * 1, none⟩))]) (L' := [(1000, Ob.box b2 [.int .i64 (t_.m_.Top), .int .i64 (t_.m_.Index), .slice (Ap03) ((t_.m_.Vars).length) (cp03), .slice (Ap04) ((t_.m_.Rels).length) (cp04), .slice (Ap05) ((t_.m_.Cons).length) (cp05), .slice (Ap06) ((t_.labels_).length) (cp06), .slice (Ap07) ((t_.at_).length) (cp07)] 59), (700118, Ob.row (A48) (((t_47).set ((x55).toNat) (x60 + 1)).length) (c49) 3 1 (splice (cs50) (((x55).toNat) * 1) [.int .i64 (x60 + 1)]))]) (by simp only [List.length_set]) (by simp only [List.length_set])
      replace hS := hS.add 121 (rdF (Rep.num .i64) (splice (cs50) (((x55).toNat) * 1) [.int .i64 (x60 + 1)]) ((t_47).set ((x55).toNat) (x60 + 1))) (RdAll.put (hS.fact (k := 119) rfl) rfl hzi)
      apply wpList_nil
      refine p_inN ?_
      refine p_norm ?_
      apply wp_region_lit
      refine qq hS rfl (y_addN (i := t_51) (j := 1) hS rfl rfl (in64.2 (by omega))) fun a hS => ?_
      refine qq hS rfl (y_move hS rfl) fun a hS => ?_
      apply wN
      replace hS := hS.add 119 (rdF (Rep.num .i64) (splice (cs50) (((x55).toNat) * 1) [.int .i64 (x60 + 1)]) ((t_47).set ((x55).toNat) (x60 + 1))) (hS.fact (k := 121) rfl)
      exact ⟨m2, Nat.lt_succ_self _, ⟨((t_47).set ((x55).toNat) (x60 + 1)), (t_51 + 1), (A48), (c49), (splice (cs50) (((x55).toNat) * 1) [.int .i64 (x60 + 1)]), hg, (hS.sb rfl rfl rfl)⟩⟩
     ·replace hg := br_f hg hc52
      apply wp_exit
      refine p_then ?_
      refine p_then ?_
      refine p_in ?_
      refine p_inN ?_
      refine p_norm ?_
      replace hS := hS.al 115 119 rfl
      replace hS := hS.pk [(1000, 1000), (700114, 700118)] (by decide)
      exact ⟨(t_47), (A48), (c49), (cs50), hg, (hS.sb rfl rfl rfl)⟩
    clear hS a; rintro a w ⟨t_33, A34, c35, cs36, hg, hS⟩
    subst hk32
    apply wp_region_lit
    refine qq hS rfl (y_addN (i := t_29) (j := 1) hS rfl rfl (in64.2 (by omega))) fun a hS => ?_
    refine qq hS rfl (y_move hS rfl) fun a hS => ?_
    apply wN
    replace hS := hS.al 113 115 rfl
    replace hS := hS.pk [(1000, 1000), (700112, 700114)] (by decide)
    exact ⟨m1, Nat.lt_succ_self _, ⟨(t_33), (t_29 + 1), (A34), (c35), (cs36), hg, (hS.sb rfl rfl rfl)⟩⟩
   ·replace hg := br_f hg hc30
    apply wp_exit
    refine p_then ?_
    refine p_then ?_
    refine p_in ?_
    refine p_norm ?_
    replace hS := hS.al 111 113 rfl
    replace hS := hS.pk [(1000, 1000), (700110, 700112)] (by decide)
    exact ⟨(t_25), (A26), (c27), (cs28), hg, (hS.sb rfl rfl rfl)⟩
  clear hS a; rintro a w ⟨t_21, A22, c23, cs24, hg, hS⟩
  subst hk20
  apply wp_seq
  apply wR
  refine qq hS rfl (y_boxField (o' := 5) hS rfl Try.underlying59 rfl rfl rfl) fun a hS => ?_
  refine qq hS rfl (y_loadBox1 (kk := 1000) hS rfl rfl rfl Try.underlying33 rfl) fun a hS => ?_
  refine qq hS rfl (y_lenSlice hS rfl Try.underlying33) fun a hS => ?_
  refine qq hS rfl (y_move hS rfl) fun a hS => ?_
  apply wN
  apply wp_block
  refine c_loop (σ := Nat) (fun m3 a w => ∃ (t_67 : Nat), scope_tree_form_L2 n t_ x4 t_21 m3 t_67 = some r ∧ St (⟨Try.f30.ntmps, M, noB, w0⟩ : Ctx) [(3, .int .i64 (x4)), (4, .slice (A22) ((t_21).length) (c23)), (59, .slice (Ap06) ((t_.labels_).length) (cp06)), (60, .int .i64 ((((t_.labels_).length : Nat) : Int))), (61, .int .i64 (((t_67 : Nat) : Int)))] [(700110, Ob.row (A22) ((t_21).length) (c23) 3 1 (cs24))] [(104, slF (Rep.num .i64) (Ap06) ((t_.labels_).length) (cp06) (t_.labels_)), (111, rdF (Rep.num .i64) (cs24) (t_21))] a w) (fun m3 => m3) n ⟨(0), hg, (hS.sb rfl rfl rfl)⟩ ?_
  clear hS a; rintro m3 a w ⟨t_67, hg, hS⟩
  rcases m3 with _ | m3
  ·rw [scope_tree_form_L2] at hg; cases hg
  rw [scope_tree_form_L2] at hg
  apply wR
  refine qq hS rfl (y_lssN (i := t_67) (j := ((t_.labels_).length)) hS rfl rfl) fun a hS => ?_
  apply wN
  apply wp_seq
  refine c_dec hS rfl (fun hc68 => ?_) (fun hc68 => ?_)
  ·replace hg := br_t hg hc68
   have hmx69 := SlR.mx (hS.fact (k := 104) rfl)
   apply wp_skip
   refine p_norm ?_
   apply wp_seq
   apply wp_block
   apply wp_seq
   obtain ⟨x71, hx71, hg⟩ := bind_some hg
   apply wp_region_lit
   obtain ⟨p73, hep73, hpp73⟩ := SlR.elemX (hS.fact (k := 104) rfl) hx71
   refine qq hS rfl (y_elem (sz := 1) (i := t_67) hS rfl rfl Try.underlying33 rfl hep73 rfl (lt_of_get hx71)) fun a hS => ?_
   obtain ⟨hlq74, hmq74, csq74, hdq74, hcq74⟩ := hpp73
   obtain rfl := hdq74
   refine qq hS rfl (y_ldp1 hS rfl hlq74 hmq74 (hcq74 0 _ rfl) Try.underlying3 rfl) fun a hS => ?_
   refine qq hS rfl (y_assign hS rfl) fun a hS => ?_
   apply wN
   apply wp_seq
   obtain ⟨k75, hg, hk75⟩ := jn_some hg
   refine c_post (fun a w => ∃ (t_76 : Bool), k75 t_76 = some r ∧ St (⟨Try.f30.ntmps, M, noB, w0⟩ : Ctx) [(3, .int .i64 (x4)), (4, .slice (A22) ((t_21).length) (c23)), (59, .slice (Ap06) ((t_.labels_).length) (cp06)), (60, .int .i64 ((((t_.labels_).length : Nat) : Int))), (61, .int .i64 (((t_67 : Nat) : Int))), (86, .bool (t_76))] [(700110, Ob.row (A22) ((t_21).length) (c23) 3 1 (cs24))] [(104, slF (Rep.num .i64) (Ap06) ((t_.labels_).length) (cp06) (t_.labels_)), (111, rdF (Rep.num .i64) (cs24) (t_21))] a w) ?_ ?_
   ·rcases Decidable.em (x71 = x4) with hs77 | hs77
    ·have hs77e : decide (x71 = x4) = true := decide_eq_true hs77
     replace hg := br_t hg hs77
     obtain ⟨x79, hx79, hg⟩ := bind_some hg
     rcases Decidable.em (x79 ≠ 0) with hs81 | hs81
     ·have hs81e : decide (x79 ≠ 0) = true := decide_eq_true hs81
      replace hg := br_t hg hs81
      apply wp_region_lit
      refine qq hS rfl (y_move hS rfl) fun a hS => ?_
      refine qq hS rfl (y_move hS rfl) fun a hS => ?_
      refine qq hS rfl (yl_b (y_eql hS rfl rfl) hs77e) fun a hS => ?_
      refine qq hS rfl (y_move hS rfl) fun a hS => ?_
      refine gy hS rfl (y_move hS rfl) fun a hS => ?_
      refine gy hS rfl (y_move hS rfl) fun a hS => ?_
      obtain ⟨hiq82, bq82, hAq82⟩ := SlR.row1 (hS.wd.holds 700110 _ rfl) (hS.fact (k := 111) rfl) rfl rfl (ix_some hx79).1
      refine gy hS rfl (y_rowIndex (sz := 1) (i := ((x71).toNat)) hS rfl rfl Try.underlying33 rfl hAq82 (ix_some hx79).2.1 hiq82) fun a hS => ?_
      have hz83 := (hS.fact (k := 111) rfl).at_ _ _ (ix_some hx79).1
      have ez83 := hz83
      refine gy hS rfl (y_loadRow1 (kk := 700110) hS rfl rfl hAq82 (take1 ez83) Try.underlying3 rfl) fun a hS => ?_
      refine gy hS rfl (yl_b (y_neq hS rfl rfl) hs81e) fun a hS => ?_
      refine qq hS rfl (y_pick_t hS rfl rfl) fun a hS => ?_
      refine qq hS rfl (y_move hS rfl) fun a hS => ?_
      refine gn hS rfl fun a hS => ?_
      refine gn hS rfl fun a hS => ?_
      refine gn hS rfl fun a hS => ?_
      refine gn hS rfl fun a hS => ?_
      refine gn hS rfl fun a hS => ?_
      refine gn hS rfl fun a hS => ?_
      refine gn hS rfl fun a hS => ?_
      refine gn hS rfl fun a hS => ?_
      refine gn hS rfl fun a hS => ?_
      refine gn hS rfl fun a hS => ?_
      refine qq hS rfl (y_pick_t hS rfl rfl) fun a hS => ?_
      apply wN
      exact ⟨(true), hg, (hS.sb rfl rfl rfl)⟩
     ·have hs81e : decide (x79 ≠ 0) = false := decide_eq_false hs81
      replace hg := br_f hg hs81
      rcases Decidable.em (x71 ≠ x4) with hs84 | hs84
      ·have hs84e : decide (x71 ≠ x4) = true := decide_eq_true hs84
       replace hg := br_t hg hs84
       apply wp_region_lit
       refine qq hS rfl (y_move hS rfl) fun a hS => ?_
       refine qq hS rfl (y_move hS rfl) fun a hS => ?_
       refine qq hS rfl (yl_b (y_eql hS rfl rfl) hs77e) fun a hS => ?_
       refine qq hS rfl (y_move hS rfl) fun a hS => ?_
       refine gy hS rfl (y_move hS rfl) fun a hS => ?_
       refine gy hS rfl (y_move hS rfl) fun a hS => ?_
       obtain ⟨hiq87, bq87, hAq87⟩ := SlR.row1 (hS.wd.holds 700110 _ rfl) (hS.fact (k := 111) rfl) rfl rfl (ix_some hx79).1
       refine gy hS rfl (y_rowIndex (sz := 1) (i := ((x71).toNat)) hS rfl rfl Try.underlying33 rfl hAq87 (ix_some hx79).2.1 hiq87) fun a hS => ?_
       have hz88 := (hS.fact (k := 111) rfl).at_ _ _ (ix_some hx79).1
       have ez88 := hz88
       refine gy hS rfl (y_loadRow1 (kk := 700110) hS rfl rfl hAq87 (take1 ez88) Try.underlying3 rfl) fun a hS => ?_
       refine gy hS rfl (yl_b (y_neq hS rfl rfl) hs81e) fun a hS => ?_
       refine qq hS rfl (y_pick_t hS rfl rfl) fun a hS => ?_
       refine qq hS rfl (y_move hS rfl) fun a hS => ?_
       refine gy hS rfl (y_move hS rfl) fun a hS => ?_
       refine gy hS rfl (y_move hS rfl) fun a hS => ?_
       refine gy hS rfl (yl_b (y_neq hS rfl rfl) hs84e) fun a hS => ?_
       refine gy hS rfl (y_move hS rfl) fun a hS => ?_
       refine gy hS rfl (y_move hS rfl) fun a hS => ?_
       refine gy hS rfl (y_move hS rfl) fun a hS => ?_
       obtain ⟨hiq89, bq89, hAq89⟩ := SlR.row1 (hS.wd.holds 700110 _ rfl) (hS.fact (k := 111) rfl) rfl rfl (ix_some hx79).1
       refine gy hS rfl (y_rowIndex (sz := 1) (i := ((x71).toNat)) hS rfl rfl Try.underlying33 rfl hAq89 (ix_some hx79).2.1 hiq89) fun a hS => ?_
       have hz90 := (hS.fact (k := 111) rfl).at_ _ _ (ix_some hx79).1
       have ez90 := hz90
       refine gy hS rfl (y_loadRow1 (kk := 700110) hS rfl rfl hAq89 (take1 ez90) Try.underlying3 rfl) fun a hS => ?_
       refine gy hS rfl (y_neq hS rfl rfl) fun a hS => ?_
       refine gy hS rfl (y_pick_t hS rfl rfl) fun a hS => ?_
       refine qq hS rfl (y_pick_f hS rfl rfl) fun a hS => ?_
       apply wN
       exact ⟨(decide (x79 ≠ 1)), hg, (hS.sb rfl rfl rfl)⟩
      ·have hs84e : decide (x71 ≠ x4) = false := decide_eq_false hs84
       replace hg := br_f hg hs84
       apply wp_region_lit
       refine qq hS rfl (y_move hS rfl) fun a hS => ?_
       refine qq hS rfl (y_move hS rfl) fun a hS => ?_
       refine qq hS rfl (yl_b (y_eql hS rfl rfl) hs77e) fun a hS => ?_
       refine qq hS rfl (y_move hS rfl) fun a hS => ?_
       refine gy hS rfl (y_move hS rfl) fun a hS => ?_
       refine gy hS rfl (y_move hS rfl) fun a hS => ?_
       obtain ⟨hiq91, bq91, hAq91⟩ := SlR.row1 (hS.wd.holds 700110 _ rfl) (hS.fact (k := 111) rfl) rfl rfl (ix_some hx79).1
       refine gy hS rfl (y_rowIndex (sz := 1) (i := ((x71).toNat)) hS rfl rfl Try.underlying33 rfl hAq91 (ix_some hx79).2.1 hiq91) fun a hS => ?_
       have hz92 := (hS.fact (k := 111) rfl).at_ _ _ (ix_some hx79).1
       have ez92 := hz92
       refine gy hS rfl (y_loadRow1 (kk := 700110) hS rfl rfl hAq91 (take1 ez92) Try.underlying3 rfl) fun a hS => ?_
       refine gy hS rfl (yl_b (y_neq hS rfl rfl) hs81e) fun a hS => ?_
       refine qq hS rfl (y_pick_t hS rfl rfl) fun a hS => ?_
       refine qq hS rfl (y_move hS rfl) fun a hS => ?_
       refine gy hS rfl (y_move hS rfl) fun a hS => ?_
       refine gy hS rfl (y_move hS rfl) fun a hS => ?_
       refine gy hS rfl (yl_b (y_neq hS rfl rfl) hs84e) fun a hS => ?_
       refine gy hS rfl (y_move hS rfl) fun a hS => ?_
       refine gn hS rfl fun a hS => ?_
       refine gn hS rfl fun a hS => ?_
       refine gn hS rfl fun a hS => ?_
       refine gn hS rfl fun a hS => ?_
       refine gn hS rfl fun a hS => ?_
       refine gy hS rfl (y_pick_f hS rfl rfl) fun a hS => ?_
       refine qq hS rfl (y_pick_f hS rfl rfl) fun a hS => ?_
       apply wN
       exact ⟨(false), hg, (hS.sb rfl rfl rfl)⟩
    ·have hs77e : decide (x71 = x4) = false := decide_eq_false hs77
     replace hg := br_f hg hs77
     rcases Decidable.em (x71 ≠ x4) with hs93 | hs93
     ·have hs93e : decide (x71 ≠ x4) = true := decide_eq_true hs93
      replace hg := br_t hg hs93
      obtain ⟨x95, hx95, hg⟩ := bind_some hg
      apply wp_region_lit
      refine qq hS rfl (y_move hS rfl) fun a hS => ?_
      refine qq hS rfl (y_move hS rfl) fun a hS => ?_
      refine qq hS rfl (yl_b (y_eql hS rfl rfl) hs77e) fun a hS => ?_
      refine qq hS rfl (y_move hS rfl) fun a hS => ?_
      refine gn hS rfl fun a hS => ?_
      refine gn hS rfl fun a hS => ?_
      refine gn hS rfl fun a hS => ?_
      refine gn hS rfl fun a hS => ?_
      refine gn hS rfl fun a hS => ?_
      refine qq hS rfl (y_pick_f hS rfl rfl) fun a hS => ?_
      refine qq hS rfl (y_move hS rfl) fun a hS => ?_
      refine gy hS rfl (y_move hS rfl) fun a hS => ?_
      refine gy hS rfl (y_move hS rfl) fun a hS => ?_
      refine gy hS rfl (yl_b (y_neq hS rfl rfl) hs93e) fun a hS => ?_
      refine gy hS rfl (y_move hS rfl) fun a hS => ?_
      refine gy hS rfl (y_move hS rfl) fun a hS => ?_
      refine gy hS rfl (y_move hS rfl) fun a hS => ?_
      obtain ⟨hiq97, bq97, hAq97⟩ := SlR.row1 (hS.wd.holds 700110 _ rfl) (hS.fact (k := 111) rfl) rfl rfl (ix_some hx95).1
      refine gy hS rfl (y_rowIndex (sz := 1) (i := ((x71).toNat)) hS rfl rfl Try.underlying33 rfl hAq97 (ix_some hx95).2.1 hiq97) fun a hS => ?_
      have hz98 := (hS.fact (k := 111) rfl).at_ _ _ (ix_some hx95).1
      have ez98 := hz98
      refine gy hS rfl (y_loadRow1 (kk := 700110) hS rfl rfl hAq97 (take1 ez98) Try.underlying3 rfl) fun a hS => ?_
      refine gy hS rfl (y_neq hS rfl rfl) fun a hS => ?_
      refine gy hS rfl (y_pick_t hS rfl rfl) fun a hS => ?_
      refine qq hS rfl (y_pick_f hS rfl rfl) fun a hS => ?_
      apply wN
      exact ⟨(decide (x95 ≠ 1)), hg, (hS.sb rfl rfl rfl)⟩
     ·have hs93e : decide (x71 ≠ x4) = false := decide_eq_false hs93
      replace hg := br_f hg hs93
      apply wp_region_lit
      refine qq hS rfl (y_move hS rfl) fun a hS => ?_
      refine qq hS rfl (y_move hS rfl) fun a hS => ?_
      refine qq hS rfl (yl_b (y_eql hS rfl rfl) hs77e) fun a hS => ?_
      refine qq hS rfl (y_move hS rfl) fun a hS => ?_
      refine gn hS rfl fun a hS => ?_
      refine gn hS rfl fun a hS => ?_
      refine gn hS rfl fun a hS => ?_
      refine gn hS rfl fun a hS => ?_
      refine gn hS rfl fun a hS => ?_
      refine qq hS rfl (y_pick_f hS rfl rfl) fun a hS => ?_
      refine qq hS rfl (y_move hS rfl) fun a hS => ?_
      refine gy hS rfl (y_move hS rfl) fun a hS => ?_
      refine gy hS rfl (y_move hS rfl) fun a hS => ?_
      refine gy hS rfl (yl_b (y_neq hS rfl rfl) hs93e) fun a hS => ?_
      refine gy hS rfl (y_move hS rfl) fun a hS => ?_
      refine gn hS rfl fun a hS => ?_
      refine gn hS rfl fun a hS => ?_
      refine gn hS rfl fun a hS => ?_
      refine gn hS rfl fun a hS => ?_
      refine gn hS rfl fun a hS => ?_
      refine gy hS rfl (y_pick_f hS rfl rfl) fun a hS => ?_
      refine qq hS rfl (y_pick_f hS rfl rfl) fun a hS => ?_
      apply wN
      exact ⟨(false), hg, (hS.sb rfl rfl rfl)⟩
   clear hS a; rintro a w ⟨t_76, hg, hS⟩
   subst hk75
   refine c_cond hS rfl (fun hc99 => ?_) (fun hc99 => ?_)
   ·replace hg := br_t hg hc99
    apply wR
    refine qq hS rfl (y_assign hS rfl) fun a hS => ?_
    apply wN
    apply wp_ret
    refine p_inR ?_
    refine p_thenR ?_
    refine p_thenR ?_
    refine p_inR ?_
    refine p_thenR ?_
    obtain rfl := Option.some.inj hg
    refine fin1 (fn := Try.f30) hS rfl (r_tmp hS rfl) ?_
    exact rfl
   ·replace hg := br_f hg (by rw [hc99]; exact Bool.false_ne_true)
    apply wp_skip
    refine p_inN ?_
    refine p_norm ?_
    apply wp_region_lit
    refine qq hS rfl (y_addN (i := t_67) (j := 1) hS rfl rfl (in64.2 (by omega))) fun a hS => ?_
    refine qq hS rfl (y_move hS rfl) fun a hS => ?_
    apply wN
    exact ⟨m3, Nat.lt_succ_self _, ⟨(t_67 + 1), hg, (hS.sb rfl rfl rfl)⟩⟩
  ·replace hg := br_f hg hc68
   apply wp_exit
   refine p_then ?_
   refine p_then ?_
   refine p_in ?_
   refine p_norm ?_
   apply wR
   refine qq hS rfl (y_assign hS rfl) fun a hS => ?_
   apply wN
   apply wp_ret
   obtain rfl := Option.some.inj hg
   refine fin1 (fn := Try.f30) hS rfl (r_tmp hS rfl) ?_
   exact rfl
set_option maxHeartbeats 400000 in
theorem c_scope_role (n : Nat) (M : Bs) (w0 : World) (hM : ∀ b, M b → b < w0.heap.size) (x_ : EP) (Ap03 : Option Addr) (cp03 : Nat) (lp01 : (x_.Pred).length ≤ 9223372036854775807) (hp03 : SlR RArg M w0 Ap03 (x_.Args).length cp03 (x_.Args)) (name_ : (List UInt8)) (lp11 : (name_).length ≤ 9223372036854775807) (r : (Int × Bool)) (hg : scope_role n x_ name_ = some r) :
    Calls Try.prog 51 [.agg #[.string (bs (x_.Pred)), .int .i64 (x_.Label), .slice (Ap03) ((x_.Args).length) (cp03)], .string (bs (name_))].toArray w0 (Ret noB w0 fun v w => v = .tuple #[.int .i64 (r.1), .bool (r.2)]) := by
 unfold scope_role at hg
 refine enter M noB Try.func51 rfl rfl hM ?_
 intro a hS
 replace hS := hS.es 101 hp03
 apply wR
 refine l_seq rfl (l_box (zs := [.string (bs (x_.Pred)), .int .i64 (x_.Label), .slice (Ap03) ((x_.Args).length) (cp03)]) hS 1000 rfl rfl rfl rfl ?_); clear hS a; intro b2 a w hb hK hS
 clear hb hK
 refine qq hS rfl (y_assign hS rfl) fun a hS => ?_
 refine qq hS rfl (y_assign hS rfl) fun a hS => ?_
 apply wN
 apply wp_seq
 apply wR
 refine qq hS rfl (y_boxField (o' := 2) hS rfl Try.underlying55 rfl rfl rfl) fun a hS => ?_
 refine qq hS rfl (y_loadBox1 (kk := 1000) hS rfl rfl rfl Try.underlying53 rfl) fun a hS => ?_
 refine qq hS rfl (y_lenSlice hS rfl Try.underlying53) fun a hS => ?_
 refine qq hS rfl (y_move hS rfl) fun a hS => ?_
 apply wN
 apply wp_block
 refine c_loop (σ := Nat) (fun m1 a w => ∃ (t_3 : Nat), scope_role_L0 n x_ name_ m1 t_3 = some r ∧ St (⟨Try.f51.ntmps, M, noB, w0⟩ : Ctx) [(1, .string (bs (name_))), (9, .slice (Ap03) ((x_.Args).length) (cp03)), (10, .int .i64 ((((x_.Args).length : Nat) : Int))), (11, .int .i64 (((t_3 : Nat) : Int)))] [] [(101, slF RArg (Ap03) ((x_.Args).length) (cp03) (x_.Args))] a w) (fun m1 => m1) n ⟨(0), hg, (hS.sb rfl rfl rfl)⟩ ?_
 clear hS a; rintro m1 a w ⟨t_3, hg, hS⟩
 rcases m1 with _ | m1
 ·rw [scope_role_L0] at hg; cases hg
 rw [scope_role_L0] at hg
 apply wR
 refine qq hS rfl (y_lssN (i := t_3) (j := ((x_.Args).length)) hS rfl rfl) fun a hS => ?_
 apply wN
 apply wp_seq
 refine c_dec hS rfl (fun hc4 => ?_) (fun hc4 => ?_)
 ·replace hg := br_t hg hc4
  have hmx5 := SlR.mx (hS.fact (k := 101) rfl)
  apply wp_skip
  refine p_norm ?_
  apply wp_seq
  apply wp_block
  apply wp_seq
  obtain ⟨x7, hx7, hg⟩ := bind_some hg
  apply wp_region_lit
  obtain ⟨p10, hep10, hpp10⟩ := SlR.elemX (hS.fact (k := 101) rfl) hx7
  refine qq hS rfl (y_elem (sz := 2) (i := t_3) hS rfl rfl Try.underlying53 rfl hep10 rfl (lt_of_get hx7)) fun a hS => ?_
  obtain ⟨hlq11, hmq11, csq11, hdq11, hcq11⟩ := hpp10
  obtain ⟨rfl, lq111⟩ := RArg.open hdq11
  refine qq hS rfl (y_ldp hS rfl hlq11 hmq11 (by simpa using hcq11) Try.underlying76 rfl rfl) fun a hS => ?_
  refine l_seq rfl (l_alloc (zs := [.string (bs ([])), .int .i64 (0)]) hS 1302 rfl rfl rfl rfl ?_); clear hS a; intro b12 a w hb hK hS
  clear hb hK
  refine l_seq rfl (l_store (n := 2) (cs' := [.string (bs (x7.Role)), .int .i64 (x7.Var)]) hS 1302 rfl rfl rfl rfl rfl rfl rfl rfl ?_); clear hS; intro w hK hS; clear hK
  apply wN
  apply wR
  refine qq hS rfl (y_boxField (o' := 0) hS rfl Try.underlying76 rfl rfl rfl) fun a hS => ?_
  refine qq hS rfl (y_loadBox1 (kk := 1302) hS rfl rfl rfl Try.underlying9 rfl) fun a hS => ?_
  refine qq hS rfl (y_move hS rfl) fun a hS => ?_
  refine qq hS rfl (y_seq hS rfl rfl) fun a hS => ?_
  apply wN
  refine c_dec hS rfl (fun hc13 => ?_) (fun hc13 => ?_)
  ·replace hg := br_t hg hc13
   apply wR
   refine qq hS rfl (y_boxField (o' := 1) hS rfl Try.underlying76 rfl rfl rfl) fun a hS => ?_
   refine qq hS rfl (y_loadBox1 (kk := 1302) hS rfl rfl rfl Try.underlying3 rfl) fun a hS => ?_
   refine qq hS rfl (y_assign hS rfl) fun a hS => ?_
   refine qq hS rfl (y_assign hS rfl) fun a hS => ?_
   apply wN
   apply wp_ret
   refine p_inR ?_
   refine p_thenR ?_
   refine p_thenR ?_
   refine p_inR ?_
   refine p_thenR ?_
   obtain rfl := Option.some.inj hg
   refine fin2 (fn := Try.f51) hS rfl (r_tmp hS rfl) (r_tmp hS rfl) ?_
   exact rfl
  ·replace hg := br_f hg hc13
   apply wp_skip
   refine p_inN ?_
   refine p_norm ?_
   apply wp_region_lit
   refine qq hS rfl (y_addN (i := t_3) (j := 1) hS rfl rfl (in64.2 (by omega))) fun a hS => ?_
   refine qq hS rfl (y_move hS rfl) fun a hS => ?_
   apply wN
   exact ⟨m1, Nat.lt_succ_self _, ⟨(t_3 + 1), hg, (hS.sb rfl rfl rfl)⟩⟩
 ·replace hg := br_f hg hc4
  apply wp_exit
  refine p_then ?_
  refine p_then ?_
  refine p_in ?_
  refine p_norm ?_
  apply wR
  refine qq hS rfl (y_assign hS rfl) fun a hS => ?_
  refine qq hS rfl (y_assign hS rfl) fun a hS => ?_
  apply wN
  apply wp_ret
  obtain rfl := Option.some.inj hg
  refine fin2 (fn := Try.f51) hS rfl (r_tmp hS rfl) (r_tmp hS rfl) ?_
  exact rfl
set_option maxHeartbeats 400000 in
theorem c_scope_quantifier (n : Nat) (M : Bs) (w0 : World) (hM : ∀ b, M b → b < w0.heap.size) (x_ : EP) (Ap03 : Option Addr) (cp03 : Nat) (lp01 : (x_.Pred).length ≤ 9223372036854775807) (hp03 : SlR RArg M w0 Ap03 (x_.Args).length cp03 (x_.Args)) (r : (Int × Bool)) (hg : scope_quantifier n x_ = some r) :
    Calls Try.prog 50 [.agg #[.string (bs (x_.Pred)), .int .i64 (x_.Label), .slice (Ap03) ((x_.Args).length) (cp03)]].toArray w0 (Ret noB w0 fun v w => v = .tuple #[.int .i64 (r.1), .bool (r.2)]) := by
 unfold scope_quantifier at hg
 refine enter M noB Try.func50 rfl rfl hM ?_
 intro a hS
 replace hS := hS.es 101 hp03
 apply wR
 refine l_seq rfl (l_box (zs := [.string (bs (x_.Pred)), .int .i64 (x_.Label), .slice (Ap03) ((x_.Args).length) (cp03)]) hS 1000 rfl rfl rfl rfl ?_); clear hS a; intro b2 a w hb hK hS
 clear hb hK
 refine qq hS rfl (y_assign hS rfl) fun a hS => ?_
 refine qq hS rfl (y_assign hS rfl) fun a hS => ?_
 apply wN
 apply wp_seq
 obtain ⟨r3, hr3, hg⟩ := bind_some hg
 apply wp_region_lit
 refine qq hS rfl (y_loadBox (kk := 1000) (n := 3) (vs := [.string (bs (x_.Pred)), .int .i64 (x_.Label), .slice (Ap03) ((x_.Args).length) (cp03)]) hS rfl rfl Try.underlying55 rfl rfl rfl rfl) fun a hS => ?_
 refine l_seq rfl (l_call (cap := []) hS rfl Try.func51 rfl (by kernel_rfl) rfl rfl (c_scope_role n _ _ hS.lt x_ (Ap03) (cp03) (by omega) (hS.fact (k := 101) rfl) [82, 83, 84, 82] (by first | omega | (rw [List.length_append]; omega) | (simp only [List.length_append]; omega) | (simp only [List.length_append, List.length_take, List.length_drop, List.length_cons, List.length_nil]; omega)) r3 hr3) ?_); clear hS a; intro v6 a w hK hp hS
 clear hK
 obtain rfl := hp
 refine qq hS rfl (y_move hS rfl) fun a hS => ?_
 refine qq hS rfl (y_extract hS rfl rfl) fun a hS => ?_
 refine qq hS rfl (y_extract hS rfl rfl) fun a hS => ?_
 refine qq hS rfl (y_assign hS rfl) fun a hS => ?_
 refine qq hS rfl (y_assign hS rfl) fun a hS => ?_
 apply wN
 apply wp_seq
 obtain ⟨r8, hr8, hg⟩ := bind_some hg
 apply wp_region_lit
 refine qq hS rfl (y_loadBox (kk := 1000) (n := 3) (vs := [.string (bs (x_.Pred)), .int .i64 (x_.Label), .slice (Ap03) ((x_.Args).length) (cp03)]) hS rfl rfl Try.underlying55 rfl rfl rfl rfl) fun a hS => ?_
 refine l_seq rfl (l_call (cap := []) hS rfl Try.func51 rfl (by kernel_rfl) rfl rfl (c_scope_role n _ _ hS.lt x_ (Ap03) (cp03) (by omega) (hS.fact (k := 101) rfl) [66, 79, 68, 89] (by first | omega | (rw [List.length_append]; omega) | (simp only [List.length_append]; omega) | (simp only [List.length_append, List.length_take, List.length_drop, List.length_cons, List.length_nil]; omega)) r8 hr8) ?_); clear hS a; intro v11 a w hK hp hS
 clear hK
 obtain rfl := hp
 refine qq hS rfl (y_move hS rfl) fun a hS => ?_
 refine qq hS rfl (y_extract hS rfl rfl) fun a hS => ?_
 refine qq hS rfl (y_extract hS rfl rfl) fun a hS => ?_
 refine qq hS rfl (y_assign hS rfl) fun a hS => ?_
 refine qq hS rfl (y_assign hS rfl) fun a hS => ?_
 apply wN
 apply wp_seq
 rcases Bool.eq_false_or_eq_true (r3.2) with hs13 | hs13
 ·replace hg := br_t hg hs13
  apply wp_region_lit
  refine qq hS rfl (y_move hS rfl) fun a hS => ?_
  refine qq hS rfl (yl_b (y_move hS rfl) hs13) fun a hS => ?_
  refine qq hS rfl (y_move hS rfl) fun a hS => ?_
  refine gy hS rfl (y_move hS rfl) fun a hS => ?_
  refine qq hS rfl (y_pick_t hS rfl rfl) fun a hS => ?_
  refine qq hS rfl (y_assign hS rfl) fun a hS => ?_
  refine qq hS rfl (y_assign hS rfl) fun a hS => ?_
  apply wN
  apply wp_ret
  obtain rfl := Option.some.inj hg
  refine fin2 (fn := Try.f50) hS rfl (r_tmp hS rfl) (r_tmp hS rfl) ?_
  exact rfl
 ·replace hg := br_f hg (by rw [hs13]; exact Bool.false_ne_true)
  apply wp_region_lit
  refine qq hS rfl (y_move hS rfl) fun a hS => ?_
  refine qq hS rfl (yl_b (y_move hS rfl) hs13) fun a hS => ?_
  refine qq hS rfl (y_move hS rfl) fun a hS => ?_
  refine gn hS rfl fun a hS => ?_
  refine qq hS rfl (y_pick_f hS rfl rfl) fun a hS => ?_
  refine qq hS rfl (y_assign hS rfl) fun a hS => ?_
  refine qq hS rfl (y_assign hS rfl) fun a hS => ?_
  apply wN
  apply wp_ret
  obtain rfl := Option.some.inj hg
  refine fin2 (fn := Try.f50) hS rfl (r_tmp hS rfl) (r_tmp hS rfl) ?_
  exact rfl
set_option maxHeartbeats 400000 in
theorem c_scope_tree_reaches (n : Nat) : ∀ (M : Bs) (w0 : World) (hM : ∀ b, M b → b < w0.heap.size) (t_ : tree) (Ap03 : Option Addr) (cp03 : Nat) (Ap04 : Option Addr) (cp04 : Nat) (Ap05 : Option Addr) (cp05 : Nat) (Ap06 : Option Addr) (cp06 : Nat) (Ap07 : Option Addr) (cp07 : Nat) (hp03 : SlR Rep.str M w0 Ap03 (t_.m_.Vars).length cp03 (t_.m_.Vars)) (hp04 : SlR REP M w0 Ap04 (t_.m_.Rels).length cp04 (t_.m_.Rels)) (hp05 : SlR RQeq M w0 Ap05 (t_.m_.Cons).length cp05 (t_.m_.Cons)) (hp06 : SlR (Rep.num .i64) M w0 Ap06 (t_.labels_).length cp06 (t_.labels_)) (hp07 : SlR (Rep.num .i64) M w0 Ap07 (t_.at_).length cp07 (t_.at_)) (v_ : Int) (label_ : Int) (r : Bool) (hg : scope_tree_reaches n t_ v_ label_ = some r),
    Calls Try.prog 31 [.agg #[.int .i64 (t_.m_.Top), .int .i64 (t_.m_.Index), .slice (Ap03) ((t_.m_.Vars).length) (cp03), .slice (Ap04) ((t_.m_.Rels).length) (cp04), .slice (Ap05) ((t_.m_.Cons).length) (cp05), .slice (Ap06) ((t_.labels_).length) (cp06), .slice (Ap07) ((t_.at_).length) (cp07)], .int .i64 (v_), .int .i64 (label_)].toArray w0 (Ret noB w0 fun v w => v = .bool (r)) := by
 induction n with
 | zero => intros; rename_i hg; rw [scope_tree_reaches] at hg; cases hg
 | succ n c_self =>
 intro M w0 hM t_ Ap03 cp03 Ap04 cp04 Ap05 cp05 Ap06 cp06 Ap07 cp07 hp03 hp04 hp05 hp06 hp07 v_ label_ r hg
 rw [scope_tree_reaches] at hg
 refine enter M noB Try.func31 rfl rfl hM ?_
 intro a hS
 replace hS := hS.es 101 hp03
 replace hS := hS.es 102 hp04
 replace hS := hS.es 103 hp05
 replace hS := hS.es 104 hp06
 replace hS := hS.es 105 hp07
 apply wR
 refine l_seq rfl (l_box (zs := [.int .i64 (t_.m_.Top), .int .i64 (t_.m_.Index), .slice (Ap03) ((t_.m_.Vars).length) (cp03), .slice (Ap04) ((t_.m_.Rels).length) (cp04), .slice (Ap05) ((t_.m_.Cons).length) (cp05), .slice (Ap06) ((t_.labels_).length) (cp06), .slice (Ap07) ((t_.at_).length) (cp07)]) hS 1000 rfl rfl rfl rfl ?_); clear hS a; intro b2 a w hb hK hS
 clear hb hK
 refine qq hS rfl (y_assign hS rfl) fun a hS => ?_
 apply wN
 apply wp_seq
 obtain ⟨x4, hx4, hg⟩ := bind_some hg
 apply wp_region_lit
 refine qq hS rfl (y_boxField (o' := 6) hS rfl Try.underlying59 rfl rfl rfl) fun a hS => ?_
 refine qq hS rfl (y_loadBox1 (kk := 1000) hS rfl rfl rfl Try.underlying33 rfl) fun a hS => ?_
 refine qq hS rfl (y_move hS rfl) fun a hS => ?_
 obtain ⟨p6, hep6, hpp6⟩ := SlR.elemX (hS.fact (k := 105) rfl) (ix_some hx4).1
 refine qq hS rfl (y_elem (sz := 1) (i := ((v_).toNat)) hS rfl rfl Try.underlying33 rfl hep6 (ix_some hx4).2.1 (lt_of_get (ix_some hx4).1)) fun a hS => ?_
 obtain ⟨hlq7, hmq7, csq7, hdq7, hcq7⟩ := hpp6
 obtain rfl := hdq7
 refine qq hS rfl (y_ldp1 hS rfl hlq7 hmq7 (hcq7 0 _ rfl) Try.underlying3 rfl) fun a hS => ?_
 refine qq hS rfl (y_assign hS rfl) fun a hS => ?_
 apply wN
 apply wp_seq
 apply wR
 refine qq hS rfl (y_move hS rfl) fun a hS => ?_
 refine qq hS rfl (y_move hS rfl) fun a hS => ?_
 refine qq hS rfl (y_eql hS rfl rfl) fun a hS => ?_
 apply wN
 refine c_dec hS rfl (fun hc8 => ?_) (fun hc8 => ?_)
 ·replace hg := br_t hg hc8
  apply wR
  refine qq hS rfl (y_assign hS rfl) fun a hS => ?_
  apply wN
  apply wp_ret
  refine p_thenR ?_
  obtain rfl := Option.some.inj hg
  refine fin1 (fn := Try.f31) hS rfl (r_tmp hS rfl) ?_
  exact rfl
 ·replace hg := br_f hg hc8
  apply wp_skip
  refine p_norm ?_
  apply wp_seq
  apply wR
  refine qq hS rfl (y_move hS rfl) fun a hS => ?_
  refine qq hS rfl (y_lss hS rfl rfl) fun a hS => ?_
  apply wN
  refine c_dec hS rfl (fun hc9 => ?_) (fun hc9 => ?_)
  ·replace hg := br_t hg hc9
   apply wR
   refine qq hS rfl (y_assign hS rfl) fun a hS => ?_
   apply wN
   apply wp_ret
   refine p_thenR ?_
   obtain rfl := Option.some.inj hg
   refine fin1 (fn := Try.f31) hS rfl (r_tmp hS rfl) ?_
   exact rfl
  ·replace hg := br_f hg hc9
   apply wp_skip
   refine p_norm ?_
   apply wp_seq
   apply wR
   refine qq hS rfl (y_boxField (o' := 0) hS rfl Try.underlying59 rfl rfl rfl) fun a hS => ?_
   refine qq hS rfl (y_boxField (o' := 3) hS rfl Try.underlying26 rfl rfl rfl) fun a hS => ?_
   refine qq hS rfl (y_loadBox1 (kk := 1000) hS rfl rfl rfl Try.underlying23 rfl) fun a hS => ?_
   refine qq hS rfl (y_lenSlice hS rfl Try.underlying23) fun a hS => ?_
   refine qq hS rfl (y_move hS rfl) fun a hS => ?_
   apply wN
   apply wp_block
   refine c_loop (σ := Nat) (fun m1 a w => ∃ (t_10 : Nat), scope_tree_reaches_L0 n t_ label_ (scope_tree_reaches n) x4 m1 t_10 = some r ∧ St (⟨Try.f31.ntmps, M, noB, w0⟩ : Ctx) [(2, .int .i64 (label_)), (3, .pointer (some ⟨b2, 0, none⟩)), (7, .int .i64 (x4)), (24, .slice (Ap04) ((t_.m_.Rels).length) (cp04)), (25, .int .i64 ((((t_.m_.Rels).length : Nat) : Int))), (26, .int .i64 (((t_10 : Nat) : Int)))] [(1000, Ob.box b2 [.int .i64 (t_.m_.Top), .int .i64 (t_.m_.Index), .slice (Ap03) ((t_.m_.Vars).length) (cp03), .slice (Ap04) ((t_.m_.Rels).length) (cp04), .slice (Ap05) ((t_.m_.Cons).length) (cp05), .slice (Ap06) ((t_.labels_).length) (cp06), .slice (Ap07) ((t_.at_).length) (cp07)] 59)] [(101, slF Rep.str (Ap03) ((t_.m_.Vars).length) (cp03) (t_.m_.Vars)), (102, slF REP (Ap04) ((t_.m_.Rels).length) (cp04) (t_.m_.Rels)), (103, slF RQeq (Ap05) ((t_.m_.Cons).length) (cp05) (t_.m_.Cons)), (104, slF (Rep.num .i64) (Ap06) ((t_.labels_).length) (cp06) (t_.labels_)), (105, slF (Rep.num .i64) (Ap07) ((t_.at_).length) (cp07) (t_.at_))] a w) (fun m1 => m1) n ⟨(0), hg, (hS.sb rfl rfl rfl)⟩ ?_
   clear hS a; rintro m1 a w ⟨t_10, hg, hS⟩
   rcases m1 with _ | m1
   ·rw [scope_tree_reaches_L0] at hg; cases hg
   rw [scope_tree_reaches_L0] at hg
   apply wR
   refine qq hS rfl (y_lssN (i := t_10) (j := ((t_.m_.Rels).length)) hS rfl rfl) fun a hS => ?_
   apply wN
   apply wp_seq
   refine c_dec hS rfl (fun hc11 => ?_) (fun hc11 => ?_)
   ·replace hg := br_t hg hc11
    have hmx12 := SlR.mx (hS.fact (k := 102) rfl)
    apply wp_skip
    refine p_norm ?_
    apply wp_seq
    apply wp_block
    apply wp_seq
    obtain ⟨x14, hx14, hg⟩ := bind_some hg
    apply wp_region_lit
    obtain ⟨p17, hep17, hpp17⟩ := SlR.elemX (hS.fact (k := 102) rfl) hx14
    refine qq hS rfl (y_elem (sz := 3) (i := t_10) hS rfl rfl Try.underlying23 rfl hep17 rfl (lt_of_get hx14)) fun a hS => ?_
    obtain ⟨hlq18, hmq18, csq18, hdq18, hcq18⟩ := hpp17
    obtain ⟨Aq183, cq183, rfl, lq181, hq183⟩ := REP.open hdq18
    replace hS := hS.add 107 (slF RArg (Aq183) ((x14.Args).length) (cq183) (x14.Args)) hq183
    refine qq hS rfl (y_ldp hS rfl hlq18 hmq18 (by simpa using hcq18) Try.underlying55 rfl rfl) fun a hS => ?_
    refine l_seq rfl (l_alloc (zs := [.string (bs ([])), .int .i64 (0), .slice (none) (0) (0)]) hS 1802 rfl rfl rfl rfl ?_); clear hS a; intro b19 a w hb hK hS
    clear hb hK
    refine l_seq rfl (l_store (n := 3) (cs' := [.string (bs (x14.Pred)), .int .i64 (x14.Label), .slice (Aq183) ((x14.Args).length) (cq183)]) hS 1802 rfl rfl rfl rfl rfl rfl rfl rfl ?_); clear hS; intro w hK hS; clear hK
    apply wN
    apply wp_seq
    obtain ⟨r20, hr20, hg⟩ := bind_some hg
    apply wp_region_lit
    refine qq hS rfl (y_loadBox (kk := 1802) (n := 3) (vs := [.string (bs (x14.Pred)), .int .i64 (x14.Label), .slice (Aq183) ((x14.Args).length) (cq183)]) hS rfl rfl Try.underlying55 rfl rfl rfl rfl) fun a hS => ?_
    refine l_seq rfl (l_call (cap := []) hS rfl Try.func50 rfl (by kernel_rfl) rfl rfl (c_scope_quantifier n _ _ hS.lt x14 (Aq183) (cq183) (by omega) (hS.fact (k := 107) rfl) r20 hr20) ?_); clear hS a; intro v23 a w hK hp hS
    clear hK
    obtain rfl := hp
    refine qq hS rfl (y_move hS rfl) fun a hS => ?_
    refine qq hS rfl (y_extract hS rfl rfl) fun a hS => ?_
    refine qq hS rfl (y_extract hS rfl rfl) fun a hS => ?_
    refine qq hS rfl (y_assign hS rfl) fun a hS => ?_
    refine qq hS rfl (y_assign hS rfl) fun a hS => ?_
    apply wN
    apply wp_seq
    obtain ⟨k25, hg, hk25⟩ := jn_some hg
    refine c_post (fun a w => ∃ (t_26 : Bool), k25 t_26 = some r ∧ St (⟨Try.f31.ntmps, M, noB, w0⟩ : Ctx) [(2, .int .i64 (label_)), (3, .pointer (some ⟨b2, 0, none⟩)), (7, .int .i64 (x4)), (24, .slice (Ap04) ((t_.m_.Rels).length) (cp04)), (25, .int .i64 ((((t_.m_.Rels).length : Nat) : Int))), (26, .int .i64 (((t_10 : Nat) : Int))), (47, .bool (t_26))] [(1000, Ob.box b2 [.int .i64 (t_.m_.Top), .int .i64 (t_.m_.Index), .slice (Ap03) ((t_.m_.Vars).length) (cp03), .slice (Ap04) ((t_.m_.Rels).length) (cp04), .slice (Ap05) ((t_.m_.Cons).length) (cp05), .slice (Ap06) ((t_.labels_).length) (cp06), .slice (Ap07) ((t_.at_).length) (cp07)] 59)] [(101, slF Rep.str (Ap03) ((t_.m_.Vars).length) (cp03) (t_.m_.Vars)), (102, slF REP (Ap04) ((t_.m_.Rels).length) (cp04) (t_.m_.Rels)), (103, slF RQeq (Ap05) ((t_.m_.Cons).length) (cp05) (t_.m_.Cons)), (104, slF (Rep.num .i64) (Ap06) ((t_.labels_).length) (cp06) (t_.labels_)), (105, slF (Rep.num .i64) (Ap07) ((t_.at_).length) (cp07) (t_.at_))] a w) ?_ ?_
    ·rcases Bool.eq_false_or_eq_true (r20.2) with hs27 | hs27
     ·replace hg := br_t hg hs27
      rcases Decidable.em (x14.Label = x4) with hs28 | hs28
      ·have hs28e : decide (x14.Label = x4) = true := decide_eq_true hs28
       replace hg := br_t hg hs28
       obtain ⟨r29, hr29, hg⟩ := bind_some hg
       apply wp_region_lit
       refine qq hS rfl (yl_b (y_move hS rfl) hs27) fun a hS => ?_
       refine qq hS rfl (y_move hS rfl) fun a hS => ?_
       refine gy hS rfl (y_boxField (o' := 1) hS rfl Try.underlying55 rfl rfl rfl) fun a hS => ?_
       refine gy hS rfl (y_loadBox1 (kk := 1802) hS rfl rfl rfl Try.underlying3 rfl) fun a hS => ?_
       refine gy hS rfl (y_move hS rfl) fun a hS => ?_
       refine gy hS rfl (yl_b (y_eql hS rfl rfl) hs28e) fun a hS => ?_
       refine qq hS rfl (y_pick_t hS rfl rfl) fun a hS => ?_
       refine qq hS rfl (y_move hS rfl) fun a hS => ?_
       refine gy hS rfl (y_loadBox (kk := 1000) (n := 7) (vs := [.int .i64 (t_.m_.Top), .int .i64 (t_.m_.Index), .slice (Ap03) ((t_.m_.Vars).length) (cp03), .slice (Ap04) ((t_.m_.Rels).length) (cp04), .slice (Ap05) ((t_.m_.Cons).length) (cp05), .slice (Ap06) ((t_.labels_).length) (cp06), .slice (Ap07) ((t_.at_).length) (cp07)]) hS rfl rfl Try.underlying59 rfl rfl rfl rfl) fun a hS => ?_
       refine gy hS rfl (y_move hS rfl) fun a hS => ?_
       refine gy hS rfl (y_move hS rfl) fun a hS => ?_
       refine gl hS rfl (l_call (cap := []) hS rfl Try.func31 rfl (by kernel_rfl) rfl rfl (c_self _ _ hS.lt t_ (Ap03) (cp03) (Ap04) (cp04) (Ap05) (cp05) (Ap06) (cp06) (Ap07) (cp07) (hS.fact (k := 101) rfl) (hS.fact (k := 102) rfl) (hS.fact (k := 103) rfl) (hS.fact (k := 104) rfl) (hS.fact (k := 105) rfl) r20.1 label_ r29 hr29) ?_); clear hS a; intro v32 a w hK hp hS
       clear hK
       obtain rfl := hp
       refine qq hS rfl (y_pick_t hS rfl rfl) fun a hS => ?_
       apply wN
       exact ⟨(r29), hg, (hS.sb rfl rfl rfl)⟩
      ·have hs28e : decide (x14.Label = x4) = false := decide_eq_false hs28
       replace hg := br_f hg hs28
       apply wp_region_lit
       refine qq hS rfl (yl_b (y_move hS rfl) hs27) fun a hS => ?_
       refine qq hS rfl (y_move hS rfl) fun a hS => ?_
       refine gy hS rfl (y_boxField (o' := 1) hS rfl Try.underlying55 rfl rfl rfl) fun a hS => ?_
       refine gy hS rfl (y_loadBox1 (kk := 1802) hS rfl rfl rfl Try.underlying3 rfl) fun a hS => ?_
       refine gy hS rfl (y_move hS rfl) fun a hS => ?_
       refine gy hS rfl (yl_b (y_eql hS rfl rfl) hs28e) fun a hS => ?_
       refine qq hS rfl (y_pick_t hS rfl rfl) fun a hS => ?_
       refine qq hS rfl (y_move hS rfl) fun a hS => ?_
       refine gn hS rfl fun a hS => ?_
       refine gn hS rfl fun a hS => ?_
       refine gn hS rfl fun a hS => ?_
       refine gn hS rfl fun a hS => ?_
       refine qq hS rfl (y_pick_f hS rfl rfl) fun a hS => ?_
       apply wN
       exact ⟨(false), hg, (hS.sb rfl rfl rfl)⟩
     ·replace hg := br_f hg (by rw [hs27]; exact Bool.false_ne_true)
      apply wp_region_lit
      refine qq hS rfl (yl_b (y_move hS rfl) hs27) fun a hS => ?_
      refine qq hS rfl (y_move hS rfl) fun a hS => ?_
      refine gn hS rfl fun a hS => ?_
      refine gn hS rfl fun a hS => ?_
      refine gn hS rfl fun a hS => ?_
      refine gn hS rfl fun a hS => ?_
      refine qq hS rfl (y_pick_f hS rfl rfl) fun a hS => ?_
      refine qq hS rfl (y_move hS rfl) fun a hS => ?_
      refine gn hS rfl fun a hS => ?_
      refine gn hS rfl fun a hS => ?_
      refine gn hS rfl fun a hS => ?_
      refine gn hS rfl fun a hS => ?_
      refine qq hS rfl (y_pick_f hS rfl rfl) fun a hS => ?_
      apply wN
      exact ⟨(false), hg, (hS.sb rfl rfl rfl)⟩
    clear hS a; rintro a w ⟨t_26, hg, hS⟩
    subst hk25
    refine c_cond hS rfl (fun hc34 => ?_) (fun hc34 => ?_)
    ·replace hg := br_t hg hc34
     apply wR
     refine qq hS rfl (y_assign hS rfl) fun a hS => ?_
     apply wN
     apply wp_ret
     refine p_inR ?_
     refine p_thenR ?_
     refine p_thenR ?_
     refine p_inR ?_
     refine p_thenR ?_
     obtain rfl := Option.some.inj hg
     refine fin1 (fn := Try.f31) hS rfl (r_tmp hS rfl) ?_
     exact rfl
    ·replace hg := br_f hg (by rw [hc34]; exact Bool.false_ne_true)
     apply wp_skip
     refine p_inN ?_
     refine p_norm ?_
     apply wp_region_lit
     refine qq hS rfl (y_addN (i := t_10) (j := 1) hS rfl rfl (in64.2 (by omega))) fun a hS => ?_
     refine qq hS rfl (y_move hS rfl) fun a hS => ?_
     apply wN
     exact ⟨m1, Nat.lt_succ_self _, ⟨(t_10 + 1), hg, (hS.sb rfl rfl rfl)⟩⟩
   ·replace hg := br_f hg hc11
    apply wp_exit
    refine p_then ?_
    refine p_then ?_
    refine p_in ?_
    refine p_norm ?_
    apply wR
    refine qq hS rfl (y_assign hS rfl) fun a hS => ?_
    apply wN
    apply wp_ret
    obtain rfl := Option.some.inj hg
    refine fin1 (fn := Try.f31) hS rfl (r_tmp hS rfl) ?_
    exact rfl
set_option maxHeartbeats 400000 in
theorem c_scope_tree_bound (n : Nat) (M : Bs) (w0 : World) (hM : ∀ b, M b → b < w0.heap.size) (t_ : tree) (Ap03 : Option Addr) (cp03 : Nat) (Ap04 : Option Addr) (cp04 : Nat) (Ap05 : Option Addr) (cp05 : Nat) (Ap06 : Option Addr) (cp06 : Nat) (Ap07 : Option Addr) (cp07 : Nat) (hp03 : SlR Rep.str M w0 Ap03 (t_.m_.Vars).length cp03 (t_.m_.Vars)) (hp04 : SlR REP M w0 Ap04 (t_.m_.Rels).length cp04 (t_.m_.Rels)) (hp05 : SlR RQeq M w0 Ap05 (t_.m_.Cons).length cp05 (t_.m_.Cons)) (hp06 : SlR (Rep.num .i64) M w0 Ap06 (t_.labels_).length cp06 (t_.labels_)) (hp07 : SlR (Rep.num .i64) M w0 Ap07 (t_.at_).length cp07 (t_.at_)) (t_' : Int) (r : Bool) (hg : scope_tree_bound n t_ t_' = some r) :
    Calls Try.prog 32 [.agg #[.int .i64 (t_.m_.Top), .int .i64 (t_.m_.Index), .slice (Ap03) ((t_.m_.Vars).length) (cp03), .slice (Ap04) ((t_.m_.Rels).length) (cp04), .slice (Ap05) ((t_.m_.Cons).length) (cp05), .slice (Ap06) ((t_.labels_).length) (cp06), .slice (Ap07) ((t_.at_).length) (cp07)], .int .i64 (t_')].toArray w0 (Ret noB w0 fun v w => v = .bool (r)) := by
 unfold scope_tree_bound at hg
 refine enter M noB Try.func32 rfl rfl hM ?_
 intro a hS
 replace hS := hS.es 101 hp03
 replace hS := hS.es 102 hp04
 replace hS := hS.es 103 hp05
 replace hS := hS.es 104 hp06
 replace hS := hS.es 105 hp07
 apply wR
 refine l_seq rfl (l_box (zs := [.int .i64 (t_.m_.Top), .int .i64 (t_.m_.Index), .slice (Ap03) ((t_.m_.Vars).length) (cp03), .slice (Ap04) ((t_.m_.Rels).length) (cp04), .slice (Ap05) ((t_.m_.Cons).length) (cp05), .slice (Ap06) ((t_.labels_).length) (cp06), .slice (Ap07) ((t_.at_).length) (cp07)]) hS 1000 rfl rfl rfl rfl ?_); clear hS a; intro b2 a w hb hK hS
 clear hb hK
 refine qq hS rfl (y_assign hS rfl) fun a hS => ?_
 apply wN
 apply wp_seq
 obtain ⟨x4, hx4, hg⟩ := bind_some hg
 apply wp_region_lit
 refine qq hS rfl (y_boxField (o' := 0) hS rfl Try.underlying59 rfl rfl rfl) fun a hS => ?_
 refine qq hS rfl (y_boxField (o' := 3) hS rfl Try.underlying26 rfl rfl rfl) fun a hS => ?_
 refine qq hS rfl (y_loadBox1 (kk := 1000) hS rfl rfl rfl Try.underlying23 rfl) fun a hS => ?_
 refine qq hS rfl (y_move hS rfl) fun a hS => ?_
 obtain ⟨p7, hep7, hpp7⟩ := SlR.elemX (hS.fact (k := 102) rfl) (ix_some hx4).1
 refine qq hS rfl (y_elem (sz := 3) (i := ((t_').toNat)) hS rfl rfl Try.underlying23 rfl hep7 (ix_some hx4).2.1 (lt_of_get (ix_some hx4).1)) fun a hS => ?_
 obtain ⟨hlq8, hmq8, csq8, hdq8, hcq8⟩ := hpp7
 obtain ⟨Aq83, cq83, rfl, lq81, hq83⟩ := REP.open hdq8
 replace hS := hS.add 107 (slF RArg (Aq83) ((x4.Args).length) (cq83) (x4.Args)) hq83
 refine qq hS rfl (y_ldp hS rfl hlq8 hmq8 (by simpa using hcq8) Try.underlying55 rfl rfl) fun a hS => ?_
 refine l_seq rfl (l_alloc (zs := [.string (bs ([])), .int .i64 (0), .slice (none) (0) (0)]) hS 1106 rfl rfl rfl rfl ?_); clear hS a; intro b9 a w hb hK hS
 clear hb hK
 refine l_seq rfl (l_store (n := 3) (cs' := [.string (bs (x4.Pred)), .int .i64 (x4.Label), .slice (Aq83) ((x4.Args).length) (cq83)]) hS 1106 rfl rfl rfl rfl rfl rfl rfl rfl ?_); clear hS; intro w hK hS; clear hK
 apply wN
 apply wp_seq
 obtain ⟨r10, hr10, hg⟩ := bind_some hg
 apply wp_region_lit
 refine qq hS rfl (y_loadBox (kk := 1106) (n := 3) (vs := [.string (bs (x4.Pred)), .int .i64 (x4.Label), .slice (Aq83) ((x4.Args).length) (cq83)]) hS rfl rfl Try.underlying55 rfl rfl rfl rfl) fun a hS => ?_
 refine l_seq rfl (l_call (cap := []) hS rfl Try.func51 rfl (by kernel_rfl) rfl rfl (c_scope_role n _ _ hS.lt x4 (Aq83) (cq83) (by omega) (hS.fact (k := 107) rfl) [65, 82, 71, 48] (by first | omega | (rw [List.length_append]; omega) | (simp only [List.length_append]; omega) | (simp only [List.length_append, List.length_take, List.length_drop, List.length_cons, List.length_nil]; omega)) r10 hr10) ?_); clear hS a; intro v13 a w hK hp hS
 clear hK
 obtain rfl := hp
 refine qq hS rfl (y_move hS rfl) fun a hS => ?_
 refine qq hS rfl (y_extract hS rfl rfl) fun a hS => ?_
 refine qq hS rfl (y_extract hS rfl rfl) fun a hS => ?_
 refine qq hS rfl (y_assign hS rfl) fun a hS => ?_
 refine qq hS rfl (y_assign hS rfl) fun a hS => ?_
 apply wN
 apply wp_seq
 apply wp_seq
 obtain ⟨r15, hr15, hg⟩ := bind_some hg
 apply wp_region_lit
 refine qq hS rfl (y_loadBox (kk := 1106) (n := 3) (vs := [.string (bs (x4.Pred)), .int .i64 (x4.Label), .slice (Aq83) ((x4.Args).length) (cq83)]) hS rfl rfl Try.underlying55 rfl rfl rfl rfl) fun a hS => ?_
 refine l_seq rfl (l_call (cap := []) hS rfl Try.func50 rfl (by kernel_rfl) rfl rfl (c_scope_quantifier n _ _ hS.lt x4 (Aq83) (cq83) (by omega) (hS.fact (k := 107) rfl) r15 hr15) ?_); clear hS a; intro v18 a w hK hp hS
 clear hK
 obtain rfl := hp
 refine qq hS rfl (y_move hS rfl) fun a hS => ?_
 refine qq hS rfl (y_extract hS rfl rfl) fun a hS => ?_
 refine qq hS rfl (y_extract hS rfl rfl) fun a hS => ?_
 refine qq hS rfl (y_assign hS rfl) fun a hS => ?_
 refine qq hS rfl (y_assign hS rfl) fun a hS => ?_
 apply wN
 apply wp_seq
 obtain ⟨k20, hg, hk20⟩ := jn_some hg
 refine c_post (fun a w => ∃ (t_21 : Bool), k20 t_21 = some r ∧ St (⟨Try.f32.ntmps, M, noB, w0⟩ : Ctx) [(1, .int .i64 (t_')), (2, .pointer (some ⟨b2, 0, none⟩)), (5, .pointer (some ⟨b9, 0, none⟩)), (6, .int .i64 (r10.1)), (36, .bool (t_21))] [(1000, Ob.box b2 [.int .i64 (t_.m_.Top), .int .i64 (t_.m_.Index), .slice (Ap03) ((t_.m_.Vars).length) (cp03), .slice (Ap04) ((t_.m_.Rels).length) (cp04), .slice (Ap05) ((t_.m_.Cons).length) (cp05), .slice (Ap06) ((t_.labels_).length) (cp06), .slice (Ap07) ((t_.at_).length) (cp07)] 59), (1106, Ob.box b9 [.string (bs (x4.Pred)), .int .i64 (x4.Label), .slice (Aq83) ((x4.Args).length) (cq83)] 55)] [(101, slF Rep.str (Ap03) ((t_.m_.Vars).length) (cp03) (t_.m_.Vars)), (102, slF REP (Ap04) ((t_.m_.Rels).length) (cp04) (t_.m_.Rels)), (103, slF RQeq (Ap05) ((t_.m_.Cons).length) (cp05) (t_.m_.Cons)), (104, slF (Rep.num .i64) (Ap06) ((t_.labels_).length) (cp06) (t_.labels_)), (105, slF (Rep.num .i64) (Ap07) ((t_.at_).length) (cp07) (t_.at_)), (107, slF RArg (Aq83) ((x4.Args).length) (cq83) (x4.Args))] a w) ?_ ?_
 ·rcases Bool.eq_false_or_eq_true (!(r15.2)) with hs22 | hs22
  ·replace hg := br_t hg hs22
   apply wp_region_lit
   refine qq hS rfl (y_move hS rfl) fun a hS => ?_
   refine qq hS rfl (yl_b (y_not hS rfl) hs22) fun a hS => ?_
   refine qq hS rfl (y_move hS rfl) fun a hS => ?_
   refine gn hS rfl fun a hS => ?_
   refine gn hS rfl fun a hS => ?_
   refine qq hS rfl (y_pick_t hS rfl rfl) fun a hS => ?_
   apply wN
   exact ⟨(true), hg, (hS.sb rfl rfl rfl)⟩
  ·replace hg := br_f hg (by rw [hs22]; exact Bool.false_ne_true)
   apply wp_region_lit
   refine qq hS rfl (y_move hS rfl) fun a hS => ?_
   refine qq hS rfl (yl_b (y_not hS rfl) hs22) fun a hS => ?_
   refine qq hS rfl (y_move hS rfl) fun a hS => ?_
   refine gy hS rfl (y_move hS rfl) fun a hS => ?_
   refine gy hS rfl (y_not hS rfl) fun a hS => ?_
   refine qq hS rfl (y_pick_f hS rfl rfl) fun a hS => ?_
   apply wN
   exact ⟨(!(r10.2)), hg, (hS.sb rfl rfl rfl)⟩
 clear hS a; rintro a w ⟨t_21, hg, hS⟩
 subst hk20
 refine c_cond hS rfl (fun hc23 => ?_) (fun hc23 => ?_)
 ·replace hg := br_t hg hc23
  apply wR
  refine qq hS rfl (y_assign hS rfl) fun a hS => ?_
  apply wN
  apply wp_ret
  refine p_thenR ?_
  obtain rfl := Option.some.inj hg
  refine fin1 (fn := Try.f32) hS rfl (r_tmp hS rfl) ?_
  exact rfl
 ·replace hg := br_f hg (by rw [hc23]; exact Bool.false_ne_true)
  apply wp_skip
  refine p_norm ?_
  apply wR
  refine qq hS rfl (y_assign hS rfl) fun a hS => ?_
  apply wN
  apply wp_seq
  apply wR
  refine qq hS rfl (y_boxField (o' := 2) hS rfl Try.underlying55 rfl rfl rfl) fun a hS => ?_
  refine qq hS rfl (y_loadBox1 (kk := 1106) hS rfl rfl rfl Try.underlying53 rfl) fun a hS => ?_
  refine qq hS rfl (y_lenSlice hS rfl Try.underlying53) fun a hS => ?_
  refine qq hS rfl (y_move hS rfl) fun a hS => ?_
  apply wN
  obtain ⟨k24, hg, hk24⟩ := jn_some hg
  refine c_post (fun a w => ∃ (t_25 : (List Int)), ∃ (A26 : Option Addr), ∃ (c27 : Nat), ∃ (cs28 : List Value), k24 t_25 = some r ∧ St (⟨Try.f32.ntmps, M, noB, w0⟩ : Ctx) [(1, .int .i64 (t_')), (2, .pointer (some ⟨b2, 0, none⟩)), (6, .int .i64 (r10.1)), (10, .slice (A26) ((t_25).length) (c27))] [(1000, Ob.box b2 [.int .i64 (t_.m_.Top), .int .i64 (t_.m_.Index), .slice (Ap03) ((t_.m_.Vars).length) (cp03), .slice (Ap04) ((t_.m_.Rels).length) (cp04), .slice (Ap05) ((t_.m_.Cons).length) (cp05), .slice (Ap06) ((t_.labels_).length) (cp06), .slice (Ap07) ((t_.at_).length) (cp07)] 59), (700108, Ob.row (A26) ((t_25).length) (c27) 3 1 (cs28))] [(101, slF Rep.str (Ap03) ((t_.m_.Vars).length) (cp03) (t_.m_.Vars)), (102, slF REP (Ap04) ((t_.m_.Rels).length) (cp04) (t_.m_.Rels)), (103, slF RQeq (Ap05) ((t_.m_.Cons).length) (cp05) (t_.m_.Cons)), (104, slF (Rep.num .i64) (Ap06) ((t_.labels_).length) (cp06) (t_.labels_)), (105, slF (Rep.num .i64) (Ap07) ((t_.at_).length) (cp07) (t_.at_)), (109, rdF (Rep.num .i64) (cs28) (t_25))] a w) ?_ ?_
  ·apply wp_block
   replace hS := hS.nilRow 700110 3 1 rfl
   replace hS := hS.add 111 (rdF (Rep.num .i64) [] []) (RdAll.nil _ _ _)
   refine c_loop (σ := Nat) (fun m1 a w => ∃ (t_29 : (List Int)), ∃ (t_33 : Nat), ∃ (A30 : Option Addr), ∃ (c31 : Nat), ∃ (cs32 : List Value), scope_tree_bound_L0 n t_ x4 k24 m1 t_29 t_33 = some r ∧ St (⟨Try.f32.ntmps, M, noB, w0⟩ : Ctx) [(1, .int .i64 (t_')), (2, .pointer (some ⟨b2, 0, none⟩)), (6, .int .i64 (r10.1)), (10, .slice (A30) ((t_29).length) (c31)), (38, .slice (Aq83) ((x4.Args).length) (cq83)), (39, .int .i64 ((((x4.Args).length : Nat) : Int))), (40, .int .i64 (((t_33 : Nat) : Int)))] [(1000, Ob.box b2 [.int .i64 (t_.m_.Top), .int .i64 (t_.m_.Index), .slice (Ap03) ((t_.m_.Vars).length) (cp03), .slice (Ap04) ((t_.m_.Rels).length) (cp04), .slice (Ap05) ((t_.m_.Cons).length) (cp05), .slice (Ap06) ((t_.labels_).length) (cp06), .slice (Ap07) ((t_.at_).length) (cp07)] 59), (700110, Ob.row (A30) ((t_29).length) (c31) 3 1 (cs32))] [(101, slF Rep.str (Ap03) ((t_.m_.Vars).length) (cp03) (t_.m_.Vars)), (102, slF REP (Ap04) ((t_.m_.Rels).length) (cp04) (t_.m_.Rels)), (103, slF RQeq (Ap05) ((t_.m_.Cons).length) (cp05) (t_.m_.Cons)), (104, slF (Rep.num .i64) (Ap06) ((t_.labels_).length) (cp06) (t_.labels_)), (105, slF (Rep.num .i64) (Ap07) ((t_.at_).length) (cp07) (t_.at_)), (107, slF RArg (Aq83) ((x4.Args).length) (cq83) (x4.Args)), (111, rdF (Rep.num .i64) (cs32) (t_29))] a w) (fun m1 => m1) n ⟨([]), (0), (none), (0), ([]), hg, (hS.sb rfl rfl rfl)⟩ ?_
   clear hS a; rintro m1 a w ⟨t_29, t_33, A30, c31, cs32, hg, hS⟩
   rcases m1 with _ | m1
   ·rw [scope_tree_bound_L0] at hg; cases hg
   rw [scope_tree_bound_L0] at hg
   apply wR
   refine qq hS rfl (y_lssN (i := t_33) (j := ((x4.Args).length)) hS rfl rfl) fun a hS => ?_
   apply wN
   apply wp_seq
   refine c_dec hS rfl (fun hc34 => ?_) (fun hc34 => ?_)
   ·replace hg := br_t hg hc34
    have hmx35 := SlR.mx (hS.fact (k := 107) rfl)
    apply wp_skip
    refine p_norm ?_
    apply wp_seq
    apply wp_block
    apply wp_seq
    obtain ⟨x37, hx37, hg⟩ := bind_some hg
    apply wp_region_lit
    obtain ⟨p40, hep40, hpp40⟩ := SlR.elemX (hS.fact (k := 107) rfl) hx37
    refine qq hS rfl (y_elem (sz := 2) (i := t_33) hS rfl rfl Try.underlying53 rfl hep40 rfl (lt_of_get hx37)) fun a hS => ?_
    obtain ⟨hlq41, hmq41, csq41, hdq41, hcq41⟩ := hpp40
    obtain ⟨rfl, lq411⟩ := RArg.open hdq41
    refine qq hS rfl (y_ldp hS rfl hlq41 hmq41 (by simpa using hcq41) Try.underlying76 rfl rfl) fun a hS => ?_
    refine l_seq rfl (l_alloc (zs := [.string (bs ([])), .int .i64 (0)]) hS 1902 rfl rfl rfl rfl ?_); clear hS a; intro b42 a w hb hK hS
    clear hb hK
    refine l_seq rfl (l_store (n := 2) (cs' := [.string (bs (x37.Role)), .int .i64 (x37.Var)]) hS 1902 rfl rfl rfl rfl rfl rfl rfl rfl ?_); clear hS; intro w hK hS; clear hK
    apply wN
    obtain ⟨x44, hx44, hg⟩ := bind_some hg
    obtain ⟨r46, hr46, hg⟩ := bind_some hg
    obtain ⟨hk49, hg⟩ := chk_some hg
    refine d_plan hS [(9, 700110)] [(0, some 0), (1, some 1000), (2, some 0), (3, some 1000), (4, some 0), (5, some 1902), (6, some 0), (7, some 0), (8, none), (9, none), (10, none)] rfl (by kernel_rfl) (by kernel_rfl) rfl ?_; clear hS; intro wr hZ hS; have hR := hS.wd
    refine q_take hS hR rfl rfl rfl rfl (y_move hS rfl) fun a hS => ?_
    refine q_take hS hR rfl rfl rfl rfl (y_loadBox (kk := 1000) (n := 7) (vs := [.int .i64 (t_.m_.Top), .int .i64 (t_.m_.Index), .slice (Ap03) ((t_.m_.Vars).length) (cp03), .slice (Ap04) ((t_.m_.Rels).length) (cp04), .slice (Ap05) ((t_.m_.Cons).length) (cp05), .slice (Ap06) ((t_.labels_).length) (cp06), .slice (Ap07) ((t_.at_).length) (cp07)]) hS rfl rfl Try.underlying59 rfl rfl rfl rfl) fun a hS => ?_
    refine q_take hS hR rfl rfl rfl rfl (y_boxField (o' := 6) hS rfl Try.underlying59 rfl rfl rfl) fun a hS => ?_
    refine q_take hS hR rfl rfl rfl rfl (y_loadBox1 (kk := 1000) hS rfl rfl rfl Try.underlying33 rfl) fun a hS => ?_
    refine q_take hS hR rfl rfl rfl rfl (y_boxField (o' := 1) hS rfl Try.underlying76 rfl rfl rfl) fun a hS => ?_
    refine q_take hS hR rfl rfl rfl rfl (y_loadBox1 (kk := 1902) hS rfl rfl rfl Try.underlying3 rfl) fun a hS => ?_
    obtain ⟨p52, hep52, hpp52⟩ := SlR.elemX (hS.fact (k := 105) rfl) (ix_some hx44).1
    refine q_take hS hR rfl rfl rfl rfl (y_elem (sz := 1) (i := ((x37.Var).toNat)) hS rfl rfl Try.underlying33 rfl hep52 (ix_some hx44).2.1 (lt_of_get (ix_some hx44).1)) fun a hS => ?_
    obtain ⟨hlq53, hmq53, csq53, hdq53, hcq53⟩ := hpp52
    obtain rfl := hdq53
    refine q_take hS hR rfl rfl rfl rfl (y_ldp1 hS rfl hlq53 hmq53 (hcq53 0 _ rfl) Try.underlying3 rfl) fun a hS => ?_
    refine l_take hS rfl rfl (l_call (cap := []) hS rfl Try.func48 rfl (by kernel_rfl) rfl rfl (c_scope_tree_below n _ _ hS.lt t_ (Ap03) (cp03) (Ap04) (cp04) (Ap05) (cp05) (Ap06) (cp06) (Ap07) (cp07) (hS.fact (k := 101) rfl) (hS.fact (k := 102) rfl) (hS.fact (k := 103) rfl) (hS.fact (k := 104) rfl) (hS.fact (k := 105) rfl) x44 r46 hr46) ?_); clear hS a; intro v54 a w hK hp hS
    replace hZ := Nat.le_trans hZ hK.size; refine ⟨fun g _ h => h.grow hK, ?_⟩; clear hK
    obtain ⟨Au55a1, cu55a1, rfl, hu55a1⟩ := hp
    replace hS := hS.add 115 (slF (Rep.num .i64) (Au55a1) ((r46).length) (cu55a1) (r46)) hu55a1
    obtain ⟨ns57, hs57, hns57⟩ := SlR.src (hS.fact (k := 115) rfl)
    replace hS := hS.add 116 (rdF (Rep.num .i64) ns57 (r46)) hns57
    refine l_take hS rfl rfl (l_append (sz := 1) (by_ := 8) (N := (t_29 ++ r46).length) (ys := cs32 ++ ns57) hS 700110 rfl rfl rfl Try.underlying33 rfl rfl rfl rfl rfl hs57 (by simp) rfl (by have hr := hk49; clear hg; first | omega | (simp only [List.length_append, List.length_cons, List.length_nil] at hr ⊢; omega) | (simp at hr ⊢; omega)) (by have hr := hk49; clear hg; first | omega | (simp only [List.length_append, List.length_cons, List.length_nil] at hr ⊢; omega) | (simp at hr ⊢; omega)) rfl ?_); clear hS a; intro Aq56 cq56 a w hA hK hS
    replace hZ := Nat.le_trans hZ hK.size; refine ⟨fun g hg h => h.obj hR (kk := 700110) rfl hK (by rintro rfl; exact absurd hg (by decide)), ?_⟩
    clear hK hA
    replace hS := hS.add 117 (rdF (Rep.num .i64) (cs32 ++ ns57) (t_29 ++ r46)) (RdAll.append (hS.fact (k := 111) rfl) (hS.fact (k := 116) rfl))
    refine l_take hS rfl rfl (l_quiet hS rfl rfl (y_assign hS rfl) fun a hS => ?_); refine ⟨fun g _ h => h, ?_⟩
    clear hR hZ
    refine p_inN ?_
    refine p_norm ?_
    apply wp_region_lit
    refine qq hS rfl (y_addN (i := t_33) (j := 1) hS rfl rfl (in64.2 (by omega))) fun a hS => ?_
    refine qq hS rfl (y_move hS rfl) fun a hS => ?_
    apply wN
    replace hS := hS.al 111 117 rfl
    exact ⟨m1, Nat.lt_succ_self _, ⟨(t_29 ++ r46), (t_33 + 1), (Aq56), (cq56), (cs32 ++ ns57), hg, (hS.sb rfl rfl rfl)⟩⟩
   ·replace hg := br_f hg hc34
    apply wp_exit
    refine p_then ?_
    refine p_then ?_
    refine p_in ?_
    refine p_norm ?_
    replace hS := hS.al 109 111 rfl
    replace hS := hS.pk [(1000, 1000), (700108, 700110)] (by decide)
    exact ⟨(t_29), (A30), (c31), (cs32), hg, (hS.sb rfl rfl rfl)⟩
  clear hS a; rintro a w ⟨t_25, A26, c27, cs28, hg, hS⟩
  subst hk24
  apply wp_seq
  apply wR
  refine qq hS rfl (y_boxField (o' := 0) hS rfl Try.underlying59 rfl rfl rfl) fun a hS => ?_
  refine qq hS rfl (y_boxField (o' := 3) hS rfl Try.underlying26 rfl rfl rfl) fun a hS => ?_
  refine qq hS rfl (y_loadBox1 (kk := 1000) hS rfl rfl rfl Try.underlying23 rfl) fun a hS => ?_
  refine qq hS rfl (y_lenSlice hS rfl Try.underlying23) fun a hS => ?_
  refine qq hS rfl (y_move hS rfl) fun a hS => ?_
  apply wN
  apply wp_block
  refine c_loop (σ := Nat) (fun m2 a w => ∃ (t_58 : Nat), scope_tree_bound_L1 n t_ t_' r10 t_25 m2 t_58 = some r ∧ St (⟨Try.f32.ntmps, M, noB, w0⟩ : Ctx) [(1, .int .i64 (t_')), (6, .int .i64 (r10.1)), (10, .slice (A26) ((t_25).length) (c27)), (57, .slice (Ap04) ((t_.m_.Rels).length) (cp04)), (58, .int .i64 ((((t_.m_.Rels).length : Nat) : Int))), (59, .int .i64 (((t_58 : Nat) : Int)))] [(700108, Ob.row (A26) ((t_25).length) (c27) 3 1 (cs28))] [(102, slF REP (Ap04) ((t_.m_.Rels).length) (cp04) (t_.m_.Rels)), (109, rdF (Rep.num .i64) (cs28) (t_25))] a w) (fun m2 => m2) n ⟨(0), hg, (hS.sb rfl rfl rfl)⟩ ?_
  clear hS a; rintro m2 a w ⟨t_58, hg, hS⟩
  rcases m2 with _ | m2
  ·rw [scope_tree_bound_L1] at hg; cases hg
  rw [scope_tree_bound_L1] at hg
  apply wR
  refine qq hS rfl (y_lssN (i := t_58) (j := ((t_.m_.Rels).length)) hS rfl rfl) fun a hS => ?_
  apply wN
  apply wp_seq
  refine c_dec hS rfl (fun hc59 => ?_) (fun hc59 => ?_)
  ·replace hg := br_t hg hc59
   have hmx60 := SlR.mx (hS.fact (k := 102) rfl)
   apply wp_skip
   refine p_norm ?_
   apply wp_seq
   apply wp_block
   apply wp_seq
   obtain ⟨x62, hx62, hg⟩ := bind_some hg
   apply wp_region_lit
   refine qq hS rfl (y_move hS rfl) fun a hS => ?_
   obtain ⟨p65, hep65, hpp65⟩ := SlR.elemX (hS.fact (k := 102) rfl) hx62
   refine qq hS rfl (y_elem (sz := 3) (i := t_58) hS rfl rfl Try.underlying23 rfl hep65 rfl (lt_of_get hx62)) fun a hS => ?_
   obtain ⟨hlq66, hmq66, csq66, hdq66, hcq66⟩ := hpp65
   obtain ⟨Aq663, cq663, rfl, lq661, hq663⟩ := REP.open hdq66
   replace hS := hS.add 119 (slF RArg (Aq663) ((x62.Args).length) (cq663) (x62.Args)) hq663
   refine qq hS rfl (y_ldp hS rfl hlq66 hmq66 (by simpa using hcq66) Try.underlying55 rfl rfl) fun a hS => ?_
   refine l_seq rfl (l_alloc (zs := [.string (bs ([])), .int .i64 (0), .slice (none) (0) (0)]) hS 2403 rfl rfl rfl rfl ?_); clear hS a; intro b67 a w hb hK hS
   clear hb hK
   refine qq hS rfl (y_assign hS rfl) fun a hS => ?_
   refine l_seq rfl (l_store (n := 3) (cs' := [.string (bs (x62.Pred)), .int .i64 (x62.Label), .slice (Aq663) ((x62.Args).length) (cq663)]) hS 2403 rfl rfl rfl rfl rfl rfl rfl rfl ?_); clear hS; intro w hK hS; clear hK
   apply wN
   apply wp_seq
   obtain ⟨k68, hg, hk68⟩ := jn_some hg
   refine c_post (fun a w => ∃ (t_69 : Bool), k68 t_69 = some r ∧ St (⟨Try.f32.ntmps, M, noB, w0⟩ : Ctx) [(1, .int .i64 (t_')), (6, .int .i64 (r10.1)), (10, .slice (A26) ((t_25).length) (c27)), (57, .slice (Ap04) ((t_.m_.Rels).length) (cp04)), (58, .int .i64 ((((t_.m_.Rels).length : Nat) : Int))), (59, .int .i64 (((t_58 : Nat) : Int))), (78, .bool (t_69))] [(700108, Ob.row (A26) ((t_25).length) (c27) 3 1 (cs28))] [(102, slF REP (Ap04) ((t_.m_.Rels).length) (cp04) (t_.m_.Rels)), (109, rdF (Rep.num .i64) (cs28) (t_25))] a w) ?_ ?_
   ·rcases Decidable.em (((t_58 : Nat) : Int) ≠ t_') with hs70 | hs70
    ·have hs70e : decide (((t_58 : Nat) : Int) ≠ t_') = true := decide_eq_true hs70
     replace hg := br_t hg hs70
     obtain ⟨r71, hr71, hg⟩ := bind_some hg
     rcases Bool.eq_false_or_eq_true (r71) with hs74 | hs74
     ·replace hg := br_t hg hs74
      obtain ⟨r75, hr75, hg⟩ := bind_some hg
      apply wp_region_lit
      refine qq hS rfl (y_move hS rfl) fun a hS => ?_
      refine qq hS rfl (y_move hS rfl) fun a hS => ?_
      refine qq hS rfl (yl_b (y_neq hS rfl rfl) hs70e) fun a hS => ?_
      refine qq hS rfl (y_move hS rfl) fun a hS => ?_
      refine gy hS rfl (y_loadBox (kk := 2403) (n := 3) (vs := [.string (bs (x62.Pred)), .int .i64 (x62.Label), .slice (Aq663) ((x62.Args).length) (cq663)]) hS rfl rfl Try.underlying55 rfl rfl rfl rfl) fun a hS => ?_
      refine gy hS rfl (y_move hS rfl) fun a hS => ?_
      refine gl hS rfl (l_call (cap := []) hS rfl Try.func26 rfl (by kernel_rfl) rfl rfl (c_scope_used n _ _ hS.lt x62 (Aq663) (cq663) (by omega) (hS.fact (k := 119) rfl) r10.1 r71 hr71) ?_); clear hS a; intro v78 a w hK hp hS
      clear hK
      obtain rfl := hp.trans (congrArg Value.bool hs74)
      refine qq hS rfl (y_pick_t hS rfl rfl) fun a hS => ?_
      refine qq hS rfl (y_move hS rfl) fun a hS => ?_
      refine gy hS rfl (y_move hS rfl) fun a hS => ?_
      refine gy hS rfl (y_boxField (o' := 1) hS rfl Try.underlying55 rfl rfl rfl) fun a hS => ?_
      refine gy hS rfl (y_loadBox1 (kk := 2403) hS rfl rfl rfl Try.underlying3 rfl) fun a hS => ?_
      have hT := hS
      replace hT := hT.fz (R := (Rep.num .i64)) (kk := 700108) [2403] 121 rfl rfl (hT.fact (k := 109) rfl) rfl
      refine gl hS rfl (l_call (cap := []) hS rfl Try.func23 rfl (by kernel_rfl) rfl rfl (c_slices_Contains_int n _ _ hT.lt t_25 (A26) (c27) (hT.fact (k := 121) rfl) x62.Label r75 hr75) ?_); clear hS hT a; intro v80 a w hK hp hS
      clear hK
      obtain rfl := hp
      refine gy hS rfl (y_not hS rfl) fun a hS => ?_
      refine qq hS rfl (y_pick_t hS rfl rfl) fun a hS => ?_
      apply wN
      exact ⟨(!(r75)), hg, (hS.sb rfl rfl rfl)⟩
     ·replace hg := br_f hg (by rw [hs74]; exact Bool.false_ne_true)
      apply wp_region_lit
      refine qq hS rfl (y_move hS rfl) fun a hS => ?_
      refine qq hS rfl (y_move hS rfl) fun a hS => ?_
      refine qq hS rfl (yl_b (y_neq hS rfl rfl) hs70e) fun a hS => ?_
      refine qq hS rfl (y_move hS rfl) fun a hS => ?_
      refine gy hS rfl (y_loadBox (kk := 2403) (n := 3) (vs := [.string (bs (x62.Pred)), .int .i64 (x62.Label), .slice (Aq663) ((x62.Args).length) (cq663)]) hS rfl rfl Try.underlying55 rfl rfl rfl rfl) fun a hS => ?_
      refine gy hS rfl (y_move hS rfl) fun a hS => ?_
      refine gl hS rfl (l_call (cap := []) hS rfl Try.func26 rfl (by kernel_rfl) rfl rfl (c_scope_used n _ _ hS.lt x62 (Aq663) (cq663) (by omega) (hS.fact (k := 119) rfl) r10.1 r71 hr71) ?_); clear hS a; intro v82 a w hK hp hS
      clear hK
      obtain rfl := hp.trans (congrArg Value.bool hs74)
      refine qq hS rfl (y_pick_t hS rfl rfl) fun a hS => ?_
      refine qq hS rfl (y_move hS rfl) fun a hS => ?_
      refine gn hS rfl fun a hS => ?_
      refine gn hS rfl fun a hS => ?_
      refine gn hS rfl fun a hS => ?_
      refine gn hS rfl fun a hS => ?_
      refine gn hS rfl fun a hS => ?_
      refine qq hS rfl (y_pick_f hS rfl rfl) fun a hS => ?_
      apply wN
      exact ⟨(false), hg, (hS.sb rfl rfl rfl)⟩
    ·have hs70e : decide (((t_58 : Nat) : Int) ≠ t_') = false := decide_eq_false hs70
     replace hg := br_f hg hs70
     apply wp_region_lit
     refine qq hS rfl (y_move hS rfl) fun a hS => ?_
     refine qq hS rfl (y_move hS rfl) fun a hS => ?_
     refine qq hS rfl (yl_b (y_neq hS rfl rfl) hs70e) fun a hS => ?_
     refine qq hS rfl (y_move hS rfl) fun a hS => ?_
     refine gn hS rfl fun a hS => ?_
     refine gn hS rfl fun a hS => ?_
     refine gn hS rfl fun a hS => ?_
     refine qq hS rfl (y_pick_f hS rfl rfl) fun a hS => ?_
     refine qq hS rfl (y_move hS rfl) fun a hS => ?_
     refine gn hS rfl fun a hS => ?_
     refine gn hS rfl fun a hS => ?_
     refine gn hS rfl fun a hS => ?_
     refine gn hS rfl fun a hS => ?_
     refine gn hS rfl fun a hS => ?_
     refine qq hS rfl (y_pick_f hS rfl rfl) fun a hS => ?_
     apply wN
     exact ⟨(false), hg, (hS.sb rfl rfl rfl)⟩
   clear hS a; rintro a w ⟨t_69, hg, hS⟩
   subst hk68
   refine c_cond hS rfl (fun hc84 => ?_) (fun hc84 => ?_)
   ·replace hg := br_t hg hc84
    apply wR
    refine qq hS rfl (y_assign hS rfl) fun a hS => ?_
    apply wN
    apply wp_ret
    refine p_inR ?_
    refine p_thenR ?_
    refine p_thenR ?_
    refine p_inR ?_
    refine p_thenR ?_
    obtain rfl := Option.some.inj hg
    refine fin1 (fn := Try.f32) hS rfl (r_tmp hS rfl) ?_
    exact rfl
   ·replace hg := br_f hg (by rw [hc84]; exact Bool.false_ne_true)
    apply wp_skip
    refine p_inN ?_
    refine p_norm ?_
    apply wp_region_lit
    refine qq hS rfl (y_addN (i := t_58) (j := 1) hS rfl rfl (in64.2 (by omega))) fun a hS => ?_
    refine qq hS rfl (y_move hS rfl) fun a hS => ?_
    apply wN
    exact ⟨m2, Nat.lt_succ_self _, ⟨(t_58 + 1), hg, (hS.sb rfl rfl rfl)⟩⟩
  ·replace hg := br_f hg hc59
   apply wp_exit
   refine p_then ?_
   refine p_then ?_
   refine p_in ?_
   refine p_norm ?_
   apply wR
   refine qq hS rfl (y_assign hS rfl) fun a hS => ?_
   apply wN
   apply wp_ret
   obtain rfl := Option.some.inj hg
   refine fin1 (fn := Try.f32) hS rfl (r_tmp hS rfl) ?_
   exact rfl
set_option maxHeartbeats 400000 in
theorem c_scope_Valid (n : Nat) (M : Bs) (w0 : World) (hM : ∀ b, M b → b < w0.heap.size) (t_ : MRS) (Ap03 : Option Addr) (cp03 : Nat) (Ap04 : Option Addr) (cp04 : Nat) (Ap05 : Option Addr) (cp05 : Nat) (hp03 : SlR Rep.str M w0 Ap03 (t_.Vars).length cp03 (t_.Vars)) (hp04 : SlR REP M w0 Ap04 (t_.Rels).length cp04 (t_.Rels)) (hp05 : SlR RQeq M w0 Ap05 (t_.Cons).length cp05 (t_.Cons)) (t_' : (List Int)) (Ap11 : Option Addr) (cp11 : Nat) (hp11 : SlR (Rep.num .i64) M w0 Ap11 (t_').length cp11 (t_')) (r : Int) (hg : scope_Valid n t_ t_' = some r) :
    Calls Try.prog 13 [.agg #[.int .i64 (t_.Top), .int .i64 (t_.Index), .slice (Ap03) ((t_.Vars).length) (cp03), .slice (Ap04) ((t_.Rels).length) (cp04), .slice (Ap05) ((t_.Cons).length) (cp05)], .slice (Ap11) ((t_').length) (cp11)].toArray w0 (Ret noB w0 fun v w => v = .int .i64 (r)) := by
 unfold scope_Valid at hg
 refine enter M noB Try.func13 rfl rfl hM ?_
 intro a hS
 replace hS := hS.es 101 hp03
 replace hS := hS.es 102 hp04
 replace hS := hS.es 103 hp05
 replace hS := hS.es 104 hp11
 apply wR
 refine l_seq rfl (l_box (zs := [.int .i64 (t_.Top), .int .i64 (t_.Index), .slice (Ap03) ((t_.Vars).length) (cp03), .slice (Ap04) ((t_.Rels).length) (cp04), .slice (Ap05) ((t_.Cons).length) (cp05)]) hS 1000 rfl rfl rfl rfl ?_); clear hS a; intro b2 a w hb hK hS
 clear hb hK
 refine qq hS rfl (y_assign hS rfl) fun a hS => ?_
 apply wN
 apply wp_seq
 obtain ⟨r3, hr3, hg⟩ := bind_some hg
 apply wp_region_lit
 refine qq hS rfl (y_loadBox (kk := 1000) (n := 5) (vs := [.int .i64 (t_.Top), .int .i64 (t_.Index), .slice (Ap03) ((t_.Vars).length) (cp03), .slice (Ap04) ((t_.Rels).length) (cp04), .slice (Ap05) ((t_.Cons).length) (cp05)]) hS rfl rfl Try.underlying26 rfl rfl rfl rfl) fun a hS => ?_
 refine l_seq rfl (l_call (cap := []) hS rfl Try.func12 rfl (by kernel_rfl) rfl rfl (c_scope_Labels n _ _ hS.lt t_ (Ap03) (cp03) (Ap04) (cp04) (Ap05) (cp05) (hS.fact (k := 101) rfl) (hS.fact (k := 102) rfl) (hS.fact (k := 103) rfl) r3 hr3) ?_); clear hS a; intro v6 a w hK hp hS
 clear hK
 obtain ⟨Au7a1, cu7a1, rfl, hu7a1⟩ := hp
 replace hS := hS.add 106 (slF (Rep.num .i64) (Au7a1) ((r3).length) (cu7a1) (r3)) hu7a1
 refine qq hS rfl (y_assign hS rfl) fun a hS => ?_
 apply wN
 apply wp_seq
 apply wp_seq
 obtain ⟨r8, hr8, hg⟩ := bind_some hg
 apply wp_region_lit
 refine qq hS rfl (y_move hS rfl) fun a hS => ?_
 refine qq hS rfl (y_lenSlice hS rfl Try.underlying33) fun a hS => ?_
 refine qq hS rfl (y_loadBox (kk := 1000) (n := 5) (vs := [.int .i64 (t_.Top), .int .i64 (t_.Index), .slice (Ap03) ((t_.Vars).length) (cp03), .slice (Ap04) ((t_.Rels).length) (cp04), .slice (Ap05) ((t_.Cons).length) (cp05)]) hS rfl rfl Try.underlying26 rfl rfl rfl rfl) fun a hS => ?_
 refine l_seq rfl (l_call (cap := []) hS rfl Try.func10 rfl (by kernel_rfl) rfl rfl (c_scope_Holes n _ _ hS.lt t_ (Ap03) (cp03) (Ap04) (cp04) (Ap05) (cp05) (hS.fact (k := 101) rfl) (hS.fact (k := 102) rfl) (hS.fact (k := 103) rfl) r8 hr8) ?_); clear hS a; intro v11 a w hK hp hS
 clear hK
 obtain ⟨Au12a1, cu12a1, rfl, hu12a1⟩ := hp
 replace hS := hS.add 108 (slF (Rep.num .i64) (Au12a1) ((r8).length) (cu12a1) (r8)) hu12a1
 refine qq hS rfl (y_lenSlice hS rfl Try.underlying33) fun a hS => ?_
 refine qq hS rfl (y_neqN (i := ((t_').length)) (j := ((r8).length)) hS rfl rfl) fun a hS => ?_
 apply wN
 refine c_dec hS rfl (fun hc13 => ?_) (fun hc13 => ?_)
 ·replace hg := br_t hg hc13
  apply wR
  refine qq hS rfl (y_assign hS rfl) fun a hS => ?_
  apply wN
  apply wp_ret
  refine p_thenR ?_
  obtain rfl := Option.some.inj hg
  refine fin1 (fn := Try.f13) hS rfl (r_tmp hS rfl) ?_
  exact rfl
 ·replace hg := br_f hg hc13
  apply wp_skip
  refine p_norm ?_
  apply wp_seq
  apply wR
  refine qq hS rfl (y_move hS rfl) fun a hS => ?_
  refine qq hS rfl (y_lenSlice hS rfl Try.underlying33) fun a hS => ?_
  refine qq hS rfl (y_move hS rfl) fun a hS => ?_
  apply wN
  obtain ⟨k14, hg, hk14⟩ := jn_some hg
  refine c_post (fun a w => k14 = some r ∧ St (⟨Try.f13.ntmps, M, noB, w0⟩ : Ctx) [(1, .slice (Ap11) ((t_').length) (cp11)), (2, .pointer (some ⟨b2, 0, none⟩))] [(1000, Ob.box b2 [.int .i64 (t_.Top), .int .i64 (t_.Index), .slice (Ap03) ((t_.Vars).length) (cp03), .slice (Ap04) ((t_.Rels).length) (cp04), .slice (Ap05) ((t_.Cons).length) (cp05)] 26)] [(101, slF Rep.str (Ap03) ((t_.Vars).length) (cp03) (t_.Vars)), (102, slF REP (Ap04) ((t_.Rels).length) (cp04) (t_.Rels)), (103, slF RQeq (Ap05) ((t_.Cons).length) (cp05) (t_.Cons)), (104, slF (Rep.num .i64) (Ap11) ((t_').length) (cp11) (t_'))] a w) ?_ ?_
  ·apply wp_block
   refine c_loop (σ := Nat) (fun m1 a w => ∃ (t_15 : Nat), scope_Valid_L0 n t_' r3 k14 m1 t_15 = some r ∧ St (⟨Try.f13.ntmps, M, noB, w0⟩ : Ctx) [(1, .slice (Ap11) ((t_').length) (cp11)), (2, .pointer (some ⟨b2, 0, none⟩)), (5, .slice (Au7a1) ((r3).length) (cu7a1)), (20, .slice (Ap11) ((t_').length) (cp11)), (21, .int .i64 ((((t_').length : Nat) : Int))), (22, .int .i64 (((t_15 : Nat) : Int)))] [(1000, Ob.box b2 [.int .i64 (t_.Top), .int .i64 (t_.Index), .slice (Ap03) ((t_.Vars).length) (cp03), .slice (Ap04) ((t_.Rels).length) (cp04), .slice (Ap05) ((t_.Cons).length) (cp05)] 26)] [(101, slF Rep.str (Ap03) ((t_.Vars).length) (cp03) (t_.Vars)), (102, slF REP (Ap04) ((t_.Rels).length) (cp04) (t_.Rels)), (103, slF RQeq (Ap05) ((t_.Cons).length) (cp05) (t_.Cons)), (104, slF (Rep.num .i64) (Ap11) ((t_').length) (cp11) (t_')), (106, slF (Rep.num .i64) (Au7a1) ((r3).length) (cu7a1) (r3))] a w) (fun m1 => m1) n ⟨(0), hg, (hS.sb rfl rfl rfl)⟩ ?_
   clear hS a; rintro m1 a w ⟨t_15, hg, hS⟩
   rcases m1 with _ | m1
   ·rw [scope_Valid_L0] at hg; cases hg
   rw [scope_Valid_L0] at hg
   apply wR
   refine qq hS rfl (y_lssN (i := t_15) (j := ((t_').length)) hS rfl rfl) fun a hS => ?_
   apply wN
   apply wp_seq
   refine c_dec hS rfl (fun hc16 => ?_) (fun hc16 => ?_)
   ·replace hg := br_t hg hc16
    have hmx17 := SlR.mx (hS.fact (k := 104) rfl)
    apply wp_skip
    refine p_norm ?_
    apply wp_seq
    apply wp_block
    apply wp_seq
    obtain ⟨x19, hx19, hg⟩ := bind_some hg
    apply wp_region_lit
    refine qq hS rfl (y_move hS rfl) fun a hS => ?_
    obtain ⟨p21, hep21, hpp21⟩ := SlR.elemX (hS.fact (k := 104) rfl) hx19
    refine qq hS rfl (y_elem (sz := 1) (i := t_15) hS rfl rfl Try.underlying33 rfl hep21 rfl (lt_of_get hx19)) fun a hS => ?_
    obtain ⟨hlq22, hmq22, csq22, hdq22, hcq22⟩ := hpp21
    obtain rfl := hdq22
    refine qq hS rfl (y_ldp1 hS rfl hlq22 hmq22 (hcq22 0 _ rfl) Try.underlying3 rfl) fun a hS => ?_
    refine qq hS rfl (y_assign hS rfl) fun a hS => ?_
    refine qq hS rfl (y_assign hS rfl) fun a hS => ?_
    apply wN
    apply wp_seq
    obtain ⟨k23, hg, hk23⟩ := jn_some hg
    refine c_post (fun a w => ∃ (t_24 : Bool), k23 t_24 = some r ∧ St (⟨Try.f13.ntmps, M, noB, w0⟩ : Ctx) [(1, .slice (Ap11) ((t_').length) (cp11)), (2, .pointer (some ⟨b2, 0, none⟩)), (5, .slice (Au7a1) ((r3).length) (cu7a1)), (20, .slice (Ap11) ((t_').length) (cp11)), (21, .int .i64 ((((t_').length : Nat) : Int))), (22, .int .i64 (((t_15 : Nat) : Int))), (37, .bool (t_24))] [(1000, Ob.box b2 [.int .i64 (t_.Top), .int .i64 (t_.Index), .slice (Ap03) ((t_.Vars).length) (cp03), .slice (Ap04) ((t_.Rels).length) (cp04), .slice (Ap05) ((t_.Cons).length) (cp05)] 26)] [(101, slF Rep.str (Ap03) ((t_.Vars).length) (cp03) (t_.Vars)), (102, slF REP (Ap04) ((t_.Rels).length) (cp04) (t_.Rels)), (103, slF RQeq (Ap05) ((t_.Cons).length) (cp05) (t_.Cons)), (104, slF (Rep.num .i64) (Ap11) ((t_').length) (cp11) (t_')), (106, slF (Rep.num .i64) (Au7a1) ((r3).length) (cu7a1) (r3))] a w) ?_ ?_
    ·obtain ⟨r25, hr25, hg⟩ := bind_some hg
     rcases Bool.eq_false_or_eq_true (!(r25)) with hs28 | hs28
     ·replace hg := br_t hg hs28
      apply wp_region_lit
      refine qq hS rfl (y_move hS rfl) fun a hS => ?_
      refine qq hS rfl (y_move hS rfl) fun a hS => ?_
      refine l_seq rfl (l_call (cap := []) hS rfl Try.func23 rfl (by kernel_rfl) rfl rfl (c_slices_Contains_int n _ _ hS.lt r3 (Au7a1) (cu7a1) (hS.fact (k := 106) rfl) x19 r25 hr25) ?_); clear hS a; intro v29 a w hK hp hS
      clear hK
      obtain rfl := hp
      refine qq hS rfl (yl_b (y_not hS rfl) hs28) fun a hS => ?_
      refine qq hS rfl (y_move hS rfl) fun a hS => ?_
      refine gn hS rfl fun a hS => ?_
      refine gn hS rfl fun a hS => ?_
      refine gn hS rfl fun a hS => ?_
      refine gn hS rfl fun a hS => ?_
      refine gn hS rfl fun a hS => ?_
      refine qq hS rfl (y_pick_t hS rfl rfl) fun a hS => ?_
      apply wN
      exact ⟨(true), hg, (hS.sb rfl rfl rfl)⟩
     ·replace hg := br_f hg (by rw [hs28]; exact Bool.false_ne_true)
      obtain ⟨hk31, hg⟩ := chk_some hg
      obtain ⟨r32, hr32, hg⟩ := bind_some hg
      apply wp_region_lit
      refine qq hS rfl (y_move hS rfl) fun a hS => ?_
      refine qq hS rfl (y_move hS rfl) fun a hS => ?_
      refine l_seq rfl (l_call (cap := []) hS rfl Try.func23 rfl (by kernel_rfl) rfl rfl (c_slices_Contains_int n _ _ hS.lt r3 (Au7a1) (cu7a1) (hS.fact (k := 106) rfl) x19 r25 hr25) ?_); clear hS a; intro v35 a w hK hp hS
      clear hK
      obtain rfl := hp
      refine qq hS rfl (yl_b (y_not hS rfl) hs28) fun a hS => ?_
      refine qq hS rfl (y_move hS rfl) fun a hS => ?_
      refine gy hS rfl (y_move hS rfl) fun a hS => ?_
      refine gy hS rfl (y_move hS rfl) fun a hS => ?_
      have hcap110 := (hS.fact (k := 104) rfl).cap
      refine gy hS rfl (y_cutH (xs := t_') (sz := 1) (i := t_15) hS rfl rfl Try.underlying33 rfl rfl hk31 hcap110) fun a hS => ?_
      replace hS := hS.add 110 (slF (Rep.num .i64) (Ap11) (((t_').take t_15).length) (cp11) ((t_').take t_15)) (SlR.cutH (hS.fact (k := 104) rfl) t_15 hk31)
      refine gy hS rfl (y_move hS rfl) fun a hS => ?_
      refine gl hS rfl (l_call (cap := []) hS rfl Try.func23 rfl (by kernel_rfl) rfl rfl (c_slices_Contains_int n _ _ hS.lt ((t_').take t_15) (Ap11) (cp11) (hS.fact (k := 110) rfl) x19 r32 hr32) ?_); clear hS a; intro v37 a w hK hp hS
      clear hK
      obtain rfl := hp
      refine qq hS rfl (y_pick_f hS rfl rfl) fun a hS => ?_
      apply wN
      exact ⟨(r32), hg, (hS.sb rfl rfl rfl)⟩
    clear hS a; rintro a w ⟨t_24, hg, hS⟩
    subst hk23
    refine c_cond hS rfl (fun hc39 => ?_) (fun hc39 => ?_)
    ·replace hg := br_t hg hc39
     apply wR
     refine qq hS rfl (y_assign hS rfl) fun a hS => ?_
     apply wN
     apply wp_ret
     refine p_inR ?_
     refine p_thenR ?_
     refine p_thenR ?_
     refine p_inR ?_
     refine p_thenR ?_
     obtain rfl := Option.some.inj hg
     refine fin1 (fn := Try.f13) hS rfl (r_tmp hS rfl) ?_
     exact rfl
    ·replace hg := br_f hg (by rw [hc39]; exact Bool.false_ne_true)
     apply wp_skip
     refine p_inN ?_
     refine p_norm ?_
     apply wp_region_lit
     refine qq hS rfl (y_addN (i := t_15) (j := 1) hS rfl rfl (in64.2 (by omega))) fun a hS => ?_
     refine qq hS rfl (y_move hS rfl) fun a hS => ?_
     apply wN
     exact ⟨m1, Nat.lt_succ_self _, ⟨(t_15 + 1), hg, (hS.sb rfl rfl rfl)⟩⟩
   ·replace hg := br_f hg hc16
    apply wp_exit
    refine p_then ?_
    refine p_then ?_
    refine p_in ?_
    refine p_norm ?_
    exact ⟨hg, (hS.sb rfl rfl rfl)⟩
  clear hS a; rintro a w ⟨hg, hS⟩
  subst hk14
  apply wp_seq
  obtain ⟨r40, hr40, hg⟩ := bind_some hg
  apply wp_region_lit
  refine qq hS rfl (y_loadBox (kk := 1000) (n := 5) (vs := [.int .i64 (t_.Top), .int .i64 (t_.Index), .slice (Ap03) ((t_.Vars).length) (cp03), .slice (Ap04) ((t_.Rels).length) (cp04), .slice (Ap05) ((t_.Cons).length) (cp05)]) hS rfl rfl Try.underlying26 rfl rfl rfl rfl) fun a hS => ?_
  refine qq hS rfl (y_move hS rfl) fun a hS => ?_
  refine l_seq rfl (l_call (cap := []) hS rfl Try.func29 rfl (by kernel_rfl) rfl rfl (c_scope_plugged n _ _ hS.lt t_ (Ap03) (cp03) (Ap04) (cp04) (Ap05) (cp05) (hS.fact (k := 101) rfl) (hS.fact (k := 102) rfl) (hS.fact (k := 103) rfl) t_' (Ap11) (cp11) (hS.fact (k := 104) rfl) r40 hr40) ?_); clear hS a; intro v44 a w hK hp hS
  clear hK
  obtain ⟨Au45a3, cu45a3, Au45a4, cu45a4, Au45a5, cu45a5, Au45a6, cu45a6, Au45a7, cu45a7, rfl, hu45a3, hu45a4, hu45a5, hu45a6, hu45a7⟩ := hp
  replace hS := hS.add 116 (slF Rep.str (Au45a3) ((r40.m_.Vars).length) (cu45a3) (r40.m_.Vars)) hu45a3
  replace hS := hS.add 117 (slF REP (Au45a4) ((r40.m_.Rels).length) (cu45a4) (r40.m_.Rels)) hu45a4
  replace hS := hS.add 118 (slF RQeq (Au45a5) ((r40.m_.Cons).length) (cu45a5) (r40.m_.Cons)) hu45a5
  replace hS := hS.add 119 (slF (Rep.num .i64) (Au45a6) ((r40.labels_).length) (cu45a6) (r40.labels_)) hu45a6
  replace hS := hS.add 120 (slF (Rep.num .i64) (Au45a7) ((r40.at_).length) (cu45a7) (r40.at_)) hu45a7
  refine l_seq rfl (l_alloc (zs := [.int .i64 (0), .int .i64 (0), .slice (none) (0) (0), .slice (none) (0) (0), .slice (none) (0) (0), .slice (none) (0) (0), .slice (none) (0) (0)]) hS 2003 rfl rfl rfl rfl ?_); clear hS a; intro b46 a w hb hK hS
  clear hb hK
  refine l_seq rfl (l_store (n := 7) (cs' := [.int .i64 (r40.m_.Top), .int .i64 (r40.m_.Index), .slice (Au45a3) ((r40.m_.Vars).length) (cu45a3), .slice (Au45a4) ((r40.m_.Rels).length) (cu45a4), .slice (Au45a5) ((r40.m_.Cons).length) (cu45a5), .slice (Au45a6) ((r40.labels_).length) (cu45a6), .slice (Au45a7) ((r40.at_).length) (cu45a7)]) hS 2003 rfl rfl rfl rfl rfl rfl rfl rfl ?_); clear hS; intro w hK hS; clear hK
  apply wN
  apply wp_seq
  apply wp_seq
  obtain ⟨r47, hr47, hg⟩ := bind_some hg
  apply wp_region_lit
  refine qq hS rfl (y_loadBox (kk := 2003) (n := 7) (vs := [.int .i64 (r40.m_.Top), .int .i64 (r40.m_.Index), .slice (Au45a3) ((r40.m_.Vars).length) (cu45a3), .slice (Au45a4) ((r40.m_.Rels).length) (cu45a4), .slice (Au45a5) ((r40.m_.Cons).length) (cu45a5), .slice (Au45a6) ((r40.labels_).length) (cu45a6), .slice (Au45a7) ((r40.at_).length) (cu45a7)]) hS rfl rfl Try.underlying59 rfl rfl rfl rfl) fun a hS => ?_
  refine l_seq rfl (l_call (cap := []) hS rfl Try.func30 rfl (by kernel_rfl) rfl rfl (c_scope_tree_form n _ _ hS.lt r40 (Au45a3) (cu45a3) (Au45a4) (cu45a4) (Au45a5) (cu45a5) (Au45a6) (cu45a6) (Au45a7) (cu45a7) (hS.fact (k := 116) rfl) (hS.fact (k := 117) rfl) (hS.fact (k := 118) rfl) (hS.fact (k := 119) rfl) (hS.fact (k := 120) rfl) r47 hr47) ?_); clear hS a; intro v50 a w hK hp hS
  clear hK
  obtain rfl := hp
  refine qq hS rfl (y_not hS rfl) fun a hS => ?_
  apply wN
  refine c_cond hS rfl (fun hc52 => ?_) (fun hc52 => ?_)
  ·replace hg := br_t hg hc52
   apply wR
   refine qq hS rfl (y_assign hS rfl) fun a hS => ?_
   apply wN
   apply wp_ret
   refine p_thenR ?_
   obtain rfl := Option.some.inj hg
   refine fin1 (fn := Try.f13) hS rfl (r_tmp hS rfl) ?_
   exact rfl
  ·replace hg := br_f hg (by rw [hc52]; exact Bool.false_ne_true)
   apply wp_skip
   refine p_norm ?_
   apply wp_seq
   apply wR
   refine qq hS rfl (y_boxField (o' := 4) hS rfl Try.underlying26 rfl rfl rfl) fun a hS => ?_
   refine qq hS rfl (y_loadBox1 (kk := 1000) hS rfl rfl rfl Try.underlying24 rfl) fun a hS => ?_
   refine qq hS rfl (y_lenSlice hS rfl Try.underlying24) fun a hS => ?_
   refine qq hS rfl (y_move hS rfl) fun a hS => ?_
   apply wN
   obtain ⟨k53, hg, hk53⟩ := jn_some hg
   refine c_post (fun a w => k53 = some r ∧ St (⟨Try.f13.ntmps, M, noB, w0⟩ : Ctx) [(2, .pointer (some ⟨b2, 0, none⟩)), (8, .pointer (some ⟨b46, 0, none⟩))] [(1000, Ob.box b2 [.int .i64 (t_.Top), .int .i64 (t_.Index), .slice (Ap03) ((t_.Vars).length) (cp03), .slice (Ap04) ((t_.Rels).length) (cp04), .slice (Ap05) ((t_.Cons).length) (cp05)] 26), (2003, Ob.box b46 [.int .i64 (r40.m_.Top), .int .i64 (r40.m_.Index), .slice (Au45a3) ((r40.m_.Vars).length) (cu45a3), .slice (Au45a4) ((r40.m_.Rels).length) (cu45a4), .slice (Au45a5) ((r40.m_.Cons).length) (cu45a5), .slice (Au45a6) ((r40.labels_).length) (cu45a6), .slice (Au45a7) ((r40.at_).length) (cu45a7)] 59)] [(101, slF Rep.str (Ap03) ((t_.Vars).length) (cp03) (t_.Vars)), (102, slF REP (Ap04) ((t_.Rels).length) (cp04) (t_.Rels)), (103, slF RQeq (Ap05) ((t_.Cons).length) (cp05) (t_.Cons)), (116, slF Rep.str (Au45a3) ((r40.m_.Vars).length) (cu45a3) (r40.m_.Vars)), (117, slF REP (Au45a4) ((r40.m_.Rels).length) (cu45a4) (r40.m_.Rels)), (118, slF RQeq (Au45a5) ((r40.m_.Cons).length) (cu45a5) (r40.m_.Cons)), (119, slF (Rep.num .i64) (Au45a6) ((r40.labels_).length) (cu45a6) (r40.labels_)), (120, slF (Rep.num .i64) (Au45a7) ((r40.at_).length) (cu45a7) (r40.at_))] a w) ?_ ?_
   ·apply wp_block
    refine c_loop (σ := Nat) (fun m2 a w => ∃ (t_54 : Nat), scope_Valid_L1 n t_ r40 k53 m2 t_54 = some r ∧ St (⟨Try.f13.ntmps, M, noB, w0⟩ : Ctx) [(2, .pointer (some ⟨b2, 0, none⟩)), (8, .pointer (some ⟨b46, 0, none⟩)), (46, .slice (Ap05) ((t_.Cons).length) (cp05)), (47, .int .i64 ((((t_.Cons).length : Nat) : Int))), (48, .int .i64 (((t_54 : Nat) : Int)))] [(1000, Ob.box b2 [.int .i64 (t_.Top), .int .i64 (t_.Index), .slice (Ap03) ((t_.Vars).length) (cp03), .slice (Ap04) ((t_.Rels).length) (cp04), .slice (Ap05) ((t_.Cons).length) (cp05)] 26), (2003, Ob.box b46 [.int .i64 (r40.m_.Top), .int .i64 (r40.m_.Index), .slice (Au45a3) ((r40.m_.Vars).length) (cu45a3), .slice (Au45a4) ((r40.m_.Rels).length) (cu45a4), .slice (Au45a5) ((r40.m_.Cons).length) (cu45a5), .slice (Au45a6) ((r40.labels_).length) (cu45a6), .slice (Au45a7) ((r40.at_).length) (cu45a7)] 59)] [(101, slF Rep.str (Ap03) ((t_.Vars).length) (cp03) (t_.Vars)), (102, slF REP (Ap04) ((t_.Rels).length) (cp04) (t_.Rels)), (103, slF RQeq (Ap05) ((t_.Cons).length) (cp05) (t_.Cons)), (116, slF Rep.str (Au45a3) ((r40.m_.Vars).length) (cu45a3) (r40.m_.Vars)), (117, slF REP (Au45a4) ((r40.m_.Rels).length) (cu45a4) (r40.m_.Rels)), (118, slF RQeq (Au45a5) ((r40.m_.Cons).length) (cu45a5) (r40.m_.Cons)), (119, slF (Rep.num .i64) (Au45a6) ((r40.labels_).length) (cu45a6) (r40.labels_)), (120, slF (Rep.num .i64) (Au45a7) ((r40.at_).length) (cu45a7) (r40.at_))] a w) (fun m2 => m2) n ⟨(0), hg, (hS.sb rfl rfl rfl)⟩ ?_
    clear hS a; rintro m2 a w ⟨t_54, hg, hS⟩
    rcases m2 with _ | m2
    ·rw [scope_Valid_L1] at hg; cases hg
    rw [scope_Valid_L1] at hg
    apply wR
    refine qq hS rfl (y_lssN (i := t_54) (j := ((t_.Cons).length)) hS rfl rfl) fun a hS => ?_
    apply wN
    apply wp_seq
    refine c_dec hS rfl (fun hc55 => ?_) (fun hc55 => ?_)
    ·replace hg := br_t hg hc55
     have hmx56 := SlR.mx (hS.fact (k := 103) rfl)
     apply wp_skip
     refine p_norm ?_
     apply wp_seq
     apply wp_block
     apply wp_seq
     obtain ⟨x58, hx58, hg⟩ := bind_some hg
     apply wp_region_lit
     obtain ⟨p61, hep61, hpp61⟩ := SlR.elemX (hS.fact (k := 103) rfl) hx58
     refine qq hS rfl (y_elem (sz := 2) (i := t_54) hS rfl rfl Try.underlying24 rfl hep61 rfl (lt_of_get hx58)) fun a hS => ?_
     obtain ⟨hlq62, hmq62, csq62, hdq62, hcq62⟩ := hpp61
     obtain rfl := RQeq.open hdq62
     refine qq hS rfl (y_ldp hS rfl hlq62 hmq62 (by simpa using hcq62) Try.underlying45 rfl rfl) fun a hS => ?_
     refine l_seq rfl (l_alloc (zs := [.int .i64 (0), .int .i64 (0)]) hS 2502 rfl rfl rfl rfl ?_); clear hS a; intro b63 a w hb hK hS
     clear hb hK
     refine l_seq rfl (l_store (n := 2) (cs' := [.int .i64 (x58.High), .int .i64 (x58.Low)]) hS 2502 rfl rfl rfl rfl rfl rfl rfl rfl ?_); clear hS; intro w hK hS; clear hK
     apply wN
     apply wp_seq
     obtain ⟨r64, hr64, hg⟩ := bind_some hg
     apply wp_region_lit
     refine qq hS rfl (y_loadBox (kk := 2003) (n := 7) (vs := [.int .i64 (r40.m_.Top), .int .i64 (r40.m_.Index), .slice (Au45a3) ((r40.m_.Vars).length) (cu45a3), .slice (Au45a4) ((r40.m_.Rels).length) (cu45a4), .slice (Au45a5) ((r40.m_.Cons).length) (cu45a5), .slice (Au45a6) ((r40.labels_).length) (cu45a6), .slice (Au45a7) ((r40.at_).length) (cu45a7)]) hS rfl rfl Try.underlying59 rfl rfl rfl rfl) fun a hS => ?_
     refine qq hS rfl (y_boxField (o' := 0) hS rfl Try.underlying45 rfl rfl rfl) fun a hS => ?_
     refine qq hS rfl (y_loadBox1 (kk := 2502) hS rfl rfl rfl Try.underlying3 rfl) fun a hS => ?_
     refine qq hS rfl (y_boxField (o' := 1) hS rfl Try.underlying45 rfl rfl rfl) fun a hS => ?_
     refine qq hS rfl (y_loadBox1 (kk := 2502) hS rfl rfl rfl Try.underlying3 rfl) fun a hS => ?_
     refine l_seq rfl (l_call (cap := []) hS rfl Try.func31 rfl (by kernel_rfl) rfl rfl (c_scope_tree_reaches n _ _ hS.lt r40 (Au45a3) (cu45a3) (Au45a4) (cu45a4) (Au45a5) (cu45a5) (Au45a6) (cu45a6) (Au45a7) (cu45a7) (hS.fact (k := 116) rfl) (hS.fact (k := 117) rfl) (hS.fact (k := 118) rfl) (hS.fact (k := 119) rfl) (hS.fact (k := 120) rfl) x58.High x58.Low r64 hr64) ?_); clear hS a; intro v67 a w hK hp hS
     clear hK
     obtain rfl := hp
     refine qq hS rfl (y_not hS rfl) fun a hS => ?_
     apply wN
     refine c_cond hS rfl (fun hc69 => ?_) (fun hc69 => ?_)
     ·replace hg := br_t hg hc69
      apply wR
      refine qq hS rfl (y_assign hS rfl) fun a hS => ?_
      apply wN
      apply wp_ret
      refine p_inR ?_
      refine p_thenR ?_
      refine p_thenR ?_
      refine p_inR ?_
      refine p_thenR ?_
      obtain rfl := Option.some.inj hg
      refine fin1 (fn := Try.f13) hS rfl (r_tmp hS rfl) ?_
      exact rfl
     ·replace hg := br_f hg (by rw [hc69]; exact Bool.false_ne_true)
      apply wp_skip
      refine p_inN ?_
      refine p_norm ?_
      apply wp_region_lit
      refine qq hS rfl (y_addN (i := t_54) (j := 1) hS rfl rfl (in64.2 (by omega))) fun a hS => ?_
      refine qq hS rfl (y_move hS rfl) fun a hS => ?_
      apply wN
      exact ⟨m2, Nat.lt_succ_self _, ⟨(t_54 + 1), hg, (hS.sb rfl rfl rfl)⟩⟩
    ·replace hg := br_f hg hc55
     apply wp_exit
     refine p_then ?_
     refine p_then ?_
     refine p_in ?_
     refine p_norm ?_
     exact ⟨hg, (hS.sb rfl rfl rfl)⟩
   clear hS a; rintro a w ⟨hg, hS⟩
   subst hk53
   apply wp_seq
   apply wR
   refine qq hS rfl (y_boxField (o' := 3) hS rfl Try.underlying26 rfl rfl rfl) fun a hS => ?_
   refine qq hS rfl (y_loadBox1 (kk := 1000) hS rfl rfl rfl Try.underlying23 rfl) fun a hS => ?_
   refine qq hS rfl (y_lenSlice hS rfl Try.underlying23) fun a hS => ?_
   refine qq hS rfl (y_move hS rfl) fun a hS => ?_
   apply wN
   apply wp_block
   refine c_loop (σ := Nat) (fun m3 a w => ∃ (t_70 : Nat), scope_Valid_L2 n t_ r40 m3 t_70 = some r ∧ St (⟨Try.f13.ntmps, M, noB, w0⟩ : Ctx) [(8, .pointer (some ⟨b46, 0, none⟩)), (62, .int .i64 ((((t_.Rels).length : Nat) : Int))), (63, .int .i64 (((t_70 : Nat) : Int)))] [(2003, Ob.box b46 [.int .i64 (r40.m_.Top), .int .i64 (r40.m_.Index), .slice (Au45a3) ((r40.m_.Vars).length) (cu45a3), .slice (Au45a4) ((r40.m_.Rels).length) (cu45a4), .slice (Au45a5) ((r40.m_.Cons).length) (cu45a5), .slice (Au45a6) ((r40.labels_).length) (cu45a6), .slice (Au45a7) ((r40.at_).length) (cu45a7)] 59)] [(116, slF Rep.str (Au45a3) ((r40.m_.Vars).length) (cu45a3) (r40.m_.Vars)), (117, slF REP (Au45a4) ((r40.m_.Rels).length) (cu45a4) (r40.m_.Rels)), (118, slF RQeq (Au45a5) ((r40.m_.Cons).length) (cu45a5) (r40.m_.Cons)), (119, slF (Rep.num .i64) (Au45a6) ((r40.labels_).length) (cu45a6) (r40.labels_)), (120, slF (Rep.num .i64) (Au45a7) ((r40.at_).length) (cu45a7) (r40.at_))] a w) (fun m3 => m3) n ⟨(0), hg, (hS.sb rfl rfl rfl)⟩ ?_
   clear hS a; rintro m3 a w ⟨t_70, hg, hS⟩
   rcases m3 with _ | m3
   ·rw [scope_Valid_L2] at hg; cases hg
   rw [scope_Valid_L2] at hg
   apply wR
   refine qq hS rfl (y_lssN (i := t_70) (j := ((t_.Rels).length)) hS rfl rfl) fun a hS => ?_
   apply wN
   apply wp_seq
   refine c_dec hS rfl (fun hc71 => ?_) (fun hc71 => ?_)
   ·replace hg := br_t hg hc71
    apply wp_skip
    refine p_norm ?_
    apply wp_seq
    apply wp_block
    apply wR
    refine qq hS rfl (y_move hS rfl) fun a hS => ?_
    refine qq hS rfl (y_assign hS rfl) fun a hS => ?_
    apply wN
    apply wp_seq
    obtain ⟨r72, hr72, hg⟩ := bind_some hg
    apply wp_region_lit
    refine qq hS rfl (y_loadBox (kk := 2003) (n := 7) (vs := [.int .i64 (r40.m_.Top), .int .i64 (r40.m_.Index), .slice (Au45a3) ((r40.m_.Vars).length) (cu45a3), .slice (Au45a4) ((r40.m_.Rels).length) (cu45a4), .slice (Au45a5) ((r40.m_.Cons).length) (cu45a5), .slice (Au45a6) ((r40.labels_).length) (cu45a6), .slice (Au45a7) ((r40.at_).length) (cu45a7)]) hS rfl rfl Try.underlying59 rfl rfl rfl rfl) fun a hS => ?_
    refine qq hS rfl (y_move hS rfl) fun a hS => ?_
    refine l_seq rfl (l_call (cap := []) hS rfl Try.func32 rfl (by kernel_rfl) rfl rfl (c_scope_tree_bound n _ _ hS.lt r40 (Au45a3) (cu45a3) (Au45a4) (cu45a4) (Au45a5) (cu45a5) (Au45a6) (cu45a6) (Au45a7) (cu45a7) (hS.fact (k := 116) rfl) (hS.fact (k := 117) rfl) (hS.fact (k := 118) rfl) (hS.fact (k := 119) rfl) (hS.fact (k := 120) rfl) ((t_70 : Nat) : Int) r72 hr72) ?_); clear hS a; intro v75 a w hK hp hS
    clear hK
    obtain rfl := hp
    refine qq hS rfl (y_not hS rfl) fun a hS => ?_
    apply wN
    refine c_cond hS rfl (fun hc77 => ?_) (fun hc77 => ?_)
    ·replace hg := br_t hg hc77
     apply wR
     refine qq hS rfl (y_assign hS rfl) fun a hS => ?_
     apply wN
     apply wp_ret
     refine p_inR ?_
     refine p_thenR ?_
     refine p_thenR ?_
     refine p_inR ?_
     refine p_thenR ?_
     obtain rfl := Option.some.inj hg
     refine fin1 (fn := Try.f13) hS rfl (r_tmp hS rfl) ?_
     exact rfl
    ·replace hg := br_f hg (by rw [hc77]; exact Bool.false_ne_true)
     apply wp_skip
     refine p_inN ?_
     refine p_norm ?_
     obtain ⟨hk78, hg⟩ := chk_some hg
     apply wp_region_lit
     refine qq hS rfl (y_addN (i := t_70) (j := 1) hS rfl rfl (in64.2 (by omega))) fun a hS => ?_
     refine qq hS rfl (y_move hS rfl) fun a hS => ?_
     apply wN
     exact ⟨m3, Nat.lt_succ_self _, ⟨(t_70 + 1), hg, (hS.sb rfl rfl rfl)⟩⟩
   ·replace hg := br_f hg hc71
    apply wp_exit
    refine p_then ?_
    refine p_then ?_
    refine p_in ?_
    refine p_norm ?_
    apply wR
    refine qq hS rfl (y_assign hS rfl) fun a hS => ?_
    apply wN
    apply wp_ret
    obtain rfl := Option.some.inj hg
    refine fin1 (fn := Try.f13) hS rfl (r_tmp hS rfl) ?_
    exact rfl
set_option maxHeartbeats 400000 in
theorem c_solve_free_1_1 (n : Nat) (M : Bs) (w0 : World) (hM : ∀ b, M b → b < w0.heap.size) (a_ : Arg) (lp01 : (a_.Role).length ≤ 9223372036854775807) (bf0 : Nat) (c0_ : Int) (hb0 : BoxR bf0 [.int .i64 (c0_)] 3 M w0) (r : Bool) (hg : solve_free_1_1 n a_ c0_ = some r) :
    Calls Try.prog 63 [.agg #[.string (bs (a_.Role)), .int .i64 (a_.Var)], .pointer (some ⟨bf0, 0, none⟩)].toArray w0 (Ret noB w0 fun v w => v = .bool (r)) := by
 unfold solve_free_1_1 at hg
 refine enter M noB Try.func63 rfl rfl hM ?_
 intro a hS
 replace hS := hS.ebx 101 hb0
 apply wR
 refine l_seq rfl (l_box (zs := [.string (bs (a_.Role)), .int .i64 (a_.Var)]) hS 1000 rfl rfl rfl rfl ?_); clear hS a; intro b2 a w hb hK hS
 clear hb hK
 refine qq hS rfl (y_assign hS rfl) fun a hS => ?_
 apply wN
 apply wR
 refine qq hS rfl (y_boxField (o' := 1) hS rfl Try.underlying76 rfl rfl rfl) fun a hS => ?_
 refine qq hS rfl (y_loadBox1 (kk := 1000) hS rfl rfl rfl Try.underlying3 rfl) fun a hS => ?_
 refine qq hS rfl (y_loadF1 hS rfl (hS.fact (k := 101) rfl) rfl Try.underlying3 rfl) fun a hS => ?_
 refine qq hS rfl (y_eql hS rfl rfl) fun a hS => ?_
 refine qq hS rfl (y_assign hS rfl) fun a hS => ?_
 apply wN
 apply wp_ret
 obtain rfl := Option.some.inj hg
 refine fin1 (fn := Try.f63) hS rfl (r_tmp hS rfl) ?_
 exact rfl
set_option maxHeartbeats 400000 in
theorem c_solve_free_1 (n : Nat) (M : Bs) (w0 : World) (hM : ∀ b, M b → b < w0.heap.size) (x_ : EP) (Ap03 : Option Addr) (cp03 : Nat) (lp01 : (x_.Pred).length ≤ 9223372036854775807) (hp03 : SlR RArg M w0 Ap03 (x_.Args).length cp03 (x_.Args)) (bf0 : Nat) (c0_ : Int) (hb0 : BoxR bf0 [.int .i64 (c0_)] 3 M w0) (r : Bool) (hg : solve_free_1 n x_ c0_ = some r) :
    Calls Try.prog 62 [.agg #[.string (bs (x_.Pred)), .int .i64 (x_.Label), .slice (Ap03) ((x_.Args).length) (cp03)], .pointer (some ⟨bf0, 0, none⟩)].toArray w0 (Ret noB w0 fun v w => v = .bool (r)) := by
 unfold solve_free_1 at hg
 refine enter M noB Try.func62 rfl rfl hM ?_
 intro a hS
 replace hS := hS.es 101 hp03
 replace hS := hS.ebx 102 hb0
 apply wR
 refine l_seq rfl (l_box (zs := [.string (bs (x_.Pred)), .int .i64 (x_.Label), .slice (Ap03) ((x_.Args).length) (cp03)]) hS 1000 rfl rfl rfl rfl ?_); clear hS a; intro b2 a w hb hK hS
 clear hb hK
 refine qq hS rfl (y_assign hS rfl) fun a hS => ?_
 apply wN
 apply wp_seq
 obtain ⟨r3, hr3, hg⟩ := bind_some hg
 apply wp_region_lit
 refine qq hS rfl (y_boxField (o' := 2) hS rfl Try.underlying55 rfl rfl rfl) fun a hS => ?_
 refine qq hS rfl (y_loadBox1 (kk := 1000) hS rfl rfl rfl Try.underlying53 rfl) fun a hS => ?_
 refine qq hS rfl (y_makeFunc (xs := [.tmp 1]) (vs := [.pointer (some ⟨bf0, 0, none⟩)]) hS rfl) fun a hS => ?_
 refine l_seq rfl (l_call (cap := []) hS rfl Try.func46 rfl (by kernel_rfl) rfl rfl (c_slices_ContainsFunc_Arg n _ _ hS.lt x_.Args (Ap03) (cp03) (hS.fact (k := 101) rfl) (fun p => solve_free_1_1 n p c0_) (63) ([.pointer (some ⟨bf0, 0, none⟩)]) ⟨⟨_, _, Try.func63, rfl, by kernel_rfl⟩, fun M1 w1 hk hm hlt vs x r hp hr => by obtain ⟨rfl, la1⟩ := hp; exact c_solve_free_1_1 n M1 w1 hlt (x) la1 bf0 (c0_) (Fact.move (boxF bf0 [.int .i64 (c0_)] 3) hk hm (hS.fact (k := 102) rfl)) r hr⟩ r3 hr3) ?_); clear hS a; intro v6 a w hK hp hS
 clear hK
 obtain rfl := hp
 refine qq hS rfl (y_assign hS rfl) fun a hS => ?_
 apply wN
 apply wp_ret
 obtain rfl := Option.some.inj hg
 refine fin1 (fn := Try.f62) hS rfl (r_tmp hS rfl) ?_
 exact rfl
set_option maxHeartbeats 400000 in
theorem c_solve_free (n : Nat) (M : Bs) (w0 : World) (hM : ∀ b, M b → b < w0.heap.size) (m_ : MRS) (Ap03 : Option Addr) (cp03 : Nat) (Ap04 : Option Addr) (cp04 : Nat) (Ap05 : Option Addr) (cp05 : Nat) (hp03 : SlR Rep.str M w0 Ap03 (m_.Vars).length cp03 (m_.Vars)) (hp04 : SlR REP M w0 Ap04 (m_.Rels).length cp04 (m_.Rels)) (hp05 : SlR RQeq M w0 Ap05 (m_.Cons).length cp05 (m_.Cons)) (r : (List Int)) (hg : solve_free n m_ = some r) :
    Calls Try.prog 41 [.agg #[.int .i64 (m_.Top), .int .i64 (m_.Index), .slice (Ap03) ((m_.Vars).length) (cp03), .slice (Ap04) ((m_.Rels).length) (cp04), .slice (Ap05) ((m_.Cons).length) (cp05)]].toArray w0 (Ret noB w0 fun v w => ∃ (Ao : Option Addr), ∃ (co : Nat), ∃ (cso : List Value), v = .slice (Ao) ((r).length) (co) ∧ ((Ob.row Ao (r).length co 3 1 cso).holds w) ∧ (∀ b, (Ob.row Ao (r).length co 3 1 cso).ids b → w0.heap.size ≤ b) ∧ (RdAll (Rep.num .i64) (fun b => M b ∨ (Ob.row Ao (r).length co 3 1 cso).ids b) w cso (r))) := by
 unfold solve_free at hg
 refine enter M noB Try.func41 rfl rfl hM ?_
 intro a hS
 replace hS := hS.es 101 hp03
 replace hS := hS.es 102 hp04
 replace hS := hS.es 103 hp05
 apply wR
 refine l_seq rfl (l_box (zs := [.int .i64 (m_.Top), .int .i64 (m_.Index), .slice (Ap03) ((m_.Vars).length) (cp03), .slice (Ap04) ((m_.Rels).length) (cp04), .slice (Ap05) ((m_.Cons).length) (cp05)]) hS 1000 rfl rfl rfl rfl ?_); clear hS a; intro b2 a w hb hK hS
 clear hb hK
 refine qq hS rfl (y_assign hS rfl) fun a hS => ?_
 apply wN
 apply wR
 refine qq hS rfl (y_assign hS rfl) fun a hS => ?_
 apply wN
 apply wp_seq
 apply wp_seq
 obtain ⟨r3, hr3, hg⟩ := bind_some hg
 apply wp_region_lit
 refine qq hS rfl (y_loadBox (kk := 1000) (n := 5) (vs := [.int .i64 (m_.Top), .int .i64 (m_.Index), .slice (Ap03) ((m_.Vars).length) (cp03), .slice (Ap04) ((m_.Rels).length) (cp04), .slice (Ap05) ((m_.Cons).length) (cp05)]) hS rfl rfl Try.underlying26 rfl rfl rfl rfl) fun a hS => ?_
 refine l_seq rfl (l_call (cap := []) hS rfl Try.func12 rfl (by kernel_rfl) rfl rfl (c_scope_Labels n _ _ hS.lt m_ (Ap03) (cp03) (Ap04) (cp04) (Ap05) (cp05) (hS.fact (k := 101) rfl) (hS.fact (k := 102) rfl) (hS.fact (k := 103) rfl) r3 hr3) ?_); clear hS a; intro v6 a w hK hp hS
 clear hK
 obtain ⟨Au7a1, cu7a1, rfl, hu7a1⟩ := hp
 replace hS := hS.add 105 (slF (Rep.num .i64) (Au7a1) ((r3).length) (cu7a1) (r3)) hu7a1
 refine qq hS rfl (y_lenSlice hS rfl Try.underlying33) fun a hS => ?_
 refine qq hS rfl (y_move hS rfl) fun a hS => ?_
 apply wN
 apply wp_block
 replace hS := hS.nilRow 700106 3 1 rfl
 replace hS := hS.add 107 (rdF (Rep.num .i64) [] []) (RdAll.nil _ _ _)
 refine c_loop (σ := Nat) (fun m1 a w => ∃ (out_8 : (List Int)), ∃ (t_12 : Nat), ∃ (A9 : Option Addr), ∃ (c10 : Nat), ∃ (cs11 : List Value), solve_free_L0 n m_ r3 m1 out_8 t_12 = some r ∧ St (⟨Try.f41.ntmps, M, noB, w0⟩ : Ctx) [(1, .pointer (some ⟨b2, 0, none⟩)), (3, .slice (A9) ((out_8).length) (c10)), (8, .slice (Au7a1) ((r3).length) (cu7a1)), (9, .int .i64 ((((r3).length : Nat) : Int))), (10, .int .i64 (((t_12 : Nat) : Int)))] [(1000, Ob.box b2 [.int .i64 (m_.Top), .int .i64 (m_.Index), .slice (Ap03) ((m_.Vars).length) (cp03), .slice (Ap04) ((m_.Rels).length) (cp04), .slice (Ap05) ((m_.Cons).length) (cp05)] 26), (700106, Ob.row (A9) ((out_8).length) (c10) 3 1 (cs11))] [(101, slF Rep.str (Ap03) ((m_.Vars).length) (cp03) (m_.Vars)), (102, slF REP (Ap04) ((m_.Rels).length) (cp04) (m_.Rels)), (103, slF RQeq (Ap05) ((m_.Cons).length) (cp05) (m_.Cons)), (105, slF (Rep.num .i64) (Au7a1) ((r3).length) (cu7a1) (r3)), (107, rdF (Rep.num .i64) (cs11) (out_8))] a w) (fun m1 => m1) n ⟨([]), (0), (none), (0), ([]), hg, (hS.sb rfl rfl rfl)⟩ ?_
 clear hS a; rintro m1 a w ⟨out_8, t_12, A9, c10, cs11, hg, hS⟩
 rcases m1 with _ | m1
 ·rw [solve_free_L0] at hg; cases hg
 rw [solve_free_L0] at hg
 apply wR
 refine qq hS rfl (y_lssN (i := t_12) (j := ((r3).length)) hS rfl rfl) fun a hS => ?_
 apply wN
 apply wp_seq
 refine c_dec hS rfl (fun hc13 => ?_) (fun hc13 => ?_)
 ·replace hg := br_t hg hc13
  have hmx14 := SlR.mx (hS.fact (k := 105) rfl)
  apply wp_skip
  refine p_norm ?_
  apply wp_seq
  apply wp_block
  apply wp_seq
  obtain ⟨x16, hx16, hg⟩ := bind_some hg
  apply wp_region_lit
  obtain ⟨p19, hep19, hpp19⟩ := SlR.elemX (hS.fact (k := 105) rfl) hx16
  refine qq hS rfl (y_elem (sz := 1) (i := t_12) hS rfl rfl Try.underlying33 rfl hep19 rfl (lt_of_get hx16)) fun a hS => ?_
  obtain ⟨hlq20, hmq20, csq20, hdq20, hcq20⟩ := hpp19
  obtain rfl := hdq20
  refine qq hS rfl (y_ldp1 hS rfl hlq20 hmq20 (hcq20 0 _ rfl) Try.underlying3 rfl) fun a hS => ?_
  refine l_seq rfl (l_alloc (zs := [.int .i64 (0)]) hS 1402 rfl rfl rfl rfl ?_); clear hS a; intro b21 a w hb hK hS
  clear hb hK
  refine l_seq rfl (l_store (n := 1) (cs' := [.int .i64 (x16)]) hS 1402 rfl rfl rfl rfl rfl rfl rfl rfl ?_); clear hS; intro w hK hS; clear hK
  apply wN
  apply wp_seq
  obtain ⟨r22, hr22, hg⟩ := bind_some hg
  apply wp_region_lit
  refine qq hS rfl (y_boxField (o' := 3) hS rfl Try.underlying26 rfl rfl rfl) fun a hS => ?_
  refine qq hS rfl (y_loadBox1 (kk := 1000) hS rfl rfl rfl Try.underlying23 rfl) fun a hS => ?_
  replace hS := hS.freezeBox (L' := [(1000, Ob.box b2 [.int .i64 (m_.Top), .int .i64 (m_.Index), .slice (Ap03) ((m_.Vars).length) (cp03), .slice (Ap04) ((m_.Rels).length) (cp04), .slice (Ap05) ((m_.Cons).length) (cp05)] 26), (700106, Ob.row (A9) ((out_8).length) (c10) 3 1 (cs11))]) 109 1402 rfl ⟨rfl, rfl, trivial⟩ rfl
  refine qq hS rfl (y_makeFunc (xs := [.tmp 5]) (vs := [.pointer (some ⟨b21, 0, none⟩)]) hS rfl) fun a hS => ?_
  refine l_seq rfl (l_call (cap := []) hS rfl Try.func24 rfl (by kernel_rfl) rfl rfl (c_slices_ContainsFunc_EP n _ _ hS.lt m_.Rels (Ap04) (cp04) (hS.fact (k := 102) rfl) (fun p => solve_free_1 n p x16) (62) ([.pointer (some ⟨b21, 0, none⟩)]) ⟨⟨_, _, Try.func62, rfl, by kernel_rfl⟩, fun M1 w1 hk hm hlt vs x r hp hr => by obtain ⟨Aa3, ca3, rfl, la1, ha3⟩ := hp; exact c_solve_free_1 n M1 w1 hlt (x) Aa3 ca3 la1 ha3 b21 (x16) (Fact.move (boxF b21 [.int .i64 (x16)] 3) hk hm (hS.fact (k := 109) rfl)) r hr⟩ r22 hr22) ?_); clear hS a; intro v25 a w hK hp hS
  clear hK
  obtain rfl := hp
  refine qq hS rfl (y_assign hS rfl) fun a hS => ?_
  apply wN
  apply wp_seq
  obtain ⟨k27, hg, hk27⟩ := jn_some hg
  refine c_post (fun a w => ∃ (t_28 : Bool), k27 t_28 = some r ∧ St (⟨Try.f41.ntmps, M, noB, w0⟩ : Ctx) [(1, .pointer (some ⟨b2, 0, none⟩)), (3, .slice (A9) ((out_8).length) (c10)), (5, .pointer (some ⟨b21, 0, none⟩)), (8, .slice (Au7a1) ((r3).length) (cu7a1)), (9, .int .i64 ((((r3).length : Nat) : Int))), (10, .int .i64 (((t_12 : Nat) : Int))), (25, .bool (t_28))] [(1000, Ob.box b2 [.int .i64 (m_.Top), .int .i64 (m_.Index), .slice (Ap03) ((m_.Vars).length) (cp03), .slice (Ap04) ((m_.Rels).length) (cp04), .slice (Ap05) ((m_.Cons).length) (cp05)] 26), (700106, Ob.row (A9) ((out_8).length) (c10) 3 1 (cs11))] [(101, slF Rep.str (Ap03) ((m_.Vars).length) (cp03) (m_.Vars)), (102, slF REP (Ap04) ((m_.Rels).length) (cp04) (m_.Rels)), (103, slF RQeq (Ap05) ((m_.Cons).length) (cp05) (m_.Cons)), (105, slF (Rep.num .i64) (Au7a1) ((r3).length) (cu7a1) (r3)), (107, rdF (Rep.num .i64) (cs11) (out_8)), (109, boxF b21 [.int .i64 (x16)] 3)] a w) ?_ ?_
  ·rcases Bool.eq_false_or_eq_true (!(r22)) with hs29 | hs29
   ·replace hg := br_t hg hs29
    apply wp_region_lit
    refine qq hS rfl (y_move hS rfl) fun a hS => ?_
    refine qq hS rfl (yl_b (y_not hS rfl) hs29) fun a hS => ?_
    refine qq hS rfl (y_move hS rfl) fun a hS => ?_
    refine gy hS rfl (y_loadF1 hS rfl (hS.fact (k := 109) rfl) rfl Try.underlying3 rfl) fun a hS => ?_
    refine gy hS rfl (y_boxField (o' := 0) hS rfl Try.underlying26 rfl rfl rfl) fun a hS => ?_
    refine gy hS rfl (y_loadBox1 (kk := 1000) hS rfl rfl rfl Try.underlying3 rfl) fun a hS => ?_
    refine gy hS rfl (y_neq hS rfl rfl) fun a hS => ?_
    refine qq hS rfl (y_pick_t hS rfl rfl) fun a hS => ?_
    apply wN
    exact ⟨(decide (x16 ≠ m_.Top)), hg, (hS.sb rfl rfl rfl)⟩
   ·replace hg := br_f hg (by rw [hs29]; exact Bool.false_ne_true)
    apply wp_region_lit
    refine qq hS rfl (y_move hS rfl) fun a hS => ?_
    refine qq hS rfl (yl_b (y_not hS rfl) hs29) fun a hS => ?_
    refine qq hS rfl (y_move hS rfl) fun a hS => ?_
    refine gn hS rfl fun a hS => ?_
    refine gn hS rfl fun a hS => ?_
    refine gn hS rfl fun a hS => ?_
    refine gn hS rfl fun a hS => ?_
    refine qq hS rfl (y_pick_f hS rfl rfl) fun a hS => ?_
    apply wN
    exact ⟨(false), hg, (hS.sb rfl rfl rfl)⟩
  clear hS a; rintro a w ⟨t_28, hg, hS⟩
  subst hk27
  refine c_cond hS rfl (fun hc30 => ?_) (fun hc30 => ?_)
  ·replace hg := br_t hg hc30
   obtain ⟨hk32, hg⟩ := chk_some hg
   apply wp_region_lit
   refine qq hS rfl (y_move hS rfl) fun a hS => ?_
   refine qq hS rfl (y_loadF1 hS rfl (hS.fact (k := 109) rfl) rfl Try.underlying3 rfl) fun a hS => ?_
   refine l_seq rfl (l_buildDense (sz := 1) hS 1702 rfl rfl rfl Try.underlying33 rfl rfl rfl rfl rfl rfl rfl ?_); clear hS a; intro b35 a w hbb35 hK hS
   clear hbb35 hK
   replace hS := hS.add 112 (rdF (Rep.num .i64) (cellsOfL [.int .i64 (x16)]) ([x16])) (RdAll.cons (by exact rfl) (RdAll.nil _ _ _))
   have hs37 := row_src (hS.wd.holds 1702 _ rfl) (RdAll.one (hS.fact (k := 112) rfl))
   refine l_seq rfl (l_append (sz := 1) (by_ := 8) (N := (out_8 ++ [x16]).length) (ys := cs11 ++ (cellsOfL [.int .i64 (x16)])) hS 700106 rfl rfl rfl Try.underlying33 rfl rfl rfl rfl rfl hs37 (by simp) rfl (by have hr := hk32; clear hg; first | omega | (simp only [List.length_append, List.length_cons, List.length_nil] at hr ⊢; omega) | (simp at hr ⊢; omega)) (by have hr := hk32; clear hg; first | omega | (simp only [List.length_append, List.length_cons, List.length_nil] at hr ⊢; omega) | (simp at hr ⊢; omega)) rfl ?_); clear hS a; intro Aq36 cq36 a w hA hK hS
   clear hK hA
   replace hS := hS.add 113 (rdF (Rep.num .i64) (cs11 ++ (cellsOfL [.int .i64 (x16)])) (out_8 ++ [x16])) (RdAll.append (hS.fact (k := 107) rfl) (hS.fact (k := 112) rfl))
   refine qq hS rfl (y_assign hS rfl) fun a hS => ?_
   apply wpList_nil
   refine p_inN ?_
   refine p_norm ?_
   apply wp_region_lit
   refine qq hS rfl (y_addN (i := t_12) (j := 1) hS rfl rfl (in64.2 (by omega))) fun a hS => ?_
   refine qq hS rfl (y_move hS rfl) fun a hS => ?_
   apply wN
   replace hS := hS.al 107 113 rfl
   exact ⟨m1, Nat.lt_succ_self _, ⟨(out_8 ++ [x16]), (t_12 + 1), (Aq36), (cq36), (cs11 ++ (cellsOfL [.int .i64 (x16)])), hg, (hS.sb rfl rfl rfl)⟩⟩
  ·replace hg := br_f hg (by rw [hc30]; exact Bool.false_ne_true)
   apply wp_skip
   refine p_inN ?_
   refine p_norm ?_
   apply wp_region_lit
   refine qq hS rfl (y_addN (i := t_12) (j := 1) hS rfl rfl (in64.2 (by omega))) fun a hS => ?_
   refine qq hS rfl (y_move hS rfl) fun a hS => ?_
   apply wN
   replace hS := hS.al 107 107 rfl
   exact ⟨m1, Nat.lt_succ_self _, ⟨(out_8), (t_12 + 1), (A9), (c10), (cs11), hg, (hS.sb rfl rfl rfl)⟩⟩
 ·replace hg := br_f hg hc13
  apply wp_exit
  refine p_then ?_
  refine p_then ?_
  refine p_in ?_
  refine p_norm ?_
  apply wR
  refine qq hS rfl (y_move hS rfl) fun a hS => ?_
  refine qq hS rfl (y_assign hS rfl) fun a hS => ?_
  apply wN
  apply wp_ret
  obtain rfl := Option.some.inj hg
  refine fin1 (fn := Try.f41) hS rfl (r_tmp hS rfl) ?_
  exact ⟨(A9), (c10), (cs11), rfl, (hS.wd.holds 700106 _ rfl), (row_new hS (kk := 700106) rfl rfl), (RdAll.own hS (kk := 700106) rfl (hS.fact (k := 107) rfl))⟩
set_option maxHeartbeats 400000 in
theorem c_slices_Clone_int (n : Nat) (M : Bs) (w0 : World) (hM : ∀ b, M b → b < w0.heap.size) (s_ : (List Int)) (Ap01 : Option Addr) (cp01 : Nat) (hp01 : SlR (Rep.num .i64) M w0 Ap01 (s_).length cp01 (s_)) (r : (List Int)) (hg : slices_Clone_int n s_ = some r) :
    Calls Try.prog 42 [.slice (Ap01) ((s_).length) (cp01)].toArray w0 (Ret noB w0 fun v w => ∃ (Ao : Option Addr), ∃ (co : Nat), ∃ (cso : List Value), v = .slice (Ao) ((r).length) (co) ∧ ((Ob.row Ao (r).length co 3 1 cso).holds w) ∧ (∀ b, (Ob.row Ao (r).length co 3 1 cso).ids b → w0.heap.size ≤ b) ∧ (RdAll (Rep.num .i64) (fun b => M b ∨ (Ob.row Ao (r).length co 3 1 cso).ids b) w cso (r))) := by
 unfold slices_Clone_int at hg
 refine enter M noB Try.func42 rfl rfl hM ?_
 intro a hS
 replace hS := hS.es 101 hp01
 apply wR
 refine qq hS rfl (y_assign hS rfl) fun a hS => ?_
 apply wN
 apply wp_seq
 apply wR
 refine qq hS rfl (y_move hS rfl) fun a hS => ?_
 refine qq hS rfl (y_slnil hS rfl rfl Try.underlying33) fun a hS => ?_
 apply wN
 refine c_cond hS rfl (fun hc1 => ?_) (fun hc1 => ?_)
 ·have hnil := SlR.nil0 (hS.fact (k := 101) rfl) (by simpa using hc1)
  replace hg : (some []) = some r := by have h0 := hg; rw [hnil] at h0; simpa [chk] using h0
  apply wR
  refine qq hS rfl (y_assign hS rfl) fun a hS => ?_
  apply wN
  apply wp_ret
  refine p_thenR ?_
  obtain rfl := Option.some.inj hg
  refine fin1 (fn := Try.f42) hS rfl (r_tmp hS rfl) ?_
  exact ⟨none, 0, [], rfl, (World.ownsRow_nil _ 0 3 1), (fun b hb => by obtain ⟨p, hp, _⟩ := hb; cases hp), RdAll.nil _ _ _⟩
 ·apply wp_skip
  refine p_norm ?_
  apply wp_seq
  obtain ⟨hk3, hg⟩ := chk_some hg
  apply wp_region_lit
  refine l_seq rfl (l_buildEmpty (sz := 1) hS 1300 Try.underlying33 rfl rfl rfl ?_); clear hS a; intro b6 a w hbb6 hK hS
  clear hbb6 hK
  refine qq hS rfl (y_move hS rfl) fun a hS => ?_
  replace hS := hS.add 105 (rdF (Rep.num .i64) ([]) ([])) (RdAll.nil _ _ _)
  obtain ⟨ns8, hs8, hns8⟩ := SlR.src (hS.fact (k := 101) rfl)
  replace hS := hS.add 106 (rdF (Rep.num .i64) ns8 (s_)) hns8
  refine l_seq rfl (l_append (sz := 1) (by_ := 8) (N := (s_).length) (ys := ns8) hS 1300 rfl rfl rfl Try.underlying33 rfl rfl rfl rfl rfl hs8 (by simp) rfl (by have hr := hk3; clear hg; first | omega | (simp only [List.length_append, List.length_cons, List.length_nil] at hr ⊢; omega) | (simp at hr ⊢; omega)) (by have hr := hk3; clear hg; first | omega | (simp only [List.length_append, List.length_cons, List.length_nil] at hr ⊢; omega) | (simp at hr ⊢; omega)) rfl ?_); clear hS a; intro Aq7 cq7 a w hA hK hS
  clear hK hA
  replace hS := hS.al 107 106 rfl
  refine qq hS rfl (y_assign hS rfl) fun a hS => ?_
  apply wN
  apply wp_ret
  obtain rfl := Option.some.inj hg
  refine fin1 (fn := Try.f42) hS rfl (r_tmp hS rfl) ?_
  exact ⟨(Aq7), (cq7), (ns8), rfl, (hS.wd.holds 1300 _ rfl), (row_new hS (kk := 1300) rfl rfl), (RdAll.own hS (kk := 1300) rfl (hS.fact (k := 107) rfl))⟩
set_option maxHeartbeats 400000 in
theorem c_solve_next (n : Nat) (M : Bs) (w0 : World) (hM : ∀ b, M b → b < w0.heap.size) (C : Bs) (l_ : (List Int)) (Ap01 : Option Addr) (cp01 : Nat) (csp00 : List Value) (hW : Wd ⟨0, M, C, w0⟩ [(9200000, Ob.row (Ap01) ((l_).length) (cp01) 3 1 (csp00))] [(9300000, rdF (Rep.num .i64) (csp00) (l_))] w0) (r : (Bool × (List Int))) (hg : solve_next n l_ = some r) :
    Calls Try.prog 43 [.slice (Ap01) ((l_).length) (cp01)].toArray w0 (Ret C w0 fun v w => ∃ (csm0_0 : List Value), v = .bool (r.1) ∧ (Wd ⟨0, M, C, w0⟩ [(9200000, Ob.row (Ap01) ((l_).length) (cp01) 3 1 (csm0_0))] [(9300000, rdF (Rep.num .i64) (csm0_0) (r.2))] w)) := by
 unfold solve_next at hg
 refine enterL M C Try.func43 rfl rfl hW ?_
 intro a hS
 apply wR
 refine qq hS rfl (y_assign hS rfl) fun a hS => ?_
 apply wN
 apply wR
 refine qq hS rfl (y_move hS rfl) fun a hS => ?_
 refine qq hS rfl (y_lenSlice hS rfl Try.underlying33) fun a hS => ?_
 have hmx1 := row_mx (hS.wd.holds 9200000 _ rfl)
 refine qq hS rfl (y_sub hS rfl rfl (in64.2 (by omega))) fun a hS => ?_
 refine qq hS rfl (y_assign hS rfl) fun a hS => ?_
 apply wN
 apply wp_seq
 obtain ⟨k2, hg, hk2⟩ := jn_some hg
 refine c_post (fun a w => ∃ (i_3 : Int), k2 i_3 = some r ∧ St (⟨Try.f43.ntmps, M, C, w0⟩ : Ctx) [(0, .slice (Ap01) ((l_).length) (cp01)), (3, .int .i64 (i_3))] [(9200000, Ob.row (Ap01) ((l_).length) (cp01) 3 1 (csp00))] [(9300000, rdF (Rep.num .i64) (csp00) (l_))] a w) ?_ ?_
 ·apply wp_block
  refine c_loop (σ := Nat) (fun m1 a w => ∃ (i_4 : Int), solve_next_L0 n l_ k2 m1 i_4 = some r ∧ St (⟨Try.f43.ntmps, M, C, w0⟩ : Ctx) [(0, .slice (Ap01) ((l_).length) (cp01)), (3, .int .i64 (i_4))] [(9200000, Ob.row (Ap01) ((l_).length) (cp01) 3 1 (csp00))] [(9300000, rdF (Rep.num .i64) (csp00) (l_))] a w) (fun m1 => m1) n ⟨((((l_).length : Nat) : Int) - 2), hg, (hS.sb rfl rfl rfl)⟩ ?_
  clear hS a; rintro m1 a w ⟨i_4, hg, hS⟩
  rcases m1 with _ | m1
  ·rw [solve_next_L0] at hg; cases hg
  rw [solve_next_L0] at hg
  apply wp_seq
  apply wp_seq
  obtain ⟨k5, hg, hk5⟩ := jn_some hg
  refine c_post (fun a w => ∃ (t_6 : Bool), k5 t_6 = some r ∧ St (⟨Try.f43.ntmps, M, C, w0⟩ : Ctx) [(0, .slice (Ap01) ((l_).length) (cp01)), (3, .int .i64 (i_4)), (21, .bool (t_6))] [(9200000, Ob.row (Ap01) ((l_).length) (cp01) 3 1 (csp00))] [(9300000, rdF (Rep.num .i64) (csp00) (l_))] a w) ?_ ?_
  ·rcases Decidable.em ((0 : Int) ≤ i_4) with hs7 | hs7
   ·have hs7e : decide ((0 : Int) ≤ i_4) = true := decide_eq_true hs7
    replace hg := br_t hg hs7
    obtain ⟨x9, hx9, hg⟩ := bind_some hg
    obtain ⟨hk11, hg⟩ := chk_some hg
    obtain ⟨x13, hx13, hg⟩ := bind_some hg
    refine d_plan hS [] [(0, some 0), (1, some 0), (2, some 0), (3, some 0), (4, some 0), (5, some 0), (6, some 9200000), (7, some 0), (8, some 0), (9, some 0), (10, some 0), (11, some 9200000), (12, some 0), (13, some 0)] rfl (by kernel_rfl) (by kernel_rfl) rfl ?_; clear hS; intro wr hZ hS; have hR := hS.wd
    refine q_take hS hR rfl rfl rfl rfl (y_move hS rfl) fun a hS => ?_
    refine q_take hS hR rfl rfl rfl rfl (yl_b (y_geq hS rfl rfl) hs7e) fun a hS => ?_
    refine q_take hS hR rfl rfl rfl rfl (y_move hS rfl) fun a hS => ?_
    refine q_take hS hR rfl rfl ⟨_, _, _, rfl, rfl, rfl, rfl⟩ rfl (y_move hS rfl) fun a hS => ?_
    refine q_take hS hR rfl rfl ⟨_, _, _, rfl, rfl, rfl, rfl⟩ rfl (y_move hS rfl) fun a hS => ?_
    obtain ⟨hiq15, bq15, hAq15⟩ := SlR.row1 (hS.wd.holds 9200000 _ rfl) (hS.fact (k := 9300000) rfl) rfl rfl (ix_some hx9).1
    refine q_take hS hR rfl rfl ⟨_, _, _, rfl, rfl, rfl, rfl⟩ rfl (y_rowIndex (sz := 1) (i := ((i_4).toNat)) hS rfl rfl Try.underlying33 rfl hAq15 (ix_some hx9).2.1 hiq15) fun a hS => ?_
    have hz16 := (hS.fact (k := 9300000) rfl).at_ _ _ (ix_some hx9).1
    have ez16 := hz16
    refine q_take hS hR rfl rfl ⟨_, _, _, rfl, rfl, rfl, rfl⟩ rfl (y_loadRow1 (kk := 9200000) hS rfl rfl hAq15 (take1 ez16) Try.underlying3 rfl) fun a hS => ?_
    refine q_take hS hR rfl rfl ⟨_, _, _, rfl, rfl, rfl, rfl⟩ rfl (y_move hS rfl) fun a hS => ?_
    refine q_take hS hR rfl rfl ⟨_, _, _, rfl, rfl, rfl, rfl⟩ rfl (y_move hS rfl) fun a hS => ?_
    refine q_take hS hR rfl rfl ⟨_, _, _, rfl, rfl, rfl, rfl⟩ rfl (y_add hS rfl rfl (in64.2 hk11)) fun a hS => ?_
    obtain ⟨hiq17, bq17, hAq17⟩ := SlR.row1 (hS.wd.holds 9200000 _ rfl) (hS.fact (k := 9300000) rfl) rfl rfl (ix_some hx13).1
    refine q_take hS hR rfl rfl ⟨_, _, _, rfl, rfl, rfl, rfl⟩ rfl (y_rowIndex (sz := 1) (i := ((i_4 + 1).toNat)) hS rfl rfl Try.underlying33 rfl hAq17 (ix_some hx13).2.1 hiq17) fun a hS => ?_
    have hz18 := (hS.fact (k := 9300000) rfl).at_ _ _ (ix_some hx13).1
    have ez18 := hz18
    refine q_take hS hR rfl rfl ⟨_, _, _, rfl, rfl, rfl, rfl⟩ rfl (y_loadRow1 (kk := 9200000) hS rfl rfl hAq17 (take1 ez18) Try.underlying3 rfl) fun a hS => ?_
    refine q_take hS hR rfl rfl ⟨_, _, _, rfl, rfl, rfl, rfl⟩ rfl (y_gtr hS rfl rfl) fun a hS => ?_
    refine q_take hS hR rfl rfl rfl rfl (y_pick_t hS rfl rfl) fun a hS => ?_
    clear hR hZ
    refine p_norm ?_
    exact ⟨(decide (x13 < x9)), hg, (hS.sb rfl rfl rfl)⟩
   ·have hs7e : decide ((0 : Int) ≤ i_4) = false := decide_eq_false hs7
    replace hg := br_f hg hs7
    refine d_plan hS [] [(0, some 0), (1, some 0), (2, some 0), (3, some 0), (4, some 0), (5, some 0), (6, some 0), (7, some 0), (8, some 0), (9, some 0), (10, some 0), (11, some 0), (12, some 0), (13, some 0)] rfl (by kernel_rfl) (by kernel_rfl) rfl ?_; clear hS; intro wr hZ hS; have hR := hS.wd
    refine q_take hS hR rfl rfl rfl rfl (y_move hS rfl) fun a hS => ?_
    refine q_take hS hR rfl rfl rfl rfl (yl_b (y_geq hS rfl rfl) hs7e) fun a hS => ?_
    refine q_take hS hR rfl rfl rfl rfl (y_move hS rfl) fun a hS => ?_
    refine q_pass hS hR rfl rfl ⟨_, _, _, rfl, rfl, rfl, rfl⟩ rfl fun a hS => ?_
    refine q_pass hS hR rfl rfl ⟨_, _, _, rfl, rfl, rfl, rfl⟩ rfl fun a hS => ?_
    refine q_pass hS hR rfl rfl ⟨_, _, _, rfl, rfl, rfl, rfl⟩ rfl fun a hS => ?_
    refine q_pass hS hR rfl rfl ⟨_, _, _, rfl, rfl, rfl, rfl⟩ rfl fun a hS => ?_
    refine q_pass hS hR rfl rfl ⟨_, _, _, rfl, rfl, rfl, rfl⟩ rfl fun a hS => ?_
    refine q_pass hS hR rfl rfl ⟨_, _, _, rfl, rfl, rfl, rfl⟩ rfl fun a hS => ?_
    refine q_pass hS hR rfl rfl ⟨_, _, _, rfl, rfl, rfl, rfl⟩ rfl fun a hS => ?_
    refine q_pass hS hR rfl rfl ⟨_, _, _, rfl, rfl, rfl, rfl⟩ rfl fun a hS => ?_
    refine q_pass hS hR rfl rfl ⟨_, _, _, rfl, rfl, rfl, rfl⟩ rfl fun a hS => ?_
    refine q_pass hS hR rfl rfl ⟨_, _, _, rfl, rfl, rfl, rfl⟩ rfl fun a hS => ?_
    refine q_take hS hR rfl rfl rfl rfl (y_pick_f hS rfl rfl) fun a hS => ?_
    clear hR hZ
    refine p_norm ?_
    exact ⟨(false), hg, (hS.sb rfl rfl rfl)⟩
  clear hS a; rintro a w ⟨t_6, hg, hS⟩
  subst hk5
  refine c_cond hS rfl (fun hc19 => ?_) (fun hc19 => ?_)
  ·replace hg := br_t hg hc19
   apply wp_skip
   refine p_norm ?_
   apply wp_block
   obtain ⟨hk20, hg⟩ := chk_some hg
   apply wp_region_lit
   refine qq hS rfl (y_move hS rfl) fun a hS => ?_
   refine qq hS rfl (y_sub hS rfl rfl (in64.2 hk20)) fun a hS => ?_
   refine qq hS rfl (y_assign hS rfl) fun a hS => ?_
   apply wpList_nil
   refine p_inN ?_
   refine p_norm ?_
   exact ⟨m1, Nat.lt_succ_self _, ⟨(i_4 - 1), hg, (hS.sb rfl rfl rfl)⟩⟩
  ·replace hg := br_f hg (by rw [hc19]; exact Bool.false_ne_true)
   apply wp_exit
   refine p_then ?_
   refine p_then ?_
   refine p_in ?_
   refine p_norm ?_
   exact ⟨(i_4), hg, (hS.sb rfl rfl rfl)⟩
 clear hS a; rintro a w ⟨i_3, hg, hS⟩
 subst hk2
 apply wp_seq
 apply wR
 refine qq hS rfl (y_move hS rfl) fun a hS => ?_
 refine qq hS rfl (y_lss hS rfl rfl) fun a hS => ?_
 apply wN
 refine c_dec hS rfl (fun hc21 => ?_) (fun hc21 => ?_)
 ·replace hg := br_t hg hc21
  apply wR
  refine qq hS rfl (y_assign hS rfl) fun a hS => ?_
  apply wN
  apply wp_ret
  refine p_thenR ?_
  replace hS := hS.al 9300000 9300000 rfl
  obtain rfl := Option.some.inj hg
  refine fin1 (fn := Try.f43) hS rfl (r_tmp hS rfl) ?_
  exact ⟨(csp00), rfl, ((hS.ren [(9200000, Ob.row (Ap01) ((l_).length) (cp01) 3 1 (csp00))] [9200000] ⟨rfl, trivial⟩ (by decide)).outL ⟨rfl, trivial⟩ ⟨rfl, trivial⟩)⟩
 ·replace hg := br_f hg hc21
  apply wp_skip
  refine p_norm ?_
  apply wR
  refine qq hS rfl (y_move hS rfl) fun a hS => ?_
  refine qq hS rfl (y_lenSlice hS rfl Try.underlying33) fun a hS => ?_
  have hmx22 := row_mx (hS.wd.holds 9200000 _ rfl)
  refine qq hS rfl (y_sub hS rfl rfl (in64.2 (by omega))) fun a hS => ?_
  refine qq hS rfl (y_assign hS rfl) fun a hS => ?_
  apply wN
  apply wp_seq
  obtain ⟨k23, hg, hk23⟩ := jn_some hg
  refine c_post (fun a w => ∃ (k_24 : Int), k23 k_24 = some r ∧ St (⟨Try.f43.ntmps, M, C, w0⟩ : Ctx) [(0, .slice (Ap01) ((l_).length) (cp01)), (3, .int .i64 (i_3)), (4, .int .i64 (k_24))] [(9200000, Ob.row (Ap01) ((l_).length) (cp01) 3 1 (csp00))] [(9300000, rdF (Rep.num .i64) (csp00) (l_))] a w) ?_ ?_
  ·apply wp_block
   refine c_loop (σ := Nat) (fun m2 a w => ∃ (k_25 : Int), solve_next_L1 n l_ i_3 k23 m2 k_25 = some r ∧ St (⟨Try.f43.ntmps, M, C, w0⟩ : Ctx) [(0, .slice (Ap01) ((l_).length) (cp01)), (3, .int .i64 (i_3)), (4, .int .i64 (k_25))] [(9200000, Ob.row (Ap01) ((l_).length) (cp01) 3 1 (csp00))] [(9300000, rdF (Rep.num .i64) (csp00) (l_))] a w) (fun m2 => m2) n ⟨((((l_).length : Nat) : Int) - 1), hg, (hS.sb rfl rfl rfl)⟩ ?_
   clear hS a; rintro m2 a w ⟨k_25, hg, hS⟩
   rcases m2 with _ | m2
   ·rw [solve_next_L1] at hg; cases hg
   rw [solve_next_L1] at hg
   apply wp_seq
   apply wp_seq
   obtain ⟨x27, hx27, hg⟩ := bind_some hg
   obtain ⟨x30, hx30, hg⟩ := bind_some hg
   refine d_plan hS [] [(0, some 0), (1, some 0), (2, some 0), (3, some 9200000), (4, some 0), (5, some 0), (6, some 0), (7, some 9200000), (8, some 0)] rfl (by kernel_rfl) (by kernel_rfl) rfl ?_; clear hS; intro wr hZ hS; have hR := hS.wd
   refine q_take hS hR rfl rfl rfl rfl (y_move hS rfl) fun a hS => ?_
   refine q_take hS hR rfl rfl rfl rfl (y_move hS rfl) fun a hS => ?_
   obtain ⟨hiq32, bq32, hAq32⟩ := SlR.row1 (hS.wd.holds 9200000 _ rfl) (hS.fact (k := 9300000) rfl) rfl rfl (ix_some hx27).1
   refine q_take hS hR rfl rfl rfl rfl (y_rowIndex (sz := 1) (i := ((k_25).toNat)) hS rfl rfl Try.underlying33 rfl hAq32 (ix_some hx27).2.1 hiq32) fun a hS => ?_
   have hz33 := (hS.fact (k := 9300000) rfl).at_ _ _ (ix_some hx27).1
   have ez33 := hz33
   refine q_take hS hR rfl rfl rfl rfl (y_loadRow1 (kk := 9200000) hS rfl rfl hAq32 (take1 ez33) Try.underlying3 rfl) fun a hS => ?_
   refine q_take hS hR rfl rfl rfl rfl (y_move hS rfl) fun a hS => ?_
   refine q_take hS hR rfl rfl rfl rfl (y_move hS rfl) fun a hS => ?_
   obtain ⟨hiq34, bq34, hAq34⟩ := SlR.row1 (hS.wd.holds 9200000 _ rfl) (hS.fact (k := 9300000) rfl) rfl rfl (ix_some hx30).1
   refine q_take hS hR rfl rfl rfl rfl (y_rowIndex (sz := 1) (i := ((i_3).toNat)) hS rfl rfl Try.underlying33 rfl hAq34 (ix_some hx30).2.1 hiq34) fun a hS => ?_
   have hz35 := (hS.fact (k := 9300000) rfl).at_ _ _ (ix_some hx30).1
   have ez35 := hz35
   refine q_take hS hR rfl rfl rfl rfl (y_loadRow1 (kk := 9200000) hS rfl rfl hAq34 (take1 ez35) Try.underlying3 rfl) fun a hS => ?_
   refine q_take hS hR rfl rfl rfl rfl (y_lss hS rfl rfl) fun a hS => ?_
   clear hR hZ
   refine p_norm ?_
   refine c_dec hS rfl (fun hc36 => ?_) (fun hc36 => ?_)
   ·replace hg := br_t hg hc36
    apply wp_skip
    refine p_norm ?_
    apply wp_block
    obtain ⟨hk37, hg⟩ := chk_some hg
    apply wp_region_lit
    refine qq hS rfl (y_move hS rfl) fun a hS => ?_
    refine qq hS rfl (y_sub hS rfl rfl (in64.2 hk37)) fun a hS => ?_
    refine qq hS rfl (y_assign hS rfl) fun a hS => ?_
    apply wpList_nil
    refine p_inN ?_
    refine p_norm ?_
    exact ⟨m2, Nat.lt_succ_self _, ⟨(k_25 - 1), hg, (hS.sb rfl rfl rfl)⟩⟩
   ·replace hg := br_f hg hc36
    apply wp_exit
    refine p_then ?_
    refine p_then ?_
    refine p_in ?_
    refine p_norm ?_
    exact ⟨(k_25), hg, (hS.sb rfl rfl rfl)⟩
  clear hS a; rintro a w ⟨k_24, hg, hS⟩
  subst hk23
  apply wp_seq
  obtain ⟨x39, hx39, hg⟩ := bind_some hg
  obtain ⟨x42, hx42, hg⟩ := bind_some hg
  obtain ⟨x46, hx46, hg⟩ := bind_some hg
  refine d_plan hS [(13, 9200000), (15, 9200000)] [(0, some 0), (1, some 0), (2, some 0), (3, some 0), (4, some 0), (5, some 0), (6, some 0), (7, some 9200000), (8, some 0), (9, some 0), (10, some 0), (11, some 9200000), (12, some 0), (13, none), (14, none), (15, none)] rfl (by kernel_rfl) (by kernel_rfl) rfl ?_; clear hS; intro wr hZ hS; have hR := hS.wd
  refine q_take hS hR rfl rfl rfl rfl (y_move hS rfl) fun a hS => ?_
  refine q_take hS hR rfl rfl rfl rfl (y_move hS rfl) fun a hS => ?_
  refine q_take hS hR rfl rfl rfl rfl (y_move hS rfl) fun a hS => ?_
  refine q_take hS hR rfl rfl rfl rfl (y_move hS rfl) fun a hS => ?_
  refine q_take hS hR rfl rfl rfl rfl (y_move hS rfl) fun a hS => ?_
  refine q_take hS hR rfl rfl rfl rfl (y_move hS rfl) fun a hS => ?_
  obtain ⟨hiq47, bq47, hAq47⟩ := SlR.row1 (hS.wd.holds 9200000 _ rfl) (hS.fact (k := 9300000) rfl) rfl rfl (ix_some hx39).1
  refine q_take hS hR rfl rfl rfl rfl (y_rowIndex (sz := 1) (i := ((k_24).toNat)) hS rfl rfl Try.underlying33 rfl hAq47 (ix_some hx39).2.1 hiq47) fun a hS => ?_
  have hz48 := (hS.fact (k := 9300000) rfl).at_ _ _ (ix_some hx39).1
  have ez48 := hz48
  refine q_take hS hR rfl rfl rfl rfl (y_loadRow1 (kk := 9200000) hS rfl rfl hAq47 (take1 ez48) Try.underlying3 rfl) fun a hS => ?_
  refine q_take hS hR rfl rfl rfl rfl (y_move hS rfl) fun a hS => ?_
  refine q_take hS hR rfl rfl rfl rfl (y_move hS rfl) fun a hS => ?_
  obtain ⟨hiq49, bq49, hAq49⟩ := SlR.row1 (hS.wd.holds 9200000 _ rfl) (hS.fact (k := 9300000) rfl) rfl rfl (ix_some hx42).1
  refine q_take hS hR rfl rfl rfl rfl (y_rowIndex (sz := 1) (i := ((i_3).toNat)) hS rfl rfl Try.underlying33 rfl hAq49 (ix_some hx42).2.1 hiq49) fun a hS => ?_
  have hz50 := (hS.fact (k := 9300000) rfl).at_ _ _ (ix_some hx42).1
  have ez50 := hz50
  refine q_take hS hR rfl rfl rfl rfl (y_loadRow1 (kk := 9200000) hS rfl rfl hAq49 (take1 ez50) Try.underlying3 rfl) fun a hS => ?_
  obtain ⟨hiq51, bq51, hAq51⟩ := SlR.row1 (hS.wd.holds 9200000 _ rfl) (hS.fact (k := 9300000) rfl) rfl rfl (ix_some hx42).1
  refine q_take hS hR rfl rfl rfl rfl (y_rowIndex (sz := 1) (i := ((i_3).toNat)) hS rfl rfl Try.underlying33 rfl hAq51 (ix_some hx42).2.1 hiq51) fun a hS => ?_
  have hzi := lt_of_get (ix_some hx42).1
  have hzn := rowN (hS.wd.holds 9200000 _ rfl) (hS.fact (k := 9300000) rfl) rfl rfl
  have hzf : ((i_3).toNat) * 1 + 1 ≤ ((l_).length) * 1 := by have := Nat.mul_le_mul_right 1 (Nat.succ_le_of_lt hzi); omega
  refine l_take hS rfl rfl (l_storeRow (N := 1) (cs' := splice (csp00) (((i_3).toNat) * 1) [.int .i64 (x39)]) hS 9200000 rfl rfl rfl hAq51 rfl rfl hzf rfl rfl ?_); clear hS; intro w hK hS; replace hZ := Nat.le_trans hZ hK.size
  refine ⟨fun g hg h => h.obj hR (kk := 9200000) rfl hK (by rintro rfl; exact absurd hg (by decide)), ?_⟩; clear hK
  replace hS := hS.sub (l' := [(0, .slice (Ap01) ((l_).length) (cp01)), (3, .int .i64 (i_3)), (4, .int .i64 (k_24)), (40, .slice (Ap01) ((l_).length) (cp01)), (41, .int .i64 (i_3)), (42, .slice (Ap01) ((l_).length) (cp01)), (43, .int .i64 (k_24)), (44, .slice (Ap01) ((l_).length) (cp01)), (45, .int .i64 (k_24)), (46, .pointer (some ⟨bq47, ((k_24).toNat) * 1, none⟩)), (47, .int .i64 (x39)), (48, .slice (Ap01) ((l_).length) (cp01)), (49, .int .i64 (i_3)), (50, .pointer (some ⟨bq49, ((i_3).toNat) * 1, none⟩)), (51, .int .i64 (x42)), (52, .pointer (some ⟨bq51, ((i_3).toNat) * 1, none⟩))]) (L' := [(9200000, Ob.row (Ap01) ((l_).length) (cp01) 3 1 (splice (csp00) (((i_3).toNat) * 1) [.int .i64 (x39)]))]) (D' := [(9300000, rdF (Rep.num .i64) (csp00) (l_))]) ⟨rfl, rfl, rfl, rfl, rfl, rfl, rfl, rfl, rfl, rfl, rfl, rfl, rfl, rfl, rfl, rfl, trivial⟩ ⟨rfl, trivial⟩ ⟨rfl, trivial⟩
  replace hS := hS.eqs (l' := [(0, .slice (Ap01) (((l_).set ((i_3).toNat) x39).length) (cp01)), (3, .int .i64 (i_3)), (4, .int .i64 (k_24)), (40, .slice (Ap01) (((l_).set ((i_3).toNat) x39).length) (cp01)), (41, .int .i64 (i_3)), (42, .slice (Ap01) (((l_).set ((i_3).toNat) x39).length) (cp01)), (43, .int .i64 (k_24)), (44, .slice (Ap01) (((l_).set ((i_3).toNat) x39).length) (cp01)), (45, .int .i64 (k_24)), (46, .pointer (some ⟨bq47, ((k_24).toNat) * 1, none⟩)), (47, .int .i64 (x39)), (48, .slice (Ap01) (((l_).set ((i_3).toNat) x39).length) (cp01)), (49, .int .i64 (i_3)), (50, .pointer (some ⟨bq49, ((i_3).toNat) * 1, none⟩)), (51, .int .i64 (x42)), (52, .pointer (some ⟨bq51, ((i_3).toNat) * 1, none⟩))]) (L' := [(9200000, Ob.row (Ap01) (((l_).set ((i_3).toNat) x39).length) (cp01) 3 1 (splice (csp00) (((i_3).toNat) * 1) [.int .i64 (x39)]))]) (by simp only [List.length_set]) (by simp only [List.length_set])
  replace hS := hS.add 103 (rdF (Rep.num .i64) (splice (csp00) (((i_3).toNat) * 1) [.int .i64 (x39)]) ((l_).set ((i_3).toNat) x39)) (RdAll.put (hS.fact (k := 9300000) rfl) rfl hzi)
  obtain ⟨hiq52, bq52, hAq52⟩ := SlR.row1 (hS.wd.holds 9200000 _ rfl) (hS.fact (k := 103) rfl) rfl rfl (ix_some hx46).1
  refine l_take hS rfl rfl (l_quiet hS rfl rfl (y_rowIndex (sz := 1) (i := ((k_24).toNat)) hS rfl rfl Try.underlying33 rfl hAq52 (ix_some hx46).2.1 hiq52) fun a hS => ?_); refine ⟨fun g _ h => h, ?_⟩
  have hzi := lt_of_get (ix_some hx46).1
  have hzn := rowN (hS.wd.holds 9200000 _ rfl) (hS.fact (k := 103) rfl) rfl rfl
  have hzf : ((k_24).toNat) * 1 + 1 ≤ (((l_).set ((i_3).toNat) x39).length) * 1 := by have := Nat.mul_le_mul_right 1 (Nat.succ_le_of_lt hzi); omega
  refine l_take hS rfl rfl (l_storeRow (N := 1) (cs' := splice (splice (csp00) (((i_3).toNat) * 1) [.int .i64 (x39)]) (((k_24).toNat) * 1) [.int .i64 (x42)]) hS 9200000 rfl rfl rfl hAq52 rfl rfl hzf rfl rfl ?_); clear hS; intro w hK hS; replace hZ := Nat.le_trans hZ hK.size
  refine ⟨fun g hg h => h.obj hR (kk := 9200000) rfl hK (by rintro rfl; exact absurd hg (by decide)), ?_⟩; clear hK
  replace hS := hS.sub (l' := [(0, .slice (Ap01) (((l_).set ((i_3).toNat) x39).length) (cp01)), (3, .int .i64 (i_3)), (4, .int .i64 (k_24)), (40, .slice (Ap01) (((l_).set ((i_3).toNat) x39).length) (cp01)), (41, .int .i64 (i_3)), (42, .slice (Ap01) (((l_).set ((i_3).toNat) x39).length) (cp01)), (43, .int .i64 (k_24)), (44, .slice (Ap01) (((l_).set ((i_3).toNat) x39).length) (cp01)), (45, .int .i64 (k_24)), (46, .pointer (some ⟨bq47, ((k_24).toNat) * 1, none⟩)), (47, .int .i64 (x39)), (48, .slice (Ap01) (((l_).set ((i_3).toNat) x39).length) (cp01)), (49, .int .i64 (i_3)), (50, .pointer (some ⟨bq49, ((i_3).toNat) * 1, none⟩)), (51, .int .i64 (x42)), (52, .pointer (some ⟨bq51, ((i_3).toNat) * 1, none⟩)), (53, .pointer (some ⟨bq52, ((k_24).toNat) * 1, none⟩))]) (L' := [(9200000, Ob.row (Ap01) (((l_).set ((i_3).toNat) x39).length) (cp01) 3 1 (splice (splice (csp00) (((i_3).toNat) * 1) [.int .i64 (x39)]) (((k_24).toNat) * 1) [.int .i64 (x42)]))]) (D' := [(103, rdF (Rep.num .i64) (splice (csp00) (((i_3).toNat) * 1) [.int .i64 (x39)]) ((l_).set ((i_3).toNat) x39)), (9300000, rdF (Rep.num .i64) (csp00) (l_))]) ⟨rfl, rfl, rfl, rfl, rfl, rfl, rfl, rfl, rfl, rfl, rfl, rfl, rfl, rfl, rfl, rfl, rfl, trivial⟩ ⟨rfl, trivial⟩ ⟨rfl, rfl, trivial⟩
  replace hS := hS.eqs (l' := [(0, .slice (Ap01) ((((l_).set ((i_3).toNat) x39).set ((k_24).toNat) x42).length) (cp01)), (3, .int .i64 (i_3)), (4, .int .i64 (k_24)), (40, .slice (Ap01) ((((l_).set ((i_3).toNat) x39).set ((k_24).toNat) x42).length) (cp01)), (41, .int .i64 (i_3)), (42, .slice (Ap01) ((((l_).set ((i_3).toNat) x39).set ((k_24).toNat) x42).length) (cp01)), (43, .int .i64 (k_24)), (44, .slice (Ap01) ((((l_).set ((i_3).toNat) x39).set ((k_24).toNat) x42).length) (cp01)), (45, .int .i64 (k_24)), (46, .pointer (some ⟨bq47, ((k_24).toNat) * 1, none⟩)), (47, .int .i64 (x39)), (48, .slice (Ap01) ((((l_).set ((i_3).toNat) x39).set ((k_24).toNat) x42).length) (cp01)), (49, .int .i64 (i_3)), (50, .pointer (some ⟨bq49, ((i_3).toNat) * 1, none⟩)), (51, .int .i64 (x42)), (52, .pointer (some ⟨bq51, ((i_3).toNat) * 1, none⟩)), (53, .pointer (some ⟨bq52, ((k_24).toNat) * 1, none⟩))]) (L' := [(9200000, Ob.row (Ap01) ((((l_).set ((i_3).toNat) x39).set ((k_24).toNat) x42).length) (cp01) 3 1 (splice (splice (csp00) (((i_3).toNat) * 1) [.int .i64 (x39)]) (((k_24).toNat) * 1) [.int .i64 (x42)]))]) (by simp only [List.length_set]) (by simp only [List.length_set])
  replace hS := hS.add 104 (rdF (Rep.num .i64) (splice (splice (csp00) (((i_3).toNat) * 1) [.int .i64 (x39)]) (((k_24).toNat) * 1) [.int .i64 (x42)]) (((l_).set ((i_3).toNat) x39).set ((k_24).toNat) x42)) (RdAll.put (hS.fact (k := 103) rfl) rfl hzi)
  clear hR hZ
  refine p_norm ?_
  apply wp_seq
  obtain ⟨hk53, hg⟩ := chk_some hg
  obtain ⟨hk54, hg⟩ := chk_some hg
  obtain ⟨hk55, hg⟩ := chk_some hg
  apply wp_region_lit
  refine qq hS rfl (y_move hS rfl) fun a hS => ?_
  refine qq hS rfl (y_move hS rfl) fun a hS => ?_
  refine qq hS rfl (y_add hS rfl rfl (in64.2 hk53)) fun a hS => ?_
  have hrl107 := rowN (hS.wd.holds 9200000 _ rfl) (hS.fact (k := 104) rfl) rfl rfl
  have hcap107 := row_cap (hS.wd.holds 9200000 _ rfl)
  have hmx107 := row_mx (hS.wd.holds 9200000 _ rfl)
  refine qq hS rfl (y_cutL (xs := (((l_).set ((i_3).toNat) x39).set ((k_24).toNat) x42)) (sz := 1) (i := ((i_3 + 1).toNat)) hS rfl rfl Try.underlying33 rfl (by omega) hk55 (by omega)) fun a hS => ?_
  have hT := hS.ren [(9200000, Ob.row (Ap01) ((((l_).set ((i_3).toNat) x39).set ((k_24).toNat) x42).length) (cp01) 3 1 (splice (splice (csp00) (((i_3).toNat) * 1) [.int .i64 (x39)]) (((k_24).toNat) * 1) [.int .i64 (x42)]))] [9200000] ⟨rfl, trivial⟩ (by decide)
  replace hT := hT.add 9300000 (rdF (Rep.num .i64) (splice (splice (csp00) (((i_3).toNat) * 1) [.int .i64 (x39)]) (((k_24).toNat) * 1) [.int .i64 (x42)]) (((l_).set ((i_3).toNat) x39).set ((k_24).toNat) x42)) (hT.fact (k := 104) rfl)
  refine l_seq rfl (l_callMut (cap := []) hT [(9200000, Ob.row (Ap01) ((((l_).set ((i_3).toNat) x39).set ((k_24).toNat) x42).length) (cp01) 3 1 (splice (splice (csp00) (((i_3).toNat) * 1) [.int .i64 (x39)]) (((k_24).toNat) * 1) [.int .i64 (x42)]))] [] ⟨rfl, trivial⟩ trivial rfl rfl Try.func64 rfl (by kernel_rfl) rfl rfl (c_slices_Reverse_end _ _ _ (((l_).set ((i_3).toNat) x39).set ((k_24).toNat) x42) (Ap01) (cp01) ((i_3 + 1).toNat) (splice (splice (csp00) (((i_3).toNat) * 1) [.int .i64 (x39)]) (((k_24).toNat) * 1) [.int .i64 (x42)]) (hT.wd.lendL [(9200000, Ob.row (Ap01) ((((l_).set ((i_3).toNat) x39).set ((k_24).toNat) x42).length) (cp01) 3 1 (splice (splice (csp00) (((i_3).toNat) * 1) [.int .i64 (x39)]) (((k_24).toNat) * 1) [.int .i64 (x42)]))] [] [(9300000, rdF (Rep.num .i64) (splice (splice (csp00) (((i_3).toNat) * 1) [.int .i64 (x39)]) (((k_24).toNat) * 1) [.int .i64 (x42)]) (((l_).set ((i_3).toNat) x39).set ((k_24).toNat) x42))] ⟨rfl, trivial⟩ trivial rfl ⟨rfl, trivial⟩) hk55 (by omega)) ?_); intro vu57 a' w' hK hp hF
  obtain ⟨csu57, rfl, hWu57⟩ := hp
  have hS2 := St.mk hF (hT.wd.back (Lsub := [(9200000, Ob.row (Ap01) ((((l_).set ((i_3).toNat) x39).set ((k_24).toNat) x42).length) (cp01) 3 1 (splice (splice (csp00) (((i_3).toNat) * 1) [.int .i64 (x39)]) (((k_24).toNat) * 1) [.int .i64 (x42)]))]) (Lrest := []) ⟨rfl, trivial⟩ trivial rfl hWu57 rfl)
  clear hS hT hF hWu57 hK; revert hS2; revert w'; revert a'; intro a w hS
  replace hS := hS.add 108 (rdF (Rep.num .i64) csu57 ((((l_).set ((i_3).toNat) x39).set ((k_24).toNat) x42).take ((i_3 + 1).toNat) ++ ((((l_).set ((i_3).toNat) x39).set ((k_24).toNat) x42).drop ((i_3 + 1).toNat)).reverse)) (hS.fact (k := 9300000) rfl)
  replace hS := hS.ren [(9200000, Ob.row (Ap01) ((((l_).set ((i_3).toNat) x39).set ((k_24).toNat) x42).length) (cp01) 3 1 (csu57))] [9200000] ⟨rfl, trivial⟩ (by decide)
  apply wN
  apply wR
  refine qq hS rfl (y_assign hS rfl) fun a hS => ?_
  apply wN
  apply wp_ret
  replace hS := hS.sub (l' := [(0, .slice (Ap01) ((((l_).set ((i_3).toNat) x39).set ((k_24).toNat) x42).length) (cp01)), (2, .bool (true)), (3, .int .i64 (i_3)), (4, .int .i64 (k_24)), (40, .slice (Ap01) ((((l_).set ((i_3).toNat) x39).set ((k_24).toNat) x42).length) (cp01)), (41, .int .i64 (i_3)), (42, .slice (Ap01) ((((l_).set ((i_3).toNat) x39).set ((k_24).toNat) x42).length) (cp01)), (43, .int .i64 (k_24)), (44, .slice (Ap01) ((((l_).set ((i_3).toNat) x39).set ((k_24).toNat) x42).length) (cp01)), (45, .int .i64 (k_24)), (46, .pointer (some ⟨bq47, ((k_24).toNat) * 1, none⟩)), (47, .int .i64 (x39)), (48, .slice (Ap01) ((((l_).set ((i_3).toNat) x39).set ((k_24).toNat) x42).length) (cp01)), (49, .int .i64 (i_3)), (50, .pointer (some ⟨bq49, ((i_3).toNat) * 1, none⟩)), (51, .int .i64 (x42)), (52, .pointer (some ⟨bq51, ((i_3).toNat) * 1, none⟩)), (53, .pointer (some ⟨bq52, ((k_24).toNat) * 1, none⟩)), (54, .slice (Ap01) ((((l_).set ((i_3).toNat) x39).set ((k_24).toNat) x42).length) (cp01)), (55, .int .i64 (i_3)), (56, .int .i64 (i_3 + 1)), (57, .slice (if cp01 = (i_3 + 1).toNat then Ap01 else (Ap01).map (·.add (((i_3 + 1).toNat) * 1))) (((((l_).set ((i_3).toNat) x39).set ((k_24).toNat) x42).drop ((i_3 + 1).toNat)).length) (cp01 - ((i_3 + 1).toNat))), (58, .tuple #[])]) (L' := [(9200000, Ob.row (Ap01) ((((l_).set ((i_3).toNat) x39).set ((k_24).toNat) x42).length) (cp01) 3 1 (csu57))]) (D' := [(103, rdF (Rep.num .i64) (splice (csp00) (((i_3).toNat) * 1) [.int .i64 (x39)]) ((l_).set ((i_3).toNat) x39)), (104, rdF (Rep.num .i64) (splice (splice (csp00) (((i_3).toNat) * 1) [.int .i64 (x39)]) (((k_24).toNat) * 1) [.int .i64 (x42)]) (((l_).set ((i_3).toNat) x39).set ((k_24).toNat) x42)), (108, rdF (Rep.num .i64) (csu57) ((((l_).set ((i_3).toNat) x39).set ((k_24).toNat) x42).take ((i_3 + 1).toNat) ++ ((((l_).set ((i_3).toNat) x39).set ((k_24).toNat) x42).drop ((i_3 + 1).toNat)).reverse)), (9300000, rdF (Rep.num .i64) (csu57) ((((l_).set ((i_3).toNat) x39).set ((k_24).toNat) x42).take ((i_3 + 1).toNat) ++ ((((l_).set ((i_3).toNat) x39).set ((k_24).toNat) x42).drop ((i_3 + 1).toNat)).reverse))]) ⟨rfl, rfl, rfl, rfl, rfl, rfl, rfl, rfl, rfl, rfl, rfl, rfl, rfl, rfl, rfl, rfl, rfl, rfl, rfl, rfl, rfl, rfl, rfl, trivial⟩ ⟨rfl, trivial⟩ ⟨rfl, rfl, rfl, rfl, trivial⟩
  replace hS := hS.eqs (l' := [(0, .slice (Ap01) ((((l_).set ((i_3).toNat) x39).set ((k_24).toNat) x42).length) (cp01)), (2, .bool (true)), (3, .int .i64 (i_3)), (4, .int .i64 (k_24)), (40, .slice (Ap01) ((((l_).set ((i_3).toNat) x39).set ((k_24).toNat) x42).length) (cp01)), (41, .int .i64 (i_3)), (42, .slice (Ap01) ((((l_).set ((i_3).toNat) x39).set ((k_24).toNat) x42).length) (cp01)), (43, .int .i64 (k_24)), (44, .slice (Ap01) ((((l_).set ((i_3).toNat) x39).set ((k_24).toNat) x42).length) (cp01)), (45, .int .i64 (k_24)), (46, .pointer (some ⟨bq47, ((k_24).toNat) * 1, none⟩)), (47, .int .i64 (x39)), (48, .slice (Ap01) ((((l_).set ((i_3).toNat) x39).set ((k_24).toNat) x42).length) (cp01)), (49, .int .i64 (i_3)), (50, .pointer (some ⟨bq49, ((i_3).toNat) * 1, none⟩)), (51, .int .i64 (x42)), (52, .pointer (some ⟨bq51, ((i_3).toNat) * 1, none⟩)), (53, .pointer (some ⟨bq52, ((k_24).toNat) * 1, none⟩)), (54, .slice (Ap01) ((((l_).set ((i_3).toNat) x39).set ((k_24).toNat) x42).length) (cp01)), (55, .int .i64 (i_3)), (56, .int .i64 (i_3 + 1)), (57, .slice (if cp01 = (i_3 + 1).toNat then Ap01 else (Ap01).map (·.add (((i_3 + 1).toNat) * 1))) (((((l_).set ((i_3).toNat) x39).set ((k_24).toNat) x42).drop ((i_3 + 1).toNat)).length) (cp01 - ((i_3 + 1).toNat))), (58, .tuple #[])]) (L' := [(9200000, Ob.row (Ap01) ((l_).length) (cp01) 3 1 (csu57))]) (by simp only [List.length_set]) (by simp only [List.length_set])
  replace hS := hS.add 9300000 (rdF (Rep.num .i64) (csu57) ((((l_).set ((i_3).toNat) x39).set ((k_24).toNat) x42).take ((i_3 + 1).toNat) ++ ((((l_).set ((i_3).toNat) x39).set ((k_24).toNat) x42).drop ((i_3 + 1).toNat)).reverse)) (hS.fact (k := 108) rfl)
  obtain rfl := Option.some.inj hg
  refine fin1 (fn := Try.f43) hS rfl (r_tmp hS rfl) ?_
  exact ⟨(csu57), rfl, ((hS.ren [(9200000, Ob.row (Ap01) ((l_).length) (cp01) 3 1 (csu57))] [9200000] ⟨rfl, trivial⟩ (by decide)).outL ⟨rfl, trivial⟩ ⟨rfl, trivial⟩)⟩
set_option maxHeartbeats 400000 in
theorem c_solve_search (n : Nat) (M : Bs) (w0 : World) (hM : ∀ b, M b → b < w0.heap.size) (m_ : MRS) (Ap03 : Option Addr) (cp03 : Nat) (Ap04 : Option Addr) (cp04 : Nat) (Ap05 : Option Addr) (cp05 : Nat) (hp03 : SlR Rep.str M w0 Ap03 (m_.Vars).length cp03 (m_.Vars)) (hp04 : SlR REP M w0 Ap04 (m_.Rels).length cp04 (m_.Rels)) (hp05 : SlR RQeq M w0 Ap05 (m_.Cons).length cp05 (m_.Cons)) (most_ : Int) (r : ((List (List Int)) × Bool × Int)) (hg : solve_search n m_ most_ = some r) :
    Calls Try.prog 22 [.agg #[.int .i64 (m_.Top), .int .i64 (m_.Index), .slice (Ap03) ((m_.Vars).length) (cp03), .slice (Ap04) ((m_.Rels).length) (cp04), .slice (Ap05) ((m_.Cons).length) (cp05)], .int .i64 (most_)].toArray w0 (Ret noB w0 fun v w => ∃ (Aa1 : Option Addr), ∃ (ca1 : Nat), v = .tuple #[.slice (Aa1) ((r.1).length) (ca1), .bool (r.2.1), .int .i64 (r.2.2)] ∧ (SlR (Rep.list (Rep.num .i64)) M w Aa1 (r.1).length ca1 (r.1))) := by
 unfold solve_search at hg
 refine enter M noB Try.func22 rfl rfl hM ?_
 intro a hS
 replace hS := hS.es 101 hp03
 replace hS := hS.es 102 hp04
 replace hS := hS.es 103 hp05
 apply wR
 refine l_seq rfl (l_box (zs := [.int .i64 (m_.Top), .int .i64 (m_.Index), .slice (Ap03) ((m_.Vars).length) (cp03), .slice (Ap04) ((m_.Rels).length) (cp04), .slice (Ap05) ((m_.Cons).length) (cp05)]) hS 1000 rfl rfl rfl rfl ?_); clear hS a; intro b2 a w hb hK hS
 clear hb hK
 refine qq hS rfl (y_assign hS rfl) fun a hS => ?_
 refine qq hS rfl (y_assign hS rfl) fun a hS => ?_
 refine qq hS rfl (y_assign hS rfl) fun a hS => ?_
 apply wN
 apply wp_scope_straight
 apply wp_seq
 obtain ⟨r3, hr3, hg⟩ := bind_some hg
 apply wp_region_lit
 refine qq hS rfl (y_loadBox (kk := 1000) (n := 5) (vs := [.int .i64 (m_.Top), .int .i64 (m_.Index), .slice (Ap03) ((m_.Vars).length) (cp03), .slice (Ap04) ((m_.Rels).length) (cp04), .slice (Ap05) ((m_.Cons).length) (cp05)]) hS rfl rfl Try.underlying26 rfl rfl rfl rfl) fun a hS => ?_
 refine l_seq rfl (l_call (cap := []) hS rfl Try.func10 rfl (by kernel_rfl) rfl rfl (c_scope_Holes n _ _ hS.lt m_ (Ap03) (cp03) (Ap04) (cp04) (Ap05) (cp05) (hS.fact (k := 101) rfl) (hS.fact (k := 102) rfl) (hS.fact (k := 103) rfl) r3 hr3) ?_); clear hS a; intro v6 a w hK hp hS
 clear hK
 obtain ⟨Au7a1, cu7a1, rfl, hu7a1⟩ := hp
 replace hS := hS.add 105 (slF (Rep.num .i64) (Au7a1) ((r3).length) (cu7a1) (r3)) hu7a1
 refine qq hS rfl (y_lenSlice hS rfl Try.underlying33) fun a hS => ?_
 refine qq hS rfl (y_assign hS rfl) fun a hS => ?_
 apply wN
 apply wp_seq
 apply wR
 refine qq hS rfl (y_move hS rfl) fun a hS => ?_
 refine qq hS rfl (y_gtrN (i := ((r3).length)) (j := 6) hS rfl rfl) fun a hS => ?_
 apply wN
 refine c_dec hS rfl (fun hc8 => ?_) (fun hc8 => ?_)
 ·replace hg := br_t hg hc8
  have hmx9 := SlR.mx (hS.fact (k := 105) rfl)
  apply wR
  refine qq hS rfl (y_assign hS rfl) fun a hS => ?_
  refine qq hS rfl (y_assign hS rfl) fun a hS => ?_
  refine qq hS rfl (y_assign hS rfl) fun a hS => ?_
  apply wN
  apply wp_ret
  refine p_thenR ?_
  refine p_scR ?_
  obtain rfl := Option.some.inj hg
  refine fin3 (fn := Try.f22) hS rfl (r_tmp hS rfl) (r_tmp hS rfl) (r_tmp hS rfl) ?_
  exact ⟨(none), (0), rfl, (SlR.nil_ _ _ _)⟩
 ·replace hg := br_f hg hc8
  apply wp_skip
  refine p_norm ?_
  apply wp_seq
  obtain ⟨r10, hr10, hg⟩ := bind_some hg
  apply wp_region_lit
  refine qq hS rfl (y_loadBox (kk := 1000) (n := 5) (vs := [.int .i64 (m_.Top), .int .i64 (m_.Index), .slice (Ap03) ((m_.Vars).length) (cp03), .slice (Ap04) ((m_.Rels).length) (cp04), .slice (Ap05) ((m_.Cons).length) (cp05)]) hS rfl rfl Try.underlying26 rfl rfl rfl rfl) fun a hS => ?_
  refine l_seq rfl (l_callOwn (cap := []) (post := (fun v ob w' => ∃ Ao co cso, ob = Ob.row Ao (r10).length co 3 1 cso ∧ v = .slice (Ao) ((r10).length) (co) ∧ RdAll (Rep.num .i64) (fun b => mtb _ _ b ∨ ob.ids b) w' cso (r10))) hS 1401 rfl rfl Try.func41 rfl (by kernel_rfl) rfl rfl ((c_solve_free n _ _ hS.lt m_ (Ap03) (cp03) (Ap04) (cp04) (Ap05) (cp05) (hS.fact (k := 101) rfl) (hS.fact (k := 102) rfl) (hS.fact (k := 103) rfl) r10 hr10).mono (fun e w' h => by obtain ⟨v, he, hk, Ao, co, cso, hv, ho1, ho2, ho3⟩ := h; exact ⟨v, he, hk, _, ho1, ho2, ⟨Ao, co, cso, rfl, hv, ho3⟩⟩)) ?_); clear hS a; intro v14 ob a w hK hp hS
  obtain ⟨Au13, cu13, csu13, rfl, rfl, hou13⟩ := hp
  clear hK
  replace hS := hS.add 107 (rdF (Rep.num .i64) csu13 (r10)) (RdAll.up2 hS hou13)
  refine qq hS rfl (y_assign hS rfl) fun a hS => ?_
  apply wN
  apply wp_seq
  apply wR
  refine qq hS rfl (y_move hS rfl) fun a hS => ?_
  refine qq hS rfl (y_lenSlice hS rfl Try.underlying33) fun a hS => ?_
  refine qq hS rfl (y_move hS rfl) fun a hS => ?_
  refine qq hS rfl (y_neqN (i := ((r10).length)) (j := ((r3).length)) hS rfl rfl) fun a hS => ?_
  apply wN
  refine c_dec hS rfl (fun hc15 => ?_) (fun hc15 => ?_)
  ·replace hg := br_t hg hc15
   apply wR
   refine qq hS rfl (y_assign hS rfl) fun a hS => ?_
   refine qq hS rfl (y_assign hS rfl) fun a hS => ?_
   refine qq hS rfl (y_assign hS rfl) fun a hS => ?_
   apply wN
   apply wp_ret
   refine p_thenR ?_
   refine p_scR ?_
   obtain rfl := Option.some.inj hg
   refine fin3 (fn := Try.f22) hS rfl (r_tmp hS rfl) (r_tmp hS rfl) (r_tmp hS rfl) ?_
   exact ⟨(none), (0), rfl, (SlR.nil_ _ _ _)⟩
  ·replace hg := br_f hg hc15
   apply wp_skip
   refine p_norm ?_
   apply wR
   refine qq hS rfl (y_assign hS rfl) fun a hS => ?_
   apply wN
   apply wR
   refine qq hS rfl (y_assign hS rfl) fun a hS => ?_
   apply wN
   apply wp_seq
   apply wp_label
   refine p_norm ?_
   apply wp_seq
   obtain ⟨k16, hg, hk16⟩ := jn_some hg
   refine c_post (fun a w => ∃ (out_17 : (List (List Int))), ∃ (more_21 : Bool), ∃ (A18 : Option Addr), ∃ (c19 : Nat), ∃ (cs20 : List Value), k16 out_17 more_21 = some r ∧ St (⟨Try.f22.ntmps, M, noB, w0⟩ : Ctx) [(9, .slice (A18) ((out_17).length) (c19)), (10, .bool (more_21))] [(700108, Ob.row (A18) ((out_17).length) (c19) 33 1 (cs20))] [(109, rdF (Rep.list (Rep.num .i64)) (cs20) (out_17))] a w) ?_ ?_
   ·apply wp_block
    replace hS := hS.al 111 107 rfl
    replace hS := hS.pk [(1000, 1000), (700110, 1401)] (by decide)
    replace hS := hS.nilRow 700112 33 1 rfl
    replace hS := hS.add 113 (rdF (Rep.list (Rep.num .i64)) [] []) (RdAll.nil _ _ _)
    refine c_loop (σ := Nat) (fun m1 a w => ∃ (l_22 : (List Int)), ∃ (out_26 : (List (List Int))), ∃ (A23 : Option Addr), ∃ (c24 : Nat), ∃ (cs25 : List Value), ∃ (A27 : Option Addr), ∃ (c28 : Nat), ∃ (cs29 : List Value), solve_search_L0 n m_ most_ k16 m1 l_22 out_26 = some r ∧ St (⟨Try.f22.ntmps, M, noB, w0⟩ : Ctx) [(1, .int .i64 (most_)), (2, .pointer (some ⟨b2, 0, none⟩)), (8, .slice (A23) ((l_22).length) (c24)), (9, .slice (A27) ((out_26).length) (c28)), (10, .bool (false))] [(1000, Ob.box b2 [.int .i64 (m_.Top), .int .i64 (m_.Index), .slice (Ap03) ((m_.Vars).length) (cp03), .slice (Ap04) ((m_.Rels).length) (cp04), .slice (Ap05) ((m_.Cons).length) (cp05)] 26), (700110, Ob.row (A23) ((l_22).length) (c24) 3 1 (cs25)), (700112, Ob.row (A27) ((out_26).length) (c28) 33 1 (cs29))] [(101, slF Rep.str (Ap03) ((m_.Vars).length) (cp03) (m_.Vars)), (102, slF REP (Ap04) ((m_.Rels).length) (cp04) (m_.Rels)), (103, slF RQeq (Ap05) ((m_.Cons).length) (cp05) (m_.Cons)), (111, rdF (Rep.num .i64) (cs25) (l_22)), (113, rdF (Rep.list (Rep.num .i64)) (cs29) (out_26))] a w) (fun m1 => m1) n ⟨(r10), ([]), (Au13), (cu13), (csu13), (none), (0), ([]), hg, (hS.sb rfl rfl rfl)⟩ ?_
    clear hS a; rintro m1 a w ⟨l_22, out_26, A23, c24, cs25, A27, c28, cs29, hg, hS⟩
    rcases m1 with _ | m1
    ·rw [solve_search_L0] at hg; cases hg
    rw [solve_search_L0] at hg
    apply wp_block
    apply wp_seq
    apply wp_seq
    obtain ⟨r30, hr30, hg⟩ := bind_some hg
    apply wp_region_lit
    refine qq hS rfl (y_loadBox (kk := 1000) (n := 5) (vs := [.int .i64 (m_.Top), .int .i64 (m_.Index), .slice (Ap03) ((m_.Vars).length) (cp03), .slice (Ap04) ((m_.Rels).length) (cp04), .slice (Ap05) ((m_.Cons).length) (cp05)]) hS rfl rfl Try.underlying26 rfl rfl rfl rfl) fun a hS => ?_
    refine qq hS rfl (y_move hS rfl) fun a hS => ?_
    have hT := hS
    replace hT := hT.fz (R := (Rep.num .i64)) (kk := 700110) [1000, 700112] 115 rfl rfl (hT.fact (k := 111) rfl) rfl
    refine l_seq rfl (l_call (cap := []) hS rfl Try.func13 rfl (by kernel_rfl) rfl rfl (c_scope_Valid n _ _ hT.lt m_ (Ap03) (cp03) (Ap04) (cp04) (Ap05) (cp05) (hT.fact (k := 101) rfl) (hT.fact (k := 102) rfl) (hT.fact (k := 103) rfl) l_22 (A23) (c24) (hT.fact (k := 115) rfl) r30 hr30) ?_); clear hS hT a; intro v33 a w hK hp hS
    clear hK
    obtain rfl := hp
    refine qq hS rfl (y_eql hS rfl rfl) fun a hS => ?_
    apply wN
    obtain ⟨k35, hg, hk35⟩ := jn_some hg
    refine c_post (fun a w => ∃ (out_36 : (List (List Int))), ∃ (A37 : Option Addr), ∃ (c38 : Nat), ∃ (cs39 : List Value), k35 out_36 = some r ∧ St (⟨Try.f22.ntmps, M, noB, w0⟩ : Ctx) [(1, .int .i64 (most_)), (2, .pointer (some ⟨b2, 0, none⟩)), (8, .slice (A23) ((l_22).length) (c24)), (9, .slice (A37) ((out_36).length) (c38)), (10, .bool (false))] [(1000, Ob.box b2 [.int .i64 (m_.Top), .int .i64 (m_.Index), .slice (Ap03) ((m_.Vars).length) (cp03), .slice (Ap04) ((m_.Rels).length) (cp04), .slice (Ap05) ((m_.Cons).length) (cp05)] 26), (700110, Ob.row (A23) ((l_22).length) (c24) 3 1 (cs25)), (700116, Ob.row (A37) ((out_36).length) (c38) 33 1 (cs39))] [(101, slF Rep.str (Ap03) ((m_.Vars).length) (cp03) (m_.Vars)), (102, slF REP (Ap04) ((m_.Rels).length) (cp04) (m_.Rels)), (103, slF RQeq (Ap05) ((m_.Cons).length) (cp05) (m_.Cons)), (111, rdF (Rep.num .i64) (cs25) (l_22)), (117, rdF (Rep.list (Rep.num .i64)) (cs39) (out_36))] a w) ?_ ?_
    ·refine c_dec hS rfl (fun hc40 => ?_) (fun hc40 => ?_)
     ·replace hg := br_t hg hc40
      apply wp_seq
      apply wp_seq
      obtain ⟨k41, hg, hk41⟩ := jn_some hg
      refine c_post (fun a w => ∃ (t_42 : Bool), k41 t_42 = some r ∧ St (⟨Try.f22.ntmps, M, noB, w0⟩ : Ctx) [(1, .int .i64 (most_)), (2, .pointer (some ⟨b2, 0, none⟩)), (8, .slice (A23) ((l_22).length) (c24)), (9, .slice (A27) ((out_26).length) (c28)), (10, .bool (false)), (33, .bool (t_42))] [(1000, Ob.box b2 [.int .i64 (m_.Top), .int .i64 (m_.Index), .slice (Ap03) ((m_.Vars).length) (cp03), .slice (Ap04) ((m_.Rels).length) (cp04), .slice (Ap05) ((m_.Cons).length) (cp05)] 26), (700110, Ob.row (A23) ((l_22).length) (c24) 3 1 (cs25)), (700112, Ob.row (A27) ((out_26).length) (c28) 33 1 (cs29))] [(101, slF Rep.str (Ap03) ((m_.Vars).length) (cp03) (m_.Vars)), (102, slF REP (Ap04) ((m_.Rels).length) (cp04) (m_.Rels)), (103, slF RQeq (Ap05) ((m_.Cons).length) (cp05) (m_.Cons)), (111, rdF (Rep.num .i64) (cs25) (l_22)), (113, rdF (Rep.list (Rep.num .i64)) (cs29) (out_26))] a w) ?_ ?_
      ·rcases Decidable.em ((0 : Int) < most_) with hs43 | hs43
       ·have hs43e : decide ((0 : Int) < most_) = true := decide_eq_true hs43
        replace hg := br_t hg hs43
        apply wp_region_lit
        refine qq hS rfl (y_move hS rfl) fun a hS => ?_
        refine qq hS rfl (yl_b (y_gtr hS rfl rfl) hs43e) fun a hS => ?_
        refine qq hS rfl (y_move hS rfl) fun a hS => ?_
        refine gy hS rfl (y_move hS rfl) fun a hS => ?_
        refine gy hS rfl (y_lenSlice hS rfl Try.underlying29) fun a hS => ?_
        refine gy hS rfl (y_move hS rfl) fun a hS => ?_
        refine gy hS rfl (y_eql hS rfl rfl) fun a hS => ?_
        refine qq hS rfl (y_pick_t hS rfl rfl) fun a hS => ?_
        apply wN
        exact ⟨(decide ((((out_26).length : Nat) : Int) = most_)), hg, (hS.sb rfl rfl rfl)⟩
       ·have hs43e : decide ((0 : Int) < most_) = false := decide_eq_false hs43
        replace hg := br_f hg hs43
        apply wp_region_lit
        refine qq hS rfl (y_move hS rfl) fun a hS => ?_
        refine qq hS rfl (yl_b (y_gtr hS rfl rfl) hs43e) fun a hS => ?_
        refine qq hS rfl (y_move hS rfl) fun a hS => ?_
        refine gn hS rfl fun a hS => ?_
        refine gn hS rfl fun a hS => ?_
        refine gn hS rfl fun a hS => ?_
        refine gn hS rfl fun a hS => ?_
        refine qq hS rfl (y_pick_f hS rfl rfl) fun a hS => ?_
        apply wN
        exact ⟨(false), hg, (hS.sb rfl rfl rfl)⟩
      clear hS a; rintro a w ⟨t_42, hg, hS⟩
      subst hk41
      refine c_cond hS rfl (fun hc44 => ?_) (fun hc44 => ?_)
      ·replace hg := br_t hg hc44
       apply wR
       refine qq hS rfl (y_assign hS rfl) fun a hS => ?_
       apply wN
       apply wp_exit
       refine p_then ?_
       refine p_then ?_
       refine p_out rfl ?_
       refine p_then ?_
       refine p_in ?_
       refine p_norm ?_
       replace hS := hS.al 109 113 rfl
       replace hS := hS.pk [(1000, 1000), (700108, 700112), (700110, 700110)] (by decide)
       exact ⟨(out_26), (true), (A27), (c28), (cs29), hg, (hS.sb rfl rfl rfl)⟩
      ·replace hg := br_f hg (by rw [hc44]; exact Bool.false_ne_true)
       apply wp_skip
       refine p_norm ?_
       obtain ⟨r45, hr45, hg⟩ := bind_some hg
       obtain ⟨hk49, hg⟩ := chk_some hg
       apply wp_region_lit
       refine qq hS rfl (y_move hS rfl) fun a hS => ?_
       refine qq hS rfl (y_move hS rfl) fun a hS => ?_
       have hT := hS
       replace hT := hT.fz (R := (Rep.num .i64)) (kk := 700110) [1000, 700112] 123 rfl rfl (hT.fact (k := 111) rfl) rfl
       refine l_seq rfl (l_callOwn (cap := []) (post := (fun v ob w' => ∃ Ao co cso, ob = Ob.row Ao (r45).length co 3 1 cso ∧ v = .slice (Ao) ((r45).length) (co) ∧ RdAll (Rep.num .i64) noB w' cso (r45))) hS 2202 rfl rfl Try.func42 rfl (by kernel_rfl) rfl rfl ((c_slices_Clone_int n _ _ hT.lt l_22 (A23) (c24) (hT.fact (k := 123) rfl) r45 hr45).mono (fun e w' h => by obtain ⟨v, he, hk, Ao, co, cso, hv, ho1, ho2, ho3⟩ := h; exact ⟨v, he, hk, _, ho1, ho2, ⟨Ao, co, cso, rfl, hv, (RdAll.anyM (fun _ _ _ _ _ _ h => h) ho3)⟩⟩)) ?_); clear hS hT a; intro v53 ob a w hK hp hS
       obtain ⟨Au52, cu52, csu52, rfl, rfl, hou52⟩ := hp
       clear hK
       replace hS := hS.add 124 (rdF (Rep.num .i64) csu52 (r45)) (RdAll.anyM (fun _ _ _ _ _ _ h => h) hou52)
       replace hS := hS.freeze (R := (Rep.num .i64)) (kk := 2202) (L' := [(1000, Ob.box b2 [.int .i64 (m_.Top), .int .i64 (m_.Index), .slice (Ap03) ((m_.Vars).length) (cp03), .slice (Ap04) ((m_.Rels).length) (cp04), .slice (Ap05) ((m_.Cons).length) (cp05)] 26), (700110, Ob.row (A23) ((l_22).length) (c24) 3 1 (cs25)), (700112, Ob.row (A27) ((out_26).length) (c28) 33 1 (cs29))]) 125 rfl rfl (hS.fact (k := 124) rfl) ⟨rfl, rfl, rfl, trivial⟩ rfl
       refine l_seq rfl (l_buildDense (sz := 1) hS 2203 rfl rfl rfl Try.underlying29 rfl rfl rfl rfl rfl rfl rfl ?_); clear hS a; intro b54 a w hbb54 hK hS
       clear hbb54 hK
       replace hS := hS.add 126 (rdF (Rep.list (Rep.num .i64)) (cellsOfL [.slice (Au52) ((r45).length) (cu52)]) ([r45])) (RdAll.cons (by exact ⟨_, _, _, rfl, (hS.fact (k := 125) rfl)⟩) (RdAll.nil _ _ _))
       have hs56 := row_src (hS.wd.holds 2203 _ rfl) (RdAll.one (hS.fact (k := 126) rfl))
       refine l_seq rfl (l_append (sz := 1) (by_ := 24) (N := (out_26 ++ [r45]).length) (ys := cs29 ++ (cellsOfL [.slice (Au52) ((r45).length) (cu52)])) hS 700112 rfl rfl rfl Try.underlying29 rfl rfl rfl rfl rfl hs56 (by simp) rfl (by have hr := hk49; clear hg; first | omega | (simp only [List.length_append, List.length_cons, List.length_nil] at hr ⊢; omega) | (simp at hr ⊢; omega)) (by have hr := hk49; clear hg; first | omega | (simp only [List.length_append, List.length_cons, List.length_nil] at hr ⊢; omega) | (simp at hr ⊢; omega)) rfl ?_); clear hS a; intro Aq55 cq55 a w hA hK hS
       clear hK hA
       replace hS := hS.add 127 (rdF (Rep.list (Rep.num .i64)) (cs29 ++ (cellsOfL [.slice (Au52) ((r45).length) (cu52)])) (out_26 ++ [r45])) (RdAll.append (hS.fact (k := 113) rfl) (hS.fact (k := 126) rfl))
       refine qq hS rfl (y_assign hS rfl) fun a hS => ?_
       apply wN
       replace hS := hS.add 117 (rdF (Rep.list (Rep.num .i64)) (cs29 ++ (cellsOfL [.slice (Au52) ((r45).length) (cu52)])) (out_26 ++ [r45])) (hS.fact (k := 127) rfl)
       replace hS := hS.pk [(1000, 1000), (2203, 2203), (700110, 700110), (700116, 700112)] (by decide)
       exact ⟨(out_26 ++ [r45]), (Aq55), (cq55), (cs29 ++ (cellsOfL [.slice (Au52) ((r45).length) (cu52)])), hg, (hS.sb rfl rfl rfl)⟩
     ·replace hg := br_f hg hc40
      apply wp_skip
      refine p_norm ?_
      replace hS := hS.al 117 113 rfl
      replace hS := hS.pk [(1000, 1000), (700110, 700110), (700116, 700112)] (by decide)
      exact ⟨(out_26), (A27), (c28), (cs29), hg, (hS.sb rfl rfl rfl)⟩
    clear hS a; rintro a w ⟨out_36, A37, c38, cs39, hg, hS⟩
    subst hk35
    apply wp_seq
    obtain ⟨r57, hr57, hg⟩ := bind_some hg
    apply wp_region_lit
    refine qq hS rfl (y_move hS rfl) fun a hS => ?_
    have hT := hS.pk [(1000, 1000), (700116, 700116), (9200000, 700110)] (by decide)
    replace hT := hT.al 9300000 111 rfl
    refine l_seq rfl (l_callMut (cap := []) hT _ [] (sbA (by rfl)) trivial (by rfl) rfl Try.func43 rfl (by kernel_rfl) rfl rfl (c_solve_next n _ _ (hT.restLt [1000, 700116]) _ l_22 (A23) (c24) (cs25) (hT.wd.lendL _ _ _ (sbA (by rfl)) (keep_sub [1000, 700116]) (by rfl) (sbA (by rfl))) r57 hr57) ?_); intro v60 a' w' hK hp hF
    obtain ⟨csm0_0u61, rfl, hWu61⟩ := hp
    have hS2 := St.mk hF (hT.wd.back (sbA (by rfl)) (keep_sub [1000, 700116]) (by rfl) hWu61 (by rfl))
    clear hS hT hF hWu61 hK; revert hS2; revert w'; revert a'; intro a w hS
    replace hS := hS.al 129 9300000 rfl
    replace hS := hS.ren [(1000, Ob.box b2 [.int .i64 (m_.Top), .int .i64 (m_.Index), .slice (Ap03) ((m_.Vars).length) (cp03), .slice (Ap04) ((m_.Rels).length) (cp04), .slice (Ap05) ((m_.Cons).length) (cp05)] 26), (700110, Ob.row (A23) ((l_22).length) (c24) 3 1 (csm0_0u61)), (700116, Ob.row (A37) ((out_36).length) (c38) 33 1 (cs39))] [1000, 9200000, 700116] ⟨rfl, rfl, rfl, trivial⟩ (by decide)
    replace hS := hS.sub (l' := [(1, .int .i64 (most_)), (2, .pointer (some ⟨b2, 0, none⟩)), (8, .slice (A23) ((l_22).length) (c24)), (9, .slice (A37) ((out_36).length) (c38)), (10, .bool (false)), (39, .slice (A23) ((l_22).length) (c24)), (40, .bool (r57.1))]) (L' := [(1000, Ob.box b2 [.int .i64 (m_.Top), .int .i64 (m_.Index), .slice (Ap03) ((m_.Vars).length) (cp03), .slice (Ap04) ((m_.Rels).length) (cp04), .slice (Ap05) ((m_.Cons).length) (cp05)] 26), (700110, Ob.row (A23) ((l_22).length) (c24) 3 1 (csm0_0u61)), (700116, Ob.row (A37) ((out_36).length) (c38) 33 1 (cs39))]) (D' := [(101, slF Rep.str (Ap03) ((m_.Vars).length) (cp03) (m_.Vars)), (102, slF REP (Ap04) ((m_.Rels).length) (cp04) (m_.Rels)), (103, slF RQeq (Ap05) ((m_.Cons).length) (cp05) (m_.Cons)), (111, rdF (Rep.num .i64) (cs25) (l_22)), (117, rdF (Rep.list (Rep.num .i64)) (cs39) (out_36)), (129, rdF (Rep.num .i64) (csm0_0u61) (r57.2))]) ⟨rfl, rfl, rfl, rfl, rfl, rfl, rfl, trivial⟩ ⟨rfl, rfl, rfl, trivial⟩ ⟨rfl, rfl, rfl, rfl, rfl, rfl, trivial⟩
    have hrlu610 := rowN (hS.wd.holds 700110 _ rfl) (hS.fact (k := 129) rfl) rfl rfl
    replace hS := hS.eqs (l' := [(1, .int .i64 (most_)), (2, .pointer (some ⟨b2, 0, none⟩)), (8, .slice (A23) ((r57.2).length) (c24)), (9, .slice (A37) ((out_36).length) (c38)), (10, .bool (false)), (39, .slice (A23) ((r57.2).length) (c24)), (40, .bool (r57.1))]) (L' := [(1000, Ob.box b2 [.int .i64 (m_.Top), .int .i64 (m_.Index), .slice (Ap03) ((m_.Vars).length) (cp03), .slice (Ap04) ((m_.Rels).length) (cp04), .slice (Ap05) ((m_.Cons).length) (cp05)] 26), (700110, Ob.row (A23) ((r57.2).length) (c24) 3 1 (csm0_0u61)), (700116, Ob.row (A37) ((out_36).length) (c38) 33 1 (cs39))]) (by simp only [hrlu610]) (by simp only [hrlu610])
    refine qq hS rfl (y_not hS rfl) fun a hS => ?_
    apply wN
    refine c_cond hS rfl (fun hc62 => ?_) (fun hc62 => ?_)
    ·replace hg := br_t hg hc62
     apply wp_exit
     refine p_out rfl ?_
     refine p_then ?_
     refine p_in ?_
     refine p_norm ?_
     replace hS := hS.al 109 117 rfl
     replace hS := hS.pk [(1000, 1000), (700108, 700116), (700110, 700110)] (by decide)
     exact ⟨(out_36), (false), (A37), (c38), (cs39), hg, (hS.sb rfl rfl rfl)⟩
    ·replace hg := br_f hg (by rw [hc62]; exact Bool.false_ne_true)
     apply wp_skip
     refine p_inN ?_
     refine p_norm ?_
     replace hS := hS.al 111 129 rfl
     replace hS := hS.al 113 117 rfl
     replace hS := hS.pk [(1000, 1000), (700110, 700110), (700112, 700116)] (by decide)
     exact ⟨m1, Nat.lt_succ_self _, ⟨(r57.2), (out_36), (A23), (c24), (csm0_0u61), (A37), (c38), (cs39), hg, (hS.sb rfl rfl rfl)⟩⟩
   clear hS a; rintro a w ⟨out_17, more_21, A18, c19, cs20, hg, hS⟩
   subst hk16
   apply wR
   refine qq hS rfl (y_move hS rfl) fun a hS => ?_
   refine qq hS rfl (y_move hS rfl) fun a hS => ?_
   refine qq hS rfl (y_assign hS rfl) fun a hS => ?_
   refine qq hS rfl (y_assign hS rfl) fun a hS => ?_
   refine qq hS rfl (y_assign hS rfl) fun a hS => ?_
   apply wN
   apply wp_ret
   refine p_scR ?_
   obtain rfl := Option.some.inj hg
   refine fin3 (fn := Try.f22) hS rfl (r_tmp hS rfl) (r_tmp hS rfl) (r_tmp hS rfl) ?_
   exact ⟨(A18), (c19), rfl, (hS.rowOut (R := (Rep.list (Rep.num .i64))) (kk := 700108) rfl rfl (hS.fact (k := 109) rfl))⟩
set_option maxHeartbeats 400000 in
theorem c_solve_All (n : Nat) (M : Bs) (w0 : World) (hM : ∀ b, M b → b < w0.heap.size) (m_ : MRS) (Ap03 : Option Addr) (cp03 : Nat) (Ap04 : Option Addr) (cp04 : Nat) (Ap05 : Option Addr) (cp05 : Nat) (hp03 : SlR Rep.str M w0 Ap03 (m_.Vars).length cp03 (m_.Vars)) (hp04 : SlR REP M w0 Ap04 (m_.Rels).length cp04 (m_.Rels)) (hp05 : SlR RQeq M w0 Ap05 (m_.Cons).length cp05 (m_.Cons)) (most_ : Int) (r : ((List (List Int)) × Bool × Int)) (hg : solve_All n m_ most_ = some r) :
    Calls Try.prog 9 [.agg #[.int .i64 (m_.Top), .int .i64 (m_.Index), .slice (Ap03) ((m_.Vars).length) (cp03), .slice (Ap04) ((m_.Rels).length) (cp04), .slice (Ap05) ((m_.Cons).length) (cp05)], .int .i64 (most_)].toArray w0 (Ret noB w0 fun v w => ∃ (Aa1 : Option Addr), ∃ (ca1 : Nat), v = .tuple #[.slice (Aa1) ((r.1).length) (ca1), .bool (r.2.1), .int .i64 (r.2.2)] ∧ (SlR (Rep.list (Rep.num .i64)) M w Aa1 (r.1).length ca1 (r.1))) := by
 unfold solve_All at hg
 refine enter M noB Try.func9 rfl rfl hM ?_
 intro a hS
 replace hS := hS.es 101 hp03
 replace hS := hS.es 102 hp04
 replace hS := hS.es 103 hp05
 apply wR
 refine l_seq rfl (l_box (zs := [.int .i64 (m_.Top), .int .i64 (m_.Index), .slice (Ap03) ((m_.Vars).length) (cp03), .slice (Ap04) ((m_.Rels).length) (cp04), .slice (Ap05) ((m_.Cons).length) (cp05)]) hS 1000 rfl rfl rfl rfl ?_); clear hS a; intro b2 a w hb hK hS
 clear hb hK
 refine qq hS rfl (y_assign hS rfl) fun a hS => ?_
 refine qq hS rfl (y_assign hS rfl) fun a hS => ?_
 refine qq hS rfl (y_assign hS rfl) fun a hS => ?_
 apply wN
 apply wp_seq
 apply wR
 refine qq hS rfl (y_move hS rfl) fun a hS => ?_
 refine qq hS rfl (y_lss hS rfl rfl) fun a hS => ?_
 apply wN
 refine c_dec hS rfl (fun hc3 => ?_) (fun hc3 => ?_)
 ·replace hg := br_t hg hc3
  apply wR
  refine qq hS rfl (y_assign hS rfl) fun a hS => ?_
  refine qq hS rfl (y_assign hS rfl) fun a hS => ?_
  refine qq hS rfl (y_assign hS rfl) fun a hS => ?_
  apply wN
  apply wp_ret
  refine p_thenR ?_
  obtain rfl := Option.some.inj hg
  refine fin3 (fn := Try.f9) hS rfl (r_tmp hS rfl) (r_tmp hS rfl) (r_tmp hS rfl) ?_
  exact ⟨(none), (0), rfl, (SlR.nil_ _ _ _)⟩
 ·replace hg := br_f hg hc3
  apply wp_skip
  refine p_norm ?_
  apply wp_seq
  obtain ⟨r4, hr4, hg⟩ := bind_some hg
  apply wp_region_lit
  refine qq hS rfl (y_loadBox (kk := 1000) (n := 5) (vs := [.int .i64 (m_.Top), .int .i64 (m_.Index), .slice (Ap03) ((m_.Vars).length) (cp03), .slice (Ap04) ((m_.Rels).length) (cp04), .slice (Ap05) ((m_.Cons).length) (cp05)]) hS rfl rfl Try.underlying26 rfl rfl rfl rfl) fun a hS => ?_
  refine qq hS rfl (y_move hS rfl) fun a hS => ?_
  refine l_seq rfl (l_call (cap := []) hS rfl Try.func22 rfl (by kernel_rfl) rfl rfl (c_solve_search n _ _ hS.lt m_ (Ap03) (cp03) (Ap04) (cp04) (Ap05) (cp05) (hS.fact (k := 101) rfl) (hS.fact (k := 102) rfl) (hS.fact (k := 103) rfl) most_ r4 hr4) ?_); clear hS a; intro v7 a w hK hp hS
  clear hK
  obtain ⟨Au8a1, cu8a1, rfl, hu8a1⟩ := hp
  replace hS := hS.add 105 (slF (Rep.list (Rep.num .i64)) (Au8a1) ((r4.1).length) (cu8a1) (r4.1)) hu8a1
  refine qq hS rfl (y_extract hS rfl rfl) fun a hS => ?_
  refine qq hS rfl (y_extract hS rfl rfl) fun a hS => ?_
  refine qq hS rfl (y_extract hS rfl rfl) fun a hS => ?_
  refine qq hS rfl (y_assign hS rfl) fun a hS => ?_
  refine qq hS rfl (y_assign hS rfl) fun a hS => ?_
  refine qq hS rfl (y_assign hS rfl) fun a hS => ?_
  apply wN
  apply wp_ret
  obtain rfl := Option.some.inj hg
  refine fin3 (fn := Try.f9) hS rfl (r_tmp hS rfl) (r_tmp hS rfl) (r_tmp hS rfl) ?_
  exact ⟨(Au8a1), (cu8a1), rfl, (hS.out (k := 105) rfl)⟩
set_option maxHeartbeats 400000 in
theorem c_r41_Same (n : Nat) (M : Bs) (w0 : World) (hM : ∀ b, M b → b < w0.heap.size) (a_ : (List Int)) (Ap01 : Option Addr) (cp01 : Nat) (hp01 : SlR (Rep.num .i64) M w0 Ap01 (a_).length cp01 (a_)) (b_ : (List Int)) (Ap11 : Option Addr) (cp11 : Nat) (hp11 : SlR (Rep.num .i64) M w0 Ap11 (b_).length cp11 (b_)) (r : Bool) (hg : r41_Same n a_ b_ = some r) :
    Calls Try.prog 17 [.slice (Ap01) ((a_).length) (cp01), .slice (Ap11) ((b_).length) (cp11)].toArray w0 (Ret noB w0 fun v w => v = .bool (r)) := by
 unfold r41_Same at hg
 refine enter M noB Try.func17 rfl rfl hM ?_
 intro a hS
 replace hS := hS.es 101 hp01
 replace hS := hS.es 102 hp11
 apply wR
 refine qq hS rfl (y_assign hS rfl) fun a hS => ?_
 apply wN
 apply wp_seq
 apply wR
 refine qq hS rfl (y_move hS rfl) fun a hS => ?_
 refine qq hS rfl (y_lenSlice hS rfl Try.underlying33) fun a hS => ?_
 refine qq hS rfl (y_move hS rfl) fun a hS => ?_
 refine qq hS rfl (y_lenSlice hS rfl Try.underlying33) fun a hS => ?_
 refine qq hS rfl (y_neqN (i := ((a_).length)) (j := ((b_).length)) hS rfl rfl) fun a hS => ?_
 apply wN
 refine c_dec hS rfl (fun hc1 => ?_) (fun hc1 => ?_)
 ·replace hg := br_t hg hc1
  apply wR
  refine qq hS rfl (y_assign hS rfl) fun a hS => ?_
  apply wN
  apply wp_ret
  refine p_thenR ?_
  obtain rfl := Option.some.inj hg
  refine fin1 (fn := Try.f17) hS rfl (r_tmp hS rfl) ?_
  exact rfl
 ·replace hg := br_f hg hc1
  apply wp_skip
  refine p_norm ?_
  apply wp_seq
  apply wR
  refine qq hS rfl (y_assign hS rfl) fun a hS => ?_
  apply wN
  apply wp_block
  refine c_loop (σ := Nat) (fun m1 a w => ∃ (i_2 : Nat), r41_Same_L0 n a_ b_ m1 i_2 = some r ∧ St (⟨Try.f17.ntmps, M, noB, w0⟩ : Ctx) [(0, .slice (Ap01) ((a_).length) (cp01)), (1, .slice (Ap11) ((b_).length) (cp11)), (5, .int .i64 (((i_2 : Nat) : Int)))] [] [(101, slF (Rep.num .i64) (Ap01) ((a_).length) (cp01) (a_)), (102, slF (Rep.num .i64) (Ap11) ((b_).length) (cp11) (b_))] a w) (fun m1 => m1) n ⟨(0), hg, (hS.sb rfl rfl rfl)⟩ ?_
  clear hS a; rintro m1 a w ⟨i_2, hg, hS⟩
  rcases m1 with _ | m1
  ·rw [r41_Same_L0] at hg; cases hg
  rw [r41_Same_L0] at hg
  apply wp_seq
  apply wR
  refine qq hS rfl (y_move hS rfl) fun a hS => ?_
  refine qq hS rfl (y_move hS rfl) fun a hS => ?_
  refine qq hS rfl (y_lenSlice hS rfl Try.underlying33) fun a hS => ?_
  refine qq hS rfl (y_lssN (i := i_2) (j := ((a_).length)) hS rfl rfl) fun a hS => ?_
  apply wN
  refine c_dec hS rfl (fun hc3 => ?_) (fun hc3 => ?_)
  ·replace hg := br_t hg hc3
   have hmx4 := SlR.mx (hS.fact (k := 101) rfl)
   apply wp_skip
   refine p_norm ?_
   apply wp_seq
   apply wp_block
   apply wp_seq
   obtain ⟨x6, hx6, hg⟩ := bind_some hg
   obtain ⟨x9, hx9, hg⟩ := bind_some hg
   refine d_plan hS [] [(0, some 0), (1, some 0), (2, some 0), (3, some 0), (4, some 0), (5, some 0), (6, some 0), (7, some 0), (8, some 0)] rfl (by kernel_rfl) (by kernel_rfl) rfl ?_; clear hS; intro wr hZ hS; have hR := hS.wd
   refine q_take hS hR rfl rfl rfl rfl (y_move hS rfl) fun a hS => ?_
   refine q_take hS hR rfl rfl rfl rfl (y_move hS rfl) fun a hS => ?_
   obtain ⟨p11, hep11, hpp11⟩ := SlR.elemX (hS.fact (k := 101) rfl) hx6
   refine q_take hS hR rfl rfl rfl rfl (y_elem (sz := 1) (i := i_2) hS rfl rfl Try.underlying33 rfl hep11 rfl (lt_of_get hx6)) fun a hS => ?_
   obtain ⟨hlq12, hmq12, csq12, hdq12, hcq12⟩ := hpp11
   obtain rfl := hdq12
   refine q_take hS hR rfl rfl rfl rfl (y_ldp1 hS rfl hlq12 hmq12 (hcq12 0 _ rfl) Try.underlying3 rfl) fun a hS => ?_
   refine q_take hS hR rfl rfl rfl rfl (y_move hS rfl) fun a hS => ?_
   refine q_take hS hR rfl rfl rfl rfl (y_move hS rfl) fun a hS => ?_
   obtain ⟨p13, hep13, hpp13⟩ := SlR.elemX (hS.fact (k := 102) rfl) hx9
   refine q_take hS hR rfl rfl rfl rfl (y_elem (sz := 1) (i := i_2) hS rfl rfl Try.underlying33 rfl hep13 rfl (lt_of_get hx9)) fun a hS => ?_
   obtain ⟨hlq14, hmq14, csq14, hdq14, hcq14⟩ := hpp13
   obtain rfl := hdq14
   refine q_take hS hR rfl rfl rfl rfl (y_ldp1 hS rfl hlq14 hmq14 (hcq14 0 _ rfl) Try.underlying3 rfl) fun a hS => ?_
   refine q_take hS hR rfl rfl rfl rfl (y_neq hS rfl rfl) fun a hS => ?_
   clear hR hZ
   refine p_norm ?_
   refine c_dec hS rfl (fun hc15 => ?_) (fun hc15 => ?_)
   ·replace hg := br_t hg hc15
    apply wR
    refine qq hS rfl (y_assign hS rfl) fun a hS => ?_
    apply wN
    apply wp_ret
    refine p_inR ?_
    refine p_thenR ?_
    refine p_thenR ?_
    refine p_inR ?_
    refine p_thenR ?_
    obtain rfl := Option.some.inj hg
    refine fin1 (fn := Try.f17) hS rfl (r_tmp hS rfl) ?_
    exact rfl
   ·replace hg := br_f hg hc15
    apply wp_skip
    refine p_inN ?_
    refine p_norm ?_
    apply wp_region_lit
    refine qq hS rfl (y_move hS rfl) fun a hS => ?_
    refine qq hS rfl (y_addN (i := i_2) (j := 1) hS rfl rfl (in64.2 (by omega))) fun a hS => ?_
    refine qq hS rfl (y_assign hS rfl) fun a hS => ?_
    apply wN
    exact ⟨m1, Nat.lt_succ_self _, ⟨(i_2 + 1), hg, (hS.sb rfl rfl rfl)⟩⟩
  ·replace hg := br_f hg hc3
   apply wp_exit
   refine p_then ?_
   refine p_then ?_
   refine p_in ?_
   refine p_norm ?_
   apply wR
   refine qq hS rfl (y_assign hS rfl) fun a hS => ?_
   apply wN
   apply wp_ret
   obtain rfl := Option.some.inj hg
   refine fin1 (fn := Try.f17) hS rfl (r_tmp hS rfl) ?_
   exact rfl
set_option maxHeartbeats 400000 in
theorem c_r42_Same (n : Nat) (M : Bs) (w0 : World) (hM : ∀ b, M b → b < w0.heap.size) (a_ : (List (List Int))) (Ap01 : Option Addr) (cp01 : Nat) (hp01 : SlR (Rep.list (Rep.num .i64)) M w0 Ap01 (a_).length cp01 (a_)) (b_ : (List (List Int))) (Ap11 : Option Addr) (cp11 : Nat) (hp11 : SlR (Rep.list (Rep.num .i64)) M w0 Ap11 (b_).length cp11 (b_)) (r : Bool) (hg : r42_Same n a_ b_ = some r) :
    Calls Try.prog 14 [.slice (Ap01) ((a_).length) (cp01), .slice (Ap11) ((b_).length) (cp11)].toArray w0 (Ret noB w0 fun v w => v = .bool (r)) := by
 unfold r42_Same at hg
 refine enter M noB Try.func14 rfl rfl hM ?_
 intro a hS
 replace hS := hS.es 101 hp01
 replace hS := hS.es 102 hp11
 apply wR
 refine qq hS rfl (y_assign hS rfl) fun a hS => ?_
 apply wN
 apply wp_seq
 apply wR
 refine qq hS rfl (y_move hS rfl) fun a hS => ?_
 refine qq hS rfl (y_lenSlice hS rfl Try.underlying29) fun a hS => ?_
 refine qq hS rfl (y_move hS rfl) fun a hS => ?_
 refine qq hS rfl (y_lenSlice hS rfl Try.underlying29) fun a hS => ?_
 refine qq hS rfl (y_neqN (i := ((a_).length)) (j := ((b_).length)) hS rfl rfl) fun a hS => ?_
 apply wN
 refine c_dec hS rfl (fun hc1 => ?_) (fun hc1 => ?_)
 ·replace hg := br_t hg hc1
  apply wR
  refine qq hS rfl (y_assign hS rfl) fun a hS => ?_
  apply wN
  apply wp_ret
  refine p_thenR ?_
  obtain rfl := Option.some.inj hg
  refine fin1 (fn := Try.f14) hS rfl (r_tmp hS rfl) ?_
  exact rfl
 ·replace hg := br_f hg hc1
  apply wp_skip
  refine p_norm ?_
  apply wp_seq
  apply wR
  refine qq hS rfl (y_assign hS rfl) fun a hS => ?_
  apply wN
  apply wp_block
  refine c_loop (σ := Nat) (fun m1 a w => ∃ (i_2 : Nat), r42_Same_L0 n a_ b_ m1 i_2 = some r ∧ St (⟨Try.f14.ntmps, M, noB, w0⟩ : Ctx) [(0, .slice (Ap01) ((a_).length) (cp01)), (1, .slice (Ap11) ((b_).length) (cp11)), (5, .int .i64 (((i_2 : Nat) : Int)))] [] [(101, slF (Rep.list (Rep.num .i64)) (Ap01) ((a_).length) (cp01) (a_)), (102, slF (Rep.list (Rep.num .i64)) (Ap11) ((b_).length) (cp11) (b_))] a w) (fun m1 => m1) n ⟨(0), hg, (hS.sb rfl rfl rfl)⟩ ?_
  clear hS a; rintro m1 a w ⟨i_2, hg, hS⟩
  rcases m1 with _ | m1
  ·rw [r42_Same_L0] at hg; cases hg
  rw [r42_Same_L0] at hg
  apply wp_seq
  apply wR
  refine qq hS rfl (y_move hS rfl) fun a hS => ?_
  refine qq hS rfl (y_move hS rfl) fun a hS => ?_
  refine qq hS rfl (y_lenSlice hS rfl Try.underlying29) fun a hS => ?_
  refine qq hS rfl (y_lssN (i := i_2) (j := ((a_).length)) hS rfl rfl) fun a hS => ?_
  apply wN
  refine c_dec hS rfl (fun hc3 => ?_) (fun hc3 => ?_)
  ·replace hg := br_t hg hc3
   have hmx4 := SlR.mx (hS.fact (k := 101) rfl)
   apply wp_skip
   refine p_norm ?_
   apply wp_seq
   apply wp_block
   apply wp_seq
   obtain ⟨x6, hx6, hg⟩ := bind_some hg
   obtain ⟨x9, hx9, hg⟩ := bind_some hg
   obtain ⟨r11, hr11, hg⟩ := bind_some hg
   refine d_plan hS [] [(0, some 0), (1, some 0), (2, some 0), (3, some 0), (4, some 0), (5, some 0), (6, some 0), (7, some 0), (8, none), (9, none)] rfl (by kernel_rfl) (by kernel_rfl) rfl ?_; clear hS; intro wr hZ hS; have hR := hS.wd
   refine q_take hS hR rfl rfl rfl rfl (y_move hS rfl) fun a hS => ?_
   refine q_take hS hR rfl rfl rfl rfl (y_move hS rfl) fun a hS => ?_
   obtain ⟨p14, hep14, hpp14⟩ := SlR.elemX (hS.fact (k := 101) rfl) hx6
   refine q_take hS hR rfl rfl rfl rfl (y_elem (sz := 1) (i := i_2) hS rfl rfl Try.underlying29 rfl hep14 rfl (lt_of_get hx6)) fun a hS => ?_
   obtain ⟨hlq15, hmq15, csq15, hdq15, hcq15⟩ := hpp14
   obtain ⟨Aq151, nnq15, cq151, rfl, hq151⟩ := hdq15
   obtain rfl := hq151.len
   replace hS := hS.add 105 (slF (Rep.num .i64) (Aq151) ((x6).length) (cq151) (x6)) hq151
   refine q_take hS hR rfl rfl rfl rfl (y_ldp1 hS rfl hlq15 hmq15 (hcq15 0 _ rfl) Try.underlying33 rfl) fun a hS => ?_
   refine q_take hS hR rfl rfl rfl rfl (y_move hS rfl) fun a hS => ?_
   refine q_take hS hR rfl rfl rfl rfl (y_move hS rfl) fun a hS => ?_
   obtain ⟨p16, hep16, hpp16⟩ := SlR.elemX (hS.fact (k := 102) rfl) hx9
   refine q_take hS hR rfl rfl rfl rfl (y_elem (sz := 1) (i := i_2) hS rfl rfl Try.underlying29 rfl hep16 rfl (lt_of_get hx9)) fun a hS => ?_
   obtain ⟨hlq17, hmq17, csq17, hdq17, hcq17⟩ := hpp16
   obtain ⟨Aq171, nnq17, cq171, rfl, hq171⟩ := hdq17
   obtain rfl := hq171.len
   replace hS := hS.add 106 (slF (Rep.num .i64) (Aq171) ((x9).length) (cq171) (x9)) hq171
   refine q_take hS hR rfl rfl rfl rfl (y_ldp1 hS rfl hlq17 hmq17 (hcq17 0 _ rfl) Try.underlying33 rfl) fun a hS => ?_
   refine l_take hS rfl rfl (l_call (cap := []) hS rfl Try.func17 rfl (by kernel_rfl) rfl rfl (c_r41_Same n _ _ hS.lt x6 (Aq151) (cq151) (hS.fact (k := 105) rfl) x9 (Aq171) (cq171) (hS.fact (k := 106) rfl) r11 hr11) ?_); clear hS a; intro v18 a w hK hp hS
   replace hZ := Nat.le_trans hZ hK.size; refine ⟨fun g _ h => h.grow hK, ?_⟩; clear hK
   obtain rfl := hp
   refine l_take hS rfl rfl (l_quiet hS rfl rfl (y_not hS rfl) fun a hS => ?_); refine ⟨fun g _ h => h, ?_⟩
   clear hR hZ
   refine p_norm ?_
   refine c_cond hS rfl (fun hc20 => ?_) (fun hc20 => ?_)
   ·replace hg := br_t hg hc20
    apply wR
    refine qq hS rfl (y_assign hS rfl) fun a hS => ?_
    apply wN
    apply wp_ret
    refine p_inR ?_
    refine p_thenR ?_
    refine p_thenR ?_
    refine p_inR ?_
    refine p_thenR ?_
    obtain rfl := Option.some.inj hg
    refine fin1 (fn := Try.f14) hS rfl (r_tmp hS rfl) ?_
    exact rfl
   ·replace hg := br_f hg (by rw [hc20]; exact Bool.false_ne_true)
    apply wp_skip
    refine p_inN ?_
    refine p_norm ?_
    apply wp_region_lit
    refine qq hS rfl (y_move hS rfl) fun a hS => ?_
    refine qq hS rfl (y_addN (i := i_2) (j := 1) hS rfl rfl (in64.2 (by omega))) fun a hS => ?_
    refine qq hS rfl (y_assign hS rfl) fun a hS => ?_
    apply wN
    exact ⟨m1, Nat.lt_succ_self _, ⟨(i_2 + 1), hg, (hS.sb rfl rfl rfl)⟩⟩
  ·replace hg := br_f hg hc3
   apply wp_exit
   refine p_then ?_
   refine p_then ?_
   refine p_in ?_
   refine p_norm ?_
   apply wR
   refine qq hS rfl (y_assign hS rfl) fun a hS => ?_
   apply wN
   apply wp_ret
   obtain rfl := Option.some.inj hg
   refine fin1 (fn := Try.f14) hS rfl (r_tmp hS rfl) ?_
   exact rfl
set_option maxHeartbeats 400000 in
theorem c_solve_First (n : Nat) (M : Bs) (w0 : World) (hM : ∀ b, M b → b < w0.heap.size) (m_ : MRS) (Ap03 : Option Addr) (cp03 : Nat) (Ap04 : Option Addr) (cp04 : Nat) (Ap05 : Option Addr) (cp05 : Nat) (hp03 : SlR Rep.str M w0 Ap03 (m_.Vars).length cp03 (m_.Vars)) (hp04 : SlR REP M w0 Ap04 (m_.Rels).length cp04 (m_.Rels)) (hp05 : SlR RQeq M w0 Ap05 (m_.Cons).length cp05 (m_.Cons)) (r : ((List Int) × Int)) (hg : solve_First n m_ = some r) :
    Calls Try.prog 15 [.agg #[.int .i64 (m_.Top), .int .i64 (m_.Index), .slice (Ap03) ((m_.Vars).length) (cp03), .slice (Ap04) ((m_.Rels).length) (cp04), .slice (Ap05) ((m_.Cons).length) (cp05)]].toArray w0 (Ret noB w0 fun v w => ∃ (Aa1 : Option Addr), ∃ (ca1 : Nat), v = .tuple #[.slice (Aa1) ((r.1).length) (ca1), .int .i64 (r.2)] ∧ (SlR (Rep.num .i64) M w Aa1 (r.1).length ca1 (r.1))) := by
 unfold solve_First at hg
 refine enter M noB Try.func15 rfl rfl hM ?_
 intro a hS
 replace hS := hS.es 101 hp03
 replace hS := hS.es 102 hp04
 replace hS := hS.es 103 hp05
 apply wR
 refine l_seq rfl (l_box (zs := [.int .i64 (m_.Top), .int .i64 (m_.Index), .slice (Ap03) ((m_.Vars).length) (cp03), .slice (Ap04) ((m_.Rels).length) (cp04), .slice (Ap05) ((m_.Cons).length) (cp05)]) hS 1000 rfl rfl rfl rfl ?_); clear hS a; intro b2 a w hb hK hS
 clear hb hK
 refine qq hS rfl (y_assign hS rfl) fun a hS => ?_
 refine qq hS rfl (y_assign hS rfl) fun a hS => ?_
 apply wN
 apply wp_seq
 obtain ⟨r3, hr3, hg⟩ := bind_some hg
 apply wp_region_lit
 refine qq hS rfl (y_loadBox (kk := 1000) (n := 5) (vs := [.int .i64 (m_.Top), .int .i64 (m_.Index), .slice (Ap03) ((m_.Vars).length) (cp03), .slice (Ap04) ((m_.Rels).length) (cp04), .slice (Ap05) ((m_.Cons).length) (cp05)]) hS rfl rfl Try.underlying26 rfl rfl rfl rfl) fun a hS => ?_
 refine l_seq rfl (l_call (cap := []) hS rfl Try.func22 rfl (by kernel_rfl) rfl rfl (c_solve_search n _ _ hS.lt m_ (Ap03) (cp03) (Ap04) (cp04) (Ap05) (cp05) (hS.fact (k := 101) rfl) (hS.fact (k := 102) rfl) (hS.fact (k := 103) rfl) 1 r3 hr3) ?_); clear hS a; intro v6 a w hK hp hS
 clear hK
 obtain ⟨Au7a1, cu7a1, rfl, hu7a1⟩ := hp
 replace hS := hS.add 105 (slF (Rep.list (Rep.num .i64)) (Au7a1) ((r3.1).length) (cu7a1) (r3.1)) hu7a1
 refine qq hS rfl (y_move hS rfl) fun a hS => ?_
 refine qq hS rfl (y_extract hS rfl rfl) fun a hS => ?_
 refine qq hS rfl (y_extract hS rfl rfl) fun a hS => ?_
 refine qq hS rfl (y_extract hS rfl rfl) fun a hS => ?_
 refine qq hS rfl (y_assign hS rfl) fun a hS => ?_
 refine qq hS rfl (y_assign hS rfl) fun a hS => ?_
 refine qq hS rfl (y_assign hS rfl) fun a hS => ?_
 apply wN
 apply wp_seq
 apply wR
 refine qq hS rfl (y_move hS rfl) fun a hS => ?_
 refine qq hS rfl (y_neq hS rfl rfl) fun a hS => ?_
 apply wN
 refine c_dec hS rfl (fun hc8 => ?_) (fun hc8 => ?_)
 ·replace hg := br_t hg hc8
  apply wR
  refine qq hS rfl (y_move hS rfl) fun a hS => ?_
  refine qq hS rfl (y_assign hS rfl) fun a hS => ?_
  refine qq hS rfl (y_assign hS rfl) fun a hS => ?_
  apply wN
  apply wp_ret
  refine p_thenR ?_
  obtain rfl := Option.some.inj hg
  refine fin2 (fn := Try.f15) hS rfl (r_tmp hS rfl) (r_tmp hS rfl) ?_
  exact ⟨(none), (0), rfl, (SlR.nil_ _ _ _)⟩
 ·replace hg := br_f hg hc8
  apply wp_skip
  refine p_norm ?_
  apply wp_seq
  apply wR
  refine qq hS rfl (y_move hS rfl) fun a hS => ?_
  refine qq hS rfl (y_lenSlice hS rfl Try.underlying29) fun a hS => ?_
  refine qq hS rfl (y_eqlN (i := ((r3.1).length)) (j := 0) hS rfl rfl) fun a hS => ?_
  apply wN
  refine c_dec hS rfl (fun hc9 => ?_) (fun hc9 => ?_)
  ·replace hg := br_t hg hc9
   apply wR
   refine qq hS rfl (y_assign hS rfl) fun a hS => ?_
   refine qq hS rfl (y_assign hS rfl) fun a hS => ?_
   apply wN
   apply wp_ret
   refine p_thenR ?_
   obtain rfl := Option.some.inj hg
   refine fin2 (fn := Try.f15) hS rfl (r_tmp hS rfl) (r_tmp hS rfl) ?_
   exact ⟨(none), (0), rfl, (SlR.nil_ _ _ _)⟩
  ·replace hg := br_f hg hc9
   apply wp_skip
   refine p_norm ?_
   apply wp_seq
   obtain ⟨x11, hx11, hg⟩ := bind_some hg
   apply wp_region_lit
   refine qq hS rfl (y_move hS rfl) fun a hS => ?_
   obtain ⟨p13, hep13, hpp13⟩ := SlR.elemX (hS.fact (k := 105) rfl) hx11
   refine qq hS rfl (y_elem (sz := 1) (i := 0) hS rfl rfl Try.underlying29 rfl hep13 rfl (lt_of_get hx11)) fun a hS => ?_
   obtain ⟨hlq14, hmq14, csq14, hdq14, hcq14⟩ := hpp13
   obtain ⟨Aq141, nnq14, cq141, rfl, hq141⟩ := hdq14
   obtain rfl := hq141.len
   replace hS := hS.add 107 (slF (Rep.num .i64) (Aq141) ((x11).length) (cq141) (x11)) hq141
   refine qq hS rfl (y_ldp1 hS rfl hlq14 hmq14 (hcq14 0 _ rfl) Try.underlying33 rfl) fun a hS => ?_
   refine qq hS rfl (y_assign hS rfl) fun a hS => ?_
   refine qq hS rfl (y_assign hS rfl) fun a hS => ?_
   apply wN
   apply wp_ret
   obtain rfl := Option.some.inj hg
   refine fin2 (fn := Try.f15) hS rfl (r_tmp hS rfl) (r_tmp hS rfl) ?_
   exact ⟨(Aq141), (cq141), rfl, (hS.out (k := 107) rfl)⟩
set_option maxHeartbeats 400000 in
theorem c_solve_Count (n : Nat) (M : Bs) (w0 : World) (hM : ∀ b, M b → b < w0.heap.size) (m_ : MRS) (Ap03 : Option Addr) (cp03 : Nat) (Ap04 : Option Addr) (cp04 : Nat) (Ap05 : Option Addr) (cp05 : Nat) (hp03 : SlR Rep.str M w0 Ap03 (m_.Vars).length cp03 (m_.Vars)) (hp04 : SlR REP M w0 Ap04 (m_.Rels).length cp04 (m_.Rels)) (hp05 : SlR RQeq M w0 Ap05 (m_.Cons).length cp05 (m_.Cons)) (r : (Int × Int)) (hg : solve_Count n m_ = some r) :
    Calls Try.prog 16 [.agg #[.int .i64 (m_.Top), .int .i64 (m_.Index), .slice (Ap03) ((m_.Vars).length) (cp03), .slice (Ap04) ((m_.Rels).length) (cp04), .slice (Ap05) ((m_.Cons).length) (cp05)]].toArray w0 (Ret noB w0 fun v w => v = .tuple #[.int .i64 (r.1), .int .i64 (r.2)]) := by
 unfold solve_Count at hg
 refine enter M noB Try.func16 rfl rfl hM ?_
 intro a hS
 replace hS := hS.es 101 hp03
 replace hS := hS.es 102 hp04
 replace hS := hS.es 103 hp05
 apply wR
 refine l_seq rfl (l_box (zs := [.int .i64 (m_.Top), .int .i64 (m_.Index), .slice (Ap03) ((m_.Vars).length) (cp03), .slice (Ap04) ((m_.Rels).length) (cp04), .slice (Ap05) ((m_.Cons).length) (cp05)]) hS 1000 rfl rfl rfl rfl ?_); clear hS a; intro b2 a w hb hK hS
 clear hb hK
 refine qq hS rfl (y_assign hS rfl) fun a hS => ?_
 refine qq hS rfl (y_assign hS rfl) fun a hS => ?_
 apply wN
 apply wp_seq
 obtain ⟨r3, hr3, hg⟩ := bind_some hg
 apply wp_region_lit
 refine qq hS rfl (y_loadBox (kk := 1000) (n := 5) (vs := [.int .i64 (m_.Top), .int .i64 (m_.Index), .slice (Ap03) ((m_.Vars).length) (cp03), .slice (Ap04) ((m_.Rels).length) (cp04), .slice (Ap05) ((m_.Cons).length) (cp05)]) hS rfl rfl Try.underlying26 rfl rfl rfl rfl) fun a hS => ?_
 refine l_seq rfl (l_call (cap := []) hS rfl Try.func22 rfl (by kernel_rfl) rfl rfl (c_solve_search n _ _ hS.lt m_ (Ap03) (cp03) (Ap04) (cp04) (Ap05) (cp05) (hS.fact (k := 101) rfl) (hS.fact (k := 102) rfl) (hS.fact (k := 103) rfl) 0 r3 hr3) ?_); clear hS a; intro v6 a w hK hp hS
 clear hK
 obtain ⟨Au7a1, cu7a1, rfl, hu7a1⟩ := hp
 replace hS := hS.add 105 (slF (Rep.list (Rep.num .i64)) (Au7a1) ((r3.1).length) (cu7a1) (r3.1)) hu7a1
 refine qq hS rfl (y_move hS rfl) fun a hS => ?_
 refine qq hS rfl (y_extract hS rfl rfl) fun a hS => ?_
 refine qq hS rfl (y_extract hS rfl rfl) fun a hS => ?_
 refine qq hS rfl (y_extract hS rfl rfl) fun a hS => ?_
 refine qq hS rfl (y_assign hS rfl) fun a hS => ?_
 refine qq hS rfl (y_assign hS rfl) fun a hS => ?_
 refine qq hS rfl (y_assign hS rfl) fun a hS => ?_
 apply wN
 apply wR
 refine qq hS rfl (y_move hS rfl) fun a hS => ?_
 refine qq hS rfl (y_lenSlice hS rfl Try.underlying29) fun a hS => ?_
 refine qq hS rfl (y_move hS rfl) fun a hS => ?_
 refine qq hS rfl (y_assign hS rfl) fun a hS => ?_
 refine qq hS rfl (y_assign hS rfl) fun a hS => ?_
 apply wN
 apply wp_ret
 obtain rfl := Option.some.inj hg
 refine fin2 (fn := Try.f16) hS rfl (r_tmp hS rfl) (r_tmp hS rfl) ?_
 exact rfl
end Go.Proofs.Ytdicfdfncbmmpaa

/- Chapter 42: the walk of SolveOrders -/
import Derived.Test.YtdicfdfncbmmpaaW4
namespace Go.Proofs.Ytdicfdfncbmmpaa
open Go.Gl Go.RowKit
set_option linter.unusedVariables false
set_option linter.unusedSimpArgs false
set_option maxRecDepth 4000

set_option maxHeartbeats 400000 in
theorem c_law42_SolveOrders (n : Nat) (M : Bs) (w0 : World) (hM : ∀ b, M b → b < w0.heap.size) (t_ : MRS) (Ap03 : Option Addr) (cp03 : Nat) (Ap04 : Option Addr) (cp04 : Nat) (Ap05 : Option Addr) (cp05 : Nat) (hp03 : SlR Rep.str M w0 Ap03 (t_.Vars).length cp03 (t_.Vars)) (hp04 : SlR REP M w0 Ap04 (t_.Rels).length cp04 (t_.Rels)) (hp05 : SlR RQeq M w0 Ap05 (t_.Cons).length cp05 (t_.Cons)) (r : Bool) (hg : law42_SolveOrders n t_ = some r) :
    Calls Try.prog 5 [.agg #[.int .i64 (t_.Top), .int .i64 (t_.Index), .slice (Ap03) ((t_.Vars).length) (cp03), .slice (Ap04) ((t_.Rels).length) (cp04), .slice (Ap05) ((t_.Cons).length) (cp05)]].toArray w0 (Ret noB w0 fun v w => v = .bool (r)) := by
 unfold law42_SolveOrders at hg
 refine enter M noB Try.func5 rfl rfl hM ?_
 intro a hS
 replace hS := hS.es 101 hp03
 replace hS := hS.es 102 hp04
 replace hS := hS.es 103 hp05
 apply wR
 refine l_seq rfl (l_box (zs := [.int .i64 (t_.Top), .int .i64 (t_.Index), .slice (Ap03) ((t_.Vars).length) (cp03), .slice (Ap04) ((t_.Rels).length) (cp04), .slice (Ap05) ((t_.Cons).length) (cp05)]) hS 1000 rfl rfl rfl rfl ?_); clear hS a; intro b2 a w hb hK hS
 clear hb hK
 refine qq hS rfl (y_assign hS rfl) fun a hS => ?_
 apply wN
 apply wp_seq
 apply wp_seq
 obtain ⟨r3, hr3, hg⟩ := bind_some hg
 apply wp_region_lit
 refine qq hS rfl (y_loadBox (kk := 1000) (n := 5) (vs := [.int .i64 (t_.Top), .int .i64 (t_.Index), .slice (Ap03) ((t_.Vars).length) (cp03), .slice (Ap04) ((t_.Rels).length) (cp04), .slice (Ap05) ((t_.Cons).length) (cp05)]) hS rfl rfl Try.underlying26 rfl rfl rfl rfl) fun a hS => ?_
 refine l_seq rfl (l_call (cap := []) hS rfl Try.func7 rfl (by kernel_rfl) rfl rfl (c_law42_valid n _ _ hS.lt t_ (Ap03) (cp03) (Ap04) (cp04) (Ap05) (cp05) (hS.fact (k := 101) rfl) (hS.fact (k := 102) rfl) (hS.fact (k := 103) rfl) r3 hr3) ?_); clear hS a; intro v6 a w hK hp hS
 clear hK
 obtain rfl := hp
 refine qq hS rfl (y_not hS rfl) fun a hS => ?_
 apply wN
 refine c_cond hS rfl (fun hc8 => ?_) (fun hc8 => ?_)
 ·replace hg := br_t hg hc8
  apply wp_seq
  obtain ⟨r9, hr9, hg⟩ := bind_some hg
  apply wp_region_lit
  refine l_seq rfl (l_call (cap := []) hS rfl Try.func8 rfl (by kernel_rfl) rfl rfl (c_law42_exampleHolds n _ _ hS.lt  r9 hr9) ?_); clear hS a; intro v12 a w hK hp hS
  clear hK
  obtain rfl := hp
  refine qq hS rfl (y_assign hS rfl) fun a hS => ?_
  apply wN
  apply wp_ret
  refine p_thenR ?_
  obtain rfl := Option.some.inj hg
  refine fin1 (fn := Try.f5) hS rfl (r_tmp hS rfl) ?_
  exact rfl
 ·replace hg := br_f hg (by rw [hc8]; exact Bool.false_ne_true)
  apply wp_skip
  refine p_norm ?_
  apply wR
  refine qq hS rfl (y_loadBox (kk := 1000) (n := 5) (vs := [.int .i64 (t_.Top), .int .i64 (t_.Index), .slice (Ap03) ((t_.Vars).length) (cp03), .slice (Ap04) ((t_.Rels).length) (cp04), .slice (Ap05) ((t_.Cons).length) (cp05)]) hS rfl rfl Try.underlying26 rfl rfl rfl rfl) fun a hS => ?_
  refine l_seq rfl (l_alloc (zs := [.int .i64 (0), .int .i64 (0), .slice (none) (0) (0), .slice (none) (0) (0), .slice (none) (0) (0)]) hS 1301 rfl rfl rfl rfl ?_); clear hS a; intro b15 a w hb hK hS
  clear hb hK
  refine l_seq rfl (l_store (n := 5) (cs' := [.int .i64 (t_.Top), .int .i64 (t_.Index), .slice (Ap03) ((t_.Vars).length) (cp03), .slice (Ap04) ((t_.Rels).length) (cp04), .slice (Ap05) ((t_.Cons).length) (cp05)]) hS 1301 rfl rfl rfl rfl rfl rfl rfl rfl ?_); clear hS; intro w hK hS; clear hK
  apply wN
  apply wR
  refine qq hS rfl (y_boxField (o' := 4) hS rfl Try.underlying26 rfl rfl rfl) fun a hS => ?_
  refine l_seq rfl (l_store (n := 1) (cs' := [.int .i64 (t_.Top), .int .i64 (t_.Index), .slice (Ap03) ((t_.Vars).length) (cp03), .slice (Ap04) ((t_.Rels).length) (cp04), .slice (none) (0) (0)]) hS 1301 rfl rfl rfl rfl rfl rfl rfl rfl ?_); clear hS; intro w hK hS; clear hK
  apply wN
  apply wp_seq
  apply wR
  refine qq hS rfl (y_boxField (o' := 4) hS rfl Try.underlying26 rfl rfl rfl) fun a hS => ?_
  refine qq hS rfl (y_loadBox1 (kk := 1000) hS rfl rfl rfl Try.underlying24 rfl) fun a hS => ?_
  refine qq hS rfl (y_lenSlice hS rfl Try.underlying24) fun a hS => ?_
  refine qq hS rfl (y_move hS rfl) fun a hS => ?_
  apply wN
  obtain ⟨k16, hg, hk16⟩ := jn_some hg
  refine c_post (fun a w => ∃ (b_17 : (List Qeq)), ∃ (A18 : Option Addr), ∃ (c19 : Nat), ∃ (cs20 : List Value), k16 b_17 = some r ∧ St (⟨Try.f5.ntmps, M, noB, w0⟩ : Ctx) [(1, .pointer (some ⟨b2, 0, none⟩)), (3, .pointer (some ⟨b15, 0, none⟩))] [(1000, Ob.box b2 [.int .i64 (t_.Top), .int .i64 (t_.Index), .slice (Ap03) ((t_.Vars).length) (cp03), .slice (Ap04) ((t_.Rels).length) (cp04), .slice (Ap05) ((t_.Cons).length) (cp05)] 26), (1301, Ob.box b15 [.int .i64 (t_.Top), .int .i64 (t_.Index), .slice (Ap03) ((t_.Vars).length) (cp03), .slice (Ap04) ((t_.Rels).length) (cp04), .slice (A18) ((b_17).length) (c19)] 26), (700104, Ob.row (A18) ((b_17).length) (c19) 45 2 (cs20))] [(101, slF Rep.str (Ap03) ((t_.Vars).length) (cp03) (t_.Vars)), (102, slF REP (Ap04) ((t_.Rels).length) (cp04) (t_.Rels)), (103, slF RQeq (Ap05) ((t_.Cons).length) (cp05) (t_.Cons)), (105, rdF RQeq (cs20) (b_17))] a w) ?_ ?_
  ·apply wp_block
   replace hS := hS.nilRow 700106 45 2 rfl
   replace hS := hS.add 107 (rdF RQeq [] []) (RdAll.nil _ _ _)
   refine c_loop (σ := Nat) (fun m1 a w => ∃ (t_21 : Nat), ∃ (b_22 : (List Qeq)), ∃ (A23 : Option Addr), ∃ (c24 : Nat), ∃ (cs25 : List Value), law42_SolveOrders_L0 n t_ k16 m1 t_21 b_22 = some r ∧ St (⟨Try.f5.ntmps, M, noB, w0⟩ : Ctx) [(1, .pointer (some ⟨b2, 0, none⟩)), (3, .pointer (some ⟨b15, 0, none⟩)), (19, .int .i64 ((((t_.Cons).length : Nat) : Int))), (20, .int .i64 (((t_21 : Nat) : Int)))] [(1000, Ob.box b2 [.int .i64 (t_.Top), .int .i64 (t_.Index), .slice (Ap03) ((t_.Vars).length) (cp03), .slice (Ap04) ((t_.Rels).length) (cp04), .slice (Ap05) ((t_.Cons).length) (cp05)] 26), (1301, Ob.box b15 [.int .i64 (t_.Top), .int .i64 (t_.Index), .slice (Ap03) ((t_.Vars).length) (cp03), .slice (Ap04) ((t_.Rels).length) (cp04), .slice (A23) ((b_22).length) (c24)] 26), (700106, Ob.row (A23) ((b_22).length) (c24) 45 2 (cs25))] [(101, slF Rep.str (Ap03) ((t_.Vars).length) (cp03) (t_.Vars)), (102, slF REP (Ap04) ((t_.Rels).length) (cp04) (t_.Rels)), (103, slF RQeq (Ap05) ((t_.Cons).length) (cp05) (t_.Cons)), (107, rdF RQeq (cs25) (b_22))] a w) (fun m1 => m1) n ⟨(0), ([]), (none), (0), ([]), hg, (hS.sb rfl rfl rfl)⟩ ?_
   clear hS a; rintro m1 a w ⟨t_21, b_22, A23, c24, cs25, hg, hS⟩
   rcases m1 with _ | m1
   ·rw [law42_SolveOrders_L0] at hg; cases hg
   rw [law42_SolveOrders_L0] at hg
   apply wR
   refine qq hS rfl (y_lssN (i := t_21) (j := ((t_.Cons).length)) hS rfl rfl) fun a hS => ?_
   apply wN
   apply wp_seq
   refine c_dec hS rfl (fun hc26 => ?_) (fun hc26 => ?_)
   ·replace hg := br_t hg hc26
    have hmx27 := SlR.mx (hS.fact (k := 103) rfl)
    apply wp_skip
    refine p_norm ?_
    apply wp_seq
    apply wp_block
    apply wR
    refine qq hS rfl (y_move hS rfl) fun a hS => ?_
    refine qq hS rfl (y_assign hS rfl) fun a hS => ?_
    apply wN
    obtain ⟨hk28, hg⟩ := chk_some hg
    obtain ⟨x30, hx30, hg⟩ := bind_some hg
    obtain ⟨hk33, hg⟩ := chk_some hg
    refine d_plan hS [(13, 700106), (15, 1301)] [(0, some 0), (1, some 1301), (2, some 0), (3, some 1000), (4, some 0), (5, some 1000), (6, some 0), (7, some 0), (8, some 0), (9, some 0), (10, some 0), (11, some 0), (12, none), (13, none), (14, none), (15, none)] rfl (by kernel_rfl) (by kernel_rfl) rfl ?_; clear hS; intro wr hZ hS; have hR := hS.wd
    refine q_take hS hR rfl rfl rfl rfl (y_boxField (o' := 4) hS rfl Try.underlying26 rfl rfl rfl) fun a hS => ?_
    refine q_take hS hR rfl rfl rfl rfl (y_loadBox1 (kk := 1301) hS rfl rfl rfl Try.underlying24 rfl) fun a hS => ?_
    refine q_take hS hR rfl rfl rfl rfl (y_boxField (o' := 4) hS rfl Try.underlying26 rfl rfl rfl) fun a hS => ?_
    refine q_take hS hR rfl rfl rfl rfl (y_loadBox1 (kk := 1000) hS rfl rfl rfl Try.underlying24 rfl) fun a hS => ?_
    refine q_take hS hR rfl rfl rfl rfl (y_boxField (o' := 4) hS rfl Try.underlying26 rfl rfl rfl) fun a hS => ?_
    refine q_take hS hR rfl rfl rfl rfl (y_loadBox1 (kk := 1000) hS rfl rfl rfl Try.underlying24 rfl) fun a hS => ?_
    refine q_take hS hR rfl rfl rfl rfl (y_lenSlice hS rfl Try.underlying24) fun a hS => ?_
    have hmx36 := SlR.mx (hS.fact (k := 103) rfl)
    refine q_take hS hR rfl rfl rfl rfl (y_sub hS rfl rfl (in64.2 (by omega))) fun a hS => ?_
    refine q_take hS hR rfl rfl rfl rfl (y_move hS rfl) fun a hS => ?_
    refine q_take hS hR rfl rfl rfl rfl (y_sub hS rfl rfl (in64.2 hk28)) fun a hS => ?_
    obtain ⟨p37, hep37, hpp37⟩ := SlR.elemX (hS.fact (k := 103) rfl) (ix_some hx30).1
    refine q_take hS hR rfl rfl rfl rfl (y_elem (sz := 2) (i := ((((((t_.Cons).length : Nat) : Int) - 1) - ((t_21 : Nat) : Int)).toNat)) hS rfl rfl Try.underlying24 rfl hep37 (ix_some hx30).2.1 (lt_of_get (ix_some hx30).1)) fun a hS => ?_
    obtain ⟨hlq38, hmq38, csq38, hdq38, hcq38⟩ := hpp37
    obtain rfl := RQeq.open hdq38
    refine q_take hS hR rfl rfl rfl rfl (y_ldp hS rfl hlq38 hmq38 (by simpa using hcq38) Try.underlying45 rfl rfl) fun a hS => ?_
    refine l_take hS rfl rfl (l_buildDense (sz := 2) hS 1812 rfl rfl rfl Try.underlying24 rfl rfl rfl rfl rfl rfl rfl ?_); clear hS a; intro b39 a w hbb39 hK hS
    have hNb39 := NewA.lit hZ hbb39
    clear hbb39
    replace hZ := Nat.le_trans hZ hK.size; refine ⟨fun g _ h => h.grow hK, ?_⟩; clear hK
    replace hS := hS.add 110 (rdF RQeq (cellsOfL [.agg #[.int .i64 (x30.High), .int .i64 (x30.Low)]]) ([x30])) (RdAll.cons (by exact (RQeq.mk' (x := x30) )) (RdAll.nil _ _ _))
    have hs41 := row_src (hS.wd.holds 1812 _ rfl) (RdAll.one (hS.fact (k := 110) rfl))
    refine l_take hS rfl rfl (l_append (sz := 2) (by_ := 16) (N := (b_22 ++ [x30]).length) (ys := cs25 ++ (cellsOfL [.agg #[.int .i64 (x30.High), .int .i64 (x30.Low)]])) hS 700106 rfl rfl rfl Try.underlying24 rfl rfl rfl rfl rfl hs41 (by simp) rfl (by have hr := hk33; clear hg; first | omega | (simp only [List.length_append, List.length_cons, List.length_nil] at hr ⊢; omega) | (simp at hr ⊢; omega)) (by have hr := hk33; clear hg; first | omega | (simp only [List.length_append, List.length_cons, List.length_nil] at hr ⊢; omega) | (simp at hr ⊢; omega)) rfl ?_); clear hS a; intro Aq40 cq40 a w hA hK hS
    replace hZ := Nat.le_trans hZ hK.size; refine ⟨fun g hg h => h.obj hR (kk := 700106) rfl hK (by rintro rfl; exact absurd hg (by decide)), ?_⟩
    clear hK hA
    replace hS := hS.add 111 (rdF RQeq (cs25 ++ (cellsOfL [.agg #[.int .i64 (x30.High), .int .i64 (x30.Low)]])) (b_22 ++ [x30])) (RdAll.append (hS.fact (k := 107) rfl) (hS.fact (k := 110) rfl))
    refine l_take hS rfl rfl (l_quiet hS rfl rfl (y_boxField (o' := 4) hS rfl Try.underlying26 rfl rfl rfl) fun a hS => ?_); refine ⟨fun g _ h => h, ?_⟩
    refine l_take hS rfl rfl (l_store (n := 1) (cs' := [.int .i64 (t_.Top), .int .i64 (t_.Index), .slice (Ap03) ((t_.Vars).length) (cp03), .slice (Ap04) ((t_.Rels).length) (cp04), .slice (Aq40) ((b_22 ++ [x30]).length) (cq40)]) hS 1301 rfl rfl rfl rfl rfl rfl rfl rfl ?_); clear hS; intro w hK hS; replace hZ := Nat.le_trans hZ hK.size
    refine ⟨fun g hg h => h.obj hR (kk := 1301) rfl hK (by rintro rfl; exact absurd hg (by decide)), ?_⟩; clear hK
    clear hR hZ
    refine p_inN ?_
    refine p_norm ?_
    apply wp_region_lit
    refine qq hS rfl (y_addN (i := t_21) (j := 1) hS rfl rfl (in64.2 (by omega))) fun a hS => ?_
    refine qq hS rfl (y_move hS rfl) fun a hS => ?_
    apply wN
    replace hS := hS.al 107 111 rfl
    exact ⟨m1, Nat.lt_succ_self _, ⟨(t_21 + 1), (b_22 ++ [x30]), (Aq40), (cq40), (cs25 ++ (cellsOfL [.agg #[.int .i64 (x30.High), .int .i64 (x30.Low)]])), hg, (hS.sb rfl rfl rfl)⟩⟩
   ·replace hg := br_f hg hc26
    apply wp_exit
    refine p_then ?_
    refine p_then ?_
    refine p_in ?_
    refine p_norm ?_
    replace hS := hS.al 105 107 rfl
    replace hS := hS.pk [(1000, 1000), (1301, 1301), (700104, 700106)] (by decide)
    exact ⟨(b_22), (A23), (c24), (cs25), hg, (hS.sb rfl rfl rfl)⟩
  clear hS a; rintro a w ⟨b_17, A18, c19, cs20, hg, hS⟩
  subst hk16
  apply wp_seq
  apply wp_seq
  obtain ⟨r42, hr42, hg⟩ := bind_some hg
  apply wp_region_lit
  refine qq hS rfl (y_loadBox (kk := 1301) (n := 5) (vs := [.int .i64 (t_.Top), .int .i64 (t_.Index), .slice (Ap03) ((t_.Vars).length) (cp03), .slice (Ap04) ((t_.Rels).length) (cp04), .slice (A18) ((b_17).length) (c19)]) hS rfl rfl Try.underlying26 rfl rfl rfl rfl) fun a hS => ?_
  have hT := hS
  replace hT := hT.fz (R := RQeq) (kk := 700104) [1000, 1301] 113 rfl rfl (hT.fact (k := 105) rfl) rfl
  refine l_seq rfl (l_call (cap := []) hS rfl Try.func18 rfl (by kernel_rfl) rfl rfl (c_r39_Check n _ _ hT.lt (MRS.mk t_.Top t_.Index t_.Vars t_.Rels b_17) (Ap03) (cp03) (Ap04) (cp04) (A18) (c19) (hT.fact (k := 101) rfl) (hT.fact (k := 102) rfl) (hT.fact (k := 113) rfl) r42 hr42) ?_); clear hS hT a; intro v45 a w hK hp hS
  clear hK
  obtain rfl := hp
  refine qq hS rfl (y_neq hS rfl rfl) fun a hS => ?_
  apply wN
  refine c_dec hS rfl (fun hc47 => ?_) (fun hc47 => ?_)
  ·replace hg := br_t hg hc47
   apply wp_seq
   obtain ⟨r48, hr48, hg⟩ := bind_some hg
   apply wp_region_lit
   refine l_seq rfl (l_call (cap := []) hS rfl Try.func8 rfl (by kernel_rfl) rfl rfl (c_law42_exampleHolds n _ _ hS.lt  r48 hr48) ?_); clear hS a; intro v51 a w hK hp hS
   clear hK
   obtain rfl := hp
   refine qq hS rfl (y_assign hS rfl) fun a hS => ?_
   apply wN
   apply wp_ret
   refine p_thenR ?_
   obtain rfl := Option.some.inj hg
   refine fin1 (fn := Try.f5) hS rfl (r_tmp hS rfl) ?_
   exact rfl
  ·replace hg := br_f hg hc47
   apply wp_skip
   refine p_norm ?_
   apply wp_seq
   obtain ⟨r53, hr53, hg⟩ := bind_some hg
   apply wp_region_lit
   refine qq hS rfl (y_loadBox (kk := 1000) (n := 5) (vs := [.int .i64 (t_.Top), .int .i64 (t_.Index), .slice (Ap03) ((t_.Vars).length) (cp03), .slice (Ap04) ((t_.Rels).length) (cp04), .slice (Ap05) ((t_.Cons).length) (cp05)]) hS rfl rfl Try.underlying26 rfl rfl rfl rfl) fun a hS => ?_
   refine l_seq rfl (l_call (cap := []) hS rfl Try.func9 rfl (by kernel_rfl) rfl rfl (c_solve_All n _ _ hS.lt t_ (Ap03) (cp03) (Ap04) (cp04) (Ap05) (cp05) (hS.fact (k := 101) rfl) (hS.fact (k := 102) rfl) (hS.fact (k := 103) rfl) 0 r53 hr53) ?_); clear hS a; intro v56 a w hK hp hS
   clear hK
   obtain ⟨Au57a1, cu57a1, rfl, hu57a1⟩ := hp
   replace hS := hS.add 115 (slF (Rep.list (Rep.num .i64)) (Au57a1) ((r53.1).length) (cu57a1) (r53.1)) hu57a1
   refine qq hS rfl (y_move hS rfl) fun a hS => ?_
   refine qq hS rfl (y_extract hS rfl rfl) fun a hS => ?_
   refine qq hS rfl (y_extract hS rfl rfl) fun a hS => ?_
   refine qq hS rfl (y_extract hS rfl rfl) fun a hS => ?_
   refine qq hS rfl (y_assign hS rfl) fun a hS => ?_
   refine qq hS rfl (y_assign hS rfl) fun a hS => ?_
   refine qq hS rfl (y_assign hS rfl) fun a hS => ?_
   apply wN
   apply wp_seq
   obtain ⟨r58, hr58, hg⟩ := bind_some hg
   apply wp_region_lit
   refine qq hS rfl (y_loadBox (kk := 1301) (n := 5) (vs := [.int .i64 (t_.Top), .int .i64 (t_.Index), .slice (Ap03) ((t_.Vars).length) (cp03), .slice (Ap04) ((t_.Rels).length) (cp04), .slice (A18) ((b_17).length) (c19)]) hS rfl rfl Try.underlying26 rfl rfl rfl rfl) fun a hS => ?_
   replace hS := hS.freeze (R := RQeq) (kk := 700104) (L' := [(1000, Ob.box b2 [.int .i64 (t_.Top), .int .i64 (t_.Index), .slice (Ap03) ((t_.Vars).length) (cp03), .slice (Ap04) ((t_.Rels).length) (cp04), .slice (Ap05) ((t_.Cons).length) (cp05)] 26), (1301, Ob.box b15 [.int .i64 (t_.Top), .int .i64 (t_.Index), .slice (Ap03) ((t_.Vars).length) (cp03), .slice (Ap04) ((t_.Rels).length) (cp04), .slice (A18) ((b_17).length) (c19)] 26)]) 118 rfl rfl (hS.fact (k := 105) rfl) ⟨rfl, rfl, trivial⟩ rfl
   refine l_seq rfl (l_call (cap := []) hS rfl Try.func9 rfl (by kernel_rfl) rfl rfl (c_solve_All n _ _ hS.lt (MRS.mk t_.Top t_.Index t_.Vars t_.Rels b_17) (Ap03) (cp03) (Ap04) (cp04) (A18) (c19) (hS.fact (k := 101) rfl) (hS.fact (k := 102) rfl) (hS.fact (k := 118) rfl) 0 r58 hr58) ?_); clear hS a; intro v61 a w hK hp hS
   clear hK
   obtain ⟨Au62a1, cu62a1, rfl, hu62a1⟩ := hp
   replace hS := hS.add 119 (slF (Rep.list (Rep.num .i64)) (Au62a1) ((r58.1).length) (cu62a1) (r58.1)) hu62a1
   refine qq hS rfl (y_move hS rfl) fun a hS => ?_
   refine qq hS rfl (y_extract hS rfl rfl) fun a hS => ?_
   refine qq hS rfl (y_extract hS rfl rfl) fun a hS => ?_
   refine qq hS rfl (y_extract hS rfl rfl) fun a hS => ?_
   refine qq hS rfl (y_assign hS rfl) fun a hS => ?_
   refine qq hS rfl (y_assign hS rfl) fun a hS => ?_
   refine qq hS rfl (y_assign hS rfl) fun a hS => ?_
   apply wN
   apply wp_seq
   rcases Decidable.em (r53.2.2 = r58.2.2) with hs63 | hs63
   ·have hs63e : decide (r53.2.2 = r58.2.2) = true := decide_eq_true hs63
    replace hg := br_t hg hs63
    obtain ⟨r64, hr64, hg⟩ := bind_some hg
    rcases Bool.eq_false_or_eq_true (r64) with hs67 | hs67
    ·replace hg := br_t hg hs67
     obtain ⟨r68, hr68, hg⟩ := bind_some hg
     apply wp_region_lit
     refine qq hS rfl (y_move hS rfl) fun a hS => ?_
     refine qq hS rfl (y_move hS rfl) fun a hS => ?_
     refine qq hS rfl (yl_b (y_eql hS rfl rfl) hs63e) fun a hS => ?_
     refine qq hS rfl (y_move hS rfl) fun a hS => ?_
     refine gy hS rfl (y_move hS rfl) fun a hS => ?_
     refine gy hS rfl (y_move hS rfl) fun a hS => ?_
     refine gl hS rfl (l_call (cap := []) hS rfl Try.func14 rfl (by kernel_rfl) rfl rfl (c_r42_Same n _ _ hS.lt r53.1 (Au57a1) (cu57a1) (hS.fact (k := 115) rfl) r58.1 (Au62a1) (cu62a1) (hS.fact (k := 119) rfl) r64 hr64) ?_); clear hS a; intro v71 a w hK hp hS
     clear hK
     obtain rfl := hp.trans (congrArg Value.bool hs67)
     refine qq hS rfl (y_pick_t hS rfl rfl) fun a hS => ?_
     refine qq hS rfl (y_move hS rfl) fun a hS => ?_
     refine gl hS rfl (l_call (cap := []) hS rfl Try.func8 rfl (by kernel_rfl) rfl rfl (c_law42_exampleHolds n _ _ hS.lt  r68 hr68) ?_); clear hS a; intro v73 a w hK hp hS
     clear hK
     obtain rfl := hp
     refine qq hS rfl (y_pick_t hS rfl rfl) fun a hS => ?_
     refine qq hS rfl (y_assign hS rfl) fun a hS => ?_
     apply wN
     apply wp_ret
     obtain rfl := Option.some.inj hg
     refine fin1 (fn := Try.f5) hS rfl (r_tmp hS rfl) ?_
     exact rfl
    ·replace hg := br_f hg (by rw [hs67]; exact Bool.false_ne_true)
     apply wp_region_lit
     refine qq hS rfl (y_move hS rfl) fun a hS => ?_
     refine qq hS rfl (y_move hS rfl) fun a hS => ?_
     refine qq hS rfl (yl_b (y_eql hS rfl rfl) hs63e) fun a hS => ?_
     refine qq hS rfl (y_move hS rfl) fun a hS => ?_
     refine gy hS rfl (y_move hS rfl) fun a hS => ?_
     refine gy hS rfl (y_move hS rfl) fun a hS => ?_
     refine gl hS rfl (l_call (cap := []) hS rfl Try.func14 rfl (by kernel_rfl) rfl rfl (c_r42_Same n _ _ hS.lt r53.1 (Au57a1) (cu57a1) (hS.fact (k := 115) rfl) r58.1 (Au62a1) (cu62a1) (hS.fact (k := 119) rfl) r64 hr64) ?_); clear hS a; intro v75 a w hK hp hS
     clear hK
     obtain rfl := hp.trans (congrArg Value.bool hs67)
     refine qq hS rfl (y_pick_t hS rfl rfl) fun a hS => ?_
     refine qq hS rfl (y_move hS rfl) fun a hS => ?_
     refine gn hS rfl fun a hS => ?_
     refine qq hS rfl (y_pick_f hS rfl rfl) fun a hS => ?_
     refine qq hS rfl (y_assign hS rfl) fun a hS => ?_
     apply wN
     apply wp_ret
     obtain rfl := Option.some.inj hg
     refine fin1 (fn := Try.f5) hS rfl (r_tmp hS rfl) ?_
     exact rfl
   ·have hs63e : decide (r53.2.2 = r58.2.2) = false := decide_eq_false hs63
    replace hg := br_f hg hs63
    apply wp_region_lit
    refine qq hS rfl (y_move hS rfl) fun a hS => ?_
    refine qq hS rfl (y_move hS rfl) fun a hS => ?_
    refine qq hS rfl (yl_b (y_eql hS rfl rfl) hs63e) fun a hS => ?_
    refine qq hS rfl (y_move hS rfl) fun a hS => ?_
    refine gn hS rfl fun a hS => ?_
    refine gn hS rfl fun a hS => ?_
    refine gn hS rfl fun a hS => ?_
    refine qq hS rfl (y_pick_f hS rfl rfl) fun a hS => ?_
    refine qq hS rfl (y_move hS rfl) fun a hS => ?_
    refine gn hS rfl fun a hS => ?_
    refine qq hS rfl (y_pick_f hS rfl rfl) fun a hS => ?_
    refine qq hS rfl (y_assign hS rfl) fun a hS => ?_
    apply wN
    apply wp_ret
    obtain rfl := Option.some.inj hg
    refine fin1 (fn := Try.f5) hS rfl (r_tmp hS rfl) ?_
    exact rfl
end Go.Proofs.Ytdicfdfncbmmpaa

/- Chapter 42: the walks, part 4 -/
import Derived.Test.YtdicfdfncbmmpaaW3
namespace Go.Proofs.Ytdicfdfncbmmpaa
open Go.Gl Go.RowKit
set_option linter.unusedVariables false
set_option linter.unusedSimpArgs false
set_option maxRecDepth 4000

set_option maxHeartbeats 400000 in
theorem c_r39_numbers (n : Nat) (M : Bs) (w0 : World) (hM : ∀ b, M b → b < w0.heap.size) (t_ : reader) (Ap04 : Option Addr) (cp04 : Nat) (Ap05 : Option Addr) (cp05 : Nat) (lp01 : (t_.s_).length ≤ 9223372036854775807) (hp04 : SlR Rep.str M w0 Ap04 (t_.sorts_).length cp04 (t_.sorts_)) (hp05 : SlR Rep.str M w0 Ap05 (t_.texts_).length cp05 (t_.texts_)) (r : ((List Int) × (List (List UInt8)) × Int)) (hg : r39_numbers n t_ = some r) :
    Calls Try.prog 40 [.agg #[.string (bs (t_.s_)), .int .i64 (t_.at_), .int .i64 (t_.e_), .slice (Ap04) ((t_.sorts_).length) (cp04), .slice (Ap05) ((t_.texts_).length) (cp05)]].toArray w0 (Ret noB w0 fun v w => ∃ (Aa1 : Option Addr), ∃ (ca1 : Nat), ∃ (Ab1 : Option Addr), ∃ (cb1 : Nat), v = .tuple #[.slice (Aa1) ((r.1).length) (ca1), .slice (Ab1) ((r.2.1).length) (cb1), .int .i64 (r.2.2)] ∧ (SlR (Rep.num .i64) M w Aa1 (r.1).length ca1 (r.1)) ∧ (SlR Rep.str M w Ab1 (r.2.1).length cb1 (r.2.1))) := by
 unfold r39_numbers at hg
 refine enter M noB Try.func40 rfl rfl hM ?_
 intro a hS
 replace hS := hS.es 101 hp04
 replace hS := hS.es 102 hp05
 apply wR
 refine l_seq rfl (l_box (zs := [.string (bs (t_.s_)), .int .i64 (t_.at_), .int .i64 (t_.e_), .slice (Ap04) ((t_.sorts_).length) (cp04), .slice (Ap05) ((t_.texts_).length) (cp05)]) hS 1000 rfl rfl rfl rfl ?_); clear hS a; intro b2 a w hb hK hS
 clear hb hK
 refine qq hS rfl (y_assign hS rfl) fun a hS => ?_
 refine qq hS rfl (y_assign hS rfl) fun a hS => ?_
 refine qq hS rfl (y_assign hS rfl) fun a hS => ?_
 apply wN
 apply wR
 refine l_seq rfl (l_buildEmpty (sz := 1) hS 1100 Try.underlying33 rfl rfl rfl ?_); clear hS a; intro b4 a w hbb4 hK hS
 clear hbb4 hK
 refine qq hS rfl (y_assign hS rfl) fun a hS => ?_
 apply wN
 apply wR
 refine qq hS rfl (y_assign hS rfl) fun a hS => ?_
 apply wN
 apply wp_seq
 apply wR
 refine qq hS rfl (y_assign hS rfl) fun a hS => ?_
 apply wN
 obtain ⟨k5, hg, hk5⟩ := jn_some hg
 refine c_post (fun a w => ∃ (t_6 : (List Int)), ∃ (t_10 : Int), ∃ (A7 : Option Addr), ∃ (c8 : Nat), ∃ (cs9 : List Value), k5 t_6 t_10 = some r ∧ St (⟨Try.f40.ntmps, M, noB, w0⟩ : Ctx) [(1, .pointer (some ⟨b2, 0, none⟩)), (5, .slice (A7) ((t_6).length) (c8)), (6, .int .i64 (t_10))] [(1000, Ob.box b2 [.string (bs (t_.s_)), .int .i64 (t_.at_), .int .i64 (t_.e_), .slice (Ap04) ((t_.sorts_).length) (cp04), .slice (Ap05) ((t_.texts_).length) (cp05)] 64), (700103, Ob.row (A7) ((t_6).length) (c8) 3 1 (cs9))] [(101, slF Rep.str (Ap04) ((t_.sorts_).length) (cp04) (t_.sorts_)), (102, slF Rep.str (Ap05) ((t_.texts_).length) (cp05) (t_.texts_)), (104, rdF (Rep.num .i64) (cs9) (t_6))] a w) ?_ ?_
 ·apply wp_block
  replace hS := hS.add 107 (rdF (Rep.num .i64) ([]) ([])) (RdAll.nil _ _ _)
  replace hS := hS.al 106 107 rfl
  replace hS := hS.pk [(1000, 1000), (700105, 1100)] (by decide)
  refine c_loop (σ := Nat) (fun m1 a w => ∃ (t_11 : (List Int)), ∃ (t_15 : Int), ∃ (t_16 : Nat), ∃ (A12 : Option Addr), ∃ (c13 : Nat), ∃ (cs14 : List Value), r39_numbers_L0 n t_ k5 m1 t_11 t_15 t_16 = some r ∧ St (⟨Try.f40.ntmps, M, noB, w0⟩ : Ctx) [(1, .pointer (some ⟨b2, 0, none⟩)), (5, .slice (A12) ((t_11).length) (c13)), (6, .int .i64 (t_15)), (7, .int .i64 (((t_16 : Nat) : Int)))] [(1000, Ob.box b2 [.string (bs (t_.s_)), .int .i64 (t_.at_), .int .i64 (t_.e_), .slice (Ap04) ((t_.sorts_).length) (cp04), .slice (Ap05) ((t_.texts_).length) (cp05)] 64), (700105, Ob.row (A12) ((t_11).length) (c13) 3 1 (cs14))] [(101, slF Rep.str (Ap04) ((t_.sorts_).length) (cp04) (t_.sorts_)), (102, slF Rep.str (Ap05) ((t_.texts_).length) (cp05) (t_.texts_)), (106, rdF (Rep.num .i64) (cs14) (t_11))] a w) (fun m1 => m1) n ⟨([]), (-1), (0), (some ⟨b4, 0, none⟩), (0), ([]), hg, (hS.sb rfl rfl rfl)⟩ ?_
  clear hS a; rintro m1 a w ⟨t_11, t_15, t_16, A12, c13, cs14, hg, hS⟩
  rcases m1 with _ | m1
  ·rw [r39_numbers_L0] at hg; cases hg
  rw [r39_numbers_L0] at hg
  apply wp_seq
  apply wR
  refine qq hS rfl (y_move hS rfl) fun a hS => ?_
  refine qq hS rfl (y_boxField (o' := 4) hS rfl Try.underlying64 rfl rfl rfl) fun a hS => ?_
  refine qq hS rfl (y_loadBox1 (kk := 1000) hS rfl rfl rfl Try.underlying22 rfl) fun a hS => ?_
  refine qq hS rfl (y_lenSlice hS rfl Try.underlying22) fun a hS => ?_
  refine qq hS rfl (y_lssN (i := t_16) (j := ((t_.texts_).length)) hS rfl rfl) fun a hS => ?_
  apply wN
  refine c_dec hS rfl (fun hc17 => ?_) (fun hc17 => ?_)
  ·replace hg := br_t hg hc17
   have hmx18 := SlR.mx (hS.fact (k := 102) rfl)
   apply wp_skip
   refine p_norm ?_
   apply wp_seq
   apply wp_block
   apply wp_seq
   obtain ⟨x20, hx20, hg⟩ := bind_some hg
   obtain ⟨r22, hr22, hg⟩ := bind_some hg
   apply wp_region_lit
   refine qq hS rfl (y_boxField (o' := 4) hS rfl Try.underlying64 rfl rfl rfl) fun a hS => ?_
   refine qq hS rfl (y_loadBox1 (kk := 1000) hS rfl rfl rfl Try.underlying22 rfl) fun a hS => ?_
   refine qq hS rfl (y_move hS rfl) fun a hS => ?_
   obtain ⟨p25, hep25, hpp25⟩ := SlR.elemX (hS.fact (k := 102) rfl) hx20
   refine qq hS rfl (y_elem (sz := 1) (i := t_16) hS rfl rfl Try.underlying22 rfl hep25 rfl (lt_of_get hx20)) fun a hS => ?_
   obtain ⟨hlq26, hmq26, csq26, hdq26, hcq26⟩ := hpp25
   obtain ⟨rfl, lq261⟩ := hdq26
   refine qq hS rfl (y_ldp1 hS rfl hlq26 hmq26 (hcq26 0 _ rfl) Try.underlying9 rfl) fun a hS => ?_
   refine l_seq rfl (l_call (cap := []) hS rfl Try.func61 rfl (by kernel_rfl) rfl rfl (c_r01_Number n _ _ hS.lt x20 (by omega) r22 hr22) ?_); clear hS a; intro v27 a w hK hp hS
   clear hK
   obtain rfl := hp
   refine qq hS rfl (y_move hS rfl) fun a hS => ?_
   refine qq hS rfl (y_extract hS rfl rfl) fun a hS => ?_
   refine qq hS rfl (y_extract hS rfl rfl) fun a hS => ?_
   refine qq hS rfl (y_assign hS rfl) fun a hS => ?_
   refine qq hS rfl (y_assign hS rfl) fun a hS => ?_
   apply wN
   apply wp_seq
   apply wR
   refine qq hS rfl (y_move hS rfl) fun a hS => ?_
   refine qq hS rfl (y_neq hS rfl rfl) fun a hS => ?_
   apply wN
   refine c_dec hS rfl (fun hc29 => ?_) (fun hc29 => ?_)
   ·replace hg := br_t hg hc29
    apply wR
    refine qq hS rfl (y_assign hS rfl) fun a hS => ?_
    refine qq hS rfl (y_assign hS rfl) fun a hS => ?_
    refine qq hS rfl (y_assign hS rfl) fun a hS => ?_
    apply wN
    apply wp_ret
    refine p_thenR ?_
    refine p_inR ?_
    refine p_thenR ?_
    refine p_thenR ?_
    refine p_inR ?_
    refine p_thenR ?_
    obtain rfl := Option.some.inj hg
    refine fin3 (fn := Try.f40) hS rfl (r_tmp hS rfl) (r_tmp hS rfl) (r_tmp hS rfl) ?_
    exact ⟨(none), (0), (none), (0), rfl, (SlR.nil_ _ _ _), (SlR.nil_ _ _ _)⟩
   ·replace hg := br_f hg hc29
    apply wp_skip
    refine p_norm ?_
    apply wp_seq
    obtain ⟨hk31, hg⟩ := chk_some hg
    apply wp_region_lit
    refine qq hS rfl (y_move hS rfl) fun a hS => ?_
    refine qq hS rfl (y_move hS rfl) fun a hS => ?_
    refine l_seq rfl (l_buildDense (sz := 1) hS 1902 rfl rfl rfl Try.underlying33 rfl rfl rfl rfl rfl rfl rfl ?_); clear hS a; intro b34 a w hbb34 hK hS
    clear hbb34 hK
    replace hS := hS.add 110 (rdF (Rep.num .i64) (cellsOfL [.int .i64 (r22.1)]) ([r22.1])) (RdAll.cons (by exact rfl) (RdAll.nil _ _ _))
    have hs36 := row_src (hS.wd.holds 1902 _ rfl) (RdAll.one (hS.fact (k := 110) rfl))
    refine l_seq rfl (l_append (sz := 1) (by_ := 8) (N := (t_11 ++ [r22.1]).length) (ys := cs14 ++ (cellsOfL [.int .i64 (r22.1)])) hS 700105 rfl rfl rfl Try.underlying33 rfl rfl rfl rfl rfl hs36 (by simp) rfl (by have hr := hk31; clear hg; first | omega | (simp only [List.length_append, List.length_cons, List.length_nil] at hr ⊢; omega) | (simp at hr ⊢; omega)) (by have hr := hk31; clear hg; first | omega | (simp only [List.length_append, List.length_cons, List.length_nil] at hr ⊢; omega) | (simp at hr ⊢; omega)) rfl ?_); clear hS a; intro Aq35 cq35 a w hA hK hS
    clear hK hA
    replace hS := hS.add 111 (rdF (Rep.num .i64) (cs14 ++ (cellsOfL [.int .i64 (r22.1)])) (t_11 ++ [r22.1])) (RdAll.append (hS.fact (k := 106) rfl) (hS.fact (k := 110) rfl))
    refine qq hS rfl (y_assign hS rfl) fun a hS => ?_
    apply wN
    apply wp_region_lit
    refine qq hS rfl (y_move hS rfl) fun a hS => ?_
    refine qq hS rfl (y_move hS rfl) fun a hS => ?_
    refine qq hS rfl (y_max hS rfl rfl) fun a hS => ?_
    refine qq hS rfl (y_assign hS rfl) fun a hS => ?_
    apply wpList_nil
    refine p_inN ?_
    refine p_norm ?_
    apply wp_region_lit
    refine qq hS rfl (y_move hS rfl) fun a hS => ?_
    refine qq hS rfl (y_addN (i := t_16) (j := 1) hS rfl rfl (in64.2 (by omega))) fun a hS => ?_
    refine qq hS rfl (y_assign hS rfl) fun a hS => ?_
    apply wN
    replace hS := hS.al 106 111 rfl
    exact ⟨m1, Nat.lt_succ_self _, ⟨(t_11 ++ [r22.1]), (if t_15 < r22.1 then r22.1 else t_15), (t_16 + 1), (Aq35), (cq35), (cs14 ++ (cellsOfL [.int .i64 (r22.1)])), hg, (hS.sb rfl rfl rfl)⟩⟩
  ·replace hg := br_f hg hc17
   apply wp_exit
   refine p_then ?_
   refine p_then ?_
   refine p_in ?_
   refine p_norm ?_
   replace hS := hS.al 104 106 rfl
   replace hS := hS.pk [(1000, 1000), (700103, 700105)] (by decide)
   exact ⟨(t_11), (t_15), (A12), (c13), (cs14), hg, (hS.sb rfl rfl rfl)⟩
 clear hS a; rintro a w ⟨t_6, t_10, A7, c8, cs9, hg, hS⟩
 subst hk5
 apply wp_seq
 apply wR
 refine qq hS rfl (y_assign hS rfl) fun a hS => ?_
 apply wN
 obtain ⟨k37, hg, hk37⟩ := jn_some hg
 refine c_post (fun a w => k37 = some r ∧ St (⟨Try.f40.ntmps, M, noB, w0⟩ : Ctx) [(1, .pointer (some ⟨b2, 0, none⟩)), (5, .slice (A7) ((t_6).length) (c8)), (6, .int .i64 (t_10))] [(1000, Ob.box b2 [.string (bs (t_.s_)), .int .i64 (t_.at_), .int .i64 (t_.e_), .slice (Ap04) ((t_.sorts_).length) (cp04), .slice (Ap05) ((t_.texts_).length) (cp05)] 64), (700103, Ob.row (A7) ((t_6).length) (c8) 3 1 (cs9))] [(101, slF Rep.str (Ap04) ((t_.sorts_).length) (cp04) (t_.sorts_)), (102, slF Rep.str (Ap05) ((t_.texts_).length) (cp05) (t_.texts_)), (104, rdF (Rep.num .i64) (cs9) (t_6))] a w) ?_ ?_
 ·apply wp_block
  refine c_loop (σ := Nat) (fun m2 a w => ∃ (t_38 : Nat), r39_numbers_L1 n t_ t_6 k37 m2 t_38 = some r ∧ St (⟨Try.f40.ntmps, M, noB, w0⟩ : Ctx) [(1, .pointer (some ⟨b2, 0, none⟩)), (5, .slice (A7) ((t_6).length) (c8)), (6, .int .i64 (t_10)), (10, .int .i64 (((t_38 : Nat) : Int)))] [(1000, Ob.box b2 [.string (bs (t_.s_)), .int .i64 (t_.at_), .int .i64 (t_.e_), .slice (Ap04) ((t_.sorts_).length) (cp04), .slice (Ap05) ((t_.texts_).length) (cp05)] 64), (700103, Ob.row (A7) ((t_6).length) (c8) 3 1 (cs9))] [(101, slF Rep.str (Ap04) ((t_.sorts_).length) (cp04) (t_.sorts_)), (102, slF Rep.str (Ap05) ((t_.texts_).length) (cp05) (t_.texts_)), (104, rdF (Rep.num .i64) (cs9) (t_6))] a w) (fun m2 => m2) n ⟨(0), hg, (hS.sb rfl rfl rfl)⟩ ?_
  clear hS a; rintro m2 a w ⟨t_38, hg, hS⟩
  rcases m2 with _ | m2
  ·rw [r39_numbers_L1] at hg; cases hg
  rw [r39_numbers_L1] at hg
  apply wp_seq
  apply wR
  refine qq hS rfl (y_move hS rfl) fun a hS => ?_
  refine qq hS rfl (y_move hS rfl) fun a hS => ?_
  refine qq hS rfl (y_lenSlice hS rfl Try.underlying33) fun a hS => ?_
  refine qq hS rfl (y_lssN (i := t_38) (j := ((t_6).length)) hS rfl rfl) fun a hS => ?_
  apply wN
  refine c_dec hS rfl (fun hc39 => ?_) (fun hc39 => ?_)
  ·replace hg := br_t hg hc39
   have hmx40 := row_mx (hS.wd.holds 700103 _ rfl)
   apply wp_skip
   refine p_norm ?_
   apply wp_seq
   obtain ⟨k41, hg, hk41⟩ := jn_some hg
   refine c_post (fun a w => k41 = some r ∧ St (⟨Try.f40.ntmps, M, noB, w0⟩ : Ctx) [(1, .pointer (some ⟨b2, 0, none⟩)), (5, .slice (A7) ((t_6).length) (c8)), (6, .int .i64 (t_10)), (10, .int .i64 (((t_38 : Nat) : Int)))] [(1000, Ob.box b2 [.string (bs (t_.s_)), .int .i64 (t_.at_), .int .i64 (t_.e_), .slice (Ap04) ((t_.sorts_).length) (cp04), .slice (Ap05) ((t_.texts_).length) (cp05)] 64), (700103, Ob.row (A7) ((t_6).length) (c8) 3 1 (cs9))] [(101, slF Rep.str (Ap04) ((t_.sorts_).length) (cp04) (t_.sorts_)), (102, slF Rep.str (Ap05) ((t_.texts_).length) (cp05) (t_.texts_)), (104, rdF (Rep.num .i64) (cs9) (t_6))] a w) ?_ ?_
   ·apply wp_block
    apply wR
    refine qq hS rfl (y_assign hS rfl) fun a hS => ?_
    apply wN
    apply wp_block
    refine c_loop (σ := Nat) (fun m3 a w => ∃ (t_42 : Nat), r39_numbers_L2 n t_ t_6 t_38 k41 m3 t_42 = some r ∧ St (⟨Try.f40.ntmps, M, noB, w0⟩ : Ctx) [(1, .pointer (some ⟨b2, 0, none⟩)), (5, .slice (A7) ((t_6).length) (c8)), (6, .int .i64 (t_10)), (10, .int .i64 (((t_38 : Nat) : Int))), (11, .int .i64 (((t_42 : Nat) : Int)))] [(1000, Ob.box b2 [.string (bs (t_.s_)), .int .i64 (t_.at_), .int .i64 (t_.e_), .slice (Ap04) ((t_.sorts_).length) (cp04), .slice (Ap05) ((t_.texts_).length) (cp05)] 64), (700103, Ob.row (A7) ((t_6).length) (c8) 3 1 (cs9))] [(101, slF Rep.str (Ap04) ((t_.sorts_).length) (cp04) (t_.sorts_)), (102, slF Rep.str (Ap05) ((t_.texts_).length) (cp05) (t_.texts_)), (104, rdF (Rep.num .i64) (cs9) (t_6))] a w) (fun m3 => m3) n ⟨(0), hg, (hS.sb rfl rfl rfl)⟩ ?_
    clear hS a; rintro m3 a w ⟨t_42, hg, hS⟩
    rcases m3 with _ | m3
    ·rw [r39_numbers_L2] at hg; cases hg
    rw [r39_numbers_L2] at hg
    apply wp_seq
    apply wR
    refine qq hS rfl (y_move hS rfl) fun a hS => ?_
    refine qq hS rfl (y_move hS rfl) fun a hS => ?_
    refine qq hS rfl (y_lssN (i := t_42) (j := t_38) hS rfl rfl) fun a hS => ?_
    apply wN
    refine c_dec hS rfl (fun hc43 => ?_) (fun hc43 => ?_)
    ·replace hg := br_t hg hc43
     apply wp_skip
     refine p_norm ?_
     apply wp_seq
     apply wp_block
     apply wp_seq
     obtain ⟨k44, hg, hk44⟩ := jn_some hg
     refine c_post (fun a w => ∃ (t_45 : Bool), k44 t_45 = some r ∧ St (⟨Try.f40.ntmps, M, noB, w0⟩ : Ctx) [(1, .pointer (some ⟨b2, 0, none⟩)), (5, .slice (A7) ((t_6).length) (c8)), (6, .int .i64 (t_10)), (10, .int .i64 (((t_38 : Nat) : Int))), (11, .int .i64 (((t_42 : Nat) : Int))), (73, .bool (t_45))] [(1000, Ob.box b2 [.string (bs (t_.s_)), .int .i64 (t_.at_), .int .i64 (t_.e_), .slice (Ap04) ((t_.sorts_).length) (cp04), .slice (Ap05) ((t_.texts_).length) (cp05)] 64), (700103, Ob.row (A7) ((t_6).length) (c8) 3 1 (cs9))] [(101, slF Rep.str (Ap04) ((t_.sorts_).length) (cp04) (t_.sorts_)), (102, slF Rep.str (Ap05) ((t_.texts_).length) (cp05) (t_.texts_)), (104, rdF (Rep.num .i64) (cs9) (t_6))] a w) ?_ ?_
     ·obtain ⟨x47, hx47, hg⟩ := bind_some hg
      obtain ⟨x50, hx50, hg⟩ := bind_some hg
      rcases Decidable.em (x47 = x50) with hs52 | hs52
      ·have hs52e : decide (x47 = x50) = true := decide_eq_true hs52
       replace hg := br_t hg hs52
       obtain ⟨x54, hx54, hg⟩ := bind_some hg
       obtain ⟨x57, hx57, hg⟩ := bind_some hg
       refine d_plan hS [] [(0, some 0), (1, some 0), (2, some 0), (3, some 700103), (4, some 0), (5, some 0), (6, some 0), (7, some 700103), (8, some 0), (9, some 0), (10, some 0), (11, some 1000), (12, some 0), (13, some 0), (14, some 0), (15, some 0), (16, some 1000), (17, some 0), (18, some 0), (19, some 0), (20, some 0), (21, some 0)] rfl (by kernel_rfl) (by kernel_rfl) rfl ?_; clear hS; intro wr hZ hS; have hR := hS.wd
       refine q_take hS hR rfl rfl rfl rfl (y_move hS rfl) fun a hS => ?_
       refine q_take hS hR rfl rfl rfl rfl (y_move hS rfl) fun a hS => ?_
       obtain ⟨hiq59, bq59, hAq59⟩ := SlR.row1 (hS.wd.holds 700103 _ rfl) (hS.fact (k := 104) rfl) rfl rfl hx47
       refine q_take hS hR rfl rfl rfl rfl (y_rowIndex (sz := 1) (i := t_42) hS rfl rfl Try.underlying33 rfl hAq59 rfl hiq59) fun a hS => ?_
       have hz60 := (hS.fact (k := 104) rfl).at_ _ _ hx47
       have ez60 := hz60
       refine q_take hS hR rfl rfl rfl rfl (y_loadRow1 (kk := 700103) hS rfl rfl hAq59 (take1 ez60) Try.underlying3 rfl) fun a hS => ?_
       refine q_take hS hR rfl rfl rfl rfl (y_move hS rfl) fun a hS => ?_
       refine q_take hS hR rfl rfl rfl rfl (y_move hS rfl) fun a hS => ?_
       obtain ⟨hiq61, bq61, hAq61⟩ := SlR.row1 (hS.wd.holds 700103 _ rfl) (hS.fact (k := 104) rfl) rfl rfl hx50
       refine q_take hS hR rfl rfl rfl rfl (y_rowIndex (sz := 1) (i := t_38) hS rfl rfl Try.underlying33 rfl hAq61 rfl hiq61) fun a hS => ?_
       have hz62 := (hS.fact (k := 104) rfl).at_ _ _ hx50
       have ez62 := hz62
       refine q_take hS hR rfl rfl rfl rfl (y_loadRow1 (kk := 700103) hS rfl rfl hAq61 (take1 ez62) Try.underlying3 rfl) fun a hS => ?_
       refine q_take hS hR rfl rfl rfl rfl (yl_b (y_eql hS rfl rfl) hs52e) fun a hS => ?_
       refine q_take hS hR rfl rfl rfl rfl (y_move hS rfl) fun a hS => ?_
       refine q_take hS hR rfl rfl ⟨_, _, _, rfl, rfl, rfl, rfl⟩ rfl (y_boxField (o' := 3) hS rfl Try.underlying64 rfl rfl rfl) fun a hS => ?_
       refine q_take hS hR rfl rfl ⟨_, _, _, rfl, rfl, rfl, rfl⟩ rfl (y_loadBox1 (kk := 1000) hS rfl rfl rfl Try.underlying22 rfl) fun a hS => ?_
       refine q_take hS hR rfl rfl ⟨_, _, _, rfl, rfl, rfl, rfl⟩ rfl (y_move hS rfl) fun a hS => ?_
       obtain ⟨p63, hep63, hpp63⟩ := SlR.elemX (hS.fact (k := 101) rfl) hx54
       refine q_take hS hR rfl rfl ⟨_, _, _, rfl, rfl, rfl, rfl⟩ rfl (y_elem (sz := 1) (i := t_42) hS rfl rfl Try.underlying22 rfl hep63 rfl (lt_of_get hx54)) fun a hS => ?_
       obtain ⟨hlq64, hmq64, csq64, hdq64, hcq64⟩ := hpp63
       obtain ⟨rfl, lq641⟩ := hdq64
       refine q_take hS hR rfl rfl ⟨_, _, _, rfl, rfl, rfl, rfl⟩ rfl (y_ldp1 hS rfl hlq64 hmq64 (hcq64 0 _ rfl) Try.underlying9 rfl) fun a hS => ?_
       refine q_take hS hR rfl rfl ⟨_, _, _, rfl, rfl, rfl, rfl⟩ rfl (y_boxField (o' := 3) hS rfl Try.underlying64 rfl rfl rfl) fun a hS => ?_
       refine q_take hS hR rfl rfl ⟨_, _, _, rfl, rfl, rfl, rfl⟩ rfl (y_loadBox1 (kk := 1000) hS rfl rfl rfl Try.underlying22 rfl) fun a hS => ?_
       refine q_take hS hR rfl rfl ⟨_, _, _, rfl, rfl, rfl, rfl⟩ rfl (y_move hS rfl) fun a hS => ?_
       obtain ⟨p65, hep65, hpp65⟩ := SlR.elemX (hS.fact (k := 101) rfl) hx57
       refine q_take hS hR rfl rfl ⟨_, _, _, rfl, rfl, rfl, rfl⟩ rfl (y_elem (sz := 1) (i := t_38) hS rfl rfl Try.underlying22 rfl hep65 rfl (lt_of_get hx57)) fun a hS => ?_
       obtain ⟨hlq66, hmq66, csq66, hdq66, hcq66⟩ := hpp65
       obtain ⟨rfl, lq661⟩ := hdq66
       refine q_take hS hR rfl rfl ⟨_, _, _, rfl, rfl, rfl, rfl⟩ rfl (y_ldp1 hS rfl hlq66 hmq66 (hcq66 0 _ rfl) Try.underlying9 rfl) fun a hS => ?_
       refine q_take hS hR rfl rfl ⟨_, _, _, rfl, rfl, rfl, rfl⟩ rfl (y_sne hS rfl rfl) fun a hS => ?_
       refine q_take hS hR rfl rfl rfl rfl (y_pick_t hS rfl rfl) fun a hS => ?_
       clear hR hZ
       refine p_norm ?_
       exact ⟨(decide ((x54 : List UInt8) ≠ x57)), hg, (hS.sb rfl rfl rfl)⟩
      ·have hs52e : decide (x47 = x50) = false := decide_eq_false hs52
       replace hg := br_f hg hs52
       refine d_plan hS [] [(0, some 0), (1, some 0), (2, some 0), (3, some 700103), (4, some 0), (5, some 0), (6, some 0), (7, some 700103), (8, some 0), (9, some 0), (10, some 0), (11, some 0), (12, some 0), (13, some 0), (14, some 0), (15, some 0), (16, some 0), (17, some 0), (18, some 0), (19, some 0), (20, some 0), (21, some 0)] rfl (by kernel_rfl) (by kernel_rfl) rfl ?_; clear hS; intro wr hZ hS; have hR := hS.wd
       refine q_take hS hR rfl rfl rfl rfl (y_move hS rfl) fun a hS => ?_
       refine q_take hS hR rfl rfl rfl rfl (y_move hS rfl) fun a hS => ?_
       obtain ⟨hiq67, bq67, hAq67⟩ := SlR.row1 (hS.wd.holds 700103 _ rfl) (hS.fact (k := 104) rfl) rfl rfl hx47
       refine q_take hS hR rfl rfl rfl rfl (y_rowIndex (sz := 1) (i := t_42) hS rfl rfl Try.underlying33 rfl hAq67 rfl hiq67) fun a hS => ?_
       have hz68 := (hS.fact (k := 104) rfl).at_ _ _ hx47
       have ez68 := hz68
       refine q_take hS hR rfl rfl rfl rfl (y_loadRow1 (kk := 700103) hS rfl rfl hAq67 (take1 ez68) Try.underlying3 rfl) fun a hS => ?_
       refine q_take hS hR rfl rfl rfl rfl (y_move hS rfl) fun a hS => ?_
       refine q_take hS hR rfl rfl rfl rfl (y_move hS rfl) fun a hS => ?_
       obtain ⟨hiq69, bq69, hAq69⟩ := SlR.row1 (hS.wd.holds 700103 _ rfl) (hS.fact (k := 104) rfl) rfl rfl hx50
       refine q_take hS hR rfl rfl rfl rfl (y_rowIndex (sz := 1) (i := t_38) hS rfl rfl Try.underlying33 rfl hAq69 rfl hiq69) fun a hS => ?_
       have hz70 := (hS.fact (k := 104) rfl).at_ _ _ hx50
       have ez70 := hz70
       refine q_take hS hR rfl rfl rfl rfl (y_loadRow1 (kk := 700103) hS rfl rfl hAq69 (take1 ez70) Try.underlying3 rfl) fun a hS => ?_
       refine q_take hS hR rfl rfl rfl rfl (yl_b (y_eql hS rfl rfl) hs52e) fun a hS => ?_
       refine q_take hS hR rfl rfl rfl rfl (y_move hS rfl) fun a hS => ?_
       refine q_pass hS hR rfl rfl ⟨_, _, _, rfl, rfl, rfl, rfl⟩ rfl fun a hS => ?_
       refine q_pass hS hR rfl rfl ⟨_, _, _, rfl, rfl, rfl, rfl⟩ rfl fun a hS => ?_
       refine q_pass hS hR rfl rfl ⟨_, _, _, rfl, rfl, rfl, rfl⟩ rfl fun a hS => ?_
       refine q_pass hS hR rfl rfl ⟨_, _, _, rfl, rfl, rfl, rfl⟩ rfl fun a hS => ?_
       refine q_pass hS hR rfl rfl ⟨_, _, _, rfl, rfl, rfl, rfl⟩ rfl fun a hS => ?_
       refine q_pass hS hR rfl rfl ⟨_, _, _, rfl, rfl, rfl, rfl⟩ rfl fun a hS => ?_
       refine q_pass hS hR rfl rfl ⟨_, _, _, rfl, rfl, rfl, rfl⟩ rfl fun a hS => ?_
       refine q_pass hS hR rfl rfl ⟨_, _, _, rfl, rfl, rfl, rfl⟩ rfl fun a hS => ?_
       refine q_pass hS hR rfl rfl ⟨_, _, _, rfl, rfl, rfl, rfl⟩ rfl fun a hS => ?_
       refine q_pass hS hR rfl rfl ⟨_, _, _, rfl, rfl, rfl, rfl⟩ rfl fun a hS => ?_
       refine q_pass hS hR rfl rfl ⟨_, _, _, rfl, rfl, rfl, rfl⟩ rfl fun a hS => ?_
       refine q_take hS hR rfl rfl rfl rfl (y_pick_f hS rfl rfl) fun a hS => ?_
       clear hR hZ
       refine p_norm ?_
       exact ⟨(false), hg, (hS.sb rfl rfl rfl)⟩
     clear hS a; rintro a w ⟨t_45, hg, hS⟩
     subst hk44
     refine c_cond hS rfl (fun hc71 => ?_) (fun hc71 => ?_)
     ·replace hg := br_t hg hc71
      apply wR
      refine qq hS rfl (y_assign hS rfl) fun a hS => ?_
      refine qq hS rfl (y_assign hS rfl) fun a hS => ?_
      refine qq hS rfl (y_assign hS rfl) fun a hS => ?_
      apply wN
      apply wp_ret
      refine p_inR ?_
      refine p_thenR ?_
      refine p_thenR ?_
      refine p_inR ?_
      refine p_inR ?_
      refine p_thenR ?_
      refine p_thenR ?_
      refine p_inR ?_
      refine p_thenR ?_
      obtain rfl := Option.some.inj hg
      refine fin3 (fn := Try.f40) hS rfl (r_tmp hS rfl) (r_tmp hS rfl) (r_tmp hS rfl) ?_
      exact ⟨(none), (0), (none), (0), rfl, (SlR.nil_ _ _ _), (SlR.nil_ _ _ _)⟩
     ·replace hg := br_f hg (by rw [hc71]; exact Bool.false_ne_true)
      apply wp_skip
      refine p_inN ?_
      refine p_norm ?_
      obtain ⟨hk72, hg⟩ := chk_some hg
      apply wp_region_lit
      refine qq hS rfl (y_move hS rfl) fun a hS => ?_
      refine qq hS rfl (y_addN (i := t_42) (j := 1) hS rfl rfl (in64.2 (by omega))) fun a hS => ?_
      refine qq hS rfl (y_assign hS rfl) fun a hS => ?_
      apply wN
      exact ⟨m3, Nat.lt_succ_self _, ⟨(t_42 + 1), hg, (hS.sb rfl rfl rfl)⟩⟩
    ·replace hg := br_f hg hc43
     apply wp_exit
     refine p_then ?_
     refine p_then ?_
     refine p_in ?_
     refine p_inN ?_
     refine p_norm ?_
     exact ⟨hg, (hS.sb rfl rfl rfl)⟩
   clear hS a; rintro a w ⟨hg, hS⟩
   subst hk41
   apply wp_region_lit
   refine qq hS rfl (y_move hS rfl) fun a hS => ?_
   refine qq hS rfl (y_addN (i := t_38) (j := 1) hS rfl rfl (in64.2 (by omega))) fun a hS => ?_
   refine qq hS rfl (y_assign hS rfl) fun a hS => ?_
   apply wN
   exact ⟨m2, Nat.lt_succ_self _, ⟨(t_38 + 1), hg, (hS.sb rfl rfl rfl)⟩⟩
  ·replace hg := br_f hg hc39
   apply wp_exit
   refine p_then ?_
   refine p_then ?_
   refine p_in ?_
   refine p_norm ?_
   exact ⟨hg, (hS.sb rfl rfl rfl)⟩
 clear hS a; rintro a w ⟨hg, hS⟩
 subst hk37
 apply wp_seq
 apply wR
 refine qq hS rfl (y_move hS rfl) fun a hS => ?_
 refine qq hS rfl (y_move hS rfl) fun a hS => ?_
 refine qq hS rfl (y_lenSlice hS rfl Try.underlying33) fun a hS => ?_
 refine qq hS rfl (y_geq hS rfl rfl) fun a hS => ?_
 apply wN
 refine c_dec hS rfl (fun hc73 => ?_) (fun hc73 => ?_)
 ·replace hg := br_t hg hc73
  apply wR
  refine qq hS rfl (y_assign hS rfl) fun a hS => ?_
  refine qq hS rfl (y_assign hS rfl) fun a hS => ?_
  refine qq hS rfl (y_assign hS rfl) fun a hS => ?_
  apply wN
  apply wp_ret
  refine p_thenR ?_
  obtain rfl := Option.some.inj hg
  refine fin3 (fn := Try.f40) hS rfl (r_tmp hS rfl) (r_tmp hS rfl) (r_tmp hS rfl) ?_
  exact ⟨(none), (0), (none), (0), rfl, (SlR.nil_ _ _ _), (SlR.nil_ _ _ _)⟩
 ·replace hg := br_f hg hc73
  apply wp_skip
  refine p_norm ?_
  apply wR
  refine l_seq rfl (l_buildEmpty (sz := 1) hS 3100 Try.underlying22 rfl rfl rfl ?_); clear hS a; intro b75 a w hbb75 hK hS
  clear hbb75 hK
  refine qq hS rfl (y_assign hS rfl) fun a hS => ?_
  apply wN
  apply wp_seq
  apply wR
  refine qq hS rfl (y_assign hS rfl) fun a hS => ?_
  apply wN
  obtain ⟨k76, hg, hk76⟩ := jn_some hg
  refine c_post (fun a w => ∃ (t_77 : (List (List UInt8))), ∃ (A78 : Option Addr), ∃ (c79 : Nat), ∃ (cs80 : List Value), k76 t_77 = some r ∧ St (⟨Try.f40.ntmps, M, noB, w0⟩ : Ctx) [(5, .slice (A7) ((t_6).length) (c8)), (12, .slice (A78) ((t_77).length) (c79))] [(700103, Ob.row (A7) ((t_6).length) (c8) 3 1 (cs9)), (700112, Ob.row (A78) ((t_77).length) (c79) 9 1 (cs80))] [(104, rdF (Rep.num .i64) (cs9) (t_6)), (113, rdF Rep.str (cs80) (t_77))] a w) ?_ ?_
  ·apply wp_block
   replace hS := hS.add 116 (rdF Rep.str ([]) ([])) (RdAll.nil _ _ _)
   replace hS := hS.al 115 116 rfl
   replace hS := hS.pk [(1000, 1000), (700103, 700103), (700114, 3100)] (by decide)
   refine c_loop (σ := Nat) (fun m4 a w => ∃ (t_81 : (List (List UInt8))), ∃ (t_85 : Nat), ∃ (A82 : Option Addr), ∃ (c83 : Nat), ∃ (cs84 : List Value), r39_numbers_L3 n t_ t_6 t_10 k76 m4 t_81 t_85 = some r ∧ St (⟨Try.f40.ntmps, M, noB, w0⟩ : Ctx) [(1, .pointer (some ⟨b2, 0, none⟩)), (5, .slice (A7) ((t_6).length) (c8)), (6, .int .i64 (t_10)), (12, .slice (A82) ((t_81).length) (c83)), (13, .int .i64 (((t_85 : Nat) : Int)))] [(1000, Ob.box b2 [.string (bs (t_.s_)), .int .i64 (t_.at_), .int .i64 (t_.e_), .slice (Ap04) ((t_.sorts_).length) (cp04), .slice (Ap05) ((t_.texts_).length) (cp05)] 64), (700103, Ob.row (A7) ((t_6).length) (c8) 3 1 (cs9)), (700114, Ob.row (A82) ((t_81).length) (c83) 9 1 (cs84))] [(101, slF Rep.str (Ap04) ((t_.sorts_).length) (cp04) (t_.sorts_)), (102, slF Rep.str (Ap05) ((t_.texts_).length) (cp05) (t_.texts_)), (104, rdF (Rep.num .i64) (cs9) (t_6)), (115, rdF Rep.str (cs84) (t_81))] a w) (fun m4 => m4) n ⟨([]), (0), (some ⟨b75, 0, none⟩), (0), ([]), hg, (hS.sb rfl rfl rfl)⟩ ?_
   clear hS a; rintro m4 a w ⟨t_81, t_85, A82, c83, cs84, hg, hS⟩
   rcases m4 with _ | m4
   ·rw [r39_numbers_L3] at hg; cases hg
   rw [r39_numbers_L3] at hg
   apply wp_seq
   apply wR
   refine qq hS rfl (y_move hS rfl) fun a hS => ?_
   refine qq hS rfl (y_move hS rfl) fun a hS => ?_
   refine qq hS rfl (y_leq hS rfl rfl) fun a hS => ?_
   apply wN
   refine c_dec hS rfl (fun hc86 => ?_) (fun hc86 => ?_)
   ·replace hg := br_t hg hc86
    apply wp_skip
    refine p_norm ?_
    apply wp_seq
    apply wp_block
    apply wp_seq
    obtain ⟨r87, hr87, hg⟩ := bind_some hg
    apply wp_region_lit
    refine qq hS rfl (y_move hS rfl) fun a hS => ?_
    refine qq hS rfl (y_move hS rfl) fun a hS => ?_
    have hT := hS
    replace hT := hT.fz (R := (Rep.num .i64)) (kk := 700103) [1000, 700114] 118 rfl rfl (hT.fact (k := 104) rfl) rfl
    refine l_seq rfl (l_call (cap := []) hS rfl Try.func56 rfl (by kernel_rfl) rfl rfl (c_r39_place n _ _ hT.lt t_6 (A7) (c8) (hT.fact (k := 118) rfl) ((t_85 : Nat) : Int) r87 hr87) ?_); clear hS hT a; intro v90 a w hK hp hS
    clear hK
    obtain rfl := hp
    refine qq hS rfl (y_assign hS rfl) fun a hS => ?_
    apply wN
    apply wp_seq
    apply wR
    refine qq hS rfl (y_move hS rfl) fun a hS => ?_
    refine qq hS rfl (y_lss hS rfl rfl) fun a hS => ?_
    apply wN
    refine c_dec hS rfl (fun hc92 => ?_) (fun hc92 => ?_)
    ·replace hg := br_t hg hc92
     apply wR
     refine qq hS rfl (y_assign hS rfl) fun a hS => ?_
     refine qq hS rfl (y_assign hS rfl) fun a hS => ?_
     refine qq hS rfl (y_assign hS rfl) fun a hS => ?_
     apply wN
     apply wp_ret
     refine p_thenR ?_
     refine p_inR ?_
     refine p_thenR ?_
     refine p_thenR ?_
     refine p_inR ?_
     refine p_thenR ?_
     obtain rfl := Option.some.inj hg
     refine fin3 (fn := Try.f40) hS rfl (r_tmp hS rfl) (r_tmp hS rfl) (r_tmp hS rfl) ?_
     exact ⟨(none), (0), (none), (0), rfl, (SlR.nil_ _ _ _), (SlR.nil_ _ _ _)⟩
    ·replace hg := br_f hg hc92
     apply wp_skip
     refine p_norm ?_
     obtain ⟨x94, hx94, hg⟩ := bind_some hg
     obtain ⟨hk97, hg⟩ := chk_some hg
     apply wp_region_lit
     refine qq hS rfl (y_move hS rfl) fun a hS => ?_
     refine qq hS rfl (y_boxField (o' := 3) hS rfl Try.underlying64 rfl rfl rfl) fun a hS => ?_
     refine qq hS rfl (y_loadBox1 (kk := 1000) hS rfl rfl rfl Try.underlying22 rfl) fun a hS => ?_
     refine qq hS rfl (y_move hS rfl) fun a hS => ?_
     obtain ⟨p100, hep100, hpp100⟩ := SlR.elemX (hS.fact (k := 101) rfl) (ix_some hx94).1
     refine qq hS rfl (y_elem (sz := 1) (i := ((r87).toNat)) hS rfl rfl Try.underlying22 rfl hep100 (ix_some hx94).2.1 (lt_of_get (ix_some hx94).1)) fun a hS => ?_
     obtain ⟨hlq101, hmq101, csq101, hdq101, hcq101⟩ := hpp100
     obtain ⟨rfl, lq1011⟩ := hdq101
     refine qq hS rfl (y_ldp1 hS rfl hlq101 hmq101 (hcq101 0 _ rfl) Try.underlying9 rfl) fun a hS => ?_
     refine l_seq rfl (l_buildDense (sz := 1) hS 3806 rfl rfl rfl Try.underlying22 rfl rfl rfl rfl rfl rfl rfl ?_); clear hS a; intro b102 a w hbb102 hK hS
     clear hbb102
     clear hK
     replace hS := hS.add 121 (rdF Rep.str (cellsOfL [.string (bs (x94))]) ([x94])) (RdAll.cons (by exact ⟨rfl, (by omega)⟩) (RdAll.nil _ _ _))
     have hs104 := row_src (hS.wd.holds 3806 _ rfl) (RdAll.one (hS.fact (k := 121) rfl))
     refine l_seq rfl (l_append (sz := 1) (by_ := 16) (N := (t_81 ++ [x94]).length) (ys := cs84 ++ (cellsOfL [.string (bs (x94))])) hS 700114 rfl rfl rfl Try.underlying22 rfl rfl rfl rfl rfl hs104 (by simp) rfl (by have hr := hk97; clear hg; first | omega | (simp only [List.length_append, List.length_cons, List.length_nil] at hr ⊢; omega) | (simp at hr ⊢; omega)) (by have hr := hk97; clear hg; first | omega | (simp only [List.length_append, List.length_cons, List.length_nil] at hr ⊢; omega) | (simp at hr ⊢; omega)) rfl ?_); clear hS a; intro Aq103 cq103 a w hA hK hS
     clear hK hA
     replace hS := hS.add 122 (rdF Rep.str (cs84 ++ (cellsOfL [.string (bs (x94))])) (t_81 ++ [x94])) (RdAll.append (hS.fact (k := 115) rfl) (hS.fact (k := 121) rfl))
     refine qq hS rfl (y_assign hS rfl) fun a hS => ?_
     apply wpList_nil
     refine p_inN ?_
     refine p_norm ?_
     obtain ⟨hk105, hg⟩ := chk_some hg
     apply wp_region_lit
     refine qq hS rfl (y_move hS rfl) fun a hS => ?_
     refine qq hS rfl (y_addN (i := t_85) (j := 1) hS rfl rfl (in64.2 (by omega))) fun a hS => ?_
     refine qq hS rfl (y_assign hS rfl) fun a hS => ?_
     apply wN
     replace hS := hS.add 115 (rdF Rep.str (cs84 ++ (cellsOfL [.string (bs (x94))])) (t_81 ++ [x94])) (hS.fact (k := 122) rfl)
     exact ⟨m4, Nat.lt_succ_self _, ⟨(t_81 ++ [x94]), (t_85 + 1), (Aq103), (cq103), (cs84 ++ (cellsOfL [.string (bs (x94))])), hg, (hS.sb rfl rfl rfl)⟩⟩
   ·replace hg := br_f hg hc86
    apply wp_exit
    refine p_then ?_
    refine p_then ?_
    refine p_in ?_
    refine p_norm ?_
    replace hS := hS.al 113 115 rfl
    replace hS := hS.pk [(1000, 1000), (700103, 700103), (700112, 700114)] (by decide)
    exact ⟨(t_81), (A82), (c83), (cs84), hg, (hS.sb rfl rfl rfl)⟩
  clear hS a; rintro a w ⟨t_77, A78, c79, cs80, hg, hS⟩
  subst hk76
  apply wR
  refine qq hS rfl (y_move hS rfl) fun a hS => ?_
  refine qq hS rfl (y_move hS rfl) fun a hS => ?_
  refine qq hS rfl (y_assign hS rfl) fun a hS => ?_
  refine qq hS rfl (y_assign hS rfl) fun a hS => ?_
  refine qq hS rfl (y_assign hS rfl) fun a hS => ?_
  apply wN
  apply wp_ret
  obtain rfl := Option.some.inj hg
  refine fin3 (fn := Try.f40) hS rfl (r_tmp hS rfl) (r_tmp hS rfl) (r_tmp hS rfl) ?_
  exact ⟨(A7), (c8), (A78), (c79), rfl, (hS.rowOut (R := (Rep.num .i64)) (kk := 700103) rfl rfl (hS.fact (k := 104) rfl)), (hS.rowOut (R := Rep.str) (kk := 700112) rfl rfl (hS.fact (k := 113) rfl))⟩
set_option maxHeartbeats 400000 in
theorem c_r39_Parse (n : Nat) (M : Bs) (w0 : World) (hM : ∀ b, M b → b < w0.heap.size) (t_ : (List UInt8)) (lp01 : (t_).length ≤ 9223372036854775807) (r : (MRS × Int)) (hg : r39_Parse n t_ = some r) :
    Calls Try.prog 21 [.string (bs (t_))].toArray w0 (Ret noB w0 fun v w => ∃ (Aa3 : Option Addr), ∃ (ca3 : Nat), ∃ (Aa4 : Option Addr), ∃ (ca4 : Nat), ∃ (Aa5 : Option Addr), ∃ (ca5 : Nat), v = .tuple #[.agg #[.int .i64 (r.1.Top), .int .i64 (r.1.Index), .slice (Aa3) ((r.1.Vars).length) (ca3), .slice (Aa4) ((r.1.Rels).length) (ca4), .slice (Aa5) ((r.1.Cons).length) (ca5)], .int .i64 (r.2)] ∧ (SlR Rep.str M w Aa3 (r.1.Vars).length ca3 (r.1.Vars)) ∧ (SlR REP M w Aa4 (r.1.Rels).length ca4 (r.1.Rels)) ∧ (SlR RQeq M w Aa5 (r.1.Cons).length ca5 (r.1.Cons))) := by
 unfold r39_Parse at hg
 refine enter M noB Try.func21 rfl rfl hM ?_
 intro a hS
 apply wR
 refine l_seq rfl (l_alloc (zs := [.int .i64 (0), .int .i64 (0), .slice (none) (0) (0), .slice (none) (0) (0), .slice (none) (0) (0)]) hS 1000 rfl rfl rfl rfl ?_); clear hS a; intro b2 a w hb hK hS
 clear hb hK
 refine qq hS rfl (y_assign hS rfl) fun a hS => ?_
 apply wN
 apply wp_seq
 apply wR
 refine qq hS rfl (y_move hS rfl) fun a hS => ?_
 refine qq hS rfl (y_lenStrN hS rfl Try.underlying9) fun a hS => ?_
 refine qq hS rfl (y_gtrN (i := ((t_).length)) (j := 65536) hS rfl rfl) fun a hS => ?_
 apply wN
 refine c_dec hS rfl (fun hc3 => ?_) (fun hc3 => ?_)
 ·replace hg := br_t hg hc3
  have hmx4 : (t_).length ≤ 9223372036854775807 := (by first | omega | (rw [List.length_append]; omega) | (simp only [List.length_append]; omega) | (simp only [List.length_append, List.length_take, List.length_drop, List.length_cons, List.length_nil]; omega))
  apply wR
  refine qq hS rfl (y_build (parts := []) (ps := []) (cells := #[.int .i64 (0), .int .i64 (0), .slice (none) (0) (0), .slice (none) (0) (0), .slice (none) (0) (0)]) hS rfl (by kernel_rfl)) fun a hS => ?_
  refine l_seq rfl (l_store (n := 5) (cs' := [.int .i64 (0), .int .i64 (0), .slice (none) (0) (0), .slice (none) (0) (0), .slice (none) (0) (0)]) hS 1000 rfl rfl rfl rfl rfl rfl rfl rfl ?_); clear hS; intro w hK hS; clear hK
  refine qq hS rfl (y_assign hS rfl) fun a hS => ?_
  apply wN
  apply wp_ret
  refine p_thenR ?_
  obtain rfl := Option.some.inj hg
  refine fin2 (fn := Try.f21) hS rfl (r_cell (kk := 1000) (n := 5) (vs := [.int .i64 (0), .int .i64 (0), .slice (none) (0) (0), .slice (none) (0) (0), .slice (none) (0) (0)]) hS rfl rfl Try.underlying26 rfl rfl rfl rfl) (r_tmp hS rfl) ?_
  exact ⟨(none), (0), (none), (0), (none), (0), rfl, (SlR.nil_ _ _ _), (SlR.nil_ _ _ _), (SlR.nil_ _ _ _)⟩
 ·replace hg := br_f hg hc3
  apply wp_skip
  refine p_norm ?_
  apply wR
  refine qq hS rfl (y_assign hS rfl) fun a hS => ?_
  apply wN
  apply wR
  refine qq hS rfl (y_assign hS rfl) fun a hS => ?_
  apply wN
  apply wR
  refine l_seq rfl (l_buildEmpty (sz := 3) hS 1500 Try.underlying23 rfl rfl rfl ?_); clear hS a; intro b6 a w hbb6 hK hS
  clear hbb6 hK
  refine qq hS rfl (y_assign hS rfl) fun a hS => ?_
  apply wN
  apply wR
  refine l_seq rfl (l_buildEmpty (sz := 2) hS 1600 Try.underlying24 rfl rfl rfl ?_); clear hS a; intro b8 a w hbb8 hK hS
  clear hbb8 hK
  refine qq hS rfl (y_assign hS rfl) fun a hS => ?_
  apply wN
  apply wR
  refine qq hS rfl (y_move hS rfl) fun a hS => ?_
  refine qq hS rfl (y_build (parts := [(0, .tmp 25)]) (ps := [(0, .string (bs (t_)))]) (cells := #[.string (bs (t_)), .int .i64 (0), .int .i64 (0), .slice (none) (0) (0), .slice (none) (0) (0)]) hS rfl (by kernel_rfl)) fun a hS => ?_
  refine l_seq rfl (l_alloc (zs := [.string (bs ([])), .int .i64 (0), .int .i64 (0), .slice (none) (0) (0), .slice (none) (0) (0)]) hS 1702 rfl rfl rfl rfl ?_); clear hS a; intro b10 a w hb hK hS
  clear hb hK
  refine l_seq rfl (l_store (n := 5) (cs' := [.string (bs (t_)), .int .i64 (0), .int .i64 (0), .slice (none) (0) (0), .slice (none) (0) (0)]) hS 1702 rfl rfl rfl rfl rfl rfl rfl rfl ?_); clear hS; intro w hK hS; clear hK
  apply wN
  apply wp_seq
  obtain ⟨r11, hr11, hg⟩ := bind_some hg
  apply wp_region_lit
  refine qq hS rfl (y_loadBox (kk := 1702) (n := 5) (vs := [.string (bs (t_)), .int .i64 (0), .int .i64 (0), .slice (none) (0) (0), .slice (none) (0) (0)]) hS rfl rfl Try.underlying64 rfl rfl rfl rfl) fun a hS => ?_
  replace hS := hS.nilRow 800107 9 1 rfl
  replace hS := hS.add 108 (rdF Rep.str ([]) ([])) (RdAll.nil _ _ _)
  replace hS := hS.nilRow 800109 9 1 rfl
  replace hS := hS.add 110 (rdF Rep.str ([]) ([])) (RdAll.nil _ _ _)
  have hT := hS.pk [(1000, 1000), (1500, 1500), (1600, 1600), (1702, 1702), (9200003, 800107), (9200004, 800109)] (by decide)
  replace hT := hT.al 9300003 108 rfl
  replace hT := hT.al 9300004 110 rfl
  refine l_seq rfl (l_callMut (cap := []) hT _ [] (sbA (by rfl)) trivial (by rfl) rfl Try.func35 rfl (by kernel_rfl) rfl rfl (c_r39_variableOf n _ _ (hT.restLt [1000, 1500, 1600, 1702]) _ (reader.mk t_ 0 0 [] []) (none) (0) (none) (0) ([]) ([]) (by omega) (hT.wd.lendL _ _ _ (sbA (by rfl)) (keep_sub [1000, 1500, 1600, 1702]) (by rfl) (sbA (by rfl))) r11 hr11) ?_); intro v14 a' w' hK hp hF
  obtain ⟨Am04u15, cm04u15, csm0_3u15, Am05u15, cm05u15, csm0_4u15, rfl, lm01u15, hWu15⟩ := hp
  have hS2 := St.mk hF (hT.wd.back (sbA (by rfl)) (keep_sub [1000, 1500, 1600, 1702]) (by rfl) hWu15 (by rfl))
  clear hS hT hF hWu15 hK; revert hS2; revert w'; revert a'; intro a w hS
  replace hS := hS.al 111 9300003 rfl
  replace hS := hS.al 112 9300004 rfl
  replace hS := hS.ren [(1000, Ob.box b2 [.int .i64 (0), .int .i64 (0), .slice (none) (0) (0), .slice (none) (0) (0), .slice (none) (0) (0)] 26), (1500, Ob.row (some ⟨b6, 0, none⟩) (0) (0) 55 3 ([])), (1600, Ob.row (some ⟨b8, 0, none⟩) (0) (0) 45 2 ([])), (1702, Ob.box b10 [.string (bs (t_)), .int .i64 (0), .int .i64 (0), .slice (none) (0) (0), .slice (none) (0) (0)] 64), (800107, Ob.row (Am04u15) ((r11.1.sorts_).length) (cm04u15) 9 1 (csm0_3u15)), (800109, Ob.row (Am05u15) ((r11.1.texts_).length) (cm05u15) 9 1 (csm0_4u15))] [1000, 1500, 1600, 1702, 9200003, 9200004] ⟨rfl, rfl, rfl, rfl, rfl, rfl, trivial⟩ (by decide)
  refine qq hS rfl (y_move hS rfl) fun a hS => ?_
  refine qq hS rfl (y_extract hS rfl rfl) fun a hS => ?_
  refine qq hS rfl (y_extract hS rfl rfl) fun a hS => ?_
  refine l_seq rfl (l_store (n := 5) (cs' := [.string (bs (r11.1.s_)), .int .i64 (r11.1.at_), .int .i64 (r11.1.e_), .slice (Am04u15) ((r11.1.sorts_).length) (cm04u15), .slice (Am05u15) ((r11.1.texts_).length) (cm05u15)]) hS 1702 rfl rfl rfl rfl rfl rfl rfl rfl ?_); clear hS; intro w hK hS; clear hK
  refine qq hS rfl (y_assign hS rfl) fun a hS => ?_
  apply wN
  apply wp_seq
  obtain ⟨r16, hr16, hg⟩ := bind_some hg
  apply wp_region_lit
  refine qq hS rfl (y_loadBox (kk := 1702) (n := 5) (vs := [.string (bs (r11.1.s_)), .int .i64 (r11.1.at_), .int .i64 (r11.1.e_), .slice (Am04u15) ((r11.1.sorts_).length) (cm04u15), .slice (Am05u15) ((r11.1.texts_).length) (cm05u15)]) hS rfl rfl Try.underlying64 rfl rfl rfl rfl) fun a hS => ?_
  have hT := hS.pk [(1000, 1000), (1500, 1500), (1600, 1600), (1702, 1702), (9200003, 800107), (9200004, 800109)] (by decide)
  replace hT := hT.al 9300003 111 rfl
  replace hT := hT.al 9300004 112 rfl
  refine l_seq rfl (l_callMut (cap := []) hT _ [] (sbA (by rfl)) trivial (by rfl) rfl Try.func36 rfl (by kernel_rfl) rfl rfl (c_r39_word n _ _ (hT.restLt [1000, 1500, 1600, 1702]) _ r11.1 (Am04u15) (cm04u15) (Am05u15) (cm05u15) (csm0_3u15) (csm0_4u15) (by omega) [32] (by first | omega | (rw [List.length_append]; omega) | (simp only [List.length_append]; omega) | (simp only [List.length_append, List.length_take, List.length_drop, List.length_cons, List.length_nil]; omega)) (hT.wd.lendL _ _ _ (sbA (by rfl)) (keep_sub [1000, 1500, 1600, 1702]) (by rfl) (sbA (by rfl))) r16 hr16) ?_); intro v19 a' w' hK hp hF
  obtain ⟨Am04u20, cm04u20, csm0_3u20, Am05u20, cm05u20, csm0_4u20, rfl, lm01u20, hWu20⟩ := hp
  have hS2 := St.mk hF (hT.wd.back (sbA (by rfl)) (keep_sub [1000, 1500, 1600, 1702]) (by rfl) hWu20 (by rfl))
  clear hS hT hF hWu20 hK; revert hS2; revert w'; revert a'; intro a w hS
  replace hS := hS.al 115 9300003 rfl
  replace hS := hS.al 116 9300004 rfl
  replace hS := hS.ren [(1000, Ob.box b2 [.int .i64 (0), .int .i64 (0), .slice (none) (0) (0), .slice (none) (0) (0), .slice (none) (0) (0)] 26), (1500, Ob.row (some ⟨b6, 0, none⟩) (0) (0) 55 3 ([])), (1600, Ob.row (some ⟨b8, 0, none⟩) (0) (0) 45 2 ([])), (1702, Ob.box b10 [.string (bs (r11.1.s_)), .int .i64 (r11.1.at_), .int .i64 (r11.1.e_), .slice (Am04u15) ((r11.1.sorts_).length) (cm04u15), .slice (Am05u15) ((r11.1.texts_).length) (cm05u15)] 64), (800107, Ob.row (Am04u20) ((r16.sorts_).length) (cm04u20) 9 1 (csm0_3u20)), (800109, Ob.row (Am05u20) ((r16.texts_).length) (cm05u20) 9 1 (csm0_4u20))] [1000, 1500, 1600, 1702, 9200003, 9200004] ⟨rfl, rfl, rfl, rfl, rfl, rfl, trivial⟩ (by decide)
  refine l_seq rfl (l_store (n := 5) (cs' := [.string (bs (r16.s_)), .int .i64 (r16.at_), .int .i64 (r16.e_), .slice (Am04u20) ((r16.sorts_).length) (cm04u20), .slice (Am05u20) ((r16.texts_).length) (cm05u20)]) hS 1702 rfl rfl rfl rfl rfl rfl rfl rfl ?_); clear hS; intro w hK hS; clear hK
  apply wN
  apply wp_seq
  obtain ⟨r21, hr21, hg⟩ := bind_some hg
  apply wp_region_lit
  refine qq hS rfl (y_loadBox (kk := 1702) (n := 5) (vs := [.string (bs (r16.s_)), .int .i64 (r16.at_), .int .i64 (r16.e_), .slice (Am04u20) ((r16.sorts_).length) (cm04u20), .slice (Am05u20) ((r16.texts_).length) (cm05u20)]) hS rfl rfl Try.underlying64 rfl rfl rfl rfl) fun a hS => ?_
  have hT := hS.pk [(1000, 1000), (1500, 1500), (1600, 1600), (1702, 1702), (9200003, 800107), (9200004, 800109)] (by decide)
  replace hT := hT.al 9300003 115 rfl
  replace hT := hT.al 9300004 116 rfl
  refine l_seq rfl (l_callMut (cap := []) hT _ [] (sbA (by rfl)) trivial (by rfl) rfl Try.func35 rfl (by kernel_rfl) rfl rfl (c_r39_variableOf n _ _ (hT.restLt [1000, 1500, 1600, 1702]) _ r16 (Am04u20) (cm04u20) (Am05u20) (cm05u20) (csm0_3u20) (csm0_4u20) (by omega) (hT.wd.lendL _ _ _ (sbA (by rfl)) (keep_sub [1000, 1500, 1600, 1702]) (by rfl) (sbA (by rfl))) r21 hr21) ?_); intro v24 a' w' hK hp hF
  obtain ⟨Am04u25, cm04u25, csm0_3u25, Am05u25, cm05u25, csm0_4u25, rfl, lm01u25, hWu25⟩ := hp
  have hS2 := St.mk hF (hT.wd.back (sbA (by rfl)) (keep_sub [1000, 1500, 1600, 1702]) (by rfl) hWu25 (by rfl))
  clear hS hT hF hWu25 hK; revert hS2; revert w'; revert a'; intro a w hS
  replace hS := hS.al 119 9300003 rfl
  replace hS := hS.al 120 9300004 rfl
  replace hS := hS.ren [(1000, Ob.box b2 [.int .i64 (0), .int .i64 (0), .slice (none) (0) (0), .slice (none) (0) (0), .slice (none) (0) (0)] 26), (1500, Ob.row (some ⟨b6, 0, none⟩) (0) (0) 55 3 ([])), (1600, Ob.row (some ⟨b8, 0, none⟩) (0) (0) 45 2 ([])), (1702, Ob.box b10 [.string (bs (r16.s_)), .int .i64 (r16.at_), .int .i64 (r16.e_), .slice (Am04u20) ((r16.sorts_).length) (cm04u20), .slice (Am05u20) ((r16.texts_).length) (cm05u20)] 64), (800107, Ob.row (Am04u25) ((r21.1.sorts_).length) (cm04u25) 9 1 (csm0_3u25)), (800109, Ob.row (Am05u25) ((r21.1.texts_).length) (cm05u25) 9 1 (csm0_4u25))] [1000, 1500, 1600, 1702, 9200003, 9200004] ⟨rfl, rfl, rfl, rfl, rfl, rfl, trivial⟩ (by decide)
  refine qq hS rfl (y_move hS rfl) fun a hS => ?_
  refine qq hS rfl (y_extract hS rfl rfl) fun a hS => ?_
  refine qq hS rfl (y_extract hS rfl rfl) fun a hS => ?_
  refine l_seq rfl (l_store (n := 5) (cs' := [.string (bs (r21.1.s_)), .int .i64 (r21.1.at_), .int .i64 (r21.1.e_), .slice (Am04u25) ((r21.1.sorts_).length) (cm04u25), .slice (Am05u25) ((r21.1.texts_).length) (cm05u25)]) hS 1702 rfl rfl rfl rfl rfl rfl rfl rfl ?_); clear hS; intro w hK hS; clear hK
  refine qq hS rfl (y_assign hS rfl) fun a hS => ?_
  apply wN
  apply wp_seq
  obtain ⟨r26, hr26, hg⟩ := bind_some hg
  apply wp_region_lit
  refine qq hS rfl (y_loadBox (kk := 1702) (n := 5) (vs := [.string (bs (r21.1.s_)), .int .i64 (r21.1.at_), .int .i64 (r21.1.e_), .slice (Am04u25) ((r21.1.sorts_).length) (cm04u25), .slice (Am05u25) ((r21.1.texts_).length) (cm05u25)]) hS rfl rfl Try.underlying64 rfl rfl rfl rfl) fun a hS => ?_
  have hT := hS.pk [(1000, 1000), (1500, 1500), (1600, 1600), (1702, 1702), (9200003, 800107), (9200004, 800109)] (by decide)
  replace hT := hT.al 9300003 119 rfl
  replace hT := hT.al 9300004 120 rfl
  refine l_seq rfl (l_callMut (cap := []) hT _ [] (sbA (by rfl)) trivial (by rfl) rfl Try.func36 rfl (by kernel_rfl) rfl rfl (c_r39_word n _ _ (hT.restLt [1000, 1500, 1600, 1702]) _ r21.1 (Am04u25) (cm04u25) (Am05u25) (cm05u25) (csm0_3u25) (csm0_4u25) (by omega) [32, 123] (by first | omega | (rw [List.length_append]; omega) | (simp only [List.length_append]; omega) | (simp only [List.length_append, List.length_take, List.length_drop, List.length_cons, List.length_nil]; omega)) (hT.wd.lendL _ _ _ (sbA (by rfl)) (keep_sub [1000, 1500, 1600, 1702]) (by rfl) (sbA (by rfl))) r26 hr26) ?_); intro v29 a' w' hK hp hF
  obtain ⟨Am04u30, cm04u30, csm0_3u30, Am05u30, cm05u30, csm0_4u30, rfl, lm01u30, hWu30⟩ := hp
  have hS2 := St.mk hF (hT.wd.back (sbA (by rfl)) (keep_sub [1000, 1500, 1600, 1702]) (by rfl) hWu30 (by rfl))
  clear hS hT hF hWu30 hK; revert hS2; revert w'; revert a'; intro a w hS
  replace hS := hS.al 123 9300003 rfl
  replace hS := hS.al 124 9300004 rfl
  replace hS := hS.ren [(1000, Ob.box b2 [.int .i64 (0), .int .i64 (0), .slice (none) (0) (0), .slice (none) (0) (0), .slice (none) (0) (0)] 26), (1500, Ob.row (some ⟨b6, 0, none⟩) (0) (0) 55 3 ([])), (1600, Ob.row (some ⟨b8, 0, none⟩) (0) (0) 45 2 ([])), (1702, Ob.box b10 [.string (bs (r21.1.s_)), .int .i64 (r21.1.at_), .int .i64 (r21.1.e_), .slice (Am04u25) ((r21.1.sorts_).length) (cm04u25), .slice (Am05u25) ((r21.1.texts_).length) (cm05u25)] 64), (800107, Ob.row (Am04u30) ((r26.sorts_).length) (cm04u30) 9 1 (csm0_3u30)), (800109, Ob.row (Am05u30) ((r26.texts_).length) (cm05u30) 9 1 (csm0_4u30))] [1000, 1500, 1600, 1702, 9200003, 9200004] ⟨rfl, rfl, rfl, rfl, rfl, rfl, trivial⟩ (by decide)
  refine l_seq rfl (l_store (n := 5) (cs' := [.string (bs (r26.s_)), .int .i64 (r26.at_), .int .i64 (r26.e_), .slice (Am04u30) ((r26.sorts_).length) (cm04u30), .slice (Am05u30) ((r26.texts_).length) (cm05u30)]) hS 1702 rfl rfl rfl rfl rfl rfl rfl rfl ?_); clear hS; intro w hK hS; clear hK
  apply wN
  apply wp_seq
  obtain ⟨r31, hr31, hg⟩ := bind_some hg
  apply wp_region_lit
  refine qq hS rfl (y_loadBox (kk := 1702) (n := 5) (vs := [.string (bs (r26.s_)), .int .i64 (r26.at_), .int .i64 (r26.e_), .slice (Am04u30) ((r26.sorts_).length) (cm04u30), .slice (Am05u30) ((r26.texts_).length) (cm05u30)]) hS rfl rfl Try.underlying64 rfl rfl rfl rfl) fun a hS => ?_
  have hT := hS.pk [(1000, 1000), (1500, 1500), (1600, 1600), (1702, 1702), (9200003, 800107), (9200004, 800109)] (by decide)
  replace hT := hT.al 9300003 123 rfl
  replace hT := hT.al 9300004 124 rfl
  refine l_seq rfl (l_callMut (cap := []) hT _ [] (sbA (by rfl)) trivial (by rfl) rfl Try.func37 rfl (by kernel_rfl) rfl rfl (c_r39_predications n _ _ (hT.restLt [1000, 1500, 1600, 1702]) _ r26 (Am04u30) (cm04u30) (Am05u30) (cm05u30) (csm0_3u30) (csm0_4u30) (by omega) (hT.wd.lendL _ _ _ (sbA (by rfl)) (keep_sub [1000, 1500, 1600, 1702]) (by rfl) (sbA (by rfl))) r31 hr31) ?_); intro v34 a' w' hK hp hF
  obtain ⟨Am04u35, cm04u35, csm0_3u35, Am05u35, cm05u35, csm0_4u35, Ab1u35, cb1u35, rfl, lm01u35, hWu35⟩ := hp
  have hS2 := St.mk hF (hT.wd.back (sbA (by rfl)) (keep_sub [1000, 1500, 1600, 1702]) (by rfl) hWu35 (by rfl))
  clear hS hT hF hWu35 hK; revert hS2; revert w'; revert a'; intro a w hS
  replace hS := hS.al 128 9300003 rfl
  replace hS := hS.al 129 9300004 rfl
  replace hS := hS.al 130 9500100 rfl
  replace hS := hS.ren [(1000, Ob.box b2 [.int .i64 (0), .int .i64 (0), .slice (none) (0) (0), .slice (none) (0) (0), .slice (none) (0) (0)] 26), (1500, Ob.row (some ⟨b6, 0, none⟩) (0) (0) 55 3 ([])), (1600, Ob.row (some ⟨b8, 0, none⟩) (0) (0) 45 2 ([])), (1702, Ob.box b10 [.string (bs (r26.s_)), .int .i64 (r26.at_), .int .i64 (r26.e_), .slice (Am04u30) ((r26.sorts_).length) (cm04u30), .slice (Am05u30) ((r26.texts_).length) (cm05u30)] 64), (800107, Ob.row (Am04u35) ((r31.1.sorts_).length) (cm04u35) 9 1 (csm0_3u35)), (800109, Ob.row (Am05u35) ((r31.1.texts_).length) (cm05u35) 9 1 (csm0_4u35))] [1000, 1500, 1600, 1702, 9200003, 9200004] ⟨rfl, rfl, rfl, rfl, rfl, rfl, trivial⟩ (by decide)
  refine qq hS rfl (y_move hS rfl) fun a hS => ?_
  refine qq hS rfl (y_extract hS rfl rfl) fun a hS => ?_
  refine qq hS rfl (y_extract hS rfl rfl) fun a hS => ?_
  refine l_seq rfl (l_store (n := 5) (cs' := [.string (bs (r31.1.s_)), .int .i64 (r31.1.at_), .int .i64 (r31.1.e_), .slice (Am04u35) ((r31.1.sorts_).length) (cm04u35), .slice (Am05u35) ((r31.1.texts_).length) (cm05u35)]) hS 1702 rfl rfl rfl rfl rfl rfl rfl rfl ?_); clear hS; intro w hK hS; clear hK
  refine qq hS rfl (y_assign hS rfl) fun a hS => ?_
  apply wN
  apply wp_seq
  obtain ⟨r36, hr36, hg⟩ := bind_some hg
  apply wp_region_lit
  refine qq hS rfl (y_loadBox (kk := 1702) (n := 5) (vs := [.string (bs (r31.1.s_)), .int .i64 (r31.1.at_), .int .i64 (r31.1.e_), .slice (Am04u35) ((r31.1.sorts_).length) (cm04u35), .slice (Am05u35) ((r31.1.texts_).length) (cm05u35)]) hS rfl rfl Try.underlying64 rfl rfl rfl rfl) fun a hS => ?_
  have hT := hS.pk [(1000, 1000), (1500, 1500), (1600, 1600), (1702, 1702), (9200003, 800107), (9200004, 800109)] (by decide)
  replace hT := hT.al 9300003 128 rfl
  replace hT := hT.al 9300004 129 rfl
  refine l_seq rfl (l_callMut (cap := []) hT _ [] (sbA (by rfl)) trivial (by rfl) rfl Try.func36 rfl (by kernel_rfl) rfl rfl (c_r39_word n _ _ (hT.restLt [1000, 1500, 1600, 1702]) _ r31.1 (Am04u35) (cm04u35) (Am05u35) (cm05u35) (csm0_3u35) (csm0_4u35) (by omega) [32, 123] (by first | omega | (rw [List.length_append]; omega) | (simp only [List.length_append]; omega) | (simp only [List.length_append, List.length_take, List.length_drop, List.length_cons, List.length_nil]; omega)) (hT.wd.lendL _ _ _ (sbA (by rfl)) (keep_sub [1000, 1500, 1600, 1702]) (by rfl) (sbA (by rfl))) r36 hr36) ?_); intro v39 a' w' hK hp hF
  obtain ⟨Am04u40, cm04u40, csm0_3u40, Am05u40, cm05u40, csm0_4u40, rfl, lm01u40, hWu40⟩ := hp
  have hS2 := St.mk hF (hT.wd.back (sbA (by rfl)) (keep_sub [1000, 1500, 1600, 1702]) (by rfl) hWu40 (by rfl))
  clear hS hT hF hWu40 hK; revert hS2; revert w'; revert a'; intro a w hS
  replace hS := hS.al 133 9300003 rfl
  replace hS := hS.al 134 9300004 rfl
  replace hS := hS.ren [(1000, Ob.box b2 [.int .i64 (0), .int .i64 (0), .slice (none) (0) (0), .slice (none) (0) (0), .slice (none) (0) (0)] 26), (1500, Ob.row (some ⟨b6, 0, none⟩) (0) (0) 55 3 ([])), (1600, Ob.row (some ⟨b8, 0, none⟩) (0) (0) 45 2 ([])), (1702, Ob.box b10 [.string (bs (r31.1.s_)), .int .i64 (r31.1.at_), .int .i64 (r31.1.e_), .slice (Am04u35) ((r31.1.sorts_).length) (cm04u35), .slice (Am05u35) ((r31.1.texts_).length) (cm05u35)] 64), (800107, Ob.row (Am04u40) ((r36.sorts_).length) (cm04u40) 9 1 (csm0_3u40)), (800109, Ob.row (Am05u40) ((r36.texts_).length) (cm05u40) 9 1 (csm0_4u40))] [1000, 1500, 1600, 1702, 9200003, 9200004] ⟨rfl, rfl, rfl, rfl, rfl, rfl, trivial⟩ (by decide)
  refine l_seq rfl (l_store (n := 5) (cs' := [.string (bs (r36.s_)), .int .i64 (r36.at_), .int .i64 (r36.e_), .slice (Am04u40) ((r36.sorts_).length) (cm04u40), .slice (Am05u40) ((r36.texts_).length) (cm05u40)]) hS 1702 rfl rfl rfl rfl rfl rfl rfl rfl ?_); clear hS; intro w hK hS; clear hK
  apply wN
  apply wp_seq
  obtain ⟨r41, hr41, hg⟩ := bind_some hg
  apply wp_region_lit
  refine qq hS rfl (y_loadBox (kk := 1702) (n := 5) (vs := [.string (bs (r36.s_)), .int .i64 (r36.at_), .int .i64 (r36.e_), .slice (Am04u40) ((r36.sorts_).length) (cm04u40), .slice (Am05u40) ((r36.texts_).length) (cm05u40)]) hS rfl rfl Try.underlying64 rfl rfl rfl rfl) fun a hS => ?_
  have hT := hS.pk [(1000, 1000), (1500, 1500), (1600, 1600), (1702, 1702), (9200003, 800107), (9200004, 800109)] (by decide)
  replace hT := hT.al 9300003 133 rfl
  replace hT := hT.al 9300004 134 rfl
  refine l_seq rfl (l_callMut (cap := []) hT _ [] (sbA (by rfl)) trivial (by rfl) rfl Try.func38 rfl (by kernel_rfl) rfl rfl (c_r39_constraints n _ _ (hT.restLt [1000, 1500, 1600, 1702]) _ r36 (Am04u40) (cm04u40) (Am05u40) (cm05u40) (csm0_3u40) (csm0_4u40) (by omega) (hT.wd.lendL _ _ _ (sbA (by rfl)) (keep_sub [1000, 1500, 1600, 1702]) (by rfl) (sbA (by rfl))) r41 hr41) ?_); intro v44 a' w' hK hp hF
  obtain ⟨Am04u45, cm04u45, csm0_3u45, Am05u45, cm05u45, csm0_4u45, Ab1u45, cb1u45, rfl, lm01u45, hWu45⟩ := hp
  have hS2 := St.mk hF (hT.wd.back (sbA (by rfl)) (keep_sub [1000, 1500, 1600, 1702]) (by rfl) hWu45 (by rfl))
  clear hS hT hF hWu45 hK; revert hS2; revert w'; revert a'; intro a w hS
  replace hS := hS.al 138 9300003 rfl
  replace hS := hS.al 139 9300004 rfl
  replace hS := hS.al 140 9500100 rfl
  replace hS := hS.ren [(1000, Ob.box b2 [.int .i64 (0), .int .i64 (0), .slice (none) (0) (0), .slice (none) (0) (0), .slice (none) (0) (0)] 26), (1500, Ob.row (some ⟨b6, 0, none⟩) (0) (0) 55 3 ([])), (1600, Ob.row (some ⟨b8, 0, none⟩) (0) (0) 45 2 ([])), (1702, Ob.box b10 [.string (bs (r36.s_)), .int .i64 (r36.at_), .int .i64 (r36.e_), .slice (Am04u40) ((r36.sorts_).length) (cm04u40), .slice (Am05u40) ((r36.texts_).length) (cm05u40)] 64), (800107, Ob.row (Am04u45) ((r41.1.sorts_).length) (cm04u45) 9 1 (csm0_3u45)), (800109, Ob.row (Am05u45) ((r41.1.texts_).length) (cm05u45) 9 1 (csm0_4u45))] [1000, 1500, 1600, 1702, 9200003, 9200004] ⟨rfl, rfl, rfl, rfl, rfl, rfl, trivial⟩ (by decide)
  refine qq hS rfl (y_move hS rfl) fun a hS => ?_
  refine qq hS rfl (y_extract hS rfl rfl) fun a hS => ?_
  refine qq hS rfl (y_extract hS rfl rfl) fun a hS => ?_
  refine l_seq rfl (l_store (n := 5) (cs' := [.string (bs (r41.1.s_)), .int .i64 (r41.1.at_), .int .i64 (r41.1.e_), .slice (Am04u45) ((r41.1.sorts_).length) (cm04u45), .slice (Am05u45) ((r41.1.texts_).length) (cm05u45)]) hS 1702 rfl rfl rfl rfl rfl rfl rfl rfl ?_); clear hS; intro w hK hS; clear hK
  refine qq hS rfl (y_assign hS rfl) fun a hS => ?_
  apply wN
  apply wR
  refine qq hS rfl (y_move hS rfl) fun a hS => ?_
  refine qq hS rfl (y_move hS rfl) fun a hS => ?_
  refine qq hS rfl (y_move hS rfl) fun a hS => ?_
  refine qq hS rfl (y_move hS rfl) fun a hS => ?_
  refine qq hS rfl (y_build (parts := [(0, .tmp 53), (1, .tmp 54), (3, .tmp 55), (4, .tmp 56)]) (ps := [(0, .int .i64 (r11.2)), (1, .int .i64 (r21.2)), (3, .slice (Ab1u35) ((r31.2).length) (cb1u35)), (4, .slice (Ab1u45) ((r41.2).length) (cb1u45))]) (cells := #[.int .i64 (r11.2), .int .i64 (r21.2), .slice (none) (0) (0), .slice (Ab1u35) ((r31.2).length) (cb1u35), .slice (Ab1u45) ((r41.2).length) (cb1u45)]) hS rfl (by kernel_rfl)) fun a hS => ?_
  refine l_seq rfl (l_alloc (zs := [.int .i64 (0), .int .i64 (0), .slice (none) (0) (0), .slice (none) (0) (0), .slice (none) (0) (0)]) hS 2505 rfl rfl rfl rfl ?_); clear hS a; intro b47 a w hb hK hS
  clear hb hK
  refine l_seq rfl (l_store (n := 5) (cs' := [.int .i64 (r11.2), .int .i64 (r21.2), .slice (none) (0) (0), .slice (Ab1u35) ((r31.2).length) (cb1u35), .slice (Ab1u45) ((r41.2).length) (cb1u45)]) hS 2505 rfl rfl rfl rfl rfl rfl rfl rfl ?_); clear hS; intro w hK hS; clear hK
  apply wN
  apply wp_seq
  apply wp_seq
  obtain ⟨k48, hg, hk48⟩ := jn_some hg
  refine c_post (fun a w => ∃ (t_49 : Bool), k48 t_49 = some r ∧ St (⟨Try.f21.ntmps, M, noB, w0⟩ : Ctx) [(2, .pointer (some ⟨b2, 0, none⟩)), (8, .pointer (some ⟨b10, 0, none⟩)), (9, .pointer (some ⟨b47, 0, none⟩)), (67, .bool (t_49))] [(1000, Ob.box b2 [.int .i64 (0), .int .i64 (0), .slice (none) (0) (0), .slice (none) (0) (0), .slice (none) (0) (0)] 26), (1702, Ob.box b10 [.string (bs (r41.1.s_)), .int .i64 (r41.1.at_), .int .i64 (r41.1.e_), .slice (Am04u45) ((r41.1.sorts_).length) (cm04u45), .slice (Am05u45) ((r41.1.texts_).length) (cm05u45)] 64), (2505, Ob.box b47 [.int .i64 (r11.2), .int .i64 (r21.2), .slice (none) (0) (0), .slice (Ab1u35) ((r31.2).length) (cb1u35), .slice (Ab1u45) ((r41.2).length) (cb1u45)] 26), (800107, Ob.row (Am04u45) ((r41.1.sorts_).length) (cm04u45) 9 1 (csm0_3u45)), (800109, Ob.row (Am05u45) ((r41.1.texts_).length) (cm05u45) 9 1 (csm0_4u45))] [(130, slF REP (Ab1u35) ((r31.2).length) (cb1u35) (r31.2)), (138, rdF Rep.str (csm0_3u45) (r41.1.sorts_)), (139, rdF Rep.str (csm0_4u45) (r41.1.texts_)), (140, slF RQeq (Ab1u45) ((r41.2).length) (cb1u45) (r41.2))] a w) ?_ ?_
  ·rcases Decidable.em (r41.1.e_ = 0) with hs50 | hs50
   ·have hs50e : decide (r41.1.e_ = 0) = true := decide_eq_true hs50
    replace hg := br_t hg hs50
    apply wp_region_lit
    refine qq hS rfl (y_boxField (o' := 2) hS rfl Try.underlying64 rfl rfl rfl) fun a hS => ?_
    refine qq hS rfl (y_loadBox1 (kk := 1702) hS rfl rfl rfl Try.underlying30 rfl) fun a hS => ?_
    refine qq hS rfl (yl_b (y_eql hS rfl rfl) hs50e) fun a hS => ?_
    refine qq hS rfl (y_move hS rfl) fun a hS => ?_
    refine gy hS rfl (y_boxField (o' := 1) hS rfl Try.underlying64 rfl rfl rfl) fun a hS => ?_
    refine gy hS rfl (y_loadBox1 (kk := 1702) hS rfl rfl rfl Try.underlying3 rfl) fun a hS => ?_
    refine gy hS rfl (y_move hS rfl) fun a hS => ?_
    refine gy hS rfl (y_lenStrN hS rfl Try.underlying9) fun a hS => ?_
    refine gy hS rfl (y_lss hS rfl rfl) fun a hS => ?_
    refine qq hS rfl (y_pick_t hS rfl rfl) fun a hS => ?_
    apply wN
    exact ⟨(decide (r41.1.at_ < (((t_).length : Nat) : Int))), hg, (hS.sb rfl rfl rfl)⟩
   ·have hs50e : decide (r41.1.e_ = 0) = false := decide_eq_false hs50
    replace hg := br_f hg hs50
    apply wp_region_lit
    refine qq hS rfl (y_boxField (o' := 2) hS rfl Try.underlying64 rfl rfl rfl) fun a hS => ?_
    refine qq hS rfl (y_loadBox1 (kk := 1702) hS rfl rfl rfl Try.underlying30 rfl) fun a hS => ?_
    refine qq hS rfl (yl_b (y_eql hS rfl rfl) hs50e) fun a hS => ?_
    refine qq hS rfl (y_move hS rfl) fun a hS => ?_
    refine gn hS rfl fun a hS => ?_
    refine gn hS rfl fun a hS => ?_
    refine gn hS rfl fun a hS => ?_
    refine gn hS rfl fun a hS => ?_
    refine gn hS rfl fun a hS => ?_
    refine qq hS rfl (y_pick_f hS rfl rfl) fun a hS => ?_
    apply wN
    exact ⟨(false), hg, (hS.sb rfl rfl rfl)⟩
  clear hS a; rintro a w ⟨t_49, hg, hS⟩
  subst hk48
  obtain ⟨k51, hg, hk51⟩ := jn_some hg
  refine c_post (fun a w => ∃ (b_52 : (List UInt8)), ∃ (b_53 : Int), ∃ (b_54 : Int), ∃ (b_55 : (List (List UInt8))), ∃ (b_59 : (List (List UInt8))), ∃ (A56 : Option Addr), ∃ (c57 : Nat), ∃ (cs58 : List Value), ∃ (A60 : Option Addr), ∃ (c61 : Nat), ∃ (cs62 : List Value), k51 b_52 b_53 b_54 b_55 b_59 = some r ∧ ((b_52).length ≤ 9223372036854775807) ∧ St (⟨Try.f21.ntmps, M, noB, w0⟩ : Ctx) [(2, .pointer (some ⟨b2, 0, none⟩)), (8, .pointer (some ⟨b10, 0, none⟩)), (9, .pointer (some ⟨b47, 0, none⟩))] [(1000, Ob.box b2 [.int .i64 (0), .int .i64 (0), .slice (none) (0) (0), .slice (none) (0) (0), .slice (none) (0) (0)] 26), (1702, Ob.box b10 [.string (bs (b_52)), .int .i64 (b_53), .int .i64 (b_54), .slice (A56) ((b_55).length) (c57), .slice (A60) ((b_59).length) (c61)] 64), (2505, Ob.box b47 [.int .i64 (r11.2), .int .i64 (r21.2), .slice (none) (0) (0), .slice (Ab1u35) ((r31.2).length) (cb1u35), .slice (Ab1u45) ((r41.2).length) (cb1u45)] 26), (700141, Ob.row (A56) ((b_55).length) (c57) 9 1 (cs58)), (700143, Ob.row (A60) ((b_59).length) (c61) 9 1 (cs62))] [(130, slF REP (Ab1u35) ((r31.2).length) (cb1u35) (r31.2)), (140, slF RQeq (Ab1u45) ((r41.2).length) (cb1u45) (r41.2)), (142, rdF Rep.str (cs58) (b_55)), (144, rdF Rep.str (cs62) (b_59))] a w) ?_ ?_
  ·refine c_cond hS rfl (fun hc63 => ?_) (fun hc63 => ?_)
   ·replace hg := br_t hg hc63
    obtain ⟨r64, hr64, hg⟩ := bind_some hg
    apply wp_region_lit
    refine qq hS rfl (y_loadBox (kk := 1702) (n := 5) (vs := [.string (bs (r41.1.s_)), .int .i64 (r41.1.at_), .int .i64 (r41.1.e_), .slice (Am04u45) ((r41.1.sorts_).length) (cm04u45), .slice (Am05u45) ((r41.1.texts_).length) (cm05u45)]) hS rfl rfl Try.underlying64 rfl rfl rfl rfl) fun a hS => ?_
    have hT := hS.pk [(1000, 1000), (1702, 1702), (2505, 2505), (9200003, 800107), (9200004, 800109)] (by decide)
    replace hT := hT.al 9300003 138 rfl
    replace hT := hT.al 9300004 139 rfl
    refine l_seq rfl (l_callMut (cap := []) hT _ [] (sbA (by rfl)) trivial (by rfl) rfl Try.func39 rfl (by kernel_rfl) rfl rfl (c_r39_fail n _ _ (hT.restLt [1000, 1702, 2505]) _ r41.1 (Am04u45) (cm04u45) (Am05u45) (cm05u45) (csm0_3u45) (csm0_4u45) (by omega) (hT.wd.lendL _ _ _ (sbA (by rfl)) (keep_sub [1000, 1702, 2505]) (by rfl) (sbA (by rfl))) r64 hr64) ?_); intro v67 a' w' hK hp hF
    obtain ⟨Am04u68, cm04u68, csm0_3u68, Am05u68, cm05u68, csm0_4u68, rfl, lm01u68, hWu68⟩ := hp
    have hS2 := St.mk hF (hT.wd.back (sbA (by rfl)) (keep_sub [1000, 1702, 2505]) (by rfl) hWu68 (by rfl))
    clear hS hT hF hWu68 hK; revert hS2; revert w'; revert a'; intro a w hS
    replace hS := hS.al 147 9300003 rfl
    replace hS := hS.al 148 9300004 rfl
    replace hS := hS.ren [(1000, Ob.box b2 [.int .i64 (0), .int .i64 (0), .slice (none) (0) (0), .slice (none) (0) (0), .slice (none) (0) (0)] 26), (1702, Ob.box b10 [.string (bs (r41.1.s_)), .int .i64 (r41.1.at_), .int .i64 (r41.1.e_), .slice (Am04u45) ((r41.1.sorts_).length) (cm04u45), .slice (Am05u45) ((r41.1.texts_).length) (cm05u45)] 64), (2505, Ob.box b47 [.int .i64 (r11.2), .int .i64 (r21.2), .slice (none) (0) (0), .slice (Ab1u35) ((r31.2).length) (cb1u35), .slice (Ab1u45) ((r41.2).length) (cb1u45)] 26), (800107, Ob.row (Am04u68) ((r64.sorts_).length) (cm04u68) 9 1 (csm0_3u68)), (800109, Ob.row (Am05u68) ((r64.texts_).length) (cm05u68) 9 1 (csm0_4u68))] [1000, 1702, 2505, 9200003, 9200004] ⟨rfl, rfl, rfl, rfl, rfl, trivial⟩ (by decide)
    refine l_seq rfl (l_store (n := 5) (cs' := [.string (bs (r64.s_)), .int .i64 (r64.at_), .int .i64 (r64.e_), .slice (Am04u68) ((r64.sorts_).length) (cm04u68), .slice (Am05u68) ((r64.texts_).length) (cm05u68)]) hS 1702 rfl rfl rfl rfl rfl rfl rfl rfl ?_); clear hS; intro w hK hS; clear hK
    apply wN
    replace hS := hS.al 142 147 rfl
    replace hS := hS.al 144 148 rfl
    replace hS := hS.pk [(1000, 1000), (1702, 1702), (2505, 2505), (700141, 800107), (700143, 800109)] (by decide)
    exact ⟨(r64.s_), (r64.at_), (r64.e_), (r64.sorts_), (r64.texts_), (Am04u68), (cm04u68), (csm0_3u68), (Am05u68), (cm05u68), (csm0_4u68), hg, (by first | omega | (rw [List.length_append]; omega) | (simp only [List.length_append]; omega) | (simp only [List.length_append, List.length_take, List.length_drop, List.length_cons, List.length_nil]; omega)), (hS.sb rfl rfl rfl)⟩
   ·replace hg := br_f hg (by rw [hc63]; exact Bool.false_ne_true)
    apply wp_skip
    refine p_norm ?_
    replace hS := hS.al 142 138 rfl
    replace hS := hS.al 144 139 rfl
    replace hS := hS.pk [(1000, 1000), (1702, 1702), (2505, 2505), (700141, 800107), (700143, 800109)] (by decide)
    exact ⟨(r41.1.s_), (r41.1.at_), (r41.1.e_), (r41.1.sorts_), (r41.1.texts_), (Am04u45), (cm04u45), (csm0_3u45), (Am05u45), (cm05u45), (csm0_4u45), hg, (by first | omega | (rw [List.length_append]; omega) | (simp only [List.length_append]; omega) | (simp only [List.length_append, List.length_take, List.length_drop, List.length_cons, List.length_nil]; omega)), (hS.sb rfl rfl rfl)⟩
  clear hS a; rintro a w ⟨b_52, b_53, b_54, b_55, b_59, A56, c57, cs58, A60, c61, cs62, hg, lb_52, hS⟩
  subst hk51
  apply wp_seq
  apply wR
  refine qq hS rfl (y_boxField (o' := 2) hS rfl Try.underlying64 rfl rfl rfl) fun a hS => ?_
  refine qq hS rfl (y_loadBox1 (kk := 1702) hS rfl rfl rfl Try.underlying30 rfl) fun a hS => ?_
  refine qq hS rfl (y_neq hS rfl rfl) fun a hS => ?_
  apply wN
  refine c_dec hS rfl (fun hc69 => ?_) (fun hc69 => ?_)
  ·replace hg := br_t hg hc69
   apply wp_seq
   refine d_plan hS [(3, 1000)] [(0, some 0), (1, some 0), (2, some 1702), (3, none), (4, none)] rfl (by kernel_rfl) (by kernel_rfl) rfl ?_; clear hS; intro wr hZ hS; have hR := hS.wd
   refine q_take hS hR rfl rfl rfl rfl (y_build (parts := []) (ps := []) (cells := #[.int .i64 (0), .int .i64 (0), .slice (none) (0) (0), .slice (none) (0) (0), .slice (none) (0) (0)]) hS rfl (by kernel_rfl)) fun a hS => ?_
   refine q_take hS hR rfl rfl rfl rfl (y_boxField (o' := 2) hS rfl Try.underlying64 rfl rfl rfl) fun a hS => ?_
   refine q_take hS hR rfl rfl rfl rfl (y_loadBox1 (kk := 1702) hS rfl rfl rfl Try.underlying30 rfl) fun a hS => ?_
   refine l_take hS rfl rfl (l_store (n := 5) (cs' := [.int .i64 (0), .int .i64 (0), .slice (none) (0) (0), .slice (none) (0) (0), .slice (none) (0) (0)]) hS 1000 rfl rfl rfl rfl rfl rfl rfl rfl ?_); clear hS; intro w hK hS; replace hZ := Nat.le_trans hZ hK.size
   refine ⟨fun g hg h => h.obj hR (kk := 1000) rfl hK (by rintro rfl; exact absurd hg (by decide)), ?_⟩; clear hK
   refine l_take hS rfl rfl (l_quiet hS rfl rfl (y_assign hS rfl) fun a hS => ?_); refine ⟨fun g _ h => h, ?_⟩
   clear hR hZ
   refine p_norm ?_
   apply wp_ret
   refine p_thenR ?_
   obtain rfl := Option.some.inj hg
   refine fin2 (fn := Try.f21) hS rfl (r_cell (kk := 1000) (n := 5) (vs := [.int .i64 (0), .int .i64 (0), .slice (none) (0) (0), .slice (none) (0) (0), .slice (none) (0) (0)]) hS rfl rfl Try.underlying26 rfl rfl rfl rfl) (r_tmp hS rfl) ?_
   exact ⟨(none), (0), (none), (0), (none), (0), rfl, (SlR.nil_ _ _ _), (SlR.nil_ _ _ _), (SlR.nil_ _ _ _)⟩
  ·replace hg := br_f hg hc69
   apply wp_skip
   refine p_norm ?_
   apply wp_seq
   obtain ⟨r70, hr70, hg⟩ := bind_some hg
   apply wp_region_lit
   refine qq hS rfl (y_loadBox (kk := 1702) (n := 5) (vs := [.string (bs (b_52)), .int .i64 (b_53), .int .i64 (b_54), .slice (A56) ((b_55).length) (c57), .slice (A60) ((b_59).length) (c61)]) hS rfl rfl Try.underlying64 rfl rfl rfl rfl) fun a hS => ?_
   replace hS := hS.freeze (R := Rep.str) (kk := 700141) (L' := [(1000, Ob.box b2 [.int .i64 (0), .int .i64 (0), .slice (none) (0) (0), .slice (none) (0) (0), .slice (none) (0) (0)] 26), (1702, Ob.box b10 [.string (bs (b_52)), .int .i64 (b_53), .int .i64 (b_54), .slice (A56) ((b_55).length) (c57), .slice (A60) ((b_59).length) (c61)] 64), (2505, Ob.box b47 [.int .i64 (r11.2), .int .i64 (r21.2), .slice (none) (0) (0), .slice (Ab1u35) ((r31.2).length) (cb1u35), .slice (Ab1u45) ((r41.2).length) (cb1u45)] 26), (700143, Ob.row (A60) ((b_59).length) (c61) 9 1 (cs62))]) 153 rfl rfl (hS.fact (k := 142) rfl) ⟨rfl, rfl, rfl, rfl, trivial⟩ rfl
   replace hS := hS.freeze (R := Rep.str) (kk := 700143) (L' := [(1000, Ob.box b2 [.int .i64 (0), .int .i64 (0), .slice (none) (0) (0), .slice (none) (0) (0), .slice (none) (0) (0)] 26), (1702, Ob.box b10 [.string (bs (b_52)), .int .i64 (b_53), .int .i64 (b_54), .slice (A56) ((b_55).length) (c57), .slice (A60) ((b_59).length) (c61)] 64), (2505, Ob.box b47 [.int .i64 (r11.2), .int .i64 (r21.2), .slice (none) (0) (0), .slice (Ab1u35) ((r31.2).length) (cb1u35), .slice (Ab1u45) ((r41.2).length) (cb1u45)] 26)]) 154 rfl rfl (hS.fact (k := 144) rfl) ⟨rfl, rfl, rfl, trivial⟩ rfl
   refine l_seq rfl (l_call (cap := []) hS rfl Try.func40 rfl (by kernel_rfl) rfl rfl (c_r39_numbers n _ _ hS.lt (reader.mk b_52 b_53 b_54 b_55 b_59) (A56) (c57) (A60) (c61) (by omega) (hS.fact (k := 153) rfl) (hS.fact (k := 154) rfl) r70 hr70) ?_); clear hS a; intro v73 a w hK hp hS
   clear hK
   obtain ⟨Au74a1, cu74a1, Au74b1, cu74b1, rfl, hu74a1, hu74b1⟩ := hp
   replace hS := hS.add 155 (slF (Rep.num .i64) (Au74a1) ((r70.1).length) (cu74a1) (r70.1)) hu74a1
   replace hS := hS.add 156 (slF Rep.str (Au74b1) ((r70.2.1).length) (cu74b1) (r70.2.1)) hu74b1
   refine qq hS rfl (y_move hS rfl) fun a hS => ?_
   refine qq hS rfl (y_extract hS rfl rfl) fun a hS => ?_
   refine qq hS rfl (y_extract hS rfl rfl) fun a hS => ?_
   refine qq hS rfl (y_extract hS rfl rfl) fun a hS => ?_
   refine qq hS rfl (y_assign hS rfl) fun a hS => ?_
   refine qq hS rfl (y_assign hS rfl) fun a hS => ?_
   refine qq hS rfl (y_assign hS rfl) fun a hS => ?_
   apply wN
   apply wp_seq
   apply wR
   refine qq hS rfl (y_move hS rfl) fun a hS => ?_
   refine qq hS rfl (y_neq hS rfl rfl) fun a hS => ?_
   apply wN
   refine c_dec hS rfl (fun hc75 => ?_) (fun hc75 => ?_)
   ·replace hg := br_t hg hc75
    apply wR
    refine qq hS rfl (y_build (parts := []) (ps := []) (cells := #[.int .i64 (0), .int .i64 (0), .slice (none) (0) (0), .slice (none) (0) (0), .slice (none) (0) (0)]) hS rfl (by kernel_rfl)) fun a hS => ?_
    refine qq hS rfl (y_move hS rfl) fun a hS => ?_
    refine l_seq rfl (l_store (n := 5) (cs' := [.int .i64 (0), .int .i64 (0), .slice (none) (0) (0), .slice (none) (0) (0), .slice (none) (0) (0)]) hS 1000 rfl rfl rfl rfl rfl rfl rfl rfl ?_); clear hS; intro w hK hS; clear hK
    refine qq hS rfl (y_assign hS rfl) fun a hS => ?_
    apply wN
    apply wp_ret
    refine p_thenR ?_
    obtain rfl := Option.some.inj hg
    refine fin2 (fn := Try.f21) hS rfl (r_cell (kk := 1000) (n := 5) (vs := [.int .i64 (0), .int .i64 (0), .slice (none) (0) (0), .slice (none) (0) (0), .slice (none) (0) (0)]) hS rfl rfl Try.underlying26 rfl rfl rfl rfl) (r_tmp hS rfl) ?_
    exact ⟨(none), (0), (none), (0), (none), (0), rfl, (SlR.nil_ _ _ _), (SlR.nil_ _ _ _), (SlR.nil_ _ _ _)⟩
   ·replace hg := br_f hg hc75
    apply wp_skip
    refine p_norm ?_
    apply wp_seq
    obtain ⟨x77, hx77, hg⟩ := bind_some hg
    obtain ⟨x80, hx80, hg⟩ := bind_some hg
    refine d_plan hS [] [(0, some 0), (1, some 0), (2, some 2505), (3, some 0), (4, some 0), (5, some 0), (6, some 0), (7, some 2505), (8, some 0), (9, some 0), (10, some 0), (11, some 0), (12, none), (13, none)] rfl (by kernel_rfl) (by kernel_rfl) rfl ?_; clear hS; intro wr hZ hS; have hR := hS.wd
    refine q_take hS hR rfl rfl rfl rfl (y_move hS rfl) fun a hS => ?_
    refine q_take hS hR rfl rfl rfl rfl (y_boxField (o' := 0) hS rfl Try.underlying26 rfl rfl rfl) fun a hS => ?_
    refine q_take hS hR rfl rfl rfl rfl (y_loadBox1 (kk := 2505) hS rfl rfl rfl Try.underlying3 rfl) fun a hS => ?_
    obtain ⟨p83, hep83, hpp83⟩ := SlR.elemX (hS.fact (k := 155) rfl) (ix_some hx77).1
    refine q_take hS hR rfl rfl rfl rfl (y_elem (sz := 1) (i := ((r11.2).toNat)) hS rfl rfl Try.underlying33 rfl hep83 (ix_some hx77).2.1 (lt_of_get (ix_some hx77).1)) fun a hS => ?_
    obtain ⟨hlq84, hmq84, csq84, hdq84, hcq84⟩ := hpp83
    obtain rfl := hdq84
    refine q_take hS hR rfl rfl rfl rfl (y_ldp1 hS rfl hlq84 hmq84 (hcq84 0 _ rfl) Try.underlying3 rfl) fun a hS => ?_
    refine q_take hS hR rfl rfl rfl rfl (y_move hS rfl) fun a hS => ?_
    refine q_take hS hR rfl rfl rfl rfl (y_boxField (o' := 1) hS rfl Try.underlying26 rfl rfl rfl) fun a hS => ?_
    refine q_take hS hR rfl rfl rfl rfl (y_loadBox1 (kk := 2505) hS rfl rfl rfl Try.underlying3 rfl) fun a hS => ?_
    obtain ⟨p85, hep85, hpp85⟩ := SlR.elemX (hS.fact (k := 155) rfl) (ix_some hx80).1
    refine q_take hS hR rfl rfl rfl rfl (y_elem (sz := 1) (i := ((r21.2).toNat)) hS rfl rfl Try.underlying33 rfl hep85 (ix_some hx80).2.1 (lt_of_get (ix_some hx80).1)) fun a hS => ?_
    obtain ⟨hlq86, hmq86, csq86, hdq86, hcq86⟩ := hpp85
    obtain rfl := hdq86
    refine q_take hS hR rfl rfl rfl rfl (y_ldp1 hS rfl hlq86 hmq86 (hcq86 0 _ rfl) Try.underlying3 rfl) fun a hS => ?_
    refine q_take hS hR rfl rfl rfl rfl (y_move hS rfl) fun a hS => ?_
    refine q_take hS hR rfl rfl rfl rfl (y_build (parts := [(0, .tmp 90), (1, .tmp 95), (2, .tmp 96)]) (ps := [(0, .int .i64 (x77)), (1, .int .i64 (x80)), (2, .slice (Au74b1) ((r70.2.1).length) (cu74b1))]) (cells := #[.int .i64 (x77), .int .i64 (x80), .slice (Au74b1) ((r70.2.1).length) (cu74b1), .slice (none) (0) (0), .slice (none) (0) (0)]) hS rfl (by kernel_rfl)) fun a hS => ?_
    refine l_take hS rfl rfl (l_alloc (zs := [.int .i64 (0), .int .i64 (0), .slice (none) (0) (0), .slice (none) (0) (0), .slice (none) (0) (0)]) hS 3312 rfl rfl rfl rfl ?_); clear hS a; intro b87 a w hb hK hS
    have hNb87 := Nat.le_trans hZ hb
    clear hb
    replace hZ := Nat.le_trans hZ hK.size; refine ⟨fun g _ h => h.grow hK, ?_⟩; clear hK
    refine l_take hS rfl rfl (l_store (n := 5) (cs' := [.int .i64 (x77), .int .i64 (x80), .slice (Au74b1) ((r70.2.1).length) (cu74b1), .slice (none) (0) (0), .slice (none) (0) (0)]) hS 3312 rfl rfl rfl rfl rfl rfl rfl rfl ?_); clear hS; intro w hK hS; replace hZ := Nat.le_trans hZ hK.size
    refine ⟨fun g _ h => h.app hR hK (fun x e => by cases e; exact hNb87), ?_⟩; clear hK
    clear hR hZ
    refine p_norm ?_
    apply wp_seq
    apply wR
    refine qq hS rfl (y_assign hS rfl) fun a hS => ?_
    apply wN
    obtain ⟨k88, hg, hk88⟩ := jn_some hg
    refine c_post (fun a w => ∃ (b_89 : (List EP)), ∃ (A90 : Option Addr), ∃ (c91 : Nat), ∃ (cs92 : List Value), k88 b_89 = some r ∧ St (⟨Try.f21.ntmps, M, noB, w0⟩ : Ctx) [(2, .pointer (some ⟨b2, 0, none⟩)), (9, .pointer (some ⟨b47, 0, none⟩)), (10, .slice (Au74a1) ((r70.1).length) (cu74a1)), (13, .pointer (some ⟨b87, 0, none⟩))] [(1000, Ob.box b2 [.int .i64 (0), .int .i64 (0), .slice (none) (0) (0), .slice (none) (0) (0), .slice (none) (0) (0)] 26), (2505, Ob.box b47 [.int .i64 (r11.2), .int .i64 (r21.2), .slice (none) (0) (0), .slice (Ab1u35) ((r31.2).length) (cb1u35), .slice (Ab1u45) ((r41.2).length) (cb1u45)] 26), (3312, Ob.box b87 [.int .i64 (x77), .int .i64 (x80), .slice (Au74b1) ((r70.2.1).length) (cu74b1), .slice (A90) ((b_89).length) (c91), .slice (none) (0) (0)] 26), (700157, Ob.row (A90) ((b_89).length) (c91) 55 3 (cs92))] [(130, slF REP (Ab1u35) ((r31.2).length) (cb1u35) (r31.2)), (140, slF RQeq (Ab1u45) ((r41.2).length) (cb1u45) (r41.2)), (155, slF (Rep.num .i64) (Au74a1) ((r70.1).length) (cu74a1) (r70.1)), (156, slF Rep.str (Au74b1) ((r70.2.1).length) (cu74b1) (r70.2.1)), (158, rdF REP (cs92) (b_89))] a w) ?_ ?_
    ·apply wp_block
     replace hS := hS.nilRow 700159 55 3 rfl
     replace hS := hS.add 160 (rdF REP [] []) (RdAll.nil _ _ _)
     refine c_loop (σ := Nat) (fun m1 a w => ∃ (t_93 : Nat), ∃ (b_94 : (List EP)), ∃ (A95 : Option Addr), ∃ (c96 : Nat), ∃ (cs97 : List Value), r39_Parse_L0 n r31 r70 k88 m1 t_93 b_94 = some r ∧ St (⟨Try.f21.ntmps, M, noB, w0⟩ : Ctx) [(2, .pointer (some ⟨b2, 0, none⟩)), (9, .pointer (some ⟨b47, 0, none⟩)), (10, .slice (Au74a1) ((r70.1).length) (cu74a1)), (13, .pointer (some ⟨b87, 0, none⟩)), (14, .int .i64 (((t_93 : Nat) : Int)))] [(1000, Ob.box b2 [.int .i64 (0), .int .i64 (0), .slice (none) (0) (0), .slice (none) (0) (0), .slice (none) (0) (0)] 26), (2505, Ob.box b47 [.int .i64 (r11.2), .int .i64 (r21.2), .slice (none) (0) (0), .slice (Ab1u35) ((r31.2).length) (cb1u35), .slice (Ab1u45) ((r41.2).length) (cb1u45)] 26), (3312, Ob.box b87 [.int .i64 (x77), .int .i64 (x80), .slice (Au74b1) ((r70.2.1).length) (cu74b1), .slice (A95) ((b_94).length) (c96), .slice (none) (0) (0)] 26), (700159, Ob.row (A95) ((b_94).length) (c96) 55 3 (cs97))] [(130, slF REP (Ab1u35) ((r31.2).length) (cb1u35) (r31.2)), (140, slF RQeq (Ab1u45) ((r41.2).length) (cb1u45) (r41.2)), (155, slF (Rep.num .i64) (Au74a1) ((r70.1).length) (cu74a1) (r70.1)), (156, slF Rep.str (Au74b1) ((r70.2.1).length) (cu74b1) (r70.2.1)), (160, rdF REP (cs97) (b_94))] a w) (fun m1 => m1) n ⟨(0), ([]), (none), (0), ([]), hg, (hS.sb rfl rfl rfl)⟩ ?_
     clear hS a; rintro m1 a w ⟨t_93, b_94, A95, c96, cs97, hg, hS⟩
     rcases m1 with _ | m1
     ·rw [r39_Parse_L0] at hg; cases hg
     rw [r39_Parse_L0] at hg
     apply wp_seq
     apply wR
     refine qq hS rfl (y_move hS rfl) fun a hS => ?_
     refine qq hS rfl (y_boxField (o' := 3) hS rfl Try.underlying26 rfl rfl rfl) fun a hS => ?_
     refine qq hS rfl (y_loadBox1 (kk := 2505) hS rfl rfl rfl Try.underlying23 rfl) fun a hS => ?_
     refine qq hS rfl (y_lenSlice hS rfl Try.underlying23) fun a hS => ?_
     refine qq hS rfl (y_lssN (i := t_93) (j := ((r31.2).length)) hS rfl rfl) fun a hS => ?_
     apply wN
     refine c_dec hS rfl (fun hc98 => ?_) (fun hc98 => ?_)
     ·replace hg := br_t hg hc98
      have hmx99 := SlR.mx (hS.fact (k := 130) rfl)
      apply wp_skip
      refine p_norm ?_
      apply wp_seq
      apply wp_block
      apply wp_seq
      obtain ⟨x101, hx101, hg⟩ := bind_some hg
      obtain ⟨x106, hx106, hg⟩ := bind_some hg
      refine d_plan hS [] [(0, some 0), (1, some 2505), (2, some 0), (3, some 0), (4, some 0), (5, some 0), (6, some 0), (7, some 0), (8, some 2505), (9, some 0), (10, some 0), (11, some 0), (12, some 0), (13, some 0), (14, some 0), (15, some 0), (16, none), (17, none)] rfl (by kernel_rfl) (by kernel_rfl) rfl ?_; clear hS; intro wr hZ hS; have hR := hS.wd
      refine q_take hS hR rfl rfl rfl rfl (y_boxField (o' := 3) hS rfl Try.underlying26 rfl rfl rfl) fun a hS => ?_
      refine q_take hS hR rfl rfl rfl rfl (y_loadBox1 (kk := 2505) hS rfl rfl rfl Try.underlying23 rfl) fun a hS => ?_
      refine q_take hS hR rfl rfl rfl rfl (y_move hS rfl) fun a hS => ?_
      obtain ⟨p109, hep109, hpp109⟩ := SlR.elemX (hS.fact (k := 130) rfl) hx101
      refine q_take hS hR rfl rfl rfl rfl (y_elem (sz := 3) (i := t_93) hS rfl rfl Try.underlying23 rfl hep109 rfl (lt_of_get hx101)) fun a hS => ?_
      refine q_take hS hR rfl rfl rfl rfl (y_ptrField (o' := 0) hS rfl Try.underlying55 rfl rfl rfl) fun a hS => ?_
      obtain ⟨hlq110, hmq110, csq110, hdq110, hcq110⟩ := hpp109
      obtain ⟨Aq1103, cq1103, rfl, lq1101, hq1103⟩ := REP.open hdq110
      replace hS := hS.add 163 (slF RArg (Aq1103) ((x101.Args).length) (cq1103) (x101.Args)) hq1103
      refine q_take hS hR rfl rfl rfl rfl (y_ldp1 hS rfl hlq110 hmq110 (hcq110 0 _ rfl) Try.underlying9 rfl) fun a hS => ?_
      refine q_take hS hR rfl rfl rfl rfl (y_move hS rfl) fun a hS => ?_
      refine q_take hS hR rfl rfl rfl rfl (y_boxField (o' := 3) hS rfl Try.underlying26 rfl rfl rfl) fun a hS => ?_
      refine q_take hS hR rfl rfl rfl rfl (y_loadBox1 (kk := 2505) hS rfl rfl rfl Try.underlying23 rfl) fun a hS => ?_
      refine q_take hS hR rfl rfl rfl rfl (y_move hS rfl) fun a hS => ?_
      obtain ⟨p111, hep111, hpp111⟩ := SlR.elemX (hS.fact (k := 130) rfl) hx101
      refine q_take hS hR rfl rfl rfl rfl (y_elem (sz := 3) (i := t_93) hS rfl rfl Try.underlying23 rfl hep111 rfl (lt_of_get hx101)) fun a hS => ?_
      refine q_take hS hR rfl rfl rfl rfl (y_ptrField (o' := 1) hS rfl Try.underlying55 rfl rfl rfl) fun a hS => ?_
      obtain ⟨hlq112, hmq112, csq112, hdq112, hcq112⟩ := hpp111
      obtain ⟨Aq1123, cq1123, rfl, lq1121, hq1123⟩ := REP.open hdq112
      replace hS := hS.add 164 (slF RArg (Aq1123) ((x101.Args).length) (cq1123) (x101.Args)) hq1123
      refine q_take hS hR rfl rfl rfl rfl (y_ldp1 hS rfl hlq112 hmq112 (hcq112 1 _ rfl) Try.underlying3 rfl) fun a hS => ?_
      obtain ⟨p113, hep113, hpp113⟩ := SlR.elemX (hS.fact (k := 155) rfl) (ix_some hx106).1
      refine q_take hS hR rfl rfl rfl rfl (y_elem (sz := 1) (i := ((x101.Label).toNat)) hS rfl rfl Try.underlying33 rfl hep113 (ix_some hx106).2.1 (lt_of_get (ix_some hx106).1)) fun a hS => ?_
      obtain ⟨hlq114, hmq114, csq114, hdq114, hcq114⟩ := hpp113
      obtain rfl := hdq114
      refine q_take hS hR rfl rfl rfl rfl (y_ldp1 hS rfl hlq114 hmq114 (hcq114 0 _ rfl) Try.underlying3 rfl) fun a hS => ?_
      refine q_take hS hR rfl rfl rfl rfl (y_build (parts := [(0, .tmp 110), (1, .tmp 119)]) (ps := [(0, .string (bs (x101.Pred))), (1, .int .i64 (x106))]) (cells := #[.string (bs (x101.Pred)), .int .i64 (x106), .slice (none) (0) (0)]) hS rfl (by kernel_rfl)) fun a hS => ?_
      refine l_take hS rfl rfl (l_alloc (zs := [.string (bs ([])), .int .i64 (0), .slice (none) (0) (0)]) hS 3716 rfl rfl rfl rfl ?_); clear hS a; intro b115 a w hb hK hS
      have hNb115 := Nat.le_trans hZ hb
      clear hb
      replace hZ := Nat.le_trans hZ hK.size; refine ⟨fun g _ h => h.grow hK, ?_⟩; clear hK
      refine l_take hS rfl rfl (l_store (n := 3) (cs' := [.string (bs (x101.Pred)), .int .i64 (x106), .slice (none) (0) (0)]) hS 3716 rfl rfl rfl rfl rfl rfl rfl rfl ?_); clear hS; intro w hK hS; replace hZ := Nat.le_trans hZ hK.size
      refine ⟨fun g _ h => h.app hR hK (fun x e => by cases e; exact hNb115), ?_⟩; clear hK
      clear hR hZ
      refine p_norm ?_
      apply wp_seq
      apply wR
      refine qq hS rfl (y_assign hS rfl) fun a hS => ?_
      apply wN
      obtain ⟨k116, hg, hk116⟩ := jn_some hg
      refine c_post (fun a w => ∃ (b_117 : (List Arg)), ∃ (A118 : Option Addr), ∃ (c119 : Nat), ∃ (cs120 : List Value), k116 b_117 = some r ∧ St (⟨Try.f21.ntmps, M, noB, w0⟩ : Ctx) [(2, .pointer (some ⟨b2, 0, none⟩)), (9, .pointer (some ⟨b47, 0, none⟩)), (10, .slice (Au74a1) ((r70.1).length) (cu74a1)), (13, .pointer (some ⟨b87, 0, none⟩)), (14, .int .i64 (((t_93 : Nat) : Int))), (15, .pointer (some ⟨b115, 0, none⟩))] [(1000, Ob.box b2 [.int .i64 (0), .int .i64 (0), .slice (none) (0) (0), .slice (none) (0) (0), .slice (none) (0) (0)] 26), (2505, Ob.box b47 [.int .i64 (r11.2), .int .i64 (r21.2), .slice (none) (0) (0), .slice (Ab1u35) ((r31.2).length) (cb1u35), .slice (Ab1u45) ((r41.2).length) (cb1u45)] 26), (3312, Ob.box b87 [.int .i64 (x77), .int .i64 (x80), .slice (Au74b1) ((r70.2.1).length) (cu74b1), .slice (A95) ((b_94).length) (c96), .slice (none) (0) (0)] 26), (3716, Ob.box b115 [.string (bs (x101.Pred)), .int .i64 (x106), .slice (A118) ((b_117).length) (c119)] 55), (700159, Ob.row (A95) ((b_94).length) (c96) 55 3 (cs97)), (700165, Ob.row (A118) ((b_117).length) (c119) 76 2 (cs120))] [(130, slF REP (Ab1u35) ((r31.2).length) (cb1u35) (r31.2)), (140, slF RQeq (Ab1u45) ((r41.2).length) (cb1u45) (r41.2)), (155, slF (Rep.num .i64) (Au74a1) ((r70.1).length) (cu74a1) (r70.1)), (156, slF Rep.str (Au74b1) ((r70.2.1).length) (cu74b1) (r70.2.1)), (160, rdF REP (cs97) (b_94)), (166, rdF RArg (cs120) (b_117))] a w) ?_ ?_
      ·apply wp_block
       replace hS := hS.nilRow 700167 76 2 rfl
       replace hS := hS.add 168 (rdF RArg [] []) (RdAll.nil _ _ _)
       refine c_loop (σ := Nat) (fun m2 a w => ∃ (t_121 : Nat), ∃ (b_122 : (List Arg)), ∃ (A123 : Option Addr), ∃ (c124 : Nat), ∃ (cs125 : List Value), r39_Parse_L1 n r70 x101 k116 m2 t_121 b_122 = some r ∧ St (⟨Try.f21.ntmps, M, noB, w0⟩ : Ctx) [(2, .pointer (some ⟨b2, 0, none⟩)), (9, .pointer (some ⟨b47, 0, none⟩)), (10, .slice (Au74a1) ((r70.1).length) (cu74a1)), (13, .pointer (some ⟨b87, 0, none⟩)), (14, .int .i64 (((t_93 : Nat) : Int))), (15, .pointer (some ⟨b115, 0, none⟩)), (16, .int .i64 (((t_121 : Nat) : Int)))] [(1000, Ob.box b2 [.int .i64 (0), .int .i64 (0), .slice (none) (0) (0), .slice (none) (0) (0), .slice (none) (0) (0)] 26), (2505, Ob.box b47 [.int .i64 (r11.2), .int .i64 (r21.2), .slice (none) (0) (0), .slice (Ab1u35) ((r31.2).length) (cb1u35), .slice (Ab1u45) ((r41.2).length) (cb1u45)] 26), (3312, Ob.box b87 [.int .i64 (x77), .int .i64 (x80), .slice (Au74b1) ((r70.2.1).length) (cu74b1), .slice (A95) ((b_94).length) (c96), .slice (none) (0) (0)] 26), (3716, Ob.box b115 [.string (bs (x101.Pred)), .int .i64 (x106), .slice (A123) ((b_122).length) (c124)] 55), (700159, Ob.row (A95) ((b_94).length) (c96) 55 3 (cs97)), (700167, Ob.row (A123) ((b_122).length) (c124) 76 2 (cs125))] [(130, slF REP (Ab1u35) ((r31.2).length) (cb1u35) (r31.2)), (140, slF RQeq (Ab1u45) ((r41.2).length) (cb1u45) (r41.2)), (155, slF (Rep.num .i64) (Au74a1) ((r70.1).length) (cu74a1) (r70.1)), (156, slF Rep.str (Au74b1) ((r70.2.1).length) (cu74b1) (r70.2.1)), (160, rdF REP (cs97) (b_94)), (168, rdF RArg (cs125) (b_122))] a w) (fun m2 => m2) n ⟨(0), ([]), (none), (0), ([]), hg, (hS.sb rfl rfl rfl)⟩ ?_
       clear hS a; rintro m2 a w ⟨t_121, b_122, A123, c124, cs125, hg, hS⟩
       rcases m2 with _ | m2
       ·rw [r39_Parse_L1] at hg; cases hg
       rw [r39_Parse_L1] at hg
       apply wp_seq
       apply wR
       refine qq hS rfl (y_move hS rfl) fun a hS => ?_
       refine qq hS rfl (y_boxField (o' := 3) hS rfl Try.underlying26 rfl rfl rfl) fun a hS => ?_
       refine qq hS rfl (y_loadBox1 (kk := 2505) hS rfl rfl rfl Try.underlying23 rfl) fun a hS => ?_
       refine qq hS rfl (y_move hS rfl) fun a hS => ?_
       obtain ⟨p128, hep128, hpp128⟩ := SlR.elemX (hS.fact (k := 130) rfl) hx101
       refine qq hS rfl (y_elem (sz := 3) (i := t_93) hS rfl rfl Try.underlying23 rfl hep128 rfl (lt_of_get hx101)) fun a hS => ?_
       refine qq hS rfl (y_ptrField (o' := 2) hS rfl Try.underlying55 rfl rfl rfl) fun a hS => ?_
       obtain ⟨hlq129, hmq129, csq129, hdq129, hcq129⟩ := hpp128
       obtain ⟨Aq1293, cq1293, rfl, lq1291, hq1293⟩ := REP.open hdq129
       replace hS := hS.add 170 (slF RArg (Aq1293) ((x101.Args).length) (cq1293) (x101.Args)) hq1293
       refine qq hS rfl (y_ldp1 hS rfl hlq129 hmq129 (hcq129 2 _ rfl) Try.underlying53 rfl) fun a hS => ?_
       refine qq hS rfl (y_lenSlice hS rfl Try.underlying53) fun a hS => ?_
       refine qq hS rfl (y_lssN (i := t_121) (j := ((x101.Args).length)) hS rfl rfl) fun a hS => ?_
       apply wN
       refine c_dec hS rfl (fun hc130 => ?_) (fun hc130 => ?_)
       ·replace hg := br_t hg hc130
        have hmx131 := SlR.mx (hS.fact (k := 170) rfl)
        apply wp_skip
        refine p_norm ?_
        apply wp_seq
        apply wp_block
        obtain ⟨x135, hx135, hg⟩ := bind_some hg
        obtain ⟨x142, hx142, hg⟩ := bind_some hg
        obtain ⟨hk145, hg⟩ := chk_some hg
        refine d_plan hS [(27, 700167), (29, 3716)] [(0, some 0), (1, some 3716), (2, some 0), (3, some 2505), (4, some 0), (5, some 0), (6, some 0), (7, some 0), (8, some 0), (9, some 0), (10, some 0), (11, some 0), (12, some 0), (13, some 0), (14, some 2505), (15, some 0), (16, some 0), (17, some 0), (18, some 0), (19, some 0), (20, some 0), (21, some 0), (22, some 0), (23, some 0), (24, some 0), (25, some 0), (26, none), (27, none), (28, none), (29, none)] rfl (by kernel_rfl) (by kernel_rfl) rfl ?_; clear hS; intro wr hZ hS; have hR := hS.wd
        refine q_take hS hR rfl rfl rfl rfl (y_boxField (o' := 2) hS rfl Try.underlying55 rfl rfl rfl) fun a hS => ?_
        refine q_take hS hR rfl rfl rfl rfl (y_loadBox1 (kk := 3716) hS rfl rfl rfl Try.underlying53 rfl) fun a hS => ?_
        refine q_take hS hR rfl rfl rfl rfl (y_boxField (o' := 3) hS rfl Try.underlying26 rfl rfl rfl) fun a hS => ?_
        refine q_take hS hR rfl rfl rfl rfl (y_loadBox1 (kk := 2505) hS rfl rfl rfl Try.underlying23 rfl) fun a hS => ?_
        refine q_take hS hR rfl rfl rfl rfl (y_move hS rfl) fun a hS => ?_
        obtain ⟨p148, hep148, hpp148⟩ := SlR.elemX (hS.fact (k := 130) rfl) hx101
        refine q_take hS hR rfl rfl rfl rfl (y_elem (sz := 3) (i := t_93) hS rfl rfl Try.underlying23 rfl hep148 rfl (lt_of_get hx101)) fun a hS => ?_
        refine q_take hS hR rfl rfl rfl rfl (y_ptrField (o' := 2) hS rfl Try.underlying55 rfl rfl rfl) fun a hS => ?_
        obtain ⟨hlq149, hmq149, csq149, hdq149, hcq149⟩ := hpp148
        obtain ⟨Aq1493, cq1493, rfl, lq1491, hq1493⟩ := REP.open hdq149
        replace hS := hS.add 175 (slF RArg (Aq1493) ((x101.Args).length) (cq1493) (x101.Args)) hq1493
        refine q_take hS hR rfl rfl rfl rfl (y_ldp1 hS rfl hlq149 hmq149 (hcq149 2 _ rfl) Try.underlying53 rfl) fun a hS => ?_
        refine q_take hS hR rfl rfl rfl rfl (y_move hS rfl) fun a hS => ?_
        obtain ⟨p150, hep150, hpp150⟩ := SlR.elemX (hS.fact (k := 175) rfl) hx135
        refine q_take hS hR rfl rfl rfl rfl (y_elem (sz := 2) (i := t_121) hS rfl rfl Try.underlying53 rfl hep150 rfl (lt_of_get hx135)) fun a hS => ?_
        refine q_take hS hR rfl rfl rfl rfl (y_ptrField (o' := 0) hS rfl Try.underlying76 rfl rfl rfl) fun a hS => ?_
        obtain ⟨hlq151, hmq151, csq151, hdq151, hcq151⟩ := hpp150
        obtain ⟨rfl, lq1511⟩ := RArg.open hdq151
        refine q_take hS hR rfl rfl rfl rfl (y_ldp1 hS rfl hlq151 hmq151 (hcq151 0 _ rfl) Try.underlying9 rfl) fun a hS => ?_
        refine q_take hS hR rfl rfl rfl rfl (y_move hS rfl) fun a hS => ?_
        refine q_take hS hR rfl rfl rfl rfl (y_boxField (o' := 3) hS rfl Try.underlying26 rfl rfl rfl) fun a hS => ?_
        refine q_take hS hR rfl rfl rfl rfl (y_loadBox1 (kk := 2505) hS rfl rfl rfl Try.underlying23 rfl) fun a hS => ?_
        refine q_take hS hR rfl rfl rfl rfl (y_move hS rfl) fun a hS => ?_
        obtain ⟨p152, hep152, hpp152⟩ := SlR.elemX (hS.fact (k := 130) rfl) hx101
        refine q_take hS hR rfl rfl rfl rfl (y_elem (sz := 3) (i := t_93) hS rfl rfl Try.underlying23 rfl hep152 rfl (lt_of_get hx101)) fun a hS => ?_
        refine q_take hS hR rfl rfl rfl rfl (y_ptrField (o' := 2) hS rfl Try.underlying55 rfl rfl rfl) fun a hS => ?_
        obtain ⟨hlq153, hmq153, csq153, hdq153, hcq153⟩ := hpp152
        obtain ⟨Aq1533, cq1533, rfl, lq1531, hq1533⟩ := REP.open hdq153
        replace hS := hS.add 176 (slF RArg (Aq1533) ((x101.Args).length) (cq1533) (x101.Args)) hq1533
        refine q_take hS hR rfl rfl rfl rfl (y_ldp1 hS rfl hlq153 hmq153 (hcq153 2 _ rfl) Try.underlying53 rfl) fun a hS => ?_
        refine q_take hS hR rfl rfl rfl rfl (y_move hS rfl) fun a hS => ?_
        obtain ⟨p154, hep154, hpp154⟩ := SlR.elemX (hS.fact (k := 176) rfl) hx135
        refine q_take hS hR rfl rfl rfl rfl (y_elem (sz := 2) (i := t_121) hS rfl rfl Try.underlying53 rfl hep154 rfl (lt_of_get hx135)) fun a hS => ?_
        refine q_take hS hR rfl rfl rfl rfl (y_ptrField (o' := 1) hS rfl Try.underlying76 rfl rfl rfl) fun a hS => ?_
        obtain ⟨hlq155, hmq155, csq155, hdq155, hcq155⟩ := hpp154
        obtain ⟨rfl, lq1551⟩ := RArg.open hdq155
        refine q_take hS hR rfl rfl rfl rfl (y_ldp1 hS rfl hlq155 hmq155 (hcq155 1 _ rfl) Try.underlying3 rfl) fun a hS => ?_
        obtain ⟨p156, hep156, hpp156⟩ := SlR.elemX (hS.fact (k := 155) rfl) (ix_some hx142).1
        refine q_take hS hR rfl rfl rfl rfl (y_elem (sz := 1) (i := ((x135.Var).toNat)) hS rfl rfl Try.underlying33 rfl hep156 (ix_some hx142).2.1 (lt_of_get (ix_some hx142).1)) fun a hS => ?_
        obtain ⟨hlq157, hmq157, csq157, hdq157, hcq157⟩ := hpp156
        obtain rfl := hdq157
        refine q_take hS hR rfl rfl rfl rfl (y_ldp1 hS rfl hlq157 hmq157 (hcq157 0 _ rfl) Try.underlying3 rfl) fun a hS => ?_
        refine q_take hS hR rfl rfl rfl rfl (y_build (parts := [(0, .tmp 143), (1, .tmp 156)]) (ps := [(0, .string (bs (x135.Role))), (1, .int .i64 (x142))]) (cells := #[.string (bs (x135.Role)), .int .i64 (x142)]) hS rfl (by kernel_rfl)) fun a hS => ?_
        refine l_take hS rfl rfl (l_buildDense (sz := 2) hS 4126 rfl rfl rfl Try.underlying53 rfl rfl rfl rfl rfl rfl rfl ?_); clear hS a; intro b158 a w hbb158 hK hS
        have hNb158 := NewA.lit hZ hbb158
        clear hbb158
        replace hZ := Nat.le_trans hZ hK.size; refine ⟨fun g _ h => h.grow hK, ?_⟩; clear hK
        replace hS := hS.add 177 (rdF RArg (cellsOfL [.agg #[.string (bs (x135.Role)), .int .i64 (x142)]]) ([(Arg.mk x135.Role x142)])) (RdAll.cons (by exact (RArg.mk' (x := (Arg.mk x135.Role x142)) (by omega))) (RdAll.nil _ _ _))
        have hs160 := row_src (hS.wd.holds 4126 _ rfl) (RdAll.one (hS.fact (k := 177) rfl))
        refine l_take hS rfl rfl (l_append (sz := 2) (by_ := 24) (N := (b_122 ++ [(Arg.mk x135.Role x142)]).length) (ys := cs125 ++ (cellsOfL [.agg #[.string (bs (x135.Role)), .int .i64 (x142)]])) hS 700167 rfl rfl rfl Try.underlying53 rfl rfl rfl rfl rfl hs160 (by simp) rfl (by have hr := hk145; clear hg; first | omega | (simp only [List.length_append, List.length_cons, List.length_nil] at hr ⊢; omega) | (simp at hr ⊢; omega)) (by have hr := hk145; clear hg; first | omega | (simp only [List.length_append, List.length_cons, List.length_nil] at hr ⊢; omega) | (simp at hr ⊢; omega)) rfl ?_); clear hS a; intro Aq159 cq159 a w hA hK hS
        replace hZ := Nat.le_trans hZ hK.size; refine ⟨fun g hg h => h.obj hR (kk := 700167) rfl hK (by rintro rfl; exact absurd hg (by decide)), ?_⟩
        clear hK hA
        replace hS := hS.add 178 (rdF RArg (cs125 ++ (cellsOfL [.agg #[.string (bs (x135.Role)), .int .i64 (x142)]])) (b_122 ++ [(Arg.mk x135.Role x142)])) (RdAll.append (hS.fact (k := 168) rfl) (hS.fact (k := 177) rfl))
        refine l_take hS rfl rfl (l_quiet hS rfl rfl (y_boxField (o' := 2) hS rfl Try.underlying55 rfl rfl rfl) fun a hS => ?_); refine ⟨fun g _ h => h, ?_⟩
        refine l_take hS rfl rfl (l_store (n := 1) (cs' := [.string (bs (x101.Pred)), .int .i64 (x106), .slice (Aq159) ((b_122 ++ [(Arg.mk x135.Role x142)]).length) (cq159)]) hS 3716 rfl rfl rfl rfl rfl rfl rfl rfl ?_); clear hS; intro w hK hS; replace hZ := Nat.le_trans hZ hK.size
        refine ⟨fun g hg h => h.obj hR (kk := 3716) rfl hK (by rintro rfl; exact absurd hg (by decide)), ?_⟩; clear hK
        clear hR hZ
        refine p_inN ?_
        refine p_norm ?_
        apply wp_region_lit
        refine qq hS rfl (y_move hS rfl) fun a hS => ?_
        refine qq hS rfl (y_addN (i := t_121) (j := 1) hS rfl rfl (in64.2 (by omega))) fun a hS => ?_
        refine qq hS rfl (y_assign hS rfl) fun a hS => ?_
        apply wN
        replace hS := hS.add 168 (rdF RArg (cs125 ++ (cellsOfL [.agg #[.string (bs (x135.Role)), .int .i64 (x142)]])) (b_122 ++ [(Arg.mk x135.Role x142)])) (hS.fact (k := 178) rfl)
        exact ⟨m2, Nat.lt_succ_self _, ⟨(t_121 + 1), (b_122 ++ [(Arg.mk x135.Role x142)]), (Aq159), (cq159), (cs125 ++ (cellsOfL [.agg #[.string (bs (x135.Role)), .int .i64 (x142)]])), hg, (hS.sb rfl rfl rfl)⟩⟩
       ·replace hg := br_f hg hc130
        apply wp_exit
        refine p_then ?_
        refine p_then ?_
        refine p_in ?_
        refine p_norm ?_
        replace hS := hS.al 166 168 rfl
        replace hS := hS.pk [(1000, 1000), (2505, 2505), (3312, 3312), (3716, 3716), (700159, 700159), (700165, 700167)] (by decide)
        exact ⟨(b_122), (A123), (c124), (cs125), hg, (hS.sb rfl rfl rfl)⟩
      clear hS a; rintro a w ⟨b_117, A118, c119, cs120, hg, hS⟩
      subst hk116
      obtain ⟨hk162, hg⟩ := chk_some hg
      apply wp_region_lit
      refine qq hS rfl (y_boxField (o' := 3) hS rfl Try.underlying26 rfl rfl rfl) fun a hS => ?_
      refine qq hS rfl (y_loadBox1 (kk := 3312) hS rfl rfl rfl Try.underlying23 rfl) fun a hS => ?_
      refine qq hS rfl (y_loadBox (kk := 3716) (n := 3) (vs := [.string (bs (x101.Pred)), .int .i64 (x106), .slice (A118) ((b_117).length) (c119)]) hS rfl rfl Try.underlying55 rfl rfl rfl rfl) fun a hS => ?_
      replace hS := hS.freeze (R := RArg) (kk := 700165) (L' := [(1000, Ob.box b2 [.int .i64 (0), .int .i64 (0), .slice (none) (0) (0), .slice (none) (0) (0), .slice (none) (0) (0)] 26), (2505, Ob.box b47 [.int .i64 (r11.2), .int .i64 (r21.2), .slice (none) (0) (0), .slice (Ab1u35) ((r31.2).length) (cb1u35), .slice (Ab1u45) ((r41.2).length) (cb1u45)] 26), (3312, Ob.box b87 [.int .i64 (x77), .int .i64 (x80), .slice (Au74b1) ((r70.2.1).length) (cu74b1), .slice (A95) ((b_94).length) (c96), .slice (none) (0) (0)] 26), (3716, Ob.box b115 [.string (bs (x101.Pred)), .int .i64 (x106), .slice (A118) ((b_117).length) (c119)] 55), (700159, Ob.row (A95) ((b_94).length) (c96) 55 3 (cs97))]) 182 rfl rfl (hS.fact (k := 166) rfl) ⟨rfl, rfl, rfl, rfl, rfl, trivial⟩ rfl
      refine l_seq rfl (l_buildDense (sz := 3) hS 4203 rfl rfl rfl Try.underlying23 rfl rfl rfl rfl rfl rfl rfl ?_); clear hS a; intro b165 a w hbb165 hK hS
      clear hbb165
      clear hK
      replace hS := hS.add 183 (rdF REP (cellsOfL [.agg #[.string (bs (x101.Pred)), .int .i64 (x106), .slice (A118) ((b_117).length) (c119)]]) ([(EP.mk x101.Pred x106 b_117)])) (RdAll.cons (by exact (REP.mk' (x := (EP.mk x101.Pred x106 b_117)) (by omega) (hS.fact (k := 182) rfl))) (RdAll.nil _ _ _))
      have hs167 := row_src (hS.wd.holds 4203 _ rfl) (RdAll.one (hS.fact (k := 183) rfl))
      refine l_seq rfl (l_append (sz := 3) (by_ := 48) (N := (b_94 ++ [(EP.mk x101.Pred x106 b_117)]).length) (ys := cs97 ++ (cellsOfL [.agg #[.string (bs (x101.Pred)), .int .i64 (x106), .slice (A118) ((b_117).length) (c119)]])) hS 700159 rfl rfl rfl Try.underlying23 rfl rfl rfl rfl rfl hs167 (by simp) rfl (by have hr := hk162; clear hg; first | omega | (simp only [List.length_append, List.length_cons, List.length_nil] at hr ⊢; omega) | (simp at hr ⊢; omega)) (by have hr := hk162; clear hg; first | omega | (simp only [List.length_append, List.length_cons, List.length_nil] at hr ⊢; omega) | (simp at hr ⊢; omega)) rfl ?_); clear hS a; intro Aq166 cq166 a w hA hK hS
      clear hK hA
      replace hS := hS.add 184 (rdF REP (cs97 ++ (cellsOfL [.agg #[.string (bs (x101.Pred)), .int .i64 (x106), .slice (A118) ((b_117).length) (c119)]])) (b_94 ++ [(EP.mk x101.Pred x106 b_117)])) (RdAll.append (hS.fact (k := 160) rfl) (hS.fact (k := 183) rfl))
      refine qq hS rfl (y_boxField (o' := 3) hS rfl Try.underlying26 rfl rfl rfl) fun a hS => ?_
      refine l_seq rfl (l_store (n := 1) (cs' := [.int .i64 (x77), .int .i64 (x80), .slice (Au74b1) ((r70.2.1).length) (cu74b1), .slice (Aq166) ((b_94 ++ [(EP.mk x101.Pred x106 b_117)]).length) (cq166), .slice (none) (0) (0)]) hS 3312 rfl rfl rfl rfl rfl rfl rfl rfl ?_); clear hS; intro w hK hS; clear hK
      apply wpList_nil
      refine p_inN ?_
      refine p_norm ?_
      apply wp_region_lit
      refine qq hS rfl (y_move hS rfl) fun a hS => ?_
      refine qq hS rfl (y_addN (i := t_93) (j := 1) hS rfl rfl (in64.2 (by omega))) fun a hS => ?_
      refine qq hS rfl (y_assign hS rfl) fun a hS => ?_
      apply wN
      replace hS := hS.add 160 (rdF REP (cs97 ++ (cellsOfL [.agg #[.string (bs (x101.Pred)), .int .i64 (x106), .slice (A118) ((b_117).length) (c119)]])) (b_94 ++ [(EP.mk x101.Pred x106 b_117)])) (hS.fact (k := 184) rfl)
      exact ⟨m1, Nat.lt_succ_self _, ⟨(t_93 + 1), (b_94 ++ [(EP.mk x101.Pred x106 b_117)]), (Aq166), (cq166), (cs97 ++ (cellsOfL [.agg #[.string (bs (x101.Pred)), .int .i64 (x106), .slice (A118) ((b_117).length) (c119)]])), hg, (hS.sb rfl rfl rfl)⟩⟩
     ·replace hg := br_f hg hc98
      apply wp_exit
      refine p_then ?_
      refine p_then ?_
      refine p_in ?_
      refine p_norm ?_
      replace hS := hS.al 158 160 rfl
      replace hS := hS.pk [(1000, 1000), (2505, 2505), (3312, 3312), (700157, 700159)] (by decide)
      exact ⟨(b_94), (A95), (c96), (cs97), hg, (hS.sb rfl rfl rfl)⟩
    clear hS a; rintro a w ⟨b_89, A90, c91, cs92, hg, hS⟩
    subst hk88
    apply wp_seq
    apply wR
    refine qq hS rfl (y_assign hS rfl) fun a hS => ?_
    apply wN
    obtain ⟨k168, hg, hk168⟩ := jn_some hg
    refine c_post (fun a w => ∃ (b_169 : (List Qeq)), ∃ (A170 : Option Addr), ∃ (c171 : Nat), ∃ (cs172 : List Value), k168 b_169 = some r ∧ St (⟨Try.f21.ntmps, M, noB, w0⟩ : Ctx) [(2, .pointer (some ⟨b2, 0, none⟩)), (13, .pointer (some ⟨b87, 0, none⟩))] [(1000, Ob.box b2 [.int .i64 (0), .int .i64 (0), .slice (none) (0) (0), .slice (none) (0) (0), .slice (none) (0) (0)] 26), (3312, Ob.box b87 [.int .i64 (x77), .int .i64 (x80), .slice (Au74b1) ((r70.2.1).length) (cu74b1), .slice (A90) ((b_89).length) (c91), .slice (A170) ((b_169).length) (c171)] 26), (700157, Ob.row (A90) ((b_89).length) (c91) 55 3 (cs92)), (700185, Ob.row (A170) ((b_169).length) (c171) 45 2 (cs172))] [(156, slF Rep.str (Au74b1) ((r70.2.1).length) (cu74b1) (r70.2.1)), (158, rdF REP (cs92) (b_89)), (186, rdF RQeq (cs172) (b_169))] a w) ?_ ?_
    ·apply wp_block
     replace hS := hS.nilRow 700187 45 2 rfl
     replace hS := hS.add 188 (rdF RQeq [] []) (RdAll.nil _ _ _)
     refine c_loop (σ := Nat) (fun m3 a w => ∃ (t_173 : Nat), ∃ (b_174 : (List Qeq)), ∃ (A175 : Option Addr), ∃ (c176 : Nat), ∃ (cs177 : List Value), r39_Parse_L2 n r41 r70 k168 m3 t_173 b_174 = some r ∧ St (⟨Try.f21.ntmps, M, noB, w0⟩ : Ctx) [(2, .pointer (some ⟨b2, 0, none⟩)), (9, .pointer (some ⟨b47, 0, none⟩)), (10, .slice (Au74a1) ((r70.1).length) (cu74a1)), (13, .pointer (some ⟨b87, 0, none⟩)), (17, .int .i64 (((t_173 : Nat) : Int)))] [(1000, Ob.box b2 [.int .i64 (0), .int .i64 (0), .slice (none) (0) (0), .slice (none) (0) (0), .slice (none) (0) (0)] 26), (2505, Ob.box b47 [.int .i64 (r11.2), .int .i64 (r21.2), .slice (none) (0) (0), .slice (Ab1u35) ((r31.2).length) (cb1u35), .slice (Ab1u45) ((r41.2).length) (cb1u45)] 26), (3312, Ob.box b87 [.int .i64 (x77), .int .i64 (x80), .slice (Au74b1) ((r70.2.1).length) (cu74b1), .slice (A90) ((b_89).length) (c91), .slice (A175) ((b_174).length) (c176)] 26), (700157, Ob.row (A90) ((b_89).length) (c91) 55 3 (cs92)), (700187, Ob.row (A175) ((b_174).length) (c176) 45 2 (cs177))] [(130, slF REP (Ab1u35) ((r31.2).length) (cb1u35) (r31.2)), (140, slF RQeq (Ab1u45) ((r41.2).length) (cb1u45) (r41.2)), (155, slF (Rep.num .i64) (Au74a1) ((r70.1).length) (cu74a1) (r70.1)), (156, slF Rep.str (Au74b1) ((r70.2.1).length) (cu74b1) (r70.2.1)), (158, rdF REP (cs92) (b_89)), (188, rdF RQeq (cs177) (b_174))] a w) (fun m3 => m3) n ⟨(0), ([]), (none), (0), ([]), hg, (hS.sb rfl rfl rfl)⟩ ?_
     clear hS a; rintro m3 a w ⟨t_173, b_174, A175, c176, cs177, hg, hS⟩
     rcases m3 with _ | m3
     ·rw [r39_Parse_L2] at hg; cases hg
     rw [r39_Parse_L2] at hg
     apply wp_seq
     apply wR
     refine qq hS rfl (y_move hS rfl) fun a hS => ?_
     refine qq hS rfl (y_boxField (o' := 4) hS rfl Try.underlying26 rfl rfl rfl) fun a hS => ?_
     refine qq hS rfl (y_loadBox1 (kk := 2505) hS rfl rfl rfl Try.underlying24 rfl) fun a hS => ?_
     refine qq hS rfl (y_lenSlice hS rfl Try.underlying24) fun a hS => ?_
     refine qq hS rfl (y_lssN (i := t_173) (j := ((r41.2).length)) hS rfl rfl) fun a hS => ?_
     apply wN
     refine c_dec hS rfl (fun hc178 => ?_) (fun hc178 => ?_)
     ·replace hg := br_t hg hc178
      have hmx179 := SlR.mx (hS.fact (k := 140) rfl)
      apply wp_skip
      refine p_norm ?_
      apply wp_seq
      apply wp_block
      obtain ⟨x181, hx181, hg⟩ := bind_some hg
      obtain ⟨x184, hx184, hg⟩ := bind_some hg
      obtain ⟨x189, hx189, hg⟩ := bind_some hg
      obtain ⟨hk192, hg⟩ := chk_some hg
      refine d_plan hS [(22, 700187), (24, 3312)] [(0, some 0), (1, some 3312), (2, some 0), (3, some 0), (4, some 2505), (5, some 0), (6, some 0), (7, some 0), (8, some 0), (9, some 0), (10, some 0), (11, some 0), (12, some 0), (13, some 2505), (14, some 0), (15, some 0), (16, some 0), (17, some 0), (18, some 0), (19, some 0), (20, some 0), (21, none), (22, none), (23, none), (24, none)] rfl (by kernel_rfl) (by kernel_rfl) rfl ?_; clear hS; intro wr hZ hS; have hR := hS.wd
      refine q_take hS hR rfl rfl rfl rfl (y_boxField (o' := 4) hS rfl Try.underlying26 rfl rfl rfl) fun a hS => ?_
      refine q_take hS hR rfl rfl rfl rfl (y_loadBox1 (kk := 3312) hS rfl rfl rfl Try.underlying24 rfl) fun a hS => ?_
      refine q_take hS hR rfl rfl rfl rfl (y_move hS rfl) fun a hS => ?_
      refine q_take hS hR rfl rfl rfl rfl (y_boxField (o' := 4) hS rfl Try.underlying26 rfl rfl rfl) fun a hS => ?_
      refine q_take hS hR rfl rfl rfl rfl (y_loadBox1 (kk := 2505) hS rfl rfl rfl Try.underlying24 rfl) fun a hS => ?_
      refine q_take hS hR rfl rfl rfl rfl (y_move hS rfl) fun a hS => ?_
      obtain ⟨p195, hep195, hpp195⟩ := SlR.elemX (hS.fact (k := 140) rfl) hx181
      refine q_take hS hR rfl rfl rfl rfl (y_elem (sz := 2) (i := t_173) hS rfl rfl Try.underlying24 rfl hep195 rfl (lt_of_get hx181)) fun a hS => ?_
      refine q_take hS hR rfl rfl rfl rfl (y_ptrField (o' := 0) hS rfl Try.underlying45 rfl rfl rfl) fun a hS => ?_
      obtain ⟨hlq196, hmq196, csq196, hdq196, hcq196⟩ := hpp195
      obtain rfl := RQeq.open hdq196
      refine q_take hS hR rfl rfl rfl rfl (y_ldp1 hS rfl hlq196 hmq196 (hcq196 0 _ rfl) Try.underlying3 rfl) fun a hS => ?_
      obtain ⟨p197, hep197, hpp197⟩ := SlR.elemX (hS.fact (k := 155) rfl) (ix_some hx184).1
      refine q_take hS hR rfl rfl rfl rfl (y_elem (sz := 1) (i := ((x181.High).toNat)) hS rfl rfl Try.underlying33 rfl hep197 (ix_some hx184).2.1 (lt_of_get (ix_some hx184).1)) fun a hS => ?_
      obtain ⟨hlq198, hmq198, csq198, hdq198, hcq198⟩ := hpp197
      obtain rfl := hdq198
      refine q_take hS hR rfl rfl rfl rfl (y_ldp1 hS rfl hlq198 hmq198 (hcq198 0 _ rfl) Try.underlying3 rfl) fun a hS => ?_
      refine q_take hS hR rfl rfl rfl rfl (y_move hS rfl) fun a hS => ?_
      refine q_take hS hR rfl rfl rfl rfl (y_boxField (o' := 4) hS rfl Try.underlying26 rfl rfl rfl) fun a hS => ?_
      refine q_take hS hR rfl rfl rfl rfl (y_loadBox1 (kk := 2505) hS rfl rfl rfl Try.underlying24 rfl) fun a hS => ?_
      refine q_take hS hR rfl rfl rfl rfl (y_move hS rfl) fun a hS => ?_
      obtain ⟨p199, hep199, hpp199⟩ := SlR.elemX (hS.fact (k := 140) rfl) hx181
      refine q_take hS hR rfl rfl rfl rfl (y_elem (sz := 2) (i := t_173) hS rfl rfl Try.underlying24 rfl hep199 rfl (lt_of_get hx181)) fun a hS => ?_
      refine q_take hS hR rfl rfl rfl rfl (y_ptrField (o' := 1) hS rfl Try.underlying45 rfl rfl rfl) fun a hS => ?_
      obtain ⟨hlq200, hmq200, csq200, hdq200, hcq200⟩ := hpp199
      obtain rfl := RQeq.open hdq200
      refine q_take hS hR rfl rfl rfl rfl (y_ldp1 hS rfl hlq200 hmq200 (hcq200 1 _ rfl) Try.underlying3 rfl) fun a hS => ?_
      obtain ⟨p201, hep201, hpp201⟩ := SlR.elemX (hS.fact (k := 155) rfl) (ix_some hx189).1
      refine q_take hS hR rfl rfl rfl rfl (y_elem (sz := 1) (i := ((x181.Low).toNat)) hS rfl rfl Try.underlying33 rfl hep201 (ix_some hx189).2.1 (lt_of_get (ix_some hx189).1)) fun a hS => ?_
      obtain ⟨hlq202, hmq202, csq202, hdq202, hcq202⟩ := hpp201
      obtain rfl := hdq202
      refine q_take hS hR rfl rfl rfl rfl (y_ldp1 hS rfl hlq202 hmq202 (hcq202 0 _ rfl) Try.underlying3 rfl) fun a hS => ?_
      refine q_take hS hR rfl rfl rfl rfl (y_build (parts := [(0, .tmp 184), (1, .tmp 193)]) (ps := [(0, .int .i64 (x184)), (1, .int .i64 (x189))]) (cells := #[.int .i64 (x184), .int .i64 (x189)]) hS rfl (by kernel_rfl)) fun a hS => ?_
      refine l_take hS rfl rfl (l_buildDense (sz := 2) hS 4621 rfl rfl rfl Try.underlying24 rfl rfl rfl rfl rfl rfl rfl ?_); clear hS a; intro b203 a w hbb203 hK hS
      have hNb203 := NewA.lit hZ hbb203
      clear hbb203
      replace hZ := Nat.le_trans hZ hK.size; refine ⟨fun g _ h => h.grow hK, ?_⟩; clear hK
      replace hS := hS.add 191 (rdF RQeq (cellsOfL [.agg #[.int .i64 (x184), .int .i64 (x189)]]) ([(Qeq.mk x184 x189)])) (RdAll.cons (by exact (RQeq.mk' (x := (Qeq.mk x184 x189)) )) (RdAll.nil _ _ _))
      have hs205 := row_src (hS.wd.holds 4621 _ rfl) (RdAll.one (hS.fact (k := 191) rfl))
      refine l_take hS rfl rfl (l_append (sz := 2) (by_ := 16) (N := (b_174 ++ [(Qeq.mk x184 x189)]).length) (ys := cs177 ++ (cellsOfL [.agg #[.int .i64 (x184), .int .i64 (x189)]])) hS 700187 rfl rfl rfl Try.underlying24 rfl rfl rfl rfl rfl hs205 (by simp) rfl (by have hr := hk192; clear hg; first | omega | (simp only [List.length_append, List.length_cons, List.length_nil] at hr ⊢; omega) | (simp at hr ⊢; omega)) (by have hr := hk192; clear hg; first | omega | (simp only [List.length_append, List.length_cons, List.length_nil] at hr ⊢; omega) | (simp at hr ⊢; omega)) rfl ?_); clear hS a; intro Aq204 cq204 a w hA hK hS
      replace hZ := Nat.le_trans hZ hK.size; refine ⟨fun g hg h => h.obj hR (kk := 700187) rfl hK (by rintro rfl; exact absurd hg (by decide)), ?_⟩
      clear hK hA
      replace hS := hS.add 192 (rdF RQeq (cs177 ++ (cellsOfL [.agg #[.int .i64 (x184), .int .i64 (x189)]])) (b_174 ++ [(Qeq.mk x184 x189)])) (RdAll.append (hS.fact (k := 188) rfl) (hS.fact (k := 191) rfl))
      refine l_take hS rfl rfl (l_quiet hS rfl rfl (y_boxField (o' := 4) hS rfl Try.underlying26 rfl rfl rfl) fun a hS => ?_); refine ⟨fun g _ h => h, ?_⟩
      refine l_take hS rfl rfl (l_store (n := 1) (cs' := [.int .i64 (x77), .int .i64 (x80), .slice (Au74b1) ((r70.2.1).length) (cu74b1), .slice (A90) ((b_89).length) (c91), .slice (Aq204) ((b_174 ++ [(Qeq.mk x184 x189)]).length) (cq204)]) hS 3312 rfl rfl rfl rfl rfl rfl rfl rfl ?_); clear hS; intro w hK hS; replace hZ := Nat.le_trans hZ hK.size
      refine ⟨fun g hg h => h.obj hR (kk := 3312) rfl hK (by rintro rfl; exact absurd hg (by decide)), ?_⟩; clear hK
      clear hR hZ
      refine p_inN ?_
      refine p_norm ?_
      apply wp_region_lit
      refine qq hS rfl (y_move hS rfl) fun a hS => ?_
      refine qq hS rfl (y_addN (i := t_173) (j := 1) hS rfl rfl (in64.2 (by omega))) fun a hS => ?_
      refine qq hS rfl (y_assign hS rfl) fun a hS => ?_
      apply wN
      replace hS := hS.al 188 192 rfl
      exact ⟨m3, Nat.lt_succ_self _, ⟨(t_173 + 1), (b_174 ++ [(Qeq.mk x184 x189)]), (Aq204), (cq204), (cs177 ++ (cellsOfL [.agg #[.int .i64 (x184), .int .i64 (x189)]])), hg, (hS.sb rfl rfl rfl)⟩⟩
     ·replace hg := br_f hg hc178
      apply wp_exit
      refine p_then ?_
      refine p_then ?_
      refine p_in ?_
      refine p_norm ?_
      replace hS := hS.al 186 188 rfl
      replace hS := hS.pk [(1000, 1000), (2505, 2505), (3312, 3312), (700157, 700157), (700185, 700187)] (by decide)
      exact ⟨(b_174), (A175), (c176), (cs177), hg, (hS.sb rfl rfl rfl)⟩
    clear hS a; rintro a w ⟨b_169, A170, c171, cs172, hg, hS⟩
    subst hk168
    apply wp_seq
    apply wp_seq
    obtain ⟨r206, hr206, hg⟩ := bind_some hg
    apply wp_region_lit
    refine qq hS rfl (y_loadBox (kk := 3312) (n := 5) (vs := [.int .i64 (x77), .int .i64 (x80), .slice (Au74b1) ((r70.2.1).length) (cu74b1), .slice (A90) ((b_89).length) (c91), .slice (A170) ((b_169).length) (c171)]) hS rfl rfl Try.underlying26 rfl rfl rfl rfl) fun a hS => ?_
    have hT := hS
    replace hT := hT.fz (R := REP) (kk := 700157) [1000, 3312, 700185] 195 rfl rfl (hT.fact (k := 158) rfl) rfl
    replace hT := hT.fz (R := RQeq) (kk := 700185) [1000, 3312] 196 rfl rfl (hT.fact (k := 186) rfl) rfl
    refine l_seq rfl (l_call (cap := []) hS rfl Try.func18 rfl (by kernel_rfl) rfl rfl (c_r39_Check n _ _ hT.lt (MRS.mk x77 x80 r70.2.1 b_89 b_169) (Au74b1) (cu74b1) (A90) (c91) (A170) (c171) (hT.fact (k := 156) rfl) (hT.fact (k := 195) rfl) (hT.fact (k := 196) rfl) r206 hr206) ?_); clear hS hT a; intro v209 a w hK hp hS
    clear hK
    obtain rfl := hp
    refine qq hS rfl (y_assign hS rfl) fun a hS => ?_
    apply wN
    apply wR
    refine qq hS rfl (y_move hS rfl) fun a hS => ?_
    refine qq hS rfl (y_neq hS rfl rfl) fun a hS => ?_
    apply wN
    refine c_dec hS rfl (fun hc211 => ?_) (fun hc211 => ?_)
    ·replace hg := br_t hg hc211
     apply wR
     refine qq hS rfl (y_build (parts := []) (ps := []) (cells := #[.int .i64 (0), .int .i64 (0), .slice (none) (0) (0), .slice (none) (0) (0), .slice (none) (0) (0)]) hS rfl (by kernel_rfl)) fun a hS => ?_
     refine qq hS rfl (y_move hS rfl) fun a hS => ?_
     refine l_seq rfl (l_store (n := 5) (cs' := [.int .i64 (0), .int .i64 (0), .slice (none) (0) (0), .slice (none) (0) (0), .slice (none) (0) (0)]) hS 1000 rfl rfl rfl rfl rfl rfl rfl rfl ?_); clear hS; intro w hK hS; clear hK
     refine qq hS rfl (y_assign hS rfl) fun a hS => ?_
     apply wN
     apply wp_ret
     refine p_thenR ?_
     obtain rfl := Option.some.inj hg
     refine fin2 (fn := Try.f21) hS rfl (r_cell (kk := 1000) (n := 5) (vs := [.int .i64 (0), .int .i64 (0), .slice (none) (0) (0), .slice (none) (0) (0), .slice (none) (0) (0)]) hS rfl rfl Try.underlying26 rfl rfl rfl rfl) (r_tmp hS rfl) ?_
     exact ⟨(none), (0), (none), (0), (none), (0), rfl, (SlR.nil_ _ _ _), (SlR.nil_ _ _ _), (SlR.nil_ _ _ _)⟩
    ·replace hg := br_f hg hc211
     apply wp_skip
     refine p_norm ?_
     apply wR
     refine qq hS rfl (y_loadBox (kk := 3312) (n := 5) (vs := [.int .i64 (x77), .int .i64 (x80), .slice (Au74b1) ((r70.2.1).length) (cu74b1), .slice (A90) ((b_89).length) (c91), .slice (A170) ((b_169).length) (c171)]) hS rfl rfl Try.underlying26 rfl rfl rfl rfl) fun a hS => ?_
     refine l_seq rfl (l_store (n := 5) (cs' := [.int .i64 (x77), .int .i64 (x80), .slice (Au74b1) ((r70.2.1).length) (cu74b1), .slice (A90) ((b_89).length) (c91), .slice (A170) ((b_169).length) (c171)]) hS 1000 rfl rfl rfl rfl rfl rfl rfl rfl ?_); clear hS; intro w hK hS; clear hK
     refine qq hS rfl (y_assign hS rfl) fun a hS => ?_
     apply wN
     apply wp_ret
     obtain rfl := Option.some.inj hg
     refine fin2 (fn := Try.f21) hS rfl (r_cell (kk := 1000) (n := 5) (vs := [.int .i64 (x77), .int .i64 (x80), .slice (Au74b1) ((r70.2.1).length) (cu74b1), .slice (A90) ((b_89).length) (c91), .slice (A170) ((b_169).length) (c171)]) hS rfl rfl Try.underlying26 rfl rfl rfl rfl) (r_tmp hS rfl) ?_
     exact ⟨(Au74b1), (cu74b1), (A90), (c91), (A170), (c171), rfl, (hS.out (k := 156) rfl), (hS.rowOut (R := REP) (kk := 700157) rfl rfl (hS.fact (k := 158) rfl)), (hS.rowOut (R := RQeq) (kk := 700185) rfl rfl (hS.fact (k := 186) rfl))⟩
set_option maxHeartbeats 400000 in
theorem c_law42_chase (n : Nat) (M : Bs) (w0 : World) (hM : ∀ b, M b → b < w0.heap.size)  (r : MRS) (hg : law42_chase n = some r) :
    Calls Try.prog 20 [].toArray w0 (Ret noB w0 fun v w => ∃ (Aa3 : Option Addr), ∃ (ca3 : Nat), ∃ (Aa4 : Option Addr), ∃ (ca4 : Nat), ∃ (Aa5 : Option Addr), ∃ (ca5 : Nat), v = .agg #[.int .i64 (r.Top), .int .i64 (r.Index), .slice (Aa3) ((r.Vars).length) (ca3), .slice (Aa4) ((r.Rels).length) (ca4), .slice (Aa5) ((r.Cons).length) (ca5)] ∧ (SlR Rep.str M w Aa3 (r.Vars).length ca3 (r.Vars)) ∧ (SlR REP M w Aa4 (r.Rels).length ca4 (r.Rels)) ∧ (SlR RQeq M w Aa5 (r.Cons).length ca5 (r.Cons))) := by
 unfold law42_chase at hg
 refine enter M noB Try.func20 rfl rfl hM ?_
 intro a hS
 apply wR
 refine l_seq rfl (l_alloc (zs := [.int .i64 (0), .int .i64 (0), .slice (none) (0) (0), .slice (none) (0) (0), .slice (none) (0) (0)]) hS 1000 rfl rfl rfl rfl ?_); clear hS a; intro b2 a w hb hK hS
 clear hb hK
 apply wN
 apply wp_seq
 obtain ⟨r3, hr3, hg⟩ := bind_some hg
 apply wp_region_lit
 refine l_seq rfl (l_call (cap := []) hS rfl Try.func21 rfl (by kernel_rfl) rfl rfl (c_r39_Parse n _ _ hS.lt [104, 48, 32, 101, 49, 32, 123, 104, 50, 58, 101, 118, 101, 114, 121, 40, 65, 82, 71, 48, 32, 120, 51, 44, 32, 66, 79, 68, 89, 32, 104, 52, 44, 32, 82, 83, 84, 82, 32, 104, 53, 41, 59, 32, 104, 54, 58, 100, 111, 103, 40, 65, 82, 71, 48, 32, 120, 51, 41, 59, 32, 104, 55, 58, 115, 111, 109, 101, 40, 65, 82, 71, 48, 32, 120, 56, 44, 32, 66, 79, 68, 89, 32, 104, 57, 44, 32, 82, 83, 84, 82, 32, 104, 49, 48, 41, 59, 32, 104, 49, 49, 58, 99, 97, 116, 40, 65, 82, 71, 48, 32, 120, 56, 41, 59, 32, 104, 49, 50, 58, 99, 104, 97, 115, 101, 40, 65, 82, 71, 48, 32, 101, 49, 44, 32, 65, 82, 71, 49, 32, 120, 51, 44, 32, 65, 82, 71, 50, 32, 120, 56, 41, 125, 32, 123, 104, 48, 32, 113, 101, 113, 32, 104, 49, 50, 59, 32, 104, 53, 32, 113, 101, 113, 32, 104, 54, 59, 32, 104, 49, 48, 32, 113, 101, 113, 32, 104, 49, 49, 125] (by first | omega | (rw [List.length_append]; omega) | (simp only [List.length_append]; omega) | (simp only [List.length_append, List.length_take, List.length_drop, List.length_cons, List.length_nil]; omega)) r3 hr3) ?_); clear hS a; intro v7 a w hK hp hS
 clear hK
 obtain ⟨Au8a3, cu8a3, Au8a4, cu8a4, Au8a5, cu8a5, rfl, hu8a3, hu8a4, hu8a5⟩ := hp
 replace hS := hS.add 104 (slF Rep.str (Au8a3) ((r3.1.Vars).length) (cu8a3) (r3.1.Vars)) hu8a3
 replace hS := hS.add 105 (slF REP (Au8a4) ((r3.1.Rels).length) (cu8a4) (r3.1.Rels)) hu8a4
 replace hS := hS.add 106 (slF RQeq (Au8a5) ((r3.1.Cons).length) (cu8a5) (r3.1.Cons)) hu8a5
 refine qq hS rfl (y_move hS rfl) fun a hS => ?_
 refine qq hS rfl (y_extract hS rfl rfl) fun a hS => ?_
 refine qq hS rfl (y_extract hS rfl rfl) fun a hS => ?_
 refine l_seq rfl (l_alloc (zs := [.int .i64 (0), .int .i64 (0), .slice (none) (0) (0), .slice (none) (0) (0), .slice (none) (0) (0)]) hS 1104 rfl rfl rfl rfl ?_); clear hS a; intro b9 a w hb hK hS
 clear hb hK
 refine l_seq rfl (l_store (n := 5) (cs' := [.int .i64 (r3.1.Top), .int .i64 (r3.1.Index), .slice (Au8a3) ((r3.1.Vars).length) (cu8a3), .slice (Au8a4) ((r3.1.Rels).length) (cu8a4), .slice (Au8a5) ((r3.1.Cons).length) (cu8a5)]) hS 1104 rfl rfl rfl rfl rfl rfl rfl rfl ?_); clear hS; intro w hK hS; clear hK
 refine qq hS rfl (y_assign hS rfl) fun a hS => ?_
 apply wN
 apply wR
 refine qq hS rfl (y_loadBox (kk := 1104) (n := 5) (vs := [.int .i64 (r3.1.Top), .int .i64 (r3.1.Index), .slice (Au8a3) ((r3.1.Vars).length) (cu8a3), .slice (Au8a4) ((r3.1.Rels).length) (cu8a4), .slice (Au8a5) ((r3.1.Cons).length) (cu8a5)]) hS rfl rfl Try.underlying26 rfl rfl rfl rfl) fun a hS => ?_
 refine l_seq rfl (l_store (n := 5) (cs' := [.int .i64 (r3.1.Top), .int .i64 (r3.1.Index), .slice (Au8a3) ((r3.1.Vars).length) (cu8a3), .slice (Au8a4) ((r3.1.Rels).length) (cu8a4), .slice (Au8a5) ((r3.1.Cons).length) (cu8a5)]) hS 1000 rfl rfl rfl rfl rfl rfl rfl rfl ?_); clear hS; intro w hK hS; clear hK
 apply wN
 apply wp_ret
 obtain rfl := Option.some.inj hg
 refine fin1 (fn := Try.f20) hS rfl (r_cell (kk := 1000) (n := 5) (vs := [.int .i64 (r3.1.Top), .int .i64 (r3.1.Index), .slice (Au8a3) ((r3.1.Vars).length) (cu8a3), .slice (Au8a4) ((r3.1.Rels).length) (cu8a4), .slice (Au8a5) ((r3.1.Cons).length) (cu8a5)]) hS rfl rfl Try.underlying26 rfl rfl rfl rfl) ?_
 exact ⟨(Au8a3), (cu8a3), (Au8a4), (cu8a4), (Au8a5), (cu8a5), rfl, (hS.out (k := 104) rfl), (hS.out (k := 105) rfl), (hS.out (k := 106) rfl)⟩
set_option maxHeartbeats 400000 in
theorem c_law42_exampleHolds (n : Nat) (M : Bs) (w0 : World) (hM : ∀ b, M b → b < w0.heap.size)  (r : Bool) (hg : law42_exampleHolds n = some r) :
    Calls Try.prog 8 [].toArray w0 (Ret noB w0 fun v w => v = .bool (r)) := by
 unfold law42_exampleHolds at hg
 refine enter M noB Try.func8 rfl rfl hM ?_
 intro a hS
 apply wR
 refine qq hS rfl (y_assign hS rfl) fun a hS => ?_
 apply wN
 apply wp_seq
 obtain ⟨r1, hr1, hg⟩ := bind_some hg
 apply wp_region_lit
 refine l_seq rfl (l_call (cap := []) hS rfl Try.func20 rfl (by kernel_rfl) rfl rfl (c_law42_chase n _ _ hS.lt  r1 hr1) ?_); clear hS a; intro v5 a w hK hp hS
 clear hK
 obtain ⟨Au6a3, cu6a3, Au6a4, cu6a4, Au6a5, cu6a5, rfl, hu6a3, hu6a4, hu6a5⟩ := hp
 replace hS := hS.add 104 (slF Rep.str (Au6a3) ((r1.Vars).length) (cu6a3) (r1.Vars)) hu6a3
 replace hS := hS.add 105 (slF REP (Au6a4) ((r1.Rels).length) (cu6a4) (r1.Rels)) hu6a4
 replace hS := hS.add 106 (slF RQeq (Au6a5) ((r1.Cons).length) (cu6a5) (r1.Cons)) hu6a5
 refine l_seq rfl (l_alloc (zs := [.int .i64 (0), .int .i64 (0), .slice (none) (0) (0), .slice (none) (0) (0), .slice (none) (0) (0)]) hS 1101 rfl rfl rfl rfl ?_); clear hS a; intro b7 a w hb hK hS
 clear hb hK
 refine l_seq rfl (l_store (n := 5) (cs' := [.int .i64 (r1.Top), .int .i64 (r1.Index), .slice (Au6a3) ((r1.Vars).length) (cu6a3), .slice (Au6a4) ((r1.Rels).length) (cu6a4), .slice (Au6a5) ((r1.Cons).length) (cu6a5)]) hS 1101 rfl rfl rfl rfl rfl rfl rfl rfl ?_); clear hS; intro w hK hS; clear hK
 apply wN
 apply wp_seq
 obtain ⟨r8, hr8, hg⟩ := bind_some hg
 apply wp_region_lit
 refine qq hS rfl (y_loadBox (kk := 1101) (n := 5) (vs := [.int .i64 (r1.Top), .int .i64 (r1.Index), .slice (Au6a3) ((r1.Vars).length) (cu6a3), .slice (Au6a4) ((r1.Rels).length) (cu6a4), .slice (Au6a5) ((r1.Cons).length) (cu6a5)]) hS rfl rfl Try.underlying26 rfl rfl rfl rfl) fun a hS => ?_
 refine l_seq rfl (l_call (cap := []) hS rfl Try.func9 rfl (by kernel_rfl) rfl rfl (c_solve_All n _ _ hS.lt r1 (Au6a3) (cu6a3) (Au6a4) (cu6a4) (Au6a5) (cu6a5) (hS.fact (k := 104) rfl) (hS.fact (k := 105) rfl) (hS.fact (k := 106) rfl) 0 r8 hr8) ?_); clear hS a; intro v11 a w hK hp hS
 clear hK
 obtain ⟨Au12a1, cu12a1, rfl, hu12a1⟩ := hp
 replace hS := hS.add 108 (slF (Rep.list (Rep.num .i64)) (Au12a1) ((r8.1).length) (cu12a1) (r8.1)) hu12a1
 refine qq hS rfl (y_move hS rfl) fun a hS => ?_
 refine qq hS rfl (y_extract hS rfl rfl) fun a hS => ?_
 refine qq hS rfl (y_extract hS rfl rfl) fun a hS => ?_
 refine qq hS rfl (y_extract hS rfl rfl) fun a hS => ?_
 refine qq hS rfl (y_assign hS rfl) fun a hS => ?_
 refine qq hS rfl (y_assign hS rfl) fun a hS => ?_
 refine qq hS rfl (y_assign hS rfl) fun a hS => ?_
 apply wN
 apply wp_seq
 obtain ⟨r13, hr13, hg⟩ := bind_some hg
 apply wp_region_lit
 refine qq hS rfl (y_loadBox (kk := 1101) (n := 5) (vs := [.int .i64 (r1.Top), .int .i64 (r1.Index), .slice (Au6a3) ((r1.Vars).length) (cu6a3), .slice (Au6a4) ((r1.Rels).length) (cu6a4), .slice (Au6a5) ((r1.Cons).length) (cu6a5)]) hS rfl rfl Try.underlying26 rfl rfl rfl rfl) fun a hS => ?_
 refine l_seq rfl (l_call (cap := []) hS rfl Try.func9 rfl (by kernel_rfl) rfl rfl (c_solve_All n _ _ hS.lt r1 (Au6a3) (cu6a3) (Au6a4) (cu6a4) (Au6a5) (cu6a5) (hS.fact (k := 104) rfl) (hS.fact (k := 105) rfl) (hS.fact (k := 106) rfl) 1 r13 hr13) ?_); clear hS a; intro v16 a w hK hp hS
 clear hK
 obtain ⟨Au17a1, cu17a1, rfl, hu17a1⟩ := hp
 replace hS := hS.add 110 (slF (Rep.list (Rep.num .i64)) (Au17a1) ((r13.1).length) (cu17a1) (r13.1)) hu17a1
 refine qq hS rfl (y_move hS rfl) fun a hS => ?_
 refine qq hS rfl (y_extract hS rfl rfl) fun a hS => ?_
 refine qq hS rfl (y_extract hS rfl rfl) fun a hS => ?_
 refine qq hS rfl (y_extract hS rfl rfl) fun a hS => ?_
 refine qq hS rfl (y_assign hS rfl) fun a hS => ?_
 refine qq hS rfl (y_assign hS rfl) fun a hS => ?_
 refine qq hS rfl (y_assign hS rfl) fun a hS => ?_
 apply wN
 apply wp_seq
 obtain ⟨r18, hr18, hg⟩ := bind_some hg
 apply wp_region_lit
 refine qq hS rfl (y_loadBox (kk := 1101) (n := 5) (vs := [.int .i64 (r1.Top), .int .i64 (r1.Index), .slice (Au6a3) ((r1.Vars).length) (cu6a3), .slice (Au6a4) ((r1.Rels).length) (cu6a4), .slice (Au6a5) ((r1.Cons).length) (cu6a5)]) hS rfl rfl Try.underlying26 rfl rfl rfl rfl) fun a hS => ?_
 refine l_seq rfl (l_call (cap := []) hS rfl Try.func15 rfl (by kernel_rfl) rfl rfl (c_solve_First n _ _ hS.lt r1 (Au6a3) (cu6a3) (Au6a4) (cu6a4) (Au6a5) (cu6a5) (hS.fact (k := 104) rfl) (hS.fact (k := 105) rfl) (hS.fact (k := 106) rfl) r18 hr18) ?_); clear hS a; intro v21 a w hK hp hS
 clear hK
 obtain ⟨Au22a1, cu22a1, rfl, hu22a1⟩ := hp
 replace hS := hS.add 112 (slF (Rep.num .i64) (Au22a1) ((r18.1).length) (cu22a1) (r18.1)) hu22a1
 refine qq hS rfl (y_move hS rfl) fun a hS => ?_
 refine qq hS rfl (y_extract hS rfl rfl) fun a hS => ?_
 refine qq hS rfl (y_extract hS rfl rfl) fun a hS => ?_
 refine qq hS rfl (y_assign hS rfl) fun a hS => ?_
 refine qq hS rfl (y_assign hS rfl) fun a hS => ?_
 apply wN
 apply wp_seq
 obtain ⟨r23, hr23, hg⟩ := bind_some hg
 apply wp_region_lit
 refine qq hS rfl (y_loadBox (kk := 1101) (n := 5) (vs := [.int .i64 (r1.Top), .int .i64 (r1.Index), .slice (Au6a3) ((r1.Vars).length) (cu6a3), .slice (Au6a4) ((r1.Rels).length) (cu6a4), .slice (Au6a5) ((r1.Cons).length) (cu6a5)]) hS rfl rfl Try.underlying26 rfl rfl rfl rfl) fun a hS => ?_
 refine l_seq rfl (l_call (cap := []) hS rfl Try.func16 rfl (by kernel_rfl) rfl rfl (c_solve_Count n _ _ hS.lt r1 (Au6a3) (cu6a3) (Au6a4) (cu6a4) (Au6a5) (cu6a5) (hS.fact (k := 104) rfl) (hS.fact (k := 105) rfl) (hS.fact (k := 106) rfl) r23 hr23) ?_); clear hS a; intro v26 a w hK hp hS
 clear hK
 obtain rfl := hp
 refine qq hS rfl (y_move hS rfl) fun a hS => ?_
 refine qq hS rfl (y_extract hS rfl rfl) fun a hS => ?_
 refine qq hS rfl (y_extract hS rfl rfl) fun a hS => ?_
 refine qq hS rfl (y_assign hS rfl) fun a hS => ?_
 refine qq hS rfl (y_assign hS rfl) fun a hS => ?_
 apply wN
 apply wp_seq
 obtain ⟨r28, hr28, hg⟩ := bind_some hg
 apply wp_region_lit
 refine l_seq rfl (l_call (cap := []) hS rfl Try.func21 rfl (by kernel_rfl) rfl rfl (c_r39_Parse n _ _ hS.lt [104, 48, 32, 104, 48, 32, 123, 125, 32, 123, 125] (by first | omega | (rw [List.length_append]; omega) | (simp only [List.length_append]; omega) | (simp only [List.length_append, List.length_take, List.length_drop, List.length_cons, List.length_nil]; omega)) r28 hr28) ?_); clear hS a; intro v32 a w hK hp hS
 clear hK
 obtain ⟨Au33a3, cu33a3, Au33a4, cu33a4, Au33a5, cu33a5, rfl, hu33a3, hu33a4, hu33a5⟩ := hp
 replace hS := hS.add 116 (slF Rep.str (Au33a3) ((r28.1.Vars).length) (cu33a3) (r28.1.Vars)) hu33a3
 replace hS := hS.add 117 (slF REP (Au33a4) ((r28.1.Rels).length) (cu33a4) (r28.1.Rels)) hu33a4
 replace hS := hS.add 118 (slF RQeq (Au33a5) ((r28.1.Cons).length) (cu33a5) (r28.1.Cons)) hu33a5
 refine qq hS rfl (y_move hS rfl) fun a hS => ?_
 refine qq hS rfl (y_extract hS rfl rfl) fun a hS => ?_
 refine qq hS rfl (y_extract hS rfl rfl) fun a hS => ?_
 refine l_seq rfl (l_alloc (zs := [.int .i64 (0), .int .i64 (0), .slice (none) (0) (0), .slice (none) (0) (0), .slice (none) (0) (0)]) hS 1604 rfl rfl rfl rfl ?_); clear hS a; intro b34 a w hb hK hS
 clear hb hK
 refine l_seq rfl (l_store (n := 5) (cs' := [.int .i64 (r28.1.Top), .int .i64 (r28.1.Index), .slice (Au33a3) ((r28.1.Vars).length) (cu33a3), .slice (Au33a4) ((r28.1.Rels).length) (cu33a4), .slice (Au33a5) ((r28.1.Cons).length) (cu33a5)]) hS 1604 rfl rfl rfl rfl rfl rfl rfl rfl ?_); clear hS; intro w hK hS; clear hK
 refine qq hS rfl (y_assign hS rfl) fun a hS => ?_
 apply wN
 apply wp_seq
 obtain ⟨r35, hr35, hg⟩ := bind_some hg
 apply wp_region_lit
 refine qq hS rfl (y_loadBox (kk := 1604) (n := 5) (vs := [.int .i64 (r28.1.Top), .int .i64 (r28.1.Index), .slice (Au33a3) ((r28.1.Vars).length) (cu33a3), .slice (Au33a4) ((r28.1.Rels).length) (cu33a4), .slice (Au33a5) ((r28.1.Cons).length) (cu33a5)]) hS rfl rfl Try.underlying26 rfl rfl rfl rfl) fun a hS => ?_
 refine l_seq rfl (l_call (cap := []) hS rfl Try.func15 rfl (by kernel_rfl) rfl rfl (c_solve_First n _ _ hS.lt r28.1 (Au33a3) (cu33a3) (Au33a4) (cu33a4) (Au33a5) (cu33a5) (hS.fact (k := 116) rfl) (hS.fact (k := 117) rfl) (hS.fact (k := 118) rfl) r35 hr35) ?_); clear hS a; intro v38 a w hK hp hS
 clear hK
 obtain ⟨Au39a1, cu39a1, rfl, hu39a1⟩ := hp
 replace hS := hS.add 120 (slF (Rep.num .i64) (Au39a1) ((r35.1).length) (cu39a1) (r35.1)) hu39a1
 refine qq hS rfl (y_move hS rfl) fun a hS => ?_
 refine qq hS rfl (y_extract hS rfl rfl) fun a hS => ?_
 refine qq hS rfl (y_extract hS rfl rfl) fun a hS => ?_
 refine qq hS rfl (y_assign hS rfl) fun a hS => ?_
 refine qq hS rfl (y_assign hS rfl) fun a hS => ?_
 apply wN
 apply wp_seq
 rcases Decidable.em (r8.2.2 = 0) with hs40 | hs40
 ·have hs40e : decide (r8.2.2 = 0) = true := decide_eq_true hs40
  replace hg := br_t hg hs40
  rcases Bool.eq_false_or_eq_true (!(r8.2.1)) with hs41 | hs41
  ·replace hg := br_t hg hs41
   obtain ⟨r45, hr45, hg⟩ := bind_some hg
   rcases Bool.eq_false_or_eq_true (r45) with hs48 | hs48
   ·replace hg := br_t hg hs48
    rcases Decidable.em (r13.2.2 = 0) with hs49 | hs49
    ·have hs49e : decide (r13.2.2 = 0) = true := decide_eq_true hs49
     replace hg := br_t hg hs49
     rcases Bool.eq_false_or_eq_true (r13.2.1) with hs50 | hs50
     ·replace hg := br_t hg hs50
      rcases Decidable.em (((r13.1).length) = 1) with hs51 | hs51
      ·have hs51e : decide (((r13.1).length) = 1) = true := decide_eq_true hs51
       replace hg := br_t hg hs51
       rcases Decidable.em (r18.2 = 0) with hs52 | hs52
       ·have hs52e : decide (r18.2 = 0) = true := decide_eq_true hs52
        replace hg := br_t hg hs52
        obtain ⟨x54, hx54, hg⟩ := bind_some hg
        obtain ⟨r56, hr56, hg⟩ := bind_some hg
        rcases Bool.eq_false_or_eq_true (r56) with hs59 | hs59
        ·replace hg := br_t hg hs59
         rcases Decidable.em (r23.2 = 0) with hs60 | hs60
         ·have hs60e : decide (r23.2 = 0) = true := decide_eq_true hs60
          replace hg := br_t hg hs60
          rcases Decidable.em (r23.1 = 2) with hs61 | hs61
          ·have hs61e : decide (r23.1 = 2) = true := decide_eq_true hs61
           replace hg := br_t hg hs61
           apply wp_region_lit
           refine qq hS rfl (y_move hS rfl) fun a hS => ?_
           refine qq hS rfl (yl_b (y_eql hS rfl rfl) hs40e) fun a hS => ?_
           refine qq hS rfl (y_move hS rfl) fun a hS => ?_
           refine gy hS rfl (y_move hS rfl) fun a hS => ?_
           refine gy hS rfl (yl_b (y_not hS rfl) hs41) fun a hS => ?_
           refine qq hS rfl (y_pick_t hS rfl rfl) fun a hS => ?_
           refine qq hS rfl (y_move hS rfl) fun a hS => ?_
           refine gy hS rfl (y_move hS rfl) fun a hS => ?_
           refine gl hS rfl (l_buildDense (sz := 1) hS 1808 rfl rfl rfl Try.underlying33 rfl rfl rfl rfl rfl rfl rfl ?_); clear hS a; intro b62 a w hbb62 hK hS
           clear hbb62 hK
           refine gl hS rfl (l_buildDense (sz := 1) hS 1809 rfl rfl rfl Try.underlying33 rfl rfl rfl rfl rfl rfl rfl ?_); clear hS a; intro b63 a w hbb63 hK hS
           clear hbb63 hK
           replace hS := hS.add 128 (rdF (Rep.num .i64) (cellsOfL [.int .i64 (2), .int .i64 (7), .int .i64 (6), .int .i64 (12), .int .i64 (11)]) ([2, 7, 6, 12, 11])) (RdAll.cons (by exact rfl) (RdAll.cons (by exact rfl) (RdAll.cons (by exact rfl) (RdAll.cons (by exact rfl) (RdAll.cons (by exact rfl) (RdAll.nil _ _ _))))))
           replace hS := hS.freeze (R := (Rep.num .i64)) (kk := 1808) (L' := [(1101, Ob.box b7 [.int .i64 (r1.Top), .int .i64 (r1.Index), .slice (Au6a3) ((r1.Vars).length) (cu6a3), .slice (Au6a4) ((r1.Rels).length) (cu6a4), .slice (Au6a5) ((r1.Cons).length) (cu6a5)] 26), (1604, Ob.box b34 [.int .i64 (r28.1.Top), .int .i64 (r28.1.Index), .slice (Au33a3) ((r28.1.Vars).length) (cu33a3), .slice (Au33a4) ((r28.1.Rels).length) (cu33a4), .slice (Au33a5) ((r28.1.Cons).length) (cu33a5)] 26), (1809, Ob.row (some ⟨b63, 0, none⟩) (5) (5) 3 1 (cellsOfL [.int .i64 (7), .int .i64 (12), .int .i64 (6), .int .i64 (2), .int .i64 (11)]))]) 129 rfl rfl (hS.fact (k := 128) rfl) ⟨rfl, rfl, rfl, trivial⟩ rfl
           replace hS := hS.add 130 (rdF (Rep.num .i64) (cellsOfL [.int .i64 (7), .int .i64 (12), .int .i64 (6), .int .i64 (2), .int .i64 (11)]) ([7, 12, 6, 2, 11])) (RdAll.cons (by exact rfl) (RdAll.cons (by exact rfl) (RdAll.cons (by exact rfl) (RdAll.cons (by exact rfl) (RdAll.cons (by exact rfl) (RdAll.nil _ _ _))))))
           replace hS := hS.freeze (R := (Rep.num .i64)) (kk := 1809) (L' := [(1101, Ob.box b7 [.int .i64 (r1.Top), .int .i64 (r1.Index), .slice (Au6a3) ((r1.Vars).length) (cu6a3), .slice (Au6a4) ((r1.Rels).length) (cu6a4), .slice (Au6a5) ((r1.Cons).length) (cu6a5)] 26), (1604, Ob.box b34 [.int .i64 (r28.1.Top), .int .i64 (r28.1.Index), .slice (Au33a3) ((r28.1.Vars).length) (cu33a3), .slice (Au33a4) ((r28.1.Rels).length) (cu33a4), .slice (Au33a5) ((r28.1.Cons).length) (cu33a5)] 26)]) 131 rfl rfl (hS.fact (k := 130) rfl) ⟨rfl, rfl, trivial⟩ rfl
           refine gl hS rfl (l_buildDense (sz := 1) hS 1810 rfl rfl rfl Try.underlying29 rfl rfl rfl rfl rfl rfl rfl ?_); clear hS a; intro b64 a w hbb64 hK hS
           clear hbb64 hK
           replace hS := hS.add 132 (rdF (Rep.list (Rep.num .i64)) (cellsOfL [.slice (some ⟨b62, 0, none⟩) (5) (5), .slice (some ⟨b63, 0, none⟩) (5) (5)]) ([[2, 7, 6, 12, 11], [7, 12, 6, 2, 11]])) (RdAll.cons (by exact ⟨_, _, _, rfl, (hS.fact (k := 129) rfl)⟩) (RdAll.cons (by exact ⟨_, _, _, rfl, (hS.fact (k := 131) rfl)⟩) (RdAll.nil _ _ _)))
           have hT := hS
           replace hT := hT.fz (R := (Rep.list (Rep.num .i64))) (kk := 1810) [1101, 1604] 133 rfl rfl (hT.fact (k := 132) rfl) rfl
           refine gl hS rfl (l_call (cap := []) hS rfl Try.func14 rfl (by kernel_rfl) rfl rfl (c_r42_Same n _ _ hT.lt r8.1 (Au12a1) (cu12a1) (hT.fact (k := 108) rfl) [[2, 7, 6, 12, 11], [7, 12, 6, 2, 11]] (some ⟨b64, 0, none⟩) (2) (hT.fact (k := 133) rfl) r45 hr45) ?_); clear hS hT a; intro v65 a w hK hp hS
           clear hK
           obtain rfl := hp.trans (congrArg Value.bool hs48)
           refine qq hS rfl (y_pick_t hS rfl rfl) fun a hS => ?_
           refine qq hS rfl (y_move hS rfl) fun a hS => ?_
           refine gy hS rfl (y_move hS rfl) fun a hS => ?_
           refine gy hS rfl (yl_b (y_eql hS rfl rfl) hs49e) fun a hS => ?_
           refine qq hS rfl (y_pick_t hS rfl rfl) fun a hS => ?_
           refine qq hS rfl (y_move hS rfl) fun a hS => ?_
           refine gy hS rfl (yl_b (y_move hS rfl) hs50) fun a hS => ?_
           refine qq hS rfl (y_pick_t hS rfl rfl) fun a hS => ?_
           refine qq hS rfl (y_move hS rfl) fun a hS => ?_
           refine gy hS rfl (y_move hS rfl) fun a hS => ?_
           refine gy hS rfl (y_lenSlice hS rfl Try.underlying29) fun a hS => ?_
           refine gy hS rfl (yl_b (y_eqlN (i := ((r13.1).length)) (j := 1) hS rfl rfl) hs51e) fun a hS => ?_
           refine qq hS rfl (y_pick_t hS rfl rfl) fun a hS => ?_
           refine qq hS rfl (y_move hS rfl) fun a hS => ?_
           refine gy hS rfl (y_move hS rfl) fun a hS => ?_
           refine gy hS rfl (yl_b (y_eql hS rfl rfl) hs52e) fun a hS => ?_
           refine qq hS rfl (y_pick_t hS rfl rfl) fun a hS => ?_
           refine qq hS rfl (y_move hS rfl) fun a hS => ?_
           refine gy hS rfl (y_move hS rfl) fun a hS => ?_
           refine gy hS rfl (y_move hS rfl) fun a hS => ?_
           obtain ⟨p67, hep67, hpp67⟩ := SlR.elemX (hS.fact (k := 108) rfl) hx54
           refine gy hS rfl (y_elem (sz := 1) (i := 0) hS rfl rfl Try.underlying29 rfl hep67 rfl (lt_of_get hx54)) fun a hS => ?_
           obtain ⟨hlq68, hmq68, csq68, hdq68, hcq68⟩ := hpp67
           obtain ⟨Aq681, nnq68, cq681, rfl, hq681⟩ := hdq68
           obtain rfl := hq681.len
           replace hS := hS.add 134 (slF (Rep.num .i64) (Aq681) ((x54).length) (cq681) (x54)) hq681
           refine gy hS rfl (y_ldp1 hS rfl hlq68 hmq68 (hcq68 0 _ rfl) Try.underlying33 rfl) fun a hS => ?_
           refine gl hS rfl (l_call (cap := []) hS rfl Try.func17 rfl (by kernel_rfl) rfl rfl (c_r41_Same n _ _ hS.lt r18.1 (Au22a1) (cu22a1) (hS.fact (k := 112) rfl) x54 (Aq681) (cq681) (hS.fact (k := 134) rfl) r56 hr56) ?_); clear hS a; intro v69 a w hK hp hS
           clear hK
           obtain rfl := hp.trans (congrArg Value.bool hs59)
           refine qq hS rfl (y_pick_t hS rfl rfl) fun a hS => ?_
           refine qq hS rfl (y_move hS rfl) fun a hS => ?_
           refine gy hS rfl (y_move hS rfl) fun a hS => ?_
           refine gy hS rfl (yl_b (y_eql hS rfl rfl) hs60e) fun a hS => ?_
           refine qq hS rfl (y_pick_t hS rfl rfl) fun a hS => ?_
           refine qq hS rfl (y_move hS rfl) fun a hS => ?_
           refine gy hS rfl (y_move hS rfl) fun a hS => ?_
           refine gy hS rfl (yl_b (y_eql hS rfl rfl) hs61e) fun a hS => ?_
           refine qq hS rfl (y_pick_t hS rfl rfl) fun a hS => ?_
           refine qq hS rfl (y_move hS rfl) fun a hS => ?_
           refine gy hS rfl (y_move hS rfl) fun a hS => ?_
           refine gy hS rfl (y_eql hS rfl rfl) fun a hS => ?_
           refine qq hS rfl (y_pick_t hS rfl rfl) fun a hS => ?_
           refine qq hS rfl (y_assign hS rfl) fun a hS => ?_
           apply wN
           apply wp_ret
           obtain rfl := Option.some.inj hg
           refine fin1 (fn := Try.f8) hS rfl (r_tmp hS rfl) ?_
           exact rfl
          ·have hs61e : decide (r23.1 = 2) = false := decide_eq_false hs61
           replace hg := br_f hg hs61
           apply wp_region_lit
           refine qq hS rfl (y_move hS rfl) fun a hS => ?_
           refine qq hS rfl (yl_b (y_eql hS rfl rfl) hs40e) fun a hS => ?_
           refine qq hS rfl (y_move hS rfl) fun a hS => ?_
           refine gy hS rfl (y_move hS rfl) fun a hS => ?_
           refine gy hS rfl (yl_b (y_not hS rfl) hs41) fun a hS => ?_
           refine qq hS rfl (y_pick_t hS rfl rfl) fun a hS => ?_
           refine qq hS rfl (y_move hS rfl) fun a hS => ?_
           refine gy hS rfl (y_move hS rfl) fun a hS => ?_
           refine gl hS rfl (l_buildDense (sz := 1) hS 1808 rfl rfl rfl Try.underlying33 rfl rfl rfl rfl rfl rfl rfl ?_); clear hS a; intro b71 a w hbb71 hK hS
           clear hbb71 hK
           refine gl hS rfl (l_buildDense (sz := 1) hS 1809 rfl rfl rfl Try.underlying33 rfl rfl rfl rfl rfl rfl rfl ?_); clear hS a; intro b72 a w hbb72 hK hS
           clear hbb72 hK
           replace hS := hS.add 135 (rdF (Rep.num .i64) (cellsOfL [.int .i64 (2), .int .i64 (7), .int .i64 (6), .int .i64 (12), .int .i64 (11)]) ([2, 7, 6, 12, 11])) (RdAll.cons (by exact rfl) (RdAll.cons (by exact rfl) (RdAll.cons (by exact rfl) (RdAll.cons (by exact rfl) (RdAll.cons (by exact rfl) (RdAll.nil _ _ _))))))
           replace hS := hS.freeze (R := (Rep.num .i64)) (kk := 1808) (L' := [(1101, Ob.box b7 [.int .i64 (r1.Top), .int .i64 (r1.Index), .slice (Au6a3) ((r1.Vars).length) (cu6a3), .slice (Au6a4) ((r1.Rels).length) (cu6a4), .slice (Au6a5) ((r1.Cons).length) (cu6a5)] 26), (1604, Ob.box b34 [.int .i64 (r28.1.Top), .int .i64 (r28.1.Index), .slice (Au33a3) ((r28.1.Vars).length) (cu33a3), .slice (Au33a4) ((r28.1.Rels).length) (cu33a4), .slice (Au33a5) ((r28.1.Cons).length) (cu33a5)] 26), (1809, Ob.row (some ⟨b72, 0, none⟩) (5) (5) 3 1 (cellsOfL [.int .i64 (7), .int .i64 (12), .int .i64 (6), .int .i64 (2), .int .i64 (11)]))]) 136 rfl rfl (hS.fact (k := 135) rfl) ⟨rfl, rfl, rfl, trivial⟩ rfl
           replace hS := hS.add 137 (rdF (Rep.num .i64) (cellsOfL [.int .i64 (7), .int .i64 (12), .int .i64 (6), .int .i64 (2), .int .i64 (11)]) ([7, 12, 6, 2, 11])) (RdAll.cons (by exact rfl) (RdAll.cons (by exact rfl) (RdAll.cons (by exact rfl) (RdAll.cons (by exact rfl) (RdAll.cons (by exact rfl) (RdAll.nil _ _ _))))))
           replace hS := hS.freeze (R := (Rep.num .i64)) (kk := 1809) (L' := [(1101, Ob.box b7 [.int .i64 (r1.Top), .int .i64 (r1.Index), .slice (Au6a3) ((r1.Vars).length) (cu6a3), .slice (Au6a4) ((r1.Rels).length) (cu6a4), .slice (Au6a5) ((r1.Cons).length) (cu6a5)] 26), (1604, Ob.box b34 [.int .i64 (r28.1.Top), .int .i64 (r28.1.Index), .slice (Au33a3) ((r28.1.Vars).length) (cu33a3), .slice (Au33a4) ((r28.1.Rels).length) (cu33a4), .slice (Au33a5) ((r28.1.Cons).length) (cu33a5)] 26)]) 138 rfl rfl (hS.fact (k := 137) rfl) ⟨rfl, rfl, trivial⟩ rfl
           refine gl hS rfl (l_buildDense (sz := 1) hS 1810 rfl rfl rfl Try.underlying29 rfl rfl rfl rfl rfl rfl rfl ?_); clear hS a; intro b73 a w hbb73 hK hS
           clear hbb73 hK
           replace hS := hS.add 139 (rdF (Rep.list (Rep.num .i64)) (cellsOfL [.slice (some ⟨b71, 0, none⟩) (5) (5), .slice (some ⟨b72, 0, none⟩) (5) (5)]) ([[2, 7, 6, 12, 11], [7, 12, 6, 2, 11]])) (RdAll.cons (by exact ⟨_, _, _, rfl, (hS.fact (k := 136) rfl)⟩) (RdAll.cons (by exact ⟨_, _, _, rfl, (hS.fact (k := 138) rfl)⟩) (RdAll.nil _ _ _)))
           have hT := hS
           replace hT := hT.fz (R := (Rep.list (Rep.num .i64))) (kk := 1810) [1101, 1604] 140 rfl rfl (hT.fact (k := 139) rfl) rfl
           refine gl hS rfl (l_call (cap := []) hS rfl Try.func14 rfl (by kernel_rfl) rfl rfl (c_r42_Same n _ _ hT.lt r8.1 (Au12a1) (cu12a1) (hT.fact (k := 108) rfl) [[2, 7, 6, 12, 11], [7, 12, 6, 2, 11]] (some ⟨b73, 0, none⟩) (2) (hT.fact (k := 140) rfl) r45 hr45) ?_); clear hS hT a; intro v74 a w hK hp hS
           clear hK
           obtain rfl := hp.trans (congrArg Value.bool hs48)
           refine qq hS rfl (y_pick_t hS rfl rfl) fun a hS => ?_
           refine qq hS rfl (y_move hS rfl) fun a hS => ?_
           refine gy hS rfl (y_move hS rfl) fun a hS => ?_
           refine gy hS rfl (yl_b (y_eql hS rfl rfl) hs49e) fun a hS => ?_
           refine qq hS rfl (y_pick_t hS rfl rfl) fun a hS => ?_
           refine qq hS rfl (y_move hS rfl) fun a hS => ?_
           refine gy hS rfl (yl_b (y_move hS rfl) hs50) fun a hS => ?_
           refine qq hS rfl (y_pick_t hS rfl rfl) fun a hS => ?_
           refine qq hS rfl (y_move hS rfl) fun a hS => ?_
           refine gy hS rfl (y_move hS rfl) fun a hS => ?_
           refine gy hS rfl (y_lenSlice hS rfl Try.underlying29) fun a hS => ?_
           refine gy hS rfl (yl_b (y_eqlN (i := ((r13.1).length)) (j := 1) hS rfl rfl) hs51e) fun a hS => ?_
           refine qq hS rfl (y_pick_t hS rfl rfl) fun a hS => ?_
           refine qq hS rfl (y_move hS rfl) fun a hS => ?_
           refine gy hS rfl (y_move hS rfl) fun a hS => ?_
           refine gy hS rfl (yl_b (y_eql hS rfl rfl) hs52e) fun a hS => ?_
           refine qq hS rfl (y_pick_t hS rfl rfl) fun a hS => ?_
           refine qq hS rfl (y_move hS rfl) fun a hS => ?_
           refine gy hS rfl (y_move hS rfl) fun a hS => ?_
           refine gy hS rfl (y_move hS rfl) fun a hS => ?_
           obtain ⟨p76, hep76, hpp76⟩ := SlR.elemX (hS.fact (k := 108) rfl) hx54
           refine gy hS rfl (y_elem (sz := 1) (i := 0) hS rfl rfl Try.underlying29 rfl hep76 rfl (lt_of_get hx54)) fun a hS => ?_
           obtain ⟨hlq77, hmq77, csq77, hdq77, hcq77⟩ := hpp76
           obtain ⟨Aq771, nnq77, cq771, rfl, hq771⟩ := hdq77
           obtain rfl := hq771.len
           replace hS := hS.add 141 (slF (Rep.num .i64) (Aq771) ((x54).length) (cq771) (x54)) hq771
           refine gy hS rfl (y_ldp1 hS rfl hlq77 hmq77 (hcq77 0 _ rfl) Try.underlying33 rfl) fun a hS => ?_
           refine gl hS rfl (l_call (cap := []) hS rfl Try.func17 rfl (by kernel_rfl) rfl rfl (c_r41_Same n _ _ hS.lt r18.1 (Au22a1) (cu22a1) (hS.fact (k := 112) rfl) x54 (Aq771) (cq771) (hS.fact (k := 141) rfl) r56 hr56) ?_); clear hS a; intro v78 a w hK hp hS
           clear hK
           obtain rfl := hp.trans (congrArg Value.bool hs59)
           refine qq hS rfl (y_pick_t hS rfl rfl) fun a hS => ?_
           refine qq hS rfl (y_move hS rfl) fun a hS => ?_
           refine gy hS rfl (y_move hS rfl) fun a hS => ?_
           refine gy hS rfl (yl_b (y_eql hS rfl rfl) hs60e) fun a hS => ?_
           refine qq hS rfl (y_pick_t hS rfl rfl) fun a hS => ?_
           refine qq hS rfl (y_move hS rfl) fun a hS => ?_
           refine gy hS rfl (y_move hS rfl) fun a hS => ?_
           refine gy hS rfl (yl_b (y_eql hS rfl rfl) hs61e) fun a hS => ?_
           refine qq hS rfl (y_pick_t hS rfl rfl) fun a hS => ?_
           refine qq hS rfl (y_move hS rfl) fun a hS => ?_
           refine gn hS rfl fun a hS => ?_
           refine gn hS rfl fun a hS => ?_
           refine qq hS rfl (y_pick_f hS rfl rfl) fun a hS => ?_
           refine qq hS rfl (y_assign hS rfl) fun a hS => ?_
           apply wN
           apply wp_ret
           obtain rfl := Option.some.inj hg
           refine fin1 (fn := Try.f8) hS rfl (r_tmp hS rfl) ?_
           exact rfl
         ·have hs60e : decide (r23.2 = 0) = false := decide_eq_false hs60
          replace hg := br_f hg hs60
          apply wp_region_lit
          refine qq hS rfl (y_move hS rfl) fun a hS => ?_
          refine qq hS rfl (yl_b (y_eql hS rfl rfl) hs40e) fun a hS => ?_
          refine qq hS rfl (y_move hS rfl) fun a hS => ?_
          refine gy hS rfl (y_move hS rfl) fun a hS => ?_
          refine gy hS rfl (yl_b (y_not hS rfl) hs41) fun a hS => ?_
          refine qq hS rfl (y_pick_t hS rfl rfl) fun a hS => ?_
          refine qq hS rfl (y_move hS rfl) fun a hS => ?_
          refine gy hS rfl (y_move hS rfl) fun a hS => ?_
          refine gl hS rfl (l_buildDense (sz := 1) hS 1808 rfl rfl rfl Try.underlying33 rfl rfl rfl rfl rfl rfl rfl ?_); clear hS a; intro b80 a w hbb80 hK hS
          clear hbb80 hK
          refine gl hS rfl (l_buildDense (sz := 1) hS 1809 rfl rfl rfl Try.underlying33 rfl rfl rfl rfl rfl rfl rfl ?_); clear hS a; intro b81 a w hbb81 hK hS
          clear hbb81 hK
          replace hS := hS.add 142 (rdF (Rep.num .i64) (cellsOfL [.int .i64 (2), .int .i64 (7), .int .i64 (6), .int .i64 (12), .int .i64 (11)]) ([2, 7, 6, 12, 11])) (RdAll.cons (by exact rfl) (RdAll.cons (by exact rfl) (RdAll.cons (by exact rfl) (RdAll.cons (by exact rfl) (RdAll.cons (by exact rfl) (RdAll.nil _ _ _))))))
          replace hS := hS.freeze (R := (Rep.num .i64)) (kk := 1808) (L' := [(1101, Ob.box b7 [.int .i64 (r1.Top), .int .i64 (r1.Index), .slice (Au6a3) ((r1.Vars).length) (cu6a3), .slice (Au6a4) ((r1.Rels).length) (cu6a4), .slice (Au6a5) ((r1.Cons).length) (cu6a5)] 26), (1604, Ob.box b34 [.int .i64 (r28.1.Top), .int .i64 (r28.1.Index), .slice (Au33a3) ((r28.1.Vars).length) (cu33a3), .slice (Au33a4) ((r28.1.Rels).length) (cu33a4), .slice (Au33a5) ((r28.1.Cons).length) (cu33a5)] 26), (1809, Ob.row (some ⟨b81, 0, none⟩) (5) (5) 3 1 (cellsOfL [.int .i64 (7), .int .i64 (12), .int .i64 (6), .int .i64 (2), .int .i64 (11)]))]) 143 rfl rfl (hS.fact (k := 142) rfl) ⟨rfl, rfl, rfl, trivial⟩ rfl
          replace hS := hS.add 144 (rdF (Rep.num .i64) (cellsOfL [.int .i64 (7), .int .i64 (12), .int .i64 (6), .int .i64 (2), .int .i64 (11)]) ([7, 12, 6, 2, 11])) (RdAll.cons (by exact rfl) (RdAll.cons (by exact rfl) (RdAll.cons (by exact rfl) (RdAll.cons (by exact rfl) (RdAll.cons (by exact rfl) (RdAll.nil _ _ _))))))
          replace hS := hS.freeze (R := (Rep.num .i64)) (kk := 1809) (L' := [(1101, Ob.box b7 [.int .i64 (r1.Top), .int .i64 (r1.Index), .slice (Au6a3) ((r1.Vars).length) (cu6a3), .slice (Au6a4) ((r1.Rels).length) (cu6a4), .slice (Au6a5) ((r1.Cons).length) (cu6a5)] 26), (1604, Ob.box b34 [.int .i64 (r28.1.Top), .int .i64 (r28.1.Index), .slice (Au33a3) ((r28.1.Vars).length) (cu33a3), .slice (Au33a4) ((r28.1.Rels).length) (cu33a4), .slice (Au33a5) ((r28.1.Cons).length) (cu33a5)] 26)]) 145 rfl rfl (hS.fact (k := 144) rfl) ⟨rfl, rfl, trivial⟩ rfl
          refine gl hS rfl (l_buildDense (sz := 1) hS 1810 rfl rfl rfl Try.underlying29 rfl rfl rfl rfl rfl rfl rfl ?_); clear hS a; intro b82 a w hbb82 hK hS
          clear hbb82 hK
          replace hS := hS.add 146 (rdF (Rep.list (Rep.num .i64)) (cellsOfL [.slice (some ⟨b80, 0, none⟩) (5) (5), .slice (some ⟨b81, 0, none⟩) (5) (5)]) ([[2, 7, 6, 12, 11], [7, 12, 6, 2, 11]])) (RdAll.cons (by exact ⟨_, _, _, rfl, (hS.fact (k := 143) rfl)⟩) (RdAll.cons (by exact ⟨_, _, _, rfl, (hS.fact (k := 145) rfl)⟩) (RdAll.nil _ _ _)))
          have hT := hS
          replace hT := hT.fz (R := (Rep.list (Rep.num .i64))) (kk := 1810) [1101, 1604] 147 rfl rfl (hT.fact (k := 146) rfl) rfl
          refine gl hS rfl (l_call (cap := []) hS rfl Try.func14 rfl (by kernel_rfl) rfl rfl (c_r42_Same n _ _ hT.lt r8.1 (Au12a1) (cu12a1) (hT.fact (k := 108) rfl) [[2, 7, 6, 12, 11], [7, 12, 6, 2, 11]] (some ⟨b82, 0, none⟩) (2) (hT.fact (k := 147) rfl) r45 hr45) ?_); clear hS hT a; intro v83 a w hK hp hS
          clear hK
          obtain rfl := hp.trans (congrArg Value.bool hs48)
          refine qq hS rfl (y_pick_t hS rfl rfl) fun a hS => ?_
          refine qq hS rfl (y_move hS rfl) fun a hS => ?_
          refine gy hS rfl (y_move hS rfl) fun a hS => ?_
          refine gy hS rfl (yl_b (y_eql hS rfl rfl) hs49e) fun a hS => ?_
          refine qq hS rfl (y_pick_t hS rfl rfl) fun a hS => ?_
          refine qq hS rfl (y_move hS rfl) fun a hS => ?_
          refine gy hS rfl (yl_b (y_move hS rfl) hs50) fun a hS => ?_
          refine qq hS rfl (y_pick_t hS rfl rfl) fun a hS => ?_
          refine qq hS rfl (y_move hS rfl) fun a hS => ?_
          refine gy hS rfl (y_move hS rfl) fun a hS => ?_
          refine gy hS rfl (y_lenSlice hS rfl Try.underlying29) fun a hS => ?_
          refine gy hS rfl (yl_b (y_eqlN (i := ((r13.1).length)) (j := 1) hS rfl rfl) hs51e) fun a hS => ?_
          refine qq hS rfl (y_pick_t hS rfl rfl) fun a hS => ?_
          refine qq hS rfl (y_move hS rfl) fun a hS => ?_
          refine gy hS rfl (y_move hS rfl) fun a hS => ?_
          refine gy hS rfl (yl_b (y_eql hS rfl rfl) hs52e) fun a hS => ?_
          refine qq hS rfl (y_pick_t hS rfl rfl) fun a hS => ?_
          refine qq hS rfl (y_move hS rfl) fun a hS => ?_
          refine gy hS rfl (y_move hS rfl) fun a hS => ?_
          refine gy hS rfl (y_move hS rfl) fun a hS => ?_
          obtain ⟨p85, hep85, hpp85⟩ := SlR.elemX (hS.fact (k := 108) rfl) hx54
          refine gy hS rfl (y_elem (sz := 1) (i := 0) hS rfl rfl Try.underlying29 rfl hep85 rfl (lt_of_get hx54)) fun a hS => ?_
          obtain ⟨hlq86, hmq86, csq86, hdq86, hcq86⟩ := hpp85
          obtain ⟨Aq861, nnq86, cq861, rfl, hq861⟩ := hdq86
          obtain rfl := hq861.len
          replace hS := hS.add 148 (slF (Rep.num .i64) (Aq861) ((x54).length) (cq861) (x54)) hq861
          refine gy hS rfl (y_ldp1 hS rfl hlq86 hmq86 (hcq86 0 _ rfl) Try.underlying33 rfl) fun a hS => ?_
          refine gl hS rfl (l_call (cap := []) hS rfl Try.func17 rfl (by kernel_rfl) rfl rfl (c_r41_Same n _ _ hS.lt r18.1 (Au22a1) (cu22a1) (hS.fact (k := 112) rfl) x54 (Aq861) (cq861) (hS.fact (k := 148) rfl) r56 hr56) ?_); clear hS a; intro v87 a w hK hp hS
          clear hK
          obtain rfl := hp.trans (congrArg Value.bool hs59)
          refine qq hS rfl (y_pick_t hS rfl rfl) fun a hS => ?_
          refine qq hS rfl (y_move hS rfl) fun a hS => ?_
          refine gy hS rfl (y_move hS rfl) fun a hS => ?_
          refine gy hS rfl (yl_b (y_eql hS rfl rfl) hs60e) fun a hS => ?_
          refine qq hS rfl (y_pick_t hS rfl rfl) fun a hS => ?_
          refine qq hS rfl (y_move hS rfl) fun a hS => ?_
          refine gn hS rfl fun a hS => ?_
          refine gn hS rfl fun a hS => ?_
          refine qq hS rfl (y_pick_f hS rfl rfl) fun a hS => ?_
          refine qq hS rfl (y_move hS rfl) fun a hS => ?_
          refine gn hS rfl fun a hS => ?_
          refine gn hS rfl fun a hS => ?_
          refine qq hS rfl (y_pick_f hS rfl rfl) fun a hS => ?_
          refine qq hS rfl (y_assign hS rfl) fun a hS => ?_
          apply wN
          apply wp_ret
          obtain rfl := Option.some.inj hg
          refine fin1 (fn := Try.f8) hS rfl (r_tmp hS rfl) ?_
          exact rfl
        ·replace hg := br_f hg (by rw [hs59]; exact Bool.false_ne_true)
         apply wp_region_lit
         refine qq hS rfl (y_move hS rfl) fun a hS => ?_
         refine qq hS rfl (yl_b (y_eql hS rfl rfl) hs40e) fun a hS => ?_
         refine qq hS rfl (y_move hS rfl) fun a hS => ?_
         refine gy hS rfl (y_move hS rfl) fun a hS => ?_
         refine gy hS rfl (yl_b (y_not hS rfl) hs41) fun a hS => ?_
         refine qq hS rfl (y_pick_t hS rfl rfl) fun a hS => ?_
         refine qq hS rfl (y_move hS rfl) fun a hS => ?_
         refine gy hS rfl (y_move hS rfl) fun a hS => ?_
         refine gl hS rfl (l_buildDense (sz := 1) hS 1808 rfl rfl rfl Try.underlying33 rfl rfl rfl rfl rfl rfl rfl ?_); clear hS a; intro b89 a w hbb89 hK hS
         clear hbb89 hK
         refine gl hS rfl (l_buildDense (sz := 1) hS 1809 rfl rfl rfl Try.underlying33 rfl rfl rfl rfl rfl rfl rfl ?_); clear hS a; intro b90 a w hbb90 hK hS
         clear hbb90 hK
         replace hS := hS.add 149 (rdF (Rep.num .i64) (cellsOfL [.int .i64 (2), .int .i64 (7), .int .i64 (6), .int .i64 (12), .int .i64 (11)]) ([2, 7, 6, 12, 11])) (RdAll.cons (by exact rfl) (RdAll.cons (by exact rfl) (RdAll.cons (by exact rfl) (RdAll.cons (by exact rfl) (RdAll.cons (by exact rfl) (RdAll.nil _ _ _))))))
         replace hS := hS.freeze (R := (Rep.num .i64)) (kk := 1808) (L' := [(1101, Ob.box b7 [.int .i64 (r1.Top), .int .i64 (r1.Index), .slice (Au6a3) ((r1.Vars).length) (cu6a3), .slice (Au6a4) ((r1.Rels).length) (cu6a4), .slice (Au6a5) ((r1.Cons).length) (cu6a5)] 26), (1604, Ob.box b34 [.int .i64 (r28.1.Top), .int .i64 (r28.1.Index), .slice (Au33a3) ((r28.1.Vars).length) (cu33a3), .slice (Au33a4) ((r28.1.Rels).length) (cu33a4), .slice (Au33a5) ((r28.1.Cons).length) (cu33a5)] 26), (1809, Ob.row (some ⟨b90, 0, none⟩) (5) (5) 3 1 (cellsOfL [.int .i64 (7), .int .i64 (12), .int .i64 (6), .int .i64 (2), .int .i64 (11)]))]) 150 rfl rfl (hS.fact (k := 149) rfl) ⟨rfl, rfl, rfl, trivial⟩ rfl
         replace hS := hS.add 151 (rdF (Rep.num .i64) (cellsOfL [.int .i64 (7), .int .i64 (12), .int .i64 (6), .int .i64 (2), .int .i64 (11)]) ([7, 12, 6, 2, 11])) (RdAll.cons (by exact rfl) (RdAll.cons (by exact rfl) (RdAll.cons (by exact rfl) (RdAll.cons (by exact rfl) (RdAll.cons (by exact rfl) (RdAll.nil _ _ _))))))
         replace hS := hS.freeze (R := (Rep.num .i64)) (kk := 1809) (L' := [(1101, Ob.box b7 [.int .i64 (r1.Top), .int .i64 (r1.Index), .slice (Au6a3) ((r1.Vars).length) (cu6a3), .slice (Au6a4) ((r1.Rels).length) (cu6a4), .slice (Au6a5) ((r1.Cons).length) (cu6a5)] 26), (1604, Ob.box b34 [.int .i64 (r28.1.Top), .int .i64 (r28.1.Index), .slice (Au33a3) ((r28.1.Vars).length) (cu33a3), .slice (Au33a4) ((r28.1.Rels).length) (cu33a4), .slice (Au33a5) ((r28.1.Cons).length) (cu33a5)] 26)]) 152 rfl rfl (hS.fact (k := 151) rfl) ⟨rfl, rfl, trivial⟩ rfl
         refine gl hS rfl (l_buildDense (sz := 1) hS 1810 rfl rfl rfl Try.underlying29 rfl rfl rfl rfl rfl rfl rfl ?_); clear hS a; intro b91 a w hbb91 hK hS
         clear hbb91 hK
         replace hS := hS.add 153 (rdF (Rep.list (Rep.num .i64)) (cellsOfL [.slice (some ⟨b89, 0, none⟩) (5) (5), .slice (some ⟨b90, 0, none⟩) (5) (5)]) ([[2, 7, 6, 12, 11], [7, 12, 6, 2, 11]])) (RdAll.cons (by exact ⟨_, _, _, rfl, (hS.fact (k := 150) rfl)⟩) (RdAll.cons (by exact ⟨_, _, _, rfl, (hS.fact (k := 152) rfl)⟩) (RdAll.nil _ _ _)))
         have hT := hS
         replace hT := hT.fz (R := (Rep.list (Rep.num .i64))) (kk := 1810) [1101, 1604] 154 rfl rfl (hT.fact (k := 153) rfl) rfl
         refine gl hS rfl (l_call (cap := []) hS rfl Try.func14 rfl (by kernel_rfl) rfl rfl (c_r42_Same n _ _ hT.lt r8.1 (Au12a1) (cu12a1) (hT.fact (k := 108) rfl) [[2, 7, 6, 12, 11], [7, 12, 6, 2, 11]] (some ⟨b91, 0, none⟩) (2) (hT.fact (k := 154) rfl) r45 hr45) ?_); clear hS hT a; intro v92 a w hK hp hS
         clear hK
         obtain rfl := hp.trans (congrArg Value.bool hs48)
         refine qq hS rfl (y_pick_t hS rfl rfl) fun a hS => ?_
         refine qq hS rfl (y_move hS rfl) fun a hS => ?_
         refine gy hS rfl (y_move hS rfl) fun a hS => ?_
         refine gy hS rfl (yl_b (y_eql hS rfl rfl) hs49e) fun a hS => ?_
         refine qq hS rfl (y_pick_t hS rfl rfl) fun a hS => ?_
         refine qq hS rfl (y_move hS rfl) fun a hS => ?_
         refine gy hS rfl (yl_b (y_move hS rfl) hs50) fun a hS => ?_
         refine qq hS rfl (y_pick_t hS rfl rfl) fun a hS => ?_
         refine qq hS rfl (y_move hS rfl) fun a hS => ?_
         refine gy hS rfl (y_move hS rfl) fun a hS => ?_
         refine gy hS rfl (y_lenSlice hS rfl Try.underlying29) fun a hS => ?_
         refine gy hS rfl (yl_b (y_eqlN (i := ((r13.1).length)) (j := 1) hS rfl rfl) hs51e) fun a hS => ?_
         refine qq hS rfl (y_pick_t hS rfl rfl) fun a hS => ?_
         refine qq hS rfl (y_move hS rfl) fun a hS => ?_
         refine gy hS rfl (y_move hS rfl) fun a hS => ?_
         refine gy hS rfl (yl_b (y_eql hS rfl rfl) hs52e) fun a hS => ?_
         refine qq hS rfl (y_pick_t hS rfl rfl) fun a hS => ?_
         refine qq hS rfl (y_move hS rfl) fun a hS => ?_
         refine gy hS rfl (y_move hS rfl) fun a hS => ?_
         refine gy hS rfl (y_move hS rfl) fun a hS => ?_
         obtain ⟨p94, hep94, hpp94⟩ := SlR.elemX (hS.fact (k := 108) rfl) hx54
         refine gy hS rfl (y_elem (sz := 1) (i := 0) hS rfl rfl Try.underlying29 rfl hep94 rfl (lt_of_get hx54)) fun a hS => ?_
         obtain ⟨hlq95, hmq95, csq95, hdq95, hcq95⟩ := hpp94
         obtain ⟨Aq951, nnq95, cq951, rfl, hq951⟩ := hdq95
         obtain rfl := hq951.len
         replace hS := hS.add 155 (slF (Rep.num .i64) (Aq951) ((x54).length) (cq951) (x54)) hq951
         refine gy hS rfl (y_ldp1 hS rfl hlq95 hmq95 (hcq95 0 _ rfl) Try.underlying33 rfl) fun a hS => ?_
         refine gl hS rfl (l_call (cap := []) hS rfl Try.func17 rfl (by kernel_rfl) rfl rfl (c_r41_Same n _ _ hS.lt r18.1 (Au22a1) (cu22a1) (hS.fact (k := 112) rfl) x54 (Aq951) (cq951) (hS.fact (k := 155) rfl) r56 hr56) ?_); clear hS a; intro v96 a w hK hp hS
         clear hK
         obtain rfl := hp.trans (congrArg Value.bool hs59)
         refine qq hS rfl (y_pick_t hS rfl rfl) fun a hS => ?_
         refine qq hS rfl (y_move hS rfl) fun a hS => ?_
         refine gn hS rfl fun a hS => ?_
         refine gn hS rfl fun a hS => ?_
         refine qq hS rfl (y_pick_f hS rfl rfl) fun a hS => ?_
         refine qq hS rfl (y_move hS rfl) fun a hS => ?_
         refine gn hS rfl fun a hS => ?_
         refine gn hS rfl fun a hS => ?_
         refine qq hS rfl (y_pick_f hS rfl rfl) fun a hS => ?_
         refine qq hS rfl (y_move hS rfl) fun a hS => ?_
         refine gn hS rfl fun a hS => ?_
         refine gn hS rfl fun a hS => ?_
         refine qq hS rfl (y_pick_f hS rfl rfl) fun a hS => ?_
         refine qq hS rfl (y_assign hS rfl) fun a hS => ?_
         apply wN
         apply wp_ret
         obtain rfl := Option.some.inj hg
         refine fin1 (fn := Try.f8) hS rfl (r_tmp hS rfl) ?_
         exact rfl
       ·have hs52e : decide (r18.2 = 0) = false := decide_eq_false hs52
        replace hg := br_f hg hs52
        apply wp_region_lit
        refine qq hS rfl (y_move hS rfl) fun a hS => ?_
        refine qq hS rfl (yl_b (y_eql hS rfl rfl) hs40e) fun a hS => ?_
        refine qq hS rfl (y_move hS rfl) fun a hS => ?_
        refine gy hS rfl (y_move hS rfl) fun a hS => ?_
        refine gy hS rfl (yl_b (y_not hS rfl) hs41) fun a hS => ?_
        refine qq hS rfl (y_pick_t hS rfl rfl) fun a hS => ?_
        refine qq hS rfl (y_move hS rfl) fun a hS => ?_
        refine gy hS rfl (y_move hS rfl) fun a hS => ?_
        refine gl hS rfl (l_buildDense (sz := 1) hS 1808 rfl rfl rfl Try.underlying33 rfl rfl rfl rfl rfl rfl rfl ?_); clear hS a; intro b98 a w hbb98 hK hS
        clear hbb98 hK
        refine gl hS rfl (l_buildDense (sz := 1) hS 1809 rfl rfl rfl Try.underlying33 rfl rfl rfl rfl rfl rfl rfl ?_); clear hS a; intro b99 a w hbb99 hK hS
        clear hbb99 hK
        replace hS := hS.add 156 (rdF (Rep.num .i64) (cellsOfL [.int .i64 (2), .int .i64 (7), .int .i64 (6), .int .i64 (12), .int .i64 (11)]) ([2, 7, 6, 12, 11])) (RdAll.cons (by exact rfl) (RdAll.cons (by exact rfl) (RdAll.cons (by exact rfl) (RdAll.cons (by exact rfl) (RdAll.cons (by exact rfl) (RdAll.nil _ _ _))))))
        replace hS := hS.freeze (R := (Rep.num .i64)) (kk := 1808) (L' := [(1101, Ob.box b7 [.int .i64 (r1.Top), .int .i64 (r1.Index), .slice (Au6a3) ((r1.Vars).length) (cu6a3), .slice (Au6a4) ((r1.Rels).length) (cu6a4), .slice (Au6a5) ((r1.Cons).length) (cu6a5)] 26), (1604, Ob.box b34 [.int .i64 (r28.1.Top), .int .i64 (r28.1.Index), .slice (Au33a3) ((r28.1.Vars).length) (cu33a3), .slice (Au33a4) ((r28.1.Rels).length) (cu33a4), .slice (Au33a5) ((r28.1.Cons).length) (cu33a5)] 26), (1809, Ob.row (some ⟨b99, 0, none⟩) (5) (5) 3 1 (cellsOfL [.int .i64 (7), .int .i64 (12), .int .i64 (6), .int .i64 (2), .int .i64 (11)]))]) 157 rfl rfl (hS.fact (k := 156) rfl) ⟨rfl, rfl, rfl, trivial⟩ rfl
        replace hS := hS.add 158 (rdF (Rep.num .i64) (cellsOfL [.int .i64 (7), .int .i64 (12), .int .i64 (6), .int .i64 (2), .int .i64 (11)]) ([7, 12, 6, 2, 11])) (RdAll.cons (by exact rfl) (RdAll.cons (by exact rfl) (RdAll.cons (by exact rfl) (RdAll.cons (by exact rfl) (RdAll.cons (by exact rfl) (RdAll.nil _ _ _))))))
        replace hS := hS.freeze (R := (Rep.num .i64)) (kk := 1809) (L' := [(1101, Ob.box b7 [.int .i64 (r1.Top), .int .i64 (r1.Index), .slice (Au6a3) ((r1.Vars).length) (cu6a3), .slice (Au6a4) ((r1.Rels).length) (cu6a4), .slice (Au6a5) ((r1.Cons).length) (cu6a5)] 26), (1604, Ob.box b34 [.int .i64 (r28.1.Top), .int .i64 (r28.1.Index), .slice (Au33a3) ((r28.1.Vars).length) (cu33a3), .slice (Au33a4) ((r28.1.Rels).length) (cu33a4), .slice (Au33a5) ((r28.1.Cons).length) (cu33a5)] 26)]) 159 rfl rfl (hS.fact (k := 158) rfl) ⟨rfl, rfl, trivial⟩ rfl
        refine gl hS rfl (l_buildDense (sz := 1) hS 1810 rfl rfl rfl Try.underlying29 rfl rfl rfl rfl rfl rfl rfl ?_); clear hS a; intro b100 a w hbb100 hK hS
        clear hbb100
        clear hK
        replace hS := hS.add 160 (rdF (Rep.list (Rep.num .i64)) (cellsOfL [.slice (some ⟨b98, 0, none⟩) (5) (5), .slice (some ⟨b99, 0, none⟩) (5) (5)]) ([[2, 7, 6, 12, 11], [7, 12, 6, 2, 11]])) (RdAll.cons (by exact ⟨_, _, _, rfl, (hS.fact (k := 157) rfl)⟩) (RdAll.cons (by exact ⟨_, _, _, rfl, (hS.fact (k := 159) rfl)⟩) (RdAll.nil _ _ _)))
        have hT := hS
        replace hT := hT.fz (R := (Rep.list (Rep.num .i64))) (kk := 1810) [1101, 1604] 161 rfl rfl (hT.fact (k := 160) rfl) rfl
        refine gl hS rfl (l_call (cap := []) hS rfl Try.func14 rfl (by kernel_rfl) rfl rfl (c_r42_Same n _ _ hT.lt r8.1 (Au12a1) (cu12a1) (hT.fact (k := 108) rfl) [[2, 7, 6, 12, 11], [7, 12, 6, 2, 11]] (some ⟨b100, 0, none⟩) (2) (hT.fact (k := 161) rfl) r45 hr45) ?_); clear hS hT a; intro v101 a w hK hp hS
        clear hK
        obtain rfl := hp.trans (congrArg Value.bool hs48)
        refine qq hS rfl (y_pick_t hS rfl rfl) fun a hS => ?_
        refine qq hS rfl (y_move hS rfl) fun a hS => ?_
        refine gy hS rfl (y_move hS rfl) fun a hS => ?_
        refine gy hS rfl (yl_b (y_eql hS rfl rfl) hs49e) fun a hS => ?_
        refine qq hS rfl (y_pick_t hS rfl rfl) fun a hS => ?_
        refine qq hS rfl (y_move hS rfl) fun a hS => ?_
        refine gy hS rfl (yl_b (y_move hS rfl) hs50) fun a hS => ?_
        refine qq hS rfl (y_pick_t hS rfl rfl) fun a hS => ?_
        refine qq hS rfl (y_move hS rfl) fun a hS => ?_
        refine gy hS rfl (y_move hS rfl) fun a hS => ?_
        refine gy hS rfl (y_lenSlice hS rfl Try.underlying29) fun a hS => ?_
        refine gy hS rfl (yl_b (y_eqlN (i := ((r13.1).length)) (j := 1) hS rfl rfl) hs51e) fun a hS => ?_
        refine qq hS rfl (y_pick_t hS rfl rfl) fun a hS => ?_
        refine qq hS rfl (y_move hS rfl) fun a hS => ?_
        refine gy hS rfl (y_move hS rfl) fun a hS => ?_
        refine gy hS rfl (yl_b (y_eql hS rfl rfl) hs52e) fun a hS => ?_
        refine qq hS rfl (y_pick_t hS rfl rfl) fun a hS => ?_
        refine qq hS rfl (y_move hS rfl) fun a hS => ?_
        refine gn hS rfl fun a hS => ?_
        refine gn hS rfl fun a hS => ?_
        refine gn hS rfl fun a hS => ?_
        refine gn hS rfl fun a hS => ?_
        refine gn hS rfl fun a hS => ?_
        refine qq hS rfl (y_pick_f hS rfl rfl) fun a hS => ?_
        refine qq hS rfl (y_move hS rfl) fun a hS => ?_
        refine gn hS rfl fun a hS => ?_
        refine gn hS rfl fun a hS => ?_
        refine qq hS rfl (y_pick_f hS rfl rfl) fun a hS => ?_
        refine qq hS rfl (y_move hS rfl) fun a hS => ?_
        refine gn hS rfl fun a hS => ?_
        refine gn hS rfl fun a hS => ?_
        refine qq hS rfl (y_pick_f hS rfl rfl) fun a hS => ?_
        refine qq hS rfl (y_move hS rfl) fun a hS => ?_
        refine gn hS rfl fun a hS => ?_
        refine gn hS rfl fun a hS => ?_
        refine qq hS rfl (y_pick_f hS rfl rfl) fun a hS => ?_
        refine qq hS rfl (y_assign hS rfl) fun a hS => ?_
        apply wN
        apply wp_ret
        obtain rfl := Option.some.inj hg
        refine fin1 (fn := Try.f8) hS rfl (r_tmp hS rfl) ?_
        exact rfl
      ·have hs51e : decide (((r13.1).length) = 1) = false := decide_eq_false hs51
       replace hg := br_f hg hs51
       apply wp_region_lit
       refine qq hS rfl (y_move hS rfl) fun a hS => ?_
       refine qq hS rfl (yl_b (y_eql hS rfl rfl) hs40e) fun a hS => ?_
       refine qq hS rfl (y_move hS rfl) fun a hS => ?_
       refine gy hS rfl (y_move hS rfl) fun a hS => ?_
       refine gy hS rfl (yl_b (y_not hS rfl) hs41) fun a hS => ?_
       refine qq hS rfl (y_pick_t hS rfl rfl) fun a hS => ?_
       refine qq hS rfl (y_move hS rfl) fun a hS => ?_
       refine gy hS rfl (y_move hS rfl) fun a hS => ?_
       refine gl hS rfl (l_buildDense (sz := 1) hS 1808 rfl rfl rfl Try.underlying33 rfl rfl rfl rfl rfl rfl rfl ?_); clear hS a; intro b103 a w hbb103 hK hS
       clear hbb103
       clear hK
       refine gl hS rfl (l_buildDense (sz := 1) hS 1809 rfl rfl rfl Try.underlying33 rfl rfl rfl rfl rfl rfl rfl ?_); clear hS a; intro b104 a w hbb104 hK hS
       clear hbb104
       clear hK
       replace hS := hS.add 162 (rdF (Rep.num .i64) (cellsOfL [.int .i64 (2), .int .i64 (7), .int .i64 (6), .int .i64 (12), .int .i64 (11)]) ([2, 7, 6, 12, 11])) (RdAll.cons (by exact rfl) (RdAll.cons (by exact rfl) (RdAll.cons (by exact rfl) (RdAll.cons (by exact rfl) (RdAll.cons (by exact rfl) (RdAll.nil _ _ _))))))
       replace hS := hS.freeze (R := (Rep.num .i64)) (kk := 1808) (L' := [(1101, Ob.box b7 [.int .i64 (r1.Top), .int .i64 (r1.Index), .slice (Au6a3) ((r1.Vars).length) (cu6a3), .slice (Au6a4) ((r1.Rels).length) (cu6a4), .slice (Au6a5) ((r1.Cons).length) (cu6a5)] 26), (1604, Ob.box b34 [.int .i64 (r28.1.Top), .int .i64 (r28.1.Index), .slice (Au33a3) ((r28.1.Vars).length) (cu33a3), .slice (Au33a4) ((r28.1.Rels).length) (cu33a4), .slice (Au33a5) ((r28.1.Cons).length) (cu33a5)] 26), (1809, Ob.row (some ⟨b104, 0, none⟩) (5) (5) 3 1 (cellsOfL [.int .i64 (7), .int .i64 (12), .int .i64 (6), .int .i64 (2), .int .i64 (11)]))]) 163 rfl rfl (hS.fact (k := 162) rfl) ⟨rfl, rfl, rfl, trivial⟩ rfl
       replace hS := hS.add 164 (rdF (Rep.num .i64) (cellsOfL [.int .i64 (7), .int .i64 (12), .int .i64 (6), .int .i64 (2), .int .i64 (11)]) ([7, 12, 6, 2, 11])) (RdAll.cons (by exact rfl) (RdAll.cons (by exact rfl) (RdAll.cons (by exact rfl) (RdAll.cons (by exact rfl) (RdAll.cons (by exact rfl) (RdAll.nil _ _ _))))))
       replace hS := hS.freeze (R := (Rep.num .i64)) (kk := 1809) (L' := [(1101, Ob.box b7 [.int .i64 (r1.Top), .int .i64 (r1.Index), .slice (Au6a3) ((r1.Vars).length) (cu6a3), .slice (Au6a4) ((r1.Rels).length) (cu6a4), .slice (Au6a5) ((r1.Cons).length) (cu6a5)] 26), (1604, Ob.box b34 [.int .i64 (r28.1.Top), .int .i64 (r28.1.Index), .slice (Au33a3) ((r28.1.Vars).length) (cu33a3), .slice (Au33a4) ((r28.1.Rels).length) (cu33a4), .slice (Au33a5) ((r28.1.Cons).length) (cu33a5)] 26)]) 165 rfl rfl (hS.fact (k := 164) rfl) ⟨rfl, rfl, trivial⟩ rfl
       refine gl hS rfl (l_buildDense (sz := 1) hS 1810 rfl rfl rfl Try.underlying29 rfl rfl rfl rfl rfl rfl rfl ?_); clear hS a; intro b105 a w hbb105 hK hS
       clear hbb105
       clear hK
       replace hS := hS.add 166 (rdF (Rep.list (Rep.num .i64)) (cellsOfL [.slice (some ⟨b103, 0, none⟩) (5) (5), .slice (some ⟨b104, 0, none⟩) (5) (5)]) ([[2, 7, 6, 12, 11], [7, 12, 6, 2, 11]])) (RdAll.cons (by exact ⟨_, _, _, rfl, (hS.fact (k := 163) rfl)⟩) (RdAll.cons (by exact ⟨_, _, _, rfl, (hS.fact (k := 165) rfl)⟩) (RdAll.nil _ _ _)))
       have hT := hS
       replace hT := hT.fz (R := (Rep.list (Rep.num .i64))) (kk := 1810) [1101, 1604] 167 rfl rfl (hT.fact (k := 166) rfl) rfl
       refine gl hS rfl (l_call (cap := []) hS rfl Try.func14 rfl (by kernel_rfl) rfl rfl (c_r42_Same n _ _ hT.lt r8.1 (Au12a1) (cu12a1) (hT.fact (k := 108) rfl) [[2, 7, 6, 12, 11], [7, 12, 6, 2, 11]] (some ⟨b105, 0, none⟩) (2) (hT.fact (k := 167) rfl) r45 hr45) ?_); clear hS hT a; intro v106 a w hK hp hS
       clear hK
       obtain rfl := hp.trans (congrArg Value.bool hs48)
       refine qq hS rfl (y_pick_t hS rfl rfl) fun a hS => ?_
       refine qq hS rfl (y_move hS rfl) fun a hS => ?_
       refine gy hS rfl (y_move hS rfl) fun a hS => ?_
       refine gy hS rfl (yl_b (y_eql hS rfl rfl) hs49e) fun a hS => ?_
       refine qq hS rfl (y_pick_t hS rfl rfl) fun a hS => ?_
       refine qq hS rfl (y_move hS rfl) fun a hS => ?_
       refine gy hS rfl (yl_b (y_move hS rfl) hs50) fun a hS => ?_
       refine qq hS rfl (y_pick_t hS rfl rfl) fun a hS => ?_
       refine qq hS rfl (y_move hS rfl) fun a hS => ?_
       refine gy hS rfl (y_move hS rfl) fun a hS => ?_
       refine gy hS rfl (y_lenSlice hS rfl Try.underlying29) fun a hS => ?_
       refine gy hS rfl (yl_b (y_eqlN (i := ((r13.1).length)) (j := 1) hS rfl rfl) hs51e) fun a hS => ?_
       refine qq hS rfl (y_pick_t hS rfl rfl) fun a hS => ?_
       refine qq hS rfl (y_move hS rfl) fun a hS => ?_
       refine gn hS rfl fun a hS => ?_
       refine gn hS rfl fun a hS => ?_
       refine qq hS rfl (y_pick_f hS rfl rfl) fun a hS => ?_
       refine qq hS rfl (y_move hS rfl) fun a hS => ?_
       refine gn hS rfl fun a hS => ?_
       refine gn hS rfl fun a hS => ?_
       refine gn hS rfl fun a hS => ?_
       refine gn hS rfl fun a hS => ?_
       refine gn hS rfl fun a hS => ?_
       refine qq hS rfl (y_pick_f hS rfl rfl) fun a hS => ?_
       refine qq hS rfl (y_move hS rfl) fun a hS => ?_
       refine gn hS rfl fun a hS => ?_
       refine gn hS rfl fun a hS => ?_
       refine qq hS rfl (y_pick_f hS rfl rfl) fun a hS => ?_
       refine qq hS rfl (y_move hS rfl) fun a hS => ?_
       refine gn hS rfl fun a hS => ?_
       refine gn hS rfl fun a hS => ?_
       refine qq hS rfl (y_pick_f hS rfl rfl) fun a hS => ?_
       refine qq hS rfl (y_move hS rfl) fun a hS => ?_
       refine gn hS rfl fun a hS => ?_
       refine gn hS rfl fun a hS => ?_
       refine qq hS rfl (y_pick_f hS rfl rfl) fun a hS => ?_
       refine qq hS rfl (y_assign hS rfl) fun a hS => ?_
       apply wN
       apply wp_ret
       obtain rfl := Option.some.inj hg
       refine fin1 (fn := Try.f8) hS rfl (r_tmp hS rfl) ?_
       exact rfl
     ·replace hg := br_f hg (by rw [hs50]; exact Bool.false_ne_true)
      apply wp_region_lit
      refine qq hS rfl (y_move hS rfl) fun a hS => ?_
      refine qq hS rfl (yl_b (y_eql hS rfl rfl) hs40e) fun a hS => ?_
      refine qq hS rfl (y_move hS rfl) fun a hS => ?_
      refine gy hS rfl (y_move hS rfl) fun a hS => ?_
      refine gy hS rfl (yl_b (y_not hS rfl) hs41) fun a hS => ?_
      refine qq hS rfl (y_pick_t hS rfl rfl) fun a hS => ?_
      refine qq hS rfl (y_move hS rfl) fun a hS => ?_
      refine gy hS rfl (y_move hS rfl) fun a hS => ?_
      refine gl hS rfl (l_buildDense (sz := 1) hS 1808 rfl rfl rfl Try.underlying33 rfl rfl rfl rfl rfl rfl rfl ?_); clear hS a; intro b108 a w hbb108 hK hS
      clear hbb108
      clear hK
      refine gl hS rfl (l_buildDense (sz := 1) hS 1809 rfl rfl rfl Try.underlying33 rfl rfl rfl rfl rfl rfl rfl ?_); clear hS a; intro b109 a w hbb109 hK hS
      clear hbb109
      clear hK
      replace hS := hS.add 168 (rdF (Rep.num .i64) (cellsOfL [.int .i64 (2), .int .i64 (7), .int .i64 (6), .int .i64 (12), .int .i64 (11)]) ([2, 7, 6, 12, 11])) (RdAll.cons (by exact rfl) (RdAll.cons (by exact rfl) (RdAll.cons (by exact rfl) (RdAll.cons (by exact rfl) (RdAll.cons (by exact rfl) (RdAll.nil _ _ _))))))
      replace hS := hS.freeze (R := (Rep.num .i64)) (kk := 1808) (L' := [(1101, Ob.box b7 [.int .i64 (r1.Top), .int .i64 (r1.Index), .slice (Au6a3) ((r1.Vars).length) (cu6a3), .slice (Au6a4) ((r1.Rels).length) (cu6a4), .slice (Au6a5) ((r1.Cons).length) (cu6a5)] 26), (1604, Ob.box b34 [.int .i64 (r28.1.Top), .int .i64 (r28.1.Index), .slice (Au33a3) ((r28.1.Vars).length) (cu33a3), .slice (Au33a4) ((r28.1.Rels).length) (cu33a4), .slice (Au33a5) ((r28.1.Cons).length) (cu33a5)] 26), (1809, Ob.row (some ⟨b109, 0, none⟩) (5) (5) 3 1 (cellsOfL [.int .i64 (7), .int .i64 (12), .int .i64 (6), .int .i64 (2), .int .i64 (11)]))]) 169 rfl rfl (hS.fact (k := 168) rfl) ⟨rfl, rfl, rfl, trivial⟩ rfl
      replace hS := hS.add 170 (rdF (Rep.num .i64) (cellsOfL [.int .i64 (7), .int .i64 (12), .int .i64 (6), .int .i64 (2), .int .i64 (11)]) ([7, 12, 6, 2, 11])) (RdAll.cons (by exact rfl) (RdAll.cons (by exact rfl) (RdAll.cons (by exact rfl) (RdAll.cons (by exact rfl) (RdAll.cons (by exact rfl) (RdAll.nil _ _ _))))))
      replace hS := hS.freeze (R := (Rep.num .i64)) (kk := 1809) (L' := [(1101, Ob.box b7 [.int .i64 (r1.Top), .int .i64 (r1.Index), .slice (Au6a3) ((r1.Vars).length) (cu6a3), .slice (Au6a4) ((r1.Rels).length) (cu6a4), .slice (Au6a5) ((r1.Cons).length) (cu6a5)] 26), (1604, Ob.box b34 [.int .i64 (r28.1.Top), .int .i64 (r28.1.Index), .slice (Au33a3) ((r28.1.Vars).length) (cu33a3), .slice (Au33a4) ((r28.1.Rels).length) (cu33a4), .slice (Au33a5) ((r28.1.Cons).length) (cu33a5)] 26)]) 171 rfl rfl (hS.fact (k := 170) rfl) ⟨rfl, rfl, trivial⟩ rfl
      refine gl hS rfl (l_buildDense (sz := 1) hS 1810 rfl rfl rfl Try.underlying29 rfl rfl rfl rfl rfl rfl rfl ?_); clear hS a; intro b110 a w hbb110 hK hS
      clear hbb110
      clear hK
      replace hS := hS.add 172 (rdF (Rep.list (Rep.num .i64)) (cellsOfL [.slice (some ⟨b108, 0, none⟩) (5) (5), .slice (some ⟨b109, 0, none⟩) (5) (5)]) ([[2, 7, 6, 12, 11], [7, 12, 6, 2, 11]])) (RdAll.cons (by exact ⟨_, _, _, rfl, (hS.fact (k := 169) rfl)⟩) (RdAll.cons (by exact ⟨_, _, _, rfl, (hS.fact (k := 171) rfl)⟩) (RdAll.nil _ _ _)))
      have hT := hS
      replace hT := hT.fz (R := (Rep.list (Rep.num .i64))) (kk := 1810) [1101, 1604] 173 rfl rfl (hT.fact (k := 172) rfl) rfl
      refine gl hS rfl (l_call (cap := []) hS rfl Try.func14 rfl (by kernel_rfl) rfl rfl (c_r42_Same n _ _ hT.lt r8.1 (Au12a1) (cu12a1) (hT.fact (k := 108) rfl) [[2, 7, 6, 12, 11], [7, 12, 6, 2, 11]] (some ⟨b110, 0, none⟩) (2) (hT.fact (k := 173) rfl) r45 hr45) ?_); clear hS hT a; intro v111 a w hK hp hS
      clear hK
      obtain rfl := hp.trans (congrArg Value.bool hs48)
      refine qq hS rfl (y_pick_t hS rfl rfl) fun a hS => ?_
      refine qq hS rfl (y_move hS rfl) fun a hS => ?_
      refine gy hS rfl (y_move hS rfl) fun a hS => ?_
      refine gy hS rfl (yl_b (y_eql hS rfl rfl) hs49e) fun a hS => ?_
      refine qq hS rfl (y_pick_t hS rfl rfl) fun a hS => ?_
      refine qq hS rfl (y_move hS rfl) fun a hS => ?_
      refine gy hS rfl (yl_b (y_move hS rfl) hs50) fun a hS => ?_
      refine qq hS rfl (y_pick_t hS rfl rfl) fun a hS => ?_
      refine qq hS rfl (y_move hS rfl) fun a hS => ?_
      refine gn hS rfl fun a hS => ?_
      refine gn hS rfl fun a hS => ?_
      refine gn hS rfl fun a hS => ?_
      refine qq hS rfl (y_pick_f hS rfl rfl) fun a hS => ?_
      refine qq hS rfl (y_move hS rfl) fun a hS => ?_
      refine gn hS rfl fun a hS => ?_
      refine gn hS rfl fun a hS => ?_
      refine qq hS rfl (y_pick_f hS rfl rfl) fun a hS => ?_
      refine qq hS rfl (y_move hS rfl) fun a hS => ?_
      refine gn hS rfl fun a hS => ?_
      refine gn hS rfl fun a hS => ?_
      refine gn hS rfl fun a hS => ?_
      refine gn hS rfl fun a hS => ?_
      refine gn hS rfl fun a hS => ?_
      refine qq hS rfl (y_pick_f hS rfl rfl) fun a hS => ?_
      refine qq hS rfl (y_move hS rfl) fun a hS => ?_
      refine gn hS rfl fun a hS => ?_
      refine gn hS rfl fun a hS => ?_
      refine qq hS rfl (y_pick_f hS rfl rfl) fun a hS => ?_
      refine qq hS rfl (y_move hS rfl) fun a hS => ?_
      refine gn hS rfl fun a hS => ?_
      refine gn hS rfl fun a hS => ?_
      refine qq hS rfl (y_pick_f hS rfl rfl) fun a hS => ?_
      refine qq hS rfl (y_move hS rfl) fun a hS => ?_
      refine gn hS rfl fun a hS => ?_
      refine gn hS rfl fun a hS => ?_
      refine qq hS rfl (y_pick_f hS rfl rfl) fun a hS => ?_
      refine qq hS rfl (y_assign hS rfl) fun a hS => ?_
      apply wN
      apply wp_ret
      obtain rfl := Option.some.inj hg
      refine fin1 (fn := Try.f8) hS rfl (r_tmp hS rfl) ?_
      exact rfl
    ·have hs49e : decide (r13.2.2 = 0) = false := decide_eq_false hs49
     replace hg := br_f hg hs49
     apply wp_region_lit
     refine qq hS rfl (y_move hS rfl) fun a hS => ?_
     refine qq hS rfl (yl_b (y_eql hS rfl rfl) hs40e) fun a hS => ?_
     refine qq hS rfl (y_move hS rfl) fun a hS => ?_
     refine gy hS rfl (y_move hS rfl) fun a hS => ?_
     refine gy hS rfl (yl_b (y_not hS rfl) hs41) fun a hS => ?_
     refine qq hS rfl (y_pick_t hS rfl rfl) fun a hS => ?_
     refine qq hS rfl (y_move hS rfl) fun a hS => ?_
     refine gy hS rfl (y_move hS rfl) fun a hS => ?_
     refine gl hS rfl (l_buildDense (sz := 1) hS 1808 rfl rfl rfl Try.underlying33 rfl rfl rfl rfl rfl rfl rfl ?_); clear hS a; intro b113 a w hbb113 hK hS
     clear hbb113
     clear hK
     refine gl hS rfl (l_buildDense (sz := 1) hS 1809 rfl rfl rfl Try.underlying33 rfl rfl rfl rfl rfl rfl rfl ?_); clear hS a; intro b114 a w hbb114 hK hS
     clear hbb114
     clear hK
     replace hS := hS.add 174 (rdF (Rep.num .i64) (cellsOfL [.int .i64 (2), .int .i64 (7), .int .i64 (6), .int .i64 (12), .int .i64 (11)]) ([2, 7, 6, 12, 11])) (RdAll.cons (by exact rfl) (RdAll.cons (by exact rfl) (RdAll.cons (by exact rfl) (RdAll.cons (by exact rfl) (RdAll.cons (by exact rfl) (RdAll.nil _ _ _))))))
     replace hS := hS.freeze (R := (Rep.num .i64)) (kk := 1808) (L' := [(1101, Ob.box b7 [.int .i64 (r1.Top), .int .i64 (r1.Index), .slice (Au6a3) ((r1.Vars).length) (cu6a3), .slice (Au6a4) ((r1.Rels).length) (cu6a4), .slice (Au6a5) ((r1.Cons).length) (cu6a5)] 26), (1604, Ob.box b34 [.int .i64 (r28.1.Top), .int .i64 (r28.1.Index), .slice (Au33a3) ((r28.1.Vars).length) (cu33a3), .slice (Au33a4) ((r28.1.Rels).length) (cu33a4), .slice (Au33a5) ((r28.1.Cons).length) (cu33a5)] 26), (1809, Ob.row (some ⟨b114, 0, none⟩) (5) (5) 3 1 (cellsOfL [.int .i64 (7), .int .i64 (12), .int .i64 (6), .int .i64 (2), .int .i64 (11)]))]) 175 rfl rfl (hS.fact (k := 174) rfl) ⟨rfl, rfl, rfl, trivial⟩ rfl
     replace hS := hS.add 176 (rdF (Rep.num .i64) (cellsOfL [.int .i64 (7), .int .i64 (12), .int .i64 (6), .int .i64 (2), .int .i64 (11)]) ([7, 12, 6, 2, 11])) (RdAll.cons (by exact rfl) (RdAll.cons (by exact rfl) (RdAll.cons (by exact rfl) (RdAll.cons (by exact rfl) (RdAll.cons (by exact rfl) (RdAll.nil _ _ _))))))
     replace hS := hS.freeze (R := (Rep.num .i64)) (kk := 1809) (L' := [(1101, Ob.box b7 [.int .i64 (r1.Top), .int .i64 (r1.Index), .slice (Au6a3) ((r1.Vars).length) (cu6a3), .slice (Au6a4) ((r1.Rels).length) (cu6a4), .slice (Au6a5) ((r1.Cons).length) (cu6a5)] 26), (1604, Ob.box b34 [.int .i64 (r28.1.Top), .int .i64 (r28.1.Index), .slice (Au33a3) ((r28.1.Vars).length) (cu33a3), .slice (Au33a4) ((r28.1.Rels).length) (cu33a4), .slice (Au33a5) ((r28.1.Cons).length) (cu33a5)] 26)]) 177 rfl rfl (hS.fact (k := 176) rfl) ⟨rfl, rfl, trivial⟩ rfl
     refine gl hS rfl (l_buildDense (sz := 1) hS 1810 rfl rfl rfl Try.underlying29 rfl rfl rfl rfl rfl rfl rfl ?_); clear hS a; intro b115 a w hbb115 hK hS
     clear hbb115
     clear hK
     replace hS := hS.add 178 (rdF (Rep.list (Rep.num .i64)) (cellsOfL [.slice (some ⟨b113, 0, none⟩) (5) (5), .slice (some ⟨b114, 0, none⟩) (5) (5)]) ([[2, 7, 6, 12, 11], [7, 12, 6, 2, 11]])) (RdAll.cons (by exact ⟨_, _, _, rfl, (hS.fact (k := 175) rfl)⟩) (RdAll.cons (by exact ⟨_, _, _, rfl, (hS.fact (k := 177) rfl)⟩) (RdAll.nil _ _ _)))
     have hT := hS
     replace hT := hT.fz (R := (Rep.list (Rep.num .i64))) (kk := 1810) [1101, 1604] 179 rfl rfl (hT.fact (k := 178) rfl) rfl
     refine gl hS rfl (l_call (cap := []) hS rfl Try.func14 rfl (by kernel_rfl) rfl rfl (c_r42_Same n _ _ hT.lt r8.1 (Au12a1) (cu12a1) (hT.fact (k := 108) rfl) [[2, 7, 6, 12, 11], [7, 12, 6, 2, 11]] (some ⟨b115, 0, none⟩) (2) (hT.fact (k := 179) rfl) r45 hr45) ?_); clear hS hT a; intro v116 a w hK hp hS
     clear hK
     obtain rfl := hp.trans (congrArg Value.bool hs48)
     refine qq hS rfl (y_pick_t hS rfl rfl) fun a hS => ?_
     refine qq hS rfl (y_move hS rfl) fun a hS => ?_
     refine gy hS rfl (y_move hS rfl) fun a hS => ?_
     refine gy hS rfl (yl_b (y_eql hS rfl rfl) hs49e) fun a hS => ?_
     refine qq hS rfl (y_pick_t hS rfl rfl) fun a hS => ?_
     refine qq hS rfl (y_move hS rfl) fun a hS => ?_
     refine gn hS rfl fun a hS => ?_
     refine qq hS rfl (y_pick_f hS rfl rfl) fun a hS => ?_
     refine qq hS rfl (y_move hS rfl) fun a hS => ?_
     refine gn hS rfl fun a hS => ?_
     refine gn hS rfl fun a hS => ?_
     refine gn hS rfl fun a hS => ?_
     refine qq hS rfl (y_pick_f hS rfl rfl) fun a hS => ?_
     refine qq hS rfl (y_move hS rfl) fun a hS => ?_
     refine gn hS rfl fun a hS => ?_
     refine gn hS rfl fun a hS => ?_
     refine qq hS rfl (y_pick_f hS rfl rfl) fun a hS => ?_
     refine qq hS rfl (y_move hS rfl) fun a hS => ?_
     refine gn hS rfl fun a hS => ?_
     refine gn hS rfl fun a hS => ?_
     refine gn hS rfl fun a hS => ?_
     refine gn hS rfl fun a hS => ?_
     refine gn hS rfl fun a hS => ?_
     refine qq hS rfl (y_pick_f hS rfl rfl) fun a hS => ?_
     refine qq hS rfl (y_move hS rfl) fun a hS => ?_
     refine gn hS rfl fun a hS => ?_
     refine gn hS rfl fun a hS => ?_
     refine qq hS rfl (y_pick_f hS rfl rfl) fun a hS => ?_
     refine qq hS rfl (y_move hS rfl) fun a hS => ?_
     refine gn hS rfl fun a hS => ?_
     refine gn hS rfl fun a hS => ?_
     refine qq hS rfl (y_pick_f hS rfl rfl) fun a hS => ?_
     refine qq hS rfl (y_move hS rfl) fun a hS => ?_
     refine gn hS rfl fun a hS => ?_
     refine gn hS rfl fun a hS => ?_
     refine qq hS rfl (y_pick_f hS rfl rfl) fun a hS => ?_
     refine qq hS rfl (y_assign hS rfl) fun a hS => ?_
     apply wN
     apply wp_ret
     obtain rfl := Option.some.inj hg
     refine fin1 (fn := Try.f8) hS rfl (r_tmp hS rfl) ?_
     exact rfl
   ·replace hg := br_f hg (by rw [hs48]; exact Bool.false_ne_true)
    apply wp_region_lit
    refine qq hS rfl (y_move hS rfl) fun a hS => ?_
    refine qq hS rfl (yl_b (y_eql hS rfl rfl) hs40e) fun a hS => ?_
    refine qq hS rfl (y_move hS rfl) fun a hS => ?_
    refine gy hS rfl (y_move hS rfl) fun a hS => ?_
    refine gy hS rfl (yl_b (y_not hS rfl) hs41) fun a hS => ?_
    refine qq hS rfl (y_pick_t hS rfl rfl) fun a hS => ?_
    refine qq hS rfl (y_move hS rfl) fun a hS => ?_
    refine gy hS rfl (y_move hS rfl) fun a hS => ?_
    refine gl hS rfl (l_buildDense (sz := 1) hS 1808 rfl rfl rfl Try.underlying33 rfl rfl rfl rfl rfl rfl rfl ?_); clear hS a; intro b118 a w hbb118 hK hS
    clear hbb118
    clear hK
    refine gl hS rfl (l_buildDense (sz := 1) hS 1809 rfl rfl rfl Try.underlying33 rfl rfl rfl rfl rfl rfl rfl ?_); clear hS a; intro b119 a w hbb119 hK hS
    clear hbb119
    clear hK
    replace hS := hS.add 180 (rdF (Rep.num .i64) (cellsOfL [.int .i64 (2), .int .i64 (7), .int .i64 (6), .int .i64 (12), .int .i64 (11)]) ([2, 7, 6, 12, 11])) (RdAll.cons (by exact rfl) (RdAll.cons (by exact rfl) (RdAll.cons (by exact rfl) (RdAll.cons (by exact rfl) (RdAll.cons (by exact rfl) (RdAll.nil _ _ _))))))
    replace hS := hS.freeze (R := (Rep.num .i64)) (kk := 1808) (L' := [(1101, Ob.box b7 [.int .i64 (r1.Top), .int .i64 (r1.Index), .slice (Au6a3) ((r1.Vars).length) (cu6a3), .slice (Au6a4) ((r1.Rels).length) (cu6a4), .slice (Au6a5) ((r1.Cons).length) (cu6a5)] 26), (1604, Ob.box b34 [.int .i64 (r28.1.Top), .int .i64 (r28.1.Index), .slice (Au33a3) ((r28.1.Vars).length) (cu33a3), .slice (Au33a4) ((r28.1.Rels).length) (cu33a4), .slice (Au33a5) ((r28.1.Cons).length) (cu33a5)] 26), (1809, Ob.row (some ⟨b119, 0, none⟩) (5) (5) 3 1 (cellsOfL [.int .i64 (7), .int .i64 (12), .int .i64 (6), .int .i64 (2), .int .i64 (11)]))]) 181 rfl rfl (hS.fact (k := 180) rfl) ⟨rfl, rfl, rfl, trivial⟩ rfl
    replace hS := hS.add 182 (rdF (Rep.num .i64) (cellsOfL [.int .i64 (7), .int .i64 (12), .int .i64 (6), .int .i64 (2), .int .i64 (11)]) ([7, 12, 6, 2, 11])) (RdAll.cons (by exact rfl) (RdAll.cons (by exact rfl) (RdAll.cons (by exact rfl) (RdAll.cons (by exact rfl) (RdAll.cons (by exact rfl) (RdAll.nil _ _ _))))))
    replace hS := hS.freeze (R := (Rep.num .i64)) (kk := 1809) (L' := [(1101, Ob.box b7 [.int .i64 (r1.Top), .int .i64 (r1.Index), .slice (Au6a3) ((r1.Vars).length) (cu6a3), .slice (Au6a4) ((r1.Rels).length) (cu6a4), .slice (Au6a5) ((r1.Cons).length) (cu6a5)] 26), (1604, Ob.box b34 [.int .i64 (r28.1.Top), .int .i64 (r28.1.Index), .slice (Au33a3) ((r28.1.Vars).length) (cu33a3), .slice (Au33a4) ((r28.1.Rels).length) (cu33a4), .slice (Au33a5) ((r28.1.Cons).length) (cu33a5)] 26)]) 183 rfl rfl (hS.fact (k := 182) rfl) ⟨rfl, rfl, trivial⟩ rfl
    refine gl hS rfl (l_buildDense (sz := 1) hS 1810 rfl rfl rfl Try.underlying29 rfl rfl rfl rfl rfl rfl rfl ?_); clear hS a; intro b120 a w hbb120 hK hS
    clear hbb120
    clear hK
    replace hS := hS.add 184 (rdF (Rep.list (Rep.num .i64)) (cellsOfL [.slice (some ⟨b118, 0, none⟩) (5) (5), .slice (some ⟨b119, 0, none⟩) (5) (5)]) ([[2, 7, 6, 12, 11], [7, 12, 6, 2, 11]])) (RdAll.cons (by exact ⟨_, _, _, rfl, (hS.fact (k := 181) rfl)⟩) (RdAll.cons (by exact ⟨_, _, _, rfl, (hS.fact (k := 183) rfl)⟩) (RdAll.nil _ _ _)))
    have hT := hS
    replace hT := hT.fz (R := (Rep.list (Rep.num .i64))) (kk := 1810) [1101, 1604] 185 rfl rfl (hT.fact (k := 184) rfl) rfl
    refine gl hS rfl (l_call (cap := []) hS rfl Try.func14 rfl (by kernel_rfl) rfl rfl (c_r42_Same n _ _ hT.lt r8.1 (Au12a1) (cu12a1) (hT.fact (k := 108) rfl) [[2, 7, 6, 12, 11], [7, 12, 6, 2, 11]] (some ⟨b120, 0, none⟩) (2) (hT.fact (k := 185) rfl) r45 hr45) ?_); clear hS hT a; intro v121 a w hK hp hS
    clear hK
    obtain rfl := hp.trans (congrArg Value.bool hs48)
    refine qq hS rfl (y_pick_t hS rfl rfl) fun a hS => ?_
    refine qq hS rfl (y_move hS rfl) fun a hS => ?_
    refine gn hS rfl fun a hS => ?_
    refine gn hS rfl fun a hS => ?_
    refine qq hS rfl (y_pick_f hS rfl rfl) fun a hS => ?_
    refine qq hS rfl (y_move hS rfl) fun a hS => ?_
    refine gn hS rfl fun a hS => ?_
    refine qq hS rfl (y_pick_f hS rfl rfl) fun a hS => ?_
    refine qq hS rfl (y_move hS rfl) fun a hS => ?_
    refine gn hS rfl fun a hS => ?_
    refine gn hS rfl fun a hS => ?_
    refine gn hS rfl fun a hS => ?_
    refine qq hS rfl (y_pick_f hS rfl rfl) fun a hS => ?_
    refine qq hS rfl (y_move hS rfl) fun a hS => ?_
    refine gn hS rfl fun a hS => ?_
    refine gn hS rfl fun a hS => ?_
    refine qq hS rfl (y_pick_f hS rfl rfl) fun a hS => ?_
    refine qq hS rfl (y_move hS rfl) fun a hS => ?_
    refine gn hS rfl fun a hS => ?_
    refine gn hS rfl fun a hS => ?_
    refine gn hS rfl fun a hS => ?_
    refine gn hS rfl fun a hS => ?_
    refine gn hS rfl fun a hS => ?_
    refine qq hS rfl (y_pick_f hS rfl rfl) fun a hS => ?_
    refine qq hS rfl (y_move hS rfl) fun a hS => ?_
    refine gn hS rfl fun a hS => ?_
    refine gn hS rfl fun a hS => ?_
    refine qq hS rfl (y_pick_f hS rfl rfl) fun a hS => ?_
    refine qq hS rfl (y_move hS rfl) fun a hS => ?_
    refine gn hS rfl fun a hS => ?_
    refine gn hS rfl fun a hS => ?_
    refine qq hS rfl (y_pick_f hS rfl rfl) fun a hS => ?_
    refine qq hS rfl (y_move hS rfl) fun a hS => ?_
    refine gn hS rfl fun a hS => ?_
    refine gn hS rfl fun a hS => ?_
    refine qq hS rfl (y_pick_f hS rfl rfl) fun a hS => ?_
    refine qq hS rfl (y_assign hS rfl) fun a hS => ?_
    apply wN
    apply wp_ret
    obtain rfl := Option.some.inj hg
    refine fin1 (fn := Try.f8) hS rfl (r_tmp hS rfl) ?_
    exact rfl
  ·replace hg := br_f hg (by rw [hs41]; exact Bool.false_ne_true)
   apply wp_region_lit
   refine qq hS rfl (y_move hS rfl) fun a hS => ?_
   refine qq hS rfl (yl_b (y_eql hS rfl rfl) hs40e) fun a hS => ?_
   refine qq hS rfl (y_move hS rfl) fun a hS => ?_
   refine gy hS rfl (y_move hS rfl) fun a hS => ?_
   refine gy hS rfl (yl_b (y_not hS rfl) hs41) fun a hS => ?_
   refine qq hS rfl (y_pick_t hS rfl rfl) fun a hS => ?_
   refine qq hS rfl (y_move hS rfl) fun a hS => ?_
   refine gn hS rfl fun a hS => ?_
   refine gn hS rfl fun a hS => ?_
   refine gn hS rfl fun a hS => ?_
   refine gn hS rfl fun a hS => ?_
   refine gn hS rfl fun a hS => ?_
   refine qq hS rfl (y_pick_f hS rfl rfl) fun a hS => ?_
   refine qq hS rfl (y_move hS rfl) fun a hS => ?_
   refine gn hS rfl fun a hS => ?_
   refine gn hS rfl fun a hS => ?_
   refine qq hS rfl (y_pick_f hS rfl rfl) fun a hS => ?_
   refine qq hS rfl (y_move hS rfl) fun a hS => ?_
   refine gn hS rfl fun a hS => ?_
   refine qq hS rfl (y_pick_f hS rfl rfl) fun a hS => ?_
   refine qq hS rfl (y_move hS rfl) fun a hS => ?_
   refine gn hS rfl fun a hS => ?_
   refine gn hS rfl fun a hS => ?_
   refine gn hS rfl fun a hS => ?_
   refine qq hS rfl (y_pick_f hS rfl rfl) fun a hS => ?_
   refine qq hS rfl (y_move hS rfl) fun a hS => ?_
   refine gn hS rfl fun a hS => ?_
   refine gn hS rfl fun a hS => ?_
   refine qq hS rfl (y_pick_f hS rfl rfl) fun a hS => ?_
   refine qq hS rfl (y_move hS rfl) fun a hS => ?_
   refine gn hS rfl fun a hS => ?_
   refine gn hS rfl fun a hS => ?_
   refine gn hS rfl fun a hS => ?_
   refine gn hS rfl fun a hS => ?_
   refine gn hS rfl fun a hS => ?_
   refine qq hS rfl (y_pick_f hS rfl rfl) fun a hS => ?_
   refine qq hS rfl (y_move hS rfl) fun a hS => ?_
   refine gn hS rfl fun a hS => ?_
   refine gn hS rfl fun a hS => ?_
   refine qq hS rfl (y_pick_f hS rfl rfl) fun a hS => ?_
   refine qq hS rfl (y_move hS rfl) fun a hS => ?_
   refine gn hS rfl fun a hS => ?_
   refine gn hS rfl fun a hS => ?_
   refine qq hS rfl (y_pick_f hS rfl rfl) fun a hS => ?_
   refine qq hS rfl (y_move hS rfl) fun a hS => ?_
   refine gn hS rfl fun a hS => ?_
   refine gn hS rfl fun a hS => ?_
   refine qq hS rfl (y_pick_f hS rfl rfl) fun a hS => ?_
   refine qq hS rfl (y_assign hS rfl) fun a hS => ?_
   apply wN
   apply wp_ret
   obtain rfl := Option.some.inj hg
   refine fin1 (fn := Try.f8) hS rfl (r_tmp hS rfl) ?_
   exact rfl
 ·have hs40e : decide (r8.2.2 = 0) = false := decide_eq_false hs40
  replace hg := br_f hg hs40
  apply wp_region_lit
  refine qq hS rfl (y_move hS rfl) fun a hS => ?_
  refine qq hS rfl (yl_b (y_eql hS rfl rfl) hs40e) fun a hS => ?_
  refine qq hS rfl (y_move hS rfl) fun a hS => ?_
  refine gn hS rfl fun a hS => ?_
  refine gn hS rfl fun a hS => ?_
  refine qq hS rfl (y_pick_f hS rfl rfl) fun a hS => ?_
  refine qq hS rfl (y_move hS rfl) fun a hS => ?_
  refine gn hS rfl fun a hS => ?_
  refine gn hS rfl fun a hS => ?_
  refine gn hS rfl fun a hS => ?_
  refine gn hS rfl fun a hS => ?_
  refine gn hS rfl fun a hS => ?_
  refine qq hS rfl (y_pick_f hS rfl rfl) fun a hS => ?_
  refine qq hS rfl (y_move hS rfl) fun a hS => ?_
  refine gn hS rfl fun a hS => ?_
  refine gn hS rfl fun a hS => ?_
  refine qq hS rfl (y_pick_f hS rfl rfl) fun a hS => ?_
  refine qq hS rfl (y_move hS rfl) fun a hS => ?_
  refine gn hS rfl fun a hS => ?_
  refine qq hS rfl (y_pick_f hS rfl rfl) fun a hS => ?_
  refine qq hS rfl (y_move hS rfl) fun a hS => ?_
  refine gn hS rfl fun a hS => ?_
  refine gn hS rfl fun a hS => ?_
  refine gn hS rfl fun a hS => ?_
  refine qq hS rfl (y_pick_f hS rfl rfl) fun a hS => ?_
  refine qq hS rfl (y_move hS rfl) fun a hS => ?_
  refine gn hS rfl fun a hS => ?_
  refine gn hS rfl fun a hS => ?_
  refine qq hS rfl (y_pick_f hS rfl rfl) fun a hS => ?_
  refine qq hS rfl (y_move hS rfl) fun a hS => ?_
  refine gn hS rfl fun a hS => ?_
  refine gn hS rfl fun a hS => ?_
  refine gn hS rfl fun a hS => ?_
  refine gn hS rfl fun a hS => ?_
  refine gn hS rfl fun a hS => ?_
  refine qq hS rfl (y_pick_f hS rfl rfl) fun a hS => ?_
  refine qq hS rfl (y_move hS rfl) fun a hS => ?_
  refine gn hS rfl fun a hS => ?_
  refine gn hS rfl fun a hS => ?_
  refine qq hS rfl (y_pick_f hS rfl rfl) fun a hS => ?_
  refine qq hS rfl (y_move hS rfl) fun a hS => ?_
  refine gn hS rfl fun a hS => ?_
  refine gn hS rfl fun a hS => ?_
  refine qq hS rfl (y_pick_f hS rfl rfl) fun a hS => ?_
  refine qq hS rfl (y_move hS rfl) fun a hS => ?_
  refine gn hS rfl fun a hS => ?_
  refine gn hS rfl fun a hS => ?_
  refine qq hS rfl (y_pick_f hS rfl rfl) fun a hS => ?_
  refine qq hS rfl (y_assign hS rfl) fun a hS => ?_
  apply wN
  apply wp_ret
  obtain rfl := Option.some.inj hg
  refine fin1 (fn := Try.f8) hS rfl (r_tmp hS rfl) ?_
  exact rfl
set_option maxHeartbeats 400000 in
theorem c_r41_Has (n : Nat) (M : Bs) (w0 : World) (hM : ∀ b, M b → b < w0.heap.size) (l_ : (List Int)) (Ap01 : Option Addr) (cp01 : Nat) (hp01 : SlR (Rep.num .i64) M w0 Ap01 (l_).length cp01 (l_)) (n_ : Int) (r : Bool) (hg : r41_Has n l_ n_ = some r) :
    Calls Try.prog 27 [.slice (Ap01) ((l_).length) (cp01), .int .i64 (n_)].toArray w0 (Ret noB w0 fun v w => v = .bool (r)) := by
 unfold r41_Has at hg
 refine enter M noB Try.func27 rfl rfl hM ?_
 intro a hS
 replace hS := hS.es 101 hp01
 apply wR
 refine qq hS rfl (y_assign hS rfl) fun a hS => ?_
 apply wN
 apply wp_seq
 apply wR
 refine qq hS rfl (y_assign hS rfl) fun a hS => ?_
 apply wN
 apply wp_block
 refine c_loop (σ := Nat) (fun m1 a w => ∃ (i_1 : Nat), r41_Has_L0 n l_ n_ m1 i_1 = some r ∧ St (⟨Try.f27.ntmps, M, noB, w0⟩ : Ctx) [(0, .slice (Ap01) ((l_).length) (cp01)), (1, .int .i64 (n_)), (5, .int .i64 (((i_1 : Nat) : Int)))] [] [(101, slF (Rep.num .i64) (Ap01) ((l_).length) (cp01) (l_))] a w) (fun m1 => m1) n ⟨(0), hg, (hS.sb rfl rfl rfl)⟩ ?_
 clear hS a; rintro m1 a w ⟨i_1, hg, hS⟩
 rcases m1 with _ | m1
 ·rw [r41_Has_L0] at hg; cases hg
 rw [r41_Has_L0] at hg
 apply wp_seq
 apply wR
 refine qq hS rfl (y_move hS rfl) fun a hS => ?_
 refine qq hS rfl (y_move hS rfl) fun a hS => ?_
 refine qq hS rfl (y_lenSlice hS rfl Try.underlying33) fun a hS => ?_
 refine qq hS rfl (y_lssN (i := i_1) (j := ((l_).length)) hS rfl rfl) fun a hS => ?_
 apply wN
 refine c_dec hS rfl (fun hc2 => ?_) (fun hc2 => ?_)
 ·replace hg := br_t hg hc2
  have hmx3 := SlR.mx (hS.fact (k := 101) rfl)
  apply wp_skip
  refine p_norm ?_
  apply wp_seq
  apply wp_block
  apply wp_seq
  obtain ⟨x5, hx5, hg⟩ := bind_some hg
  apply wp_region_lit
  refine qq hS rfl (y_move hS rfl) fun a hS => ?_
  refine qq hS rfl (y_move hS rfl) fun a hS => ?_
  obtain ⟨p7, hep7, hpp7⟩ := SlR.elemX (hS.fact (k := 101) rfl) hx5
  refine qq hS rfl (y_elem (sz := 1) (i := i_1) hS rfl rfl Try.underlying33 rfl hep7 rfl (lt_of_get hx5)) fun a hS => ?_
  obtain ⟨hlq8, hmq8, csq8, hdq8, hcq8⟩ := hpp7
  obtain rfl := hdq8
  refine qq hS rfl (y_ldp1 hS rfl hlq8 hmq8 (hcq8 0 _ rfl) Try.underlying3 rfl) fun a hS => ?_
  refine qq hS rfl (y_move hS rfl) fun a hS => ?_
  refine qq hS rfl (y_eql hS rfl rfl) fun a hS => ?_
  apply wN
  refine c_dec hS rfl (fun hc9 => ?_) (fun hc9 => ?_)
  ·replace hg := br_t hg hc9
   apply wR
   refine qq hS rfl (y_assign hS rfl) fun a hS => ?_
   apply wN
   apply wp_ret
   refine p_inR ?_
   refine p_thenR ?_
   refine p_thenR ?_
   refine p_inR ?_
   refine p_thenR ?_
   obtain rfl := Option.some.inj hg
   refine fin1 (fn := Try.f27) hS rfl (r_tmp hS rfl) ?_
   exact rfl
  ·replace hg := br_f hg hc9
   apply wp_skip
   refine p_inN ?_
   refine p_norm ?_
   apply wp_region_lit
   refine qq hS rfl (y_move hS rfl) fun a hS => ?_
   refine qq hS rfl (y_addN (i := i_1) (j := 1) hS rfl rfl (in64.2 (by omega))) fun a hS => ?_
   refine qq hS rfl (y_assign hS rfl) fun a hS => ?_
   apply wN
   exact ⟨m1, Nat.lt_succ_self _, ⟨(i_1 + 1), hg, (hS.sb rfl rfl rfl)⟩⟩
 ·replace hg := br_f hg hc2
  apply wp_exit
  refine p_then ?_
  refine p_then ?_
  refine p_in ?_
  refine p_norm ?_
  apply wR
  refine qq hS rfl (y_assign hS rfl) fun a hS => ?_
  apply wN
  apply wp_ret
  obtain rfl := Option.some.inj hg
  refine fin1 (fn := Try.f27) hS rfl (r_tmp hS rfl) ?_
  exact rfl
set_option maxHeartbeats 400000 in
theorem c_law42_lists (n : Nat) : ∀ (M : Bs) (w0 : World) (hM : ∀ b, M b → b < w0.heap.size) (labels_ : (List Int)) (Ap01 : Option Addr) (cp01 : Nat) (hp01 : SlR (Rep.num .i64) M w0 Ap01 (labels_).length cp01 (labels_)) (begin_ : (List Int)) (Ap11 : Option Addr) (cp11 : Nat) (hp11 : SlR (Rep.num .i64) M w0 Ap11 (begin_).length cp11 (begin_)) (n_ : Int) (r : (List (List Int))) (hg : law42_lists n labels_ begin_ n_ = some r),
    Calls Try.prog 11 [.slice (Ap01) ((labels_).length) (cp01), .slice (Ap11) ((begin_).length) (cp11), .int .i64 (n_)].toArray w0 (Ret noB w0 fun v w => ∃ (Aa1 : Option Addr), ∃ (ca1 : Nat), v = .slice (Aa1) ((r).length) (ca1) ∧ (SlR (Rep.list (Rep.num .i64)) M w Aa1 (r).length ca1 (r))) := by
 induction n with
 | zero => intros; rename_i hg; rw [law42_lists] at hg; cases hg
 | succ n c_self =>
 intro M w0 hM labels_ Ap01 cp01 hp01 begin_ Ap11 cp11 hp11 n_ r hg
 rw [law42_lists] at hg
 refine enter M noB Try.func11 rfl rfl hM ?_
 intro a hS
 replace hS := hS.es 101 hp01
 replace hS := hS.es 102 hp11
 apply wR
 refine qq hS rfl (y_assign hS rfl) fun a hS => ?_
 apply wN
 apply wp_seq
 apply wR
 refine qq hS rfl (y_move hS rfl) fun a hS => ?_
 refine qq hS rfl (y_eql hS rfl rfl) fun a hS => ?_
 apply wN
 refine c_dec hS rfl (fun hc1 => ?_) (fun hc1 => ?_)
 ·replace hg := br_t hg hc1
  apply wR
  refine qq hS rfl (y_move hS rfl) fun a hS => ?_
  refine l_seq rfl (l_buildDense (sz := 1) hS 1201 rfl rfl rfl Try.underlying29 rfl rfl rfl rfl rfl rfl rfl ?_); clear hS a; intro b3 a w hbb3 hK hS
  clear hbb3 hK
  refine qq hS rfl (y_assign hS rfl) fun a hS => ?_
  apply wN
  apply wp_ret
  refine p_thenR ?_
  obtain rfl := Option.some.inj hg
  refine fin1 (fn := Try.f11) hS rfl (r_tmp hS rfl) ?_
  replace hS := hS.add 103 (rdF (Rep.list (Rep.num .i64)) (cellsOfL [.slice (Ap11) ((begin_).length) (cp11)]) ([begin_])) (RdAll.cons (by exact ⟨_, _, _, rfl, (hS.fact (k := 102) rfl)⟩) (RdAll.nil _ _ _))
  exact ⟨(some ⟨b3, 0, none⟩), (1), rfl, (hS.rowOut (R := (Rep.list (Rep.num .i64))) (kk := 1201) rfl rfl (hS.fact (k := 103) rfl))⟩
 ·replace hg := br_f hg hc1
  apply wp_skip
  refine p_norm ?_
  apply wR
  refine qq hS rfl (y_assign hS rfl) fun a hS => ?_
  apply wN
  apply wp_seq
  apply wR
  refine qq hS rfl (y_move hS rfl) fun a hS => ?_
  refine qq hS rfl (y_lenSlice hS rfl Try.underlying33) fun a hS => ?_
  refine qq hS rfl (y_move hS rfl) fun a hS => ?_
  apply wN
  apply wp_block
  replace hS := hS.nilRow 700104 33 1 rfl
  replace hS := hS.add 105 (rdF (Rep.list (Rep.num .i64)) [] []) (RdAll.nil _ _ _)
  refine c_loop (σ := Nat) (fun m1 a w => ∃ (out_4 : (List (List Int))), ∃ (t_8 : Nat), ∃ (A5 : Option Addr), ∃ (c6 : Nat), ∃ (cs7 : List Value), law42_lists_L0 n labels_ begin_ n_ (law42_lists n) m1 out_4 t_8 = some r ∧ St (⟨Try.f11.ntmps, M, noB, w0⟩ : Ctx) [(0, .slice (Ap01) ((labels_).length) (cp01)), (1, .slice (Ap11) ((begin_).length) (cp11)), (2, .int .i64 (n_)), (7, .slice (A5) ((out_4).length) (c6)), (14, .slice (Ap01) ((labels_).length) (cp01)), (15, .int .i64 ((((labels_).length : Nat) : Int))), (16, .int .i64 (((t_8 : Nat) : Int)))] [(700104, Ob.row (A5) ((out_4).length) (c6) 33 1 (cs7))] [(101, slF (Rep.num .i64) (Ap01) ((labels_).length) (cp01) (labels_)), (102, slF (Rep.num .i64) (Ap11) ((begin_).length) (cp11) (begin_)), (105, rdF (Rep.list (Rep.num .i64)) (cs7) (out_4))] a w) (fun m1 => m1) n ⟨([]), (0), (none), (0), ([]), hg, (hS.sb rfl rfl rfl)⟩ ?_
  clear hS a; rintro m1 a w ⟨out_4, t_8, A5, c6, cs7, hg, hS⟩
  rcases m1 with _ | m1
  ·rw [law42_lists_L0] at hg; cases hg
  rw [law42_lists_L0] at hg
  apply wR
  refine qq hS rfl (y_lssN (i := t_8) (j := ((labels_).length)) hS rfl rfl) fun a hS => ?_
  apply wN
  apply wp_seq
  refine c_dec hS rfl (fun hc9 => ?_) (fun hc9 => ?_)
  ·replace hg := br_t hg hc9
   have hmx10 := SlR.mx (hS.fact (k := 101) rfl)
   apply wp_skip
   refine p_norm ?_
   apply wp_seq
   apply wp_block
   apply wp_seq
   obtain ⟨x12, hx12, hg⟩ := bind_some hg
   apply wp_region_lit
   obtain ⟨p14, hep14, hpp14⟩ := SlR.elemX (hS.fact (k := 101) rfl) hx12
   refine qq hS rfl (y_elem (sz := 1) (i := t_8) hS rfl rfl Try.underlying33 rfl hep14 rfl (lt_of_get hx12)) fun a hS => ?_
   obtain ⟨hlq15, hmq15, csq15, hdq15, hcq15⟩ := hpp14
   obtain rfl := hdq15
   refine qq hS rfl (y_ldp1 hS rfl hlq15 hmq15 (hcq15 0 _ rfl) Try.underlying3 rfl) fun a hS => ?_
   refine qq hS rfl (y_assign hS rfl) fun a hS => ?_
   apply wN
   apply wp_seq
   obtain ⟨r16, hr16, hg⟩ := bind_some hg
   apply wp_region_lit
   refine qq hS rfl (y_move hS rfl) fun a hS => ?_
   refine qq hS rfl (y_move hS rfl) fun a hS => ?_
   refine l_seq rfl (l_call (cap := []) hS rfl Try.func27 rfl (by kernel_rfl) rfl rfl (c_r41_Has n _ _ hS.lt begin_ (Ap11) (cp11) (hS.fact (k := 102) rfl) x12 r16 hr16) ?_); clear hS a; intro v19 a w hK hp hS
   clear hK
   obtain rfl := hp
   refine qq hS rfl (y_not hS rfl) fun a hS => ?_
   apply wN
   refine c_cond hS rfl (fun hc21 => ?_) (fun hc21 => ?_)
   ·replace hg := br_t hg hc21
    obtain ⟨hk23, hg⟩ := chk_some hg
    obtain ⟨hk27, hg⟩ := chk_some hg
    obtain ⟨hk30, hg⟩ := chk_some hg
    obtain ⟨r31, hr31, hg⟩ := bind_some hg
    obtain ⟨hk34, hg⟩ := chk_some hg
    apply wp_region_lit
    refine qq hS rfl (y_move hS rfl) fun a hS => ?_
    refine qq hS rfl (y_move hS rfl) fun a hS => ?_
    refine l_seq rfl (l_buildEmpty (sz := 1) hS 1802 Try.underlying33 rfl rfl rfl ?_); clear hS a; intro b37 a w hbb37 hK hS
    clear hbb37 hK
    refine qq hS rfl (y_move hS rfl) fun a hS => ?_
    replace hS := hS.add 115 (rdF (Rep.num .i64) ([]) ([])) (RdAll.nil _ _ _)
    obtain ⟨ns39, hs39, hns39⟩ := SlR.src (hS.fact (k := 102) rfl)
    replace hS := hS.add 116 (rdF (Rep.num .i64) ns39 (begin_)) hns39
    refine l_seq rfl (l_append (sz := 1) (by_ := 8) (N := (begin_).length) (ys := ns39) hS 1802 rfl rfl rfl Try.underlying33 rfl rfl rfl rfl rfl hs39 (by simp) rfl (by have hr := hk23; clear hg; first | omega | (simp only [List.length_append, List.length_cons, List.length_nil] at hr ⊢; omega) | (simp at hr ⊢; omega)) (by have hr := hk23; clear hg; first | omega | (simp only [List.length_append, List.length_cons, List.length_nil] at hr ⊢; omega) | (simp at hr ⊢; omega)) rfl ?_); clear hS a; intro Aq38 cq38 a w hA hK hS
    clear hK hA
    replace hS := hS.al 117 116 rfl
    refine qq hS rfl (y_move hS rfl) fun a hS => ?_
    refine l_seq rfl (l_buildDense (sz := 1) hS 1806 rfl rfl rfl Try.underlying33 rfl rfl rfl rfl rfl rfl rfl ?_); clear hS a; intro b40 a w hbb40 hK hS
    clear hbb40 hK
    replace hS := hS.add 118 (rdF (Rep.num .i64) (cellsOfL [.int .i64 (x12)]) ([x12])) (RdAll.cons (by exact rfl) (RdAll.nil _ _ _))
    have hs42 := row_src (hS.wd.holds 1806 _ rfl) (RdAll.one (hS.fact (k := 118) rfl))
    refine l_seq rfl (l_append (sz := 1) (by_ := 8) (N := (begin_ ++ [x12]).length) (ys := ns39 ++ (cellsOfL [.int .i64 (x12)])) hS 1802 rfl rfl rfl Try.underlying33 rfl rfl rfl rfl rfl hs42 (by simp) rfl (by have hr := hk27; clear hg; first | omega | (simp only [List.length_append, List.length_cons, List.length_nil] at hr ⊢; omega) | (simp at hr ⊢; omega)) (by have hr := hk27; clear hg; first | omega | (simp only [List.length_append, List.length_cons, List.length_nil] at hr ⊢; omega) | (simp at hr ⊢; omega)) rfl ?_); clear hS a; intro Aq41 cq41 a w hA hK hS
    clear hK hA
    replace hS := hS.add 119 (rdF (Rep.num .i64) (ns39 ++ (cellsOfL [.int .i64 (x12)])) (begin_ ++ [x12])) (RdAll.append (hS.fact (k := 117) rfl) (hS.fact (k := 118) rfl))
    refine qq hS rfl (y_move hS rfl) fun a hS => ?_
    refine qq hS rfl (y_sub hS rfl rfl (in64.2 hk30)) fun a hS => ?_
    replace hS := hS.freeze (R := (Rep.num .i64)) (kk := 1802) (L' := [(1806, Ob.row (some ⟨b40, 0, none⟩) (1) (1) 3 1 (cellsOfL [.int .i64 (x12)])), (700104, Ob.row (A5) ((out_4).length) (c6) 33 1 (cs7))]) 120 rfl rfl (hS.fact (k := 119) rfl) ⟨rfl, rfl, trivial⟩ rfl
    refine l_seq rfl (l_call (cap := []) hS rfl Try.func11 rfl (by kernel_rfl) rfl rfl (c_self _ _ hS.lt labels_ (Ap01) (cp01) (hS.fact (k := 101) rfl) (begin_ ++ [x12]) (Aq41) (cq41) (hS.fact (k := 120) rfl) (n_ - 1) r31 hr31) ?_); clear hS a; intro v43 a w hK hp hS
    clear hK
    obtain ⟨Au44a1, cu44a1, rfl, hu44a1⟩ := hp
    replace hS := hS.add 121 (slF (Rep.list (Rep.num .i64)) (Au44a1) ((r31).length) (cu44a1) (r31)) hu44a1
    obtain ⟨ns46, hs46, hns46⟩ := SlR.src (hS.fact (k := 121) rfl)
    replace hS := hS.add 122 (rdF (Rep.list (Rep.num .i64)) ns46 (r31)) hns46
    refine l_seq rfl (l_append (sz := 1) (by_ := 24) (N := (out_4 ++ r31).length) (ys := cs7 ++ ns46) hS 700104 rfl rfl rfl Try.underlying29 rfl rfl rfl rfl rfl hs46 (by simp) rfl (by have hr := hk34; clear hg; first | omega | (simp only [List.length_append, List.length_cons, List.length_nil] at hr ⊢; omega) | (simp at hr ⊢; omega)) (by have hr := hk34; clear hg; first | omega | (simp only [List.length_append, List.length_cons, List.length_nil] at hr ⊢; omega) | (simp at hr ⊢; omega)) rfl ?_); clear hS a; intro Aq45 cq45 a w hA hK hS
    clear hK hA
    replace hS := hS.add 123 (rdF (Rep.list (Rep.num .i64)) (cs7 ++ ns46) (out_4 ++ r31)) (RdAll.append (hS.fact (k := 105) rfl) (hS.fact (k := 122) rfl))
    refine qq hS rfl (y_assign hS rfl) fun a hS => ?_
    apply wpList_nil
    refine p_inN ?_
    refine p_norm ?_
    apply wp_region_lit
    refine qq hS rfl (y_addN (i := t_8) (j := 1) hS rfl rfl (in64.2 (by omega))) fun a hS => ?_
    refine qq hS rfl (y_move hS rfl) fun a hS => ?_
    apply wN
    replace hS := hS.al 105 123 rfl
    exact ⟨m1, Nat.lt_succ_self _, ⟨(out_4 ++ r31), (t_8 + 1), (Aq45), (cq45), (cs7 ++ ns46), hg, (hS.sb rfl rfl rfl)⟩⟩
   ·replace hg := br_f hg (by rw [hc21]; exact Bool.false_ne_true)
    apply wp_skip
    refine p_inN ?_
    refine p_norm ?_
    apply wp_region_lit
    refine qq hS rfl (y_addN (i := t_8) (j := 1) hS rfl rfl (in64.2 (by omega))) fun a hS => ?_
    refine qq hS rfl (y_move hS rfl) fun a hS => ?_
    apply wN
    replace hS := hS.al 105 105 rfl
    exact ⟨m1, Nat.lt_succ_self _, ⟨(out_4), (t_8 + 1), (A5), (c6), (cs7), hg, (hS.sb rfl rfl rfl)⟩⟩
  ·replace hg := br_f hg hc9
   apply wp_exit
   refine p_then ?_
   refine p_then ?_
   refine p_in ?_
   refine p_norm ?_
   apply wR
   refine qq hS rfl (y_move hS rfl) fun a hS => ?_
   refine qq hS rfl (y_assign hS rfl) fun a hS => ?_
   apply wN
   apply wp_ret
   obtain rfl := Option.some.inj hg
   refine fin1 (fn := Try.f11) hS rfl (r_tmp hS rfl) ?_
   exact ⟨(A5), (c6), rfl, (hS.rowOut (R := (Rep.list (Rep.num .i64))) (kk := 700104) rfl rfl (hS.fact (k := 105) rfl))⟩
end Go.Proofs.Ytdicfdfncbmmpaa

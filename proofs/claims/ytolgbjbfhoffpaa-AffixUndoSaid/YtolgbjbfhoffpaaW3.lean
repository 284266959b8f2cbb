/- Chapter 23: the walks, part 3 -/
import Derived.Test.YtolgbjbfhoffpaaW2
namespace Go.Proofs.Ytolgbjbfhoffpaa
open Go.Gl Go.RowKit
set_option linter.unusedVariables false
set_option linter.unusedSimpArgs false

set_option maxHeartbeats 400000 in
theorem c_r23_Undo (n : Nat) (M : Bs) (w0 : World) (hM : ∀ b, M b → b < w0.heap.size) (t_ : Affix) (Ap02 : Option Addr) (cp02 : Nat) (hp02 : SlR RChange M w0 Ap02 (t_.Pairs).length cp02 (t_.Pairs)) (t_' : (List UInt8)) (lp11 : (t_').length ≤ 9223372036854775807) (r : (List (List UInt8))) (hg : r23_Undo n t_ t_' = some r) :
    Calls Try.prog 18 [.agg #[.int .i64 (t_.Kind), .slice (Ap02) ((t_.Pairs).length) (cp02)], .string (bs (t_'))].toArray w0 (Ret noB w0 fun v w => ∃ (Aa1 : Option Addr), ∃ (ca1 : Nat), v = .slice (Aa1) ((r).length) (ca1) ∧ (SlR Rep.str M w Aa1 (r).length ca1 (r))) := by
  unfold r23_Undo at hg
  refine enter M noB Try.func18 rfl rfl hM ?_
  intro a hS
  replace hS := hS.add 101 (slF RChange (Ap02) ((t_.Pairs).length) (cp02) (t_.Pairs)) (by exact Fact.change _ enterM hp02)
  apply wp_seq
  apply wp_region_lit
  refine l_seq rfl (l_box (zs := [.int .i64 (t_.Kind), .slice (Ap02) ((t_.Pairs).length) (cp02)]) hS 1000 rfl rfl rfl rfl ?_); clear hS a; intro b2 a w hb hK hS
  clear hb
  clear hK
  refine q_seq hS rfl rfl rfl (y_assign hS rfl) ?_; clear hS a; intro a hS
  apply wpList_nil
  refine p_norm ?_
  apply wp_seq
  apply wp_seq
  apply wp_region_lit
  refine q_seq hS rfl rfl rfl (y_boxField (o' := 0) hS rfl Try.underlying24 rfl rfl rfl) ?_; clear hS a; intro a hS
  refine q_seq hS rfl rfl rfl (y_loadBox1 (kk := 1000) hS rfl rfl rfl Try.underlying3 rfl) ?_; clear hS a; intro a hS
  refine q_seq hS rfl rfl rfl (y_eql hS rfl rfl) ?_; clear hS a; intro a hS
  apply wpList_nil
  refine p_norm ?_
  refine c_dec hS rfl (fun hc3 => ?_) (fun hc3 => ?_)
  · replace hg := br_t hg hc3
    apply wp_seq
    apply wp_region_lit
    refine q_seq hS rfl rfl rfl (y_move hS rfl) ?_; clear hS a; intro a hS
    refine l_seq rfl (l_buildDense (sz := 1) hS 1201 rfl rfl rfl Try.underlying34 rfl rfl rfl rfl rfl rfl rfl ?_); clear hS a; intro b5 a w hbb5 hK hS
    clear hbb5
    clear hK
    refine q_seq hS rfl rfl rfl (y_assign hS rfl) ?_; clear hS a; intro a hS
    apply wpList_nil
    refine p_norm ?_
    apply wp_ret
    refine p_thenR ?_
    obtain rfl := Option.some.inj hg
    refine fin1 (fn := Try.f18) hS rfl (r_tmp hS rfl) ?_
    replace hS := hS.add 102 (rdF Rep.str (cellsOfL [.string (bs (t_'))]) ([t_'])) (RdAll.cons (by exact ⟨rfl, (by first | omega | (rw [List.length_append]; omega) | (simp only [List.length_append]; omega) | (simp only [List.length_append, List.length_take, List.length_drop, List.length_cons, List.length_nil]; omega))⟩) (RdAll.nil _ _ _))
    exact ⟨(some ⟨b5, 0, none⟩), (1), rfl, (hS.rowOut (R := Rep.str) (kk := 1201) rfl rfl (hS.fact (k := 102) rfl))⟩
  · replace hg := br_f hg hc3
    apply wp_skip
    refine p_norm ?_
    apply wp_seq
    apply wp_region_lit
    refine q_seq hS rfl rfl rfl (y_assign hS rfl) ?_; clear hS a; intro a hS
    apply wpList_nil
    refine p_norm ?_
    apply wp_seq
    apply wp_seq
    apply wp_region_lit
    refine q_seq hS rfl rfl rfl (y_assign hS rfl) ?_; clear hS a; intro a hS
    apply wpList_nil
    refine p_norm ?_
    apply wp_block
    replace hS := hS.add 103 (slF Rep.str none 0 0 []) (SlR.nil_ _ _ _)
    refine c_loop (σ := Nat) (fun m1 a w => ∃ (t_6 : (List (List UInt8))), ∃ (t_9 : Nat), ∃ (A7 : Option Addr), ∃ (c8 : Nat), r23_Undo_L0 n t_ t_' m1 t_6 t_9 = some r ∧ St (⟨Try.f18.ntmps, M, noB, w0⟩ : Ctx) [(1, .string (bs (t_'))), (2, .pointer (some ⟨b2, 0, none⟩)), (5, .slice (A7) ((t_6).length) (c8)), (6, .int .i64 (((t_9 : Nat) : Int)))] [(1000, Ob.box b2 [.int .i64 (t_.Kind), .slice (Ap02) ((t_.Pairs).length) (cp02)] 24)] [(101, slF RChange (Ap02) ((t_.Pairs).length) (cp02) (t_.Pairs)), (103, slF Rep.str (A7) ((t_6).length) (c8) (t_6))] a w) (fun m1 => m1) n ⟨([]), (0), (none), (0), hg, (hS.sub ⟨rfl, rfl, rfl, rfl, trivial⟩ ⟨rfl, trivial⟩ ⟨rfl, rfl, trivial⟩)⟩ ?_
    clear hS a; rintro m1 a w ⟨t_6, t_9, A7, c8, hg, hS⟩
    rcases m1 with _ | m1
    · rw [r23_Undo_L0] at hg; cases hg
    rw [r23_Undo_L0] at hg
    apply wp_seq
    apply wp_seq
    apply wp_region_lit
    refine q_seq hS rfl rfl rfl (y_move hS rfl) ?_; clear hS a; intro a hS
    refine q_seq hS rfl rfl rfl (y_boxField (o' := 1) hS rfl Try.underlying24 rfl rfl rfl) ?_; clear hS a; intro a hS
    refine q_seq hS rfl rfl rfl (y_loadBox1 (kk := 1000) hS rfl rfl rfl Try.underlying22 rfl) ?_; clear hS a; intro a hS
    refine q_seq hS rfl rfl rfl (y_lenSlice hS rfl Try.underlying22) ?_; clear hS a; intro a hS
    refine q_seq hS rfl rfl rfl (y_lssN (i := t_9) (j := ((t_.Pairs).length)) hS rfl rfl) ?_; clear hS a; intro a hS
    apply wpList_nil
    refine p_norm ?_
    refine c_dec hS rfl (fun hc10 => ?_) (fun hc10 => ?_)
    · replace hg := br_t hg hc10
      have hmx11 := SlR.mx (hS.fact (k := 101) rfl)
      apply wp_skip
      refine p_norm ?_
      apply wp_seq
      apply wp_block
      apply wp_seq
      apply wp_seq
      replace hg := bind_some hg; obtain ⟨x13, hx13, hg⟩ := hg
      replace hg := bind_some hg; obtain ⟨r15, hr15, hg⟩ := hg
      refine d_plan hS [] [(0, some 0), (1, some 1000), (2, some 0), (3, some 1000), (4, some 0), (5, some 0), (6, some 0), (7, some 0), (8, some 0), (9, none), (10, none)] rfl (by kernel_rfl) (by kernel_rfl) rfl ?_; clear hS; intro wr hZ hS; have hR := hS.wd
      refine q_take hS hR rfl rfl rfl rfl (y_boxField (o' := 0) hS rfl Try.underlying24 rfl rfl rfl) ?_; clear hS a; intro a hS
      refine q_take hS hR rfl rfl rfl rfl (y_loadBox1 (kk := 1000) hS rfl rfl rfl Try.underlying3 rfl) ?_; clear hS a; intro a hS
      refine q_take hS hR rfl rfl rfl rfl (y_boxField (o' := 1) hS rfl Try.underlying24 rfl rfl rfl) ?_; clear hS a; intro a hS
      refine q_take hS hR rfl rfl rfl rfl (y_loadBox1 (kk := 1000) hS rfl rfl rfl Try.underlying22 rfl) ?_; clear hS a; intro a hS
      refine q_take hS hR rfl rfl rfl rfl (y_move hS rfl) ?_; clear hS a; intro a hS
      obtain ⟨p18, hep18, hpp18⟩ := SlR.elemX (hS.fact (k := 101) rfl) hx13
      refine q_take hS hR rfl rfl rfl rfl (y_elem (sz := 2) (i := t_9) hS rfl rfl Try.underlying22 rfl hep18 rfl (lt_of_get hx13)) ?_; clear hS a; intro a hS
      refine q_take hS hR rfl rfl rfl rfl (y_ptrField (o' := 1) hS rfl Try.underlying42 rfl rfl rfl) ?_; clear hS a; intro a hS
      obtain ⟨hlq19, hmq19, csq19, hdq19, hcq19⟩ := hpp18
      obtain ⟨rfl, lq191, lq192⟩ := RChange.open hdq19
      refine q_take hS hR rfl rfl rfl rfl (y_ldp1 hS rfl hlq19 hmq19 (hcq19 1 _ rfl) Try.underlying9 rfl) ?_; clear hS a; intro a hS
      refine q_take hS hR rfl rfl rfl rfl (y_move hS rfl) ?_; clear hS a; intro a hS
      refine l_take hS rfl rfl (l_call (cap := []) hS rfl Try.func29 rfl (by kernel_rfl) rfl rfl (c_r23_fits n _ _ hS.lt t_.Kind x13.New (by first | omega | (rw [List.length_append]; omega) | (simp only [List.length_append]; omega) | (simp only [List.length_append, List.length_take, List.length_drop, List.length_cons, List.length_nil]; omega)) t_' (by first | omega | (rw [List.length_append]; omega) | (simp only [List.length_append]; omega) | (simp only [List.length_append, List.length_take, List.length_drop, List.length_cons, List.length_nil]; omega)) r15 hr15) ?_); clear hS a; intro v20 a w hK hp hS
      replace hZ := Nat.le_trans hZ hK.size; refine ⟨fun g _ h => h.grow hK, ?_⟩; clear hK
      obtain rfl := hp
      refine l_take hS rfl rfl (l_quiet hS rfl rfl (y_not hS rfl) ?_); clear hS a; intro a hS; refine ⟨fun g _ h => h, ?_⟩
      clear hR hZ
      refine p_norm ?_
      refine c_cond hS rfl (fun hc22 => ?_) (fun hc22 => ?_)
      · replace hg := br_t hg hc22
        apply wp_exit
        refine p_then ?_
        refine p_in ?_
        refine p_norm ?_
        apply wp_region_lit
        refine q_seq hS rfl rfl rfl (y_move hS rfl) ?_; clear hS a; intro a hS
        refine q_seq hS rfl rfl rfl (y_addN (i := t_9) (j := 1) hS rfl rfl (in64.2 (by omega))) ?_; clear hS a; intro a hS
        refine q_seq hS rfl rfl rfl (y_assign hS rfl) ?_; clear hS a; intro a hS
        apply wpList_nil
        refine p_norm ?_
        replace hS := hS.add 103 (slF Rep.str (A7) ((t_6).length) (c8) (t_6)) (hS.fact (k := 103) rfl)
        exact ⟨m1, Nat.lt_succ_self _, ⟨(t_6), (t_9 + 1), (A7), (c8), hg, (hS.sub ⟨rfl, rfl, rfl, rfl, trivial⟩ ⟨rfl, trivial⟩ ⟨rfl, rfl, trivial⟩)⟩⟩
      · replace hg := br_f hg (by rw [hc22]; exact Bool.false_ne_true)
        apply wp_skip
        refine p_norm ?_
        apply wp_seq
        replace hg := bind_some hg; obtain ⟨r27, hr27, hg⟩ := hg
        refine d_plan hS [] [(0, some 0), (1, some 1000), (2, some 0), (3, some 0), (4, some 1000), (5, some 0), (6, some 0), (7, some 0), (8, some 0), (9, some 0), (10, some 1000), (11, some 0), (12, some 0), (13, some 0), (14, some 0), (15, none), (16, none)] rfl (by kernel_rfl) (by kernel_rfl) rfl ?_; clear hS; intro wr hZ hS; have hR := hS.wd
        refine q_take hS hR rfl rfl rfl rfl (y_boxField (o' := 0) hS rfl Try.underlying24 rfl rfl rfl) ?_; clear hS a; intro a hS
        refine q_take hS hR rfl rfl rfl rfl (y_loadBox1 (kk := 1000) hS rfl rfl rfl Try.underlying3 rfl) ?_; clear hS a; intro a hS
        refine q_take hS hR rfl rfl rfl rfl (y_move hS rfl) ?_; clear hS a; intro a hS
        refine q_take hS hR rfl rfl rfl rfl (y_boxField (o' := 1) hS rfl Try.underlying24 rfl rfl rfl) ?_; clear hS a; intro a hS
        refine q_take hS hR rfl rfl rfl rfl (y_loadBox1 (kk := 1000) hS rfl rfl rfl Try.underlying22 rfl) ?_; clear hS a; intro a hS
        refine q_take hS hR rfl rfl rfl rfl (y_move hS rfl) ?_; clear hS a; intro a hS
        obtain ⟨p30, hep30, hpp30⟩ := SlR.elemX (hS.fact (k := 101) rfl) hx13
        refine q_take hS hR rfl rfl rfl rfl (y_elem (sz := 2) (i := t_9) hS rfl rfl Try.underlying22 rfl hep30 rfl (lt_of_get hx13)) ?_; clear hS a; intro a hS
        refine q_take hS hR rfl rfl rfl rfl (y_ptrField (o' := 1) hS rfl Try.underlying42 rfl rfl rfl) ?_; clear hS a; intro a hS
        obtain ⟨hlq31, hmq31, csq31, hdq31, hcq31⟩ := hpp30
        obtain ⟨rfl, lq311, lq312⟩ := RChange.open hdq31
        refine q_take hS hR rfl rfl rfl rfl (y_ldp1 hS rfl hlq31 hmq31 (hcq31 1 _ rfl) Try.underlying9 rfl) ?_; clear hS a; intro a hS
        refine q_take hS hR rfl rfl rfl rfl (y_boxField (o' := 1) hS rfl Try.underlying24 rfl rfl rfl) ?_; clear hS a; intro a hS
        refine q_take hS hR rfl rfl rfl rfl (y_loadBox1 (kk := 1000) hS rfl rfl rfl Try.underlying22 rfl) ?_; clear hS a; intro a hS
        refine q_take hS hR rfl rfl rfl rfl (y_move hS rfl) ?_; clear hS a; intro a hS
        obtain ⟨p32, hep32, hpp32⟩ := SlR.elemX (hS.fact (k := 101) rfl) hx13
        refine q_take hS hR rfl rfl rfl rfl (y_elem (sz := 2) (i := t_9) hS rfl rfl Try.underlying22 rfl hep32 rfl (lt_of_get hx13)) ?_; clear hS a; intro a hS
        refine q_take hS hR rfl rfl rfl rfl (y_ptrField (o' := 0) hS rfl Try.underlying42 rfl rfl rfl) ?_; clear hS a; intro a hS
        obtain ⟨hlq33, hmq33, csq33, hdq33, hcq33⟩ := hpp32
        obtain ⟨rfl, lq331, lq332⟩ := RChange.open hdq33
        refine q_take hS hR rfl rfl rfl rfl (y_ldp1 hS rfl hlq33 hmq33 (hcq33 0 _ rfl) Try.underlying9 rfl) ?_; clear hS a; intro a hS
        refine l_take hS rfl rfl (l_call (cap := []) hS rfl Try.func30 rfl (by kernel_rfl) rfl rfl (c_r23_replaced n _ _ hS.lt t_.Kind t_' (by first | omega | (rw [List.length_append]; omega) | (simp only [List.length_append]; omega) | (simp only [List.length_append, List.length_take, List.length_drop, List.length_cons, List.length_nil]; omega)) x13.New (by first | omega | (rw [List.length_append]; omega) | (simp only [List.length_append]; omega) | (simp only [List.length_append, List.length_take, List.length_drop, List.length_cons, List.length_nil]; omega)) x13.Old (by first | omega | (rw [List.length_append]; omega) | (simp only [List.length_append]; omega) | (simp only [List.length_append, List.length_take, List.length_drop, List.length_cons, List.length_nil]; omega)) r27 hr27) ?_); clear hS a; intro v34 a w hK hp hS
        replace hZ := Nat.le_trans hZ hK.size; refine ⟨fun g _ h => h.grow hK, ?_⟩; clear hK
        obtain ⟨rfl, lu35a1⟩ := hp
        refine l_take hS rfl rfl (l_quiet hS rfl rfl (y_assign hS rfl) ?_); clear hS a; intro a hS; refine ⟨fun g _ h => h, ?_⟩
        clear hR hZ
        refine p_norm ?_
        apply wp_seq
        apply wp_seq
        replace hg := bind_some hg; obtain ⟨r36, hr36, hg⟩ := hg
        apply wp_region_lit
        refine q_seq hS rfl rfl rfl (y_move hS rfl) ?_; clear hS a; intro a hS
        refine l_seq rfl (l_call (cap := []) hS rfl Try.func13 rfl (by kernel_rfl) rfl rfl (c_r01_Word n _ _ hS.lt r27 (by first | omega | (rw [List.length_append]; omega) | (simp only [List.length_append]; omega) | (simp only [List.length_append, List.length_take, List.length_drop, List.length_cons, List.length_nil]; omega)) r36 hr36) ?_); clear hS a; intro v39 a w hK hp hS
        clear hK
        obtain rfl := hp
        refine q_seq hS rfl rfl rfl (y_not hS rfl) ?_; clear hS a; intro a hS
        apply wpList_nil
        refine p_norm ?_
        refine c_cond hS rfl (fun hc41 => ?_) (fun hc41 => ?_)
        · replace hg := br_t hg hc41
          apply wp_exit
          refine p_then ?_
          refine p_in ?_
          refine p_norm ?_
          apply wp_region_lit
          refine q_seq hS rfl rfl rfl (y_move hS rfl) ?_; clear hS a; intro a hS
          refine q_seq hS rfl rfl rfl (y_addN (i := t_9) (j := 1) hS rfl rfl (in64.2 (by omega))) ?_; clear hS a; intro a hS
          refine q_seq hS rfl rfl rfl (y_assign hS rfl) ?_; clear hS a; intro a hS
          apply wpList_nil
          refine p_norm ?_
          replace hS := hS.add 103 (slF Rep.str (A7) ((t_6).length) (c8) (t_6)) (hS.fact (k := 103) rfl)
          exact ⟨m1, Nat.lt_succ_self _, ⟨(t_6), (t_9 + 1), (A7), (c8), hg, (hS.sub ⟨rfl, rfl, rfl, rfl, trivial⟩ ⟨rfl, trivial⟩ ⟨rfl, rfl, trivial⟩)⟩⟩
        · replace hg := br_f hg (by rw [hc41]; exact Bool.false_ne_true)
          apply wp_skip
          refine p_norm ?_
          apply wp_seq
          replace hg := bind_some hg; obtain ⟨r42, hr42, hg⟩ := hg
          apply wp_region_lit
          refine q_seq hS rfl rfl rfl (y_loadBox (kk := 1000) (n := 2) (vs := [.int .i64 (t_.Kind), .slice (Ap02) ((t_.Pairs).length) (cp02)]) hS rfl rfl Try.underlying24 rfl rfl rfl rfl) ?_; clear hS a; intro a hS
          refine q_seq hS rfl rfl rfl (y_move hS rfl) ?_; clear hS a; intro a hS
          refine l_seq rfl (l_call (cap := []) hS rfl Try.func15 rfl (by kernel_rfl) rfl rfl (c_r23_Apply n _ _ hS.lt t_ (Ap02) (cp02) (hS.fact (k := 101) rfl) r27 (by first | omega | (rw [List.length_append]; omega) | (simp only [List.length_append]; omega) | (simp only [List.length_append, List.length_take, List.length_drop, List.length_cons, List.length_nil]; omega)) r42 hr42) ?_); clear hS a; intro v45 a w hK hp hS
          clear hK
          obtain ⟨rfl, lu46a1⟩ := hp
          refine q_seq hS rfl rfl rfl (y_move hS rfl) ?_; clear hS a; intro a hS
          refine q_seq hS rfl rfl rfl (y_extract hS rfl rfl) ?_; clear hS a; intro a hS
          refine q_seq hS rfl rfl rfl (y_extract hS rfl rfl) ?_; clear hS a; intro a hS
          refine q_seq hS rfl rfl rfl (y_assign hS rfl) ?_; clear hS a; intro a hS
          refine q_seq hS rfl rfl rfl (y_assign hS rfl) ?_; clear hS a; intro a hS
          apply wpList_nil
          refine p_norm ?_
          apply wp_seq
          replace hg := jn_some hg; obtain ⟨k47, hg, hk47⟩ := hg
          refine c_post (fun a w => ∃ (t_48 : Bool), k47 t_48 = some r ∧ St (⟨Try.f18.ntmps, M, noB, w0⟩ : Ctx) [(1, .string (bs (t_'))), (2, .pointer (some ⟨b2, 0, none⟩)), (5, .slice (A7) ((t_6).length) (c8)), (6, .int .i64 (((t_9 : Nat) : Int))), (7, .string (bs (r27))), (63, .bool (t_48))] [(1000, Ob.box b2 [.int .i64 (t_.Kind), .slice (Ap02) ((t_.Pairs).length) (cp02)] 24)] [(101, slF RChange (Ap02) ((t_.Pairs).length) (cp02) (t_.Pairs)), (103, slF Rep.str (A7) ((t_6).length) (c8) (t_6))] a w) ?_ ?_
          · rcases Bool.eq_false_or_eq_true (r42.2) with hs49 | hs49
            · replace hg := br_t hg hs49
              apply wp_region_lit
              refine q_seq hS rfl rfl rfl (yl_b (y_move hS rfl) hs49) ?_; clear hS a; intro a hS
              refine q_seq hS rfl rfl rfl (y_move hS rfl) ?_; clear hS a; intro a hS
              refine g_yes hS rfl rfl rfl rfl (l_quiet hS rfl rfl (y_move hS rfl) ?_); clear hS a; intro a hS
              refine g_yes hS rfl rfl rfl rfl (l_quiet hS rfl rfl (y_move hS rfl) ?_); clear hS a; intro a hS
              refine g_yes hS rfl rfl rfl rfl (l_quiet hS rfl rfl (y_seq hS rfl rfl) ?_); clear hS a; intro a hS
              refine q_seq hS rfl rfl rfl (y_pick_t hS rfl rfl) ?_; clear hS a; intro a hS
              apply wpList_nil
              refine p_norm ?_
              exact ⟨(decide ((r42.1 : List UInt8) = t_')), hg, (hS.sub ⟨rfl, rfl, rfl, rfl, rfl, rfl, trivial⟩ ⟨rfl, trivial⟩ ⟨rfl, rfl, trivial⟩)⟩
            · replace hg := br_f hg (by rw [hs49]; exact Bool.false_ne_true)
              apply wp_region_lit
              refine q_seq hS rfl rfl rfl (yl_b (y_move hS rfl) hs49) ?_; clear hS a; intro a hS
              refine q_seq hS rfl rfl rfl (y_move hS rfl) ?_; clear hS a; intro a hS
              refine g_no hS rfl rfl rfl rfl rfl rfl rfl ?_; clear hS a; intro a hS
              refine g_no hS rfl rfl rfl rfl rfl rfl rfl ?_; clear hS a; intro a hS
              refine g_no hS rfl rfl rfl rfl rfl rfl rfl ?_; clear hS a; intro a hS
              refine q_seq hS rfl rfl rfl (y_pick_f hS rfl rfl) ?_; clear hS a; intro a hS
              apply wpList_nil
              refine p_norm ?_
              exact ⟨(false), hg, (hS.sub ⟨rfl, rfl, rfl, rfl, rfl, rfl, trivial⟩ ⟨rfl, trivial⟩ ⟨rfl, rfl, trivial⟩)⟩
          clear hS a; rintro a w ⟨t_48, hg, hS⟩
          subst hk47
          refine c_cond hS rfl (fun hc50 => ?_) (fun hc50 => ?_)
          · replace hg := br_t hg hc50
            replace hg := bind_some hg; obtain ⟨r51, hr51, hg⟩ := hg
            apply wp_region_lit
            refine q_seq hS rfl rfl rfl (y_move hS rfl) ?_; clear hS a; intro a hS
            refine q_seq hS rfl rfl rfl (y_move hS rfl) ?_; clear hS a; intro a hS
            refine l_seq rfl (l_call (cap := []) hS rfl Try.func33 rfl (by kernel_rfl) rfl rfl (c_r23_with n _ _ hS.lt t_6 (A7) (c8) (hS.fact (k := 103) rfl) r27 (by first | omega | (rw [List.length_append]; omega) | (simp only [List.length_append]; omega) | (simp only [List.length_append, List.length_take, List.length_drop, List.length_cons, List.length_nil]; omega)) r51 hr51) ?_); clear hS a; intro v54 a w hK hp hS
            clear hK
            obtain ⟨Au55a1, cu55a1, rfl, hu55a1⟩ := hp
            replace hS := hS.add 105 (slF Rep.str (Au55a1) ((r51).length) (cu55a1) (r51)) hu55a1
            refine q_seq hS rfl rfl rfl (y_assign hS rfl) ?_; clear hS a; intro a hS
            apply wpList_nil
            refine p_inN ?_
            refine p_norm ?_
            apply wp_region_lit
            refine q_seq hS rfl rfl rfl (y_move hS rfl) ?_; clear hS a; intro a hS
            refine q_seq hS rfl rfl rfl (y_addN (i := t_9) (j := 1) hS rfl rfl (in64.2 (by omega))) ?_; clear hS a; intro a hS
            refine q_seq hS rfl rfl rfl (y_assign hS rfl) ?_; clear hS a; intro a hS
            apply wpList_nil
            refine p_norm ?_
            replace hS := hS.add 103 (slF Rep.str (Au55a1) ((r51).length) (cu55a1) (r51)) (hS.fact (k := 105) rfl)
            exact ⟨m1, Nat.lt_succ_self _, ⟨(r51), (t_9 + 1), (Au55a1), (cu55a1), hg, (hS.sub ⟨rfl, rfl, rfl, rfl, trivial⟩ ⟨rfl, trivial⟩ ⟨rfl, rfl, trivial⟩)⟩⟩
          · replace hg := br_f hg (by rw [hc50]; exact Bool.false_ne_true)
            apply wp_skip
            refine p_inN ?_
            refine p_norm ?_
            apply wp_region_lit
            refine q_seq hS rfl rfl rfl (y_move hS rfl) ?_; clear hS a; intro a hS
            refine q_seq hS rfl rfl rfl (y_addN (i := t_9) (j := 1) hS rfl rfl (in64.2 (by omega))) ?_; clear hS a; intro a hS
            refine q_seq hS rfl rfl rfl (y_assign hS rfl) ?_; clear hS a; intro a hS
            apply wpList_nil
            refine p_norm ?_
            replace hS := hS.add 103 (slF Rep.str (A7) ((t_6).length) (c8) (t_6)) (hS.fact (k := 103) rfl)
            exact ⟨m1, Nat.lt_succ_self _, ⟨(t_6), (t_9 + 1), (A7), (c8), hg, (hS.sub ⟨rfl, rfl, rfl, rfl, trivial⟩ ⟨rfl, trivial⟩ ⟨rfl, rfl, trivial⟩)⟩⟩
    · replace hg := br_f hg hc10
      apply wp_exit
      refine p_then ?_
      refine p_then ?_
      refine p_in ?_
      refine p_norm ?_
      apply wp_seq
      apply wp_region_lit
      refine q_seq hS rfl rfl rfl (y_move hS rfl) ?_; clear hS a; intro a hS
      refine q_seq hS rfl rfl rfl (y_assign hS rfl) ?_; clear hS a; intro a hS
      apply wpList_nil
      refine p_norm ?_
      apply wp_ret
      obtain rfl := Option.some.inj hg
      refine fin1 (fn := Try.f18) hS rfl (r_tmp hS rfl) ?_
      exact ⟨(A7), (c8), rfl, (hS.out (k := 103) rfl)⟩
set_option maxHeartbeats 400000 in
theorem c_law23_AffixUndoes (n : Nat) (M : Bs) (w0 : World) (hM : ∀ b, M b → b < w0.heap.size) (a_ : Affix) (Ap02 : Option Addr) (cp02 : Nat) (hp02 : SlR RChange M w0 Ap02 (a_.Pairs).length cp02 (a_.Pairs)) (w_ : (List UInt8)) (lp11 : (w_).length ≤ 9223372036854775807) (r : Bool) (hg : law23_AffixUndoes n a_ w_ = some r) :
    Calls Try.prog 5 [.agg #[.int .i64 (a_.Kind), .slice (Ap02) ((a_.Pairs).length) (cp02)], .string (bs (w_))].toArray w0 (Ret noB w0 fun v w => v = .bool (r)) := by
  unfold law23_AffixUndoes at hg
  refine enter M noB Try.func5 rfl rfl hM ?_
  intro a hS
  replace hS := hS.add 101 (slF RChange (Ap02) ((a_.Pairs).length) (cp02) (a_.Pairs)) (by exact Fact.change _ enterM hp02)
  apply wp_seq
  apply wp_region_lit
  refine l_seq rfl (l_box (zs := [.int .i64 (a_.Kind), .slice (Ap02) ((a_.Pairs).length) (cp02)]) hS 1000 rfl rfl rfl rfl ?_); clear hS a; intro b2 a w hb hK hS
  clear hb
  clear hK
  refine q_seq hS rfl rfl rfl (y_assign hS rfl) ?_; clear hS a; intro a hS
  apply wpList_nil
  refine p_norm ?_
  apply wp_seq
  apply wp_seq
  replace hg := jn_some hg; obtain ⟨k3, hg, hk3⟩ := hg
  refine c_post (fun a w => ∃ (t_4 : Bool), k3 t_4 = some r ∧ St (⟨Try.f5.ntmps, M, noB, w0⟩ : Ctx) [(1, .string (bs (w_))), (2, .pointer (some ⟨b2, 0, none⟩)), (17, .bool (t_4))] [(1000, Ob.box b2 [.int .i64 (a_.Kind), .slice (Ap02) ((a_.Pairs).length) (cp02)] 24)] [(101, slF RChange (Ap02) ((a_.Pairs).length) (cp02) (a_.Pairs))] a w) ?_ ?_
  · replace hg := bind_some hg; obtain ⟨r5, hr5, hg⟩ := hg
    rcases Bool.eq_false_or_eq_true (!(r5)) with hs8 | hs8
    · replace hg := br_t hg hs8
      apply wp_region_lit
      refine q_seq hS rfl rfl rfl (y_loadBox (kk := 1000) (n := 2) (vs := [.int .i64 (a_.Kind), .slice (Ap02) ((a_.Pairs).length) (cp02)]) hS rfl rfl Try.underlying24 rfl rfl rfl rfl) ?_; clear hS a; intro a hS
      refine l_seq rfl (l_call (cap := []) hS rfl Try.func9 rfl (by kernel_rfl) rfl rfl (c_r23_Light n _ _ hS.lt a_ (Ap02) (cp02) (hS.fact (k := 101) rfl) r5 hr5) ?_); clear hS a; intro v9 a w hK hp hS
      clear hK
      obtain rfl := hp
      refine q_seq hS rfl rfl rfl (yl_b (y_not hS rfl) hs8) ?_; clear hS a; intro a hS
      refine q_seq hS rfl rfl rfl (y_move hS rfl) ?_; clear hS a; intro a hS
      refine g_no hS rfl rfl rfl rfl rfl rfl rfl ?_; clear hS a; intro a hS
      refine g_no hS rfl rfl rfl rfl rfl rfl rfl ?_; clear hS a; intro a hS
      refine g_no hS rfl rfl rfl rfl rfl rfl rfl ?_; clear hS a; intro a hS
      refine q_seq hS rfl rfl rfl (y_pick_t hS rfl rfl) ?_; clear hS a; intro a hS
      refine q_seq hS rfl rfl rfl (y_move hS rfl) ?_; clear hS a; intro a hS
      refine g_no hS rfl rfl rfl rfl rfl rfl rfl ?_; clear hS a; intro a hS
      refine g_no hS rfl rfl rfl rfl rfl rfl rfl ?_; clear hS a; intro a hS
      refine g_no hS rfl rfl rfl rfl rfl rfl rfl ?_; clear hS a; intro a hS
      refine q_seq hS rfl rfl rfl (y_pick_t hS rfl rfl) ?_; clear hS a; intro a hS
      apply wpList_nil
      refine p_norm ?_
      exact ⟨(true), hg, (hS.sub ⟨rfl, rfl, rfl, trivial⟩ ⟨rfl, trivial⟩ ⟨rfl, trivial⟩)⟩
    · replace hg := br_f hg (by rw [hs8]; exact Bool.false_ne_true)
      replace hg := bind_some hg; obtain ⟨r11, hr11, hg⟩ := hg
      rcases Decidable.em (r11 ≠ 0) with hs14 | hs14
      · have hs14e : decide (r11 ≠ 0) = true := decide_eq_true hs14
        replace hg := br_t hg hs14
        apply wp_region_lit
        refine q_seq hS rfl rfl rfl (y_loadBox (kk := 1000) (n := 2) (vs := [.int .i64 (a_.Kind), .slice (Ap02) ((a_.Pairs).length) (cp02)]) hS rfl rfl Try.underlying24 rfl rfl rfl rfl) ?_; clear hS a; intro a hS
        refine l_seq rfl (l_call (cap := []) hS rfl Try.func9 rfl (by kernel_rfl) rfl rfl (c_r23_Light n _ _ hS.lt a_ (Ap02) (cp02) (hS.fact (k := 101) rfl) r5 hr5) ?_); clear hS a; intro v15 a w hK hp hS
        clear hK
        obtain rfl := hp
        refine q_seq hS rfl rfl rfl (yl_b (y_not hS rfl) hs8) ?_; clear hS a; intro a hS
        refine q_seq hS rfl rfl rfl (y_move hS rfl) ?_; clear hS a; intro a hS
        refine g_yes hS rfl rfl rfl rfl (l_quiet hS rfl rfl (y_loadBox (kk := 1000) (n := 2) (vs := [.int .i64 (a_.Kind), .slice (Ap02) ((a_.Pairs).length) (cp02)]) hS rfl rfl Try.underlying24 rfl rfl rfl rfl) ?_); clear hS a; intro a hS
        refine g_yes hS rfl rfl rfl rfl (l_call (cap := []) hS rfl Try.func12 rfl (by kernel_rfl) rfl rfl (c_r23_Check n _ _ hS.lt a_ (Ap02) (cp02) (hS.fact (k := 101) rfl) r11 hr11) ?_); clear hS a; intro v17 a w hK hp hS
        clear hK
        obtain rfl := hp
        refine g_yes hS rfl rfl rfl rfl (l_quiet hS rfl rfl (yl_b (y_neq hS rfl rfl) hs14e) ?_); clear hS a; intro a hS
        refine q_seq hS rfl rfl rfl (y_pick_f hS rfl rfl) ?_; clear hS a; intro a hS
        refine q_seq hS rfl rfl rfl (y_move hS rfl) ?_; clear hS a; intro a hS
        refine g_no hS rfl rfl rfl rfl rfl rfl rfl ?_; clear hS a; intro a hS
        refine g_no hS rfl rfl rfl rfl rfl rfl rfl ?_; clear hS a; intro a hS
        refine g_no hS rfl rfl rfl rfl rfl rfl rfl ?_; clear hS a; intro a hS
        refine q_seq hS rfl rfl rfl (y_pick_t hS rfl rfl) ?_; clear hS a; intro a hS
        apply wpList_nil
        refine p_norm ?_
        exact ⟨(true), hg, (hS.sub ⟨rfl, rfl, rfl, trivial⟩ ⟨rfl, trivial⟩ ⟨rfl, trivial⟩)⟩
      · have hs14e : decide (r11 ≠ 0) = false := decide_eq_false hs14
        replace hg := br_f hg hs14
        replace hg := bind_some hg; obtain ⟨r19, hr19, hg⟩ := hg
        apply wp_region_lit
        refine q_seq hS rfl rfl rfl (y_loadBox (kk := 1000) (n := 2) (vs := [.int .i64 (a_.Kind), .slice (Ap02) ((a_.Pairs).length) (cp02)]) hS rfl rfl Try.underlying24 rfl rfl rfl rfl) ?_; clear hS a; intro a hS
        refine l_seq rfl (l_call (cap := []) hS rfl Try.func9 rfl (by kernel_rfl) rfl rfl (c_r23_Light n _ _ hS.lt a_ (Ap02) (cp02) (hS.fact (k := 101) rfl) r5 hr5) ?_); clear hS a; intro v22 a w hK hp hS
        clear hK
        obtain rfl := hp
        refine q_seq hS rfl rfl rfl (yl_b (y_not hS rfl) hs8) ?_; clear hS a; intro a hS
        refine q_seq hS rfl rfl rfl (y_move hS rfl) ?_; clear hS a; intro a hS
        refine g_yes hS rfl rfl rfl rfl (l_quiet hS rfl rfl (y_loadBox (kk := 1000) (n := 2) (vs := [.int .i64 (a_.Kind), .slice (Ap02) ((a_.Pairs).length) (cp02)]) hS rfl rfl Try.underlying24 rfl rfl rfl rfl) ?_); clear hS a; intro a hS
        refine g_yes hS rfl rfl rfl rfl (l_call (cap := []) hS rfl Try.func12 rfl (by kernel_rfl) rfl rfl (c_r23_Check n _ _ hS.lt a_ (Ap02) (cp02) (hS.fact (k := 101) rfl) r11 hr11) ?_); clear hS a; intro v24 a w hK hp hS
        clear hK
        obtain rfl := hp
        refine g_yes hS rfl rfl rfl rfl (l_quiet hS rfl rfl (yl_b (y_neq hS rfl rfl) hs14e) ?_); clear hS a; intro a hS
        refine q_seq hS rfl rfl rfl (y_pick_f hS rfl rfl) ?_; clear hS a; intro a hS
        refine q_seq hS rfl rfl rfl (y_move hS rfl) ?_; clear hS a; intro a hS
        refine g_yes hS rfl rfl rfl rfl (l_quiet hS rfl rfl (y_move hS rfl) ?_); clear hS a; intro a hS
        refine g_yes hS rfl rfl rfl rfl (l_call (cap := []) hS rfl Try.func13 rfl (by kernel_rfl) rfl rfl (c_r01_Word n _ _ hS.lt w_ (by first | omega | (rw [List.length_append]; omega) | (simp only [List.length_append]; omega) | (simp only [List.length_append, List.length_take, List.length_drop, List.length_cons, List.length_nil]; omega)) r19 hr19) ?_); clear hS a; intro v26 a w hK hp hS
        clear hK
        obtain rfl := hp
        refine g_yes hS rfl rfl rfl rfl (l_quiet hS rfl rfl (y_not hS rfl) ?_); clear hS a; intro a hS
        refine q_seq hS rfl rfl rfl (y_pick_f hS rfl rfl) ?_; clear hS a; intro a hS
        apply wpList_nil
        refine p_norm ?_
        exact ⟨(!(r19)), hg, (hS.sub ⟨rfl, rfl, rfl, trivial⟩ ⟨rfl, trivial⟩ ⟨rfl, trivial⟩)⟩
  clear hS a; rintro a w ⟨t_4, hg, hS⟩
  subst hk3
  refine c_cond hS rfl (fun hc28 => ?_) (fun hc28 => ?_)
  · replace hg := br_t hg hc28
    apply wp_seq
    replace hg := bind_some hg; obtain ⟨r29, hr29, hg⟩ := hg
    apply wp_region_lit
    refine l_seq rfl (l_call (cap := []) hS rfl Try.func10 rfl (by kernel_rfl) rfl rfl (c_law23_exampleHolds n _ _ hS.lt  r29 hr29) ?_); clear hS a; intro v32 a w hK hp hS
    clear hK
    obtain rfl := hp
    refine q_seq hS rfl rfl rfl (y_assign hS rfl) ?_; clear hS a; intro a hS
    apply wpList_nil
    refine p_norm ?_
    apply wp_ret
    refine p_thenR ?_
    obtain rfl := Option.some.inj hg
    refine fin1 (fn := Try.f5) hS rfl (r_tmp hS rfl) ?_
    exact rfl
  · replace hg := br_f hg (by rw [hc28]; exact Bool.false_ne_true)
    apply wp_skip
    refine p_norm ?_
    apply wp_seq
    replace hg := bind_some hg; obtain ⟨r34, hr34, hg⟩ := hg
    replace hg := bind_some hg; obtain ⟨r37, hr37, hg⟩ := hg
    replace hg := bind_some hg; obtain ⟨r40, hr40, hg⟩ := hg
    rcases Bool.eq_false_or_eq_true (r40) with hs43 | hs43
    · replace hg := br_t hg hs43
      replace hg := bind_some hg; obtain ⟨r44, hr44, hg⟩ := hg
      refine d_plan hS [] [(0, some 1000), (1, some 0), (3, some 1000), (4, some 0), (2, none), (5, none), (6, none), (7, none), (8, none), (9, none), (10, none)] rfl (by kernel_rfl) (by kernel_rfl) rfl ?_; clear hS; intro wr hZ hS; have hR := hS.wd
      refine q_take hS hR rfl rfl rfl rfl (y_loadBox (kk := 1000) (n := 2) (vs := [.int .i64 (a_.Kind), .slice (Ap02) ((a_.Pairs).length) (cp02)]) hS rfl rfl Try.underlying24 rfl rfl rfl rfl) ?_; clear hS a; intro a hS
      refine q_take hS hR rfl rfl rfl rfl (y_move hS rfl) ?_; clear hS a; intro a hS
      refine q_take hS hR rfl rfl rfl rfl (y_loadBox (kk := 1000) (n := 2) (vs := [.int .i64 (a_.Kind), .slice (Ap02) ((a_.Pairs).length) (cp02)]) hS rfl rfl Try.underlying24 rfl rfl rfl rfl) ?_; clear hS a; intro a hS
      refine q_take hS hR rfl rfl rfl rfl (y_move hS rfl) ?_; clear hS a; intro a hS
      refine l_take hS rfl rfl (l_call (cap := []) hS rfl Try.func17 rfl (by kernel_rfl) rfl rfl (c_affix_Undo n _ _ hS.lt a_ (Ap02) (cp02) (hS.fact (k := 101) rfl) w_ (by first | omega | (rw [List.length_append]; omega) | (simp only [List.length_append]; omega) | (simp only [List.length_append, List.length_take, List.length_drop, List.length_cons, List.length_nil]; omega)) r34 hr34) ?_); clear hS a; intro v47 a w hK hp hS
      replace hZ := Nat.le_trans hZ hK.size; refine ⟨fun g _ h => h.grow hK, ?_⟩; clear hK
      obtain ⟨Au48a1, cu48a1, rfl, hu48a1⟩ := hp
      replace hS := hS.add 104 (slF Rep.str (Au48a1) ((r34).length) (cu48a1) (r34)) hu48a1
      refine l_take hS rfl rfl (l_call (cap := []) hS rfl Try.func18 rfl (by kernel_rfl) rfl rfl (c_r23_Undo n _ _ hS.lt a_ (Ap02) (cp02) (hS.fact (k := 101) rfl) w_ (by first | omega | (rw [List.length_append]; omega) | (simp only [List.length_append]; omega) | (simp only [List.length_append, List.length_take, List.length_drop, List.length_cons, List.length_nil]; omega)) r37 hr37) ?_); clear hS a; intro v49 a w hK hp hS
      replace hZ := Nat.le_trans hZ hK.size; refine ⟨fun g _ h => h.grow hK, ?_⟩; clear hK
      obtain ⟨Au50a1, cu50a1, rfl, hu50a1⟩ := hp
      replace hS := hS.add 105 (slF Rep.str (Au50a1) ((r37).length) (cu50a1) (r37)) hu50a1
      refine l_take hS rfl rfl (l_call (cap := []) hS rfl Try.func16 rfl (by kernel_rfl) rfl rfl (c_r01_Same n _ _ hS.lt r34 (Au48a1) (cu48a1) (hS.fact (k := 104) rfl) r37 (Au50a1) (cu50a1) (hS.fact (k := 105) rfl) r40 hr40) ?_); clear hS a; intro v51 a w hK hp hS
      replace hZ := Nat.le_trans hZ hK.size; refine ⟨fun g _ h => h.grow hK, ?_⟩; clear hK
      obtain rfl := hp.trans (congrArg Value.bool hs43)
      refine l_take hS rfl rfl (l_quiet hS rfl rfl (y_move hS rfl) ?_); clear hS a; intro a hS; refine ⟨fun g _ h => h, ?_⟩
      refine l_take hS rfl ⟨_, _, _, rfl, rfl, rfl, rfl⟩ (l_call (cap := []) hS rfl Try.func10 rfl (by kernel_rfl) rfl rfl (c_law23_exampleHolds n _ _ hS.lt  r44 hr44) ?_); clear hS a; intro v53 a w hK hp hS
      replace hZ := Nat.le_trans hZ hK.size; refine ⟨fun g _ h => h.grow hK, ?_⟩; clear hK
      obtain rfl := hp
      refine l_take hS rfl rfl (l_quiet hS rfl rfl (y_pick_t hS rfl rfl) ?_); clear hS a; intro a hS; refine ⟨fun g _ h => h, ?_⟩
      refine l_take hS rfl rfl (l_quiet hS rfl rfl (y_assign hS rfl) ?_); clear hS a; intro a hS; refine ⟨fun g _ h => h, ?_⟩
      clear hR hZ
      refine p_norm ?_
      apply wp_ret
      obtain rfl := Option.some.inj hg
      refine fin1 (fn := Try.f5) hS rfl (r_tmp hS rfl) ?_
      exact rfl
    · replace hg := br_f hg (by rw [hs43]; exact Bool.false_ne_true)
      refine d_plan hS [] [(0, some 1000), (1, some 0), (3, some 1000), (4, some 0), (2, none), (5, none), (6, none), (7, none), (8, none), (9, none), (10, none)] rfl (by kernel_rfl) (by kernel_rfl) rfl ?_; clear hS; intro wr hZ hS; have hR := hS.wd
      refine q_take hS hR rfl rfl rfl rfl (y_loadBox (kk := 1000) (n := 2) (vs := [.int .i64 (a_.Kind), .slice (Ap02) ((a_.Pairs).length) (cp02)]) hS rfl rfl Try.underlying24 rfl rfl rfl rfl) ?_; clear hS a; intro a hS
      refine q_take hS hR rfl rfl rfl rfl (y_move hS rfl) ?_; clear hS a; intro a hS
      refine q_take hS hR rfl rfl rfl rfl (y_loadBox (kk := 1000) (n := 2) (vs := [.int .i64 (a_.Kind), .slice (Ap02) ((a_.Pairs).length) (cp02)]) hS rfl rfl Try.underlying24 rfl rfl rfl rfl) ?_; clear hS a; intro a hS
      refine q_take hS hR rfl rfl rfl rfl (y_move hS rfl) ?_; clear hS a; intro a hS
      refine l_take hS rfl rfl (l_call (cap := []) hS rfl Try.func17 rfl (by kernel_rfl) rfl rfl (c_affix_Undo n _ _ hS.lt a_ (Ap02) (cp02) (hS.fact (k := 101) rfl) w_ (by first | omega | (rw [List.length_append]; omega) | (simp only [List.length_append]; omega) | (simp only [List.length_append, List.length_take, List.length_drop, List.length_cons, List.length_nil]; omega)) r34 hr34) ?_); clear hS a; intro v55 a w hK hp hS
      replace hZ := Nat.le_trans hZ hK.size; refine ⟨fun g _ h => h.grow hK, ?_⟩; clear hK
      obtain ⟨Au56a1, cu56a1, rfl, hu56a1⟩ := hp
      replace hS := hS.add 106 (slF Rep.str (Au56a1) ((r34).length) (cu56a1) (r34)) hu56a1
      refine l_take hS rfl rfl (l_call (cap := []) hS rfl Try.func18 rfl (by kernel_rfl) rfl rfl (c_r23_Undo n _ _ hS.lt a_ (Ap02) (cp02) (hS.fact (k := 101) rfl) w_ (by first | omega | (rw [List.length_append]; omega) | (simp only [List.length_append]; omega) | (simp only [List.length_append, List.length_take, List.length_drop, List.length_cons, List.length_nil]; omega)) r37 hr37) ?_); clear hS a; intro v57 a w hK hp hS
      replace hZ := Nat.le_trans hZ hK.size; refine ⟨fun g _ h => h.grow hK, ?_⟩; clear hK
      obtain ⟨Au58a1, cu58a1, rfl, hu58a1⟩ := hp
      replace hS := hS.add 107 (slF Rep.str (Au58a1) ((r37).length) (cu58a1) (r37)) hu58a1
      refine l_take hS rfl rfl (l_call (cap := []) hS rfl Try.func16 rfl (by kernel_rfl) rfl rfl (c_r01_Same n _ _ hS.lt r34 (Au56a1) (cu56a1) (hS.fact (k := 106) rfl) r37 (Au58a1) (cu58a1) (hS.fact (k := 107) rfl) r40 hr40) ?_); clear hS a; intro v59 a w hK hp hS
      replace hZ := Nat.le_trans hZ hK.size; refine ⟨fun g _ h => h.grow hK, ?_⟩; clear hK
      obtain rfl := hp.trans (congrArg Value.bool hs43)
      refine l_take hS rfl rfl (l_quiet hS rfl rfl (y_move hS rfl) ?_); clear hS a; intro a hS; refine ⟨fun g _ h => h, ?_⟩
      refine l_pass hS rfl ⟨_, _, _, rfl, rfl, rfl, rfl⟩ rfl rfl ?_; clear hS a; intro a hS
      refine l_take hS rfl rfl (l_quiet hS rfl rfl (y_pick_f hS rfl rfl) ?_); clear hS a; intro a hS; refine ⟨fun g _ h => h, ?_⟩
      refine l_take hS rfl rfl (l_quiet hS rfl rfl (y_assign hS rfl) ?_); clear hS a; intro a hS; refine ⟨fun g _ h => h, ?_⟩
      clear hR hZ
      refine p_norm ?_
      apply wp_ret
      obtain rfl := Option.some.inj hg
      refine fin1 (fn := Try.f5) hS rfl (r_tmp hS rfl) ?_
      exact rfl
set_option maxHeartbeats 400000 in
theorem c_r23_LightWords (n : Nat) (M : Bs) (w0 : World) (hM : ∀ b, M b → b < w0.heap.size) (w_ : (List (List UInt8))) (Ap01 : Option Addr) (cp01 : Nat) (hp01 : SlR Rep.str M w0 Ap01 (w_).length cp01 (w_)) (r : Bool) (hg : r23_LightWords n w_ = some r) :
    Calls Try.prog 19 [.slice (Ap01) ((w_).length) (cp01)].toArray w0 (Ret noB w0 fun v w => v = .bool (r)) := by
  unfold r23_LightWords at hg
  refine enter M noB Try.func19 rfl rfl hM ?_
  intro a hS
  replace hS := hS.add 101 (slF Rep.str (Ap01) ((w_).length) (cp01) (w_)) (by exact Fact.change _ enterM hp01)
  apply wp_seq
  apply wp_region_lit
  refine q_seq hS rfl rfl rfl (y_assign hS rfl) ?_; clear hS a; intro a hS
  apply wpList_nil
  refine p_norm ?_
  apply wp_seq
  apply wp_seq
  replace hg := jn_some hg; obtain ⟨k1, hg, hk1⟩ := hg
  refine c_post (fun a w => ∃ (t_2 : Bool), k1 t_2 = some r ∧ St (⟨Try.f19.ntmps, M, noB, w0⟩ : Ctx) [(0, .slice (Ap01) ((w_).length) (cp01)), (11, .bool (t_2))] [] [(101, slF Rep.str (Ap01) ((w_).length) (cp01) (w_))] a w) ?_ ?_
  · rcases Decidable.em (((w_).length) < 1) with hs3 | hs3
    · have hs3e : decide (((w_).length) < 1) = true := decide_eq_true hs3
      replace hg := br_t hg hs3
      apply wp_region_lit
      refine q_seq hS rfl rfl rfl (y_move hS rfl) ?_; clear hS a; intro a hS
      refine q_seq hS rfl rfl rfl (y_lenSlice hS rfl Try.underlying34) ?_; clear hS a; intro a hS
      refine q_seq hS rfl rfl rfl (yl_b (y_lssN (i := ((w_).length)) (j := 1) hS rfl rfl) hs3e) ?_; clear hS a; intro a hS
      refine q_seq hS rfl rfl rfl (y_move hS rfl) ?_; clear hS a; intro a hS
      refine g_no hS rfl rfl rfl rfl rfl rfl rfl ?_; clear hS a; intro a hS
      refine g_no hS rfl rfl rfl rfl rfl rfl rfl ?_; clear hS a; intro a hS
      refine g_no hS rfl rfl rfl rfl rfl rfl rfl ?_; clear hS a; intro a hS
      refine q_seq hS rfl rfl rfl (y_pick_t hS rfl rfl) ?_; clear hS a; intro a hS
      apply wpList_nil
      refine p_norm ?_
      exact ⟨(true), hg, (hS.sub ⟨rfl, rfl, trivial⟩ trivial ⟨rfl, trivial⟩)⟩
    · have hs3e : decide (((w_).length) < 1) = false := decide_eq_false hs3
      replace hg := br_f hg hs3
      apply wp_region_lit
      refine q_seq hS rfl rfl rfl (y_move hS rfl) ?_; clear hS a; intro a hS
      refine q_seq hS rfl rfl rfl (y_lenSlice hS rfl Try.underlying34) ?_; clear hS a; intro a hS
      refine q_seq hS rfl rfl rfl (yl_b (y_lssN (i := ((w_).length)) (j := 1) hS rfl rfl) hs3e) ?_; clear hS a; intro a hS
      refine q_seq hS rfl rfl rfl (y_move hS rfl) ?_; clear hS a; intro a hS
      refine g_yes hS rfl rfl rfl rfl (l_quiet hS rfl rfl (y_move hS rfl) ?_); clear hS a; intro a hS
      refine g_yes hS rfl rfl rfl rfl (l_quiet hS rfl rfl (y_lenSlice hS rfl Try.underlying34) ?_); clear hS a; intro a hS
      refine g_yes hS rfl rfl rfl rfl (l_quiet hS rfl rfl (y_gtrN (i := ((w_).length)) (j := 8) hS rfl rfl) ?_); clear hS a; intro a hS
      refine q_seq hS rfl rfl rfl (y_pick_f hS rfl rfl) ?_; clear hS a; intro a hS
      apply wpList_nil
      refine p_norm ?_
      exact ⟨(decide ((8 : Nat) < ((w_).length))), hg, (hS.sub ⟨rfl, rfl, trivial⟩ trivial ⟨rfl, trivial⟩)⟩
  clear hS a; rintro a w ⟨t_2, hg, hS⟩
  subst hk1
  refine c_cond hS rfl (fun hc4 => ?_) (fun hc4 => ?_)
  · replace hg := br_t hg hc4
    apply wp_seq
    apply wp_region_lit
    refine q_seq hS rfl rfl rfl (y_assign hS rfl) ?_; clear hS a; intro a hS
    apply wpList_nil
    refine p_norm ?_
    apply wp_ret
    refine p_thenR ?_
    obtain rfl := Option.some.inj hg
    refine fin1 (fn := Try.f19) hS rfl (r_tmp hS rfl) ?_
    exact rfl
  · replace hg := br_f hg (by rw [hc4]; exact Bool.false_ne_true)
    apply wp_skip
    refine p_norm ?_
    apply wp_seq
    apply wp_seq
    apply wp_region_lit
    refine q_seq hS rfl rfl rfl (y_assign hS rfl) ?_; clear hS a; intro a hS
    apply wpList_nil
    refine p_norm ?_
    apply wp_block
    refine c_loop (σ := Nat) (fun m1 a w => ∃ (i_5 : Nat), r23_LightWords_L0 n w_ m1 i_5 = some r ∧ St (⟨Try.f19.ntmps, M, noB, w0⟩ : Ctx) [(0, .slice (Ap01) ((w_).length) (cp01)), (3, .int .i64 (((i_5 : Nat) : Int)))] [] [(101, slF Rep.str (Ap01) ((w_).length) (cp01) (w_))] a w) (fun m1 => m1) n ⟨(0), hg, (hS.sub ⟨rfl, rfl, trivial⟩ trivial ⟨rfl, trivial⟩)⟩ ?_
    clear hS a; rintro m1 a w ⟨i_5, hg, hS⟩
    rcases m1 with _ | m1
    · rw [r23_LightWords_L0] at hg; cases hg
    rw [r23_LightWords_L0] at hg
    apply wp_seq
    apply wp_seq
    apply wp_region_lit
    refine q_seq hS rfl rfl rfl (y_move hS rfl) ?_; clear hS a; intro a hS
    refine q_seq hS rfl rfl rfl (y_move hS rfl) ?_; clear hS a; intro a hS
    refine q_seq hS rfl rfl rfl (y_lenSlice hS rfl Try.underlying34) ?_; clear hS a; intro a hS
    refine q_seq hS rfl rfl rfl (y_lssN (i := i_5) (j := ((w_).length)) hS rfl rfl) ?_; clear hS a; intro a hS
    apply wpList_nil
    refine p_norm ?_
    refine c_dec hS rfl (fun hc6 => ?_) (fun hc6 => ?_)
    · replace hg := br_t hg hc6
      have hmx7 := SlR.mx (hS.fact (k := 101) rfl)
      apply wp_skip
      refine p_norm ?_
      apply wp_seq
      apply wp_block
      apply wp_seq
      replace hg := bind_some hg; obtain ⟨x9, hx9, hg⟩ := hg
      replace hg := bind_some hg; obtain ⟨r11, hr11, hg⟩ := hg
      apply wp_region_lit
      refine q_seq hS rfl rfl rfl (y_move hS rfl) ?_; clear hS a; intro a hS
      refine q_seq hS rfl rfl rfl (y_move hS rfl) ?_; clear hS a; intro a hS
      obtain ⟨p14, hep14, hpp14⟩ := SlR.elemX (hS.fact (k := 101) rfl) hx9
      refine q_seq hS rfl rfl rfl (y_elem (sz := 1) (i := i_5) hS rfl rfl Try.underlying34 rfl hep14 rfl (lt_of_get hx9)) ?_; clear hS a; intro a hS
      obtain ⟨hlq15, hmq15, csq15, hdq15, hcq15⟩ := hpp14
      obtain ⟨rfl, lq151⟩ := hdq15
      refine q_seq hS rfl rfl rfl (y_ldp1 hS rfl hlq15 hmq15 (hcq15 0 _ rfl) Try.underlying9 rfl) ?_; clear hS a; intro a hS
      refine l_seq rfl (l_call (cap := []) hS rfl Try.func13 rfl (by kernel_rfl) rfl rfl (c_r01_Word n _ _ hS.lt x9 (by first | omega | (rw [List.length_append]; omega) | (simp only [List.length_append]; omega) | (simp only [List.length_append, List.length_take, List.length_drop, List.length_cons, List.length_nil]; omega)) r11 hr11) ?_); clear hS a; intro v16 a w hK hp hS
      clear hK
      obtain rfl := hp
      refine q_seq hS rfl rfl rfl (y_not hS rfl) ?_; clear hS a; intro a hS
      apply wpList_nil
      refine p_norm ?_
      refine c_cond hS rfl (fun hc18 => ?_) (fun hc18 => ?_)
      · replace hg := br_t hg hc18
        apply wp_seq
        apply wp_region_lit
        refine q_seq hS rfl rfl rfl (y_assign hS rfl) ?_; clear hS a; intro a hS
        apply wpList_nil
        refine p_norm ?_
        apply wp_ret
        refine p_inR ?_
        refine p_thenR ?_
        refine p_thenR ?_
        refine p_inR ?_
        refine p_thenR ?_
        obtain rfl := Option.some.inj hg
        refine fin1 (fn := Try.f19) hS rfl (r_tmp hS rfl) ?_
        exact rfl
      · replace hg := br_f hg (by rw [hc18]; exact Bool.false_ne_true)
        apply wp_skip
        refine p_inN ?_
        refine p_norm ?_
        apply wp_region_lit
        refine q_seq hS rfl rfl rfl (y_move hS rfl) ?_; clear hS a; intro a hS
        refine q_seq hS rfl rfl rfl (y_addN (i := i_5) (j := 1) hS rfl rfl (in64.2 (by omega))) ?_; clear hS a; intro a hS
        refine q_seq hS rfl rfl rfl (y_assign hS rfl) ?_; clear hS a; intro a hS
        apply wpList_nil
        refine p_norm ?_
        exact ⟨m1, Nat.lt_succ_self _, ⟨(i_5 + 1), hg, (hS.sub ⟨rfl, rfl, trivial⟩ trivial ⟨rfl, trivial⟩)⟩⟩
    · replace hg := br_f hg hc6
      apply wp_exit
      refine p_then ?_
      refine p_then ?_
      refine p_in ?_
      refine p_norm ?_
      apply wp_seq
      apply wp_region_lit
      refine q_seq hS rfl rfl rfl (y_assign hS rfl) ?_; clear hS a; intro a hS
      apply wpList_nil
      refine p_norm ?_
      apply wp_ret
      obtain rfl := Option.some.inj hg
      refine fin1 (fn := Try.f19) hS rfl (r_tmp hS rfl) ?_
      exact rfl
set_option maxHeartbeats 400000 in
theorem c_r23_Words (n : Nat) (M : Bs) (w0 : World) (hM : ∀ b, M b → b < w0.heap.size) (a_ : Affix) (Ap02 : Option Addr) (cp02 : Nat) (hp02 : SlR RChange M w0 Ap02 (a_.Pairs).length cp02 (a_.Pairs)) (w_ : (List (List UInt8))) (Ap11 : Option Addr) (cp11 : Nat) (hp11 : SlR Rep.str M w0 Ap11 (w_).length cp11 (w_)) (r : ((List (List UInt8)) × Bool)) (hg : r23_Words n a_ w_ = some r) :
    Calls Try.prog 21 [.agg #[.int .i64 (a_.Kind), .slice (Ap02) ((a_.Pairs).length) (cp02)], .slice (Ap11) ((w_).length) (cp11)].toArray w0 (Ret noB w0 fun v w => ∃ (Aa1 : Option Addr), ∃ (ca1 : Nat), v = .tuple #[.slice (Aa1) ((r.1).length) (ca1), .bool (r.2)] ∧ (SlR Rep.str M w Aa1 (r.1).length ca1 (r.1))) := by
  unfold r23_Words at hg
  refine enter M noB Try.func21 rfl rfl hM ?_
  intro a hS
  replace hS := hS.add 101 (slF RChange (Ap02) ((a_.Pairs).length) (cp02) (a_.Pairs)) (by exact Fact.change _ enterM hp02)
  replace hS := hS.add 102 (slF Rep.str (Ap11) ((w_).length) (cp11) (w_)) (by exact Fact.change _ enterM hp11)
  apply wp_seq
  apply wp_region_lit
  refine l_seq rfl (l_box (zs := [.int .i64 (a_.Kind), .slice (Ap02) ((a_.Pairs).length) (cp02)]) hS 1000 rfl rfl rfl rfl ?_); clear hS a; intro b2 a w hb hK hS
  clear hb
  clear hK
  refine q_seq hS rfl rfl rfl (y_assign hS rfl) ?_; clear hS a; intro a hS
  refine q_seq hS rfl rfl rfl (y_assign hS rfl) ?_; clear hS a; intro a hS
  apply wpList_nil
  refine p_norm ?_
  apply wp_seq
  replace hg := chk_some hg; obtain ⟨hk4, hg⟩ := hg
  apply wp_region_lit
  refine l_seq rfl (l_buildEmpty (sz := 1) hS 1100 Try.underlying34 rfl rfl rfl ?_); clear hS a; intro b7 a w hbb7 hK hS
  clear hbb7
  clear hK
  refine q_seq hS rfl rfl rfl (y_move hS rfl) ?_; clear hS a; intro a hS
  replace hS := hS.add 106 (rdF Rep.str ([]) ([])) (RdAll.nil _ _ _)
  obtain ⟨ns9, hs9, hns9⟩ := SlR.src (hS.fact (k := 102) rfl)
  replace hS := hS.add 107 (rdF Rep.str ns9 (w_)) hns9
  refine l_seq rfl (l_append (sz := 1) (by_ := 16) (N := (w_).length) (ys := ns9) hS 1100 rfl rfl rfl Try.underlying34 rfl rfl rfl rfl rfl hs9 (by simp) rfl (by have hr := hk4; clear hg; first | omega | (simp only [List.length_append, List.length_cons, List.length_nil] at hr ⊢; omega) | (simp at hr ⊢; omega)) (by have hr := hk4; clear hg; first | omega | (simp only [List.length_append, List.length_cons, List.length_nil] at hr ⊢; omega) | (simp at hr ⊢; omega)) rfl ?_); clear hS a; intro Aq8 cq8 a w hA hK hS
  clear hK hA
  replace hS := hS.add 108 (rdF Rep.str (ns9) (w_)) (hS.fact (k := 107) rfl)
  refine q_seq hS rfl rfl rfl (y_assign hS rfl) ?_; clear hS a; intro a hS
  apply wpList_nil
  refine p_norm ?_
  apply wp_seq
  apply wp_seq
  apply wp_region_lit
  refine q_seq hS rfl rfl rfl (y_boxField (o' := 0) hS rfl Try.underlying24 rfl rfl rfl) ?_; clear hS a; intro a hS
  refine q_seq hS rfl rfl rfl (y_loadBox1 (kk := 1000) hS rfl rfl rfl Try.underlying3 rfl) ?_; clear hS a; intro a hS
  refine q_seq hS rfl rfl rfl (y_eql hS rfl rfl) ?_; clear hS a; intro a hS
  apply wpList_nil
  refine p_norm ?_
  refine c_dec hS rfl (fun hc10 => ?_) (fun hc10 => ?_)
  · replace hg := br_t hg hc10
    apply wp_seq
    apply wp_region_lit
    refine q_seq hS rfl rfl rfl (y_move hS rfl) ?_; clear hS a; intro a hS
    refine q_seq hS rfl rfl rfl (y_assign hS rfl) ?_; clear hS a; intro a hS
    refine q_seq hS rfl rfl rfl (y_assign hS rfl) ?_; clear hS a; intro a hS
    apply wpList_nil
    refine p_norm ?_
    apply wp_ret
    refine p_thenR ?_
    obtain rfl := Option.some.inj hg
    refine fin2 (fn := Try.f21) hS rfl (r_tmp hS rfl) (r_tmp hS rfl) ?_
    exact ⟨(Aq8), (cq8), rfl, (hS.rowOut (R := Rep.str) (kk := 1100) rfl rfl (hS.fact (k := 108) rfl))⟩
  · replace hg := br_f hg hc10
    apply wp_skip
    refine p_norm ?_
    apply wp_seq
    apply wp_region_lit
    refine q_seq hS rfl rfl rfl (y_assign hS rfl) ?_; clear hS a; intro a hS
    apply wpList_nil
    refine p_norm ?_
    apply wp_seq
    apply wp_seq
    apply wp_region_lit
    refine q_seq hS rfl rfl rfl (y_boxField (o' := 0) hS rfl Try.underlying24 rfl rfl rfl) ?_; clear hS a; intro a hS
    refine q_seq hS rfl rfl rfl (y_loadBox1 (kk := 1000) hS rfl rfl rfl Try.underlying3 rfl) ?_; clear hS a; intro a hS
    refine q_seq hS rfl rfl rfl (y_eql hS rfl rfl) ?_; clear hS a; intro a hS
    apply wpList_nil
    refine p_norm ?_
    replace hg := jn_some hg; obtain ⟨k11, hg, hk11⟩ := hg
    refine c_post (fun a w => ∃ (at_12 : Int), k11 at_12 = some r ∧ St (⟨Try.f21.ntmps, M, noB, w0⟩ : Ctx) [(1, .slice (Ap11) ((w_).length) (cp11)), (2, .pointer (some ⟨b2, 0, none⟩)), (6, .slice (Aq8) ((w_).length) (cq8)), (7, .int .i64 (at_12))] [(1000, Ob.box b2 [.int .i64 (a_.Kind), .slice (Ap02) ((a_.Pairs).length) (cp02)] 24), (1100, Ob.row (Aq8) ((w_).length) (cq8) 9 1 (ns9))] [(101, slF RChange (Ap02) ((a_.Pairs).length) (cp02) (a_.Pairs)), (102, slF Rep.str (Ap11) ((w_).length) (cp11) (w_)), (108, rdF Rep.str (ns9) (w_))] a w) ?_ ?_
    · refine c_dec hS rfl (fun hc13 => ?_) (fun hc13 => ?_)
      · replace hg := br_t hg hc13
        apply wp_region_lit
        refine q_seq hS rfl rfl rfl (y_move hS rfl) ?_; clear hS a; intro a hS
        refine q_seq hS rfl rfl rfl (y_lenSlice hS rfl Try.underlying34) ?_; clear hS a; intro a hS
        have hmx14 := SlR.mx (hS.fact (k := 102) rfl)
        refine q_seq hS rfl rfl rfl (y_sub hS rfl rfl (in64.2 (by omega))) ?_; clear hS a; intro a hS
        refine q_seq hS rfl rfl rfl (y_assign hS rfl) ?_; clear hS a; intro a hS
        apply wpList_nil
        refine p_norm ?_
        exact ⟨((((w_).length : Nat) : Int) - 1), hg, (hS.sub ⟨rfl, rfl, rfl, rfl, trivial⟩ ⟨rfl, rfl, trivial⟩ ⟨rfl, rfl, rfl, trivial⟩)⟩
      · replace hg := br_f hg hc13
        apply wp_skip
        refine p_norm ?_
        exact ⟨(0), hg, (hS.sub ⟨rfl, rfl, rfl, rfl, trivial⟩ ⟨rfl, rfl, trivial⟩ ⟨rfl, rfl, rfl, trivial⟩)⟩
    clear hS a; rintro a w ⟨at_12, hg, hS⟩
    subst hk11
    apply wp_seq
    replace hg := bind_some hg; obtain ⟨x16, hx16, hg⟩ := hg
    replace hg := bind_some hg; obtain ⟨r18, hr18, hg⟩ := hg
    refine d_steps hS [] rfl ?_; clear hS; intro wr hZ hS; have hR := hS.wd
    refine n_q 0 1000 hS hR rfl (by kernel_rfl) (by kernel_rfl) (by kernel_rfl) rfl rfl rfl (y_loadBox (kk := 1000) (n := 2) (vs := [.int .i64 (a_.Kind), .slice (Ap02) ((a_.Pairs).length) (cp02)]) hS rfl rfl Try.underlying24 rfl rfl rfl rfl) ?_; clear hS a; intro a hS
    refine n_q 1 0 hS hR rfl (by kernel_rfl) (by kernel_rfl) (by kernel_rfl) rfl rfl rfl (y_move hS rfl) ?_; clear hS a; intro a hS
    refine n_q 2 0 hS hR rfl (by kernel_rfl) (by kernel_rfl) (by kernel_rfl) rfl rfl rfl (y_move hS rfl) ?_; clear hS a; intro a hS
    obtain ⟨p21, hep21, hpp21⟩ := SlR.elemX (hS.fact (k := 102) rfl) (ix_some hx16).1
    refine n_q 3 0 hS hR rfl (by kernel_rfl) (by kernel_rfl) (by kernel_rfl) rfl rfl rfl (y_elem (sz := 1) (i := ((at_12).toNat)) hS rfl rfl Try.underlying34 rfl hep21 (ix_some hx16).2.1 (lt_of_get (ix_some hx16).1)) ?_; clear hS a; intro a hS
    obtain ⟨hlq22, hmq22, csq22, hdq22, hcq22⟩ := hpp21
    obtain ⟨rfl, lq221⟩ := hdq22
    refine n_q 4 0 hS hR rfl (by kernel_rfl) (by kernel_rfl) (by kernel_rfl) rfl rfl rfl (y_ldp1 hS rfl hlq22 hmq22 (hcq22 0 _ rfl) Try.underlying9 rfl) ?_; clear hS a; intro a hS
    refine n_1 5 hS (by kernel_rfl) rfl rfl (l_call (cap := []) hS rfl Try.func15 rfl (by kernel_rfl) rfl rfl (c_r23_Apply n _ _ hS.lt a_ (Ap02) (cp02) (hS.fact (k := 101) rfl) x16 (by first | omega | (rw [List.length_append]; omega) | (simp only [List.length_append]; omega) | (simp only [List.length_append, List.length_take, List.length_drop, List.length_cons, List.length_nil]; omega)) r18 hr18) ?_); clear hS a; intro v23 a w hK hp hS
    replace hZ := Nat.le_trans hZ hK.size; refine ⟨fun g _ h => h.grow hK, ?_⟩; clear hK
    obtain ⟨rfl, lu24a1⟩ := hp
    refine n_1 6 hS (by kernel_rfl) rfl rfl (l_quiet hS rfl rfl (y_move hS rfl) ?_); clear hS a; intro a hS; refine ⟨fun g _ h => h, ?_⟩
    refine n_2 7 8 hS (by kernel_rfl) rfl rfl rfl rfl ?_ ?_
    · refine l_quiet hS rfl rfl (y_extract hS rfl rfl) ?_; clear hS a; intro a hS; refine ⟨fun g _ h => h, ?_⟩
      refine n_2 8 9 hS (by kernel_rfl) rfl rfl rfl rfl ?_ ?_
      · refine l_quiet hS rfl rfl (y_extract hS rfl rfl) ?_; clear hS a; intro a hS; refine ⟨fun g _ h => h, ?_⟩
        refine n_1 9 hS (by kernel_rfl) rfl rfl (l_quiet hS rfl rfl (y_assign hS rfl) ?_); clear hS a; intro a hS; refine ⟨fun g _ h => h, ?_⟩
        refine n_1 10 hS (by kernel_rfl) rfl rfl (l_quiet hS rfl rfl (y_assign hS rfl) ?_); clear hS a; intro a hS; refine ⟨fun g _ h => h, ?_⟩
        refine n_end (by kernel_rfl) ?_; clear hR hZ
        refine p_norm ?_
        apply wp_seq
        apply wp_seq
        apply wp_region_lit
        refine q_seq hS rfl rfl rfl (y_move hS rfl) ?_; clear hS a; intro a hS
        refine q_seq hS rfl rfl rfl (y_not hS rfl) ?_; clear hS a; intro a hS
        apply wpList_nil
        refine p_norm ?_
        refine c_cond hS rfl (fun hc25 => ?_) (fun hc25 => ?_)
        · replace hg := br_t hg hc25
          apply wp_seq
          apply wp_region_lit
          refine q_seq hS rfl rfl rfl (y_assign hS rfl) ?_; clear hS a; intro a hS
          refine q_seq hS rfl rfl rfl (y_assign hS rfl) ?_; clear hS a; intro a hS
          apply wpList_nil
          refine p_norm ?_
          apply wp_ret
          refine p_thenR ?_
          obtain rfl := Option.some.inj hg
          refine fin2 (fn := Try.f21) hS rfl (r_tmp hS rfl) (r_tmp hS rfl) ?_
          exact ⟨(none), (0), rfl, (SlR.nil_ _ _ _)⟩
        · replace hg := br_f hg (by rw [hc25]; exact Bool.false_ne_true)
          apply wp_skip
          refine p_norm ?_
          apply wp_seq
          apply wp_region_lit
          refine q_seq hS rfl rfl rfl (y_move hS rfl) ?_; clear hS a; intro a hS
          refine q_seq hS rfl rfl rfl (y_move hS rfl) ?_; clear hS a; intro a hS
          refine q_seq hS rfl rfl rfl (y_move hS rfl) ?_; clear hS a; intro a hS
          obtain ⟨hiq27, bq27, hAq27⟩ := SlR.row1 (hS.wd.holds 1100 _ rfl) (hS.fact (k := 108) rfl) rfl rfl (ix_some hx16).1
          refine q_seq hS rfl rfl rfl (y_rowIndex (sz := 1) (i := ((at_12).toNat)) hS rfl rfl Try.underlying34 rfl hAq27 (ix_some hx16).2.1 hiq27) ?_; clear hS a; intro a hS
          have hzi := lt_of_get (ix_some hx16).1
          have hzn := rowN (hS.wd.holds 1100 _ rfl) (hS.fact (k := 108) rfl) rfl rfl
          have hzf : ((at_12).toNat) * 1 + 1 ≤ ((w_).length) * 1 := by have := Nat.mul_le_mul_right 1 (Nat.succ_le_of_lt hzi); omega
          refine l_seq rfl (l_storeRow (N := 1) (cs' := splice (ns9) (((at_12).toNat) * 1) [.string (bs (r18.1))]) hS 1100 rfl rfl rfl hAq27 rfl rfl hzf rfl rfl ?_); clear hS; intro w hK hS; clear hK
          replace hS := hS.sub (l' := [(1, .slice (Ap11) ((w_).length) (cp11)), (2, .pointer (some ⟨b2, 0, none⟩)), (6, .slice (Aq8) ((w_).length) (cq8)), (7, .int .i64 (at_12)), (8, .string (bs (r18.1))), (9, .bool (r18.2)), (23, .tuple #[.string (bs (r18.1)), .bool (r18.2)]), (24, .agg #[.int .i64 (a_.Kind), .slice (Ap02) ((a_.Pairs).length) (cp02)]), (25, .slice (Ap11) ((w_).length) (cp11)), (26, .int .i64 (at_12)), (27, .pointer (some (p21.add 0))), (28, .string (bs (x16))), (29, .tuple #[.string (bs (r18.1)), .bool (r18.2)]), (30, .string (bs (r18.1))), (31, .bool (r18.2)), (32, .bool (r18.2)), (33, .bool (!(r18.2))), (34, .slice (Aq8) ((w_).length) (cq8)), (35, .int .i64 (at_12)), (36, .string (bs (r18.1))), (37, .pointer (some ⟨bq27, ((at_12).toNat) * 1, none⟩))]) (L' := [(1000, Ob.box b2 [.int .i64 (a_.Kind), .slice (Ap02) ((a_.Pairs).length) (cp02)] 24), (1100, Ob.row (Aq8) ((w_).length) (cq8) 9 1 (splice (ns9) (((at_12).toNat) * 1) [.string (bs (r18.1))]))]) (D' := [(101, slF RChange (Ap02) ((a_.Pairs).length) (cp02) (a_.Pairs)), (102, slF Rep.str (Ap11) ((w_).length) (cp11) (w_)), (108, rdF Rep.str (ns9) (w_))]) ⟨rfl, rfl, rfl, rfl, rfl, rfl, rfl, rfl, rfl, rfl, rfl, rfl, rfl, rfl, rfl, rfl, rfl, rfl, rfl, rfl, rfl, trivial⟩ ⟨rfl, rfl, trivial⟩ ⟨rfl, rfl, rfl, trivial⟩
          replace hS := hS.eqs (l' := [(1, .slice (Ap11) ((w_).length) (cp11)), (2, .pointer (some ⟨b2, 0, none⟩)), (6, .slice (Aq8) (((w_).set ((at_12).toNat) r18.1).length) (cq8)), (7, .int .i64 (at_12)), (8, .string (bs (r18.1))), (9, .bool (r18.2)), (23, .tuple #[.string (bs (r18.1)), .bool (r18.2)]), (24, .agg #[.int .i64 (a_.Kind), .slice (Ap02) ((a_.Pairs).length) (cp02)]), (25, .slice (Ap11) ((w_).length) (cp11)), (26, .int .i64 (at_12)), (27, .pointer (some (p21.add 0))), (28, .string (bs (x16))), (29, .tuple #[.string (bs (r18.1)), .bool (r18.2)]), (30, .string (bs (r18.1))), (31, .bool (r18.2)), (32, .bool (r18.2)), (33, .bool (!(r18.2))), (34, .slice (Aq8) (((w_).set ((at_12).toNat) r18.1).length) (cq8)), (35, .int .i64 (at_12)), (36, .string (bs (r18.1))), (37, .pointer (some ⟨bq27, ((at_12).toNat) * 1, none⟩))]) (L' := [(1000, Ob.box b2 [.int .i64 (a_.Kind), .slice (Ap02) ((a_.Pairs).length) (cp02)] 24), (1100, Ob.row (Aq8) (((w_).set ((at_12).toNat) r18.1).length) (cq8) 9 1 (splice (ns9) (((at_12).toNat) * 1) [.string (bs (r18.1))]))]) (by simp only [List.length_set]) (by simp only [List.length_set])
          replace hS := hS.add 110 (rdF Rep.str (splice (ns9) (((at_12).toNat) * 1) [.string (bs (r18.1))]) ((w_).set ((at_12).toNat) r18.1)) (RdAll.put (hS.fact (k := 108) rfl) ⟨rfl, (by first | omega | (rw [List.length_append]; omega) | (simp only [List.length_append]; omega) | (simp only [List.length_append, List.length_take, List.length_drop, List.length_cons, List.length_nil]; omega))⟩ hzi)
          apply wpList_nil
          refine p_norm ?_
          apply wp_seq
          apply wp_region_lit
          refine q_seq hS rfl rfl rfl (y_move hS rfl) ?_; clear hS a; intro a hS
          refine q_seq hS rfl rfl rfl (y_assign hS rfl) ?_; clear hS a; intro a hS
          refine q_seq hS rfl rfl rfl (y_assign hS rfl) ?_; clear hS a; intro a hS
          apply wpList_nil
          refine p_norm ?_
          apply wp_ret
          obtain rfl := Option.some.inj hg
          refine fin2 (fn := Try.f21) hS rfl (r_tmp hS rfl) (r_tmp hS rfl) ?_
          exact ⟨(Aq8), (cq8), rfl, (hS.rowOut (R := Rep.str) (kk := 1100) rfl rfl (hS.fact (k := 110) rfl))⟩
      · refine l_quiet hS rfl rfl (y_assign hS rfl) ?_; clear hS a; intro a hS; refine ⟨fun g _ h => h, ?_⟩
        refine n_1 8 hS (by kernel_rfl) rfl rfl (l_quiet hS rfl rfl (y_extract hS rfl rfl) ?_); clear hS a; intro a hS; refine ⟨fun g _ h => h, ?_⟩
        refine n_1 10 hS (by kernel_rfl) rfl rfl (l_quiet hS rfl rfl (y_assign hS rfl) ?_); clear hS a; intro a hS; refine ⟨fun g _ h => h, ?_⟩
        refine n_end (by kernel_rfl) ?_; clear hR hZ
        refine p_norm ?_
        apply wp_seq
        apply wp_seq
        apply wp_region_lit
        refine q_seq hS rfl rfl rfl (y_move hS rfl) ?_; clear hS a; intro a hS
        refine q_seq hS rfl rfl rfl (y_not hS rfl) ?_; clear hS a; intro a hS
        apply wpList_nil
        refine p_norm ?_
        refine c_cond hS rfl (fun hc28 => ?_) (fun hc28 => ?_)
        · replace hg := br_t hg hc28
          apply wp_seq
          apply wp_region_lit
          refine q_seq hS rfl rfl rfl (y_assign hS rfl) ?_; clear hS a; intro a hS
          refine q_seq hS rfl rfl rfl (y_assign hS rfl) ?_; clear hS a; intro a hS
          apply wpList_nil
          refine p_norm ?_
          apply wp_ret
          refine p_thenR ?_
          obtain rfl := Option.some.inj hg
          refine fin2 (fn := Try.f21) hS rfl (r_tmp hS rfl) (r_tmp hS rfl) ?_
          exact ⟨(none), (0), rfl, (SlR.nil_ _ _ _)⟩
        · replace hg := br_f hg (by rw [hc28]; exact Bool.false_ne_true)
          apply wp_skip
          refine p_norm ?_
          apply wp_seq
          apply wp_region_lit
          refine q_seq hS rfl rfl rfl (y_move hS rfl) ?_; clear hS a; intro a hS
          refine q_seq hS rfl rfl rfl (y_move hS rfl) ?_; clear hS a; intro a hS
          refine q_seq hS rfl rfl rfl (y_move hS rfl) ?_; clear hS a; intro a hS
          obtain ⟨hiq30, bq30, hAq30⟩ := SlR.row1 (hS.wd.holds 1100 _ rfl) (hS.fact (k := 108) rfl) rfl rfl (ix_some hx16).1
          refine q_seq hS rfl rfl rfl (y_rowIndex (sz := 1) (i := ((at_12).toNat)) hS rfl rfl Try.underlying34 rfl hAq30 (ix_some hx16).2.1 hiq30) ?_; clear hS a; intro a hS
          have hzi := lt_of_get (ix_some hx16).1
          have hzn := rowN (hS.wd.holds 1100 _ rfl) (hS.fact (k := 108) rfl) rfl rfl
          have hzf : ((at_12).toNat) * 1 + 1 ≤ ((w_).length) * 1 := by have := Nat.mul_le_mul_right 1 (Nat.succ_le_of_lt hzi); omega
          refine l_seq rfl (l_storeRow (N := 1) (cs' := splice (ns9) (((at_12).toNat) * 1) [.string (bs (r18.1))]) hS 1100 rfl rfl rfl hAq30 rfl rfl hzf rfl rfl ?_); clear hS; intro w hK hS; clear hK
          replace hS := hS.sub (l' := [(1, .slice (Ap11) ((w_).length) (cp11)), (2, .pointer (some ⟨b2, 0, none⟩)), (6, .slice (Aq8) ((w_).length) (cq8)), (7, .int .i64 (at_12)), (8, .string (bs (r18.1))), (9, .bool (r18.2)), (23, .tuple #[.string (bs (r18.1)), .bool (r18.2)]), (24, .agg #[.int .i64 (a_.Kind), .slice (Ap02) ((a_.Pairs).length) (cp02)]), (25, .slice (Ap11) ((w_).length) (cp11)), (26, .int .i64 (at_12)), (27, .pointer (some (p21.add 0))), (28, .string (bs (x16))), (29, .tuple #[.string (bs (r18.1)), .bool (r18.2)]), (30, .string (bs (r18.1))), (31, .bool (r18.2)), (32, .bool (r18.2)), (33, .bool (!(r18.2))), (34, .slice (Aq8) ((w_).length) (cq8)), (35, .int .i64 (at_12)), (36, .string (bs (r18.1))), (37, .pointer (some ⟨bq30, ((at_12).toNat) * 1, none⟩))]) (L' := [(1000, Ob.box b2 [.int .i64 (a_.Kind), .slice (Ap02) ((a_.Pairs).length) (cp02)] 24), (1100, Ob.row (Aq8) ((w_).length) (cq8) 9 1 (splice (ns9) (((at_12).toNat) * 1) [.string (bs (r18.1))]))]) (D' := [(101, slF RChange (Ap02) ((a_.Pairs).length) (cp02) (a_.Pairs)), (102, slF Rep.str (Ap11) ((w_).length) (cp11) (w_)), (108, rdF Rep.str (ns9) (w_))]) ⟨rfl, rfl, rfl, rfl, rfl, rfl, rfl, rfl, rfl, rfl, rfl, rfl, rfl, rfl, rfl, rfl, rfl, rfl, rfl, rfl, rfl, trivial⟩ ⟨rfl, rfl, trivial⟩ ⟨rfl, rfl, rfl, trivial⟩
          replace hS := hS.eqs (l' := [(1, .slice (Ap11) ((w_).length) (cp11)), (2, .pointer (some ⟨b2, 0, none⟩)), (6, .slice (Aq8) (((w_).set ((at_12).toNat) r18.1).length) (cq8)), (7, .int .i64 (at_12)), (8, .string (bs (r18.1))), (9, .bool (r18.2)), (23, .tuple #[.string (bs (r18.1)), .bool (r18.2)]), (24, .agg #[.int .i64 (a_.Kind), .slice (Ap02) ((a_.Pairs).length) (cp02)]), (25, .slice (Ap11) ((w_).length) (cp11)), (26, .int .i64 (at_12)), (27, .pointer (some (p21.add 0))), (28, .string (bs (x16))), (29, .tuple #[.string (bs (r18.1)), .bool (r18.2)]), (30, .string (bs (r18.1))), (31, .bool (r18.2)), (32, .bool (r18.2)), (33, .bool (!(r18.2))), (34, .slice (Aq8) (((w_).set ((at_12).toNat) r18.1).length) (cq8)), (35, .int .i64 (at_12)), (36, .string (bs (r18.1))), (37, .pointer (some ⟨bq30, ((at_12).toNat) * 1, none⟩))]) (L' := [(1000, Ob.box b2 [.int .i64 (a_.Kind), .slice (Ap02) ((a_.Pairs).length) (cp02)] 24), (1100, Ob.row (Aq8) (((w_).set ((at_12).toNat) r18.1).length) (cq8) 9 1 (splice (ns9) (((at_12).toNat) * 1) [.string (bs (r18.1))]))]) (by simp only [List.length_set]) (by simp only [List.length_set])
          replace hS := hS.add 112 (rdF Rep.str (splice (ns9) (((at_12).toNat) * 1) [.string (bs (r18.1))]) ((w_).set ((at_12).toNat) r18.1)) (RdAll.put (hS.fact (k := 108) rfl) ⟨rfl, (by first | omega | (rw [List.length_append]; omega) | (simp only [List.length_append]; omega) | (simp only [List.length_append, List.length_take, List.length_drop, List.length_cons, List.length_nil]; omega))⟩ hzi)
          apply wpList_nil
          refine p_norm ?_
          apply wp_seq
          apply wp_region_lit
          refine q_seq hS rfl rfl rfl (y_move hS rfl) ?_; clear hS a; intro a hS
          refine q_seq hS rfl rfl rfl (y_assign hS rfl) ?_; clear hS a; intro a hS
          refine q_seq hS rfl rfl rfl (y_assign hS rfl) ?_; clear hS a; intro a hS
          apply wpList_nil
          refine p_norm ?_
          apply wp_ret
          obtain rfl := Option.some.inj hg
          refine fin2 (fn := Try.f21) hS rfl (r_tmp hS rfl) (r_tmp hS rfl) ?_
          exact ⟨(Aq8), (cq8), rfl, (hS.rowOut (R := Rep.str) (kk := 1100) rfl rfl (hS.fact (k := 112) rfl))⟩
    · refine l_quiet hS rfl rfl (y_extract hS rfl rfl) ?_; clear hS a; intro a hS; refine ⟨fun g _ h => h, ?_⟩
      refine n_1 7 hS (by kernel_rfl) rfl rfl (l_quiet hS rfl rfl (y_extract hS rfl rfl) ?_); clear hS a; intro a hS; refine ⟨fun g _ h => h, ?_⟩
      refine n_1 9 hS (by kernel_rfl) rfl rfl (l_quiet hS rfl rfl (y_assign hS rfl) ?_); clear hS a; intro a hS; refine ⟨fun g _ h => h, ?_⟩
      refine n_1 10 hS (by kernel_rfl) rfl rfl (l_quiet hS rfl rfl (y_assign hS rfl) ?_); clear hS a; intro a hS; refine ⟨fun g _ h => h, ?_⟩
      refine n_end (by kernel_rfl) ?_; clear hR hZ
      refine p_norm ?_
      apply wp_seq
      apply wp_seq
      apply wp_region_lit
      refine q_seq hS rfl rfl rfl (y_move hS rfl) ?_; clear hS a; intro a hS
      refine q_seq hS rfl rfl rfl (y_not hS rfl) ?_; clear hS a; intro a hS
      apply wpList_nil
      refine p_norm ?_
      refine c_cond hS rfl (fun hc31 => ?_) (fun hc31 => ?_)
      · replace hg := br_t hg hc31
        apply wp_seq
        apply wp_region_lit
        refine q_seq hS rfl rfl rfl (y_assign hS rfl) ?_; clear hS a; intro a hS
        refine q_seq hS rfl rfl rfl (y_assign hS rfl) ?_; clear hS a; intro a hS
        apply wpList_nil
        refine p_norm ?_
        apply wp_ret
        refine p_thenR ?_
        obtain rfl := Option.some.inj hg
        refine fin2 (fn := Try.f21) hS rfl (r_tmp hS rfl) (r_tmp hS rfl) ?_
        exact ⟨(none), (0), rfl, (SlR.nil_ _ _ _)⟩
      · replace hg := br_f hg (by rw [hc31]; exact Bool.false_ne_true)
        apply wp_skip
        refine p_norm ?_
        apply wp_seq
        apply wp_region_lit
        refine q_seq hS rfl rfl rfl (y_move hS rfl) ?_; clear hS a; intro a hS
        refine q_seq hS rfl rfl rfl (y_move hS rfl) ?_; clear hS a; intro a hS
        refine q_seq hS rfl rfl rfl (y_move hS rfl) ?_; clear hS a; intro a hS
        obtain ⟨hiq33, bq33, hAq33⟩ := SlR.row1 (hS.wd.holds 1100 _ rfl) (hS.fact (k := 108) rfl) rfl rfl (ix_some hx16).1
        refine q_seq hS rfl rfl rfl (y_rowIndex (sz := 1) (i := ((at_12).toNat)) hS rfl rfl Try.underlying34 rfl hAq33 (ix_some hx16).2.1 hiq33) ?_; clear hS a; intro a hS
        have hzi := lt_of_get (ix_some hx16).1
        have hzn := rowN (hS.wd.holds 1100 _ rfl) (hS.fact (k := 108) rfl) rfl rfl
        have hzf : ((at_12).toNat) * 1 + 1 ≤ ((w_).length) * 1 := by have := Nat.mul_le_mul_right 1 (Nat.succ_le_of_lt hzi); omega
        refine l_seq rfl (l_storeRow (N := 1) (cs' := splice (ns9) (((at_12).toNat) * 1) [.string (bs (r18.1))]) hS 1100 rfl rfl rfl hAq33 rfl rfl hzf rfl rfl ?_); clear hS; intro w hK hS; clear hK
        replace hS := hS.sub (l' := [(1, .slice (Ap11) ((w_).length) (cp11)), (2, .pointer (some ⟨b2, 0, none⟩)), (6, .slice (Aq8) ((w_).length) (cq8)), (7, .int .i64 (at_12)), (8, .string (bs (r18.1))), (9, .bool (r18.2)), (23, .tuple #[.string (bs (r18.1)), .bool (r18.2)]), (24, .agg #[.int .i64 (a_.Kind), .slice (Ap02) ((a_.Pairs).length) (cp02)]), (25, .slice (Ap11) ((w_).length) (cp11)), (26, .int .i64 (at_12)), (27, .pointer (some (p21.add 0))), (28, .string (bs (x16))), (29, .tuple #[.string (bs (r18.1)), .bool (r18.2)]), (30, .string (bs (r18.1))), (31, .bool (r18.2)), (32, .bool (r18.2)), (33, .bool (!(r18.2))), (34, .slice (Aq8) ((w_).length) (cq8)), (35, .int .i64 (at_12)), (36, .string (bs (r18.1))), (37, .pointer (some ⟨bq33, ((at_12).toNat) * 1, none⟩))]) (L' := [(1000, Ob.box b2 [.int .i64 (a_.Kind), .slice (Ap02) ((a_.Pairs).length) (cp02)] 24), (1100, Ob.row (Aq8) ((w_).length) (cq8) 9 1 (splice (ns9) (((at_12).toNat) * 1) [.string (bs (r18.1))]))]) (D' := [(101, slF RChange (Ap02) ((a_.Pairs).length) (cp02) (a_.Pairs)), (102, slF Rep.str (Ap11) ((w_).length) (cp11) (w_)), (108, rdF Rep.str (ns9) (w_))]) ⟨rfl, rfl, rfl, rfl, rfl, rfl, rfl, rfl, rfl, rfl, rfl, rfl, rfl, rfl, rfl, rfl, rfl, rfl, rfl, rfl, rfl, trivial⟩ ⟨rfl, rfl, trivial⟩ ⟨rfl, rfl, rfl, trivial⟩
        replace hS := hS.eqs (l' := [(1, .slice (Ap11) ((w_).length) (cp11)), (2, .pointer (some ⟨b2, 0, none⟩)), (6, .slice (Aq8) (((w_).set ((at_12).toNat) r18.1).length) (cq8)), (7, .int .i64 (at_12)), (8, .string (bs (r18.1))), (9, .bool (r18.2)), (23, .tuple #[.string (bs (r18.1)), .bool (r18.2)]), (24, .agg #[.int .i64 (a_.Kind), .slice (Ap02) ((a_.Pairs).length) (cp02)]), (25, .slice (Ap11) ((w_).length) (cp11)), (26, .int .i64 (at_12)), (27, .pointer (some (p21.add 0))), (28, .string (bs (x16))), (29, .tuple #[.string (bs (r18.1)), .bool (r18.2)]), (30, .string (bs (r18.1))), (31, .bool (r18.2)), (32, .bool (r18.2)), (33, .bool (!(r18.2))), (34, .slice (Aq8) (((w_).set ((at_12).toNat) r18.1).length) (cq8)), (35, .int .i64 (at_12)), (36, .string (bs (r18.1))), (37, .pointer (some ⟨bq33, ((at_12).toNat) * 1, none⟩))]) (L' := [(1000, Ob.box b2 [.int .i64 (a_.Kind), .slice (Ap02) ((a_.Pairs).length) (cp02)] 24), (1100, Ob.row (Aq8) (((w_).set ((at_12).toNat) r18.1).length) (cq8) 9 1 (splice (ns9) (((at_12).toNat) * 1) [.string (bs (r18.1))]))]) (by simp only [List.length_set]) (by simp only [List.length_set])
        replace hS := hS.add 114 (rdF Rep.str (splice (ns9) (((at_12).toNat) * 1) [.string (bs (r18.1))]) ((w_).set ((at_12).toNat) r18.1)) (RdAll.put (hS.fact (k := 108) rfl) ⟨rfl, (by first | omega | (rw [List.length_append]; omega) | (simp only [List.length_append]; omega) | (simp only [List.length_append, List.length_take, List.length_drop, List.length_cons, List.length_nil]; omega))⟩ hzi)
        apply wpList_nil
        refine p_norm ?_
        apply wp_seq
        apply wp_region_lit
        refine q_seq hS rfl rfl rfl (y_move hS rfl) ?_; clear hS a; intro a hS
        refine q_seq hS rfl rfl rfl (y_assign hS rfl) ?_; clear hS a; intro a hS
        refine q_seq hS rfl rfl rfl (y_assign hS rfl) ?_; clear hS a; intro a hS
        apply wpList_nil
        refine p_norm ?_
        apply wp_ret
        obtain rfl := Option.some.inj hg
        refine fin2 (fn := Try.f21) hS rfl (r_tmp hS rfl) (r_tmp hS rfl) ?_
        exact ⟨(Aq8), (cq8), rfl, (hS.rowOut (R := Rep.str) (kk := 1100) rfl rfl (hS.fact (k := 114) rfl))⟩
set_option maxHeartbeats 400000 in
theorem c_law23_AffixWords (n : Nat) (M : Bs) (w0 : World) (hM : ∀ b, M b → b < w0.heap.size) (a_ : Affix) (Ap02 : Option Addr) (cp02 : Nat) (hp02 : SlR RChange M w0 Ap02 (a_.Pairs).length cp02 (a_.Pairs)) (w_ : (List (List UInt8))) (Ap11 : Option Addr) (cp11 : Nat) (hp11 : SlR Rep.str M w0 Ap11 (w_).length cp11 (w_)) (r : Bool) (hg : law23_AffixWords n a_ w_ = some r) :
    Calls Try.prog 7 [.agg #[.int .i64 (a_.Kind), .slice (Ap02) ((a_.Pairs).length) (cp02)], .slice (Ap11) ((w_).length) (cp11)].toArray w0 (Ret noB w0 fun v w => v = .bool (r)) := by
  unfold law23_AffixWords at hg
  refine enter M noB Try.func7 rfl rfl hM ?_
  intro a hS
  replace hS := hS.add 101 (slF RChange (Ap02) ((a_.Pairs).length) (cp02) (a_.Pairs)) (by exact Fact.change _ enterM hp02)
  replace hS := hS.add 102 (slF Rep.str (Ap11) ((w_).length) (cp11) (w_)) (by exact Fact.change _ enterM hp11)
  apply wp_seq
  apply wp_region_lit
  refine l_seq rfl (l_box (zs := [.int .i64 (a_.Kind), .slice (Ap02) ((a_.Pairs).length) (cp02)]) hS 1000 rfl rfl rfl rfl ?_); clear hS a; intro b2 a w hb hK hS
  clear hb
  clear hK
  refine q_seq hS rfl rfl rfl (y_assign hS rfl) ?_; clear hS a; intro a hS
  apply wpList_nil
  refine p_norm ?_
  apply wp_seq
  apply wp_seq
  replace hg := jn_some hg; obtain ⟨k3, hg, hk3⟩ := hg
  refine c_post (fun a w => ∃ (t_4 : Bool), k3 t_4 = some r ∧ St (⟨Try.f7.ntmps, M, noB, w0⟩ : Ctx) [(1, .slice (Ap11) ((w_).length) (cp11)), (2, .pointer (some ⟨b2, 0, none⟩)), (21, .bool (t_4))] [(1000, Ob.box b2 [.int .i64 (a_.Kind), .slice (Ap02) ((a_.Pairs).length) (cp02)] 24)] [(101, slF RChange (Ap02) ((a_.Pairs).length) (cp02) (a_.Pairs)), (102, slF Rep.str (Ap11) ((w_).length) (cp11) (w_))] a w) ?_ ?_
  · replace hg := bind_some hg; obtain ⟨r5, hr5, hg⟩ := hg
    rcases Bool.eq_false_or_eq_true (!(r5)) with hs8 | hs8
    · replace hg := br_t hg hs8
      apply wp_region_lit
      refine q_seq hS rfl rfl rfl (y_loadBox (kk := 1000) (n := 2) (vs := [.int .i64 (a_.Kind), .slice (Ap02) ((a_.Pairs).length) (cp02)]) hS rfl rfl Try.underlying24 rfl rfl rfl rfl) ?_; clear hS a; intro a hS
      refine l_seq rfl (l_call (cap := []) hS rfl Try.func9 rfl (by kernel_rfl) rfl rfl (c_r23_Light n _ _ hS.lt a_ (Ap02) (cp02) (hS.fact (k := 101) rfl) r5 hr5) ?_); clear hS a; intro v9 a w hK hp hS
      clear hK
      obtain rfl := hp
      refine q_seq hS rfl rfl rfl (yl_b (y_not hS rfl) hs8) ?_; clear hS a; intro a hS
      refine q_seq hS rfl rfl rfl (y_move hS rfl) ?_; clear hS a; intro a hS
      refine g_no hS rfl rfl rfl rfl rfl rfl rfl ?_; clear hS a; intro a hS
      refine g_no hS rfl rfl rfl rfl rfl rfl rfl ?_; clear hS a; intro a hS
      refine g_no hS rfl rfl rfl rfl rfl rfl rfl ?_; clear hS a; intro a hS
      refine q_seq hS rfl rfl rfl (y_pick_t hS rfl rfl) ?_; clear hS a; intro a hS
      refine q_seq hS rfl rfl rfl (y_move hS rfl) ?_; clear hS a; intro a hS
      refine g_no hS rfl rfl rfl rfl rfl rfl rfl ?_; clear hS a; intro a hS
      refine g_no hS rfl rfl rfl rfl rfl rfl rfl ?_; clear hS a; intro a hS
      refine g_no hS rfl rfl rfl rfl rfl rfl rfl ?_; clear hS a; intro a hS
      refine q_seq hS rfl rfl rfl (y_pick_t hS rfl rfl) ?_; clear hS a; intro a hS
      apply wpList_nil
      refine p_norm ?_
      exact ⟨(true), hg, (hS.sub ⟨rfl, rfl, rfl, trivial⟩ ⟨rfl, trivial⟩ ⟨rfl, rfl, trivial⟩)⟩
    · replace hg := br_f hg (by rw [hs8]; exact Bool.false_ne_true)
      replace hg := bind_some hg; obtain ⟨r11, hr11, hg⟩ := hg
      rcases Decidable.em (r11 ≠ 0) with hs14 | hs14
      · have hs14e : decide (r11 ≠ 0) = true := decide_eq_true hs14
        replace hg := br_t hg hs14
        apply wp_region_lit
        refine q_seq hS rfl rfl rfl (y_loadBox (kk := 1000) (n := 2) (vs := [.int .i64 (a_.Kind), .slice (Ap02) ((a_.Pairs).length) (cp02)]) hS rfl rfl Try.underlying24 rfl rfl rfl rfl) ?_; clear hS a; intro a hS
        refine l_seq rfl (l_call (cap := []) hS rfl Try.func9 rfl (by kernel_rfl) rfl rfl (c_r23_Light n _ _ hS.lt a_ (Ap02) (cp02) (hS.fact (k := 101) rfl) r5 hr5) ?_); clear hS a; intro v15 a w hK hp hS
        clear hK
        obtain rfl := hp
        refine q_seq hS rfl rfl rfl (yl_b (y_not hS rfl) hs8) ?_; clear hS a; intro a hS
        refine q_seq hS rfl rfl rfl (y_move hS rfl) ?_; clear hS a; intro a hS
        refine g_yes hS rfl rfl rfl rfl (l_quiet hS rfl rfl (y_loadBox (kk := 1000) (n := 2) (vs := [.int .i64 (a_.Kind), .slice (Ap02) ((a_.Pairs).length) (cp02)]) hS rfl rfl Try.underlying24 rfl rfl rfl rfl) ?_); clear hS a; intro a hS
        refine g_yes hS rfl rfl rfl rfl (l_call (cap := []) hS rfl Try.func12 rfl (by kernel_rfl) rfl rfl (c_r23_Check n _ _ hS.lt a_ (Ap02) (cp02) (hS.fact (k := 101) rfl) r11 hr11) ?_); clear hS a; intro v17 a w hK hp hS
        clear hK
        obtain rfl := hp
        refine g_yes hS rfl rfl rfl rfl (l_quiet hS rfl rfl (yl_b (y_neq hS rfl rfl) hs14e) ?_); clear hS a; intro a hS
        refine q_seq hS rfl rfl rfl (y_pick_f hS rfl rfl) ?_; clear hS a; intro a hS
        refine q_seq hS rfl rfl rfl (y_move hS rfl) ?_; clear hS a; intro a hS
        refine g_no hS rfl rfl rfl rfl rfl rfl rfl ?_; clear hS a; intro a hS
        refine g_no hS rfl rfl rfl rfl rfl rfl rfl ?_; clear hS a; intro a hS
        refine g_no hS rfl rfl rfl rfl rfl rfl rfl ?_; clear hS a; intro a hS
        refine q_seq hS rfl rfl rfl (y_pick_t hS rfl rfl) ?_; clear hS a; intro a hS
        apply wpList_nil
        refine p_norm ?_
        exact ⟨(true), hg, (hS.sub ⟨rfl, rfl, rfl, trivial⟩ ⟨rfl, trivial⟩ ⟨rfl, rfl, trivial⟩)⟩
      · have hs14e : decide (r11 ≠ 0) = false := decide_eq_false hs14
        replace hg := br_f hg hs14
        replace hg := bind_some hg; obtain ⟨r19, hr19, hg⟩ := hg
        apply wp_region_lit
        refine q_seq hS rfl rfl rfl (y_loadBox (kk := 1000) (n := 2) (vs := [.int .i64 (a_.Kind), .slice (Ap02) ((a_.Pairs).length) (cp02)]) hS rfl rfl Try.underlying24 rfl rfl rfl rfl) ?_; clear hS a; intro a hS
        refine l_seq rfl (l_call (cap := []) hS rfl Try.func9 rfl (by kernel_rfl) rfl rfl (c_r23_Light n _ _ hS.lt a_ (Ap02) (cp02) (hS.fact (k := 101) rfl) r5 hr5) ?_); clear hS a; intro v22 a w hK hp hS
        clear hK
        obtain rfl := hp
        refine q_seq hS rfl rfl rfl (yl_b (y_not hS rfl) hs8) ?_; clear hS a; intro a hS
        refine q_seq hS rfl rfl rfl (y_move hS rfl) ?_; clear hS a; intro a hS
        refine g_yes hS rfl rfl rfl rfl (l_quiet hS rfl rfl (y_loadBox (kk := 1000) (n := 2) (vs := [.int .i64 (a_.Kind), .slice (Ap02) ((a_.Pairs).length) (cp02)]) hS rfl rfl Try.underlying24 rfl rfl rfl rfl) ?_); clear hS a; intro a hS
        refine g_yes hS rfl rfl rfl rfl (l_call (cap := []) hS rfl Try.func12 rfl (by kernel_rfl) rfl rfl (c_r23_Check n _ _ hS.lt a_ (Ap02) (cp02) (hS.fact (k := 101) rfl) r11 hr11) ?_); clear hS a; intro v24 a w hK hp hS
        clear hK
        obtain rfl := hp
        refine g_yes hS rfl rfl rfl rfl (l_quiet hS rfl rfl (yl_b (y_neq hS rfl rfl) hs14e) ?_); clear hS a; intro a hS
        refine q_seq hS rfl rfl rfl (y_pick_f hS rfl rfl) ?_; clear hS a; intro a hS
        refine q_seq hS rfl rfl rfl (y_move hS rfl) ?_; clear hS a; intro a hS
        refine g_yes hS rfl rfl rfl rfl (l_quiet hS rfl rfl (y_move hS rfl) ?_); clear hS a; intro a hS
        refine g_yes hS rfl rfl rfl rfl (l_call (cap := []) hS rfl Try.func19 rfl (by kernel_rfl) rfl rfl (c_r23_LightWords n _ _ hS.lt w_ (Ap11) (cp11) (hS.fact (k := 102) rfl) r19 hr19) ?_); clear hS a; intro v26 a w hK hp hS
        clear hK
        obtain rfl := hp
        refine g_yes hS rfl rfl rfl rfl (l_quiet hS rfl rfl (y_not hS rfl) ?_); clear hS a; intro a hS
        refine q_seq hS rfl rfl rfl (y_pick_f hS rfl rfl) ?_; clear hS a; intro a hS
        apply wpList_nil
        refine p_norm ?_
        exact ⟨(!(r19)), hg, (hS.sub ⟨rfl, rfl, rfl, trivial⟩ ⟨rfl, trivial⟩ ⟨rfl, rfl, trivial⟩)⟩
  clear hS a; rintro a w ⟨t_4, hg, hS⟩
  subst hk3
  refine c_cond hS rfl (fun hc28 => ?_) (fun hc28 => ?_)
  · replace hg := br_t hg hc28
    apply wp_seq
    replace hg := bind_some hg; obtain ⟨r29, hr29, hg⟩ := hg
    apply wp_region_lit
    refine l_seq rfl (l_call (cap := []) hS rfl Try.func10 rfl (by kernel_rfl) rfl rfl (c_law23_exampleHolds n _ _ hS.lt  r29 hr29) ?_); clear hS a; intro v32 a w hK hp hS
    clear hK
    obtain rfl := hp
    refine q_seq hS rfl rfl rfl (y_assign hS rfl) ?_; clear hS a; intro a hS
    apply wpList_nil
    refine p_norm ?_
    apply wp_ret
    refine p_thenR ?_
    obtain rfl := Option.some.inj hg
    refine fin1 (fn := Try.f7) hS rfl (r_tmp hS rfl) ?_
    exact rfl
  · replace hg := br_f hg (by rw [hc28]; exact Bool.false_ne_true)
    apply wp_skip
    refine p_norm ?_
    apply wp_seq
    replace hg := bind_some hg; obtain ⟨r34, hr34, hg⟩ := hg
    apply wp_region_lit
    refine q_seq hS rfl rfl rfl (y_loadBox (kk := 1000) (n := 2) (vs := [.int .i64 (a_.Kind), .slice (Ap02) ((a_.Pairs).length) (cp02)]) hS rfl rfl Try.underlying24 rfl rfl rfl rfl) ?_; clear hS a; intro a hS
    refine q_seq hS rfl rfl rfl (y_move hS rfl) ?_; clear hS a; intro a hS
    refine l_seq rfl (l_call (cap := []) hS rfl Try.func20 rfl (by kernel_rfl) rfl rfl (c_affix_Words n _ _ hS.lt a_ (Ap02) (cp02) (hS.fact (k := 101) rfl) w_ (Ap11) (cp11) (hS.fact (k := 102) rfl) r34 hr34) ?_); clear hS a; intro v37 a w hK hp hS
    clear hK
    obtain ⟨Au38a1, cu38a1, rfl, hu38a1⟩ := hp
    replace hS := hS.add 104 (slF Rep.str (Au38a1) ((r34.1).length) (cu38a1) (r34.1)) hu38a1
    refine q_seq hS rfl rfl rfl (y_move hS rfl) ?_; clear hS a; intro a hS
    refine q_seq hS rfl rfl rfl (y_extract hS rfl rfl) ?_; clear hS a; intro a hS
    refine q_seq hS rfl rfl rfl (y_extract hS rfl rfl) ?_; clear hS a; intro a hS
    refine q_seq hS rfl rfl rfl (y_assign hS rfl) ?_; clear hS a; intro a hS
    refine q_seq hS rfl rfl rfl (y_assign hS rfl) ?_; clear hS a; intro a hS
    apply wpList_nil
    refine p_norm ?_
    apply wp_seq
    replace hg := bind_some hg; obtain ⟨r39, hr39, hg⟩ := hg
    apply wp_region_lit
    refine q_seq hS rfl rfl rfl (y_loadBox (kk := 1000) (n := 2) (vs := [.int .i64 (a_.Kind), .slice (Ap02) ((a_.Pairs).length) (cp02)]) hS rfl rfl Try.underlying24 rfl rfl rfl rfl) ?_; clear hS a; intro a hS
    refine q_seq hS rfl rfl rfl (y_move hS rfl) ?_; clear hS a; intro a hS
    refine l_seq rfl (l_call (cap := []) hS rfl Try.func21 rfl (by kernel_rfl) rfl rfl (c_r23_Words n _ _ hS.lt a_ (Ap02) (cp02) (hS.fact (k := 101) rfl) w_ (Ap11) (cp11) (hS.fact (k := 102) rfl) r39 hr39) ?_); clear hS a; intro v42 a w hK hp hS
    clear hK
    obtain ⟨Au43a1, cu43a1, rfl, hu43a1⟩ := hp
    replace hS := hS.add 106 (slF Rep.str (Au43a1) ((r39.1).length) (cu43a1) (r39.1)) hu43a1
    refine q_seq hS rfl rfl rfl (y_move hS rfl) ?_; clear hS a; intro a hS
    refine q_seq hS rfl rfl rfl (y_extract hS rfl rfl) ?_; clear hS a; intro a hS
    refine q_seq hS rfl rfl rfl (y_extract hS rfl rfl) ?_; clear hS a; intro a hS
    refine q_seq hS rfl rfl rfl (y_assign hS rfl) ?_; clear hS a; intro a hS
    refine q_seq hS rfl rfl rfl (y_assign hS rfl) ?_; clear hS a; intro a hS
    apply wpList_nil
    refine p_norm ?_
    apply wp_seq
    replace hg := bind_some hg; obtain ⟨r44, hr44, hg⟩ := hg
    rcases Bool.eq_false_or_eq_true (r44) with hs47 | hs47
    · replace hg := br_t hg hs47
      rcases Bool.eq_false_or_eq_true (r34.2 == r39.2) with hs48 | hs48
      · replace hg := br_t hg hs48
        replace hg := bind_some hg; obtain ⟨r49, hr49, hg⟩ := hg
        apply wp_region_lit
        refine q_seq hS rfl rfl rfl (y_move hS rfl) ?_; clear hS a; intro a hS
        refine q_seq hS rfl rfl rfl (y_move hS rfl) ?_; clear hS a; intro a hS
        refine l_seq rfl (l_call (cap := []) hS rfl Try.func16 rfl (by kernel_rfl) rfl rfl (c_r01_Same n _ _ hS.lt r34.1 (Au38a1) (cu38a1) (hS.fact (k := 104) rfl) r39.1 (Au43a1) (cu43a1) (hS.fact (k := 106) rfl) r44 hr44) ?_); clear hS a; intro v52 a w hK hp hS
        clear hK
        obtain rfl := hp.trans (congrArg Value.bool hs47)
        refine q_seq hS rfl rfl rfl (y_move hS rfl) ?_; clear hS a; intro a hS
        refine g_yes hS rfl rfl rfl rfl (l_quiet hS rfl rfl (y_move hS rfl) ?_); clear hS a; intro a hS
        refine g_yes hS rfl rfl rfl rfl (l_quiet hS rfl rfl (y_move hS rfl) ?_); clear hS a; intro a hS
        refine g_yes hS rfl rfl rfl rfl (l_quiet hS rfl rfl (yl_b (y_beq hS rfl rfl Try.underlying4) hs48) ?_); clear hS a; intro a hS
        refine q_seq hS rfl rfl rfl (y_pick_t hS rfl rfl) ?_; clear hS a; intro a hS
        refine q_seq hS rfl rfl rfl (y_move hS rfl) ?_; clear hS a; intro a hS
        refine g_yes hS rfl rfl rfl rfl (l_call (cap := []) hS rfl Try.func10 rfl (by kernel_rfl) rfl rfl (c_law23_exampleHolds n _ _ hS.lt  r49 hr49) ?_); clear hS a; intro v54 a w hK hp hS
        clear hK
        obtain rfl := hp
        refine q_seq hS rfl rfl rfl (y_pick_t hS rfl rfl) ?_; clear hS a; intro a hS
        refine q_seq hS rfl rfl rfl (y_assign hS rfl) ?_; clear hS a; intro a hS
        apply wpList_nil
        refine p_norm ?_
        apply wp_ret
        obtain rfl := Option.some.inj hg
        refine fin1 (fn := Try.f7) hS rfl (r_tmp hS rfl) ?_
        exact rfl
      · replace hg := br_f hg (by rw [hs48]; exact Bool.false_ne_true)
        apply wp_region_lit
        refine q_seq hS rfl rfl rfl (y_move hS rfl) ?_; clear hS a; intro a hS
        refine q_seq hS rfl rfl rfl (y_move hS rfl) ?_; clear hS a; intro a hS
        refine l_seq rfl (l_call (cap := []) hS rfl Try.func16 rfl (by kernel_rfl) rfl rfl (c_r01_Same n _ _ hS.lt r34.1 (Au38a1) (cu38a1) (hS.fact (k := 104) rfl) r39.1 (Au43a1) (cu43a1) (hS.fact (k := 106) rfl) r44 hr44) ?_); clear hS a; intro v56 a w hK hp hS
        clear hK
        obtain rfl := hp.trans (congrArg Value.bool hs47)
        refine q_seq hS rfl rfl rfl (y_move hS rfl) ?_; clear hS a; intro a hS
        refine g_yes hS rfl rfl rfl rfl (l_quiet hS rfl rfl (y_move hS rfl) ?_); clear hS a; intro a hS
        refine g_yes hS rfl rfl rfl rfl (l_quiet hS rfl rfl (y_move hS rfl) ?_); clear hS a; intro a hS
        refine g_yes hS rfl rfl rfl rfl (l_quiet hS rfl rfl (yl_b (y_beq hS rfl rfl Try.underlying4) hs48) ?_); clear hS a; intro a hS
        refine q_seq hS rfl rfl rfl (y_pick_t hS rfl rfl) ?_; clear hS a; intro a hS
        refine q_seq hS rfl rfl rfl (y_move hS rfl) ?_; clear hS a; intro a hS
        refine g_no hS rfl rfl rfl rfl rfl rfl rfl ?_; clear hS a; intro a hS
        refine q_seq hS rfl rfl rfl (y_pick_f hS rfl rfl) ?_; clear hS a; intro a hS
        refine q_seq hS rfl rfl rfl (y_assign hS rfl) ?_; clear hS a; intro a hS
        apply wpList_nil
        refine p_norm ?_
        apply wp_ret
        obtain rfl := Option.some.inj hg
        refine fin1 (fn := Try.f7) hS rfl (r_tmp hS rfl) ?_
        exact rfl
    · replace hg := br_f hg (by rw [hs47]; exact Bool.false_ne_true)
      apply wp_region_lit
      refine q_seq hS rfl rfl rfl (y_move hS rfl) ?_; clear hS a; intro a hS
      refine q_seq hS rfl rfl rfl (y_move hS rfl) ?_; clear hS a; intro a hS
      refine l_seq rfl (l_call (cap := []) hS rfl Try.func16 rfl (by kernel_rfl) rfl rfl (c_r01_Same n _ _ hS.lt r34.1 (Au38a1) (cu38a1) (hS.fact (k := 104) rfl) r39.1 (Au43a1) (cu43a1) (hS.fact (k := 106) rfl) r44 hr44) ?_); clear hS a; intro v58 a w hK hp hS
      clear hK
      obtain rfl := hp.trans (congrArg Value.bool hs47)
      refine q_seq hS rfl rfl rfl (y_move hS rfl) ?_; clear hS a; intro a hS
      refine g_no hS rfl rfl rfl rfl rfl rfl rfl ?_; clear hS a; intro a hS
      refine g_no hS rfl rfl rfl rfl rfl rfl rfl ?_; clear hS a; intro a hS
      refine g_no hS rfl rfl rfl rfl rfl rfl rfl ?_; clear hS a; intro a hS
      refine q_seq hS rfl rfl rfl (y_pick_f hS rfl rfl) ?_; clear hS a; intro a hS
      refine q_seq hS rfl rfl rfl (y_move hS rfl) ?_; clear hS a; intro a hS
      refine g_no hS rfl rfl rfl rfl rfl rfl rfl ?_; clear hS a; intro a hS
      refine q_seq hS rfl rfl rfl (y_pick_f hS rfl rfl) ?_; clear hS a; intro a hS
      refine q_seq hS rfl rfl rfl (y_assign hS rfl) ?_; clear hS a; intro a hS
      apply wpList_nil
      refine p_norm ?_
      apply wp_ret
      obtain rfl := Option.some.inj hg
      refine fin1 (fn := Try.f7) hS rfl (r_tmp hS rfl) ?_
      exact rfl
set_option maxHeartbeats 400000 in
theorem c_law23_AffixForms (n : Nat) (M : Bs) (w0 : World) (hM : ∀ b, M b → b < w0.heap.size) (t_ : Affix) (Ap02 : Option Addr) (cp02 : Nat) (hp02 : SlR RChange M w0 Ap02 (t_.Pairs).length cp02 (t_.Pairs)) (t_' : (List UInt8)) (lp11 : (t_').length ≤ 9223372036854775807) (r : Bool) (hg : law23_AffixForms n t_ t_' = some r) :
    Calls Try.prog 8 [.agg #[.int .i64 (t_.Kind), .slice (Ap02) ((t_.Pairs).length) (cp02)], .string (bs (t_'))].toArray w0 (Ret noB w0 fun v w => v = .bool (r)) := by
  unfold law23_AffixForms at hg
  refine enter M noB Try.func8 rfl rfl hM ?_
  intro a hS
  replace hS := hS.add 101 (slF RChange (Ap02) ((t_.Pairs).length) (cp02) (t_.Pairs)) (by exact Fact.change _ enterM hp02)
  apply wp_seq
  apply wp_region_lit
  refine l_seq rfl (l_box (zs := [.int .i64 (t_.Kind), .slice (Ap02) ((t_.Pairs).length) (cp02)]) hS 1000 rfl rfl rfl rfl ?_); clear hS a; intro b2 a w hb hK hS
  clear hb
  clear hK
  refine q_seq hS rfl rfl rfl (y_assign hS rfl) ?_; clear hS a; intro a hS
  apply wpList_nil
  refine p_norm ?_
  apply wp_seq
  apply wp_seq
  replace hg := jn_some hg; obtain ⟨k3, hg, hk3⟩ := hg
  refine c_post (fun a w => ∃ (t_4 : Bool), k3 t_4 = some r ∧ St (⟨Try.f8.ntmps, M, noB, w0⟩ : Ctx) [(1, .string (bs (t_'))), (2, .pointer (some ⟨b2, 0, none⟩)), (23, .bool (t_4))] [(1000, Ob.box b2 [.int .i64 (t_.Kind), .slice (Ap02) ((t_.Pairs).length) (cp02)] 24)] [(101, slF RChange (Ap02) ((t_.Pairs).length) (cp02) (t_.Pairs))] a w) ?_ ?_
  · replace hg := bind_some hg; obtain ⟨r5, hr5, hg⟩ := hg
    rcases Bool.eq_false_or_eq_true (!(r5)) with hs8 | hs8
    · replace hg := br_t hg hs8
      apply wp_region_lit
      refine q_seq hS rfl rfl rfl (y_loadBox (kk := 1000) (n := 2) (vs := [.int .i64 (t_.Kind), .slice (Ap02) ((t_.Pairs).length) (cp02)]) hS rfl rfl Try.underlying24 rfl rfl rfl rfl) ?_; clear hS a; intro a hS
      refine l_seq rfl (l_call (cap := []) hS rfl Try.func9 rfl (by kernel_rfl) rfl rfl (c_r23_Light n _ _ hS.lt t_ (Ap02) (cp02) (hS.fact (k := 101) rfl) r5 hr5) ?_); clear hS a; intro v9 a w hK hp hS
      clear hK
      obtain rfl := hp
      refine q_seq hS rfl rfl rfl (yl_b (y_not hS rfl) hs8) ?_; clear hS a; intro a hS
      refine q_seq hS rfl rfl rfl (y_move hS rfl) ?_; clear hS a; intro a hS
      refine g_no hS rfl rfl rfl rfl rfl rfl rfl ?_; clear hS a; intro a hS
      refine g_no hS rfl rfl rfl rfl rfl rfl rfl ?_; clear hS a; intro a hS
      refine g_no hS rfl rfl rfl rfl rfl rfl rfl ?_; clear hS a; intro a hS
      refine q_seq hS rfl rfl rfl (y_pick_t hS rfl rfl) ?_; clear hS a; intro a hS
      refine q_seq hS rfl rfl rfl (y_move hS rfl) ?_; clear hS a; intro a hS
      refine g_no hS rfl rfl rfl rfl rfl rfl rfl ?_; clear hS a; intro a hS
      refine g_no hS rfl rfl rfl rfl rfl rfl rfl ?_; clear hS a; intro a hS
      refine g_no hS rfl rfl rfl rfl rfl rfl rfl ?_; clear hS a; intro a hS
      refine q_seq hS rfl rfl rfl (y_pick_t hS rfl rfl) ?_; clear hS a; intro a hS
      apply wpList_nil
      refine p_norm ?_
      exact ⟨(true), hg, (hS.sub ⟨rfl, rfl, rfl, trivial⟩ ⟨rfl, trivial⟩ ⟨rfl, trivial⟩)⟩
    · replace hg := br_f hg (by rw [hs8]; exact Bool.false_ne_true)
      replace hg := bind_some hg; obtain ⟨r11, hr11, hg⟩ := hg
      rcases Decidable.em (r11 ≠ 0) with hs14 | hs14
      · have hs14e : decide (r11 ≠ 0) = true := decide_eq_true hs14
        replace hg := br_t hg hs14
        apply wp_region_lit
        refine q_seq hS rfl rfl rfl (y_loadBox (kk := 1000) (n := 2) (vs := [.int .i64 (t_.Kind), .slice (Ap02) ((t_.Pairs).length) (cp02)]) hS rfl rfl Try.underlying24 rfl rfl rfl rfl) ?_; clear hS a; intro a hS
        refine l_seq rfl (l_call (cap := []) hS rfl Try.func9 rfl (by kernel_rfl) rfl rfl (c_r23_Light n _ _ hS.lt t_ (Ap02) (cp02) (hS.fact (k := 101) rfl) r5 hr5) ?_); clear hS a; intro v15 a w hK hp hS
        clear hK
        obtain rfl := hp
        refine q_seq hS rfl rfl rfl (yl_b (y_not hS rfl) hs8) ?_; clear hS a; intro a hS
        refine q_seq hS rfl rfl rfl (y_move hS rfl) ?_; clear hS a; intro a hS
        refine g_yes hS rfl rfl rfl rfl (l_quiet hS rfl rfl (y_loadBox (kk := 1000) (n := 2) (vs := [.int .i64 (t_.Kind), .slice (Ap02) ((t_.Pairs).length) (cp02)]) hS rfl rfl Try.underlying24 rfl rfl rfl rfl) ?_); clear hS a; intro a hS
        refine g_yes hS rfl rfl rfl rfl (l_call (cap := []) hS rfl Try.func12 rfl (by kernel_rfl) rfl rfl (c_r23_Check n _ _ hS.lt t_ (Ap02) (cp02) (hS.fact (k := 101) rfl) r11 hr11) ?_); clear hS a; intro v17 a w hK hp hS
        clear hK
        obtain rfl := hp
        refine g_yes hS rfl rfl rfl rfl (l_quiet hS rfl rfl (yl_b (y_neq hS rfl rfl) hs14e) ?_); clear hS a; intro a hS
        refine q_seq hS rfl rfl rfl (y_pick_f hS rfl rfl) ?_; clear hS a; intro a hS
        refine q_seq hS rfl rfl rfl (y_move hS rfl) ?_; clear hS a; intro a hS
        refine g_no hS rfl rfl rfl rfl rfl rfl rfl ?_; clear hS a; intro a hS
        refine g_no hS rfl rfl rfl rfl rfl rfl rfl ?_; clear hS a; intro a hS
        refine g_no hS rfl rfl rfl rfl rfl rfl rfl ?_; clear hS a; intro a hS
        refine q_seq hS rfl rfl rfl (y_pick_t hS rfl rfl) ?_; clear hS a; intro a hS
        apply wpList_nil
        refine p_norm ?_
        exact ⟨(true), hg, (hS.sub ⟨rfl, rfl, rfl, trivial⟩ ⟨rfl, trivial⟩ ⟨rfl, trivial⟩)⟩
      · have hs14e : decide (r11 ≠ 0) = false := decide_eq_false hs14
        replace hg := br_f hg hs14
        replace hg := bind_some hg; obtain ⟨r19, hr19, hg⟩ := hg
        apply wp_region_lit
        refine q_seq hS rfl rfl rfl (y_loadBox (kk := 1000) (n := 2) (vs := [.int .i64 (t_.Kind), .slice (Ap02) ((t_.Pairs).length) (cp02)]) hS rfl rfl Try.underlying24 rfl rfl rfl rfl) ?_; clear hS a; intro a hS
        refine l_seq rfl (l_call (cap := []) hS rfl Try.func9 rfl (by kernel_rfl) rfl rfl (c_r23_Light n _ _ hS.lt t_ (Ap02) (cp02) (hS.fact (k := 101) rfl) r5 hr5) ?_); clear hS a; intro v22 a w hK hp hS
        clear hK
        obtain rfl := hp
        refine q_seq hS rfl rfl rfl (yl_b (y_not hS rfl) hs8) ?_; clear hS a; intro a hS
        refine q_seq hS rfl rfl rfl (y_move hS rfl) ?_; clear hS a; intro a hS
        refine g_yes hS rfl rfl rfl rfl (l_quiet hS rfl rfl (y_loadBox (kk := 1000) (n := 2) (vs := [.int .i64 (t_.Kind), .slice (Ap02) ((t_.Pairs).length) (cp02)]) hS rfl rfl Try.underlying24 rfl rfl rfl rfl) ?_); clear hS a; intro a hS
        refine g_yes hS rfl rfl rfl rfl (l_call (cap := []) hS rfl Try.func12 rfl (by kernel_rfl) rfl rfl (c_r23_Check n _ _ hS.lt t_ (Ap02) (cp02) (hS.fact (k := 101) rfl) r11 hr11) ?_); clear hS a; intro v24 a w hK hp hS
        clear hK
        obtain rfl := hp
        refine g_yes hS rfl rfl rfl rfl (l_quiet hS rfl rfl (yl_b (y_neq hS rfl rfl) hs14e) ?_); clear hS a; intro a hS
        refine q_seq hS rfl rfl rfl (y_pick_f hS rfl rfl) ?_; clear hS a; intro a hS
        refine q_seq hS rfl rfl rfl (y_move hS rfl) ?_; clear hS a; intro a hS
        refine g_yes hS rfl rfl rfl rfl (l_quiet hS rfl rfl (y_move hS rfl) ?_); clear hS a; intro a hS
        refine g_yes hS rfl rfl rfl rfl (l_call (cap := []) hS rfl Try.func13 rfl (by kernel_rfl) rfl rfl (c_r01_Word n _ _ hS.lt t_' (by first | omega | (rw [List.length_append]; omega) | (simp only [List.length_append]; omega) | (simp only [List.length_append, List.length_take, List.length_drop, List.length_cons, List.length_nil]; omega)) r19 hr19) ?_); clear hS a; intro v26 a w hK hp hS
        clear hK
        obtain rfl := hp
        refine g_yes hS rfl rfl rfl rfl (l_quiet hS rfl rfl (y_not hS rfl) ?_); clear hS a; intro a hS
        refine q_seq hS rfl rfl rfl (y_pick_f hS rfl rfl) ?_; clear hS a; intro a hS
        apply wpList_nil
        refine p_norm ?_
        exact ⟨(!(r19)), hg, (hS.sub ⟨rfl, rfl, rfl, trivial⟩ ⟨rfl, trivial⟩ ⟨rfl, trivial⟩)⟩
  clear hS a; rintro a w ⟨t_4, hg, hS⟩
  subst hk3
  refine c_cond hS rfl (fun hc28 => ?_) (fun hc28 => ?_)
  · replace hg := br_t hg hc28
    apply wp_seq
    replace hg := bind_some hg; obtain ⟨r29, hr29, hg⟩ := hg
    apply wp_region_lit
    refine l_seq rfl (l_call (cap := []) hS rfl Try.func10 rfl (by kernel_rfl) rfl rfl (c_law23_exampleHolds n _ _ hS.lt  r29 hr29) ?_); clear hS a; intro v32 a w hK hp hS
    clear hK
    obtain rfl := hp
    refine q_seq hS rfl rfl rfl (y_assign hS rfl) ?_; clear hS a; intro a hS
    apply wpList_nil
    refine p_norm ?_
    apply wp_ret
    refine p_thenR ?_
    obtain rfl := Option.some.inj hg
    refine fin1 (fn := Try.f8) hS rfl (r_tmp hS rfl) ?_
    exact rfl
  · replace hg := br_f hg (by rw [hc28]; exact Bool.false_ne_true)
    apply wp_skip
    refine p_norm ?_
    apply wp_seq
    replace hg := bind_some hg; obtain ⟨r34, hr34, hg⟩ := hg
    apply wp_region_lit
    refine q_seq hS rfl rfl rfl (y_loadBox (kk := 1000) (n := 2) (vs := [.int .i64 (t_.Kind), .slice (Ap02) ((t_.Pairs).length) (cp02)]) hS rfl rfl Try.underlying24 rfl rfl rfl rfl) ?_; clear hS a; intro a hS
    refine q_seq hS rfl rfl rfl (y_move hS rfl) ?_; clear hS a; intro a hS
    refine l_seq rfl (l_call (cap := []) hS rfl Try.func17 rfl (by kernel_rfl) rfl rfl (c_affix_Undo n _ _ hS.lt t_ (Ap02) (cp02) (hS.fact (k := 101) rfl) t_' (by first | omega | (rw [List.length_append]; omega) | (simp only [List.length_append]; omega) | (simp only [List.length_append, List.length_take, List.length_drop, List.length_cons, List.length_nil]; omega)) r34 hr34) ?_); clear hS a; intro v37 a w hK hp hS
    clear hK
    obtain ⟨Au38a1, cu38a1, rfl, hu38a1⟩ := hp
    replace hS := hS.add 103 (slF Rep.str (Au38a1) ((r34).length) (cu38a1) (r34)) hu38a1
    refine q_seq hS rfl rfl rfl (y_assign hS rfl) ?_; clear hS a; intro a hS
    apply wpList_nil
    refine p_norm ?_
    apply wp_seq
    replace hg := bind_some hg; obtain ⟨r39, hr39, hg⟩ := hg
    apply wp_region_lit
    refine q_seq hS rfl rfl rfl (y_loadBox (kk := 1000) (n := 2) (vs := [.int .i64 (t_.Kind), .slice (Ap02) ((t_.Pairs).length) (cp02)]) hS rfl rfl Try.underlying24 rfl rfl rfl rfl) ?_; clear hS a; intro a hS
    refine q_seq hS rfl rfl rfl (y_move hS rfl) ?_; clear hS a; intro a hS
    refine l_seq rfl (l_call (cap := []) hS rfl Try.func14 rfl (by kernel_rfl) rfl rfl (c_affix_Apply n _ _ hS.lt t_ (Ap02) (cp02) (hS.fact (k := 101) rfl) t_' (by first | omega | (rw [List.length_append]; omega) | (simp only [List.length_append]; omega) | (simp only [List.length_append, List.length_take, List.length_drop, List.length_cons, List.length_nil]; omega)) r39 hr39) ?_); clear hS a; intro v42 a w hK hp hS
    clear hK
    obtain ⟨rfl, lu43a1⟩ := hp
    refine q_seq hS rfl rfl rfl (y_move hS rfl) ?_; clear hS a; intro a hS
    refine q_seq hS rfl rfl rfl (y_extract hS rfl rfl) ?_; clear hS a; intro a hS
    refine q_seq hS rfl rfl rfl (y_extract hS rfl rfl) ?_; clear hS a; intro a hS
    refine q_seq hS rfl rfl rfl (y_assign hS rfl) ?_; clear hS a; intro a hS
    refine q_seq hS rfl rfl rfl (y_assign hS rfl) ?_; clear hS a; intro a hS
    apply wpList_nil
    refine p_norm ?_
    apply wp_seq
    apply wp_seq
    apply wp_region_lit
    refine q_seq hS rfl rfl rfl (y_boxField (o' := 0) hS rfl Try.underlying24 rfl rfl rfl) ?_; clear hS a; intro a hS
    refine q_seq hS rfl rfl rfl (y_loadBox1 (kk := 1000) hS rfl rfl rfl Try.underlying3 rfl) ?_; clear hS a; intro a hS
    refine q_seq hS rfl rfl rfl (y_eql hS rfl rfl) ?_; clear hS a; intro a hS
    apply wpList_nil
    refine p_norm ?_
    refine c_dec hS rfl (fun hc44 => ?_) (fun hc44 => ?_)
    · replace hg := br_t hg hc44
      apply wp_seq
      rcases Bool.eq_false_or_eq_true (r39.2) with hs45 | hs45
      · replace hg := br_t hg hs45
        rcases Decidable.em ((r39.1 : List UInt8) = t_') with hs46 | hs46
        · have hs46e : decide ((r39.1 : List UInt8) = t_') = true := decide_eq_true hs46
          replace hg := br_t hg hs46
          rcases Decidable.em (((r34).length) = 1) with hs47 | hs47
          · have hs47e : decide (((r34).length) = 1) = true := decide_eq_true hs47
            replace hg := br_t hg hs47
            replace hg := bind_some hg; obtain ⟨x49, hx49, hg⟩ := hg
            rcases Decidable.em ((x49 : List UInt8) = t_') with hs51 | hs51
            · have hs51e : decide ((x49 : List UInt8) = t_') = true := decide_eq_true hs51
              replace hg := br_t hg hs51
              replace hg := bind_some hg; obtain ⟨r52, hr52, hg⟩ := hg
              apply wp_region_lit
              refine q_seq hS rfl rfl rfl (yl_b (y_move hS rfl) hs45) ?_; clear hS a; intro a hS
              refine q_seq hS rfl rfl rfl (y_move hS rfl) ?_; clear hS a; intro a hS
              refine g_yes hS rfl rfl rfl rfl (l_quiet hS rfl rfl (y_move hS rfl) ?_); clear hS a; intro a hS
              refine g_yes hS rfl rfl rfl rfl (l_quiet hS rfl rfl (y_move hS rfl) ?_); clear hS a; intro a hS
              refine g_yes hS rfl rfl rfl rfl (l_quiet hS rfl rfl (yl_b (y_seq hS rfl rfl) hs46e) ?_); clear hS a; intro a hS
              refine q_seq hS rfl rfl rfl (y_pick_t hS rfl rfl) ?_; clear hS a; intro a hS
              refine q_seq hS rfl rfl rfl (y_move hS rfl) ?_; clear hS a; intro a hS
              refine g_yes hS rfl rfl rfl rfl (l_quiet hS rfl rfl (y_move hS rfl) ?_); clear hS a; intro a hS
              refine g_yes hS rfl rfl rfl rfl (l_quiet hS rfl rfl (y_lenSlice hS rfl Try.underlying34) ?_); clear hS a; intro a hS
              refine g_yes hS rfl rfl rfl rfl (l_quiet hS rfl rfl (yl_b (y_eqlN (i := ((r34).length)) (j := 1) hS rfl rfl) hs47e) ?_); clear hS a; intro a hS
              refine q_seq hS rfl rfl rfl (y_pick_t hS rfl rfl) ?_; clear hS a; intro a hS
              refine q_seq hS rfl rfl rfl (y_move hS rfl) ?_; clear hS a; intro a hS
              refine g_yes hS rfl rfl rfl rfl (l_quiet hS rfl rfl (y_move hS rfl) ?_); clear hS a; intro a hS
              obtain ⟨p55, hep55, hpp55⟩ := SlR.elemX (hS.fact (k := 103) rfl) hx49
              refine g_yes hS rfl rfl rfl rfl (l_quiet hS rfl rfl (y_elem (sz := 1) (i := 0) hS rfl rfl Try.underlying34 rfl hep55 rfl (lt_of_get hx49)) ?_); clear hS a; intro a hS
              obtain ⟨hlq56, hmq56, csq56, hdq56, hcq56⟩ := hpp55
              obtain ⟨rfl, lq561⟩ := hdq56
              refine g_yes hS rfl rfl rfl rfl (l_quiet hS rfl rfl (y_ldp1 hS rfl hlq56 hmq56 (hcq56 0 _ rfl) Try.underlying9 rfl) ?_); clear hS a; intro a hS
              refine g_yes hS rfl rfl rfl rfl (l_quiet hS rfl rfl (y_move hS rfl) ?_); clear hS a; intro a hS
              refine g_yes hS rfl rfl rfl rfl (l_quiet hS rfl rfl (yl_b (y_seq hS rfl rfl) hs51e) ?_); clear hS a; intro a hS
              refine q_seq hS rfl rfl rfl (y_pick_t hS rfl rfl) ?_; clear hS a; intro a hS
              refine q_seq hS rfl rfl rfl (y_move hS rfl) ?_; clear hS a; intro a hS
              refine g_yes hS rfl rfl rfl rfl (l_call (cap := []) hS rfl Try.func10 rfl (by kernel_rfl) rfl rfl (c_law23_exampleHolds n _ _ hS.lt  r52 hr52) ?_); clear hS a; intro v57 a w hK hp hS
              clear hK
              obtain rfl := hp
              refine q_seq hS rfl rfl rfl (y_pick_t hS rfl rfl) ?_; clear hS a; intro a hS
              refine q_seq hS rfl rfl rfl (y_assign hS rfl) ?_; clear hS a; intro a hS
              apply wpList_nil
              refine p_norm ?_
              apply wp_ret
              refine p_thenR ?_
              obtain rfl := Option.some.inj hg
              refine fin1 (fn := Try.f8) hS rfl (r_tmp hS rfl) ?_
              exact rfl
            · have hs51e : decide ((x49 : List UInt8) = t_') = false := decide_eq_false hs51
              replace hg := br_f hg hs51
              apply wp_region_lit
              refine q_seq hS rfl rfl rfl (yl_b (y_move hS rfl) hs45) ?_; clear hS a; intro a hS
              refine q_seq hS rfl rfl rfl (y_move hS rfl) ?_; clear hS a; intro a hS
              refine g_yes hS rfl rfl rfl rfl (l_quiet hS rfl rfl (y_move hS rfl) ?_); clear hS a; intro a hS
              refine g_yes hS rfl rfl rfl rfl (l_quiet hS rfl rfl (y_move hS rfl) ?_); clear hS a; intro a hS
              refine g_yes hS rfl rfl rfl rfl (l_quiet hS rfl rfl (yl_b (y_seq hS rfl rfl) hs46e) ?_); clear hS a; intro a hS
              refine q_seq hS rfl rfl rfl (y_pick_t hS rfl rfl) ?_; clear hS a; intro a hS
              refine q_seq hS rfl rfl rfl (y_move hS rfl) ?_; clear hS a; intro a hS
              refine g_yes hS rfl rfl rfl rfl (l_quiet hS rfl rfl (y_move hS rfl) ?_); clear hS a; intro a hS
              refine g_yes hS rfl rfl rfl rfl (l_quiet hS rfl rfl (y_lenSlice hS rfl Try.underlying34) ?_); clear hS a; intro a hS
              refine g_yes hS rfl rfl rfl rfl (l_quiet hS rfl rfl (yl_b (y_eqlN (i := ((r34).length)) (j := 1) hS rfl rfl) hs47e) ?_); clear hS a; intro a hS
              refine q_seq hS rfl rfl rfl (y_pick_t hS rfl rfl) ?_; clear hS a; intro a hS
              refine q_seq hS rfl rfl rfl (y_move hS rfl) ?_; clear hS a; intro a hS
              refine g_yes hS rfl rfl rfl rfl (l_quiet hS rfl rfl (y_move hS rfl) ?_); clear hS a; intro a hS
              obtain ⟨p59, hep59, hpp59⟩ := SlR.elemX (hS.fact (k := 103) rfl) hx49
              refine g_yes hS rfl rfl rfl rfl (l_quiet hS rfl rfl (y_elem (sz := 1) (i := 0) hS rfl rfl Try.underlying34 rfl hep59 rfl (lt_of_get hx49)) ?_); clear hS a; intro a hS
              obtain ⟨hlq60, hmq60, csq60, hdq60, hcq60⟩ := hpp59
              obtain ⟨rfl, lq601⟩ := hdq60
              refine g_yes hS rfl rfl rfl rfl (l_quiet hS rfl rfl (y_ldp1 hS rfl hlq60 hmq60 (hcq60 0 _ rfl) Try.underlying9 rfl) ?_); clear hS a; intro a hS
              refine g_yes hS rfl rfl rfl rfl (l_quiet hS rfl rfl (y_move hS rfl) ?_); clear hS a; intro a hS
              refine g_yes hS rfl rfl rfl rfl (l_quiet hS rfl rfl (yl_b (y_seq hS rfl rfl) hs51e) ?_); clear hS a; intro a hS
              refine q_seq hS rfl rfl rfl (y_pick_t hS rfl rfl) ?_; clear hS a; intro a hS
              refine q_seq hS rfl rfl rfl (y_move hS rfl) ?_; clear hS a; intro a hS
              refine g_no hS rfl rfl rfl rfl rfl rfl rfl ?_; clear hS a; intro a hS
              refine q_seq hS rfl rfl rfl (y_pick_f hS rfl rfl) ?_; clear hS a; intro a hS
              refine q_seq hS rfl rfl rfl (y_assign hS rfl) ?_; clear hS a; intro a hS
              apply wpList_nil
              refine p_norm ?_
              apply wp_ret
              refine p_thenR ?_
              obtain rfl := Option.some.inj hg
              refine fin1 (fn := Try.f8) hS rfl (r_tmp hS rfl) ?_
              exact rfl
          · have hs47e : decide (((r34).length) = 1) = false := decide_eq_false hs47
            replace hg := br_f hg hs47
            apply wp_region_lit
            refine q_seq hS rfl rfl rfl (yl_b (y_move hS rfl) hs45) ?_; clear hS a; intro a hS
            refine q_seq hS rfl rfl rfl (y_move hS rfl) ?_; clear hS a; intro a hS
            refine g_yes hS rfl rfl rfl rfl (l_quiet hS rfl rfl (y_move hS rfl) ?_); clear hS a; intro a hS
            refine g_yes hS rfl rfl rfl rfl (l_quiet hS rfl rfl (y_move hS rfl) ?_); clear hS a; intro a hS
            refine g_yes hS rfl rfl rfl rfl (l_quiet hS rfl rfl (yl_b (y_seq hS rfl rfl) hs46e) ?_); clear hS a; intro a hS
            refine q_seq hS rfl rfl rfl (y_pick_t hS rfl rfl) ?_; clear hS a; intro a hS
            refine q_seq hS rfl rfl rfl (y_move hS rfl) ?_; clear hS a; intro a hS
            refine g_yes hS rfl rfl rfl rfl (l_quiet hS rfl rfl (y_move hS rfl) ?_); clear hS a; intro a hS
            refine g_yes hS rfl rfl rfl rfl (l_quiet hS rfl rfl (y_lenSlice hS rfl Try.underlying34) ?_); clear hS a; intro a hS
            refine g_yes hS rfl rfl rfl rfl (l_quiet hS rfl rfl (yl_b (y_eqlN (i := ((r34).length)) (j := 1) hS rfl rfl) hs47e) ?_); clear hS a; intro a hS
            refine q_seq hS rfl rfl rfl (y_pick_t hS rfl rfl) ?_; clear hS a; intro a hS
            refine q_seq hS rfl rfl rfl (y_move hS rfl) ?_; clear hS a; intro a hS
            refine g_no hS rfl rfl rfl rfl rfl rfl rfl ?_; clear hS a; intro a hS
            refine g_no hS rfl rfl rfl rfl rfl rfl rfl ?_; clear hS a; intro a hS
            refine g_no hS rfl rfl rfl rfl rfl rfl rfl ?_; clear hS a; intro a hS
            refine g_no hS rfl rfl rfl rfl rfl rfl rfl ?_; clear hS a; intro a hS
            refine g_no hS rfl rfl rfl rfl rfl rfl rfl ?_; clear hS a; intro a hS
            refine q_seq hS rfl rfl rfl (y_pick_f hS rfl rfl) ?_; clear hS a; intro a hS
            refine q_seq hS rfl rfl rfl (y_move hS rfl) ?_; clear hS a; intro a hS
            refine g_no hS rfl rfl rfl rfl rfl rfl rfl ?_; clear hS a; intro a hS
            refine q_seq hS rfl rfl rfl (y_pick_f hS rfl rfl) ?_; clear hS a; intro a hS
            refine q_seq hS rfl rfl rfl (y_assign hS rfl) ?_; clear hS a; intro a hS
            apply wpList_nil
            refine p_norm ?_
            apply wp_ret
            refine p_thenR ?_
            obtain rfl := Option.some.inj hg
            refine fin1 (fn := Try.f8) hS rfl (r_tmp hS rfl) ?_
            exact rfl
        · have hs46e : decide ((r39.1 : List UInt8) = t_') = false := decide_eq_false hs46
          replace hg := br_f hg hs46
          apply wp_region_lit
          refine q_seq hS rfl rfl rfl (yl_b (y_move hS rfl) hs45) ?_; clear hS a; intro a hS
          refine q_seq hS rfl rfl rfl (y_move hS rfl) ?_; clear hS a; intro a hS
          refine g_yes hS rfl rfl rfl rfl (l_quiet hS rfl rfl (y_move hS rfl) ?_); clear hS a; intro a hS
          refine g_yes hS rfl rfl rfl rfl (l_quiet hS rfl rfl (y_move hS rfl) ?_); clear hS a; intro a hS
          refine g_yes hS rfl rfl rfl rfl (l_quiet hS rfl rfl (yl_b (y_seq hS rfl rfl) hs46e) ?_); clear hS a; intro a hS
          refine q_seq hS rfl rfl rfl (y_pick_t hS rfl rfl) ?_; clear hS a; intro a hS
          refine q_seq hS rfl rfl rfl (y_move hS rfl) ?_; clear hS a; intro a hS
          refine g_no hS rfl rfl rfl rfl rfl rfl rfl ?_; clear hS a; intro a hS
          refine g_no hS rfl rfl rfl rfl rfl rfl rfl ?_; clear hS a; intro a hS
          refine g_no hS rfl rfl rfl rfl rfl rfl rfl ?_; clear hS a; intro a hS
          refine q_seq hS rfl rfl rfl (y_pick_f hS rfl rfl) ?_; clear hS a; intro a hS
          refine q_seq hS rfl rfl rfl (y_move hS rfl) ?_; clear hS a; intro a hS
          refine g_no hS rfl rfl rfl rfl rfl rfl rfl ?_; clear hS a; intro a hS
          refine g_no hS rfl rfl rfl rfl rfl rfl rfl ?_; clear hS a; intro a hS
          refine g_no hS rfl rfl rfl rfl rfl rfl rfl ?_; clear hS a; intro a hS
          refine g_no hS rfl rfl rfl rfl rfl rfl rfl ?_; clear hS a; intro a hS
          refine g_no hS rfl rfl rfl rfl rfl rfl rfl ?_; clear hS a; intro a hS
          refine q_seq hS rfl rfl rfl (y_pick_f hS rfl rfl) ?_; clear hS a; intro a hS
          refine q_seq hS rfl rfl rfl (y_move hS rfl) ?_; clear hS a; intro a hS
          refine g_no hS rfl rfl rfl rfl rfl rfl rfl ?_; clear hS a; intro a hS
          refine q_seq hS rfl rfl rfl (y_pick_f hS rfl rfl) ?_; clear hS a; intro a hS
          refine q_seq hS rfl rfl rfl (y_assign hS rfl) ?_; clear hS a; intro a hS
          apply wpList_nil
          refine p_norm ?_
          apply wp_ret
          refine p_thenR ?_
          obtain rfl := Option.some.inj hg
          refine fin1 (fn := Try.f8) hS rfl (r_tmp hS rfl) ?_
          exact rfl
      · replace hg := br_f hg (by rw [hs45]; exact Bool.false_ne_true)
        apply wp_region_lit
        refine q_seq hS rfl rfl rfl (yl_b (y_move hS rfl) hs45) ?_; clear hS a; intro a hS
        refine q_seq hS rfl rfl rfl (y_move hS rfl) ?_; clear hS a; intro a hS
        refine g_no hS rfl rfl rfl rfl rfl rfl rfl ?_; clear hS a; intro a hS
        refine g_no hS rfl rfl rfl rfl rfl rfl rfl ?_; clear hS a; intro a hS
        refine g_no hS rfl rfl rfl rfl rfl rfl rfl ?_; clear hS a; intro a hS
        refine q_seq hS rfl rfl rfl (y_pick_f hS rfl rfl) ?_; clear hS a; intro a hS
        refine q_seq hS rfl rfl rfl (y_move hS rfl) ?_; clear hS a; intro a hS
        refine g_no hS rfl rfl rfl rfl rfl rfl rfl ?_; clear hS a; intro a hS
        refine g_no hS rfl rfl rfl rfl rfl rfl rfl ?_; clear hS a; intro a hS
        refine g_no hS rfl rfl rfl rfl rfl rfl rfl ?_; clear hS a; intro a hS
        refine q_seq hS rfl rfl rfl (y_pick_f hS rfl rfl) ?_; clear hS a; intro a hS
        refine q_seq hS rfl rfl rfl (y_move hS rfl) ?_; clear hS a; intro a hS
        refine g_no hS rfl rfl rfl rfl rfl rfl rfl ?_; clear hS a; intro a hS
        refine g_no hS rfl rfl rfl rfl rfl rfl rfl ?_; clear hS a; intro a hS
        refine g_no hS rfl rfl rfl rfl rfl rfl rfl ?_; clear hS a; intro a hS
        refine g_no hS rfl rfl rfl rfl rfl rfl rfl ?_; clear hS a; intro a hS
        refine g_no hS rfl rfl rfl rfl rfl rfl rfl ?_; clear hS a; intro a hS
        refine q_seq hS rfl rfl rfl (y_pick_f hS rfl rfl) ?_; clear hS a; intro a hS
        refine q_seq hS rfl rfl rfl (y_move hS rfl) ?_; clear hS a; intro a hS
        refine g_no hS rfl rfl rfl rfl rfl rfl rfl ?_; clear hS a; intro a hS
        refine q_seq hS rfl rfl rfl (y_pick_f hS rfl rfl) ?_; clear hS a; intro a hS
        refine q_seq hS rfl rfl rfl (y_assign hS rfl) ?_; clear hS a; intro a hS
        apply wpList_nil
        refine p_norm ?_
        apply wp_ret
        refine p_thenR ?_
        obtain rfl := Option.some.inj hg
        refine fin1 (fn := Try.f8) hS rfl (r_tmp hS rfl) ?_
        exact rfl
    · replace hg := br_f hg hc44
      apply wp_skip
      refine p_norm ?_
      apply wp_seq
      apply wp_seq
      replace hg := jn_some hg; obtain ⟨k61, hg, hk61⟩ := hg
      refine c_post (fun a w => ∃ (t_62 : Bool), k61 t_62 = some r ∧ St (⟨Try.f8.ntmps, M, noB, w0⟩ : Ctx) [(1, .string (bs (t_'))), (2, .pointer (some ⟨b2, 0, none⟩)), (6, .string (bs (r39.1))), (7, .bool (r39.2)), (71, .bool (t_62))] [(1000, Ob.box b2 [.int .i64 (t_.Kind), .slice (Ap02) ((t_.Pairs).length) (cp02)] 24)] [(101, slF RChange (Ap02) ((t_.Pairs).length) (cp02) (t_.Pairs))] a w) ?_ ?_
      · rcases Decidable.em (((t_.Pairs).length) < ((r34).length)) with hs63 | hs63
        · have hs63e : decide (((t_.Pairs).length) < ((r34).length)) = true := decide_eq_true hs63
          replace hg := br_t hg hs63
          have hmx64 := SlR.mx (hS.fact (k := 103) rfl)
          apply wp_region_lit
          refine q_seq hS rfl rfl rfl (y_move hS rfl) ?_; clear hS a; intro a hS
          refine q_seq hS rfl rfl rfl (y_lenSlice hS rfl Try.underlying34) ?_; clear hS a; intro a hS
          refine q_seq hS rfl rfl rfl (y_boxField (o' := 1) hS rfl Try.underlying24 rfl rfl rfl) ?_; clear hS a; intro a hS
          refine q_seq hS rfl rfl rfl (y_loadBox1 (kk := 1000) hS rfl rfl rfl Try.underlying22 rfl) ?_; clear hS a; intro a hS
          refine q_seq hS rfl rfl rfl (y_lenSlice hS rfl Try.underlying22) ?_; clear hS a; intro a hS
          refine q_seq hS rfl rfl rfl (yl_b (y_gtrN (i := ((r34).length)) (j := ((t_.Pairs).length)) hS rfl rfl) hs63e) ?_; clear hS a; intro a hS
          refine q_seq hS rfl rfl rfl (y_move hS rfl) ?_; clear hS a; intro a hS
          refine g_no hS rfl rfl rfl rfl rfl rfl rfl ?_; clear hS a; intro a hS
          refine g_no hS rfl rfl rfl rfl rfl rfl rfl ?_; clear hS a; intro a hS
          refine g_no hS rfl rfl rfl rfl rfl rfl rfl ?_; clear hS a; intro a hS
          refine g_no hS rfl rfl rfl rfl rfl rfl rfl ?_; clear hS a; intro a hS
          refine g_no hS rfl rfl rfl rfl rfl rfl rfl ?_; clear hS a; intro a hS
          refine g_no hS rfl rfl rfl rfl rfl rfl rfl ?_; clear hS a; intro a hS
          refine q_seq hS rfl rfl rfl (y_pick_t hS rfl rfl) ?_; clear hS a; intro a hS
          apply wpList_nil
          refine p_norm ?_
          exact ⟨(true), hg, (hS.sub ⟨rfl, rfl, rfl, rfl, rfl, trivial⟩ ⟨rfl, trivial⟩ ⟨rfl, trivial⟩)⟩
        · have hs63e : decide (((t_.Pairs).length) < ((r34).length)) = false := decide_eq_false hs63
          replace hg := br_f hg hs63
          rcases Bool.eq_false_or_eq_true (r39.2) with hs65 | hs65
          · replace hg := br_t hg hs65
            replace hg := bind_some hg; obtain ⟨r66, hr66, hg⟩ := hg
            apply wp_region_lit
            refine q_seq hS rfl rfl rfl (y_move hS rfl) ?_; clear hS a; intro a hS
            refine q_seq hS rfl rfl rfl (y_lenSlice hS rfl Try.underlying34) ?_; clear hS a; intro a hS
            refine q_seq hS rfl rfl rfl (y_boxField (o' := 1) hS rfl Try.underlying24 rfl rfl rfl) ?_; clear hS a; intro a hS
            refine q_seq hS rfl rfl rfl (y_loadBox1 (kk := 1000) hS rfl rfl rfl Try.underlying22 rfl) ?_; clear hS a; intro a hS
            refine q_seq hS rfl rfl rfl (y_lenSlice hS rfl Try.underlying22) ?_; clear hS a; intro a hS
            refine q_seq hS rfl rfl rfl (yl_b (y_gtrN (i := ((r34).length)) (j := ((t_.Pairs).length)) hS rfl rfl) hs63e) ?_; clear hS a; intro a hS
            refine q_seq hS rfl rfl rfl (y_move hS rfl) ?_; clear hS a; intro a hS
            refine g_yes hS rfl rfl rfl rfl (l_quiet hS rfl rfl (yl_b (y_move hS rfl) hs65) ?_); clear hS a; intro a hS
            refine g_yes hS rfl rfl rfl rfl (l_quiet hS rfl rfl (y_move hS rfl) ?_); clear hS a; intro a hS
            refine g_yes hS rfl rfl rfl rfl (l_quiet hS rfl rfl (y_move hS rfl) ?_); clear hS a; intro a hS
            refine g_yes hS rfl rfl rfl rfl (l_call (cap := []) hS rfl Try.func13 rfl (by kernel_rfl) rfl rfl (c_r01_Word n _ _ hS.lt r39.1 (by first | omega | (rw [List.length_append]; omega) | (simp only [List.length_append]; omega) | (simp only [List.length_append, List.length_take, List.length_drop, List.length_cons, List.length_nil]; omega)) r66 hr66) ?_); clear hS a; intro v69 a w hK hp hS
            clear hK
            obtain rfl := hp
            refine g_yes hS rfl rfl rfl rfl (l_quiet hS rfl rfl (y_not hS rfl) ?_); clear hS a; intro a hS
            refine g_yes hS rfl rfl rfl rfl (l_quiet hS rfl rfl (y_pick_t hS rfl rfl) ?_); clear hS a; intro a hS
            refine q_seq hS rfl rfl rfl (y_pick_f hS rfl rfl) ?_; clear hS a; intro a hS
            apply wpList_nil
            refine p_norm ?_
            exact ⟨(!(r66)), hg, (hS.sub ⟨rfl, rfl, rfl, rfl, rfl, trivial⟩ ⟨rfl, trivial⟩ ⟨rfl, trivial⟩)⟩
          · replace hg := br_f hg (by rw [hs65]; exact Bool.false_ne_true)
            apply wp_region_lit
            refine q_seq hS rfl rfl rfl (y_move hS rfl) ?_; clear hS a; intro a hS
            refine q_seq hS rfl rfl rfl (y_lenSlice hS rfl Try.underlying34) ?_; clear hS a; intro a hS
            refine q_seq hS rfl rfl rfl (y_boxField (o' := 1) hS rfl Try.underlying24 rfl rfl rfl) ?_; clear hS a; intro a hS
            refine q_seq hS rfl rfl rfl (y_loadBox1 (kk := 1000) hS rfl rfl rfl Try.underlying22 rfl) ?_; clear hS a; intro a hS
            refine q_seq hS rfl rfl rfl (y_lenSlice hS rfl Try.underlying22) ?_; clear hS a; intro a hS
            refine q_seq hS rfl rfl rfl (yl_b (y_gtrN (i := ((r34).length)) (j := ((t_.Pairs).length)) hS rfl rfl) hs63e) ?_; clear hS a; intro a hS
            refine q_seq hS rfl rfl rfl (y_move hS rfl) ?_; clear hS a; intro a hS
            refine g_yes hS rfl rfl rfl rfl (l_quiet hS rfl rfl (yl_b (y_move hS rfl) hs65) ?_); clear hS a; intro a hS
            refine g_yes hS rfl rfl rfl rfl (l_quiet hS rfl rfl (y_move hS rfl) ?_); clear hS a; intro a hS
            refine g_no hS rfl rfl rfl rfl rfl rfl rfl ?_; clear hS a; intro a hS
            refine g_no hS rfl rfl rfl rfl rfl rfl rfl ?_; clear hS a; intro a hS
            refine g_no hS rfl rfl rfl rfl rfl rfl rfl ?_; clear hS a; intro a hS
            refine g_yes hS rfl rfl rfl rfl (l_quiet hS rfl rfl (y_pick_f hS rfl rfl) ?_); clear hS a; intro a hS
            refine q_seq hS rfl rfl rfl (y_pick_f hS rfl rfl) ?_; clear hS a; intro a hS
            apply wpList_nil
            refine p_norm ?_
            exact ⟨(false), hg, (hS.sub ⟨rfl, rfl, rfl, rfl, rfl, trivial⟩ ⟨rfl, trivial⟩ ⟨rfl, trivial⟩)⟩
      clear hS a; rintro a w ⟨t_62, hg, hS⟩
      subst hk61
      refine c_cond hS rfl (fun hc71 => ?_) (fun hc71 => ?_)
      · replace hg := br_t hg hc71
        apply wp_seq
        apply wp_region_lit
        refine q_seq hS rfl rfl rfl (y_assign hS rfl) ?_; clear hS a; intro a hS
        apply wpList_nil
        refine p_norm ?_
        apply wp_ret
        refine p_thenR ?_
        obtain rfl := Option.some.inj hg
        refine fin1 (fn := Try.f8) hS rfl (r_tmp hS rfl) ?_
        exact rfl
      · replace hg := br_f hg (by rw [hc71]; exact Bool.false_ne_true)
        apply wp_skip
        refine p_norm ?_
        apply wp_seq
        apply wp_region_lit
        refine q_seq hS rfl rfl rfl (y_move hS rfl) ?_; clear hS a; intro a hS
        refine q_seq hS rfl rfl rfl (y_not hS rfl) ?_; clear hS a; intro a hS
        refine q_seq hS rfl rfl rfl (y_assign hS rfl) ?_; clear hS a; intro a hS
        apply wpList_nil
        refine p_norm ?_
        apply wp_seq
        apply wp_seq
        apply wp_region_lit
        refine q_seq hS rfl rfl rfl (y_move hS rfl) ?_; clear hS a; intro a hS
        apply wpList_nil
        refine p_norm ?_
        replace hg := jn_some hg; obtain ⟨k72, hg, hk72⟩ := hg
        refine c_post (fun a w => ∃ (t_73 : Bool), k72 t_73 = some r ∧ St (⟨Try.f8.ntmps, M, noB, w0⟩ : Ctx) [(8, .bool (t_73))] [] [] a w) ?_ ?_
        · refine c_cond hS rfl (fun hc74 => ?_) (fun hc74 => ?_)
          · replace hg := br_t hg hc74
            apply wp_seq
            replace hg := bind_some hg; obtain ⟨r75, hr75, hg⟩ := hg
            apply wp_region_lit
            refine q_seq hS rfl rfl rfl (y_loadBox (kk := 1000) (n := 2) (vs := [.int .i64 (t_.Kind), .slice (Ap02) ((t_.Pairs).length) (cp02)]) hS rfl rfl Try.underlying24 rfl rfl rfl rfl) ?_; clear hS a; intro a hS
            refine q_seq hS rfl rfl rfl (y_move hS rfl) ?_; clear hS a; intro a hS
            refine l_seq rfl (l_call (cap := []) hS rfl Try.func17 rfl (by kernel_rfl) rfl rfl (c_affix_Undo n _ _ hS.lt t_ (Ap02) (cp02) (hS.fact (k := 101) rfl) r39.1 (by first | omega | (rw [List.length_append]; omega) | (simp only [List.length_append]; omega) | (simp only [List.length_append, List.length_take, List.length_drop, List.length_cons, List.length_nil]; omega)) r75 hr75) ?_); clear hS a; intro v78 a w hK hp hS
            clear hK
            obtain ⟨Au79a1, cu79a1, rfl, hu79a1⟩ := hp
            replace hS := hS.add 105 (slF Rep.str (Au79a1) ((r75).length) (cu79a1) (r75)) hu79a1
            refine q_seq hS rfl rfl rfl (y_assign hS rfl) ?_; clear hS a; intro a hS
            apply wpList_nil
            refine p_norm ?_
            apply wp_seq
            apply wp_region_lit
            refine q_seq hS rfl rfl rfl (y_assign hS rfl) ?_; clear hS a; intro a hS
            apply wpList_nil
            refine p_norm ?_
            replace hg := jn_some hg; obtain ⟨k80, hg, hk80⟩ := hg
            refine c_post (fun a w => ∃ (t_81 : Bool), k80 t_81 = some r ∧ St (⟨Try.f8.ntmps, M, noB, w0⟩ : Ctx) [(8, .bool (t_81))] [] [] a w) ?_ ?_
            · apply wp_block
              refine c_loop (σ := Nat) (fun m1 a w => ∃ (t_82 : Bool), ∃ (t_83 : Nat), law23_AffixForms_L0 n t_' r75 k80 m1 t_82 t_83 = some r ∧ St (⟨Try.f8.ntmps, M, noB, w0⟩ : Ctx) [(1, .string (bs (t_'))), (8, .bool (t_82)), (9, .slice (Au79a1) ((r75).length) (cu79a1)), (10, .int .i64 (((t_83 : Nat) : Int)))] [] [(105, slF Rep.str (Au79a1) ((r75).length) (cu79a1) (r75))] a w) (fun m1 => m1) n ⟨(!(r39.2)), (0), hg, (hS.sub ⟨rfl, rfl, rfl, rfl, trivial⟩ trivial ⟨rfl, trivial⟩)⟩ ?_
              clear hS a; rintro m1 a w ⟨t_82, t_83, hg, hS⟩
              rcases m1 with _ | m1
              · rw [law23_AffixForms_L0] at hg; cases hg
              rw [law23_AffixForms_L0] at hg
              apply wp_seq
              apply wp_seq
              apply wp_region_lit
              refine q_seq hS rfl rfl rfl (y_move hS rfl) ?_; clear hS a; intro a hS
              refine q_seq hS rfl rfl rfl (y_move hS rfl) ?_; clear hS a; intro a hS
              refine q_seq hS rfl rfl rfl (y_lenSlice hS rfl Try.underlying34) ?_; clear hS a; intro a hS
              refine q_seq hS rfl rfl rfl (y_lssN (i := t_83) (j := ((r75).length)) hS rfl rfl) ?_; clear hS a; intro a hS
              apply wpList_nil
              refine p_norm ?_
              refine c_dec hS rfl (fun hc84 => ?_) (fun hc84 => ?_)
              · replace hg := br_t hg hc84
                have hmx85 := SlR.mx (hS.fact (k := 105) rfl)
                apply wp_skip
                refine p_norm ?_
                apply wp_seq
                apply wp_block
                rcases Bool.eq_false_or_eq_true (t_82) with hs86 | hs86
                · replace hg := br_t hg hs86
                  apply wp_region_lit
                  refine q_seq hS rfl rfl rfl (yl_b (y_move hS rfl) hs86) ?_; clear hS a; intro a hS
                  refine q_seq hS rfl rfl rfl (y_move hS rfl) ?_; clear hS a; intro a hS
                  refine g_no hS rfl rfl rfl rfl rfl rfl rfl ?_; clear hS a; intro a hS
                  refine g_no hS rfl rfl rfl rfl rfl rfl rfl ?_; clear hS a; intro a hS
                  refine g_no hS rfl rfl rfl rfl rfl rfl rfl ?_; clear hS a; intro a hS
                  refine g_no hS rfl rfl rfl rfl rfl rfl rfl ?_; clear hS a; intro a hS
                  refine g_no hS rfl rfl rfl rfl rfl rfl rfl ?_; clear hS a; intro a hS
                  refine g_no hS rfl rfl rfl rfl rfl rfl rfl ?_; clear hS a; intro a hS
                  refine q_seq hS rfl rfl rfl (y_pick_t hS rfl rfl) ?_; clear hS a; intro a hS
                  refine q_seq hS rfl rfl rfl (y_assign hS rfl) ?_; clear hS a; intro a hS
                  apply wpList_nil
                  refine p_inN ?_
                  refine p_norm ?_
                  apply wp_region_lit
                  refine q_seq hS rfl rfl rfl (y_move hS rfl) ?_; clear hS a; intro a hS
                  refine q_seq hS rfl rfl rfl (y_addN (i := t_83) (j := 1) hS rfl rfl (in64.2 (by omega))) ?_; clear hS a; intro a hS
                  refine q_seq hS rfl rfl rfl (y_assign hS rfl) ?_; clear hS a; intro a hS
                  apply wpList_nil
                  refine p_norm ?_
                  exact ⟨m1, Nat.lt_succ_self _, ⟨(true), (t_83 + 1), hg, (hS.sub ⟨rfl, rfl, rfl, rfl, trivial⟩ trivial ⟨rfl, trivial⟩)⟩⟩
                · replace hg := br_f hg (by rw [hs86]; exact Bool.false_ne_true)
                  replace hg := bind_some hg; obtain ⟨x88, hx88, hg⟩ := hg
                  apply wp_region_lit
                  refine q_seq hS rfl rfl rfl (yl_b (y_move hS rfl) hs86) ?_; clear hS a; intro a hS
                  refine q_seq hS rfl rfl rfl (y_move hS rfl) ?_; clear hS a; intro a hS
                  refine g_yes hS rfl rfl rfl rfl (l_quiet hS rfl rfl (y_move hS rfl) ?_); clear hS a; intro a hS
                  refine g_yes hS rfl rfl rfl rfl (l_quiet hS rfl rfl (y_move hS rfl) ?_); clear hS a; intro a hS
                  obtain ⟨p90, hep90, hpp90⟩ := SlR.elemX (hS.fact (k := 105) rfl) hx88
                  refine g_yes hS rfl rfl rfl rfl (l_quiet hS rfl rfl (y_elem (sz := 1) (i := t_83) hS rfl rfl Try.underlying34 rfl hep90 rfl (lt_of_get hx88)) ?_); clear hS a; intro a hS
                  obtain ⟨hlq91, hmq91, csq91, hdq91, hcq91⟩ := hpp90
                  obtain ⟨rfl, lq911⟩ := hdq91
                  refine g_yes hS rfl rfl rfl rfl (l_quiet hS rfl rfl (y_ldp1 hS rfl hlq91 hmq91 (hcq91 0 _ rfl) Try.underlying9 rfl) ?_); clear hS a; intro a hS
                  refine g_yes hS rfl rfl rfl rfl (l_quiet hS rfl rfl (y_move hS rfl) ?_); clear hS a; intro a hS
                  refine g_yes hS rfl rfl rfl rfl (l_quiet hS rfl rfl (y_seq hS rfl rfl) ?_); clear hS a; intro a hS
                  refine q_seq hS rfl rfl rfl (y_pick_f hS rfl rfl) ?_; clear hS a; intro a hS
                  refine q_seq hS rfl rfl rfl (y_assign hS rfl) ?_; clear hS a; intro a hS
                  apply wpList_nil
                  refine p_inN ?_
                  refine p_norm ?_
                  apply wp_region_lit
                  refine q_seq hS rfl rfl rfl (y_move hS rfl) ?_; clear hS a; intro a hS
                  refine q_seq hS rfl rfl rfl (y_addN (i := t_83) (j := 1) hS rfl rfl (in64.2 (by omega))) ?_; clear hS a; intro a hS
                  refine q_seq hS rfl rfl rfl (y_assign hS rfl) ?_; clear hS a; intro a hS
                  apply wpList_nil
                  refine p_norm ?_
                  exact ⟨m1, Nat.lt_succ_self _, ⟨(decide ((x88 : List UInt8) = t_')), (t_83 + 1), hg, (hS.sub ⟨rfl, rfl, rfl, rfl, trivial⟩ trivial ⟨rfl, trivial⟩)⟩⟩
              · replace hg := br_f hg hc84
                apply wp_exit
                refine p_then ?_
                refine p_then ?_
                refine p_in ?_
                refine p_norm ?_
                exact ⟨(t_82), hg, (hS.sub ⟨rfl, trivial⟩ trivial trivial)⟩
            clear hS a; rintro a w ⟨t_81, hg, hS⟩
            subst hk80
            exact ⟨(t_81), hg, (hS.sub ⟨rfl, trivial⟩ trivial trivial)⟩
          · replace hg := br_f hg (by rw [hc74]; exact Bool.false_ne_true)
            apply wp_skip
            refine p_norm ?_
            exact ⟨(!(r39.2)), hg, (hS.sub ⟨rfl, trivial⟩ trivial trivial)⟩
        clear hS a; rintro a w ⟨t_73, hg, hS⟩
        subst hk72
        apply wp_seq
        rcases Bool.eq_false_or_eq_true (t_73) with hs92 | hs92
        · replace hg := br_t hg hs92
          replace hg := bind_some hg; obtain ⟨r93, hr93, hg⟩ := hg
          apply wp_region_lit
          refine q_seq hS rfl rfl rfl (yl_b (y_move hS rfl) hs92) ?_; clear hS a; intro a hS
          refine q_seq hS rfl rfl rfl (y_move hS rfl) ?_; clear hS a; intro a hS
          refine g_yes hS rfl rfl rfl rfl (l_call (cap := []) hS rfl Try.func10 rfl (by kernel_rfl) rfl rfl (c_law23_exampleHolds n _ _ hS.lt  r93 hr93) ?_); clear hS a; intro v96 a w hK hp hS
          clear hK
          obtain rfl := hp
          refine q_seq hS rfl rfl rfl (y_pick_t hS rfl rfl) ?_; clear hS a; intro a hS
          refine q_seq hS rfl rfl rfl (y_assign hS rfl) ?_; clear hS a; intro a hS
          apply wpList_nil
          refine p_norm ?_
          apply wp_ret
          obtain rfl := Option.some.inj hg
          refine fin1 (fn := Try.f8) hS rfl (r_tmp hS rfl) ?_
          exact rfl
        · replace hg := br_f hg (by rw [hs92]; exact Bool.false_ne_true)
          apply wp_region_lit
          refine q_seq hS rfl rfl rfl (yl_b (y_move hS rfl) hs92) ?_; clear hS a; intro a hS
          refine q_seq hS rfl rfl rfl (y_move hS rfl) ?_; clear hS a; intro a hS
          refine g_no hS rfl rfl rfl rfl rfl rfl rfl ?_; clear hS a; intro a hS
          refine q_seq hS rfl rfl rfl (y_pick_f hS rfl rfl) ?_; clear hS a; intro a hS
          refine q_seq hS rfl rfl rfl (y_assign hS rfl) ?_; clear hS a; intro a hS
          apply wpList_nil
          refine p_norm ?_
          apply wp_ret
          obtain rfl := Option.some.inj hg
          refine fin1 (fn := Try.f8) hS rfl (r_tmp hS rfl) ?_
          exact rfl
set_option maxHeartbeats 400000 in
theorem c_cmp_isNaN_string (n : Nat) (M : Bs) (w0 : World) (hM : ∀ b, M b → b < w0.heap.size) (x_ : (List UInt8)) (lp01 : (x_).length ≤ 9223372036854775807) (r : Bool) (hg : cmp_isNaN_string n x_ = some r) :
    Calls Try.prog 65 [.string (bs (x_))].toArray w0 (Ret noB w0 fun v w => v = .bool (r)) := by
  unfold cmp_isNaN_string at hg
  refine enter M noB Try.func65 rfl rfl hM ?_
  intro a hS
  apply wp_seq
  apply wp_region_lit
  refine q_seq hS rfl rfl rfl (y_assign hS rfl) ?_; clear hS a; intro a hS
  apply wpList_nil
  refine p_norm ?_
  apply wp_seq
  apply wp_region_lit
  refine q_seq hS rfl rfl rfl (y_move hS rfl) ?_; clear hS a; intro a hS
  refine q_seq hS rfl rfl rfl (y_move hS rfl) ?_; clear hS a; intro a hS
  refine q_seq hS rfl rfl rfl (y_sne hS rfl rfl) ?_; clear hS a; intro a hS
  refine q_seq hS rfl rfl rfl (y_assign hS rfl) ?_; clear hS a; intro a hS
  apply wpList_nil
  refine p_norm ?_
  apply wp_ret
  obtain rfl := Option.some.inj hg
  refine fin1 (fn := Try.f65) hS rfl (r_tmp hS rfl) ?_
  exact rfl
set_option maxHeartbeats 400000 in
theorem c_cmp_Less_string (n : Nat) (M : Bs) (w0 : World) (hM : ∀ b, M b → b < w0.heap.size) (x_ : (List UInt8)) (lp01 : (x_).length ≤ 9223372036854775807) (y_ : (List UInt8)) (lp11 : (y_).length ≤ 9223372036854775807) (r : Bool) (hg : cmp_Less_string n x_ y_ = some r) :
    Calls Try.prog 55 [.string (bs (x_)), .string (bs (y_))].toArray w0 (Ret noB w0 fun v w => v = .bool (r)) := by
  unfold cmp_Less_string at hg
  refine enter M noB Try.func55 rfl rfl hM ?_
  intro a hS
  apply wp_seq
  apply wp_region_lit
  refine q_seq hS rfl rfl rfl (y_assign hS rfl) ?_; clear hS a; intro a hS
  apply wpList_nil
  refine p_norm ?_
  apply wp_seq
  replace hg := bind_some hg; obtain ⟨r1, hr1, hg⟩ := hg
  rcases Bool.eq_false_or_eq_true (r1) with hs4 | hs4
  · replace hg := br_t hg hs4
    replace hg := bind_some hg; obtain ⟨r5, hr5, hg⟩ := hg
    rcases Bool.eq_false_or_eq_true (!(r5)) with hs8 | hs8
    · replace hg := br_t hg hs8
      apply wp_region_lit
      refine q_seq hS rfl rfl rfl (y_move hS rfl) ?_; clear hS a; intro a hS
      refine l_seq rfl (l_call (cap := []) hS rfl Try.func65 rfl (by kernel_rfl) rfl rfl (c_cmp_isNaN_string n _ _ hS.lt x_ (by first | omega | (rw [List.length_append]; omega) | (simp only [List.length_append]; omega) | (simp only [List.length_append, List.length_take, List.length_drop, List.length_cons, List.length_nil]; omega)) r1 hr1) ?_); clear hS a; intro v9 a w hK hp hS
      clear hK
      obtain rfl := hp.trans (congrArg Value.bool hs4)
      refine q_seq hS rfl rfl rfl (y_move hS rfl) ?_; clear hS a; intro a hS
      refine g_yes hS rfl rfl rfl rfl (l_quiet hS rfl rfl (y_move hS rfl) ?_); clear hS a; intro a hS
      refine g_yes hS rfl rfl rfl rfl (l_call (cap := []) hS rfl Try.func65 rfl (by kernel_rfl) rfl rfl (c_cmp_isNaN_string n _ _ hS.lt y_ (by first | omega | (rw [List.length_append]; omega) | (simp only [List.length_append]; omega) | (simp only [List.length_append, List.length_take, List.length_drop, List.length_cons, List.length_nil]; omega)) r5 hr5) ?_); clear hS a; intro v11 a w hK hp hS
      clear hK
      obtain rfl := hp
      refine g_yes hS rfl rfl rfl rfl (l_quiet hS rfl rfl (yl_b (y_not hS rfl) hs8) ?_); clear hS a; intro a hS
      refine q_seq hS rfl rfl rfl (y_pick_t hS rfl rfl) ?_; clear hS a; intro a hS
      refine q_seq hS rfl rfl rfl (y_move hS rfl) ?_; clear hS a; intro a hS
      refine g_no hS rfl rfl rfl rfl rfl rfl rfl ?_; clear hS a; intro a hS
      refine g_no hS rfl rfl rfl rfl rfl rfl rfl ?_; clear hS a; intro a hS
      refine g_no hS rfl rfl rfl rfl rfl rfl rfl ?_; clear hS a; intro a hS
      refine q_seq hS rfl rfl rfl (y_pick_t hS rfl rfl) ?_; clear hS a; intro a hS
      refine q_seq hS rfl rfl rfl (y_assign hS rfl) ?_; clear hS a; intro a hS
      apply wpList_nil
      refine p_norm ?_
      apply wp_ret
      obtain rfl := Option.some.inj hg
      refine fin1 (fn := Try.f55) hS rfl (r_tmp hS rfl) ?_
      exact rfl
    · replace hg := br_f hg (by rw [hs8]; exact Bool.false_ne_true)
      apply wp_region_lit
      refine q_seq hS rfl rfl rfl (y_move hS rfl) ?_; clear hS a; intro a hS
      refine l_seq rfl (l_call (cap := []) hS rfl Try.func65 rfl (by kernel_rfl) rfl rfl (c_cmp_isNaN_string n _ _ hS.lt x_ (by first | omega | (rw [List.length_append]; omega) | (simp only [List.length_append]; omega) | (simp only [List.length_append, List.length_take, List.length_drop, List.length_cons, List.length_nil]; omega)) r1 hr1) ?_); clear hS a; intro v13 a w hK hp hS
      clear hK
      obtain rfl := hp.trans (congrArg Value.bool hs4)
      refine q_seq hS rfl rfl rfl (y_move hS rfl) ?_; clear hS a; intro a hS
      refine g_yes hS rfl rfl rfl rfl (l_quiet hS rfl rfl (y_move hS rfl) ?_); clear hS a; intro a hS
      refine g_yes hS rfl rfl rfl rfl (l_call (cap := []) hS rfl Try.func65 rfl (by kernel_rfl) rfl rfl (c_cmp_isNaN_string n _ _ hS.lt y_ (by first | omega | (rw [List.length_append]; omega) | (simp only [List.length_append]; omega) | (simp only [List.length_append, List.length_take, List.length_drop, List.length_cons, List.length_nil]; omega)) r5 hr5) ?_); clear hS a; intro v15 a w hK hp hS
      clear hK
      obtain rfl := hp
      refine g_yes hS rfl rfl rfl rfl (l_quiet hS rfl rfl (yl_b (y_not hS rfl) hs8) ?_); clear hS a; intro a hS
      refine q_seq hS rfl rfl rfl (y_pick_t hS rfl rfl) ?_; clear hS a; intro a hS
      refine q_seq hS rfl rfl rfl (y_move hS rfl) ?_; clear hS a; intro a hS
      refine g_yes hS rfl rfl rfl rfl (l_quiet hS rfl rfl (y_move hS rfl) ?_); clear hS a; intro a hS
      refine g_yes hS rfl rfl rfl rfl (l_quiet hS rfl rfl (y_move hS rfl) ?_); clear hS a; intro a hS
      refine g_yes hS rfl rfl rfl rfl (l_quiet hS rfl rfl (y_slss hS rfl rfl) ?_); clear hS a; intro a hS
      refine q_seq hS rfl rfl rfl (y_pick_f hS rfl rfl) ?_; clear hS a; intro a hS
      refine q_seq hS rfl rfl rfl (y_assign hS rfl) ?_; clear hS a; intro a hS
      apply wpList_nil
      refine p_norm ?_
      apply wp_ret
      obtain rfl := Option.some.inj hg
      refine fin1 (fn := Try.f55) hS rfl (r_tmp hS rfl) ?_
      exact rfl
  · replace hg := br_f hg (by rw [hs4]; exact Bool.false_ne_true)
    apply wp_region_lit
    refine q_seq hS rfl rfl rfl (y_move hS rfl) ?_; clear hS a; intro a hS
    refine l_seq rfl (l_call (cap := []) hS rfl Try.func65 rfl (by kernel_rfl) rfl rfl (c_cmp_isNaN_string n _ _ hS.lt x_ (by first | omega | (rw [List.length_append]; omega) | (simp only [List.length_append]; omega) | (simp only [List.length_append, List.length_take, List.length_drop, List.length_cons, List.length_nil]; omega)) r1 hr1) ?_); clear hS a; intro v17 a w hK hp hS
    clear hK
    obtain rfl := hp.trans (congrArg Value.bool hs4)
    refine q_seq hS rfl rfl rfl (y_move hS rfl) ?_; clear hS a; intro a hS
    refine g_no hS rfl rfl rfl rfl rfl rfl rfl ?_; clear hS a; intro a hS
    refine g_no hS rfl rfl rfl rfl rfl rfl rfl ?_; clear hS a; intro a hS
    refine g_no hS rfl rfl rfl rfl rfl rfl rfl ?_; clear hS a; intro a hS
    refine q_seq hS rfl rfl rfl (y_pick_f hS rfl rfl) ?_; clear hS a; intro a hS
    refine q_seq hS rfl rfl rfl (y_move hS rfl) ?_; clear hS a; intro a hS
    refine g_yes hS rfl rfl rfl rfl (l_quiet hS rfl rfl (y_move hS rfl) ?_); clear hS a; intro a hS
    refine g_yes hS rfl rfl rfl rfl (l_quiet hS rfl rfl (y_move hS rfl) ?_); clear hS a; intro a hS
    refine g_yes hS rfl rfl rfl rfl (l_quiet hS rfl rfl (y_slss hS rfl rfl) ?_); clear hS a; intro a hS
    refine q_seq hS rfl rfl rfl (y_pick_f hS rfl rfl) ?_; clear hS a; intro a hS
    refine q_seq hS rfl rfl rfl (y_assign hS rfl) ?_; clear hS a; intro a hS
    apply wpList_nil
    refine p_norm ?_
    apply wp_ret
    obtain rfl := Option.some.inj hg
    refine fin1 (fn := Try.f55) hS rfl (r_tmp hS rfl) ?_
    exact rfl
end Go.Proofs.Ytolgbjbfhoffpaa

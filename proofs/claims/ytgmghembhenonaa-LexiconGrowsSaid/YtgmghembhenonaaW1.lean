/- Chapter 24: the walks, part 1 -/
import Derived.Test.YtgmghembhenonaaD1
namespace Go.Proofs.Ytgmghembhenonaa
open Go.Gl Go.RowKit
set_option linter.unusedVariables false
set_option linter.unusedSimpArgs false

set_option maxHeartbeats 400000 in
theorem c_r24_LightEntries (n : Nat) (M : Bs) (w0 : World) (hM : ∀ b, M b → b < w0.heap.size) (e_ : (List Entry)) (Ap01 : Option Addr) (cp01 : Nat) (hp01 : SlR REntry M w0 Ap01 (e_).length cp01 (e_)) (r : Bool) (hg : r24_LightEntries n e_ = some r) :
    Calls Try.prog 10 [.slice (Ap01) ((e_).length) (cp01)].toArray w0 (Ret noB w0 fun v w => v = .bool (r)) := by
  unfold r24_LightEntries at hg
  refine enter M noB Try.func10 rfl rfl hM ?_
  intro a hS
  replace hS := hS.add 101 (slF REntry (Ap01) ((e_).length) (cp01) (e_)) (by exact Fact.change _ enterM hp01)
  apply wp_seq
  apply wp_region_lit
  refine q_seq hS rfl rfl rfl (y_assign hS rfl) ?_; clear hS a; intro a hS
  apply wpList_nil
  refine p_norm ?_
  apply wp_seq
  apply wp_seq
  apply wp_region_lit
  refine q_seq hS rfl rfl rfl (y_move hS rfl) ?_; clear hS a; intro a hS
  refine q_seq hS rfl rfl rfl (y_lenSlice hS rfl Try.underlying22) ?_; clear hS a; intro a hS
  refine q_seq hS rfl rfl rfl (y_gtrN (i := ((e_).length)) (j := 300) hS rfl rfl) ?_; clear hS a; intro a hS
  apply wpList_nil
  refine p_norm ?_
  refine c_dec hS rfl (fun hc1 => ?_) (fun hc1 => ?_)
  · replace hg := br_t hg hc1
    have hmx2 := SlR.mx (hS.fact (k := 101) rfl)
    apply wp_seq
    apply wp_region_lit
    refine q_seq hS rfl rfl rfl (y_assign hS rfl) ?_; clear hS a; intro a hS
    apply wpList_nil
    refine p_norm ?_
    apply wp_ret
    refine p_thenR ?_
    obtain rfl := Option.some.inj hg
    refine fin1 (fn := Try.f10) hS rfl (r_tmp hS rfl) ?_
    exact rfl
  · replace hg := br_f hg hc1
    apply wp_skip
    refine p_norm ?_
    apply wp_seq
    apply wp_seq
    apply wp_region_lit
    refine q_seq hS rfl rfl rfl (y_assign hS rfl) ?_; clear hS a; intro a hS
    apply wpList_nil
    refine p_norm ?_
    apply wp_block
    refine c_loop (σ := Nat) (fun m1 a w => ∃ (i_3 : Nat), r24_LightEntries_L0 n e_ m1 i_3 = some r ∧ St (⟨Try.f10.ntmps, M, noB, w0⟩ : Ctx) [(0, .slice (Ap01) ((e_).length) (cp01)), (3, .int .i64 (((i_3 : Nat) : Int)))] [] [(101, slF REntry (Ap01) ((e_).length) (cp01) (e_))] a w) (fun m1 => m1) n ⟨(0), hg, (hS.sub ⟨rfl, rfl, trivial⟩ trivial ⟨rfl, trivial⟩)⟩ ?_
    clear hS a; rintro m1 a w ⟨i_3, hg, hS⟩
    rcases m1 with _ | m1
    · rw [r24_LightEntries_L0] at hg; cases hg
    rw [r24_LightEntries_L0] at hg
    apply wp_seq
    apply wp_seq
    apply wp_region_lit
    refine q_seq hS rfl rfl rfl (y_move hS rfl) ?_; clear hS a; intro a hS
    refine q_seq hS rfl rfl rfl (y_move hS rfl) ?_; clear hS a; intro a hS
    refine q_seq hS rfl rfl rfl (y_lenSlice hS rfl Try.underlying22) ?_; clear hS a; intro a hS
    refine q_seq hS rfl rfl rfl (y_lssN (i := i_3) (j := ((e_).length)) hS rfl rfl) ?_; clear hS a; intro a hS
    apply wpList_nil
    refine p_norm ?_
    refine c_dec hS rfl (fun hc4 => ?_) (fun hc4 => ?_)
    · replace hg := br_t hg hc4
      have hmx5 := SlR.mx (hS.fact (k := 101) rfl)
      apply wp_skip
      refine p_norm ?_
      apply wp_seq
      replace hg := jn_some hg; obtain ⟨k6, hg, hk6⟩ := hg
      refine c_post (fun a w => k6 = some r ∧ St (⟨Try.f10.ntmps, M, noB, w0⟩ : Ctx) [(0, .slice (Ap01) ((e_).length) (cp01)), (3, .int .i64 (((i_3 : Nat) : Int)))] [] [(101, slF REntry (Ap01) ((e_).length) (cp01) (e_))] a w) ?_ ?_
      · apply wp_block
        apply wp_seq
        apply wp_seq
        replace hg := jn_some hg; obtain ⟨k7, hg, hk7⟩ := hg
        refine c_post (fun a w => ∃ (t_8 : Bool), k7 t_8 = some r ∧ St (⟨Try.f10.ntmps, M, noB, w0⟩ : Ctx) [(0, .slice (Ap01) ((e_).length) (cp01)), (3, .int .i64 (((i_3 : Nat) : Int))), (29, .bool (t_8))] [] [(101, slF REntry (Ap01) ((e_).length) (cp01) (e_))] a w) ?_ ?_
        · replace hg := bind_some hg; obtain ⟨x10, hx10, hg⟩ := hg
          rcases Decidable.em ((8 : Nat) < ((x10.Words).length)) with hs12 | hs12
          · have hs12e : decide ((8 : Nat) < ((x10.Words).length)) = true := decide_eq_true hs12
            replace hg := br_t hg hs12
            apply wp_region_lit
            refine q_seq hS rfl rfl rfl (y_move hS rfl) ?_; clear hS a; intro a hS
            refine q_seq hS rfl rfl rfl (y_move hS rfl) ?_; clear hS a; intro a hS
            obtain ⟨p13, hep13, hpp13⟩ := SlR.elemX (hS.fact (k := 101) rfl) hx10
            refine q_seq hS rfl rfl rfl (y_elem (sz := 3) (i := i_3) hS rfl rfl Try.underlying22 rfl hep13 rfl (lt_of_get hx10)) ?_; clear hS a; intro a hS
            refine q_seq hS rfl rfl rfl (y_ptrField (o' := 1) hS rfl Try.underlying47 rfl rfl rfl) ?_; clear hS a; intro a hS
            obtain ⟨hlq14, hmq14, csq14, hdq14, hcq14⟩ := hpp13
            obtain ⟨Aq142, cq142, Aq143, cq143, rfl, lq141, hq142, hq143⟩ := REntry.open hdq14
            replace hS := hS.add 104 (slF Rep.str (Aq142) ((x10.Words).length) (cq142) (x10.Words)) hq142
            replace hS := hS.add 105 (slF RNode (Aq143) ((x10.FS.Nodes).length) (cq143) (x10.FS.Nodes)) hq143
            refine q_seq hS rfl rfl rfl (y_ldp1 hS rfl hlq14 hmq14 (hcq14 1 _ rfl) Try.underlying27 rfl) ?_; clear hS a; intro a hS
            refine q_seq hS rfl rfl rfl (y_lenSlice hS rfl Try.underlying27) ?_; clear hS a; intro a hS
            refine q_seq hS rfl rfl rfl (yl_b (y_gtrN (i := ((x10.Words).length)) (j := 8) hS rfl rfl) hs12e) ?_; clear hS a; intro a hS
            refine q_seq hS rfl rfl rfl (y_move hS rfl) ?_; clear hS a; intro a hS
            refine g_no hS rfl rfl rfl rfl rfl rfl rfl ?_; clear hS a; intro a hS
            refine g_no hS rfl rfl rfl rfl rfl rfl rfl ?_; clear hS a; intro a hS
            refine g_no hS rfl rfl rfl rfl rfl rfl rfl ?_; clear hS a; intro a hS
            refine g_no hS rfl rfl rfl rfl rfl rfl rfl ?_; clear hS a; intro a hS
            refine g_no hS rfl rfl rfl rfl rfl rfl rfl ?_; clear hS a; intro a hS
            refine g_no hS rfl rfl rfl rfl rfl rfl rfl ?_; clear hS a; intro a hS
            refine g_no hS rfl rfl rfl rfl rfl rfl rfl ?_; clear hS a; intro a hS
            refine q_seq hS rfl rfl rfl (y_pick_t hS rfl rfl) ?_; clear hS a; intro a hS
            apply wpList_nil
            refine p_norm ?_
            exact ⟨(true), hg, (hS.sub ⟨rfl, rfl, rfl, trivial⟩ trivial ⟨rfl, trivial⟩)⟩
          · have hs12e : decide ((8 : Nat) < ((x10.Words).length)) = false := decide_eq_false hs12
            replace hg := br_f hg hs12
            apply wp_region_lit
            refine q_seq hS rfl rfl rfl (y_move hS rfl) ?_; clear hS a; intro a hS
            refine q_seq hS rfl rfl rfl (y_move hS rfl) ?_; clear hS a; intro a hS
            obtain ⟨p17, hep17, hpp17⟩ := SlR.elemX (hS.fact (k := 101) rfl) hx10
            refine q_seq hS rfl rfl rfl (y_elem (sz := 3) (i := i_3) hS rfl rfl Try.underlying22 rfl hep17 rfl (lt_of_get hx10)) ?_; clear hS a; intro a hS
            refine q_seq hS rfl rfl rfl (y_ptrField (o' := 1) hS rfl Try.underlying47 rfl rfl rfl) ?_; clear hS a; intro a hS
            obtain ⟨hlq18, hmq18, csq18, hdq18, hcq18⟩ := hpp17
            obtain ⟨Aq182, cq182, Aq183, cq183, rfl, lq181, hq182, hq183⟩ := REntry.open hdq18
            replace hS := hS.add 108 (slF Rep.str (Aq182) ((x10.Words).length) (cq182) (x10.Words)) hq182
            replace hS := hS.add 109 (slF RNode (Aq183) ((x10.FS.Nodes).length) (cq183) (x10.FS.Nodes)) hq183
            refine q_seq hS rfl rfl rfl (y_ldp1 hS rfl hlq18 hmq18 (hcq18 1 _ rfl) Try.underlying27 rfl) ?_; clear hS a; intro a hS
            refine q_seq hS rfl rfl rfl (y_lenSlice hS rfl Try.underlying27) ?_; clear hS a; intro a hS
            refine q_seq hS rfl rfl rfl (yl_b (y_gtrN (i := ((x10.Words).length)) (j := 8) hS rfl rfl) hs12e) ?_; clear hS a; intro a hS
            refine q_seq hS rfl rfl rfl (y_move hS rfl) ?_; clear hS a; intro a hS
            refine g_yes hS rfl rfl rfl rfl (l_quiet hS rfl rfl (y_move hS rfl) ?_); clear hS a; intro a hS
            refine g_yes hS rfl rfl rfl rfl (l_quiet hS rfl rfl (y_move hS rfl) ?_); clear hS a; intro a hS
            obtain ⟨p19, hep19, hpp19⟩ := SlR.elemX (hS.fact (k := 101) rfl) hx10
            refine g_yes hS rfl rfl rfl rfl (l_quiet hS rfl rfl (y_elem (sz := 3) (i := i_3) hS rfl rfl Try.underlying22 rfl hep19 rfl (lt_of_get hx10)) ?_); clear hS a; intro a hS
            refine g_yes hS rfl rfl rfl rfl (l_quiet hS rfl rfl (y_ptrField (o' := 0) hS rfl Try.underlying47 rfl rfl rfl) ?_); clear hS a; intro a hS
            obtain ⟨hlq20, hmq20, csq20, hdq20, hcq20⟩ := hpp19
            obtain ⟨Aq202, cq202, Aq203, cq203, rfl, lq201, hq202, hq203⟩ := REntry.open hdq20
            replace hS := hS.add 110 (slF Rep.str (Aq202) ((x10.Words).length) (cq202) (x10.Words)) hq202
            replace hS := hS.add 111 (slF RNode (Aq203) ((x10.FS.Nodes).length) (cq203) (x10.FS.Nodes)) hq203
            refine g_yes hS rfl rfl rfl rfl (l_quiet hS rfl rfl (y_ldp1 hS rfl hlq20 hmq20 (hcq20 0 _ rfl) Try.underlying9 rfl) ?_); clear hS a; intro a hS
            refine g_yes hS rfl rfl rfl rfl (l_quiet hS rfl rfl (y_lenStrN hS rfl Try.underlying9) ?_); clear hS a; intro a hS
            refine g_yes hS rfl rfl rfl rfl (l_quiet hS rfl rfl (y_gtrN (i := ((x10.Name).length)) (j := 100) hS rfl rfl) ?_); clear hS a; intro a hS
            refine q_seq hS rfl rfl rfl (y_pick_f hS rfl rfl) ?_; clear hS a; intro a hS
            apply wpList_nil
            refine p_norm ?_
            exact ⟨(decide ((100 : Nat) < ((x10.Name).length))), hg, (hS.sub ⟨rfl, rfl, rfl, trivial⟩ trivial ⟨rfl, trivial⟩)⟩
        clear hS a; rintro a w ⟨t_8, hg, hS⟩
        subst hk7
        refine c_cond hS rfl (fun hc21 => ?_) (fun hc21 => ?_)
        · replace hg := br_t hg hc21
          apply wp_seq
          apply wp_region_lit
          refine q_seq hS rfl rfl rfl (y_assign hS rfl) ?_; clear hS a; intro a hS
          apply wpList_nil
          refine p_norm ?_
          apply wp_ret
          refine p_thenR ?_
          refine p_inR ?_
          refine p_thenR ?_
          refine p_thenR ?_
          refine p_inR ?_
          refine p_thenR ?_
          obtain rfl := Option.some.inj hg
          refine fin1 (fn := Try.f10) hS rfl (r_tmp hS rfl) ?_
          exact rfl
        · replace hg := br_f hg (by rw [hc21]; exact Bool.false_ne_true)
          apply wp_skip
          refine p_norm ?_
          apply wp_seq
          apply wp_region_lit
          refine q_seq hS rfl rfl rfl (y_assign hS rfl) ?_; clear hS a; intro a hS
          apply wpList_nil
          refine p_norm ?_
          apply wp_block
          refine c_loop (σ := Nat) (fun m2 a w => ∃ (k_22 : Nat), r24_LightEntries_L1 n e_ i_3 k6 m2 k_22 = some r ∧ St (⟨Try.f10.ntmps, M, noB, w0⟩ : Ctx) [(0, .slice (Ap01) ((e_).length) (cp01)), (3, .int .i64 (((i_3 : Nat) : Int))), (4, .int .i64 (((k_22 : Nat) : Int)))] [] [(101, slF REntry (Ap01) ((e_).length) (cp01) (e_))] a w) (fun m2 => m2) n ⟨(0), hg, (hS.sub ⟨rfl, rfl, rfl, trivial⟩ trivial ⟨rfl, trivial⟩)⟩ ?_
          clear hS a; rintro m2 a w ⟨k_22, hg, hS⟩
          rcases m2 with _ | m2
          · rw [r24_LightEntries_L1] at hg; cases hg
          rw [r24_LightEntries_L1] at hg
          apply wp_seq
          apply wp_seq
          replace hg := bind_some hg; obtain ⟨x24, hx24, hg⟩ := hg
          apply wp_region_lit
          refine q_seq hS rfl rfl rfl (y_move hS rfl) ?_; clear hS a; intro a hS
          refine q_seq hS rfl rfl rfl (y_move hS rfl) ?_; clear hS a; intro a hS
          refine q_seq hS rfl rfl rfl (y_move hS rfl) ?_; clear hS a; intro a hS
          obtain ⟨p26, hep26, hpp26⟩ := SlR.elemX (hS.fact (k := 101) rfl) hx24
          refine q_seq hS rfl rfl rfl (y_elem (sz := 3) (i := i_3) hS rfl rfl Try.underlying22 rfl hep26 rfl (lt_of_get hx24)) ?_; clear hS a; intro a hS
          refine q_seq hS rfl rfl rfl (y_ptrField (o' := 1) hS rfl Try.underlying47 rfl rfl rfl) ?_; clear hS a; intro a hS
          obtain ⟨hlq27, hmq27, csq27, hdq27, hcq27⟩ := hpp26
          obtain ⟨Aq272, cq272, Aq273, cq273, rfl, lq271, hq272, hq273⟩ := REntry.open hdq27
          replace hS := hS.add 114 (slF Rep.str (Aq272) ((x24.Words).length) (cq272) (x24.Words)) hq272
          replace hS := hS.add 115 (slF RNode (Aq273) ((x24.FS.Nodes).length) (cq273) (x24.FS.Nodes)) hq273
          refine q_seq hS rfl rfl rfl (y_ldp1 hS rfl hlq27 hmq27 (hcq27 1 _ rfl) Try.underlying27 rfl) ?_; clear hS a; intro a hS
          refine q_seq hS rfl rfl rfl (y_lenSlice hS rfl Try.underlying27) ?_; clear hS a; intro a hS
          refine q_seq hS rfl rfl rfl (y_lssN (i := k_22) (j := ((x24.Words).length)) hS rfl rfl) ?_; clear hS a; intro a hS
          apply wpList_nil
          refine p_norm ?_
          refine c_dec hS rfl (fun hc28 => ?_) (fun hc28 => ?_)
          · replace hg := br_t hg hc28
            have hmx29 := SlR.mx (hS.fact (k := 114) rfl)
            apply wp_skip
            refine p_norm ?_
            apply wp_seq
            apply wp_block
            apply wp_seq
            replace hg := bind_some hg; obtain ⟨x33, hx33, hg⟩ := hg
            apply wp_region_lit
            refine q_seq hS rfl rfl rfl (y_move hS rfl) ?_; clear hS a; intro a hS
            refine q_seq hS rfl rfl rfl (y_move hS rfl) ?_; clear hS a; intro a hS
            obtain ⟨p35, hep35, hpp35⟩ := SlR.elemX (hS.fact (k := 101) rfl) hx24
            refine q_seq hS rfl rfl rfl (y_elem (sz := 3) (i := i_3) hS rfl rfl Try.underlying22 rfl hep35 rfl (lt_of_get hx24)) ?_; clear hS a; intro a hS
            refine q_seq hS rfl rfl rfl (y_ptrField (o' := 1) hS rfl Try.underlying47 rfl rfl rfl) ?_; clear hS a; intro a hS
            obtain ⟨hlq36, hmq36, csq36, hdq36, hcq36⟩ := hpp35
            obtain ⟨Aq362, cq362, Aq363, cq363, rfl, lq361, hq362, hq363⟩ := REntry.open hdq36
            replace hS := hS.add 118 (slF Rep.str (Aq362) ((x24.Words).length) (cq362) (x24.Words)) hq362
            replace hS := hS.add 119 (slF RNode (Aq363) ((x24.FS.Nodes).length) (cq363) (x24.FS.Nodes)) hq363
            refine q_seq hS rfl rfl rfl (y_ldp1 hS rfl hlq36 hmq36 (hcq36 1 _ rfl) Try.underlying27 rfl) ?_; clear hS a; intro a hS
            refine q_seq hS rfl rfl rfl (y_move hS rfl) ?_; clear hS a; intro a hS
            obtain ⟨p37, hep37, hpp37⟩ := SlR.elemX (hS.fact (k := 118) rfl) hx33
            refine q_seq hS rfl rfl rfl (y_elem (sz := 1) (i := k_22) hS rfl rfl Try.underlying27 rfl hep37 rfl (lt_of_get hx33)) ?_; clear hS a; intro a hS
            obtain ⟨hlq38, hmq38, csq38, hdq38, hcq38⟩ := hpp37
            obtain ⟨rfl, lq381⟩ := hdq38
            refine q_seq hS rfl rfl rfl (y_ldp1 hS rfl hlq38 hmq38 (hcq38 0 _ rfl) Try.underlying9 rfl) ?_; clear hS a; intro a hS
            refine q_seq hS rfl rfl rfl (y_lenStrN hS rfl Try.underlying9) ?_; clear hS a; intro a hS
            refine q_seq hS rfl rfl rfl (y_gtrN (i := ((x33).length)) (j := 100) hS rfl rfl) ?_; clear hS a; intro a hS
            apply wpList_nil
            refine p_norm ?_
            refine c_dec hS rfl (fun hc39 => ?_) (fun hc39 => ?_)
            · replace hg := br_t hg hc39
              have hmx40 : (x33).length ≤ 9223372036854775807 := (by first | omega | (rw [List.length_append]; omega) | (simp only [List.length_append]; omega) | (simp only [List.length_append, List.length_take, List.length_drop, List.length_cons, List.length_nil]; omega))
              apply wp_seq
              apply wp_region_lit
              refine q_seq hS rfl rfl rfl (y_assign hS rfl) ?_; clear hS a; intro a hS
              apply wpList_nil
              refine p_norm ?_
              apply wp_ret
              refine p_inR ?_
              refine p_thenR ?_
              refine p_thenR ?_
              refine p_inR ?_
              refine p_inR ?_
              refine p_thenR ?_
              refine p_thenR ?_
              refine p_inR ?_
              refine p_thenR ?_
              obtain rfl := Option.some.inj hg
              refine fin1 (fn := Try.f10) hS rfl (r_tmp hS rfl) ?_
              exact rfl
            · replace hg := br_f hg hc39
              apply wp_skip
              refine p_inN ?_
              refine p_norm ?_
              apply wp_region_lit
              refine q_seq hS rfl rfl rfl (y_move hS rfl) ?_; clear hS a; intro a hS
              refine q_seq hS rfl rfl rfl (y_addN (i := k_22) (j := 1) hS rfl rfl (in64.2 (by omega))) ?_; clear hS a; intro a hS
              refine q_seq hS rfl rfl rfl (y_assign hS rfl) ?_; clear hS a; intro a hS
              apply wpList_nil
              refine p_norm ?_
              exact ⟨m2, Nat.lt_succ_self _, ⟨(k_22 + 1), hg, (hS.sub ⟨rfl, rfl, rfl, trivial⟩ trivial ⟨rfl, trivial⟩)⟩⟩
          · replace hg := br_f hg hc28
            apply wp_exit
            refine p_then ?_
            refine p_then ?_
            refine p_in ?_
            refine p_inN ?_
            refine p_norm ?_
            exact ⟨hg, (hS.sub ⟨rfl, rfl, trivial⟩ trivial ⟨rfl, trivial⟩)⟩
      clear hS a; rintro a w ⟨hg, hS⟩
      subst hk6
      apply wp_region_lit
      refine q_seq hS rfl rfl rfl (y_move hS rfl) ?_; clear hS a; intro a hS
      refine q_seq hS rfl rfl rfl (y_addN (i := i_3) (j := 1) hS rfl rfl (in64.2 (by omega))) ?_; clear hS a; intro a hS
      refine q_seq hS rfl rfl rfl (y_assign hS rfl) ?_; clear hS a; intro a hS
      apply wpList_nil
      refine p_norm ?_
      exact ⟨m1, Nat.lt_succ_self _, ⟨(i_3 + 1), hg, (hS.sub ⟨rfl, rfl, trivial⟩ trivial ⟨rfl, trivial⟩)⟩⟩
    · replace hg := br_f hg hc4
      apply wp_exit
      refine p_then ?_
      refine p_then ?_
      refine p_in ?_
      refine p_norm ?_
      apply wp_seq
      apply wp_region_lit
      refine q_seq hS rfl rfl rfl (y_assign hS rfl) ?_; clear hS a; intro a hS
      apply wpList_nil
      refine p_norm ?_
      apply wp_ret
      obtain rfl := Option.some.inj hg
      refine fin1 (fn := Try.f10) hS rfl (r_tmp hS rfl) ?_
      exact rfl
set_option maxHeartbeats 400000 in
theorem c_text_digit (n : Nat) (M : Bs) (w0 : World) (hM : ∀ b, M b → b < w0.heap.size) (c_ : Int) (r : Bool) (hg : text_digit n c_ = some r) :
    Calls Try.prog 51 [.int .i32 (c_)].toArray w0 (Ret noB w0 fun v w => v = .bool (r)) := by
  unfold text_digit at hg
  refine enter M noB Try.func51 rfl rfl hM ?_
  intro a hS
  apply wp_seq
  apply wp_region_lit
  refine q_seq hS rfl rfl rfl (y_assign hS rfl) ?_; clear hS a; intro a hS
  apply wpList_nil
  refine p_norm ?_
  apply wp_seq
  rcases Decidable.em ((48 : Int) ≤ c_) with hs1 | hs1
  · have hs1e : decide ((48 : Int) ≤ c_) = true := decide_eq_true hs1
    replace hg := br_t hg hs1
    apply wp_region_lit
    refine q_seq hS rfl rfl rfl (y_move hS rfl) ?_; clear hS a; intro a hS
    refine q_seq hS rfl rfl rfl (yl_b (y_geq hS rfl rfl) hs1e) ?_; clear hS a; intro a hS
    refine q_seq hS rfl rfl rfl (y_move hS rfl) ?_; clear hS a; intro a hS
    refine g_yes hS rfl rfl rfl rfl (l_quiet hS rfl rfl (y_move hS rfl) ?_); clear hS a; intro a hS
    refine g_yes hS rfl rfl rfl rfl (l_quiet hS rfl rfl (y_leq hS rfl rfl) ?_); clear hS a; intro a hS
    refine q_seq hS rfl rfl rfl (y_pick_t hS rfl rfl) ?_; clear hS a; intro a hS
    refine q_seq hS rfl rfl rfl (y_assign hS rfl) ?_; clear hS a; intro a hS
    apply wpList_nil
    refine p_norm ?_
    apply wp_ret
    obtain rfl := Option.some.inj hg
    refine fin1 (fn := Try.f51) hS rfl (r_tmp hS rfl) ?_
    exact rfl
  · have hs1e : decide ((48 : Int) ≤ c_) = false := decide_eq_false hs1
    replace hg := br_f hg hs1
    apply wp_region_lit
    refine q_seq hS rfl rfl rfl (y_move hS rfl) ?_; clear hS a; intro a hS
    refine q_seq hS rfl rfl rfl (yl_b (y_geq hS rfl rfl) hs1e) ?_; clear hS a; intro a hS
    refine q_seq hS rfl rfl rfl (y_move hS rfl) ?_; clear hS a; intro a hS
    refine g_no hS rfl rfl rfl rfl rfl rfl rfl ?_; clear hS a; intro a hS
    refine g_no hS rfl rfl rfl rfl rfl rfl rfl ?_; clear hS a; intro a hS
    refine q_seq hS rfl rfl rfl (y_pick_f hS rfl rfl) ?_; clear hS a; intro a hS
    refine q_seq hS rfl rfl rfl (y_assign hS rfl) ?_; clear hS a; intro a hS
    apply wpList_nil
    refine p_norm ?_
    apply wp_ret
    obtain rfl := Option.some.inj hg
    refine fin1 (fn := Try.f51) hS rfl (r_tmp hS rfl) ?_
    exact rfl
set_option maxHeartbeats 400000 in
theorem c_text_follows (n : Nat) (M : Bs) (w0 : World) (hM : ∀ b, M b → b < w0.heap.size) (s_ : (List UInt8)) (lp01 : (s_).length ≤ 9223372036854775807) (letter_ : (Int → Option Bool)) (Ap11 : FuncId) (cp11 : List Value) (hp11 : FnR Try.prog Ap11 cp11 pre65 post65 (letter_) M w0) (r : Bool) (hg : text_follows n s_ letter_ = some r) :
    Calls Try.prog 40 [.string (bs (s_)), .func (.func Ap11) #[] (List.toArray cp11)].toArray w0 (Ret noB w0 fun v w => v = .bool (r)) := by
  unfold text_follows at hg
  refine enter M noB Try.func40 rfl rfl hM ?_
  intro a hS
  replace hS := hS.add 101 (fnF Try.prog Ap11 cp11 pre65 post65 (letter_)) (by exact Fact.change _ enterM hp11)
  apply wp_seq
  apply wp_region_lit
  refine q_seq hS rfl rfl rfl (y_assign hS rfl) ?_; clear hS a; intro a hS
  apply wpList_nil
  refine p_norm ?_
  apply wp_seq
  apply wp_seq
  replace hg := jn_some hg; obtain ⟨k1, hg, hk1⟩ := hg
  refine c_post (fun a w => ∃ (t_2 : Bool), k1 t_2 = some r ∧ St (⟨Try.f40.ntmps, M, noB, w0⟩ : Ctx) [(0, .string (bs (s_))), (1, .func (.func Ap11) #[] (List.toArray cp11)), (14, .bool (t_2))] [] [(101, fnF Try.prog Ap11 cp11 pre65 post65 (letter_))] a w) ?_ ?_
  · rcases Decidable.em (((s_).length) = 0) with hs3 | hs3
    · have hs3e : decide (((s_).length) = 0) = true := decide_eq_true hs3
      replace hg := br_t hg hs3
      apply wp_region_lit
      refine q_seq hS rfl rfl rfl (y_move hS rfl) ?_; clear hS a; intro a hS
      refine q_seq hS rfl rfl rfl (y_lenStrN hS rfl Try.underlying9) ?_; clear hS a; intro a hS
      refine q_seq hS rfl rfl rfl (yl_b (y_eqlN (i := ((s_).length)) (j := 0) hS rfl rfl) hs3e) ?_; clear hS a; intro a hS
      refine q_seq hS rfl rfl rfl (y_move hS rfl) ?_; clear hS a; intro a hS
      refine g_no hS rfl rfl rfl rfl rfl rfl rfl ?_; clear hS a; intro a hS
      refine g_no hS rfl rfl rfl rfl rfl rfl rfl ?_; clear hS a; intro a hS
      refine g_no hS rfl rfl rfl rfl rfl rfl rfl ?_; clear hS a; intro a hS
      refine q_seq hS rfl rfl rfl (y_pick_t hS rfl rfl) ?_; clear hS a; intro a hS
      apply wpList_nil
      refine p_norm ?_
      exact ⟨(true), hg, (hS.sub ⟨rfl, rfl, rfl, trivial⟩ trivial ⟨rfl, trivial⟩)⟩
    · have hs3e : decide (((s_).length) = 0) = false := decide_eq_false hs3
      replace hg := br_f hg hs3
      apply wp_region_lit
      refine q_seq hS rfl rfl rfl (y_move hS rfl) ?_; clear hS a; intro a hS
      refine q_seq hS rfl rfl rfl (y_lenStrN hS rfl Try.underlying9) ?_; clear hS a; intro a hS
      refine q_seq hS rfl rfl rfl (yl_b (y_eqlN (i := ((s_).length)) (j := 0) hS rfl rfl) hs3e) ?_; clear hS a; intro a hS
      refine q_seq hS rfl rfl rfl (y_move hS rfl) ?_; clear hS a; intro a hS
      refine g_yes hS rfl rfl rfl rfl (l_quiet hS rfl rfl (y_move hS rfl) ?_); clear hS a; intro a hS
      refine g_yes hS rfl rfl rfl rfl (l_quiet hS rfl rfl (y_lenStrN hS rfl Try.underlying9) ?_); clear hS a; intro a hS
      refine g_yes hS rfl rfl rfl rfl (l_quiet hS rfl rfl (y_gtrN (i := ((s_).length)) (j := 32) hS rfl rfl) ?_); clear hS a; intro a hS
      refine q_seq hS rfl rfl rfl (y_pick_f hS rfl rfl) ?_; clear hS a; intro a hS
      apply wpList_nil
      refine p_norm ?_
      exact ⟨(decide ((32 : Nat) < ((s_).length))), hg, (hS.sub ⟨rfl, rfl, rfl, trivial⟩ trivial ⟨rfl, trivial⟩)⟩
  clear hS a; rintro a w ⟨t_2, hg, hS⟩
  subst hk1
  refine c_cond hS rfl (fun hc4 => ?_) (fun hc4 => ?_)
  · replace hg := br_t hg hc4
    apply wp_seq
    apply wp_region_lit
    refine q_seq hS rfl rfl rfl (y_assign hS rfl) ?_; clear hS a; intro a hS
    apply wpList_nil
    refine p_norm ?_
    apply wp_ret
    refine p_thenR ?_
    obtain rfl := Option.some.inj hg
    refine fin1 (fn := Try.f40) hS rfl (r_tmp hS rfl) ?_
    exact rfl
  · replace hg := br_f hg (by rw [hc4]; exact Bool.false_ne_true)
    apply wp_skip
    refine p_norm ?_
    apply wp_seq
    apply wp_seq
    apply wp_region_lit
    refine q_seq hS rfl rfl rfl (y_move hS rfl) ?_; clear hS a; intro a hS
    refine l_seq rfl (l_range hS 1301 rfl Try.underlying9 rfl rfl ?_); clear hS a; intro b6 a w hb hK hS
    clear hb
    clear hK
    apply wpList_nil
    refine p_norm ?_
    apply wp_block
    refine c_loop (σ := Nat) (fun m1 a w => ∃ (pos_7 : Nat), text_follows_L0 n s_ letter_ m1 pos_7 = some r ∧ St (⟨Try.f40.ntmps, M, noB, w0⟩ : Ctx) [(1, .func (.func Ap11) #[] (List.toArray cp11)), (16, .pointer (some ⟨b6, 0, none⟩))] [(1301, Ob.iter b6 (bs (s_)) (pos_7))] [(101, fnF Try.prog Ap11 cp11 pre65 post65 (letter_))] a w) (fun m1 => m1) n ⟨(0), hg, (hS.sub ⟨rfl, rfl, trivial⟩ ⟨rfl, trivial⟩ ⟨rfl, trivial⟩)⟩ ?_
    clear hS a; rintro m1 a w ⟨pos_7, hg, hS⟩
    rcases m1 with _ | m1
    · rw [text_follows_L0] at hg; cases hg
    rw [text_follows_L0] at hg
    apply wp_seq
    rcases Decidable.em (pos_7 < (s_).length) with hs8 | hs8
    · have hs8e : decide (pos_7 < (s_).length) = true := decide_eq_true hs8
      replace hg := br_t hg hs8
      have hmx9 : (s_).length ≤ 9223372036854775807 := (by first | omega | (rw [List.length_append]; omega) | (simp only [List.length_append]; omega) | (simp only [List.length_append, List.length_take, List.length_drop, List.length_cons, List.length_nil]; omega))
      apply wp_region_lit
      refine l_seq rfl (l_next hS 1301 rfl rfl hs8 rfl ?_); clear hS a; intro a w hK hS
      clear hK
      refine q_seq hS rfl rfl rfl (y_extract hS rfl rfl) ?_; clear hS a; intro a hS
      apply wpList_nil
      refine p_norm ?_
      apply wp_seq
      refine c_t hS rfl ?_
      apply wp_skip
      refine p_norm ?_
      apply wp_block
      apply wp_seq
      apply wp_region_lit
      refine q_seq hS rfl rfl rfl (y_extract hS rfl rfl) ?_; clear hS a; intro a hS
      refine q_seq hS rfl rfl rfl (y_extract hS rfl rfl) ?_; clear hS a; intro a hS
      refine q_seq hS rfl rfl rfl (y_assign hS rfl) ?_; clear hS a; intro a hS
      refine q_seq hS rfl rfl rfl (y_assign hS rfl) ?_; clear hS a; intro a hS
      apply wpList_nil
      refine p_norm ?_
      apply wp_seq
      replace hg := jn_some hg; obtain ⟨k10, hg, hk10⟩ := hg
      refine c_post (fun a w => ∃ (t_11 : Bool), k10 t_11 = some r ∧ St (⟨Try.f40.ntmps, M, noB, w0⟩ : Ctx) [(1, .func (.func Ap11) #[] (List.toArray cp11)), (16, .pointer (some ⟨b6, 0, none⟩)), (37, .bool (t_11))] [(1301, Ob.iter b6 (bs (s_)) (pos_7 + runeLen s_ pos_7))] [(101, fnF Try.prog Ap11 cp11 pre65 post65 (letter_))] a w) ?_ ?_
      · replace hg := bind_some hg; obtain ⟨r12, hr12, hg⟩ := hg
        rcases Bool.eq_false_or_eq_true (!(r12)) with hs15 | hs15
        · replace hg := br_t hg hs15
          rcases Decidable.em (pos_7 = 0) with hs16 | hs16
          · have hs16e : decide (pos_7 = 0) = true := decide_eq_true hs16
            replace hg := br_t hg hs16
            apply wp_region_lit
            refine q_seq hS rfl rfl rfl (y_move hS rfl) ?_; clear hS a; intro a hS
            refine q_seq hS rfl rfl rfl (y_move hS rfl) ?_; clear hS a; intro a hS
            refine l_seq rfl (l_callFn (cap := cp11) (x := (runeAt s_ pos_7)) hS rfl (hS.fact (k := 101) rfl) rfl rfl rfl hr12 ?_); clear hS a; intro v17 a w hK hp hS
            clear hK
            obtain rfl := hp
            refine q_seq hS rfl rfl rfl (yl_b (y_not hS rfl) hs15) ?_; clear hS a; intro a hS
            refine q_seq hS rfl rfl rfl (y_move hS rfl) ?_; clear hS a; intro a hS
            refine g_yes hS rfl rfl rfl rfl (l_quiet hS rfl rfl (y_move hS rfl) ?_); clear hS a; intro a hS
            refine g_yes hS rfl rfl rfl rfl (l_quiet hS rfl rfl (yl_b (y_eqlN (i := pos_7) (j := 0) hS rfl rfl) hs16e) ?_); clear hS a; intro a hS
            refine g_yes hS rfl rfl rfl rfl (l_quiet hS rfl rfl (y_move hS rfl) ?_); clear hS a; intro a hS
            refine g_no hS rfl rfl rfl rfl rfl rfl rfl ?_; clear hS a; intro a hS
            refine g_no hS rfl rfl rfl rfl rfl rfl rfl ?_; clear hS a; intro a hS
            refine g_no hS rfl rfl rfl rfl rfl rfl rfl ?_; clear hS a; intro a hS
            refine g_no hS rfl rfl rfl rfl rfl rfl rfl ?_; clear hS a; intro a hS
            refine g_no hS rfl rfl rfl rfl rfl rfl rfl ?_; clear hS a; intro a hS
            refine g_no hS rfl rfl rfl rfl rfl rfl rfl ?_; clear hS a; intro a hS
            refine g_no hS rfl rfl rfl rfl rfl rfl rfl ?_; clear hS a; intro a hS
            refine g_yes hS rfl rfl rfl rfl (l_quiet hS rfl rfl (y_pick_t hS rfl rfl) ?_); clear hS a; intro a hS
            refine q_seq hS rfl rfl rfl (y_pick_t hS rfl rfl) ?_; clear hS a; intro a hS
            apply wpList_nil
            refine p_norm ?_
            exact ⟨(true), hg, (hS.sub ⟨rfl, rfl, rfl, trivial⟩ ⟨rfl, trivial⟩ ⟨rfl, trivial⟩)⟩
          · have hs16e : decide (pos_7 = 0) = false := decide_eq_false hs16
            replace hg := br_f hg hs16
            replace hg := bind_some hg; obtain ⟨r19, hr19, hg⟩ := hg
            rcases Bool.eq_false_or_eq_true (!(r19)) with hs22 | hs22
            · replace hg := br_t hg hs22
              apply wp_region_lit
              refine q_seq hS rfl rfl rfl (y_move hS rfl) ?_; clear hS a; intro a hS
              refine q_seq hS rfl rfl rfl (y_move hS rfl) ?_; clear hS a; intro a hS
              refine l_seq rfl (l_callFn (cap := cp11) (x := (runeAt s_ pos_7)) hS rfl (hS.fact (k := 101) rfl) rfl rfl rfl hr12 ?_); clear hS a; intro v23 a w hK hp hS
              clear hK
              obtain rfl := hp
              refine q_seq hS rfl rfl rfl (yl_b (y_not hS rfl) hs15) ?_; clear hS a; intro a hS
              refine q_seq hS rfl rfl rfl (y_move hS rfl) ?_; clear hS a; intro a hS
              refine g_yes hS rfl rfl rfl rfl (l_quiet hS rfl rfl (y_move hS rfl) ?_); clear hS a; intro a hS
              refine g_yes hS rfl rfl rfl rfl (l_quiet hS rfl rfl (yl_b (y_eqlN (i := pos_7) (j := 0) hS rfl rfl) hs16e) ?_); clear hS a; intro a hS
              refine g_yes hS rfl rfl rfl rfl (l_quiet hS rfl rfl (y_move hS rfl) ?_); clear hS a; intro a hS
              refine g_yes hS rfl rfl rfl rfl (l_quiet hS rfl rfl (y_move hS rfl) ?_); clear hS a; intro a hS
              refine g_yes hS rfl rfl rfl rfl (l_call (cap := []) hS rfl Try.func51 rfl (by kernel_rfl) rfl rfl (c_text_digit n _ _ hS.lt (runeAt s_ pos_7) r19 hr19) ?_); clear hS a; intro v25 a w hK hp hS
              clear hK
              obtain rfl := hp
              refine g_yes hS rfl rfl rfl rfl (l_quiet hS rfl rfl (yl_b (y_not hS rfl) hs22) ?_); clear hS a; intro a hS
              refine g_yes hS rfl rfl rfl rfl (l_quiet hS rfl rfl (y_move hS rfl) ?_); clear hS a; intro a hS
              refine g_yes hS rfl rfl rfl rfl (l_quiet hS rfl rfl (y_move hS rfl) ?_); clear hS a; intro a hS
              refine g_yes hS rfl rfl rfl rfl (l_quiet hS rfl rfl (y_neq hS rfl rfl) ?_); clear hS a; intro a hS
              refine g_yes hS rfl rfl rfl rfl (l_quiet hS rfl rfl (y_pick_t hS rfl rfl) ?_); clear hS a; intro a hS
              refine g_yes hS rfl rfl rfl rfl (l_quiet hS rfl rfl (y_pick_f hS rfl rfl) ?_); clear hS a; intro a hS
              refine q_seq hS rfl rfl rfl (y_pick_t hS rfl rfl) ?_; clear hS a; intro a hS
              apply wpList_nil
              refine p_norm ?_
              exact ⟨(decide ((runeAt s_ pos_7) ≠ 45)), hg, (hS.sub ⟨rfl, rfl, rfl, trivial⟩ ⟨rfl, trivial⟩ ⟨rfl, trivial⟩)⟩
            · replace hg := br_f hg (by rw [hs22]; exact Bool.false_ne_true)
              apply wp_region_lit
              refine q_seq hS rfl rfl rfl (y_move hS rfl) ?_; clear hS a; intro a hS
              refine q_seq hS rfl rfl rfl (y_move hS rfl) ?_; clear hS a; intro a hS
              refine l_seq rfl (l_callFn (cap := cp11) (x := (runeAt s_ pos_7)) hS rfl (hS.fact (k := 101) rfl) rfl rfl rfl hr12 ?_); clear hS a; intro v27 a w hK hp hS
              clear hK
              obtain rfl := hp
              refine q_seq hS rfl rfl rfl (yl_b (y_not hS rfl) hs15) ?_; clear hS a; intro a hS
              refine q_seq hS rfl rfl rfl (y_move hS rfl) ?_; clear hS a; intro a hS
              refine g_yes hS rfl rfl rfl rfl (l_quiet hS rfl rfl (y_move hS rfl) ?_); clear hS a; intro a hS
              refine g_yes hS rfl rfl rfl rfl (l_quiet hS rfl rfl (yl_b (y_eqlN (i := pos_7) (j := 0) hS rfl rfl) hs16e) ?_); clear hS a; intro a hS
              refine g_yes hS rfl rfl rfl rfl (l_quiet hS rfl rfl (y_move hS rfl) ?_); clear hS a; intro a hS
              refine g_yes hS rfl rfl rfl rfl (l_quiet hS rfl rfl (y_move hS rfl) ?_); clear hS a; intro a hS
              refine g_yes hS rfl rfl rfl rfl (l_call (cap := []) hS rfl Try.func51 rfl (by kernel_rfl) rfl rfl (c_text_digit n _ _ hS.lt (runeAt s_ pos_7) r19 hr19) ?_); clear hS a; intro v29 a w hK hp hS
              clear hK
              obtain rfl := hp
              refine g_yes hS rfl rfl rfl rfl (l_quiet hS rfl rfl (yl_b (y_not hS rfl) hs22) ?_); clear hS a; intro a hS
              refine g_yes hS rfl rfl rfl rfl (l_quiet hS rfl rfl (y_move hS rfl) ?_); clear hS a; intro a hS
              refine g_no hS rfl rfl rfl rfl rfl rfl rfl ?_; clear hS a; intro a hS
              refine g_no hS rfl rfl rfl rfl rfl rfl rfl ?_; clear hS a; intro a hS
              refine g_yes hS rfl rfl rfl rfl (l_quiet hS rfl rfl (y_pick_f hS rfl rfl) ?_); clear hS a; intro a hS
              refine g_yes hS rfl rfl rfl rfl (l_quiet hS rfl rfl (y_pick_f hS rfl rfl) ?_); clear hS a; intro a hS
              refine q_seq hS rfl rfl rfl (y_pick_t hS rfl rfl) ?_; clear hS a; intro a hS
              apply wpList_nil
              refine p_norm ?_
              exact ⟨(false), hg, (hS.sub ⟨rfl, rfl, rfl, trivial⟩ ⟨rfl, trivial⟩ ⟨rfl, trivial⟩)⟩
        · replace hg := br_f hg (by rw [hs15]; exact Bool.false_ne_true)
          apply wp_region_lit
          refine q_seq hS rfl rfl rfl (y_move hS rfl) ?_; clear hS a; intro a hS
          refine q_seq hS rfl rfl rfl (y_move hS rfl) ?_; clear hS a; intro a hS
          refine l_seq rfl (l_callFn (cap := cp11) (x := (runeAt s_ pos_7)) hS rfl (hS.fact (k := 101) rfl) rfl rfl rfl hr12 ?_); clear hS a; intro v31 a w hK hp hS
          clear hK
          obtain rfl := hp
          refine q_seq hS rfl rfl rfl (yl_b (y_not hS rfl) hs15) ?_; clear hS a; intro a hS
          refine q_seq hS rfl rfl rfl (y_move hS rfl) ?_; clear hS a; intro a hS
          refine g_no hS rfl rfl rfl rfl rfl rfl rfl ?_; clear hS a; intro a hS
          refine g_no hS rfl rfl rfl rfl rfl rfl rfl ?_; clear hS a; intro a hS
          refine g_no hS rfl rfl rfl rfl rfl rfl rfl ?_; clear hS a; intro a hS
          refine g_no hS rfl rfl rfl rfl rfl rfl rfl ?_; clear hS a; intro a hS
          refine g_no hS rfl rfl rfl rfl rfl rfl rfl ?_; clear hS a; intro a hS
          refine g_no hS rfl rfl rfl rfl rfl rfl rfl ?_; clear hS a; intro a hS
          refine g_no hS rfl rfl rfl rfl rfl rfl rfl ?_; clear hS a; intro a hS
          refine g_no hS rfl rfl rfl rfl rfl rfl rfl ?_; clear hS a; intro a hS
          refine g_no hS rfl rfl rfl rfl rfl rfl rfl ?_; clear hS a; intro a hS
          refine g_no hS rfl rfl rfl rfl rfl rfl rfl ?_; clear hS a; intro a hS
          refine g_no hS rfl rfl rfl rfl rfl rfl rfl ?_; clear hS a; intro a hS
          refine q_seq hS rfl rfl rfl (y_pick_f hS rfl rfl) ?_; clear hS a; intro a hS
          apply wpList_nil
          refine p_norm ?_
          exact ⟨(false), hg, (hS.sub ⟨rfl, rfl, rfl, trivial⟩ ⟨rfl, trivial⟩ ⟨rfl, trivial⟩)⟩
      clear hS a; rintro a w ⟨t_11, hg, hS⟩
      subst hk10
      refine c_cond hS rfl (fun hc33 => ?_) (fun hc33 => ?_)
      · replace hg := br_t hg hc33
        apply wp_seq
        apply wp_region_lit
        refine q_seq hS rfl rfl rfl (y_assign hS rfl) ?_; clear hS a; intro a hS
        apply wpList_nil
        refine p_norm ?_
        apply wp_ret
        refine p_inR ?_
        refine p_thenR ?_
        refine p_inR ?_
        refine p_thenR ?_
        obtain rfl := Option.some.inj hg
        refine fin1 (fn := Try.f40) hS rfl (r_tmp hS rfl) ?_
        exact rfl
      · replace hg := br_f hg (by rw [hc33]; exact Bool.false_ne_true)
        apply wp_skip
        refine p_inN ?_
        refine p_norm ?_
        exact ⟨m1, Nat.lt_succ_self _, ⟨(pos_7 + runeLen s_ pos_7), hg, (hS.sub ⟨rfl, rfl, trivial⟩ ⟨rfl, trivial⟩ ⟨rfl, trivial⟩)⟩⟩
    · have hs8e : decide (pos_7 < (s_).length) = false := decide_eq_false hs8
      replace hg := br_f hg hs8
      apply wp_region_lit
      refine l_seq rfl (l_nextE hS 1301 rfl rfl hs8 rfl ?_); clear hS a; intro a w hK hS
      clear hK
      refine q_seq hS rfl rfl rfl (y_extract hS rfl rfl) ?_; clear hS a; intro a hS
      apply wpList_nil
      refine p_norm ?_
      apply wp_seq
      refine c_f hS rfl ?_
      apply wp_exit
      refine p_then ?_
      refine p_then ?_
      refine p_in ?_
      refine p_norm ?_
      apply wp_seq
      apply wp_region_lit
      refine q_seq hS rfl rfl rfl (y_assign hS rfl) ?_; clear hS a; intro a hS
      apply wpList_nil
      refine p_norm ?_
      apply wp_ret
      obtain rfl := Option.some.inj hg
      refine fin1 (fn := Try.f40) hS rfl (r_tmp hS rfl) ?_
      exact rfl
set_option maxHeartbeats 400000 in
theorem c_text_lower (n : Nat) (M : Bs) (w0 : World) (hM : ∀ b, M b → b < w0.heap.size) (c_ : Int) (r : Bool) (hg : text_lower n c_ = some r) :
    Calls Try.prog 41 [.int .i32 (c_)].toArray w0 (Ret noB w0 fun v w => v = .bool (r)) := by
  unfold text_lower at hg
  refine enter M noB Try.func41 rfl rfl hM ?_
  intro a hS
  apply wp_seq
  apply wp_region_lit
  refine q_seq hS rfl rfl rfl (y_assign hS rfl) ?_; clear hS a; intro a hS
  apply wpList_nil
  refine p_norm ?_
  apply wp_seq
  rcases Decidable.em ((97 : Int) ≤ c_) with hs1 | hs1
  · have hs1e : decide ((97 : Int) ≤ c_) = true := decide_eq_true hs1
    replace hg := br_t hg hs1
    apply wp_region_lit
    refine q_seq hS rfl rfl rfl (y_move hS rfl) ?_; clear hS a; intro a hS
    refine q_seq hS rfl rfl rfl (yl_b (y_geq hS rfl rfl) hs1e) ?_; clear hS a; intro a hS
    refine q_seq hS rfl rfl rfl (y_move hS rfl) ?_; clear hS a; intro a hS
    refine g_yes hS rfl rfl rfl rfl (l_quiet hS rfl rfl (y_move hS rfl) ?_); clear hS a; intro a hS
    refine g_yes hS rfl rfl rfl rfl (l_quiet hS rfl rfl (y_leq hS rfl rfl) ?_); clear hS a; intro a hS
    refine q_seq hS rfl rfl rfl (y_pick_t hS rfl rfl) ?_; clear hS a; intro a hS
    refine q_seq hS rfl rfl rfl (y_assign hS rfl) ?_; clear hS a; intro a hS
    apply wpList_nil
    refine p_norm ?_
    apply wp_ret
    obtain rfl := Option.some.inj hg
    refine fin1 (fn := Try.f41) hS rfl (r_tmp hS rfl) ?_
    exact rfl
  · have hs1e : decide ((97 : Int) ≤ c_) = false := decide_eq_false hs1
    replace hg := br_f hg hs1
    apply wp_region_lit
    refine q_seq hS rfl rfl rfl (y_move hS rfl) ?_; clear hS a; intro a hS
    refine q_seq hS rfl rfl rfl (yl_b (y_geq hS rfl rfl) hs1e) ?_; clear hS a; intro a hS
    refine q_seq hS rfl rfl rfl (y_move hS rfl) ?_; clear hS a; intro a hS
    refine g_no hS rfl rfl rfl rfl rfl rfl rfl ?_; clear hS a; intro a hS
    refine g_no hS rfl rfl rfl rfl rfl rfl rfl ?_; clear hS a; intro a hS
    refine q_seq hS rfl rfl rfl (y_pick_f hS rfl rfl) ?_; clear hS a; intro a hS
    refine q_seq hS rfl rfl rfl (y_assign hS rfl) ?_; clear hS a; intro a hS
    apply wpList_nil
    refine p_norm ?_
    apply wp_ret
    obtain rfl := Option.some.inj hg
    refine fin1 (fn := Try.f41) hS rfl (r_tmp hS rfl) ?_
    exact rfl
set_option maxHeartbeats 400000 in
theorem c_text_Name (n : Nat) (M : Bs) (w0 : World) (hM : ∀ b, M b → b < w0.heap.size) (s_ : (List UInt8)) (lp01 : (s_).length ≤ 9223372036854775807) (r : Bool) (hg : text_Name n s_ = some r) :
    Calls Try.prog 24 [.string (bs (s_))].toArray w0 (Ret noB w0 fun v w => v = .bool (r)) := by
  unfold text_Name at hg
  refine enter M noB Try.func24 rfl rfl hM ?_
  intro a hS
  apply wp_seq
  apply wp_region_lit
  refine q_seq hS rfl rfl rfl (y_assign hS rfl) ?_; clear hS a; intro a hS
  apply wpList_nil
  refine p_norm ?_
  apply wp_seq
  replace hg := bind_some hg; obtain ⟨r1, hr1, hg⟩ := hg
  apply wp_region_lit
  refine q_seq hS rfl rfl rfl (y_move hS rfl) ?_; clear hS a; intro a hS
  refine l_seq rfl (l_call (cap := []) hS rfl Try.func40 rfl (by kernel_rfl) rfl rfl (c_text_follows n _ _ hS.lt s_ (by first | omega | (rw [List.length_append]; omega) | (simp only [List.length_append]; omega) | (simp only [List.length_append, List.length_take, List.length_drop, List.length_cons, List.length_nil]; omega)) (fun p => text_lower n p) (41) ([]) ⟨⟨_, _, Try.func41, rfl, by kernel_rfl⟩, fun M1 w1 hk hm hlt vs x r hp hr => by obtain rfl := hp; exact c_text_lower n M1 w1 hlt (x) r hr⟩ r1 hr1) ?_); clear hS a; intro v4 a w hK hp hS
  clear hK
  obtain rfl := hp
  refine q_seq hS rfl rfl rfl (y_assign hS rfl) ?_; clear hS a; intro a hS
  apply wpList_nil
  refine p_norm ?_
  apply wp_ret
  obtain rfl := Option.some.inj hg
  refine fin1 (fn := Try.f24) hS rfl (r_tmp hS rfl) ?_
  exact rfl
set_option maxHeartbeats 400000 in
theorem c_slices_IndexFunc_string (n : Nat) (M : Bs) (w0 : World) (hM : ∀ b, M b → b < w0.heap.size) (s_ : (List (List UInt8))) (Ap01 : Option Addr) (cp01 : Nat) (hp01 : SlR Rep.str M w0 Ap01 (s_).length cp01 (s_)) (f_ : ((List UInt8) → Option Bool)) (Ap11 : FuncId) (cp11 : List Value) (hp11 : FnR Try.prog Ap11 cp11 pre55 post55 (f_) M w0) (r : Int) (hg : slices_IndexFunc_string n s_ f_ = some r) :
    Calls Try.prog 42 [.slice (Ap01) ((s_).length) (cp01), .func (.func Ap11) #[] (List.toArray cp11)].toArray w0 (Ret noB w0 fun v w => v = .int .i64 (r)) := by
  unfold slices_IndexFunc_string at hg
  refine enter M noB Try.func42 rfl rfl hM ?_
  intro a hS
  replace hS := hS.add 101 (slF Rep.str (Ap01) ((s_).length) (cp01) (s_)) (by exact Fact.change _ enterM hp01)
  replace hS := hS.add 102 (fnF Try.prog Ap11 cp11 pre55 post55 (f_)) (by exact Fact.change _ enterM hp11)
  apply wp_seq
  apply wp_region_lit
  refine q_seq hS rfl rfl rfl (y_assign hS rfl) ?_; clear hS a; intro a hS
  apply wpList_nil
  refine p_norm ?_
  apply wp_seq
  apply wp_seq
  apply wp_region_lit
  refine q_seq hS rfl rfl rfl (y_move hS rfl) ?_; clear hS a; intro a hS
  refine q_seq hS rfl rfl rfl (y_lenSlice hS rfl Try.underlying27) ?_; clear hS a; intro a hS
  refine q_seq hS rfl rfl rfl (y_move hS rfl) ?_; clear hS a; intro a hS
  apply wpList_nil
  refine p_norm ?_
  apply wp_block
  refine c_loop (σ := Nat) (fun m1 a w => ∃ (t_1 : Nat), slices_IndexFunc_string_L0 n s_ f_ m1 t_1 = some r ∧ St (⟨Try.f42.ntmps, M, noB, w0⟩ : Ctx) [(0, .slice (Ap01) ((s_).length) (cp01)), (1, .func (.func Ap11) #[] (List.toArray cp11)), (7, .int .i64 ((((s_).length : Nat) : Int))), (8, .int .i64 (((t_1 : Nat) : Int)))] [] [(101, slF Rep.str (Ap01) ((s_).length) (cp01) (s_)), (102, fnF Try.prog Ap11 cp11 pre55 post55 (f_))] a w) (fun m1 => m1) n ⟨(0), hg, (hS.sub ⟨rfl, rfl, rfl, rfl, trivial⟩ trivial ⟨rfl, rfl, trivial⟩)⟩ ?_
  clear hS a; rintro m1 a w ⟨t_1, hg, hS⟩
  rcases m1 with _ | m1
  · rw [slices_IndexFunc_string_L0] at hg; cases hg
  rw [slices_IndexFunc_string_L0] at hg
  apply wp_seq
  apply wp_region_lit
  refine q_seq hS rfl rfl rfl (y_lssN (i := t_1) (j := ((s_).length)) hS rfl rfl) ?_; clear hS a; intro a hS
  apply wpList_nil
  refine p_norm ?_
  apply wp_seq
  refine c_dec hS rfl (fun hc2 => ?_) (fun hc2 => ?_)
  · replace hg := br_t hg hc2
    have hmx3 := SlR.mx (hS.fact (k := 101) rfl)
    apply wp_skip
    refine p_norm ?_
    apply wp_seq
    apply wp_block
    apply wp_seq
    apply wp_region_lit
    refine q_seq hS rfl rfl rfl (y_move hS rfl) ?_; clear hS a; intro a hS
    refine q_seq hS rfl rfl rfl (y_assign hS rfl) ?_; clear hS a; intro a hS
    apply wpList_nil
    refine p_norm ?_
    apply wp_seq
    replace hg := bind_some hg; obtain ⟨x5, hx5, hg⟩ := hg
    replace hg := bind_some hg; obtain ⟨r7, hr7, hg⟩ := hg
    apply wp_region_lit
    refine q_seq hS rfl rfl rfl (y_move hS rfl) ?_; clear hS a; intro a hS
    refine q_seq hS rfl rfl rfl (y_move hS rfl) ?_; clear hS a; intro a hS
    refine q_seq hS rfl rfl rfl (y_move hS rfl) ?_; clear hS a; intro a hS
    obtain ⟨p10, hep10, hpp10⟩ := SlR.elemX (hS.fact (k := 101) rfl) hx5
    refine q_seq hS rfl rfl rfl (y_elem (sz := 1) (i := t_1) hS rfl rfl Try.underlying27 rfl hep10 rfl (lt_of_get hx5)) ?_; clear hS a; intro a hS
    obtain ⟨hlq11, hmq11, csq11, hdq11, hcq11⟩ := hpp10
    obtain ⟨rfl, lq111⟩ := hdq11
    refine q_seq hS rfl rfl rfl (y_ldp1 hS rfl hlq11 hmq11 (hcq11 0 _ rfl) Try.underlying9 rfl) ?_; clear hS a; intro a hS
    refine l_seq rfl (l_callFn (cap := cp11) (x := x5) hS rfl (hS.fact (k := 102) rfl) rfl rfl ⟨rfl, (by first | omega | (rw [List.length_append]; omega) | (simp only [List.length_append]; omega) | (simp only [List.length_append, List.length_take, List.length_drop, List.length_cons, List.length_nil]; omega))⟩ hr7 ?_); clear hS a; intro v12 a w hK hp hS
    clear hK
    obtain rfl := hp
    apply wpList_nil
    refine p_norm ?_
    refine c_cond hS rfl (fun hc14 => ?_) (fun hc14 => ?_)
    · replace hg := br_t hg hc14
      apply wp_seq
      apply wp_region_lit
      refine q_seq hS rfl rfl rfl (y_move hS rfl) ?_; clear hS a; intro a hS
      refine q_seq hS rfl rfl rfl (y_assign hS rfl) ?_; clear hS a; intro a hS
      apply wpList_nil
      refine p_norm ?_
      apply wp_ret
      refine p_inR ?_
      refine p_thenR ?_
      refine p_thenR ?_
      refine p_inR ?_
      refine p_thenR ?_
      obtain rfl := Option.some.inj hg
      refine fin1 (fn := Try.f42) hS rfl (r_tmp hS rfl) ?_
      exact rfl
    · replace hg := br_f hg (by rw [hc14]; exact Bool.false_ne_true)
      apply wp_skip
      refine p_inN ?_
      refine p_norm ?_
      apply wp_region_lit
      refine q_seq hS rfl rfl rfl (y_addN (i := t_1) (j := 1) hS rfl rfl (in64.2 (by omega))) ?_; clear hS a; intro a hS
      refine q_seq hS rfl rfl rfl (y_move hS rfl) ?_; clear hS a; intro a hS
      apply wpList_nil
      refine p_norm ?_
      exact ⟨m1, Nat.lt_succ_self _, ⟨(t_1 + 1), hg, (hS.sub ⟨rfl, rfl, rfl, rfl, trivial⟩ trivial ⟨rfl, rfl, trivial⟩)⟩⟩
  · replace hg := br_f hg hc2
    apply wp_exit
    refine p_then ?_
    refine p_then ?_
    refine p_in ?_
    refine p_norm ?_
    apply wp_seq
    apply wp_region_lit
    refine q_seq hS rfl rfl rfl (y_assign hS rfl) ?_; clear hS a; intro a hS
    apply wpList_nil
    refine p_norm ?_
    apply wp_ret
    obtain rfl := Option.some.inj hg
    refine fin1 (fn := Try.f42) hS rfl (r_tmp hS rfl) ?_
    exact rfl
set_option maxHeartbeats 400000 in
theorem c_slices_ContainsFunc_string (n : Nat) (M : Bs) (w0 : World) (hM : ∀ b, M b → b < w0.heap.size) (s_ : (List (List UInt8))) (Ap01 : Option Addr) (cp01 : Nat) (hp01 : SlR Rep.str M w0 Ap01 (s_).length cp01 (s_)) (f_ : ((List UInt8) → Option Bool)) (Ap11 : FuncId) (cp11 : List Value) (hp11 : FnR Try.prog Ap11 cp11 pre55 post55 (f_) M w0) (r : Bool) (hg : slices_ContainsFunc_string n s_ f_ = some r) :
    Calls Try.prog 25 [.slice (Ap01) ((s_).length) (cp01), .func (.func Ap11) #[] (List.toArray cp11)].toArray w0 (Ret noB w0 fun v w => v = .bool (r)) := by
  unfold slices_ContainsFunc_string at hg
  refine enter M noB Try.func25 rfl rfl hM ?_
  intro a hS
  replace hS := hS.add 101 (slF Rep.str (Ap01) ((s_).length) (cp01) (s_)) (by exact Fact.change _ enterM hp01)
  replace hS := hS.add 102 (fnF Try.prog Ap11 cp11 pre55 post55 (f_)) (by exact Fact.change _ enterM hp11)
  apply wp_seq
  apply wp_region_lit
  refine q_seq hS rfl rfl rfl (y_assign hS rfl) ?_; clear hS a; intro a hS
  apply wpList_nil
  refine p_norm ?_
  apply wp_seq
  replace hg := bind_some hg; obtain ⟨r1, hr1, hg⟩ := hg
  apply wp_region_lit
  refine q_seq hS rfl rfl rfl (y_move hS rfl) ?_; clear hS a; intro a hS
  refine q_seq hS rfl rfl rfl (y_move hS rfl) ?_; clear hS a; intro a hS
  refine l_seq rfl (l_call (cap := []) hS rfl Try.func42 rfl (by kernel_rfl) rfl rfl (c_slices_IndexFunc_string n _ _ hS.lt s_ (Ap01) (cp01) (hS.fact (k := 101) rfl) f_ (Ap11) (cp11) (hS.fact (k := 102) rfl) r1 hr1) ?_); clear hS a; intro v4 a w hK hp hS
  clear hK
  obtain rfl := hp
  refine q_seq hS rfl rfl rfl (y_geq hS rfl rfl) ?_; clear hS a; intro a hS
  refine q_seq hS rfl rfl rfl (y_assign hS rfl) ?_; clear hS a; intro a hS
  apply wpList_nil
  refine p_norm ?_
  apply wp_ret
  obtain rfl := Option.some.inj hg
  refine fin1 (fn := Try.f25) hS rfl (r_tmp hS rfl) ?_
  exact rfl
set_option maxHeartbeats 400000 in
theorem c_text_upper (n : Nat) (M : Bs) (w0 : World) (hM : ∀ b, M b → b < w0.heap.size) (c_ : Int) (r : Bool) (hg : text_upper n c_ = some r) :
    Calls Try.prog 43 [.int .i32 (c_)].toArray w0 (Ret noB w0 fun v w => v = .bool (r)) := by
  unfold text_upper at hg
  refine enter M noB Try.func43 rfl rfl hM ?_
  intro a hS
  apply wp_seq
  apply wp_region_lit
  refine q_seq hS rfl rfl rfl (y_assign hS rfl) ?_; clear hS a; intro a hS
  apply wpList_nil
  refine p_norm ?_
  apply wp_seq
  rcases Decidable.em ((65 : Int) ≤ c_) with hs1 | hs1
  · have hs1e : decide ((65 : Int) ≤ c_) = true := decide_eq_true hs1
    replace hg := br_t hg hs1
    apply wp_region_lit
    refine q_seq hS rfl rfl rfl (y_move hS rfl) ?_; clear hS a; intro a hS
    refine q_seq hS rfl rfl rfl (yl_b (y_geq hS rfl rfl) hs1e) ?_; clear hS a; intro a hS
    refine q_seq hS rfl rfl rfl (y_move hS rfl) ?_; clear hS a; intro a hS
    refine g_yes hS rfl rfl rfl rfl (l_quiet hS rfl rfl (y_move hS rfl) ?_); clear hS a; intro a hS
    refine g_yes hS rfl rfl rfl rfl (l_quiet hS rfl rfl (y_leq hS rfl rfl) ?_); clear hS a; intro a hS
    refine q_seq hS rfl rfl rfl (y_pick_t hS rfl rfl) ?_; clear hS a; intro a hS
    refine q_seq hS rfl rfl rfl (y_assign hS rfl) ?_; clear hS a; intro a hS
    apply wpList_nil
    refine p_norm ?_
    apply wp_ret
    obtain rfl := Option.some.inj hg
    refine fin1 (fn := Try.f43) hS rfl (r_tmp hS rfl) ?_
    exact rfl
  · have hs1e : decide ((65 : Int) ≤ c_) = false := decide_eq_false hs1
    replace hg := br_f hg hs1
    apply wp_region_lit
    refine q_seq hS rfl rfl rfl (y_move hS rfl) ?_; clear hS a; intro a hS
    refine q_seq hS rfl rfl rfl (yl_b (y_geq hS rfl rfl) hs1e) ?_; clear hS a; intro a hS
    refine q_seq hS rfl rfl rfl (y_move hS rfl) ?_; clear hS a; intro a hS
    refine g_no hS rfl rfl rfl rfl rfl rfl rfl ?_; clear hS a; intro a hS
    refine g_no hS rfl rfl rfl rfl rfl rfl rfl ?_; clear hS a; intro a hS
    refine q_seq hS rfl rfl rfl (y_pick_f hS rfl rfl) ?_; clear hS a; intro a hS
    refine q_seq hS rfl rfl rfl (y_assign hS rfl) ?_; clear hS a; intro a hS
    apply wpList_nil
    refine p_norm ?_
    apply wp_ret
    obtain rfl := Option.some.inj hg
    refine fin1 (fn := Try.f43) hS rfl (r_tmp hS rfl) ?_
    exact rfl
set_option maxHeartbeats 400000 in
theorem c_text_Word (n : Nat) (M : Bs) (w0 : World) (hM : ∀ b, M b → b < w0.heap.size) (s_ : (List UInt8)) (lp01 : (s_).length ≤ 9223372036854775807) (r : Bool) (hg : text_Word n s_ = some r) :
    Calls Try.prog 27 [.string (bs (s_))].toArray w0 (Ret noB w0 fun v w => v = .bool (r)) := by
  unfold text_Word at hg
  refine enter M noB Try.func27 rfl rfl hM ?_
  intro a hS
  apply wp_seq
  apply wp_region_lit
  refine q_seq hS rfl rfl rfl (y_assign hS rfl) ?_; clear hS a; intro a hS
  apply wpList_nil
  refine p_norm ?_
  apply wp_seq
  apply wp_seq
  replace hg := jn_some hg; obtain ⟨k1, hg, hk1⟩ := hg
  refine c_post (fun a w => ∃ (t_2 : Bool), k1 t_2 = some r ∧ St (⟨Try.f27.ntmps, M, noB, w0⟩ : Ctx) [(0, .string (bs (s_))), (12, .bool (t_2))] [] [] a w) ?_ ?_
  · rcases Decidable.em (((s_).length) = 0) with hs3 | hs3
    · have hs3e : decide (((s_).length) = 0) = true := decide_eq_true hs3
      replace hg := br_t hg hs3
      apply wp_region_lit
      refine q_seq hS rfl rfl rfl (y_move hS rfl) ?_; clear hS a; intro a hS
      refine q_seq hS rfl rfl rfl (y_lenStrN hS rfl Try.underlying9) ?_; clear hS a; intro a hS
      refine q_seq hS rfl rfl rfl (yl_b (y_eqlN (i := ((s_).length)) (j := 0) hS rfl rfl) hs3e) ?_; clear hS a; intro a hS
      refine q_seq hS rfl rfl rfl (y_move hS rfl) ?_; clear hS a; intro a hS
      refine g_no hS rfl rfl rfl rfl rfl rfl rfl ?_; clear hS a; intro a hS
      refine g_no hS rfl rfl rfl rfl rfl rfl rfl ?_; clear hS a; intro a hS
      refine g_no hS rfl rfl rfl rfl rfl rfl rfl ?_; clear hS a; intro a hS
      refine q_seq hS rfl rfl rfl (y_pick_t hS rfl rfl) ?_; clear hS a; intro a hS
      apply wpList_nil
      refine p_norm ?_
      exact ⟨(true), hg, (hS.sub ⟨rfl, rfl, trivial⟩ trivial trivial)⟩
    · have hs3e : decide (((s_).length) = 0) = false := decide_eq_false hs3
      replace hg := br_f hg hs3
      apply wp_region_lit
      refine q_seq hS rfl rfl rfl (y_move hS rfl) ?_; clear hS a; intro a hS
      refine q_seq hS rfl rfl rfl (y_lenStrN hS rfl Try.underlying9) ?_; clear hS a; intro a hS
      refine q_seq hS rfl rfl rfl (yl_b (y_eqlN (i := ((s_).length)) (j := 0) hS rfl rfl) hs3e) ?_; clear hS a; intro a hS
      refine q_seq hS rfl rfl rfl (y_move hS rfl) ?_; clear hS a; intro a hS
      refine g_yes hS rfl rfl rfl rfl (l_quiet hS rfl rfl (y_move hS rfl) ?_); clear hS a; intro a hS
      refine g_yes hS rfl rfl rfl rfl (l_quiet hS rfl rfl (y_lenStrN hS rfl Try.underlying9) ?_); clear hS a; intro a hS
      refine g_yes hS rfl rfl rfl rfl (l_quiet hS rfl rfl (y_gtrN (i := ((s_).length)) (j := 32) hS rfl rfl) ?_); clear hS a; intro a hS
      refine q_seq hS rfl rfl rfl (y_pick_f hS rfl rfl) ?_; clear hS a; intro a hS
      apply wpList_nil
      refine p_norm ?_
      exact ⟨(decide ((32 : Nat) < ((s_).length))), hg, (hS.sub ⟨rfl, rfl, trivial⟩ trivial trivial)⟩
  clear hS a; rintro a w ⟨t_2, hg, hS⟩
  subst hk1
  refine c_cond hS rfl (fun hc4 => ?_) (fun hc4 => ?_)
  · replace hg := br_t hg hc4
    apply wp_seq
    apply wp_region_lit
    refine q_seq hS rfl rfl rfl (y_assign hS rfl) ?_; clear hS a; intro a hS
    apply wpList_nil
    refine p_norm ?_
    apply wp_ret
    refine p_thenR ?_
    obtain rfl := Option.some.inj hg
    refine fin1 (fn := Try.f27) hS rfl (r_tmp hS rfl) ?_
    exact rfl
  · replace hg := br_f hg (by rw [hc4]; exact Bool.false_ne_true)
    apply wp_skip
    refine p_norm ?_
    apply wp_seq
    apply wp_seq
    apply wp_region_lit
    refine q_seq hS rfl rfl rfl (y_move hS rfl) ?_; clear hS a; intro a hS
    refine l_seq rfl (l_range hS 1301 rfl Try.underlying9 rfl rfl ?_); clear hS a; intro b6 a w hb hK hS
    clear hb
    clear hK
    apply wpList_nil
    refine p_norm ?_
    apply wp_block
    refine c_loop (σ := Nat) (fun m1 a w => ∃ (pos_7 : Nat), text_Word_L0 n s_ m1 pos_7 = some r ∧ St (⟨Try.f27.ntmps, M, noB, w0⟩ : Ctx) [(14, .pointer (some ⟨b6, 0, none⟩))] [(1301, Ob.iter b6 (bs (s_)) (pos_7))] [] a w) (fun m1 => m1) n ⟨(0), hg, (hS.sub ⟨rfl, trivial⟩ ⟨rfl, trivial⟩ trivial)⟩ ?_
    clear hS a; rintro m1 a w ⟨pos_7, hg, hS⟩
    rcases m1 with _ | m1
    · rw [text_Word_L0] at hg; cases hg
    rw [text_Word_L0] at hg
    apply wp_seq
    rcases Decidable.em (pos_7 < (s_).length) with hs8 | hs8
    · have hs8e : decide (pos_7 < (s_).length) = true := decide_eq_true hs8
      replace hg := br_t hg hs8
      have hmx9 : (s_).length ≤ 9223372036854775807 := (by first | omega | (rw [List.length_append]; omega) | (simp only [List.length_append]; omega) | (simp only [List.length_append, List.length_take, List.length_drop, List.length_cons, List.length_nil]; omega))
      apply wp_region_lit
      refine l_seq rfl (l_next hS 1301 rfl rfl hs8 rfl ?_); clear hS a; intro a w hK hS
      clear hK
      refine q_seq hS rfl rfl rfl (y_extract hS rfl rfl) ?_; clear hS a; intro a hS
      apply wpList_nil
      refine p_norm ?_
      apply wp_seq
      refine c_t hS rfl ?_
      apply wp_skip
      refine p_norm ?_
      apply wp_block
      apply wp_seq
      apply wp_region_lit
      refine q_seq hS rfl rfl rfl (y_extract hS rfl rfl) ?_; clear hS a; intro a hS
      refine q_seq hS rfl rfl rfl (y_assign hS rfl) ?_; clear hS a; intro a hS
      apply wpList_nil
      refine p_norm ?_
      apply wp_seq
      replace hg := jn_some hg; obtain ⟨k10, hg, hk10⟩ := hg
      refine c_post (fun a w => ∃ (t_11 : Bool), k10 t_11 = some r ∧ St (⟨Try.f27.ntmps, M, noB, w0⟩ : Ctx) [(14, .pointer (some ⟨b6, 0, none⟩)), (35, .bool (t_11))] [(1301, Ob.iter b6 (bs (s_)) (pos_7 + runeLen s_ pos_7))] [] a w) ?_ ?_
      · rcases Decidable.em ((runeAt s_ pos_7) < 33) with hs12 | hs12
        · have hs12e : decide ((runeAt s_ pos_7) < 33) = true := decide_eq_true hs12
          replace hg := br_t hg hs12
          apply wp_region_lit
          refine q_seq hS rfl rfl rfl (y_move hS rfl) ?_; clear hS a; intro a hS
          refine q_seq hS rfl rfl rfl (yl_b (y_lss hS rfl rfl) hs12e) ?_; clear hS a; intro a hS
          refine q_seq hS rfl rfl rfl (y_move hS rfl) ?_; clear hS a; intro a hS
          refine g_no hS rfl rfl rfl rfl rfl rfl rfl ?_; clear hS a; intro a hS
          refine g_no hS rfl rfl rfl rfl rfl rfl rfl ?_; clear hS a; intro a hS
          refine q_seq hS rfl rfl rfl (y_pick_t hS rfl rfl) ?_; clear hS a; intro a hS
          refine q_seq hS rfl rfl rfl (y_move hS rfl) ?_; clear hS a; intro a hS
          refine g_no hS rfl rfl rfl rfl rfl rfl rfl ?_; clear hS a; intro a hS
          refine g_no hS rfl rfl rfl rfl rfl rfl rfl ?_; clear hS a; intro a hS
          refine q_seq hS rfl rfl rfl (y_pick_t hS rfl rfl) ?_; clear hS a; intro a hS
          refine q_seq hS rfl rfl rfl (y_move hS rfl) ?_; clear hS a; intro a hS
          refine g_no hS rfl rfl rfl rfl rfl rfl rfl ?_; clear hS a; intro a hS
          refine g_no hS rfl rfl rfl rfl rfl rfl rfl ?_; clear hS a; intro a hS
          refine q_seq hS rfl rfl rfl (y_pick_t hS rfl rfl) ?_; clear hS a; intro a hS
          refine q_seq hS rfl rfl rfl (y_move hS rfl) ?_; clear hS a; intro a hS
          refine g_no hS rfl rfl rfl rfl rfl rfl rfl ?_; clear hS a; intro a hS
          refine g_no hS rfl rfl rfl rfl rfl rfl rfl ?_; clear hS a; intro a hS
          refine q_seq hS rfl rfl rfl (y_pick_t hS rfl rfl) ?_; clear hS a; intro a hS
          apply wpList_nil
          refine p_norm ?_
          exact ⟨(true), hg, (hS.sub ⟨rfl, rfl, trivial⟩ ⟨rfl, trivial⟩ trivial)⟩
        · have hs12e : decide ((runeAt s_ pos_7) < 33) = false := decide_eq_false hs12
          replace hg := br_f hg hs12
          rcases Decidable.em ((126 : Int) < (runeAt s_ pos_7)) with hs13 | hs13
          · have hs13e : decide ((126 : Int) < (runeAt s_ pos_7)) = true := decide_eq_true hs13
            replace hg := br_t hg hs13
            apply wp_region_lit
            refine q_seq hS rfl rfl rfl (y_move hS rfl) ?_; clear hS a; intro a hS
            refine q_seq hS rfl rfl rfl (yl_b (y_lss hS rfl rfl) hs12e) ?_; clear hS a; intro a hS
            refine q_seq hS rfl rfl rfl (y_move hS rfl) ?_; clear hS a; intro a hS
            refine g_yes hS rfl rfl rfl rfl (l_quiet hS rfl rfl (y_move hS rfl) ?_); clear hS a; intro a hS
            refine g_yes hS rfl rfl rfl rfl (l_quiet hS rfl rfl (yl_b (y_gtr hS rfl rfl) hs13e) ?_); clear hS a; intro a hS
            refine q_seq hS rfl rfl rfl (y_pick_f hS rfl rfl) ?_; clear hS a; intro a hS
            refine q_seq hS rfl rfl rfl (y_move hS rfl) ?_; clear hS a; intro a hS
            refine g_no hS rfl rfl rfl rfl rfl rfl rfl ?_; clear hS a; intro a hS
            refine g_no hS rfl rfl rfl rfl rfl rfl rfl ?_; clear hS a; intro a hS
            refine q_seq hS rfl rfl rfl (y_pick_t hS rfl rfl) ?_; clear hS a; intro a hS
            refine q_seq hS rfl rfl rfl (y_move hS rfl) ?_; clear hS a; intro a hS
            refine g_no hS rfl rfl rfl rfl rfl rfl rfl ?_; clear hS a; intro a hS
            refine g_no hS rfl rfl rfl rfl rfl rfl rfl ?_; clear hS a; intro a hS
            refine q_seq hS rfl rfl rfl (y_pick_t hS rfl rfl) ?_; clear hS a; intro a hS
            refine q_seq hS rfl rfl rfl (y_move hS rfl) ?_; clear hS a; intro a hS
            refine g_no hS rfl rfl rfl rfl rfl rfl rfl ?_; clear hS a; intro a hS
            refine g_no hS rfl rfl rfl rfl rfl rfl rfl ?_; clear hS a; intro a hS
            refine q_seq hS rfl rfl rfl (y_pick_t hS rfl rfl) ?_; clear hS a; intro a hS
            apply wpList_nil
            refine p_norm ?_
            exact ⟨(true), hg, (hS.sub ⟨rfl, rfl, trivial⟩ ⟨rfl, trivial⟩ trivial)⟩
          · have hs13e : decide ((126 : Int) < (runeAt s_ pos_7)) = false := decide_eq_false hs13
            replace hg := br_f hg hs13
            replace hg := bind_some hg; obtain ⟨r14, hr14, hg⟩ := hg
            rcases Bool.eq_false_or_eq_true (r14) with hs17 | hs17
            · replace hg := br_t hg hs17
              apply wp_region_lit
              refine q_seq hS rfl rfl rfl (y_move hS rfl) ?_; clear hS a; intro a hS
              refine q_seq hS rfl rfl rfl (yl_b (y_lss hS rfl rfl) hs12e) ?_; clear hS a; intro a hS
              refine q_seq hS rfl rfl rfl (y_move hS rfl) ?_; clear hS a; intro a hS
              refine g_yes hS rfl rfl rfl rfl (l_quiet hS rfl rfl (y_move hS rfl) ?_); clear hS a; intro a hS
              refine g_yes hS rfl rfl rfl rfl (l_quiet hS rfl rfl (yl_b (y_gtr hS rfl rfl) hs13e) ?_); clear hS a; intro a hS
              refine q_seq hS rfl rfl rfl (y_pick_f hS rfl rfl) ?_; clear hS a; intro a hS
              refine q_seq hS rfl rfl rfl (y_move hS rfl) ?_; clear hS a; intro a hS
              refine g_yes hS rfl rfl rfl rfl (l_quiet hS rfl rfl (y_move hS rfl) ?_); clear hS a; intro a hS
              refine g_yes hS rfl rfl rfl rfl (l_call (cap := []) hS rfl Try.func43 rfl (by kernel_rfl) rfl rfl (c_text_upper n _ _ hS.lt (runeAt s_ pos_7) r14 hr14) ?_); clear hS a; intro v18 a w hK hp hS
              clear hK
              obtain rfl := hp.trans (congrArg Value.bool hs17)
              refine q_seq hS rfl rfl rfl (y_pick_f hS rfl rfl) ?_; clear hS a; intro a hS
              refine q_seq hS rfl rfl rfl (y_move hS rfl) ?_; clear hS a; intro a hS
              refine g_no hS rfl rfl rfl rfl rfl rfl rfl ?_; clear hS a; intro a hS
              refine g_no hS rfl rfl rfl rfl rfl rfl rfl ?_; clear hS a; intro a hS
              refine q_seq hS rfl rfl rfl (y_pick_t hS rfl rfl) ?_; clear hS a; intro a hS
              refine q_seq hS rfl rfl rfl (y_move hS rfl) ?_; clear hS a; intro a hS
              refine g_no hS rfl rfl rfl rfl rfl rfl rfl ?_; clear hS a; intro a hS
              refine g_no hS rfl rfl rfl rfl rfl rfl rfl ?_; clear hS a; intro a hS
              refine q_seq hS rfl rfl rfl (y_pick_t hS rfl rfl) ?_; clear hS a; intro a hS
              apply wpList_nil
              refine p_norm ?_
              exact ⟨(true), hg, (hS.sub ⟨rfl, rfl, trivial⟩ ⟨rfl, trivial⟩ trivial)⟩
            · replace hg := br_f hg (by rw [hs17]; exact Bool.false_ne_true)
              rcases Decidable.em ((runeAt s_ pos_7) = 34) with hs20 | hs20
              · have hs20e : decide ((runeAt s_ pos_7) = 34) = true := decide_eq_true hs20
                replace hg := br_t hg hs20
                apply wp_region_lit
                refine q_seq hS rfl rfl rfl (y_move hS rfl) ?_; clear hS a; intro a hS
                refine q_seq hS rfl rfl rfl (yl_b (y_lss hS rfl rfl) hs12e) ?_; clear hS a; intro a hS
                refine q_seq hS rfl rfl rfl (y_move hS rfl) ?_; clear hS a; intro a hS
                refine g_yes hS rfl rfl rfl rfl (l_quiet hS rfl rfl (y_move hS rfl) ?_); clear hS a; intro a hS
                refine g_yes hS rfl rfl rfl rfl (l_quiet hS rfl rfl (yl_b (y_gtr hS rfl rfl) hs13e) ?_); clear hS a; intro a hS
                refine q_seq hS rfl rfl rfl (y_pick_f hS rfl rfl) ?_; clear hS a; intro a hS
                refine q_seq hS rfl rfl rfl (y_move hS rfl) ?_; clear hS a; intro a hS
                refine g_yes hS rfl rfl rfl rfl (l_quiet hS rfl rfl (y_move hS rfl) ?_); clear hS a; intro a hS
                refine g_yes hS rfl rfl rfl rfl (l_call (cap := []) hS rfl Try.func43 rfl (by kernel_rfl) rfl rfl (c_text_upper n _ _ hS.lt (runeAt s_ pos_7) r14 hr14) ?_); clear hS a; intro v21 a w hK hp hS
                clear hK
                obtain rfl := hp.trans (congrArg Value.bool hs17)
                refine q_seq hS rfl rfl rfl (y_pick_f hS rfl rfl) ?_; clear hS a; intro a hS
                refine q_seq hS rfl rfl rfl (y_move hS rfl) ?_; clear hS a; intro a hS
                refine g_yes hS rfl rfl rfl rfl (l_quiet hS rfl rfl (y_move hS rfl) ?_); clear hS a; intro a hS
                refine g_yes hS rfl rfl rfl rfl (l_quiet hS rfl rfl (yl_b (y_eql hS rfl rfl) hs20e) ?_); clear hS a; intro a hS
                refine q_seq hS rfl rfl rfl (y_pick_f hS rfl rfl) ?_; clear hS a; intro a hS
                refine q_seq hS rfl rfl rfl (y_move hS rfl) ?_; clear hS a; intro a hS
                refine g_no hS rfl rfl rfl rfl rfl rfl rfl ?_; clear hS a; intro a hS
                refine g_no hS rfl rfl rfl rfl rfl rfl rfl ?_; clear hS a; intro a hS
                refine q_seq hS rfl rfl rfl (y_pick_t hS rfl rfl) ?_; clear hS a; intro a hS
                apply wpList_nil
                refine p_norm ?_
                exact ⟨(true), hg, (hS.sub ⟨rfl, rfl, trivial⟩ ⟨rfl, trivial⟩ trivial)⟩
              · have hs20e : decide ((runeAt s_ pos_7) = 34) = false := decide_eq_false hs20
                replace hg := br_f hg hs20
                apply wp_region_lit
                refine q_seq hS rfl rfl rfl (y_move hS rfl) ?_; clear hS a; intro a hS
                refine q_seq hS rfl rfl rfl (yl_b (y_lss hS rfl rfl) hs12e) ?_; clear hS a; intro a hS
                refine q_seq hS rfl rfl rfl (y_move hS rfl) ?_; clear hS a; intro a hS
                refine g_yes hS rfl rfl rfl rfl (l_quiet hS rfl rfl (y_move hS rfl) ?_); clear hS a; intro a hS
                refine g_yes hS rfl rfl rfl rfl (l_quiet hS rfl rfl (yl_b (y_gtr hS rfl rfl) hs13e) ?_); clear hS a; intro a hS
                refine q_seq hS rfl rfl rfl (y_pick_f hS rfl rfl) ?_; clear hS a; intro a hS
                refine q_seq hS rfl rfl rfl (y_move hS rfl) ?_; clear hS a; intro a hS
                refine g_yes hS rfl rfl rfl rfl (l_quiet hS rfl rfl (y_move hS rfl) ?_); clear hS a; intro a hS
                refine g_yes hS rfl rfl rfl rfl (l_call (cap := []) hS rfl Try.func43 rfl (by kernel_rfl) rfl rfl (c_text_upper n _ _ hS.lt (runeAt s_ pos_7) r14 hr14) ?_); clear hS a; intro v23 a w hK hp hS
                clear hK
                obtain rfl := hp.trans (congrArg Value.bool hs17)
                refine q_seq hS rfl rfl rfl (y_pick_f hS rfl rfl) ?_; clear hS a; intro a hS
                refine q_seq hS rfl rfl rfl (y_move hS rfl) ?_; clear hS a; intro a hS
                refine g_yes hS rfl rfl rfl rfl (l_quiet hS rfl rfl (y_move hS rfl) ?_); clear hS a; intro a hS
                refine g_yes hS rfl rfl rfl rfl (l_quiet hS rfl rfl (yl_b (y_eql hS rfl rfl) hs20e) ?_); clear hS a; intro a hS
                refine q_seq hS rfl rfl rfl (y_pick_f hS rfl rfl) ?_; clear hS a; intro a hS
                refine q_seq hS rfl rfl rfl (y_move hS rfl) ?_; clear hS a; intro a hS
                refine g_yes hS rfl rfl rfl rfl (l_quiet hS rfl rfl (y_move hS rfl) ?_); clear hS a; intro a hS
                refine g_yes hS rfl rfl rfl rfl (l_quiet hS rfl rfl (y_eql hS rfl rfl) ?_); clear hS a; intro a hS
                refine q_seq hS rfl rfl rfl (y_pick_f hS rfl rfl) ?_; clear hS a; intro a hS
                apply wpList_nil
                refine p_norm ?_
                exact ⟨(decide ((runeAt s_ pos_7) = 92)), hg, (hS.sub ⟨rfl, rfl, trivial⟩ ⟨rfl, trivial⟩ trivial)⟩
      clear hS a; rintro a w ⟨t_11, hg, hS⟩
      subst hk10
      refine c_cond hS rfl (fun hc25 => ?_) (fun hc25 => ?_)
      · replace hg := br_t hg hc25
        apply wp_seq
        apply wp_region_lit
        refine q_seq hS rfl rfl rfl (y_assign hS rfl) ?_; clear hS a; intro a hS
        apply wpList_nil
        refine p_norm ?_
        apply wp_ret
        refine p_inR ?_
        refine p_thenR ?_
        refine p_inR ?_
        refine p_thenR ?_
        obtain rfl := Option.some.inj hg
        refine fin1 (fn := Try.f27) hS rfl (r_tmp hS rfl) ?_
        exact rfl
      · replace hg := br_f hg (by rw [hc25]; exact Bool.false_ne_true)
        apply wp_skip
        refine p_inN ?_
        refine p_norm ?_
        exact ⟨m1, Nat.lt_succ_self _, ⟨(pos_7 + runeLen s_ pos_7), hg, (hS.sub ⟨rfl, trivial⟩ ⟨rfl, trivial⟩ trivial)⟩⟩
    · have hs8e : decide (pos_7 < (s_).length) = false := decide_eq_false hs8
      replace hg := br_f hg hs8
      apply wp_region_lit
      refine l_seq rfl (l_nextE hS 1301 rfl rfl hs8 rfl ?_); clear hS a; intro a w hK hS
      clear hK
      refine q_seq hS rfl rfl rfl (y_extract hS rfl rfl) ?_; clear hS a; intro a hS
      apply wpList_nil
      refine p_norm ?_
      apply wp_seq
      refine c_f hS rfl ?_
      apply wp_exit
      refine p_then ?_
      refine p_then ?_
      refine p_in ?_
      refine p_norm ?_
      apply wp_seq
      apply wp_region_lit
      refine q_seq hS rfl rfl rfl (y_assign hS rfl) ?_; clear hS a; intro a hS
      apply wpList_nil
      refine p_norm ?_
      apply wp_ret
      obtain rfl := Option.some.inj hg
      refine fin1 (fn := Try.f27) hS rfl (r_tmp hS rfl) ?_
      exact rfl
set_option maxHeartbeats 400000 in
theorem c_lexicon_Check_1 (n : Nat) (M : Bs) (w0 : World) (hM : ∀ b, M b → b < w0.heap.size) (w_ : (List UInt8)) (lp01 : (w_).length ≤ 9223372036854775807) (r : Bool) (hg : lexicon_Check_1 n w_ = some r) :
    Calls Try.prog 26 [.string (bs (w_))].toArray w0 (Ret noB w0 fun v w => v = .bool (r)) := by
  unfold lexicon_Check_1 at hg
  refine enter M noB Try.func26 rfl rfl hM ?_
  intro a hS
  apply wp_seq
  apply wp_region_lit
  refine q_seq hS rfl rfl rfl (y_assign hS rfl) ?_; clear hS a; intro a hS
  apply wpList_nil
  refine p_norm ?_
  apply wp_seq
  replace hg := bind_some hg; obtain ⟨r1, hr1, hg⟩ := hg
  apply wp_region_lit
  refine q_seq hS rfl rfl rfl (y_move hS rfl) ?_; clear hS a; intro a hS
  refine l_seq rfl (l_call (cap := []) hS rfl Try.func27 rfl (by kernel_rfl) rfl rfl (c_text_Word n _ _ hS.lt w_ (by first | omega | (rw [List.length_append]; omega) | (simp only [List.length_append]; omega) | (simp only [List.length_append, List.length_take, List.length_drop, List.length_cons, List.length_nil]; omega)) r1 hr1) ?_); clear hS a; intro v4 a w hK hp hS
  clear hK
  obtain rfl := hp
  refine q_seq hS rfl rfl rfl (y_not hS rfl) ?_; clear hS a; intro a hS
  refine q_seq hS rfl rfl rfl (y_assign hS rfl) ?_; clear hS a; intro a hS
  apply wpList_nil
  refine p_norm ?_
  apply wp_ret
  obtain rfl := Option.some.inj hg
  refine fin1 (fn := Try.f26) hS rfl (r_tmp hS rfl) ?_
  exact rfl
set_option maxHeartbeats 400000 in
theorem c_lexicon_Check (n : Nat) (M : Bs) (w0 : World) (hM : ∀ b, M b → b < w0.heap.size) (e_ : (List Entry)) (Ap01 : Option Addr) (cp01 : Nat) (hp01 : SlR REntry M w0 Ap01 (e_).length cp01 (e_)) (r : Int) (hg : lexicon_Check n e_ = some r) :
    Calls Try.prog 12 [.slice (Ap01) ((e_).length) (cp01)].toArray w0 (Ret noB w0 fun v w => v = .int .i64 (r)) := by
  unfold lexicon_Check at hg
  refine enter M noB Try.func12 rfl rfl hM ?_
  intro a hS
  replace hS := hS.add 101 (slF REntry (Ap01) ((e_).length) (cp01) (e_)) (by exact Fact.change _ enterM hp01)
  apply wp_seq
  apply wp_region_lit
  refine q_seq hS rfl rfl rfl (y_assign hS rfl) ?_; clear hS a; intro a hS
  apply wpList_nil
  refine p_norm ?_
  apply wp_seq
  apply wp_seq
  apply wp_region_lit
  refine q_seq hS rfl rfl rfl (y_move hS rfl) ?_; clear hS a; intro a hS
  refine q_seq hS rfl rfl rfl (y_lenSlice hS rfl Try.underlying22) ?_; clear hS a; intro a hS
  refine q_seq hS rfl rfl rfl (y_gtrN (i := ((e_).length)) (j := 256) hS rfl rfl) ?_; clear hS a; intro a hS
  apply wpList_nil
  refine p_norm ?_
  refine c_dec hS rfl (fun hc1 => ?_) (fun hc1 => ?_)
  · replace hg := br_t hg hc1
    have hmx2 := SlR.mx (hS.fact (k := 101) rfl)
    apply wp_seq
    apply wp_region_lit
    refine q_seq hS rfl rfl rfl (y_assign hS rfl) ?_; clear hS a; intro a hS
    apply wpList_nil
    refine p_norm ?_
    apply wp_ret
    refine p_thenR ?_
    obtain rfl := Option.some.inj hg
    refine fin1 (fn := Try.f12) hS rfl (r_tmp hS rfl) ?_
    exact rfl
  · replace hg := br_f hg hc1
    apply wp_skip
    refine p_norm ?_
    apply wp_seq
    apply wp_seq
    apply wp_region_lit
    refine q_seq hS rfl rfl rfl (y_move hS rfl) ?_; clear hS a; intro a hS
    refine q_seq hS rfl rfl rfl (y_lenSlice hS rfl Try.underlying22) ?_; clear hS a; intro a hS
    refine q_seq hS rfl rfl rfl (y_move hS rfl) ?_; clear hS a; intro a hS
    apply wpList_nil
    refine p_norm ?_
    apply wp_block
    refine c_loop (σ := Nat) (fun m1 a w => ∃ (t_3 : Nat), lexicon_Check_L0 n e_ m1 t_3 = some r ∧ St (⟨Try.f12.ntmps, M, noB, w0⟩ : Ctx) [(0, .slice (Ap01) ((e_).length) (cp01)), (8, .slice (Ap01) ((e_).length) (cp01)), (9, .int .i64 ((((e_).length : Nat) : Int))), (10, .int .i64 (((t_3 : Nat) : Int)))] [] [(101, slF REntry (Ap01) ((e_).length) (cp01) (e_))] a w) (fun m1 => m1) n ⟨(0), hg, (hS.sub ⟨rfl, rfl, rfl, rfl, trivial⟩ trivial ⟨rfl, trivial⟩)⟩ ?_
    clear hS a; rintro m1 a w ⟨t_3, hg, hS⟩
    rcases m1 with _ | m1
    · rw [lexicon_Check_L0] at hg; cases hg
    rw [lexicon_Check_L0] at hg
    apply wp_seq
    apply wp_region_lit
    refine q_seq hS rfl rfl rfl (y_lssN (i := t_3) (j := ((e_).length)) hS rfl rfl) ?_; clear hS a; intro a hS
    apply wpList_nil
    refine p_norm ?_
    apply wp_seq
    refine c_dec hS rfl (fun hc4 => ?_) (fun hc4 => ?_)
    · replace hg := br_t hg hc4
      have hmx5 := SlR.mx (hS.fact (k := 101) rfl)
      apply wp_skip
      refine p_norm ?_
      apply wp_seq
      apply wp_block
      apply wp_seq
      replace hg := bind_some hg; obtain ⟨x7, hx7, hg⟩ := hg
      apply wp_region_lit
      refine q_seq hS rfl rfl rfl (y_move hS rfl) ?_; clear hS a; intro a hS
      obtain ⟨p10, hep10, hpp10⟩ := SlR.elemX (hS.fact (k := 101) rfl) hx7
      refine q_seq hS rfl rfl rfl (y_elem (sz := 3) (i := t_3) hS rfl rfl Try.underlying22 rfl hep10 rfl (lt_of_get hx7)) ?_; clear hS a; intro a hS
      obtain ⟨hlq11, hmq11, csq11, hdq11, hcq11⟩ := hpp10
      obtain ⟨Aq112, cq112, Aq113, cq113, rfl, lq111, hq112, hq113⟩ := REntry.open hdq11
      replace hS := hS.add 104 (slF Rep.str (Aq112) ((x7.Words).length) (cq112) (x7.Words)) hq112
      replace hS := hS.add 105 (slF RNode (Aq113) ((x7.FS.Nodes).length) (cq113) (x7.FS.Nodes)) hq113
      refine q_seq hS rfl rfl rfl (y_ldp hS rfl hlq11 hmq11 (by simpa using hcq11) Try.underlying47 rfl rfl) ?_; clear hS a; intro a hS
      refine l_seq rfl (l_alloc (zs := [.string (bs ([])), .slice (none) (0) (0), .slice (none) (0) (0)]) hS 1503 rfl rfl rfl rfl ?_); clear hS a; intro b12 a w hb hK hS
      clear hb
      clear hK
      refine q_seq hS rfl rfl rfl (y_assign hS rfl) ?_; clear hS a; intro a hS
      refine l_seq rfl (l_store (n := 3) (cs' := [.string (bs (x7.Name)), .slice (Aq112) ((x7.Words).length) (cq112), .slice (Aq113) ((x7.FS.Nodes).length) (cq113)]) hS 1503 rfl rfl rfl rfl rfl rfl rfl rfl ?_); clear hS; intro w hK hS; clear hK
      apply wpList_nil
      refine p_norm ?_
      apply wp_block
      apply wp_seq
      replace hg := bind_some hg; obtain ⟨r13, hr13, hg⟩ := hg
      apply wp_region_lit
      refine q_seq hS rfl rfl rfl (y_boxField (o' := 0) hS rfl Try.underlying47 rfl rfl rfl) ?_; clear hS a; intro a hS
      refine q_seq hS rfl rfl rfl (y_loadBox1 (kk := 1503) hS rfl rfl rfl Try.underlying9 rfl) ?_; clear hS a; intro a hS
      refine l_seq rfl (l_call (cap := []) hS rfl Try.func24 rfl (by kernel_rfl) rfl rfl (c_text_Name n _ _ hS.lt x7.Name (by first | omega | (rw [List.length_append]; omega) | (simp only [List.length_append]; omega) | (simp only [List.length_append, List.length_take, List.length_drop, List.length_cons, List.length_nil]; omega)) r13 hr13) ?_); clear hS a; intro v16 a w hK hp hS
      clear hK
      obtain rfl := hp
      refine q_seq hS rfl rfl rfl (y_not hS rfl) ?_; clear hS a; intro a hS
      refine q_seq hS rfl rfl rfl (y_assign hS rfl) ?_; clear hS a; intro a hS
      apply wpList_nil
      refine p_norm ?_
      refine c_cond hS rfl (fun hc18 => ?_) (fun hc18 => ?_)
      · replace hg := br_t hg hc18
        apply wp_seq
        apply wp_region_lit
        refine q_seq hS rfl rfl rfl (y_assign hS rfl) ?_; clear hS a; intro a hS
        apply wpList_nil
        refine p_norm ?_
        apply wp_ret
        refine p_inR ?_
        refine p_inR ?_
        refine p_thenR ?_
        refine p_thenR ?_
        refine p_inR ?_
        refine p_thenR ?_
        obtain rfl := Option.some.inj hg
        refine fin1 (fn := Try.f12) hS rfl (r_tmp hS rfl) ?_
        exact rfl
      · replace hg := br_f hg (by rw [hc18]; exact Bool.false_ne_true)
        apply wp_seq
        replace hg := jn_some hg; obtain ⟨k19, hg, hk19⟩ := hg
        refine c_post (fun a w => ∃ (t_20 : Bool), k19 t_20 = some r ∧ St (⟨Try.f12.ntmps, M, noB, w0⟩ : Ctx) [(0, .slice (Ap01) ((e_).length) (cp01)), (4, .pointer (some ⟨b12, 0, none⟩)), (8, .slice (Ap01) ((e_).length) (cp01)), (9, .int .i64 ((((e_).length : Nat) : Int))), (10, .int .i64 (((t_3 : Nat) : Int))), (20, .bool (t_20))] [(1503, Ob.box b12 [.string (bs (x7.Name)), .slice (Aq112) ((x7.Words).length) (cq112), .slice (Aq113) ((x7.FS.Nodes).length) (cq113)] 47)] [(101, slF REntry (Ap01) ((e_).length) (cp01) (e_)), (104, slF Rep.str (Aq112) ((x7.Words).length) (cq112) (x7.Words)), (105, slF RNode (Aq113) ((x7.FS.Nodes).length) (cq113) (x7.FS.Nodes))] a w) ?_ ?_
        · rcases Decidable.em ((0 : Nat) < t_3) with hs21 | hs21
          · have hs21e : decide ((0 : Nat) < t_3) = true := decide_eq_true hs21
            replace hg := br_t hg hs21
            replace hg := bind_some hg; obtain ⟨x23, hx23, hg⟩ := hg
            refine d_plan hS [] [(0, some 0), (1, some 0), (2, some 0), (3, some 0), (4, some 1503), (5, some 0), (6, some 0), (7, some 0), (8, some 0), (9, some 0), (10, some 0), (11, some 0), (12, some 0), (13, some 0)] rfl (by kernel_rfl) (by kernel_rfl) rfl ?_; clear hS; intro wr hZ hS; have hR := hS.wd
            refine q_take hS hR rfl rfl rfl rfl (y_move hS rfl) ?_; clear hS a; intro a hS
            refine q_take hS hR rfl rfl rfl rfl (yl_b (y_gtrN (i := t_3) (j := 0) hS rfl rfl) hs21e) ?_; clear hS a; intro a hS
            refine q_take hS hR rfl rfl rfl rfl (y_move hS rfl) ?_; clear hS a; intro a hS
            refine q_take hS hR rfl rfl ⟨_, _, _, rfl, rfl, rfl, rfl⟩ rfl (y_boxField (o' := 0) hS rfl Try.underlying47 rfl rfl rfl) ?_; clear hS a; intro a hS
            refine q_take hS hR rfl rfl ⟨_, _, _, rfl, rfl, rfl, rfl⟩ rfl (y_loadBox1 (kk := 1503) hS rfl rfl rfl Try.underlying9 rfl) ?_; clear hS a; intro a hS
            refine q_take hS hR rfl rfl ⟨_, _, _, rfl, rfl, rfl, rfl⟩ rfl (y_move hS rfl) ?_; clear hS a; intro a hS
            refine q_take hS hR rfl rfl ⟨_, _, _, rfl, rfl, rfl, rfl⟩ rfl (y_move hS rfl) ?_; clear hS a; intro a hS
            refine q_take hS hR rfl rfl ⟨_, _, _, rfl, rfl, rfl, rfl⟩ rfl (y_sub hS rfl rfl (in64.2 (by omega))) ?_; clear hS a; intro a hS
            obtain ⟨p25, hep25, hpp25⟩ := SlR.elemX (hS.fact (k := 101) rfl) (ix_some hx23).1
            refine q_take hS hR rfl rfl ⟨_, _, _, rfl, rfl, rfl, rfl⟩ rfl (y_elem (sz := 3) (i := ((((t_3 : Nat) : Int) - 1).toNat)) hS rfl rfl Try.underlying22 rfl hep25 (ix_some hx23).2.1 (lt_of_get (ix_some hx23).1)) ?_; clear hS a; intro a hS
            refine q_take hS hR rfl rfl ⟨_, _, _, rfl, rfl, rfl, rfl⟩ rfl (y_ptrField (o' := 0) hS rfl Try.underlying47 rfl rfl rfl) ?_; clear hS a; intro a hS
            obtain ⟨hlq26, hmq26, csq26, hdq26, hcq26⟩ := hpp25
            obtain ⟨Aq262, cq262, Aq263, cq263, rfl, lq261, hq262, hq263⟩ := REntry.open hdq26
            replace hS := hS.add 108 (slF Rep.str (Aq262) ((x23.Words).length) (cq262) (x23.Words)) hq262
            replace hS := hS.add 109 (slF RNode (Aq263) ((x23.FS.Nodes).length) (cq263) (x23.FS.Nodes)) hq263
            refine q_take hS hR rfl rfl ⟨_, _, _, rfl, rfl, rfl, rfl⟩ rfl (y_ldp1 hS rfl hlq26 hmq26 (hcq26 0 _ rfl) Try.underlying9 rfl) ?_; clear hS a; intro a hS
            refine q_take hS hR rfl rfl ⟨_, _, _, rfl, rfl, rfl, rfl⟩ rfl (y_sleq hS rfl rfl) ?_; clear hS a; intro a hS
            refine q_take hS hR rfl rfl rfl rfl (y_pick_t hS rfl rfl) ?_; clear hS a; intro a hS
            refine q_take hS hR rfl rfl rfl rfl (y_assign hS rfl) ?_; clear hS a; intro a hS
            clear hR hZ
            refine p_norm ?_
            exact ⟨((Op.bytesLess x7.Name x23.Name) || (x7.Name == x23.Name)), hg, (hS.sub ⟨rfl, rfl, rfl, rfl, rfl, rfl, trivial⟩ ⟨rfl, trivial⟩ ⟨rfl, rfl, rfl, trivial⟩)⟩
          · have hs21e : decide ((0 : Nat) < t_3) = false := decide_eq_false hs21
            replace hg := br_f hg hs21
            refine d_plan hS [] [(0, some 0), (1, some 0), (2, some 0), (3, some 0), (4, some 0), (5, some 0), (6, some 0), (7, some 0), (8, some 0), (9, some 0), (10, some 0), (11, some 0), (12, some 0), (13, some 0)] rfl (by kernel_rfl) (by kernel_rfl) rfl ?_; clear hS; intro wr hZ hS; have hR := hS.wd
            refine q_take hS hR rfl rfl rfl rfl (y_move hS rfl) ?_; clear hS a; intro a hS
            refine q_take hS hR rfl rfl rfl rfl (yl_b (y_gtrN (i := t_3) (j := 0) hS rfl rfl) hs21e) ?_; clear hS a; intro a hS
            refine q_take hS hR rfl rfl rfl rfl (y_move hS rfl) ?_; clear hS a; intro a hS
            refine q_pass hS hR rfl rfl ⟨_, _, _, rfl, rfl, rfl, rfl⟩ rfl ?_; clear hS a; intro a hS
            refine q_pass hS hR rfl rfl ⟨_, _, _, rfl, rfl, rfl, rfl⟩ rfl ?_; clear hS a; intro a hS
            refine q_pass hS hR rfl rfl ⟨_, _, _, rfl, rfl, rfl, rfl⟩ rfl ?_; clear hS a; intro a hS
            refine q_pass hS hR rfl rfl ⟨_, _, _, rfl, rfl, rfl, rfl⟩ rfl ?_; clear hS a; intro a hS
            refine q_pass hS hR rfl rfl ⟨_, _, _, rfl, rfl, rfl, rfl⟩ rfl ?_; clear hS a; intro a hS
            refine q_pass hS hR rfl rfl ⟨_, _, _, rfl, rfl, rfl, rfl⟩ rfl ?_; clear hS a; intro a hS
            refine q_pass hS hR rfl rfl ⟨_, _, _, rfl, rfl, rfl, rfl⟩ rfl ?_; clear hS a; intro a hS
            refine q_pass hS hR rfl rfl ⟨_, _, _, rfl, rfl, rfl, rfl⟩ rfl ?_; clear hS a; intro a hS
            refine q_pass hS hR rfl rfl ⟨_, _, _, rfl, rfl, rfl, rfl⟩ rfl ?_; clear hS a; intro a hS
            refine q_take hS hR rfl rfl rfl rfl (y_pick_f hS rfl rfl) ?_; clear hS a; intro a hS
            refine q_take hS hR rfl rfl rfl rfl (y_assign hS rfl) ?_; clear hS a; intro a hS
            clear hR hZ
            refine p_norm ?_
            exact ⟨(false), hg, (hS.sub ⟨rfl, rfl, rfl, rfl, rfl, rfl, trivial⟩ ⟨rfl, trivial⟩ ⟨rfl, rfl, rfl, trivial⟩)⟩
        clear hS a; rintro a w ⟨t_20, hg, hS⟩
        subst hk19
        refine c_cond hS rfl (fun hc27 => ?_) (fun hc27 => ?_)
        · replace hg := br_t hg hc27
          apply wp_seq
          apply wp_region_lit
          refine q_seq hS rfl rfl rfl (y_assign hS rfl) ?_; clear hS a; intro a hS
          apply wpList_nil
          refine p_norm ?_
          apply wp_ret
          refine p_inR ?_
          refine p_inR ?_
          refine p_thenR ?_
          refine p_thenR ?_
          refine p_inR ?_
          refine p_thenR ?_
          obtain rfl := Option.some.inj hg
          refine fin1 (fn := Try.f12) hS rfl (r_tmp hS rfl) ?_
          exact rfl
        · replace hg := br_f hg (by rw [hc27]; exact Bool.false_ne_true)
          apply wp_seq
          apply wp_region_lit
          refine q_seq hS rfl rfl rfl (y_boxField (o' := 1) hS rfl Try.underlying47 rfl rfl rfl) ?_; clear hS a; intro a hS
          refine q_seq hS rfl rfl rfl (y_loadBox1 (kk := 1503) hS rfl rfl rfl Try.underlying27 rfl) ?_; clear hS a; intro a hS
          refine q_seq hS rfl rfl rfl (y_lenSlice hS rfl Try.underlying27) ?_; clear hS a; intro a hS
          refine q_seq hS rfl rfl rfl (y_eqlN (i := ((x7.Words).length)) (j := 0) hS rfl rfl) ?_; clear hS a; intro a hS
          refine q_seq hS rfl rfl rfl (y_assign hS rfl) ?_; clear hS a; intro a hS
          apply wpList_nil
          refine p_norm ?_
          refine c_dec hS rfl (fun hc28 => ?_) (fun hc28 => ?_)
          · replace hg := br_t hg hc28
            apply wp_seq
            apply wp_region_lit
            refine q_seq hS rfl rfl rfl (y_assign hS rfl) ?_; clear hS a; intro a hS
            apply wpList_nil
            refine p_norm ?_
            apply wp_ret
            refine p_inR ?_
            refine p_inR ?_
            refine p_thenR ?_
            refine p_thenR ?_
            refine p_inR ?_
            refine p_thenR ?_
            obtain rfl := Option.some.inj hg
            refine fin1 (fn := Try.f12) hS rfl (r_tmp hS rfl) ?_
            exact rfl
          · replace hg := br_f hg hc28
            apply wp_seq
            apply wp_region_lit
            refine q_seq hS rfl rfl rfl (y_boxField (o' := 1) hS rfl Try.underlying47 rfl rfl rfl) ?_; clear hS a; intro a hS
            refine q_seq hS rfl rfl rfl (y_loadBox1 (kk := 1503) hS rfl rfl rfl Try.underlying27 rfl) ?_; clear hS a; intro a hS
            refine q_seq hS rfl rfl rfl (y_lenSlice hS rfl Try.underlying27) ?_; clear hS a; intro a hS
            refine q_seq hS rfl rfl rfl (y_gtrN (i := ((x7.Words).length)) (j := 4) hS rfl rfl) ?_; clear hS a; intro a hS
            refine q_seq hS rfl rfl rfl (y_assign hS rfl) ?_; clear hS a; intro a hS
            apply wpList_nil
            refine p_norm ?_
            refine c_dec hS rfl (fun hc29 => ?_) (fun hc29 => ?_)
            · replace hg := br_t hg hc29
              have hmx30 := SlR.mx (hS.fact (k := 104) rfl)
              apply wp_seq
              apply wp_region_lit
              refine q_seq hS rfl rfl rfl (y_assign hS rfl) ?_; clear hS a; intro a hS
              apply wpList_nil
              refine p_norm ?_
              apply wp_ret
              refine p_inR ?_
              refine p_inR ?_
              refine p_thenR ?_
              refine p_thenR ?_
              refine p_inR ?_
              refine p_thenR ?_
              obtain rfl := Option.some.inj hg
              refine fin1 (fn := Try.f12) hS rfl (r_tmp hS rfl) ?_
              exact rfl
            · replace hg := br_f hg hc29
              apply wp_seq
              replace hg := bind_some hg; obtain ⟨r31, hr31, hg⟩ := hg
              apply wp_region_lit
              refine q_seq hS rfl rfl rfl (y_boxField (o' := 1) hS rfl Try.underlying47 rfl rfl rfl) ?_; clear hS a; intro a hS
              refine q_seq hS rfl rfl rfl (y_loadBox1 (kk := 1503) hS rfl rfl rfl Try.underlying27 rfl) ?_; clear hS a; intro a hS
              refine l_seq rfl (l_call (cap := []) hS rfl Try.func25 rfl (by kernel_rfl) rfl rfl (c_slices_ContainsFunc_string n _ _ hS.lt x7.Words (Aq112) (cq112) (hS.fact (k := 104) rfl) (fun p => lexicon_Check_1 n p) (26) ([]) ⟨⟨_, _, Try.func26, rfl, by kernel_rfl⟩, fun M1 w1 hk hm hlt vs x r hp hr => by obtain ⟨rfl, la1⟩ := hp; exact c_lexicon_Check_1 n M1 w1 hlt (x) la1 r hr⟩ r31 hr31) ?_); clear hS a; intro v34 a w hK hp hS
              clear hK
              obtain rfl := hp
              refine q_seq hS rfl rfl rfl (y_assign hS rfl) ?_; clear hS a; intro a hS
              apply wpList_nil
              refine p_norm ?_
              refine c_cond hS rfl (fun hc36 => ?_) (fun hc36 => ?_)
              · replace hg := br_t hg hc36
                apply wp_seq
                apply wp_region_lit
                refine q_seq hS rfl rfl rfl (y_assign hS rfl) ?_; clear hS a; intro a hS
                apply wpList_nil
                refine p_norm ?_
                apply wp_ret
                refine p_inR ?_
                refine p_inR ?_
                refine p_thenR ?_
                refine p_thenR ?_
                refine p_inR ?_
                refine p_thenR ?_
                obtain rfl := Option.some.inj hg
                refine fin1 (fn := Try.f12) hS rfl (r_tmp hS rfl) ?_
                exact rfl
              · replace hg := br_f hg (by rw [hc36]; exact Bool.false_ne_true)
                apply wp_skip
                refine p_inN ?_
                refine p_inN ?_
                refine p_norm ?_
                apply wp_region_lit
                refine q_seq hS rfl rfl rfl (y_addN (i := t_3) (j := 1) hS rfl rfl (in64.2 (by omega))) ?_; clear hS a; intro a hS
                refine q_seq hS rfl rfl rfl (y_move hS rfl) ?_; clear hS a; intro a hS
                apply wpList_nil
                refine p_norm ?_
                exact ⟨m1, Nat.lt_succ_self _, ⟨(t_3 + 1), hg, (hS.sub ⟨rfl, rfl, rfl, rfl, trivial⟩ trivial ⟨rfl, trivial⟩)⟩⟩
    · replace hg := br_f hg hc4
      apply wp_exit
      refine p_then ?_
      refine p_then ?_
      refine p_in ?_
      refine p_norm ?_
      apply wp_seq
      apply wp_region_lit
      refine q_seq hS rfl rfl rfl (y_assign hS rfl) ?_; clear hS a; intro a hS
      apply wpList_nil
      refine p_norm ?_
      apply wp_ret
      obtain rfl := Option.some.inj hg
      refine fin1 (fn := Try.f12) hS rfl (r_tmp hS rfl) ?_
      exact rfl
set_option maxHeartbeats 400000 in
theorem c_r24_SameInts (n : Nat) (M : Bs) (w0 : World) (hM : ∀ b, M b → b < w0.heap.size) (a_ : (List Int)) (Ap01 : Option Addr) (cp01 : Nat) (hp01 : SlR (Rep.num .i64) M w0 Ap01 (a_).length cp01 (a_)) (b_ : (List Int)) (Ap11 : Option Addr) (cp11 : Nat) (hp11 : SlR (Rep.num .i64) M w0 Ap11 (b_).length cp11 (b_)) (r : Bool) (hg : r24_SameInts n a_ b_ = some r) :
    Calls Try.prog 15 [.slice (Ap01) ((a_).length) (cp01), .slice (Ap11) ((b_).length) (cp11)].toArray w0 (Ret noB w0 fun v w => v = .bool (r)) := by
  unfold r24_SameInts at hg
  refine enter M noB Try.func15 rfl rfl hM ?_
  intro a hS
  replace hS := hS.add 101 (slF (Rep.num .i64) (Ap01) ((a_).length) (cp01) (a_)) (by exact Fact.change _ enterM hp01)
  replace hS := hS.add 102 (slF (Rep.num .i64) (Ap11) ((b_).length) (cp11) (b_)) (by exact Fact.change _ enterM hp11)
  apply wp_seq
  apply wp_region_lit
  refine q_seq hS rfl rfl rfl (y_assign hS rfl) ?_; clear hS a; intro a hS
  apply wpList_nil
  refine p_norm ?_
  apply wp_seq
  apply wp_seq
  apply wp_region_lit
  refine q_seq hS rfl rfl rfl (y_move hS rfl) ?_; clear hS a; intro a hS
  refine q_seq hS rfl rfl rfl (y_lenSlice hS rfl Try.underlying30) ?_; clear hS a; intro a hS
  refine q_seq hS rfl rfl rfl (y_move hS rfl) ?_; clear hS a; intro a hS
  refine q_seq hS rfl rfl rfl (y_lenSlice hS rfl Try.underlying30) ?_; clear hS a; intro a hS
  refine q_seq hS rfl rfl rfl (y_neqN (i := ((a_).length)) (j := ((b_).length)) hS rfl rfl) ?_; clear hS a; intro a hS
  apply wpList_nil
  refine p_norm ?_
  refine c_dec hS rfl (fun hc1 => ?_) (fun hc1 => ?_)
  · replace hg := br_t hg hc1
    apply wp_seq
    apply wp_region_lit
    refine q_seq hS rfl rfl rfl (y_assign hS rfl) ?_; clear hS a; intro a hS
    apply wpList_nil
    refine p_norm ?_
    apply wp_ret
    refine p_thenR ?_
    obtain rfl := Option.some.inj hg
    refine fin1 (fn := Try.f15) hS rfl (r_tmp hS rfl) ?_
    exact rfl
  · replace hg := br_f hg hc1
    apply wp_skip
    refine p_norm ?_
    apply wp_seq
    apply wp_seq
    apply wp_region_lit
    refine q_seq hS rfl rfl rfl (y_assign hS rfl) ?_; clear hS a; intro a hS
    apply wpList_nil
    refine p_norm ?_
    apply wp_block
    refine c_loop (σ := Nat) (fun m1 a w => ∃ (i_2 : Nat), r24_SameInts_L0 n a_ b_ m1 i_2 = some r ∧ St (⟨Try.f15.ntmps, M, noB, w0⟩ : Ctx) [(0, .slice (Ap01) ((a_).length) (cp01)), (1, .slice (Ap11) ((b_).length) (cp11)), (5, .int .i64 (((i_2 : Nat) : Int)))] [] [(101, slF (Rep.num .i64) (Ap01) ((a_).length) (cp01) (a_)), (102, slF (Rep.num .i64) (Ap11) ((b_).length) (cp11) (b_))] a w) (fun m1 => m1) n ⟨(0), hg, (hS.sub ⟨rfl, rfl, rfl, trivial⟩ trivial ⟨rfl, rfl, trivial⟩)⟩ ?_
    clear hS a; rintro m1 a w ⟨i_2, hg, hS⟩
    rcases m1 with _ | m1
    · rw [r24_SameInts_L0] at hg; cases hg
    rw [r24_SameInts_L0] at hg
    apply wp_seq
    apply wp_seq
    apply wp_region_lit
    refine q_seq hS rfl rfl rfl (y_move hS rfl) ?_; clear hS a; intro a hS
    refine q_seq hS rfl rfl rfl (y_move hS rfl) ?_; clear hS a; intro a hS
    refine q_seq hS rfl rfl rfl (y_lenSlice hS rfl Try.underlying30) ?_; clear hS a; intro a hS
    refine q_seq hS rfl rfl rfl (y_lssN (i := i_2) (j := ((a_).length)) hS rfl rfl) ?_; clear hS a; intro a hS
    apply wpList_nil
    refine p_norm ?_
    refine c_dec hS rfl (fun hc3 => ?_) (fun hc3 => ?_)
    · replace hg := br_t hg hc3
      have hmx4 := SlR.mx (hS.fact (k := 101) rfl)
      apply wp_skip
      refine p_norm ?_
      apply wp_seq
      apply wp_block
      apply wp_seq
      replace hg := bind_some hg; obtain ⟨x6, hx6, hg⟩ := hg
      replace hg := bind_some hg; obtain ⟨x9, hx9, hg⟩ := hg
      refine d_plan hS [] [(0, some 0), (1, some 0), (2, some 0), (3, some 0), (4, some 0), (5, some 0), (6, some 0), (7, some 0), (8, some 0)] rfl (by kernel_rfl) (by kernel_rfl) rfl ?_; clear hS; intro wr hZ hS; have hR := hS.wd
      refine q_take hS hR rfl rfl rfl rfl (y_move hS rfl) ?_; clear hS a; intro a hS
      refine q_take hS hR rfl rfl rfl rfl (y_move hS rfl) ?_; clear hS a; intro a hS
      obtain ⟨p11, hep11, hpp11⟩ := SlR.elemX (hS.fact (k := 101) rfl) hx6
      refine q_take hS hR rfl rfl rfl rfl (y_elem (sz := 1) (i := i_2) hS rfl rfl Try.underlying30 rfl hep11 rfl (lt_of_get hx6)) ?_; clear hS a; intro a hS
      obtain ⟨hlq12, hmq12, csq12, hdq12, hcq12⟩ := hpp11
      obtain rfl := hdq12
      refine q_take hS hR rfl rfl rfl rfl (y_ldp1 hS rfl hlq12 hmq12 (hcq12 0 _ rfl) Try.underlying3 rfl) ?_; clear hS a; intro a hS
      refine q_take hS hR rfl rfl rfl rfl (y_move hS rfl) ?_; clear hS a; intro a hS
      refine q_take hS hR rfl rfl rfl rfl (y_move hS rfl) ?_; clear hS a; intro a hS
      obtain ⟨p13, hep13, hpp13⟩ := SlR.elemX (hS.fact (k := 102) rfl) hx9
      refine q_take hS hR rfl rfl rfl rfl (y_elem (sz := 1) (i := i_2) hS rfl rfl Try.underlying30 rfl hep13 rfl (lt_of_get hx9)) ?_; clear hS a; intro a hS
      obtain ⟨hlq14, hmq14, csq14, hdq14, hcq14⟩ := hpp13
      obtain rfl := hdq14
      refine q_take hS hR rfl rfl rfl rfl (y_ldp1 hS rfl hlq14 hmq14 (hcq14 0 _ rfl) Try.underlying3 rfl) ?_; clear hS a; intro a hS
      refine q_take hS hR rfl rfl rfl rfl (y_neq hS rfl rfl) ?_; clear hS a; intro a hS
      clear hR hZ
      refine p_norm ?_
      refine c_dec hS rfl (fun hc15 => ?_) (fun hc15 => ?_)
      · replace hg := br_t hg hc15
        apply wp_seq
        apply wp_region_lit
        refine q_seq hS rfl rfl rfl (y_assign hS rfl) ?_; clear hS a; intro a hS
        apply wpList_nil
        refine p_norm ?_
        apply wp_ret
        refine p_inR ?_
        refine p_thenR ?_
        refine p_thenR ?_
        refine p_inR ?_
        refine p_thenR ?_
        obtain rfl := Option.some.inj hg
        refine fin1 (fn := Try.f15) hS rfl (r_tmp hS rfl) ?_
        exact rfl
      · replace hg := br_f hg hc15
        apply wp_skip
        refine p_inN ?_
        refine p_norm ?_
        apply wp_region_lit
        refine q_seq hS rfl rfl rfl (y_move hS rfl) ?_; clear hS a; intro a hS
        refine q_seq hS rfl rfl rfl (y_addN (i := i_2) (j := 1) hS rfl rfl (in64.2 (by omega))) ?_; clear hS a; intro a hS
        refine q_seq hS rfl rfl rfl (y_assign hS rfl) ?_; clear hS a; intro a hS
        apply wpList_nil
        refine p_norm ?_
        exact ⟨m1, Nat.lt_succ_self _, ⟨(i_2 + 1), hg, (hS.sub ⟨rfl, rfl, rfl, trivial⟩ trivial ⟨rfl, rfl, trivial⟩)⟩⟩
    · replace hg := br_f hg hc3
      apply wp_exit
      refine p_then ?_
      refine p_then ?_
      refine p_in ?_
      refine p_norm ?_
      apply wp_seq
      apply wp_region_lit
      refine q_seq hS rfl rfl rfl (y_assign hS rfl) ?_; clear hS a; intro a hS
      apply wpList_nil
      refine p_norm ?_
      apply wp_ret
      obtain rfl := Option.some.inj hg
      refine fin1 (fn := Try.f15) hS rfl (r_tmp hS rfl) ?_
      exact rfl
set_option maxHeartbeats 400000 in
theorem c_lexicon_indices_Entry (n : Nat) (M : Bs) (w0 : World) (hM : ∀ b, M b → b < w0.heap.size) (l_ : (List Entry)) (Ap01 : Option Addr) (cp01 : Nat) (hp01 : SlR REntry M w0 Ap01 (l_).length cp01 (l_)) (f_ : (Entry → Option Bool)) (Ap11 : FuncId) (cp11 : List Value) (hp11 : FnR Try.prog Ap11 cp11 pre60 post60 (f_) M w0) (r : (List Int)) (hg : lexicon_indices_Entry n l_ f_ = some r) :
    Calls Try.prog 32 [.slice (Ap01) ((l_).length) (cp01), .func (.func Ap11) #[] (List.toArray cp11)].toArray w0 (Ret noB w0 fun v w => ∃ (Aa1 : Option Addr), ∃ (ca1 : Nat), v = .slice (Aa1) ((r).length) (ca1) ∧ (SlR (Rep.num .i64) M w Aa1 (r).length ca1 (r))) := by
  unfold lexicon_indices_Entry at hg
  refine enter M noB Try.func32 rfl rfl hM ?_
  intro a hS
  replace hS := hS.add 101 (slF REntry (Ap01) ((l_).length) (cp01) (l_)) (by exact Fact.change _ enterM hp01)
  replace hS := hS.add 102 (fnF Try.prog Ap11 cp11 pre60 post60 (f_)) (by exact Fact.change _ enterM hp11)
  apply wp_seq
  apply wp_region_lit
  refine q_seq hS rfl rfl rfl (y_assign hS rfl) ?_; clear hS a; intro a hS
  apply wpList_nil
  refine p_norm ?_
  apply wp_seq
  apply wp_region_lit
  refine q_seq hS rfl rfl rfl (y_assign hS rfl) ?_; clear hS a; intro a hS
  apply wpList_nil
  refine p_norm ?_
  apply wp_seq
  apply wp_seq
  apply wp_region_lit
  refine q_seq hS rfl rfl rfl (y_move hS rfl) ?_; clear hS a; intro a hS
  refine q_seq hS rfl rfl rfl (y_lenSlice hS rfl Try.underlying22) ?_; clear hS a; intro a hS
  refine q_seq hS rfl rfl rfl (y_move hS rfl) ?_; clear hS a; intro a hS
  apply wpList_nil
  refine p_norm ?_
  apply wp_block
  replace hS := hS.nilRow 700103 3 1 rfl
  replace hS := hS.add 104 (rdF (Rep.num .i64) [] []) (RdAll.nil _ _ _)
  refine c_loop (σ := Nat) (fun m1 a w => ∃ (out_1 : (List Int)), ∃ (t_5 : Nat), ∃ (A2 : Option Addr), ∃ (c3 : Nat), ∃ (cs4 : List Value), lexicon_indices_Entry_L0 n l_ f_ m1 out_1 t_5 = some r ∧ St (⟨Try.f32.ntmps, M, noB, w0⟩ : Ctx) [(0, .slice (Ap01) ((l_).length) (cp01)), (1, .func (.func Ap11) #[] (List.toArray cp11)), (5, .slice (A2) ((out_1).length) (c3)), (8, .int .i64 ((((l_).length : Nat) : Int))), (9, .int .i64 (((t_5 : Nat) : Int)))] [(700103, Ob.row (A2) ((out_1).length) (c3) 3 1 (cs4))] [(101, slF REntry (Ap01) ((l_).length) (cp01) (l_)), (102, fnF Try.prog Ap11 cp11 pre60 post60 (f_)), (104, rdF (Rep.num .i64) (cs4) (out_1))] a w) (fun m1 => m1) n ⟨([]), (0), (none), (0), ([]), hg, (hS.sub ⟨rfl, rfl, rfl, rfl, rfl, trivial⟩ ⟨rfl, trivial⟩ ⟨rfl, rfl, rfl, trivial⟩)⟩ ?_
  clear hS a; rintro m1 a w ⟨out_1, t_5, A2, c3, cs4, hg, hS⟩
  rcases m1 with _ | m1
  · rw [lexicon_indices_Entry_L0] at hg; cases hg
  rw [lexicon_indices_Entry_L0] at hg
  apply wp_seq
  apply wp_region_lit
  refine q_seq hS rfl rfl rfl (y_lssN (i := t_5) (j := ((l_).length)) hS rfl rfl) ?_; clear hS a; intro a hS
  apply wpList_nil
  refine p_norm ?_
  apply wp_seq
  refine c_dec hS rfl (fun hc6 => ?_) (fun hc6 => ?_)
  · replace hg := br_t hg hc6
    have hmx7 := SlR.mx (hS.fact (k := 101) rfl)
    apply wp_skip
    refine p_norm ?_
    apply wp_seq
    apply wp_block
    apply wp_seq
    apply wp_region_lit
    refine q_seq hS rfl rfl rfl (y_move hS rfl) ?_; clear hS a; intro a hS
    refine q_seq hS rfl rfl rfl (y_assign hS rfl) ?_; clear hS a; intro a hS
    apply wpList_nil
    refine p_norm ?_
    apply wp_seq
    replace hg := bind_some hg; obtain ⟨x9, hx9, hg⟩ := hg
    replace hg := bind_some hg; obtain ⟨r11, hr11, hg⟩ := hg
    apply wp_region_lit
    refine q_seq hS rfl rfl rfl (y_move hS rfl) ?_; clear hS a; intro a hS
    refine q_seq hS rfl rfl rfl (y_move hS rfl) ?_; clear hS a; intro a hS
    refine q_seq hS rfl rfl rfl (y_move hS rfl) ?_; clear hS a; intro a hS
    obtain ⟨p14, hep14, hpp14⟩ := SlR.elemX (hS.fact (k := 101) rfl) hx9
    refine q_seq hS rfl rfl rfl (y_elem (sz := 3) (i := t_5) hS rfl rfl Try.underlying22 rfl hep14 rfl (lt_of_get hx9)) ?_; clear hS a; intro a hS
    obtain ⟨hlq15, hmq15, csq15, hdq15, hcq15⟩ := hpp14
    obtain ⟨Aq152, cq152, Aq153, cq153, rfl, lq151, hq152, hq153⟩ := REntry.open hdq15
    replace hS := hS.add 107 (slF Rep.str (Aq152) ((x9.Words).length) (cq152) (x9.Words)) hq152
    replace hS := hS.add 108 (slF RNode (Aq153) ((x9.FS.Nodes).length) (cq153) (x9.FS.Nodes)) hq153
    refine q_seq hS rfl rfl rfl (y_ldp hS rfl hlq15 hmq15 (by simpa using hcq15) Try.underlying47 rfl rfl) ?_; clear hS a; intro a hS
    refine l_seq rfl (l_callFn (cap := cp11) (x := x9) hS rfl (hS.fact (k := 102) rfl) rfl rfl ⟨(Aq152), (cq152), (Aq153), (cq153), rfl, (by first | omega | (rw [List.length_append]; omega) | (simp only [List.length_append]; omega) | (simp only [List.length_append, List.length_take, List.length_drop, List.length_cons, List.length_nil]; omega)), (hS.fact (k := 107) rfl), (hS.fact (k := 108) rfl)⟩ hr11 ?_); clear hS a; intro v16 a w hK hp hS
    clear hK
    obtain rfl := hp
    apply wpList_nil
    refine p_norm ?_
    refine c_cond hS rfl (fun hc18 => ?_) (fun hc18 => ?_)
    · replace hg := br_t hg hc18
      replace hg := chk_some hg; obtain ⟨hk20, hg⟩ := hg
      apply wp_region_lit
      refine q_seq hS rfl rfl rfl (y_move hS rfl) ?_; clear hS a; intro a hS
      refine q_seq hS rfl rfl rfl (y_move hS rfl) ?_; clear hS a; intro a hS
      refine l_seq rfl (l_buildDense (sz := 1) hS 1602 rfl rfl rfl Try.underlying30 rfl rfl rfl rfl rfl rfl rfl ?_); clear hS a; intro b23 a w hbb23 hK hS
      clear hbb23
      clear hK
      replace hS := hS.add 111 (rdF (Rep.num .i64) (cellsOfL [.int .i64 (((t_5 : Nat) : Int))]) ([((t_5 : Nat) : Int)])) (RdAll.cons (by exact rfl) (RdAll.nil _ _ _))
      have hs25 := row_src (hS.wd.holds 1602 _ rfl) (RdAll.one (hS.fact (k := 111) rfl))
      refine l_seq rfl (l_append (sz := 1) (by_ := 8) (N := (out_1 ++ [((t_5 : Nat) : Int)]).length) (ys := cs4 ++ (cellsOfL [.int .i64 (((t_5 : Nat) : Int))])) hS 700103 rfl rfl rfl Try.underlying30 rfl rfl rfl rfl rfl hs25 (by simp) rfl (by have hr := hk20; clear hg; first | omega | (simp only [List.length_append, List.length_cons, List.length_nil] at hr ⊢; omega) | (simp at hr ⊢; omega)) (by have hr := hk20; clear hg; first | omega | (simp only [List.length_append, List.length_cons, List.length_nil] at hr ⊢; omega) | (simp at hr ⊢; omega)) rfl ?_); clear hS a; intro Aq24 cq24 a w hA hK hS
      clear hK hA
      replace hS := hS.add 112 (rdF (Rep.num .i64) (cs4 ++ (cellsOfL [.int .i64 (((t_5 : Nat) : Int))])) (out_1 ++ [((t_5 : Nat) : Int)])) (RdAll.append (hS.fact (k := 104) rfl) (hS.fact (k := 111) rfl))
      refine q_seq hS rfl rfl rfl (y_assign hS rfl) ?_; clear hS a; intro a hS
      apply wpList_nil
      refine p_inN ?_
      refine p_norm ?_
      apply wp_region_lit
      refine q_seq hS rfl rfl rfl (y_addN (i := t_5) (j := 1) hS rfl rfl (in64.2 (by omega))) ?_; clear hS a; intro a hS
      refine q_seq hS rfl rfl rfl (y_move hS rfl) ?_; clear hS a; intro a hS
      apply wpList_nil
      refine p_norm ?_
      replace hS := hS.add 104 (rdF (Rep.num .i64) (cs4 ++ (cellsOfL [.int .i64 (((t_5 : Nat) : Int))])) (out_1 ++ [((t_5 : Nat) : Int)])) (hS.fact (k := 112) rfl)
      exact ⟨m1, Nat.lt_succ_self _, ⟨(out_1 ++ [((t_5 : Nat) : Int)]), (t_5 + 1), (Aq24), (cq24), (cs4 ++ (cellsOfL [.int .i64 (((t_5 : Nat) : Int))])), hg, (hS.sub ⟨rfl, rfl, rfl, rfl, rfl, trivial⟩ ⟨rfl, trivial⟩ ⟨rfl, rfl, rfl, trivial⟩)⟩⟩
    · replace hg := br_f hg (by rw [hc18]; exact Bool.false_ne_true)
      apply wp_skip
      refine p_inN ?_
      refine p_norm ?_
      apply wp_region_lit
      refine q_seq hS rfl rfl rfl (y_addN (i := t_5) (j := 1) hS rfl rfl (in64.2 (by omega))) ?_; clear hS a; intro a hS
      refine q_seq hS rfl rfl rfl (y_move hS rfl) ?_; clear hS a; intro a hS
      apply wpList_nil
      refine p_norm ?_
      replace hS := hS.add 104 (rdF (Rep.num .i64) (cs4) (out_1)) (hS.fact (k := 104) rfl)
      exact ⟨m1, Nat.lt_succ_self _, ⟨(out_1), (t_5 + 1), (A2), (c3), (cs4), hg, (hS.sub ⟨rfl, rfl, rfl, rfl, rfl, trivial⟩ ⟨rfl, trivial⟩ ⟨rfl, rfl, rfl, trivial⟩)⟩⟩
  · replace hg := br_f hg hc6
    apply wp_exit
    refine p_then ?_
    refine p_then ?_
    refine p_in ?_
    refine p_norm ?_
    apply wp_seq
    apply wp_region_lit
    refine q_seq hS rfl rfl rfl (y_move hS rfl) ?_; clear hS a; intro a hS
    refine q_seq hS rfl rfl rfl (y_assign hS rfl) ?_; clear hS a; intro a hS
    apply wpList_nil
    refine p_norm ?_
    apply wp_ret
    obtain rfl := Option.some.inj hg
    refine fin1 (fn := Try.f32) hS rfl (r_tmp hS rfl) ?_
    exact ⟨(A2), (c3), rfl, (hS.rowOut (R := (Rep.num .i64)) (kk := 700103) rfl rfl (hS.fact (k := 104) rfl))⟩
set_option maxHeartbeats 400000 in
theorem c_slices_Equal_string (n : Nat) (M : Bs) (w0 : World) (hM : ∀ b, M b → b < w0.heap.size) (s1_ : (List (List UInt8))) (Ap01 : Option Addr) (cp01 : Nat) (hp01 : SlR Rep.str M w0 Ap01 (s1_).length cp01 (s1_)) (s2_ : (List (List UInt8))) (Ap11 : Option Addr) (cp11 : Nat) (hp11 : SlR Rep.str M w0 Ap11 (s2_).length cp11 (s2_)) (r : Bool) (hg : slices_Equal_string n s1_ s2_ = some r) :
    Calls Try.prog 34 [.slice (Ap01) ((s1_).length) (cp01), .slice (Ap11) ((s2_).length) (cp11)].toArray w0 (Ret noB w0 fun v w => v = .bool (r)) := by
  unfold slices_Equal_string at hg
  refine enter M noB Try.func34 rfl rfl hM ?_
  intro a hS
  replace hS := hS.add 101 (slF Rep.str (Ap01) ((s1_).length) (cp01) (s1_)) (by exact Fact.change _ enterM hp01)
  replace hS := hS.add 102 (slF Rep.str (Ap11) ((s2_).length) (cp11) (s2_)) (by exact Fact.change _ enterM hp11)
  apply wp_seq
  apply wp_region_lit
  refine q_seq hS rfl rfl rfl (y_assign hS rfl) ?_; clear hS a; intro a hS
  apply wpList_nil
  refine p_norm ?_
  apply wp_seq
  apply wp_seq
  apply wp_region_lit
  refine q_seq hS rfl rfl rfl (y_move hS rfl) ?_; clear hS a; intro a hS
  refine q_seq hS rfl rfl rfl (y_lenSlice hS rfl Try.underlying27) ?_; clear hS a; intro a hS
  refine q_seq hS rfl rfl rfl (y_move hS rfl) ?_; clear hS a; intro a hS
  refine q_seq hS rfl rfl rfl (y_lenSlice hS rfl Try.underlying27) ?_; clear hS a; intro a hS
  refine q_seq hS rfl rfl rfl (y_neqN (i := ((s1_).length)) (j := ((s2_).length)) hS rfl rfl) ?_; clear hS a; intro a hS
  apply wpList_nil
  refine p_norm ?_
  refine c_dec hS rfl (fun hc1 => ?_) (fun hc1 => ?_)
  · replace hg := br_t hg hc1
    apply wp_seq
    apply wp_region_lit
    refine q_seq hS rfl rfl rfl (y_assign hS rfl) ?_; clear hS a; intro a hS
    apply wpList_nil
    refine p_norm ?_
    apply wp_ret
    refine p_thenR ?_
    obtain rfl := Option.some.inj hg
    refine fin1 (fn := Try.f34) hS rfl (r_tmp hS rfl) ?_
    exact rfl
  · replace hg := br_f hg hc1
    apply wp_skip
    refine p_norm ?_
    apply wp_seq
    apply wp_seq
    apply wp_region_lit
    refine q_seq hS rfl rfl rfl (y_move hS rfl) ?_; clear hS a; intro a hS
    refine q_seq hS rfl rfl rfl (y_lenSlice hS rfl Try.underlying27) ?_; clear hS a; intro a hS
    refine q_seq hS rfl rfl rfl (y_move hS rfl) ?_; clear hS a; intro a hS
    apply wpList_nil
    refine p_norm ?_
    apply wp_block
    refine c_loop (σ := Nat) (fun m1 a w => ∃ (t_2 : Nat), slices_Equal_string_L0 n s1_ s2_ m1 t_2 = some r ∧ St (⟨Try.f34.ntmps, M, noB, w0⟩ : Ctx) [(0, .slice (Ap01) ((s1_).length) (cp01)), (1, .slice (Ap11) ((s2_).length) (cp11)), (12, .int .i64 ((((s1_).length : Nat) : Int))), (13, .int .i64 (((t_2 : Nat) : Int)))] [] [(101, slF Rep.str (Ap01) ((s1_).length) (cp01) (s1_)), (102, slF Rep.str (Ap11) ((s2_).length) (cp11) (s2_))] a w) (fun m1 => m1) n ⟨(0), hg, (hS.sub ⟨rfl, rfl, rfl, rfl, trivial⟩ trivial ⟨rfl, rfl, trivial⟩)⟩ ?_
    clear hS a; rintro m1 a w ⟨t_2, hg, hS⟩
    rcases m1 with _ | m1
    · rw [slices_Equal_string_L0] at hg; cases hg
    rw [slices_Equal_string_L0] at hg
    apply wp_seq
    apply wp_region_lit
    refine q_seq hS rfl rfl rfl (y_lssN (i := t_2) (j := ((s1_).length)) hS rfl rfl) ?_; clear hS a; intro a hS
    apply wpList_nil
    refine p_norm ?_
    apply wp_seq
    refine c_dec hS rfl (fun hc3 => ?_) (fun hc3 => ?_)
    · replace hg := br_t hg hc3
      have hmx4 := SlR.mx (hS.fact (k := 101) rfl)
      apply wp_skip
      refine p_norm ?_
      apply wp_seq
      apply wp_block
      apply wp_seq
      apply wp_region_lit
      refine q_seq hS rfl rfl rfl (y_move hS rfl) ?_; clear hS a; intro a hS
      refine q_seq hS rfl rfl rfl (y_assign hS rfl) ?_; clear hS a; intro a hS
      apply wpList_nil
      refine p_norm ?_
      apply wp_seq
      replace hg := bind_some hg; obtain ⟨x6, hx6, hg⟩ := hg
      replace hg := bind_some hg; obtain ⟨x9, hx9, hg⟩ := hg
      refine d_plan hS [] [(0, some 0), (1, some 0), (2, some 0), (3, some 0), (4, some 0), (5, some 0), (6, some 0), (7, some 0), (8, some 0)] rfl (by kernel_rfl) (by kernel_rfl) rfl ?_; clear hS; intro wr hZ hS; have hR := hS.wd
      refine q_take hS hR rfl rfl rfl rfl (y_move hS rfl) ?_; clear hS a; intro a hS
      refine q_take hS hR rfl rfl rfl rfl (y_move hS rfl) ?_; clear hS a; intro a hS
      obtain ⟨p11, hep11, hpp11⟩ := SlR.elemX (hS.fact (k := 101) rfl) hx6
      refine q_take hS hR rfl rfl rfl rfl (y_elem (sz := 1) (i := t_2) hS rfl rfl Try.underlying27 rfl hep11 rfl (lt_of_get hx6)) ?_; clear hS a; intro a hS
      obtain ⟨hlq12, hmq12, csq12, hdq12, hcq12⟩ := hpp11
      obtain ⟨rfl, lq121⟩ := hdq12
      refine q_take hS hR rfl rfl rfl rfl (y_ldp1 hS rfl hlq12 hmq12 (hcq12 0 _ rfl) Try.underlying9 rfl) ?_; clear hS a; intro a hS
      refine q_take hS hR rfl rfl rfl rfl (y_move hS rfl) ?_; clear hS a; intro a hS
      refine q_take hS hR rfl rfl rfl rfl (y_move hS rfl) ?_; clear hS a; intro a hS
      obtain ⟨p13, hep13, hpp13⟩ := SlR.elemX (hS.fact (k := 102) rfl) hx9
      refine q_take hS hR rfl rfl rfl rfl (y_elem (sz := 1) (i := t_2) hS rfl rfl Try.underlying27 rfl hep13 rfl (lt_of_get hx9)) ?_; clear hS a; intro a hS
      obtain ⟨hlq14, hmq14, csq14, hdq14, hcq14⟩ := hpp13
      obtain ⟨rfl, lq141⟩ := hdq14
      refine q_take hS hR rfl rfl rfl rfl (y_ldp1 hS rfl hlq14 hmq14 (hcq14 0 _ rfl) Try.underlying9 rfl) ?_; clear hS a; intro a hS
      refine q_take hS hR rfl rfl rfl rfl (y_sne hS rfl rfl) ?_; clear hS a; intro a hS
      clear hR hZ
      refine p_norm ?_
      refine c_dec hS rfl (fun hc15 => ?_) (fun hc15 => ?_)
      · replace hg := br_t hg hc15
        apply wp_seq
        apply wp_region_lit
        refine q_seq hS rfl rfl rfl (y_assign hS rfl) ?_; clear hS a; intro a hS
        apply wpList_nil
        refine p_norm ?_
        apply wp_ret
        refine p_inR ?_
        refine p_thenR ?_
        refine p_thenR ?_
        refine p_inR ?_
        refine p_thenR ?_
        obtain rfl := Option.some.inj hg
        refine fin1 (fn := Try.f34) hS rfl (r_tmp hS rfl) ?_
        exact rfl
      · replace hg := br_f hg hc15
        apply wp_skip
        refine p_inN ?_
        refine p_norm ?_
        apply wp_region_lit
        refine q_seq hS rfl rfl rfl (y_addN (i := t_2) (j := 1) hS rfl rfl (in64.2 (by omega))) ?_; clear hS a; intro a hS
        refine q_seq hS rfl rfl rfl (y_move hS rfl) ?_; clear hS a; intro a hS
        apply wpList_nil
        refine p_norm ?_
        exact ⟨m1, Nat.lt_succ_self _, ⟨(t_2 + 1), hg, (hS.sub ⟨rfl, rfl, rfl, rfl, trivial⟩ trivial ⟨rfl, rfl, trivial⟩)⟩⟩
    · replace hg := br_f hg hc3
      apply wp_exit
      refine p_then ?_
      refine p_then ?_
      refine p_in ?_
      refine p_norm ?_
      apply wp_seq
      apply wp_region_lit
      refine q_seq hS rfl rfl rfl (y_assign hS rfl) ?_; clear hS a; intro a hS
      apply wpList_nil
      refine p_norm ?_
      apply wp_ret
      obtain rfl := Option.some.inj hg
      refine fin1 (fn := Try.f34) hS rfl (r_tmp hS rfl) ?_
      exact rfl
set_option maxHeartbeats 400000 in
theorem c_lexicon_Find_1 (n : Nat) (M : Bs) (w0 : World) (hM : ∀ b, M b → b < w0.heap.size) (x_ : Entry) (Ap02 : Option Addr) (cp02 : Nat) (Ap03 : Option Addr) (cp03 : Nat) (lp01 : (x_.Name).length ≤ 9223372036854775807) (hp02 : SlR Rep.str M w0 Ap02 (x_.Words).length cp02 (x_.Words)) (hp03 : SlR RNode M w0 Ap03 (x_.FS.Nodes).length cp03 (x_.FS.Nodes)) (bf0 : Nat) (c0_ : (List (List UInt8))) (Af01 : Option Addr) (cf01 : Nat) (hf01 : SlR Rep.str M w0 Af01 (c0_).length cf01 (c0_)) (hb0 : BoxR bf0 [.slice (Af01) ((c0_).length) (cf01)] 27 M w0) (r : Bool) (hg : lexicon_Find_1 n x_ c0_ = some r) :
    Calls Try.prog 33 [.agg #[.string (bs (x_.Name)), .slice (Ap02) ((x_.Words).length) (cp02), .slice (Ap03) ((x_.FS.Nodes).length) (cp03)], .pointer (some ⟨bf0, 0, none⟩)].toArray w0 (Ret noB w0 fun v w => v = .bool (r)) := by
  unfold lexicon_Find_1 at hg
  refine enter M noB Try.func33 rfl rfl hM ?_
  intro a hS
  replace hS := hS.add 101 (slF Rep.str (Ap02) ((x_.Words).length) (cp02) (x_.Words)) (by exact Fact.change _ enterM hp02)
  replace hS := hS.add 102 (slF RNode (Ap03) ((x_.FS.Nodes).length) (cp03) (x_.FS.Nodes)) (by exact Fact.change _ enterM hp03)
  replace hS := hS.add 103 (slF Rep.str (Af01) ((c0_).length) (cf01) (c0_)) (by exact Fact.change _ enterM hf01)
  replace hS := hS.add 104 (boxF bf0 [.slice (Af01) ((c0_).length) (cf01)] 27) (by exact Fact.change _ enterM hb0)
  apply wp_seq
  apply wp_region_lit
  refine l_seq rfl (l_box (zs := [.string (bs (x_.Name)), .slice (Ap02) ((x_.Words).length) (cp02), .slice (Ap03) ((x_.FS.Nodes).length) (cp03)]) hS 1000 rfl rfl rfl rfl ?_); clear hS a; intro b2 a w hb hK hS
  clear hb
  clear hK
  refine q_seq hS rfl rfl rfl (y_assign hS rfl) ?_; clear hS a; intro a hS
  apply wpList_nil
  refine p_norm ?_
  apply wp_seq
  replace hg := bind_some hg; obtain ⟨r3, hr3, hg⟩ := hg
  apply wp_region_lit
  refine q_seq hS rfl rfl rfl (y_boxField (o' := 1) hS rfl Try.underlying47 rfl rfl rfl) ?_; clear hS a; intro a hS
  refine q_seq hS rfl rfl rfl (y_loadBox1 (kk := 1000) hS rfl rfl rfl Try.underlying27 rfl) ?_; clear hS a; intro a hS
  refine q_seq hS rfl rfl rfl (y_loadF1 hS rfl (hS.fact (k := 104) rfl) rfl Try.underlying27 rfl) ?_; clear hS a; intro a hS
  refine l_seq rfl (l_call (cap := []) hS rfl Try.func34 rfl (by kernel_rfl) rfl rfl (c_slices_Equal_string n _ _ hS.lt x_.Words (Ap02) (cp02) (hS.fact (k := 101) rfl) c0_ (Af01) (cf01) (hS.fact (k := 103) rfl) r3 hr3) ?_); clear hS a; intro v6 a w hK hp hS
  clear hK
  obtain rfl := hp
  refine q_seq hS rfl rfl rfl (y_assign hS rfl) ?_; clear hS a; intro a hS
  apply wpList_nil
  refine p_norm ?_
  apply wp_ret
  obtain rfl := Option.some.inj hg
  refine fin1 (fn := Try.f33) hS rfl (r_tmp hS rfl) ?_
  exact rfl
set_option maxHeartbeats 400000 in
theorem c_lexicon_Find (n : Nat) (M : Bs) (w0 : World) (hM : ∀ b, M b → b < w0.heap.size) (e_ : (List Entry)) (Ap01 : Option Addr) (cp01 : Nat) (hp01 : SlR REntry M w0 Ap01 (e_).length cp01 (e_)) (words_ : (List (List UInt8))) (Ap11 : Option Addr) (cp11 : Nat) (hp11 : SlR Rep.str M w0 Ap11 (words_).length cp11 (words_)) (r : (List Int)) (hg : lexicon_Find n e_ words_ = some r) :
    Calls Try.prog 16 [.slice (Ap01) ((e_).length) (cp01), .slice (Ap11) ((words_).length) (cp11)].toArray w0 (Ret noB w0 fun v w => ∃ (Aa1 : Option Addr), ∃ (ca1 : Nat), v = .slice (Aa1) ((r).length) (ca1) ∧ (SlR (Rep.num .i64) M w Aa1 (r).length ca1 (r))) := by
  unfold lexicon_Find at hg
  refine enter M noB Try.func16 rfl rfl hM ?_
  intro a hS
  replace hS := hS.add 101 (slF REntry (Ap01) ((e_).length) (cp01) (e_)) (by exact Fact.change _ enterM hp01)
  replace hS := hS.add 102 (slF Rep.str (Ap11) ((words_).length) (cp11) (words_)) (by exact Fact.change _ enterM hp11)
  apply wp_seq
  apply wp_region_lit
  refine l_seq rfl (l_box (zs := [.slice (Ap11) ((words_).length) (cp11)]) hS 1000 rfl rfl rfl rfl ?_); clear hS a; intro b2 a w hb hK hS
  clear hb
  clear hK
  refine q_seq hS rfl rfl rfl (y_assign hS rfl) ?_; clear hS a; intro a hS
  apply wpList_nil
  refine p_norm ?_
  apply wp_seq
  replace hg := bind_some hg; obtain ⟨r3, hr3, hg⟩ := hg
  apply wp_region_lit
  refine q_seq hS rfl rfl rfl (y_move hS rfl) ?_; clear hS a; intro a hS
  replace hS := hS.freezeBox (L' := []) 105 1000 rfl trivial rfl
  refine q_seq hS rfl rfl rfl (y_makeFunc (xs := [.tmp 3]) (vs := [.pointer (some ⟨b2, 0, none⟩)]) hS rfl) ?_; clear hS a; intro a hS
  refine l_seq rfl (l_call (cap := []) hS rfl Try.func32 rfl (by kernel_rfl) rfl rfl (c_lexicon_indices_Entry n _ _ hS.lt e_ (Ap01) (cp01) (hS.fact (k := 101) rfl) (fun p => lexicon_Find_1 n p words_) (33) ([.pointer (some ⟨b2, 0, none⟩)]) ⟨⟨_, _, Try.func33, rfl, by kernel_rfl⟩, fun M1 w1 hk hm hlt vs x r hp hr => by obtain ⟨Aa2, ca2, Aa3, ca3, rfl, la1, ha2, ha3⟩ := hp; exact c_lexicon_Find_1 n M1 w1 hlt (x) Aa2 ca2 Aa3 ca3 la1 ha2 ha3 b2 (words_) (Ap11) (cp11) (Fact.move (slF Rep.str (Ap11) ((words_).length) (cp11) (words_)) hk hm (hS.fact (k := 102) rfl)) (Fact.move (boxF b2 [.slice (Ap11) ((words_).length) (cp11)] 27) hk hm (hS.fact (k := 105) rfl)) r hr⟩ r3 hr3) ?_); clear hS a; intro v6 a w hK hp hS
  clear hK
  obtain ⟨Au7a1, cu7a1, rfl, hu7a1⟩ := hp
  replace hS := hS.add 106 (slF (Rep.num .i64) (Au7a1) ((r3).length) (cu7a1) (r3)) hu7a1
  refine q_seq hS rfl rfl rfl (y_assign hS rfl) ?_; clear hS a; intro a hS
  apply wpList_nil
  refine p_norm ?_
  apply wp_ret
  obtain rfl := Option.some.inj hg
  refine fin1 (fn := Try.f16) hS rfl (r_tmp hS rfl) ?_
  exact ⟨(Au7a1), (cu7a1), rfl, (hS.out (k := 106) rfl)⟩
set_option maxHeartbeats 400000 in
theorem c_stringslite_HasPrefix (n : Nat) (M : Bs) (w0 : World) (hM : ∀ b, M b → b < w0.heap.size) (s_ : (List UInt8)) (lp01 : (s_).length ≤ 9223372036854775807) (prefix_ : (List UInt8)) (lp11 : (prefix_).length ≤ 9223372036854775807) (r : Bool) (hg : stringslite_HasPrefix n s_ prefix_ = some r) :
    Calls Try.prog 64 [.string (bs (s_)), .string (bs (prefix_))].toArray w0 (Ret noB w0 fun v w => v = .bool (r)) := by
  unfold stringslite_HasPrefix at hg
  refine enter M noB Try.func64 rfl rfl hM ?_
  intro a hS
  apply wp_seq
  apply wp_region_lit
  refine q_seq hS rfl rfl rfl (y_assign hS rfl) ?_; clear hS a; intro a hS
  apply wpList_nil
  refine p_norm ?_
  apply wp_seq
  rcases Decidable.em (((prefix_).length) ≤ ((s_).length)) with hs1 | hs1
  · have hs1e : decide (((prefix_).length) ≤ ((s_).length)) = true := decide_eq_true hs1
    replace hg := br_t hg hs1
    replace hg := chk_some hg; obtain ⟨hk2, hg⟩ := hg
    apply wp_region_lit
    refine q_seq hS rfl rfl rfl (y_move hS rfl) ?_; clear hS a; intro a hS
    refine q_seq hS rfl rfl rfl (y_lenStrN hS rfl Try.underlying9) ?_; clear hS a; intro a hS
    refine q_seq hS rfl rfl rfl (y_move hS rfl) ?_; clear hS a; intro a hS
    refine q_seq hS rfl rfl rfl (y_lenStrN hS rfl Try.underlying9) ?_; clear hS a; intro a hS
    refine q_seq hS rfl rfl rfl (yl_b (y_geqN (i := ((s_).length)) (j := ((prefix_).length)) hS rfl rfl) hs1e) ?_; clear hS a; intro a hS
    refine q_seq hS rfl rfl rfl (y_move hS rfl) ?_; clear hS a; intro a hS
    refine g_yes hS rfl rfl rfl rfl (l_quiet hS rfl rfl (y_move hS rfl) ?_); clear hS a; intro a hS
    refine g_yes hS rfl rfl rfl rfl (l_quiet hS rfl rfl (y_move hS rfl) ?_); clear hS a; intro a hS
    refine g_yes hS rfl rfl rfl rfl (l_quiet hS rfl rfl (y_lenStrN hS rfl Try.underlying9) ?_); clear hS a; intro a hS
    refine g_yes hS rfl rfl rfl rfl (l_quiet hS rfl rfl (y_strH (i := ((prefix_).length)) hS rfl rfl Try.underlying9 rfl hk2) ?_); clear hS a; intro a hS
    refine g_yes hS rfl rfl rfl rfl (l_quiet hS rfl rfl (y_move hS rfl) ?_); clear hS a; intro a hS
    refine g_yes hS rfl rfl rfl rfl (l_quiet hS rfl rfl (y_seq hS rfl rfl) ?_); clear hS a; intro a hS
    refine q_seq hS rfl rfl rfl (y_pick_t hS rfl rfl) ?_; clear hS a; intro a hS
    refine q_seq hS rfl rfl rfl (y_assign hS rfl) ?_; clear hS a; intro a hS
    apply wpList_nil
    refine p_norm ?_
    apply wp_ret
    obtain rfl := Option.some.inj hg
    refine fin1 (fn := Try.f64) hS rfl (r_tmp hS rfl) ?_
    exact rfl
  · have hs1e : decide (((prefix_).length) ≤ ((s_).length)) = false := decide_eq_false hs1
    replace hg := br_f hg hs1
    apply wp_region_lit
    refine q_seq hS rfl rfl rfl (y_move hS rfl) ?_; clear hS a; intro a hS
    refine q_seq hS rfl rfl rfl (y_lenStrN hS rfl Try.underlying9) ?_; clear hS a; intro a hS
    refine q_seq hS rfl rfl rfl (y_move hS rfl) ?_; clear hS a; intro a hS
    refine q_seq hS rfl rfl rfl (y_lenStrN hS rfl Try.underlying9) ?_; clear hS a; intro a hS
    refine q_seq hS rfl rfl rfl (yl_b (y_geqN (i := ((s_).length)) (j := ((prefix_).length)) hS rfl rfl) hs1e) ?_; clear hS a; intro a hS
    refine q_seq hS rfl rfl rfl (y_move hS rfl) ?_; clear hS a; intro a hS
    refine g_no hS rfl rfl rfl rfl rfl rfl rfl ?_; clear hS a; intro a hS
    refine g_no hS rfl rfl rfl rfl rfl rfl rfl ?_; clear hS a; intro a hS
    refine g_no hS rfl rfl rfl rfl rfl rfl rfl ?_; clear hS a; intro a hS
    refine g_no hS rfl rfl rfl rfl rfl rfl rfl ?_; clear hS a; intro a hS
    refine g_no hS rfl rfl rfl rfl rfl rfl rfl ?_; clear hS a; intro a hS
    refine g_no hS rfl rfl rfl rfl rfl rfl rfl ?_; clear hS a; intro a hS
    refine q_seq hS rfl rfl rfl (y_pick_f hS rfl rfl) ?_; clear hS a; intro a hS
    refine q_seq hS rfl rfl rfl (y_assign hS rfl) ?_; clear hS a; intro a hS
    apply wpList_nil
    refine p_norm ?_
    apply wp_ret
    obtain rfl := Option.some.inj hg
    refine fin1 (fn := Try.f64) hS rfl (r_tmp hS rfl) ?_
    exact rfl
set_option maxHeartbeats 400000 in
theorem c_strings_HasPrefix (n : Nat) (M : Bs) (w0 : World) (hM : ∀ b, M b → b < w0.heap.size) (s_ : (List UInt8)) (lp01 : (s_).length ≤ 9223372036854775807) (prefix_ : (List UInt8)) (lp11 : (prefix_).length ≤ 9223372036854775807) (r : Bool) (hg : strings_HasPrefix n s_ prefix_ = some r) :
    Calls Try.prog 58 [.string (bs (s_)), .string (bs (prefix_))].toArray w0 (Ret noB w0 fun v w => v = .bool (r)) := by
  unfold strings_HasPrefix at hg
  refine enter M noB Try.func58 rfl rfl hM ?_
  intro a hS
  apply wp_seq
  apply wp_region_lit
  refine q_seq hS rfl rfl rfl (y_assign hS rfl) ?_; clear hS a; intro a hS
  apply wpList_nil
  refine p_norm ?_
  apply wp_seq
  replace hg := bind_some hg; obtain ⟨r1, hr1, hg⟩ := hg
  apply wp_region_lit
  refine q_seq hS rfl rfl rfl (y_move hS rfl) ?_; clear hS a; intro a hS
  refine q_seq hS rfl rfl rfl (y_move hS rfl) ?_; clear hS a; intro a hS
  refine l_seq rfl (l_call (cap := []) hS rfl Try.func64 rfl (by kernel_rfl) rfl rfl (c_stringslite_HasPrefix n _ _ hS.lt s_ (by first | omega | (rw [List.length_append]; omega) | (simp only [List.length_append]; omega) | (simp only [List.length_append, List.length_take, List.length_drop, List.length_cons, List.length_nil]; omega)) prefix_ (by first | omega | (rw [List.length_append]; omega) | (simp only [List.length_append]; omega) | (simp only [List.length_append, List.length_take, List.length_drop, List.length_cons, List.length_nil]; omega)) r1 hr1) ?_); clear hS a; intro v4 a w hK hp hS
  clear hK
  obtain rfl := hp
  refine q_seq hS rfl rfl rfl (y_assign hS rfl) ?_; clear hS a; intro a hS
  apply wpList_nil
  refine p_norm ?_
  apply wp_ret
  obtain rfl := Option.some.inj hg
  refine fin1 (fn := Try.f58) hS rfl (r_tmp hS rfl) ?_
  exact rfl
set_option maxHeartbeats 400000 in
theorem c_stringslite_TrimPrefix (n : Nat) (M : Bs) (w0 : World) (hM : ∀ b, M b → b < w0.heap.size) (s_ : (List UInt8)) (lp01 : (s_).length ≤ 9223372036854775807) (prefix_ : (List UInt8)) (lp11 : (prefix_).length ≤ 9223372036854775807) (r : (List UInt8)) (hg : stringslite_TrimPrefix n s_ prefix_ = some r) :
    Calls Try.prog 65 [.string (bs (s_)), .string (bs (prefix_))].toArray w0 (Ret noB w0 fun v w => v = .string (bs (r)) ∧ ((r).length ≤ 9223372036854775807)) := by
  unfold stringslite_TrimPrefix at hg
  refine enter M noB Try.func65 rfl rfl hM ?_
  intro a hS
  apply wp_seq
  apply wp_region_lit
  refine q_seq hS rfl rfl rfl (y_assign hS rfl) ?_; clear hS a; intro a hS
  apply wpList_nil
  refine p_norm ?_
  apply wp_seq
  apply wp_seq
  replace hg := bind_some hg; obtain ⟨r1, hr1, hg⟩ := hg
  apply wp_region_lit
  refine q_seq hS rfl rfl rfl (y_move hS rfl) ?_; clear hS a; intro a hS
  refine q_seq hS rfl rfl rfl (y_move hS rfl) ?_; clear hS a; intro a hS
  refine l_seq rfl (l_call (cap := []) hS rfl Try.func64 rfl (by kernel_rfl) rfl rfl (c_stringslite_HasPrefix n _ _ hS.lt s_ (by first | omega | (rw [List.length_append]; omega) | (simp only [List.length_append]; omega) | (simp only [List.length_append, List.length_take, List.length_drop, List.length_cons, List.length_nil]; omega)) prefix_ (by first | omega | (rw [List.length_append]; omega) | (simp only [List.length_append]; omega) | (simp only [List.length_append, List.length_take, List.length_drop, List.length_cons, List.length_nil]; omega)) r1 hr1) ?_); clear hS a; intro v4 a w hK hp hS
  clear hK
  obtain rfl := hp
  apply wpList_nil
  refine p_norm ?_
  refine c_cond hS rfl (fun hc6 => ?_) (fun hc6 => ?_)
  · replace hg := br_t hg hc6
    apply wp_seq
    replace hg := chk_some hg; obtain ⟨hk7, hg⟩ := hg
    apply wp_region_lit
    refine q_seq hS rfl rfl rfl (y_move hS rfl) ?_; clear hS a; intro a hS
    refine q_seq hS rfl rfl rfl (y_move hS rfl) ?_; clear hS a; intro a hS
    refine q_seq hS rfl rfl rfl (y_lenStrN hS rfl Try.underlying9) ?_; clear hS a; intro a hS
    refine q_seq hS rfl rfl rfl (y_strL (i := ((prefix_).length)) hS rfl rfl Try.underlying9 rfl hk7) ?_; clear hS a; intro a hS
    refine q_seq hS rfl rfl rfl (y_assign hS rfl) ?_; clear hS a; intro a hS
    apply wpList_nil
    refine p_norm ?_
    apply wp_ret
    refine p_thenR ?_
    obtain rfl := Option.some.inj hg
    refine fin1 (fn := Try.f65) hS rfl (r_tmp hS rfl) ?_
    exact ⟨rfl, (by first | omega | (rw [List.length_append]; omega) | (simp only [List.length_append]; omega) | (simp only [List.length_append, List.length_take, List.length_drop, List.length_cons, List.length_nil]; omega))⟩
  · replace hg := br_f hg (by rw [hc6]; exact Bool.false_ne_true)
    apply wp_skip
    refine p_norm ?_
    apply wp_seq
    apply wp_region_lit
    refine q_seq hS rfl rfl rfl (y_move hS rfl) ?_; clear hS a; intro a hS
    refine q_seq hS rfl rfl rfl (y_assign hS rfl) ?_; clear hS a; intro a hS
    apply wpList_nil
    refine p_norm ?_
    apply wp_ret
    obtain rfl := Option.some.inj hg
    refine fin1 (fn := Try.f65) hS rfl (r_tmp hS rfl) ?_
    exact ⟨rfl, (by first | omega | (rw [List.length_append]; omega) | (simp only [List.length_append]; omega) | (simp only [List.length_append, List.length_take, List.length_drop, List.length_cons, List.length_nil]; omega))⟩
set_option maxHeartbeats 400000 in
theorem c_strings_TrimPrefix (n : Nat) (M : Bs) (w0 : World) (hM : ∀ b, M b → b < w0.heap.size) (s_ : (List UInt8)) (lp01 : (s_).length ≤ 9223372036854775807) (prefix_ : (List UInt8)) (lp11 : (prefix_).length ≤ 9223372036854775807) (r : (List UInt8)) (hg : strings_TrimPrefix n s_ prefix_ = some r) :
    Calls Try.prog 59 [.string (bs (s_)), .string (bs (prefix_))].toArray w0 (Ret noB w0 fun v w => v = .string (bs (r)) ∧ ((r).length ≤ 9223372036854775807)) := by
  unfold strings_TrimPrefix at hg
  refine enter M noB Try.func59 rfl rfl hM ?_
  intro a hS
  apply wp_seq
  apply wp_region_lit
  refine q_seq hS rfl rfl rfl (y_assign hS rfl) ?_; clear hS a; intro a hS
  apply wpList_nil
  refine p_norm ?_
  apply wp_seq
  replace hg := bind_some hg; obtain ⟨r1, hr1, hg⟩ := hg
  apply wp_region_lit
  refine q_seq hS rfl rfl rfl (y_move hS rfl) ?_; clear hS a; intro a hS
  refine q_seq hS rfl rfl rfl (y_move hS rfl) ?_; clear hS a; intro a hS
  refine l_seq rfl (l_call (cap := []) hS rfl Try.func65 rfl (by kernel_rfl) rfl rfl (c_stringslite_TrimPrefix n _ _ hS.lt s_ (by first | omega | (rw [List.length_append]; omega) | (simp only [List.length_append]; omega) | (simp only [List.length_append, List.length_take, List.length_drop, List.length_cons, List.length_nil]; omega)) prefix_ (by first | omega | (rw [List.length_append]; omega) | (simp only [List.length_append]; omega) | (simp only [List.length_append, List.length_take, List.length_drop, List.length_cons, List.length_nil]; omega)) r1 hr1) ?_); clear hS a; intro v4 a w hK hp hS
  clear hK
  obtain ⟨rfl, lu5a1⟩ := hp
  refine q_seq hS rfl rfl rfl (y_assign hS rfl) ?_; clear hS a; intro a hS
  apply wpList_nil
  refine p_norm ?_
  apply wp_ret
  obtain rfl := Option.some.inj hg
  refine fin1 (fn := Try.f59) hS rfl (r_tmp hS rfl) ?_
  exact ⟨rfl, (by first | omega | (rw [List.length_append]; omega) | (simp only [List.length_append]; omega) | (simp only [List.length_append, List.length_take, List.length_drop, List.length_cons, List.length_nil]; omega))⟩
set_option maxHeartbeats 400000 in
theorem c_affix_sideOf_1 (n : Nat) (M : Bs) (w0 : World) (hM : ∀ b, M b → b < w0.heap.size) (w_ : (List UInt8)) (lp01 : (w_).length ≤ 9223372036854775807) (part_ : (List UInt8)) (lp11 : (part_).length ≤ 9223372036854775807) (r : (List UInt8)) (hg : affix_sideOf_1 n w_ part_ = some r) :
    Calls Try.prog 60 [.string (bs (w_)), .string (bs (part_))].toArray w0 (Ret noB w0 fun v w => v = .string (bs (r)) ∧ ((r).length ≤ 9223372036854775807)) := by
  unfold affix_sideOf_1 at hg
  refine enter M noB Try.func60 rfl rfl hM ?_
  intro a hS
  apply wp_seq
  apply wp_region_lit
  refine q_seq hS rfl rfl rfl (y_assign hS rfl) ?_; clear hS a; intro a hS
  apply wpList_nil
  refine p_norm ?_
  apply wp_seq
  replace hg := chk_some hg; obtain ⟨hk1, hg⟩ := hg
  apply wp_region_lit
  refine q_seq hS rfl rfl rfl (y_move hS rfl) ?_; clear hS a; intro a hS
  refine q_seq hS rfl rfl rfl (y_move hS rfl) ?_; clear hS a; intro a hS
  refine q_seq hS rfl rfl rfl (y_concat hS rfl rfl hk1) ?_; clear hS a; intro a hS
  refine q_seq hS rfl rfl rfl (y_assign hS rfl) ?_; clear hS a; intro a hS
  apply wpList_nil
  refine p_norm ?_
  apply wp_ret
  obtain rfl := Option.some.inj hg
  refine fin1 (fn := Try.f60) hS rfl (r_tmp hS rfl) ?_
  exact ⟨rfl, (by first | omega | (rw [List.length_append]; omega) | (simp only [List.length_append]; omega) | (simp only [List.length_append, List.length_take, List.length_drop, List.length_cons, List.length_nil]; omega))⟩
set_option maxHeartbeats 400000 in
theorem c_stringslite_HasSuffix (n : Nat) (M : Bs) (w0 : World) (hM : ∀ b, M b → b < w0.heap.size) (s_ : (List UInt8)) (lp01 : (s_).length ≤ 9223372036854775807) (suffix_ : (List UInt8)) (lp11 : (suffix_).length ≤ 9223372036854775807) (r : Bool) (hg : stringslite_HasSuffix n s_ suffix_ = some r) :
    Calls Try.prog 66 [.string (bs (s_)), .string (bs (suffix_))].toArray w0 (Ret noB w0 fun v w => v = .bool (r)) := by
  unfold stringslite_HasSuffix at hg
  refine enter M noB Try.func66 rfl rfl hM ?_
  intro a hS
  apply wp_seq
  apply wp_region_lit
  refine q_seq hS rfl rfl rfl (y_assign hS rfl) ?_; clear hS a; intro a hS
  apply wpList_nil
  refine p_norm ?_
  apply wp_seq
  rcases Decidable.em (((suffix_).length) ≤ ((s_).length)) with hs1 | hs1
  · have hs1e : decide (((suffix_).length) ≤ ((s_).length)) = true := decide_eq_true hs1
    replace hg := br_t hg hs1
    replace hg := chk_some hg; obtain ⟨hk2, hg⟩ := hg
    replace hg := chk_some hg; obtain ⟨hk3, hg⟩ := hg
    apply wp_region_lit
    refine q_seq hS rfl rfl rfl (y_move hS rfl) ?_; clear hS a; intro a hS
    refine q_seq hS rfl rfl rfl (y_lenStrN hS rfl Try.underlying9) ?_; clear hS a; intro a hS
    refine q_seq hS rfl rfl rfl (y_move hS rfl) ?_; clear hS a; intro a hS
    refine q_seq hS rfl rfl rfl (y_lenStrN hS rfl Try.underlying9) ?_; clear hS a; intro a hS
    refine q_seq hS rfl rfl rfl (yl_b (y_geqN (i := ((s_).length)) (j := ((suffix_).length)) hS rfl rfl) hs1e) ?_; clear hS a; intro a hS
    refine q_seq hS rfl rfl rfl (y_move hS rfl) ?_; clear hS a; intro a hS
    refine g_yes hS rfl rfl rfl rfl (l_quiet hS rfl rfl (y_move hS rfl) ?_); clear hS a; intro a hS
    refine g_yes hS rfl rfl rfl rfl (l_quiet hS rfl rfl (y_move hS rfl) ?_); clear hS a; intro a hS
    refine g_yes hS rfl rfl rfl rfl (l_quiet hS rfl rfl (y_lenStrN hS rfl Try.underlying9) ?_); clear hS a; intro a hS
    refine g_yes hS rfl rfl rfl rfl (l_quiet hS rfl rfl (y_move hS rfl) ?_); clear hS a; intro a hS
    refine g_yes hS rfl rfl rfl rfl (l_quiet hS rfl rfl (y_lenStrN hS rfl Try.underlying9) ?_); clear hS a; intro a hS
    have hmx4 : (s_).length ≤ 9223372036854775807 := (by first | omega | (rw [List.length_append]; omega) | (simp only [List.length_append]; omega) | (simp only [List.length_append, List.length_take, List.length_drop, List.length_cons, List.length_nil]; omega))
    have hmx5 : (suffix_).length ≤ 9223372036854775807 := (by first | omega | (rw [List.length_append]; omega) | (simp only [List.length_append]; omega) | (simp only [List.length_append, List.length_take, List.length_drop, List.length_cons, List.length_nil]; omega))
    refine g_yes hS rfl rfl rfl rfl (l_quiet hS rfl rfl (y_sub hS rfl rfl (in64.2 (by omega))) ?_); clear hS a; intro a hS
    refine g_yes hS rfl rfl rfl rfl (l_quiet hS rfl rfl (y_strL (i := (((((s_).length : Nat) : Int) - (((suffix_).length : Nat) : Int)).toNat)) hS rfl rfl Try.underlying9 (by omega) hk3) ?_); clear hS a; intro a hS
    refine g_yes hS rfl rfl rfl rfl (l_quiet hS rfl rfl (y_move hS rfl) ?_); clear hS a; intro a hS
    refine g_yes hS rfl rfl rfl rfl (l_quiet hS rfl rfl (y_seq hS rfl rfl) ?_); clear hS a; intro a hS
    refine q_seq hS rfl rfl rfl (y_pick_t hS rfl rfl) ?_; clear hS a; intro a hS
    refine q_seq hS rfl rfl rfl (y_assign hS rfl) ?_; clear hS a; intro a hS
    apply wpList_nil
    refine p_norm ?_
    apply wp_ret
    obtain rfl := Option.some.inj hg
    refine fin1 (fn := Try.f66) hS rfl (r_tmp hS rfl) ?_
    exact rfl
  · have hs1e : decide (((suffix_).length) ≤ ((s_).length)) = false := decide_eq_false hs1
    replace hg := br_f hg hs1
    apply wp_region_lit
    refine q_seq hS rfl rfl rfl (y_move hS rfl) ?_; clear hS a; intro a hS
    refine q_seq hS rfl rfl rfl (y_lenStrN hS rfl Try.underlying9) ?_; clear hS a; intro a hS
    refine q_seq hS rfl rfl rfl (y_move hS rfl) ?_; clear hS a; intro a hS
    refine q_seq hS rfl rfl rfl (y_lenStrN hS rfl Try.underlying9) ?_; clear hS a; intro a hS
    refine q_seq hS rfl rfl rfl (yl_b (y_geqN (i := ((s_).length)) (j := ((suffix_).length)) hS rfl rfl) hs1e) ?_; clear hS a; intro a hS
    refine q_seq hS rfl rfl rfl (y_move hS rfl) ?_; clear hS a; intro a hS
    refine g_no hS rfl rfl rfl rfl rfl rfl rfl ?_; clear hS a; intro a hS
    refine g_no hS rfl rfl rfl rfl rfl rfl rfl ?_; clear hS a; intro a hS
    refine g_no hS rfl rfl rfl rfl rfl rfl rfl ?_; clear hS a; intro a hS
    refine g_no hS rfl rfl rfl rfl rfl rfl rfl ?_; clear hS a; intro a hS
    refine g_no hS rfl rfl rfl rfl rfl rfl rfl ?_; clear hS a; intro a hS
    refine g_no hS rfl rfl rfl rfl rfl rfl rfl ?_; clear hS a; intro a hS
    refine g_no hS rfl rfl rfl rfl rfl rfl rfl ?_; clear hS a; intro a hS
    refine g_no hS rfl rfl rfl rfl rfl rfl rfl ?_; clear hS a; intro a hS
    refine g_no hS rfl rfl rfl rfl rfl rfl rfl ?_; clear hS a; intro a hS
    refine q_seq hS rfl rfl rfl (y_pick_f hS rfl rfl) ?_; clear hS a; intro a hS
    refine q_seq hS rfl rfl rfl (y_assign hS rfl) ?_; clear hS a; intro a hS
    apply wpList_nil
    refine p_norm ?_
    apply wp_ret
    obtain rfl := Option.some.inj hg
    refine fin1 (fn := Try.f66) hS rfl (r_tmp hS rfl) ?_
    exact rfl
set_option maxHeartbeats 400000 in
theorem c_strings_HasSuffix (n : Nat) (M : Bs) (w0 : World) (hM : ∀ b, M b → b < w0.heap.size) (s_ : (List UInt8)) (lp01 : (s_).length ≤ 9223372036854775807) (suffix_ : (List UInt8)) (lp11 : (suffix_).length ≤ 9223372036854775807) (r : Bool) (hg : strings_HasSuffix n s_ suffix_ = some r) :
    Calls Try.prog 61 [.string (bs (s_)), .string (bs (suffix_))].toArray w0 (Ret noB w0 fun v w => v = .bool (r)) := by
  unfold strings_HasSuffix at hg
  refine enter M noB Try.func61 rfl rfl hM ?_
  intro a hS
  apply wp_seq
  apply wp_region_lit
  refine q_seq hS rfl rfl rfl (y_assign hS rfl) ?_; clear hS a; intro a hS
  apply wpList_nil
  refine p_norm ?_
  apply wp_seq
  replace hg := bind_some hg; obtain ⟨r1, hr1, hg⟩ := hg
  apply wp_region_lit
  refine q_seq hS rfl rfl rfl (y_move hS rfl) ?_; clear hS a; intro a hS
  refine q_seq hS rfl rfl rfl (y_move hS rfl) ?_; clear hS a; intro a hS
  refine l_seq rfl (l_call (cap := []) hS rfl Try.func66 rfl (by kernel_rfl) rfl rfl (c_stringslite_HasSuffix n _ _ hS.lt s_ (by first | omega | (rw [List.length_append]; omega) | (simp only [List.length_append]; omega) | (simp only [List.length_append, List.length_take, List.length_drop, List.length_cons, List.length_nil]; omega)) suffix_ (by first | omega | (rw [List.length_append]; omega) | (simp only [List.length_append]; omega) | (simp only [List.length_append, List.length_take, List.length_drop, List.length_cons, List.length_nil]; omega)) r1 hr1) ?_); clear hS a; intro v4 a w hK hp hS
  clear hK
  obtain rfl := hp
  refine q_seq hS rfl rfl rfl (y_assign hS rfl) ?_; clear hS a; intro a hS
  apply wpList_nil
  refine p_norm ?_
  apply wp_ret
  obtain rfl := Option.some.inj hg
  refine fin1 (fn := Try.f61) hS rfl (r_tmp hS rfl) ?_
  exact rfl
set_option maxHeartbeats 400000 in
theorem c_stringslite_TrimSuffix (n : Nat) (M : Bs) (w0 : World) (hM : ∀ b, M b → b < w0.heap.size) (s_ : (List UInt8)) (lp01 : (s_).length ≤ 9223372036854775807) (suffix_ : (List UInt8)) (lp11 : (suffix_).length ≤ 9223372036854775807) (r : (List UInt8)) (hg : stringslite_TrimSuffix n s_ suffix_ = some r) :
    Calls Try.prog 67 [.string (bs (s_)), .string (bs (suffix_))].toArray w0 (Ret noB w0 fun v w => v = .string (bs (r)) ∧ ((r).length ≤ 9223372036854775807)) := by
  unfold stringslite_TrimSuffix at hg
  refine enter M noB Try.func67 rfl rfl hM ?_
  intro a hS
  apply wp_seq
  apply wp_region_lit
  refine q_seq hS rfl rfl rfl (y_assign hS rfl) ?_; clear hS a; intro a hS
  apply wpList_nil
  refine p_norm ?_
  apply wp_seq
  apply wp_seq
  replace hg := bind_some hg; obtain ⟨r1, hr1, hg⟩ := hg
  apply wp_region_lit
  refine q_seq hS rfl rfl rfl (y_move hS rfl) ?_; clear hS a; intro a hS
  refine q_seq hS rfl rfl rfl (y_move hS rfl) ?_; clear hS a; intro a hS
  refine l_seq rfl (l_call (cap := []) hS rfl Try.func66 rfl (by kernel_rfl) rfl rfl (c_stringslite_HasSuffix n _ _ hS.lt s_ (by first | omega | (rw [List.length_append]; omega) | (simp only [List.length_append]; omega) | (simp only [List.length_append, List.length_take, List.length_drop, List.length_cons, List.length_nil]; omega)) suffix_ (by first | omega | (rw [List.length_append]; omega) | (simp only [List.length_append]; omega) | (simp only [List.length_append, List.length_take, List.length_drop, List.length_cons, List.length_nil]; omega)) r1 hr1) ?_); clear hS a; intro v4 a w hK hp hS
  clear hK
  obtain rfl := hp
  apply wpList_nil
  refine p_norm ?_
  refine c_cond hS rfl (fun hc6 => ?_) (fun hc6 => ?_)
  · replace hg := br_t hg hc6
    apply wp_seq
    replace hg := chk_some hg; obtain ⟨hk7, hg⟩ := hg
    replace hg := chk_some hg; obtain ⟨hk8, hg⟩ := hg
    apply wp_region_lit
    refine q_seq hS rfl rfl rfl (y_move hS rfl) ?_; clear hS a; intro a hS
    refine q_seq hS rfl rfl rfl (y_move hS rfl) ?_; clear hS a; intro a hS
    refine q_seq hS rfl rfl rfl (y_lenStrN hS rfl Try.underlying9) ?_; clear hS a; intro a hS
    refine q_seq hS rfl rfl rfl (y_move hS rfl) ?_; clear hS a; intro a hS
    refine q_seq hS rfl rfl rfl (y_lenStrN hS rfl Try.underlying9) ?_; clear hS a; intro a hS
    have hmx9 : (s_).length ≤ 9223372036854775807 := (by first | omega | (rw [List.length_append]; omega) | (simp only [List.length_append]; omega) | (simp only [List.length_append, List.length_take, List.length_drop, List.length_cons, List.length_nil]; omega))
    have hmx10 : (suffix_).length ≤ 9223372036854775807 := (by first | omega | (rw [List.length_append]; omega) | (simp only [List.length_append]; omega) | (simp only [List.length_append, List.length_take, List.length_drop, List.length_cons, List.length_nil]; omega))
    refine q_seq hS rfl rfl rfl (y_sub hS rfl rfl (in64.2 (by omega))) ?_; clear hS a; intro a hS
    refine q_seq hS rfl rfl rfl (y_strH (i := (((((s_).length : Nat) : Int) - (((suffix_).length : Nat) : Int)).toNat)) hS rfl rfl Try.underlying9 (by omega) hk8) ?_; clear hS a; intro a hS
    refine q_seq hS rfl rfl rfl (y_assign hS rfl) ?_; clear hS a; intro a hS
    apply wpList_nil
    refine p_norm ?_
    apply wp_ret
    refine p_thenR ?_
    obtain rfl := Option.some.inj hg
    refine fin1 (fn := Try.f67) hS rfl (r_tmp hS rfl) ?_
    exact ⟨rfl, (by first | omega | (rw [List.length_append]; omega) | (simp only [List.length_append]; omega) | (simp only [List.length_append, List.length_take, List.length_drop, List.length_cons, List.length_nil]; omega))⟩
  · replace hg := br_f hg (by rw [hc6]; exact Bool.false_ne_true)
    apply wp_skip
    refine p_norm ?_
    apply wp_seq
    apply wp_region_lit
    refine q_seq hS rfl rfl rfl (y_move hS rfl) ?_; clear hS a; intro a hS
    refine q_seq hS rfl rfl rfl (y_assign hS rfl) ?_; clear hS a; intro a hS
    apply wpList_nil
    refine p_norm ?_
    apply wp_ret
    obtain rfl := Option.some.inj hg
    refine fin1 (fn := Try.f67) hS rfl (r_tmp hS rfl) ?_
    exact ⟨rfl, (by first | omega | (rw [List.length_append]; omega) | (simp only [List.length_append]; omega) | (simp only [List.length_append, List.length_take, List.length_drop, List.length_cons, List.length_nil]; omega))⟩
set_option maxHeartbeats 400000 in
theorem c_strings_TrimSuffix (n : Nat) (M : Bs) (w0 : World) (hM : ∀ b, M b → b < w0.heap.size) (s_ : (List UInt8)) (lp01 : (s_).length ≤ 9223372036854775807) (suffix_ : (List UInt8)) (lp11 : (suffix_).length ≤ 9223372036854775807) (r : (List UInt8)) (hg : strings_TrimSuffix n s_ suffix_ = some r) :
    Calls Try.prog 62 [.string (bs (s_)), .string (bs (suffix_))].toArray w0 (Ret noB w0 fun v w => v = .string (bs (r)) ∧ ((r).length ≤ 9223372036854775807)) := by
  unfold strings_TrimSuffix at hg
  refine enter M noB Try.func62 rfl rfl hM ?_
  intro a hS
  apply wp_seq
  apply wp_region_lit
  refine q_seq hS rfl rfl rfl (y_assign hS rfl) ?_; clear hS a; intro a hS
  apply wpList_nil
  refine p_norm ?_
  apply wp_seq
  replace hg := bind_some hg; obtain ⟨r1, hr1, hg⟩ := hg
  apply wp_region_lit
  refine q_seq hS rfl rfl rfl (y_move hS rfl) ?_; clear hS a; intro a hS
  refine q_seq hS rfl rfl rfl (y_move hS rfl) ?_; clear hS a; intro a hS
  refine l_seq rfl (l_call (cap := []) hS rfl Try.func67 rfl (by kernel_rfl) rfl rfl (c_stringslite_TrimSuffix n _ _ hS.lt s_ (by first | omega | (rw [List.length_append]; omega) | (simp only [List.length_append]; omega) | (simp only [List.length_append, List.length_take, List.length_drop, List.length_cons, List.length_nil]; omega)) suffix_ (by first | omega | (rw [List.length_append]; omega) | (simp only [List.length_append]; omega) | (simp only [List.length_append, List.length_take, List.length_drop, List.length_cons, List.length_nil]; omega)) r1 hr1) ?_); clear hS a; intro v4 a w hK hp hS
  clear hK
  obtain ⟨rfl, lu5a1⟩ := hp
  refine q_seq hS rfl rfl rfl (y_assign hS rfl) ?_; clear hS a; intro a hS
  apply wpList_nil
  refine p_norm ?_
  apply wp_ret
  obtain rfl := Option.some.inj hg
  refine fin1 (fn := Try.f62) hS rfl (r_tmp hS rfl) ?_
  exact ⟨rfl, (by first | omega | (rw [List.length_append]; omega) | (simp only [List.length_append]; omega) | (simp only [List.length_append, List.length_take, List.length_drop, List.length_cons, List.length_nil]; omega))⟩
set_option maxHeartbeats 400000 in
theorem c_affix_sideOf_2 (n : Nat) (M : Bs) (w0 : World) (hM : ∀ b, M b → b < w0.heap.size) (w_ : (List UInt8)) (lp01 : (w_).length ≤ 9223372036854775807) (part_ : (List UInt8)) (lp11 : (part_).length ≤ 9223372036854775807) (r : (List UInt8)) (hg : affix_sideOf_2 n w_ part_ = some r) :
    Calls Try.prog 63 [.string (bs (w_)), .string (bs (part_))].toArray w0 (Ret noB w0 fun v w => v = .string (bs (r)) ∧ ((r).length ≤ 9223372036854775807)) := by
  unfold affix_sideOf_2 at hg
  refine enter M noB Try.func63 rfl rfl hM ?_
  intro a hS
  apply wp_seq
  apply wp_region_lit
  refine q_seq hS rfl rfl rfl (y_assign hS rfl) ?_; clear hS a; intro a hS
  apply wpList_nil
  refine p_norm ?_
  apply wp_seq
  replace hg := chk_some hg; obtain ⟨hk1, hg⟩ := hg
  apply wp_region_lit
  refine q_seq hS rfl rfl rfl (y_move hS rfl) ?_; clear hS a; intro a hS
  refine q_seq hS rfl rfl rfl (y_move hS rfl) ?_; clear hS a; intro a hS
  refine q_seq hS rfl rfl rfl (y_concat hS rfl rfl hk1) ?_; clear hS a; intro a hS
  refine q_seq hS rfl rfl rfl (y_assign hS rfl) ?_; clear hS a; intro a hS
  apply wpList_nil
  refine p_norm ?_
  apply wp_ret
  obtain rfl := Option.some.inj hg
  refine fin1 (fn := Try.f63) hS rfl (r_tmp hS rfl) ?_
  exact ⟨rfl, (by first | omega | (rw [List.length_append]; omega) | (simp only [List.length_append]; omega) | (simp only [List.length_append, List.length_take, List.length_drop, List.length_cons, List.length_nil]; omega))⟩
set_option maxHeartbeats 400000 in
theorem c_affix_sideOf (n : Nat) (M : Bs) (w0 : World) (hM : ∀ b, M b → b < w0.heap.size) (kind_ : Int) (r : side) (hg : affix_sideOf n kind_ = some r) :
    Calls Try.prog 54 [.int .i64 (kind_)].toArray w0 (Ret noB w0 fun v w => ∃ (Aa1 : FuncId), ∃ (ca1 : List Value), ∃ (Aa2 : FuncId), ∃ (ca2 : List Value), ∃ (Aa3 : FuncId), ∃ (ca3 : List Value), v = .agg #[.func (.func Aa1) #[] (List.toArray ca1), .func (.func Aa2) #[] (List.toArray ca2), .func (.func Aa3) #[] (List.toArray ca3)] ∧ (FnR Try.prog Aa1 ca1 pre74 post74 (r.fits_) M w) ∧ (FnR Try.prog Aa2 ca2 pre75 post75 (r.remove_) M w) ∧ (FnR Try.prog Aa3 ca3 pre75 post75 (r.add_) M w)) := by
  unfold affix_sideOf at hg
  refine enter M noB Try.func54 rfl rfl hM ?_
  intro a hS
  apply wp_seq
  apply wp_region_lit
  refine l_seq rfl (l_alloc (zs := [.nilFunc, .nilFunc, .nilFunc]) hS 1000 rfl rfl rfl rfl ?_); clear hS a; intro b2 a w hb hK hS
  clear hb
  clear hK
  apply wpList_nil
  refine p_norm ?_
  apply wp_seq
  apply wp_seq
  apply wp_region_lit
  refine q_seq hS rfl rfl rfl (y_move hS rfl) ?_; clear hS a; intro a hS
  refine q_seq hS rfl rfl rfl (y_eql hS rfl rfl) ?_; clear hS a; intro a hS
  apply wpList_nil
  refine p_norm ?_
  refine c_dec hS rfl (fun hc3 => ?_) (fun hc3 => ?_)
  · replace hg := br_t hg hc3
    apply wp_seq
    apply wp_region_lit
    refine q_seq hS rfl rfl rfl (y_build (parts := [(0, .func 58), (1, .func 59), (2, .func 60)]) (ps := [(0, .func (.func 58) #[] #[]), (1, .func (.func 59) #[] #[]), (2, .func (.func 60) #[] #[])]) (cells := #[.func (.func 58) #[] #[], .func (.func 59) #[] #[], .func (.func 60) #[] #[]]) hS rfl (by kernel_rfl)) ?_; clear hS a; intro a hS
    refine l_seq rfl (l_store (n := 3) (cs' := [.func (.func 58) #[] #[], .func (.func 59) #[] #[], .func (.func 60) #[] #[]]) hS 1000 rfl rfl rfl rfl rfl rfl rfl rfl ?_); clear hS; intro w hK hS; clear hK
    apply wpList_nil
    refine p_norm ?_
    apply wp_ret
    refine p_thenR ?_
    obtain rfl := Option.some.inj hg
    refine fin1 (fn := Try.f54) hS rfl (r_cell (kk := 1000) (n := 3) (vs := [.func (.func 58) #[] #[], .func (.func 59) #[] #[], .func (.func 60) #[] #[]]) hS rfl rfl Try.underlying77 rfl rfl rfl rfl) ?_
    exact ⟨(58), ([]), (59), ([]), (60), ([]), rfl, ⟨⟨_, _, Try.func58, rfl, by kernel_rfl⟩, fun M1 w1 hk hm hlt vs x r hp hr => by obtain ⟨rfl, la1, lb1⟩ := hp; exact c_strings_HasPrefix n M1 w1 hlt (x.1) la1 (x.2) lb1 r hr⟩, ⟨⟨_, _, Try.func59, rfl, by kernel_rfl⟩, fun M1 w1 hk hm hlt vs x r hp hr => by obtain ⟨rfl, la1, lb1⟩ := hp; exact c_strings_TrimPrefix n M1 w1 hlt (x.1) la1 (x.2) lb1 r hr⟩, ⟨⟨_, _, Try.func60, rfl, by kernel_rfl⟩, fun M1 w1 hk hm hlt vs x r hp hr => by obtain ⟨rfl, la1, lb1⟩ := hp; exact c_affix_sideOf_1 n M1 w1 hlt (x.1) la1 (x.2) lb1 r hr⟩⟩
  · replace hg := br_f hg hc3
    apply wp_skip
    refine p_norm ?_
    apply wp_seq
    apply wp_region_lit
    refine q_seq hS rfl rfl rfl (y_build (parts := [(0, .func 61), (1, .func 62), (2, .func 63)]) (ps := [(0, .func (.func 61) #[] #[]), (1, .func (.func 62) #[] #[]), (2, .func (.func 63) #[] #[])]) (cells := #[.func (.func 61) #[] #[], .func (.func 62) #[] #[], .func (.func 63) #[] #[]]) hS rfl (by kernel_rfl)) ?_; clear hS a; intro a hS
    refine l_seq rfl (l_store (n := 3) (cs' := [.func (.func 61) #[] #[], .func (.func 62) #[] #[], .func (.func 63) #[] #[]]) hS 1000 rfl rfl rfl rfl rfl rfl rfl rfl ?_); clear hS; intro w hK hS; clear hK
    apply wpList_nil
    refine p_norm ?_
    apply wp_ret
    obtain rfl := Option.some.inj hg
    refine fin1 (fn := Try.f54) hS rfl (r_cell (kk := 1000) (n := 3) (vs := [.func (.func 61) #[] #[], .func (.func 62) #[] #[], .func (.func 63) #[] #[]]) hS rfl rfl Try.underlying77 rfl rfl rfl rfl) ?_
    exact ⟨(61), ([]), (62), ([]), (63), ([]), rfl, ⟨⟨_, _, Try.func61, rfl, by kernel_rfl⟩, fun M1 w1 hk hm hlt vs x r hp hr => by obtain ⟨rfl, la1, lb1⟩ := hp; exact c_strings_HasSuffix n M1 w1 hlt (x.1) la1 (x.2) lb1 r hr⟩, ⟨⟨_, _, Try.func62, rfl, by kernel_rfl⟩, fun M1 w1 hk hm hlt vs x r hp hr => by obtain ⟨rfl, la1, lb1⟩ := hp; exact c_strings_TrimSuffix n M1 w1 hlt (x.1) la1 (x.2) lb1 r hr⟩, ⟨⟨_, _, Try.func63, rfl, by kernel_rfl⟩, fun M1 w1 hk hm hlt vs x r hp hr => by obtain ⟨rfl, la1, lb1⟩ := hp; exact c_affix_sideOf_2 n M1 w1 hlt (x.1) la1 (x.2) lb1 r hr⟩⟩
set_option maxHeartbeats 400000 in
theorem c_affix_Apply (n : Nat) (M : Bs) (w0 : World) (hM : ∀ b, M b → b < w0.heap.size) (a_ : Affix) (Ap02 : Option Addr) (cp02 : Nat) (hp02 : SlR RChange M w0 Ap02 (a_.Pairs).length cp02 (a_.Pairs)) (w_ : (List UInt8)) (lp11 : (w_).length ≤ 9223372036854775807) (r : ((List UInt8) × Bool)) (hg : affix_Apply n a_ w_ = some r) :
    Calls Try.prog 47 [.agg #[.int .i64 (a_.Kind), .slice (Ap02) ((a_.Pairs).length) (cp02)], .string (bs (w_))].toArray w0 (Ret noB w0 fun v w => v = .tuple #[.string (bs (r.1)), .bool (r.2)] ∧ ((r.1).length ≤ 9223372036854775807)) := by
  unfold affix_Apply at hg
  refine enter M noB Try.func47 rfl rfl hM ?_
  intro a hS
  replace hS := hS.add 101 (slF RChange (Ap02) ((a_.Pairs).length) (cp02) (a_.Pairs)) (by exact Fact.change _ enterM hp02)
  apply wp_seq
  apply wp_region_lit
  refine l_seq rfl (l_box (zs := [.int .i64 (a_.Kind), .slice (Ap02) ((a_.Pairs).length) (cp02)]) hS 1000 rfl rfl rfl rfl ?_); clear hS a; intro b2 a w hb hK hS
  clear hb
  clear hK
  refine q_seq hS rfl rfl rfl (y_assign hS rfl) ?_; clear hS a; intro a hS
  refine q_seq hS rfl rfl rfl (y_assign hS rfl) ?_; clear hS a; intro a hS
  apply wpList_nil
  refine p_norm ?_
  apply wp_seq
  apply wp_seq
  apply wp_region_lit
  refine q_seq hS rfl rfl rfl (y_boxField (o' := 0) hS rfl Try.underlying52 rfl rfl rfl) ?_; clear hS a; intro a hS
  refine q_seq hS rfl rfl rfl (y_loadBox1 (kk := 1000) hS rfl rfl rfl Try.underlying3 rfl) ?_; clear hS a; intro a hS
  refine q_seq hS rfl rfl rfl (y_eql hS rfl rfl) ?_; clear hS a; intro a hS
  apply wpList_nil
  refine p_norm ?_
  refine c_dec hS rfl (fun hc3 => ?_) (fun hc3 => ?_)
  · replace hg := br_t hg hc3
    apply wp_seq
    apply wp_region_lit
    refine q_seq hS rfl rfl rfl (y_move hS rfl) ?_; clear hS a; intro a hS
    refine q_seq hS rfl rfl rfl (y_assign hS rfl) ?_; clear hS a; intro a hS
    refine q_seq hS rfl rfl rfl (y_assign hS rfl) ?_; clear hS a; intro a hS
    apply wpList_nil
    refine p_norm ?_
    apply wp_ret
    refine p_thenR ?_
    obtain rfl := Option.some.inj hg
    refine fin2 (fn := Try.f47) hS rfl (r_tmp hS rfl) (r_tmp hS rfl) ?_
    exact ⟨rfl, (by first | omega | (rw [List.length_append]; omega) | (simp only [List.length_append]; omega) | (simp only [List.length_append, List.length_take, List.length_drop, List.length_cons, List.length_nil]; omega))⟩
  · replace hg := br_f hg hc3
    apply wp_skip
    refine p_norm ?_
    apply wp_seq
    replace hg := bind_some hg; obtain ⟨r4, hr4, hg⟩ := hg
    apply wp_region_lit
    refine q_seq hS rfl rfl rfl (y_boxField (o' := 0) hS rfl Try.underlying52 rfl rfl rfl) ?_; clear hS a; intro a hS
    refine q_seq hS rfl rfl rfl (y_loadBox1 (kk := 1000) hS rfl rfl rfl Try.underlying3 rfl) ?_; clear hS a; intro a hS
    refine l_seq rfl (l_call (cap := []) hS rfl Try.func54 rfl (by kernel_rfl) rfl rfl (c_affix_sideOf n _ _ hS.lt a_.Kind r4 hr4) ?_); clear hS a; intro v8 a w hK hp hS
    clear hK
    obtain ⟨Au9a1, cu9a1, Au9a2, cu9a2, Au9a3, cu9a3, rfl, hu9a1, hu9a2, hu9a3⟩ := hp
    replace hS := hS.add 105 (fnF Try.prog Au9a1 cu9a1 pre74 post74 (r4.fits_)) hu9a1
    replace hS := hS.add 106 (fnF Try.prog Au9a2 cu9a2 pre75 post75 (r4.remove_)) hu9a2
    replace hS := hS.add 107 (fnF Try.prog Au9a3 cu9a3 pre75 post75 (r4.add_)) hu9a3
    refine l_seq rfl (l_alloc (zs := [.nilFunc, .nilFunc, .nilFunc]) hS 1303 rfl rfl rfl rfl ?_); clear hS a; intro b10 a w hb hK hS
    clear hb
    clear hK
    refine l_seq rfl (l_store (n := 3) (cs' := [.func (.func Au9a1) #[] (List.toArray cu9a1), .func (.func Au9a2) #[] (List.toArray cu9a2), .func (.func Au9a3) #[] (List.toArray cu9a3)]) hS 1303 rfl rfl rfl rfl rfl rfl rfl rfl ?_); clear hS; intro w hK hS; clear hK
    apply wpList_nil
    refine p_norm ?_
    apply wp_seq
    apply wp_seq
    apply wp_region_lit
    refine q_seq hS rfl rfl rfl (y_boxField (o' := 1) hS rfl Try.underlying52 rfl rfl rfl) ?_; clear hS a; intro a hS
    refine q_seq hS rfl rfl rfl (y_loadBox1 (kk := 1000) hS rfl rfl rfl Try.underlying50 rfl) ?_; clear hS a; intro a hS
    refine q_seq hS rfl rfl rfl (y_lenSlice hS rfl Try.underlying50) ?_; clear hS a; intro a hS
    refine q_seq hS rfl rfl rfl (y_move hS rfl) ?_; clear hS a; intro a hS
    apply wpList_nil
    refine p_norm ?_
    apply wp_block
    refine c_loop (σ := Nat) (fun m1 a w => ∃ (t_11 : Nat), affix_Apply_L0 n a_ w_ r4 m1 t_11 = some r ∧ St (⟨Try.f47.ntmps, M, noB, w0⟩ : Ctx) [(1, .string (bs (w_))), (6, .pointer (some ⟨b10, 0, none⟩)), (18, .slice (Ap02) ((a_.Pairs).length) (cp02)), (19, .int .i64 ((((a_.Pairs).length : Nat) : Int))), (20, .int .i64 (((t_11 : Nat) : Int)))] [(1303, Ob.box b10 [.func (.func Au9a1) #[] (List.toArray cu9a1), .func (.func Au9a2) #[] (List.toArray cu9a2), .func (.func Au9a3) #[] (List.toArray cu9a3)] 77)] [(101, slF RChange (Ap02) ((a_.Pairs).length) (cp02) (a_.Pairs)), (105, fnF Try.prog Au9a1 cu9a1 pre74 post74 (r4.fits_)), (106, fnF Try.prog Au9a2 cu9a2 pre75 post75 (r4.remove_)), (107, fnF Try.prog Au9a3 cu9a3 pre75 post75 (r4.add_))] a w) (fun m1 => m1) n ⟨(0), hg, (hS.sub ⟨rfl, rfl, rfl, rfl, rfl, trivial⟩ ⟨rfl, trivial⟩ ⟨rfl, rfl, rfl, rfl, trivial⟩)⟩ ?_
    clear hS a; rintro m1 a w ⟨t_11, hg, hS⟩
    rcases m1 with _ | m1
    · rw [affix_Apply_L0] at hg; cases hg
    rw [affix_Apply_L0] at hg
    apply wp_seq
    apply wp_region_lit
    refine q_seq hS rfl rfl rfl (y_lssN (i := t_11) (j := ((a_.Pairs).length)) hS rfl rfl) ?_; clear hS a; intro a hS
    apply wpList_nil
    refine p_norm ?_
    apply wp_seq
    refine c_dec hS rfl (fun hc12 => ?_) (fun hc12 => ?_)
    · replace hg := br_t hg hc12
      have hmx13 := SlR.mx (hS.fact (k := 101) rfl)
      apply wp_skip
      refine p_norm ?_
      apply wp_seq
      apply wp_block
      apply wp_seq
      replace hg := bind_some hg; obtain ⟨x15, hx15, hg⟩ := hg
      apply wp_region_lit
      obtain ⟨p18, hep18, hpp18⟩ := SlR.elemX (hS.fact (k := 101) rfl) hx15
      refine q_seq hS rfl rfl rfl (y_elem (sz := 2) (i := t_11) hS rfl rfl Try.underlying50 rfl hep18 rfl (lt_of_get hx15)) ?_; clear hS a; intro a hS
      obtain ⟨hlq19, hmq19, csq19, hdq19, hcq19⟩ := hpp18
      obtain ⟨rfl, lq191, lq192⟩ := RChange.open hdq19
      refine q_seq hS rfl rfl rfl (y_ldp hS rfl hlq19 hmq19 (by simpa using hcq19) Try.underlying49 rfl rfl) ?_; clear hS a; intro a hS
      refine l_seq rfl (l_alloc (zs := [.string (bs ([])), .string (bs ([]))]) hS 1602 rfl rfl rfl rfl ?_); clear hS a; intro b20 a w hb hK hS
      clear hb
      clear hK
      refine l_seq rfl (l_store (n := 2) (cs' := [.string (bs (x15.Old)), .string (bs (x15.New))]) hS 1602 rfl rfl rfl rfl rfl rfl rfl rfl ?_); clear hS; intro w hK hS; clear hK
      apply wpList_nil
      refine p_norm ?_
      apply wp_seq
      replace hg := jn_some hg; obtain ⟨k21, hg, hk21⟩ := hg
      refine c_post (fun a w => ∃ (t_22 : Bool), k21 t_22 = some r ∧ St (⟨Try.f47.ntmps, M, noB, w0⟩ : Ctx) [(1, .string (bs (w_))), (6, .pointer (some ⟨b10, 0, none⟩)), (8, .pointer (some ⟨b20, 0, none⟩)), (18, .slice (Ap02) ((a_.Pairs).length) (cp02)), (19, .int .i64 ((((a_.Pairs).length : Nat) : Int))), (20, .int .i64 (((t_11 : Nat) : Int))), (37, .bool (t_22))] [(1303, Ob.box b10 [.func (.func Au9a1) #[] (List.toArray cu9a1), .func (.func Au9a2) #[] (List.toArray cu9a2), .func (.func Au9a3) #[] (List.toArray cu9a3)] 77), (1602, Ob.box b20 [.string (bs (x15.Old)), .string (bs (x15.New))] 49)] [(101, slF RChange (Ap02) ((a_.Pairs).length) (cp02) (a_.Pairs)), (105, fnF Try.prog Au9a1 cu9a1 pre74 post74 (r4.fits_)), (106, fnF Try.prog Au9a2 cu9a2 pre75 post75 (r4.remove_)), (107, fnF Try.prog Au9a3 cu9a3 pre75 post75 (r4.add_))] a w) ?_ ?_
      · replace hg := bind_some hg; obtain ⟨r23, hr23, hg⟩ := hg
        rcases Bool.eq_false_or_eq_true (r23) with hs26 | hs26
        · replace hg := br_t hg hs26
          apply wp_region_lit
          refine q_seq hS rfl rfl rfl (y_boxField (o' := 0) hS rfl Try.underlying77 rfl rfl rfl) ?_; clear hS a; intro a hS
          refine q_seq hS rfl rfl rfl (y_loadBox1 (kk := 1303) hS rfl rfl rfl Try.underlying74 rfl) ?_; clear hS a; intro a hS
          refine q_seq hS rfl rfl rfl (y_move hS rfl) ?_; clear hS a; intro a hS
          refine q_seq hS rfl rfl rfl (y_boxField (o' := 0) hS rfl Try.underlying49 rfl rfl rfl) ?_; clear hS a; intro a hS
          refine q_seq hS rfl rfl rfl (y_loadBox1 (kk := 1602) hS rfl rfl rfl Try.underlying9 rfl) ?_; clear hS a; intro a hS
          refine l_seq rfl (l_callFn (cap := cu9a1) (x := (w_, x15.Old)) hS rfl (hS.fact (k := 105) rfl) rfl rfl ⟨rfl, (by first | omega | (rw [List.length_append]; omega) | (simp only [List.length_append]; omega) | (simp only [List.length_append, List.length_take, List.length_drop, List.length_cons, List.length_nil]; omega)), (by first | omega | (rw [List.length_append]; omega) | (simp only [List.length_append]; omega) | (simp only [List.length_append, List.length_take, List.length_drop, List.length_cons, List.length_nil]; omega))⟩ hr23 ?_); clear hS a; intro v27 a w hK hp hS
          clear hK
          obtain rfl := hp.trans (congrArg Value.bool hs26)
          refine q_seq hS rfl rfl rfl (y_move hS rfl) ?_; clear hS a; intro a hS
          refine g_yes hS rfl rfl rfl rfl (l_quiet hS rfl rfl (y_move hS rfl) ?_); clear hS a; intro a hS
          refine g_yes hS rfl rfl rfl rfl (l_quiet hS rfl rfl (y_lenStrN hS rfl Try.underlying9) ?_); clear hS a; intro a hS
          refine g_yes hS rfl rfl rfl rfl (l_quiet hS rfl rfl (y_boxField (o' := 0) hS rfl Try.underlying49 rfl rfl rfl) ?_); clear hS a; intro a hS
          refine g_yes hS rfl rfl rfl rfl (l_quiet hS rfl rfl (y_loadBox1 (kk := 1602) hS rfl rfl rfl Try.underlying9 rfl) ?_); clear hS a; intro a hS
          refine g_yes hS rfl rfl rfl rfl (l_quiet hS rfl rfl (y_lenStrN hS rfl Try.underlying9) ?_); clear hS a; intro a hS
          refine g_yes hS rfl rfl rfl rfl (l_quiet hS rfl rfl (y_gtrN (i := ((w_).length)) (j := ((x15.Old).length)) hS rfl rfl) ?_); clear hS a; intro a hS
          refine q_seq hS rfl rfl rfl (y_pick_t hS rfl rfl) ?_; clear hS a; intro a hS
          apply wpList_nil
          refine p_norm ?_
          exact ⟨(decide (((x15.Old).length) < ((w_).length))), hg, (hS.sub ⟨rfl, rfl, rfl, rfl, rfl, rfl, rfl, trivial⟩ ⟨rfl, rfl, trivial⟩ ⟨rfl, rfl, rfl, rfl, trivial⟩)⟩
        · replace hg := br_f hg (by rw [hs26]; exact Bool.false_ne_true)
          apply wp_region_lit
          refine q_seq hS rfl rfl rfl (y_boxField (o' := 0) hS rfl Try.underlying77 rfl rfl rfl) ?_; clear hS a; intro a hS
          refine q_seq hS rfl rfl rfl (y_loadBox1 (kk := 1303) hS rfl rfl rfl Try.underlying74 rfl) ?_; clear hS a; intro a hS
          refine q_seq hS rfl rfl rfl (y_move hS rfl) ?_; clear hS a; intro a hS
          refine q_seq hS rfl rfl rfl (y_boxField (o' := 0) hS rfl Try.underlying49 rfl rfl rfl) ?_; clear hS a; intro a hS
          refine q_seq hS rfl rfl rfl (y_loadBox1 (kk := 1602) hS rfl rfl rfl Try.underlying9 rfl) ?_; clear hS a; intro a hS
          refine l_seq rfl (l_callFn (cap := cu9a1) (x := (w_, x15.Old)) hS rfl (hS.fact (k := 105) rfl) rfl rfl ⟨rfl, (by first | omega | (rw [List.length_append]; omega) | (simp only [List.length_append]; omega) | (simp only [List.length_append, List.length_take, List.length_drop, List.length_cons, List.length_nil]; omega)), (by first | omega | (rw [List.length_append]; omega) | (simp only [List.length_append]; omega) | (simp only [List.length_append, List.length_take, List.length_drop, List.length_cons, List.length_nil]; omega))⟩ hr23 ?_); clear hS a; intro v29 a w hK hp hS
          clear hK
          obtain rfl := hp.trans (congrArg Value.bool hs26)
          refine q_seq hS rfl rfl rfl (y_move hS rfl) ?_; clear hS a; intro a hS
          refine g_no hS rfl rfl rfl rfl rfl rfl rfl ?_; clear hS a; intro a hS
          refine g_no hS rfl rfl rfl rfl rfl rfl rfl ?_; clear hS a; intro a hS
          refine g_no hS rfl rfl rfl rfl rfl rfl rfl ?_; clear hS a; intro a hS
          refine g_no hS rfl rfl rfl rfl rfl rfl rfl ?_; clear hS a; intro a hS
          refine g_no hS rfl rfl rfl rfl rfl rfl rfl ?_; clear hS a; intro a hS
          refine g_no hS rfl rfl rfl rfl rfl rfl rfl ?_; clear hS a; intro a hS
          refine q_seq hS rfl rfl rfl (y_pick_f hS rfl rfl) ?_; clear hS a; intro a hS
          apply wpList_nil
          refine p_norm ?_
          exact ⟨(false), hg, (hS.sub ⟨rfl, rfl, rfl, rfl, rfl, rfl, rfl, trivial⟩ ⟨rfl, rfl, trivial⟩ ⟨rfl, rfl, rfl, rfl, trivial⟩)⟩
      clear hS a; rintro a w ⟨t_22, hg, hS⟩
      subst hk21
      refine c_cond hS rfl (fun hc31 => ?_) (fun hc31 => ?_)
      · replace hg := br_t hg hc31
        apply wp_seq
        replace hg := bind_some hg; obtain ⟨r32, hr32, hg⟩ := hg
        replace hg := bind_some hg; obtain ⟨r35, hr35, hg⟩ := hg
        refine d_plan hS [] [(0, some 0), (1, some 1303), (2, some 0), (3, some 1303), (4, some 0), (5, some 0), (6, some 1602), (8, some 0), (9, some 1602), (7, none), (10, none), (11, none)] rfl (by kernel_rfl) (by kernel_rfl) rfl ?_; clear hS; intro wr hZ hS; have hR := hS.wd
        refine q_take hS hR rfl rfl rfl rfl (y_boxField (o' := 2) hS rfl Try.underlying77 rfl rfl rfl) ?_; clear hS a; intro a hS
        refine q_take hS hR rfl rfl rfl rfl (y_loadBox1 (kk := 1303) hS rfl rfl rfl Try.underlying75 rfl) ?_; clear hS a; intro a hS
        refine q_take hS hR rfl rfl rfl rfl (y_boxField (o' := 1) hS rfl Try.underlying77 rfl rfl rfl) ?_; clear hS a; intro a hS
        refine q_take hS hR rfl rfl rfl rfl (y_loadBox1 (kk := 1303) hS rfl rfl rfl Try.underlying75 rfl) ?_; clear hS a; intro a hS
        refine q_take hS hR rfl rfl rfl rfl (y_move hS rfl) ?_; clear hS a; intro a hS
        refine q_take hS hR rfl rfl rfl rfl (y_boxField (o' := 0) hS rfl Try.underlying49 rfl rfl rfl) ?_; clear hS a; intro a hS
        refine q_take hS hR rfl rfl rfl rfl (y_loadBox1 (kk := 1602) hS rfl rfl rfl Try.underlying9 rfl) ?_; clear hS a; intro a hS
        refine q_take hS hR rfl rfl rfl rfl (y_boxField (o' := 1) hS rfl Try.underlying49 rfl rfl rfl) ?_; clear hS a; intro a hS
        refine q_take hS hR rfl rfl rfl rfl (y_loadBox1 (kk := 1602) hS rfl rfl rfl Try.underlying9 rfl) ?_; clear hS a; intro a hS
        refine l_take hS rfl rfl (l_callFn (cap := cu9a2) (x := (w_, x15.Old)) hS rfl (hS.fact (k := 106) rfl) rfl rfl ⟨rfl, (by first | omega | (rw [List.length_append]; omega) | (simp only [List.length_append]; omega) | (simp only [List.length_append, List.length_take, List.length_drop, List.length_cons, List.length_nil]; omega)), (by first | omega | (rw [List.length_append]; omega) | (simp only [List.length_append]; omega) | (simp only [List.length_append, List.length_take, List.length_drop, List.length_cons, List.length_nil]; omega))⟩ hr32 ?_); clear hS a; intro v38 a w hK hp hS
        replace hZ := Nat.le_trans hZ hK.size; refine ⟨fun g _ h => h.grow hK, ?_⟩; clear hK
        obtain ⟨rfl, lu39a1⟩ := hp
        refine l_take hS rfl rfl (l_callFn (cap := cu9a3) (x := (r32, x15.New)) hS rfl (hS.fact (k := 107) rfl) rfl rfl ⟨rfl, (by first | omega | (rw [List.length_append]; omega) | (simp only [List.length_append]; omega) | (simp only [List.length_append, List.length_take, List.length_drop, List.length_cons, List.length_nil]; omega)), (by first | omega | (rw [List.length_append]; omega) | (simp only [List.length_append]; omega) | (simp only [List.length_append, List.length_take, List.length_drop, List.length_cons, List.length_nil]; omega))⟩ hr35 ?_); clear hS a; intro v40 a w hK hp hS
        replace hZ := Nat.le_trans hZ hK.size; refine ⟨fun g _ h => h.grow hK, ?_⟩; clear hK
        obtain ⟨rfl, lu41a1⟩ := hp
        refine l_take hS rfl rfl (l_quiet hS rfl rfl (y_assign hS rfl) ?_); clear hS a; intro a hS; refine ⟨fun g _ h => h, ?_⟩
        clear hR hZ
        refine p_norm ?_
        apply wp_seq
        apply wp_seq
        replace hg := bind_some hg; obtain ⟨r42, hr42, hg⟩ := hg
        apply wp_region_lit
        refine q_seq hS rfl rfl rfl (y_move hS rfl) ?_; clear hS a; intro a hS
        refine l_seq rfl (l_call (cap := []) hS rfl Try.func27 rfl (by kernel_rfl) rfl rfl (c_text_Word n _ _ hS.lt r35 (by first | omega | (rw [List.length_append]; omega) | (simp only [List.length_append]; omega) | (simp only [List.length_append, List.length_take, List.length_drop, List.length_cons, List.length_nil]; omega)) r42 hr42) ?_); clear hS a; intro v45 a w hK hp hS
        clear hK
        obtain rfl := hp
        refine q_seq hS rfl rfl rfl (y_not hS rfl) ?_; clear hS a; intro a hS
        apply wpList_nil
        refine p_norm ?_
        refine c_cond hS rfl (fun hc47 => ?_) (fun hc47 => ?_)
        · replace hg := br_t hg hc47
          apply wp_seq
          apply wp_region_lit
          refine q_seq hS rfl rfl rfl (y_assign hS rfl) ?_; clear hS a; intro a hS
          refine q_seq hS rfl rfl rfl (y_assign hS rfl) ?_; clear hS a; intro a hS
          apply wpList_nil
          refine p_norm ?_
          apply wp_ret
          refine p_thenR ?_
          refine p_inR ?_
          refine p_thenR ?_
          refine p_thenR ?_
          refine p_inR ?_
          refine p_thenR ?_
          obtain rfl := Option.some.inj hg
          refine fin2 (fn := Try.f47) hS rfl (r_tmp hS rfl) (r_tmp hS rfl) ?_
          exact ⟨rfl, (by first | omega | (rw [List.length_append]; omega) | (simp only [List.length_append]; omega) | (simp only [List.length_append, List.length_take, List.length_drop, List.length_cons, List.length_nil]; omega))⟩
        · replace hg := br_f hg (by rw [hc47]; exact Bool.false_ne_true)
          apply wp_skip
          refine p_norm ?_
          apply wp_seq
          apply wp_region_lit
          refine q_seq hS rfl rfl rfl (y_move hS rfl) ?_; clear hS a; intro a hS
          refine q_seq hS rfl rfl rfl (y_assign hS rfl) ?_; clear hS a; intro a hS
          refine q_seq hS rfl rfl rfl (y_assign hS rfl) ?_; clear hS a; intro a hS
          apply wpList_nil
          refine p_norm ?_
          apply wp_ret
          refine p_inR ?_
          refine p_thenR ?_
          refine p_thenR ?_
          refine p_inR ?_
          refine p_thenR ?_
          obtain rfl := Option.some.inj hg
          refine fin2 (fn := Try.f47) hS rfl (r_tmp hS rfl) (r_tmp hS rfl) ?_
          exact ⟨rfl, (by first | omega | (rw [List.length_append]; omega) | (simp only [List.length_append]; omega) | (simp only [List.length_append, List.length_take, List.length_drop, List.length_cons, List.length_nil]; omega))⟩
      · replace hg := br_f hg (by rw [hc31]; exact Bool.false_ne_true)
        apply wp_skip
        refine p_inN ?_
        refine p_norm ?_
        apply wp_region_lit
        refine q_seq hS rfl rfl rfl (y_addN (i := t_11) (j := 1) hS rfl rfl (in64.2 (by omega))) ?_; clear hS a; intro a hS
        refine q_seq hS rfl rfl rfl (y_move hS rfl) ?_; clear hS a; intro a hS
        apply wpList_nil
        refine p_norm ?_
        exact ⟨m1, Nat.lt_succ_self _, ⟨(t_11 + 1), hg, (hS.sub ⟨rfl, rfl, rfl, rfl, rfl, trivial⟩ ⟨rfl, trivial⟩ ⟨rfl, rfl, rfl, rfl, trivial⟩)⟩⟩
    · replace hg := br_f hg hc12
      apply wp_exit
      refine p_then ?_
      refine p_then ?_
      refine p_in ?_
      refine p_norm ?_
      apply wp_seq
      apply wp_region_lit
      refine q_seq hS rfl rfl rfl (y_assign hS rfl) ?_; clear hS a; intro a hS
      refine q_seq hS rfl rfl rfl (y_assign hS rfl) ?_; clear hS a; intro a hS
      apply wpList_nil
      refine p_norm ?_
      apply wp_ret
      obtain rfl := Option.some.inj hg
      refine fin2 (fn := Try.f47) hS rfl (r_tmp hS rfl) (r_tmp hS rfl) ?_
      exact ⟨rfl, (by first | omega | (rw [List.length_append]; omega) | (simp only [List.length_append]; omega) | (simp only [List.length_append, List.length_take, List.length_drop, List.length_cons, List.length_nil]; omega))⟩
set_option maxHeartbeats 400000 in
theorem c_slices_Clone_string (n : Nat) (M : Bs) (w0 : World) (hM : ∀ b, M b → b < w0.heap.size) (s_ : (List (List UInt8))) (Ap01 : Option Addr) (cp01 : Nat) (hp01 : SlR Rep.str M w0 Ap01 (s_).length cp01 (s_)) (r : (List (List UInt8))) (hg : slices_Clone_string n s_ = some r) :
    Calls Try.prog 48 [.slice (Ap01) ((s_).length) (cp01)].toArray w0 (Ret noB w0 fun v w => ∃ (Ao : Option Addr), ∃ (co : Nat), ∃ (cso : List Value), v = .slice (Ao) ((r).length) (co) ∧ ((Ob.row Ao (r).length co 9 1 cso).holds w) ∧ (∀ b, (Ob.row Ao (r).length co 9 1 cso).ids b → w0.heap.size ≤ b) ∧ (RdAll Rep.str (fun b => M b ∨ (Ob.row Ao (r).length co 9 1 cso).ids b) w cso (r))) := by
  unfold slices_Clone_string at hg
  refine enter M noB Try.func48 rfl rfl hM ?_
  intro a hS
  replace hS := hS.add 101 (slF Rep.str (Ap01) ((s_).length) (cp01) (s_)) (by exact Fact.change _ enterM hp01)
  apply wp_seq
  apply wp_region_lit
  refine q_seq hS rfl rfl rfl (y_assign hS rfl) ?_; clear hS a; intro a hS
  apply wpList_nil
  refine p_norm ?_
  apply wp_seq
  apply wp_seq
  apply wp_region_lit
  refine q_seq hS rfl rfl rfl (y_move hS rfl) ?_; clear hS a; intro a hS
  refine q_seq hS rfl rfl rfl (y_slnil hS rfl rfl Try.underlying27) ?_; clear hS a; intro a hS
  apply wpList_nil
  refine p_norm ?_
  refine c_cond hS rfl (fun hc1 => ?_) (fun hc1 => ?_)
  · have hnil := SlR.nil0 (hS.fact (k := 101) rfl) (by simpa using hc1)
    replace hg : (some []) = some r := by have h0 := hg; rw [hnil] at h0; simpa [chk] using h0
    apply wp_seq
    apply wp_region_lit
    refine q_seq hS rfl rfl rfl (y_assign hS rfl) ?_; clear hS a; intro a hS
    apply wpList_nil
    refine p_norm ?_
    apply wp_ret
    refine p_thenR ?_
    obtain rfl := Option.some.inj hg
    refine fin1 (fn := Try.f48) hS rfl (r_tmp hS rfl) ?_
    exact ⟨none, 0, [], rfl, (World.ownsRow_nil _ 0 9 1), (fun b hb => by obtain ⟨p, hp, _⟩ := hb; cases hp), RdAll.nil _ _ _⟩
  · apply wp_skip
    refine p_norm ?_
    apply wp_seq
    replace hg := chk_some hg; obtain ⟨hk3, hg⟩ := hg
    apply wp_region_lit
    refine l_seq rfl (l_buildEmpty (sz := 1) hS 1300 Try.underlying27 rfl rfl rfl ?_); clear hS a; intro b6 a w hbb6 hK hS
    clear hbb6
    clear hK
    refine q_seq hS rfl rfl rfl (y_move hS rfl) ?_; clear hS a; intro a hS
    replace hS := hS.add 105 (rdF Rep.str ([]) ([])) (RdAll.nil _ _ _)
    obtain ⟨ns8, hs8, hns8⟩ := SlR.src (hS.fact (k := 101) rfl)
    replace hS := hS.add 106 (rdF Rep.str ns8 (s_)) hns8
    refine l_seq rfl (l_append (sz := 1) (by_ := 16) (N := (s_).length) (ys := ns8) hS 1300 rfl rfl rfl Try.underlying27 rfl rfl rfl rfl rfl hs8 (by simp) rfl (by have hr := hk3; clear hg; first | omega | (simp only [List.length_append, List.length_cons, List.length_nil] at hr ⊢; omega) | (simp at hr ⊢; omega)) (by have hr := hk3; clear hg; first | omega | (simp only [List.length_append, List.length_cons, List.length_nil] at hr ⊢; omega) | (simp at hr ⊢; omega)) rfl ?_); clear hS a; intro Aq7 cq7 a w hA hK hS
    clear hK hA
    replace hS := hS.add 107 (rdF Rep.str (ns8) (s_)) (hS.fact (k := 106) rfl)
    refine q_seq hS rfl rfl rfl (y_assign hS rfl) ?_; clear hS a; intro a hS
    apply wpList_nil
    refine p_norm ?_
    apply wp_ret
    obtain rfl := Option.some.inj hg
    refine fin1 (fn := Try.f48) hS rfl (r_tmp hS rfl) ?_
    exact ⟨(Aq7), (cq7), (ns8), rfl, (hS.wd.holds 1300 _ rfl), (row_new hS (kk := 1300) rfl rfl), (RdAll.own hS (kk := 1300) rfl (hS.fact (k := 107) rfl))⟩
set_option maxHeartbeats 400000 in
theorem c_affix_Words (n : Nat) (M : Bs) (w0 : World) (hM : ∀ b, M b → b < w0.heap.size) (a_ : Affix) (Ap02 : Option Addr) (cp02 : Nat) (hp02 : SlR RChange M w0 Ap02 (a_.Pairs).length cp02 (a_.Pairs)) (w_ : (List (List UInt8))) (Ap11 : Option Addr) (cp11 : Nat) (hp11 : SlR Rep.str M w0 Ap11 (w_).length cp11 (w_)) (r : ((List (List UInt8)) × Bool)) (hg : affix_Words n a_ w_ = some r) :
    Calls Try.prog 35 [.agg #[.int .i64 (a_.Kind), .slice (Ap02) ((a_.Pairs).length) (cp02)], .slice (Ap11) ((w_).length) (cp11)].toArray w0 (Ret noB w0 fun v w => ∃ (Aa1 : Option Addr), ∃ (ca1 : Nat), v = .tuple #[.slice (Aa1) ((r.1).length) (ca1), .bool (r.2)] ∧ (SlR Rep.str M w Aa1 (r.1).length ca1 (r.1))) := by
  unfold affix_Words at hg
  refine enter M noB Try.func35 rfl rfl hM ?_
  intro a hS
  replace hS := hS.add 101 (slF RChange (Ap02) ((a_.Pairs).length) (cp02) (a_.Pairs)) (by exact Fact.change _ enterM hp02)
  replace hS := hS.add 102 (slF Rep.str (Ap11) ((w_).length) (cp11) (w_)) (by exact Fact.change _ enterM hp11)
  apply wp_seq
  apply wp_region_lit
  refine l_seq rfl (l_box (zs := [.int .i64 (a_.Kind), .slice (Ap02) ((a_.Pairs).length) (cp02)]) hS 1000 rfl rfl rfl rfl ?_); clear hS a; intro b2 a w hb hK hS
  clear hb
  clear hK
  refine q_seq hS rfl rfl rfl (y_assign hS rfl) ?_; clear hS a; intro a hS
  refine q_seq hS rfl rfl rfl (y_assign hS rfl) ?_; clear hS a; intro a hS
  apply wpList_nil
  refine p_norm ?_
  apply wp_seq
  apply wp_seq
  apply wp_region_lit
  refine q_seq hS rfl rfl rfl (y_boxField (o' := 0) hS rfl Try.underlying52 rfl rfl rfl) ?_; clear hS a; intro a hS
  refine q_seq hS rfl rfl rfl (y_loadBox1 (kk := 1000) hS rfl rfl rfl Try.underlying3 rfl) ?_; clear hS a; intro a hS
  refine q_seq hS rfl rfl rfl (y_eql hS rfl rfl) ?_; clear hS a; intro a hS
  apply wpList_nil
  refine p_norm ?_
  refine c_dec hS rfl (fun hc3 => ?_) (fun hc3 => ?_)
  · replace hg := br_t hg hc3
    apply wp_seq
    apply wp_region_lit
    refine q_seq hS rfl rfl rfl (y_move hS rfl) ?_; clear hS a; intro a hS
    refine q_seq hS rfl rfl rfl (y_assign hS rfl) ?_; clear hS a; intro a hS
    refine q_seq hS rfl rfl rfl (y_assign hS rfl) ?_; clear hS a; intro a hS
    apply wpList_nil
    refine p_norm ?_
    apply wp_ret
    refine p_thenR ?_
    obtain rfl := Option.some.inj hg
    refine fin2 (fn := Try.f35) hS rfl (r_tmp hS rfl) (r_tmp hS rfl) ?_
    exact ⟨(Ap11), (cp11), rfl, (hS.out (k := 102) rfl)⟩
  · replace hg := br_f hg hc3
    apply wp_skip
    refine p_norm ?_
    apply wp_seq
    apply wp_region_lit
    refine q_seq hS rfl rfl rfl (y_move hS rfl) ?_; clear hS a; intro a hS
    refine q_seq hS rfl rfl rfl (y_lenSlice hS rfl Try.underlying27) ?_; clear hS a; intro a hS
    have hmx4 := SlR.mx (hS.fact (k := 102) rfl)
    refine q_seq hS rfl rfl rfl (y_sub hS rfl rfl (in64.2 (by omega))) ?_; clear hS a; intro a hS
    refine q_seq hS rfl rfl rfl (y_assign hS rfl) ?_; clear hS a; intro a hS
    apply wpList_nil
    refine p_norm ?_
    apply wp_seq
    apply wp_seq
    apply wp_region_lit
    refine q_seq hS rfl rfl rfl (y_boxField (o' := 0) hS rfl Try.underlying52 rfl rfl rfl) ?_; clear hS a; intro a hS
    refine q_seq hS rfl rfl rfl (y_loadBox1 (kk := 1000) hS rfl rfl rfl Try.underlying3 rfl) ?_; clear hS a; intro a hS
    refine q_seq hS rfl rfl rfl (y_eql hS rfl rfl) ?_; clear hS a; intro a hS
    apply wpList_nil
    refine p_norm ?_
    replace hg := jn_some hg; obtain ⟨k5, hg, hk5⟩ := hg
    refine c_post (fun a w => ∃ (at_6 : Int), k5 at_6 = some r ∧ St (⟨Try.f35.ntmps, M, noB, w0⟩ : Ctx) [(1, .slice (Ap11) ((w_).length) (cp11)), (2, .pointer (some ⟨b2, 0, none⟩)), (6, .int .i64 (at_6))] [(1000, Ob.box b2 [.int .i64 (a_.Kind), .slice (Ap02) ((a_.Pairs).length) (cp02)] 52)] [(101, slF RChange (Ap02) ((a_.Pairs).length) (cp02) (a_.Pairs)), (102, slF Rep.str (Ap11) ((w_).length) (cp11) (w_))] a w) ?_ ?_
    · refine c_dec hS rfl (fun hc7 => ?_) (fun hc7 => ?_)
      · replace hg := br_t hg hc7
        apply wp_region_lit
        refine q_seq hS rfl rfl rfl (y_assign hS rfl) ?_; clear hS a; intro a hS
        apply wpList_nil
        refine p_norm ?_
        exact ⟨(0), hg, (hS.sub ⟨rfl, rfl, rfl, trivial⟩ ⟨rfl, trivial⟩ ⟨rfl, rfl, trivial⟩)⟩
      · replace hg := br_f hg hc7
        apply wp_skip
        refine p_norm ?_
        exact ⟨((((w_).length : Nat) : Int) - 1), hg, (hS.sub ⟨rfl, rfl, rfl, trivial⟩ ⟨rfl, trivial⟩ ⟨rfl, rfl, trivial⟩)⟩
    clear hS a; rintro a w ⟨at_6, hg, hS⟩
    subst hk5
    apply wp_seq
    replace hg := bind_some hg; obtain ⟨x9, hx9, hg⟩ := hg
    replace hg := bind_some hg; obtain ⟨r11, hr11, hg⟩ := hg
    refine d_steps hS [] rfl ?_; clear hS; intro wr hZ hS; have hR := hS.wd
    refine n_q 0 1000 hS hR rfl (by kernel_rfl) (by kernel_rfl) (by kernel_rfl) rfl rfl rfl (y_loadBox (kk := 1000) (n := 2) (vs := [.int .i64 (a_.Kind), .slice (Ap02) ((a_.Pairs).length) (cp02)]) hS rfl rfl Try.underlying52 rfl rfl rfl rfl) ?_; clear hS a; intro a hS
    refine n_q 1 0 hS hR rfl (by kernel_rfl) (by kernel_rfl) (by kernel_rfl) rfl rfl rfl (y_move hS rfl) ?_; clear hS a; intro a hS
    refine n_q 2 0 hS hR rfl (by kernel_rfl) (by kernel_rfl) (by kernel_rfl) rfl rfl rfl (y_move hS rfl) ?_; clear hS a; intro a hS
    obtain ⟨p14, hep14, hpp14⟩ := SlR.elemX (hS.fact (k := 102) rfl) (ix_some hx9).1
    refine n_q 3 0 hS hR rfl (by kernel_rfl) (by kernel_rfl) (by kernel_rfl) rfl rfl rfl (y_elem (sz := 1) (i := ((at_6).toNat)) hS rfl rfl Try.underlying27 rfl hep14 (ix_some hx9).2.1 (lt_of_get (ix_some hx9).1)) ?_; clear hS a; intro a hS
    obtain ⟨hlq15, hmq15, csq15, hdq15, hcq15⟩ := hpp14
    obtain ⟨rfl, lq151⟩ := hdq15
    refine n_q 4 0 hS hR rfl (by kernel_rfl) (by kernel_rfl) (by kernel_rfl) rfl rfl rfl (y_ldp1 hS rfl hlq15 hmq15 (hcq15 0 _ rfl) Try.underlying9 rfl) ?_; clear hS a; intro a hS
    refine n_1 5 hS (by kernel_rfl) rfl rfl (l_call (cap := []) hS rfl Try.func47 rfl (by kernel_rfl) rfl rfl (c_affix_Apply n _ _ hS.lt a_ (Ap02) (cp02) (hS.fact (k := 101) rfl) x9 (by first | omega | (rw [List.length_append]; omega) | (simp only [List.length_append]; omega) | (simp only [List.length_append, List.length_take, List.length_drop, List.length_cons, List.length_nil]; omega)) r11 hr11) ?_); clear hS a; intro v16 a w hK hp hS
    replace hZ := Nat.le_trans hZ hK.size; refine ⟨fun g _ h => h.grow hK, ?_⟩; clear hK
    obtain ⟨rfl, lu17a1⟩ := hp
    refine n_1 6 hS (by kernel_rfl) rfl rfl (l_quiet hS rfl rfl (y_move hS rfl) ?_); clear hS a; intro a hS; refine ⟨fun g _ h => h, ?_⟩
    refine n_2 7 8 hS (by kernel_rfl) rfl rfl rfl rfl ?_ ?_
    · refine l_quiet hS rfl rfl (y_extract hS rfl rfl) ?_; clear hS a; intro a hS; refine ⟨fun g _ h => h, ?_⟩
      refine n_2 8 9 hS (by kernel_rfl) rfl rfl rfl rfl ?_ ?_
      · refine l_quiet hS rfl rfl (y_extract hS rfl rfl) ?_; clear hS a; intro a hS; refine ⟨fun g _ h => h, ?_⟩
        refine n_1 9 hS (by kernel_rfl) rfl rfl (l_quiet hS rfl rfl (y_assign hS rfl) ?_); clear hS a; intro a hS; refine ⟨fun g _ h => h, ?_⟩
        refine n_1 10 hS (by kernel_rfl) rfl rfl (l_quiet hS rfl rfl (y_assign hS rfl) ?_); clear hS a; intro a hS; refine ⟨fun g _ h => h, ?_⟩
        refine n_end (by kernel_rfl) ?_; clear hR hZ
        refine p_norm ?_
        apply wp_seq
        apply wp_seq
        apply wp_region_lit
        refine q_seq hS rfl rfl rfl (y_move hS rfl) ?_; clear hS a; intro a hS
        refine q_seq hS rfl rfl rfl (y_not hS rfl) ?_; clear hS a; intro a hS
        apply wpList_nil
        refine p_norm ?_
        refine c_cond hS rfl (fun hc18 => ?_) (fun hc18 => ?_)
        · replace hg := br_t hg hc18
          apply wp_seq
          apply wp_region_lit
          refine q_seq hS rfl rfl rfl (y_assign hS rfl) ?_; clear hS a; intro a hS
          refine q_seq hS rfl rfl rfl (y_assign hS rfl) ?_; clear hS a; intro a hS
          apply wpList_nil
          refine p_norm ?_
          apply wp_ret
          refine p_thenR ?_
          obtain rfl := Option.some.inj hg
          refine fin2 (fn := Try.f35) hS rfl (r_tmp hS rfl) (r_tmp hS rfl) ?_
          exact ⟨(none), (0), rfl, (SlR.nil_ _ _ _)⟩
        · replace hg := br_f hg (by rw [hc18]; exact Bool.false_ne_true)
          apply wp_skip
          refine p_norm ?_
          apply wp_seq
          replace hg := bind_some hg; obtain ⟨r19, hr19, hg⟩ := hg
          apply wp_region_lit
          refine q_seq hS rfl rfl rfl (y_move hS rfl) ?_; clear hS a; intro a hS
          refine l_seq rfl (l_callOwn (cap := []) (post := (fun v ob w' => ∃ Ao co cso, ob = Ob.row Ao (r19).length co 9 1 cso ∧ v = .slice (Ao) ((r19).length) (co) ∧ RdAll Rep.str (fun b => mtb _ _ b ∨ ob.ids b) w' cso (r19))) hS 1901 rfl rfl Try.func48 rfl (by kernel_rfl) rfl rfl ((c_slices_Clone_string n _ _ hS.lt w_ (Ap11) (cp11) (hS.fact (k := 102) rfl) r19 hr19).mono (fun e w' h => by obtain ⟨v, he, hk, Ao, co, cso, hv, ho1, ho2, ho3⟩ := h; exact ⟨v, he, hk, _, ho1, ho2, ⟨Ao, co, cso, rfl, hv, ho3⟩⟩)) ?_); clear hS a; intro v23 ob a w hK hp hS
          obtain ⟨Au22, cu22, csu22, rfl, rfl, hou22⟩ := hp
          clear hK
          replace hS := hS.add 104 (rdF Rep.str csu22 (r19)) (RdAll.up2 hS hou22)
          refine q_seq hS rfl rfl rfl (y_assign hS rfl) ?_; clear hS a; intro a hS
          apply wpList_nil
          refine p_norm ?_
          apply wp_seq
          replace hg := bind_some hg; obtain ⟨x25, hx25, hg⟩ := hg
          apply wp_region_lit
          refine q_seq hS rfl rfl rfl (y_move hS rfl) ?_; clear hS a; intro a hS
          refine q_seq hS rfl rfl rfl (y_move hS rfl) ?_; clear hS a; intro a hS
          refine q_seq hS rfl rfl rfl (y_move hS rfl) ?_; clear hS a; intro a hS
          obtain ⟨hiq26, bq26, hAq26⟩ := SlR.row1 (hS.wd.holds 1901 _ rfl) (hS.fact (k := 104) rfl) rfl rfl (ix_some hx25).1
          refine q_seq hS rfl rfl rfl (y_rowIndex (sz := 1) (i := ((at_6).toNat)) hS rfl rfl Try.underlying27 rfl hAq26 (ix_some hx25).2.1 hiq26) ?_; clear hS a; intro a hS
          have hzi := lt_of_get (ix_some hx25).1
          have hzn := rowN (hS.wd.holds 1901 _ rfl) (hS.fact (k := 104) rfl) rfl rfl
          have hzf : ((at_6).toNat) * 1 + 1 ≤ ((r19).length) * 1 := by have := Nat.mul_le_mul_right 1 (Nat.succ_le_of_lt hzi); omega
          refine l_seq rfl (l_storeRow (N := 1) (cs' := splice (csu22) (((at_6).toNat) * 1) [.string (bs (r11.1))]) hS 1901 rfl rfl rfl hAq26 rfl rfl hzf rfl rfl ?_); clear hS; intro w hK hS; clear hK
          replace hS := hS.sub (l' := [(1, .slice (Ap11) ((w_).length) (cp11)), (2, .pointer (some ⟨b2, 0, none⟩)), (6, .int .i64 (at_6)), (7, .string (bs (r11.1))), (8, .bool (r11.2)), (9, .slice (Au22) ((r19).length) (cu22)), (20, .tuple #[.string (bs (r11.1)), .bool (r11.2)]), (21, .agg #[.int .i64 (a_.Kind), .slice (Ap02) ((a_.Pairs).length) (cp02)]), (22, .slice (Ap11) ((w_).length) (cp11)), (23, .int .i64 (at_6)), (24, .pointer (some (p14.add 0))), (25, .string (bs (x9))), (26, .tuple #[.string (bs (r11.1)), .bool (r11.2)]), (27, .string (bs (r11.1))), (28, .bool (r11.2)), (29, .bool (r11.2)), (30, .bool (!(r11.2))), (31, .slice (Ap11) ((w_).length) (cp11)), (32, .slice (Au22) ((r19).length) (cu22)), (33, .slice (Au22) ((r19).length) (cu22)), (34, .int .i64 (at_6)), (35, .string (bs (r11.1))), (36, .pointer (some ⟨bq26, ((at_6).toNat) * 1, none⟩))]) (L' := [(1000, Ob.box b2 [.int .i64 (a_.Kind), .slice (Ap02) ((a_.Pairs).length) (cp02)] 52), (1901, Ob.row (Au22) ((r19).length) (cu22) 9 1 (splice (csu22) (((at_6).toNat) * 1) [.string (bs (r11.1))]))]) (D' := [(101, slF RChange (Ap02) ((a_.Pairs).length) (cp02) (a_.Pairs)), (102, slF Rep.str (Ap11) ((w_).length) (cp11) (w_)), (104, rdF Rep.str (csu22) (r19))]) ⟨rfl, rfl, rfl, rfl, rfl, rfl, rfl, rfl, rfl, rfl, rfl, rfl, rfl, rfl, rfl, rfl, rfl, rfl, rfl, rfl, rfl, rfl, rfl, trivial⟩ ⟨rfl, rfl, trivial⟩ ⟨rfl, rfl, rfl, trivial⟩
          replace hS := hS.eqs (l' := [(1, .slice (Ap11) ((w_).length) (cp11)), (2, .pointer (some ⟨b2, 0, none⟩)), (6, .int .i64 (at_6)), (7, .string (bs (r11.1))), (8, .bool (r11.2)), (9, .slice (Au22) (((r19).set ((at_6).toNat) r11.1).length) (cu22)), (20, .tuple #[.string (bs (r11.1)), .bool (r11.2)]), (21, .agg #[.int .i64 (a_.Kind), .slice (Ap02) ((a_.Pairs).length) (cp02)]), (22, .slice (Ap11) ((w_).length) (cp11)), (23, .int .i64 (at_6)), (24, .pointer (some (p14.add 0))), (25, .string (bs (x9))), (26, .tuple #[.string (bs (r11.1)), .bool (r11.2)]), (27, .string (bs (r11.1))), (28, .bool (r11.2)), (29, .bool (r11.2)), (30, .bool (!(r11.2))), (31, .slice (Ap11) ((w_).length) (cp11)), (32, .slice (Au22) (((r19).set ((at_6).toNat) r11.1).length) (cu22)), (33, .slice (Au22) (((r19).set ((at_6).toNat) r11.1).length) (cu22)), (34, .int .i64 (at_6)), (35, .string (bs (r11.1))), (36, .pointer (some ⟨bq26, ((at_6).toNat) * 1, none⟩))]) (L' := [(1000, Ob.box b2 [.int .i64 (a_.Kind), .slice (Ap02) ((a_.Pairs).length) (cp02)] 52), (1901, Ob.row (Au22) (((r19).set ((at_6).toNat) r11.1).length) (cu22) 9 1 (splice (csu22) (((at_6).toNat) * 1) [.string (bs (r11.1))]))]) (by simp only [List.length_set]) (by simp only [List.length_set])
          replace hS := hS.add 106 (rdF Rep.str (splice (csu22) (((at_6).toNat) * 1) [.string (bs (r11.1))]) ((r19).set ((at_6).toNat) r11.1)) (RdAll.put (hS.fact (k := 104) rfl) ⟨rfl, (by first | omega | (rw [List.length_append]; omega) | (simp only [List.length_append]; omega) | (simp only [List.length_append, List.length_take, List.length_drop, List.length_cons, List.length_nil]; omega))⟩ hzi)
          apply wpList_nil
          refine p_norm ?_
          apply wp_seq
          apply wp_region_lit
          refine q_seq hS rfl rfl rfl (y_move hS rfl) ?_; clear hS a; intro a hS
          refine q_seq hS rfl rfl rfl (y_assign hS rfl) ?_; clear hS a; intro a hS
          refine q_seq hS rfl rfl rfl (y_assign hS rfl) ?_; clear hS a; intro a hS
          apply wpList_nil
          refine p_norm ?_
          apply wp_ret
          obtain rfl := Option.some.inj hg
          refine fin2 (fn := Try.f35) hS rfl (r_tmp hS rfl) (r_tmp hS rfl) ?_
          exact ⟨(Au22), (cu22), rfl, (hS.rowOut (R := Rep.str) (kk := 1901) rfl rfl (hS.fact (k := 106) rfl))⟩
      · refine l_quiet hS rfl rfl (y_assign hS rfl) ?_; clear hS a; intro a hS; refine ⟨fun g _ h => h, ?_⟩
        refine n_1 8 hS (by kernel_rfl) rfl rfl (l_quiet hS rfl rfl (y_extract hS rfl rfl) ?_); clear hS a; intro a hS; refine ⟨fun g _ h => h, ?_⟩
        refine n_1 10 hS (by kernel_rfl) rfl rfl (l_quiet hS rfl rfl (y_assign hS rfl) ?_); clear hS a; intro a hS; refine ⟨fun g _ h => h, ?_⟩
        refine n_end (by kernel_rfl) ?_; clear hR hZ
        refine p_norm ?_
        apply wp_seq
        apply wp_seq
        apply wp_region_lit
        refine q_seq hS rfl rfl rfl (y_move hS rfl) ?_; clear hS a; intro a hS
        refine q_seq hS rfl rfl rfl (y_not hS rfl) ?_; clear hS a; intro a hS
        apply wpList_nil
        refine p_norm ?_
        refine c_cond hS rfl (fun hc27 => ?_) (fun hc27 => ?_)
        · replace hg := br_t hg hc27
          apply wp_seq
          apply wp_region_lit
          refine q_seq hS rfl rfl rfl (y_assign hS rfl) ?_; clear hS a; intro a hS
          refine q_seq hS rfl rfl rfl (y_assign hS rfl) ?_; clear hS a; intro a hS
          apply wpList_nil
          refine p_norm ?_
          apply wp_ret
          refine p_thenR ?_
          obtain rfl := Option.some.inj hg
          refine fin2 (fn := Try.f35) hS rfl (r_tmp hS rfl) (r_tmp hS rfl) ?_
          exact ⟨(none), (0), rfl, (SlR.nil_ _ _ _)⟩
        · replace hg := br_f hg (by rw [hc27]; exact Bool.false_ne_true)
          apply wp_skip
          refine p_norm ?_
          apply wp_seq
          replace hg := bind_some hg; obtain ⟨r28, hr28, hg⟩ := hg
          apply wp_region_lit
          refine q_seq hS rfl rfl rfl (y_move hS rfl) ?_; clear hS a; intro a hS
          refine l_seq rfl (l_callOwn (cap := []) (post := (fun v ob w' => ∃ Ao co cso, ob = Ob.row Ao (r28).length co 9 1 cso ∧ v = .slice (Ao) ((r28).length) (co) ∧ RdAll Rep.str (fun b => mtb _ _ b ∨ ob.ids b) w' cso (r28))) hS 1901 rfl rfl Try.func48 rfl (by kernel_rfl) rfl rfl ((c_slices_Clone_string n _ _ hS.lt w_ (Ap11) (cp11) (hS.fact (k := 102) rfl) r28 hr28).mono (fun e w' h => by obtain ⟨v, he, hk, Ao, co, cso, hv, ho1, ho2, ho3⟩ := h; exact ⟨v, he, hk, _, ho1, ho2, ⟨Ao, co, cso, rfl, hv, ho3⟩⟩)) ?_); clear hS a; intro v32 ob a w hK hp hS
          obtain ⟨Au31, cu31, csu31, rfl, rfl, hou31⟩ := hp
          clear hK
          replace hS := hS.add 108 (rdF Rep.str csu31 (r28)) (RdAll.up2 hS hou31)
          refine q_seq hS rfl rfl rfl (y_assign hS rfl) ?_; clear hS a; intro a hS
          apply wpList_nil
          refine p_norm ?_
          apply wp_seq
          replace hg := bind_some hg; obtain ⟨x34, hx34, hg⟩ := hg
          apply wp_region_lit
          refine q_seq hS rfl rfl rfl (y_move hS rfl) ?_; clear hS a; intro a hS
          refine q_seq hS rfl rfl rfl (y_move hS rfl) ?_; clear hS a; intro a hS
          refine q_seq hS rfl rfl rfl (y_move hS rfl) ?_; clear hS a; intro a hS
          obtain ⟨hiq35, bq35, hAq35⟩ := SlR.row1 (hS.wd.holds 1901 _ rfl) (hS.fact (k := 108) rfl) rfl rfl (ix_some hx34).1
          refine q_seq hS rfl rfl rfl (y_rowIndex (sz := 1) (i := ((at_6).toNat)) hS rfl rfl Try.underlying27 rfl hAq35 (ix_some hx34).2.1 hiq35) ?_; clear hS a; intro a hS
          have hzi := lt_of_get (ix_some hx34).1
          have hzn := rowN (hS.wd.holds 1901 _ rfl) (hS.fact (k := 108) rfl) rfl rfl
          have hzf : ((at_6).toNat) * 1 + 1 ≤ ((r28).length) * 1 := by have := Nat.mul_le_mul_right 1 (Nat.succ_le_of_lt hzi); omega
          refine l_seq rfl (l_storeRow (N := 1) (cs' := splice (csu31) (((at_6).toNat) * 1) [.string (bs (r11.1))]) hS 1901 rfl rfl rfl hAq35 rfl rfl hzf rfl rfl ?_); clear hS; intro w hK hS; clear hK
          replace hS := hS.sub (l' := [(1, .slice (Ap11) ((w_).length) (cp11)), (2, .pointer (some ⟨b2, 0, none⟩)), (6, .int .i64 (at_6)), (7, .string (bs (r11.1))), (8, .bool (r11.2)), (9, .slice (Au31) ((r28).length) (cu31)), (20, .tuple #[.string (bs (r11.1)), .bool (r11.2)]), (21, .agg #[.int .i64 (a_.Kind), .slice (Ap02) ((a_.Pairs).length) (cp02)]), (22, .slice (Ap11) ((w_).length) (cp11)), (23, .int .i64 (at_6)), (24, .pointer (some (p14.add 0))), (25, .string (bs (x9))), (26, .tuple #[.string (bs (r11.1)), .bool (r11.2)]), (27, .string (bs (r11.1))), (28, .bool (r11.2)), (29, .bool (r11.2)), (30, .bool (!(r11.2))), (31, .slice (Ap11) ((w_).length) (cp11)), (32, .slice (Au31) ((r28).length) (cu31)), (33, .slice (Au31) ((r28).length) (cu31)), (34, .int .i64 (at_6)), (35, .string (bs (r11.1))), (36, .pointer (some ⟨bq35, ((at_6).toNat) * 1, none⟩))]) (L' := [(1000, Ob.box b2 [.int .i64 (a_.Kind), .slice (Ap02) ((a_.Pairs).length) (cp02)] 52), (1901, Ob.row (Au31) ((r28).length) (cu31) 9 1 (splice (csu31) (((at_6).toNat) * 1) [.string (bs (r11.1))]))]) (D' := [(101, slF RChange (Ap02) ((a_.Pairs).length) (cp02) (a_.Pairs)), (102, slF Rep.str (Ap11) ((w_).length) (cp11) (w_)), (108, rdF Rep.str (csu31) (r28))]) ⟨rfl, rfl, rfl, rfl, rfl, rfl, rfl, rfl, rfl, rfl, rfl, rfl, rfl, rfl, rfl, rfl, rfl, rfl, rfl, rfl, rfl, rfl, rfl, trivial⟩ ⟨rfl, rfl, trivial⟩ ⟨rfl, rfl, rfl, trivial⟩
          replace hS := hS.eqs (l' := [(1, .slice (Ap11) ((w_).length) (cp11)), (2, .pointer (some ⟨b2, 0, none⟩)), (6, .int .i64 (at_6)), (7, .string (bs (r11.1))), (8, .bool (r11.2)), (9, .slice (Au31) (((r28).set ((at_6).toNat) r11.1).length) (cu31)), (20, .tuple #[.string (bs (r11.1)), .bool (r11.2)]), (21, .agg #[.int .i64 (a_.Kind), .slice (Ap02) ((a_.Pairs).length) (cp02)]), (22, .slice (Ap11) ((w_).length) (cp11)), (23, .int .i64 (at_6)), (24, .pointer (some (p14.add 0))), (25, .string (bs (x9))), (26, .tuple #[.string (bs (r11.1)), .bool (r11.2)]), (27, .string (bs (r11.1))), (28, .bool (r11.2)), (29, .bool (r11.2)), (30, .bool (!(r11.2))), (31, .slice (Ap11) ((w_).length) (cp11)), (32, .slice (Au31) (((r28).set ((at_6).toNat) r11.1).length) (cu31)), (33, .slice (Au31) (((r28).set ((at_6).toNat) r11.1).length) (cu31)), (34, .int .i64 (at_6)), (35, .string (bs (r11.1))), (36, .pointer (some ⟨bq35, ((at_6).toNat) * 1, none⟩))]) (L' := [(1000, Ob.box b2 [.int .i64 (a_.Kind), .slice (Ap02) ((a_.Pairs).length) (cp02)] 52), (1901, Ob.row (Au31) (((r28).set ((at_6).toNat) r11.1).length) (cu31) 9 1 (splice (csu31) (((at_6).toNat) * 1) [.string (bs (r11.1))]))]) (by simp only [List.length_set]) (by simp only [List.length_set])
          replace hS := hS.add 110 (rdF Rep.str (splice (csu31) (((at_6).toNat) * 1) [.string (bs (r11.1))]) ((r28).set ((at_6).toNat) r11.1)) (RdAll.put (hS.fact (k := 108) rfl) ⟨rfl, (by first | omega | (rw [List.length_append]; omega) | (simp only [List.length_append]; omega) | (simp only [List.length_append, List.length_take, List.length_drop, List.length_cons, List.length_nil]; omega))⟩ hzi)
          apply wpList_nil
          refine p_norm ?_
          apply wp_seq
          apply wp_region_lit
          refine q_seq hS rfl rfl rfl (y_move hS rfl) ?_; clear hS a; intro a hS
          refine q_seq hS rfl rfl rfl (y_assign hS rfl) ?_; clear hS a; intro a hS
          refine q_seq hS rfl rfl rfl (y_assign hS rfl) ?_; clear hS a; intro a hS
          apply wpList_nil
          refine p_norm ?_
          apply wp_ret
          obtain rfl := Option.some.inj hg
          refine fin2 (fn := Try.f35) hS rfl (r_tmp hS rfl) (r_tmp hS rfl) ?_
          exact ⟨(Au31), (cu31), rfl, (hS.rowOut (R := Rep.str) (kk := 1901) rfl rfl (hS.fact (k := 110) rfl))⟩
    · refine l_quiet hS rfl rfl (y_extract hS rfl rfl) ?_; clear hS a; intro a hS; refine ⟨fun g _ h => h, ?_⟩
      refine n_1 7 hS (by kernel_rfl) rfl rfl (l_quiet hS rfl rfl (y_extract hS rfl rfl) ?_); clear hS a; intro a hS; refine ⟨fun g _ h => h, ?_⟩
      refine n_1 9 hS (by kernel_rfl) rfl rfl (l_quiet hS rfl rfl (y_assign hS rfl) ?_); clear hS a; intro a hS; refine ⟨fun g _ h => h, ?_⟩
      refine n_1 10 hS (by kernel_rfl) rfl rfl (l_quiet hS rfl rfl (y_assign hS rfl) ?_); clear hS a; intro a hS; refine ⟨fun g _ h => h, ?_⟩
      refine n_end (by kernel_rfl) ?_; clear hR hZ
      refine p_norm ?_
      apply wp_seq
      apply wp_seq
      apply wp_region_lit
      refine q_seq hS rfl rfl rfl (y_move hS rfl) ?_; clear hS a; intro a hS
      refine q_seq hS rfl rfl rfl (y_not hS rfl) ?_; clear hS a; intro a hS
      apply wpList_nil
      refine p_norm ?_
      refine c_cond hS rfl (fun hc36 => ?_) (fun hc36 => ?_)
      · replace hg := br_t hg hc36
        apply wp_seq
        apply wp_region_lit
        refine q_seq hS rfl rfl rfl (y_assign hS rfl) ?_; clear hS a; intro a hS
        refine q_seq hS rfl rfl rfl (y_assign hS rfl) ?_; clear hS a; intro a hS
        apply wpList_nil
        refine p_norm ?_
        apply wp_ret
        refine p_thenR ?_
        obtain rfl := Option.some.inj hg
        refine fin2 (fn := Try.f35) hS rfl (r_tmp hS rfl) (r_tmp hS rfl) ?_
        exact ⟨(none), (0), rfl, (SlR.nil_ _ _ _)⟩
      · replace hg := br_f hg (by rw [hc36]; exact Bool.false_ne_true)
        apply wp_skip
        refine p_norm ?_
        apply wp_seq
        replace hg := bind_some hg; obtain ⟨r37, hr37, hg⟩ := hg
        apply wp_region_lit
        refine q_seq hS rfl rfl rfl (y_move hS rfl) ?_; clear hS a; intro a hS
        refine l_seq rfl (l_callOwn (cap := []) (post := (fun v ob w' => ∃ Ao co cso, ob = Ob.row Ao (r37).length co 9 1 cso ∧ v = .slice (Ao) ((r37).length) (co) ∧ RdAll Rep.str (fun b => mtb _ _ b ∨ ob.ids b) w' cso (r37))) hS 1901 rfl rfl Try.func48 rfl (by kernel_rfl) rfl rfl ((c_slices_Clone_string n _ _ hS.lt w_ (Ap11) (cp11) (hS.fact (k := 102) rfl) r37 hr37).mono (fun e w' h => by obtain ⟨v, he, hk, Ao, co, cso, hv, ho1, ho2, ho3⟩ := h; exact ⟨v, he, hk, _, ho1, ho2, ⟨Ao, co, cso, rfl, hv, ho3⟩⟩)) ?_); clear hS a; intro v41 ob a w hK hp hS
        obtain ⟨Au40, cu40, csu40, rfl, rfl, hou40⟩ := hp
        clear hK
        replace hS := hS.add 112 (rdF Rep.str csu40 (r37)) (RdAll.up2 hS hou40)
        refine q_seq hS rfl rfl rfl (y_assign hS rfl) ?_; clear hS a; intro a hS
        apply wpList_nil
        refine p_norm ?_
        apply wp_seq
        replace hg := bind_some hg; obtain ⟨x43, hx43, hg⟩ := hg
        apply wp_region_lit
        refine q_seq hS rfl rfl rfl (y_move hS rfl) ?_; clear hS a; intro a hS
        refine q_seq hS rfl rfl rfl (y_move hS rfl) ?_; clear hS a; intro a hS
        refine q_seq hS rfl rfl rfl (y_move hS rfl) ?_; clear hS a; intro a hS
        obtain ⟨hiq44, bq44, hAq44⟩ := SlR.row1 (hS.wd.holds 1901 _ rfl) (hS.fact (k := 112) rfl) rfl rfl (ix_some hx43).1
        refine q_seq hS rfl rfl rfl (y_rowIndex (sz := 1) (i := ((at_6).toNat)) hS rfl rfl Try.underlying27 rfl hAq44 (ix_some hx43).2.1 hiq44) ?_; clear hS a; intro a hS
        have hzi := lt_of_get (ix_some hx43).1
        have hzn := rowN (hS.wd.holds 1901 _ rfl) (hS.fact (k := 112) rfl) rfl rfl
        have hzf : ((at_6).toNat) * 1 + 1 ≤ ((r37).length) * 1 := by have := Nat.mul_le_mul_right 1 (Nat.succ_le_of_lt hzi); omega
        refine l_seq rfl (l_storeRow (N := 1) (cs' := splice (csu40) (((at_6).toNat) * 1) [.string (bs (r11.1))]) hS 1901 rfl rfl rfl hAq44 rfl rfl hzf rfl rfl ?_); clear hS; intro w hK hS; clear hK
        replace hS := hS.sub (l' := [(1, .slice (Ap11) ((w_).length) (cp11)), (2, .pointer (some ⟨b2, 0, none⟩)), (6, .int .i64 (at_6)), (7, .string (bs (r11.1))), (8, .bool (r11.2)), (9, .slice (Au40) ((r37).length) (cu40)), (20, .tuple #[.string (bs (r11.1)), .bool (r11.2)]), (21, .agg #[.int .i64 (a_.Kind), .slice (Ap02) ((a_.Pairs).length) (cp02)]), (22, .slice (Ap11) ((w_).length) (cp11)), (23, .int .i64 (at_6)), (24, .pointer (some (p14.add 0))), (25, .string (bs (x9))), (26, .tuple #[.string (bs (r11.1)), .bool (r11.2)]), (27, .string (bs (r11.1))), (28, .bool (r11.2)), (29, .bool (r11.2)), (30, .bool (!(r11.2))), (31, .slice (Ap11) ((w_).length) (cp11)), (32, .slice (Au40) ((r37).length) (cu40)), (33, .slice (Au40) ((r37).length) (cu40)), (34, .int .i64 (at_6)), (35, .string (bs (r11.1))), (36, .pointer (some ⟨bq44, ((at_6).toNat) * 1, none⟩))]) (L' := [(1000, Ob.box b2 [.int .i64 (a_.Kind), .slice (Ap02) ((a_.Pairs).length) (cp02)] 52), (1901, Ob.row (Au40) ((r37).length) (cu40) 9 1 (splice (csu40) (((at_6).toNat) * 1) [.string (bs (r11.1))]))]) (D' := [(101, slF RChange (Ap02) ((a_.Pairs).length) (cp02) (a_.Pairs)), (102, slF Rep.str (Ap11) ((w_).length) (cp11) (w_)), (112, rdF Rep.str (csu40) (r37))]) ⟨rfl, rfl, rfl, rfl, rfl, rfl, rfl, rfl, rfl, rfl, rfl, rfl, rfl, rfl, rfl, rfl, rfl, rfl, rfl, rfl, rfl, rfl, rfl, trivial⟩ ⟨rfl, rfl, trivial⟩ ⟨rfl, rfl, rfl, trivial⟩
        replace hS := hS.eqs (l' := [(1, .slice (Ap11) ((w_).length) (cp11)), (2, .pointer (some ⟨b2, 0, none⟩)), (6, .int .i64 (at_6)), (7, .string (bs (r11.1))), (8, .bool (r11.2)), (9, .slice (Au40) (((r37).set ((at_6).toNat) r11.1).length) (cu40)), (20, .tuple #[.string (bs (r11.1)), .bool (r11.2)]), (21, .agg #[.int .i64 (a_.Kind), .slice (Ap02) ((a_.Pairs).length) (cp02)]), (22, .slice (Ap11) ((w_).length) (cp11)), (23, .int .i64 (at_6)), (24, .pointer (some (p14.add 0))), (25, .string (bs (x9))), (26, .tuple #[.string (bs (r11.1)), .bool (r11.2)]), (27, .string (bs (r11.1))), (28, .bool (r11.2)), (29, .bool (r11.2)), (30, .bool (!(r11.2))), (31, .slice (Ap11) ((w_).length) (cp11)), (32, .slice (Au40) (((r37).set ((at_6).toNat) r11.1).length) (cu40)), (33, .slice (Au40) (((r37).set ((at_6).toNat) r11.1).length) (cu40)), (34, .int .i64 (at_6)), (35, .string (bs (r11.1))), (36, .pointer (some ⟨bq44, ((at_6).toNat) * 1, none⟩))]) (L' := [(1000, Ob.box b2 [.int .i64 (a_.Kind), .slice (Ap02) ((a_.Pairs).length) (cp02)] 52), (1901, Ob.row (Au40) (((r37).set ((at_6).toNat) r11.1).length) (cu40) 9 1 (splice (csu40) (((at_6).toNat) * 1) [.string (bs (r11.1))]))]) (by simp only [List.length_set]) (by simp only [List.length_set])
        replace hS := hS.add 114 (rdF Rep.str (splice (csu40) (((at_6).toNat) * 1) [.string (bs (r11.1))]) ((r37).set ((at_6).toNat) r11.1)) (RdAll.put (hS.fact (k := 112) rfl) ⟨rfl, (by first | omega | (rw [List.length_append]; omega) | (simp only [List.length_append]; omega) | (simp only [List.length_append, List.length_take, List.length_drop, List.length_cons, List.length_nil]; omega))⟩ hzi)
        apply wpList_nil
        refine p_norm ?_
        apply wp_seq
        apply wp_region_lit
        refine q_seq hS rfl rfl rfl (y_move hS rfl) ?_; clear hS a; intro a hS
        refine q_seq hS rfl rfl rfl (y_assign hS rfl) ?_; clear hS a; intro a hS
        refine q_seq hS rfl rfl rfl (y_assign hS rfl) ?_; clear hS a; intro a hS
        apply wpList_nil
        refine p_norm ?_
        apply wp_ret
        obtain rfl := Option.some.inj hg
        refine fin2 (fn := Try.f35) hS rfl (r_tmp hS rfl) (r_tmp hS rfl) ?_
        exact ⟨(Au40), (cu40), rfl, (hS.rowOut (R := Rep.str) (kk := 1901) rfl rfl (hS.fact (k := 114) rfl))⟩
set_option maxHeartbeats 400000 in
theorem c_lexicon_Form (n : Nat) (M : Bs) (w0 : World) (hM : ∀ b, M b → b < w0.heap.size) (t_ : (List Entry)) (Ap01 : Option Addr) (cp01 : Nat) (hp01 : SlR REntry M w0 Ap01 (t_).length cp01 (t_)) (t_' : (List LexRule)) (Ap11 : Option Addr) (cp11 : Nat) (hp11 : SlR RLexRule M w0 Ap11 (t_').length cp11 (t_')) (t_'' : Analysis) (Ap22 : Option Addr) (cp22 : Nat) (hp22 : SlR (Rep.num .i64) M w0 Ap22 (t_''.Rules).length cp22 (t_''.Rules)) (r : ((List (List UInt8)) × Bool)) (hg : lexicon_Form n t_ t_' t_'' = some r) :
    Calls Try.prog 18 [.slice (Ap01) ((t_).length) (cp01), .slice (Ap11) ((t_').length) (cp11), .agg #[.int .i64 (t_''.Entry), .slice (Ap22) ((t_''.Rules).length) (cp22)]].toArray w0 (Ret noB w0 fun v w => ∃ (Aa1 : Option Addr), ∃ (ca1 : Nat), v = .tuple #[.slice (Aa1) ((r.1).length) (ca1), .bool (r.2)] ∧ (SlR Rep.str M w Aa1 (r.1).length ca1 (r.1))) := by
  unfold lexicon_Form at hg
  refine enter M noB Try.func18 rfl rfl hM ?_
  intro a hS
  replace hS := hS.add 101 (slF REntry (Ap01) ((t_).length) (cp01) (t_)) (by exact Fact.change _ enterM hp01)
  replace hS := hS.add 102 (slF RLexRule (Ap11) ((t_').length) (cp11) (t_')) (by exact Fact.change _ enterM hp11)
  replace hS := hS.add 103 (slF (Rep.num .i64) (Ap22) ((t_''.Rules).length) (cp22) (t_''.Rules)) (by exact Fact.change _ enterM hp22)
  apply wp_seq
  apply wp_region_lit
  refine l_seq rfl (l_box (zs := [.int .i64 (t_''.Entry), .slice (Ap22) ((t_''.Rules).length) (cp22)]) hS 1000 rfl rfl rfl rfl ?_); clear hS a; intro b2 a w hb hK hS
  clear hb
  clear hK
  refine q_seq hS rfl rfl rfl (y_assign hS rfl) ?_; clear hS a; intro a hS
  refine q_seq hS rfl rfl rfl (y_assign hS rfl) ?_; clear hS a; intro a hS
  apply wpList_nil
  refine p_norm ?_
  apply wp_seq
  apply wp_seq
  replace hg := jn_some hg; obtain ⟨k3, hg, hk3⟩ := hg
  refine c_post (fun a w => ∃ (t_4 : Bool), k3 t_4 = some r ∧ St (⟨Try.f18.ntmps, M, noB, w0⟩ : Ctx) [(0, .slice (Ap01) ((t_).length) (cp01)), (1, .slice (Ap11) ((t_').length) (cp11)), (5, .pointer (some ⟨b2, 0, none⟩)), (28, .bool (t_4))] [(1000, Ob.box b2 [.int .i64 (t_''.Entry), .slice (Ap22) ((t_''.Rules).length) (cp22)] 35)] [(101, slF REntry (Ap01) ((t_).length) (cp01) (t_)), (102, slF RLexRule (Ap11) ((t_').length) (cp11) (t_')), (103, slF (Rep.num .i64) (Ap22) ((t_''.Rules).length) (cp22) (t_''.Rules))] a w) ?_ ?_
  · rcases Decidable.em (t_''.Entry < 0) with hs5 | hs5
    · have hs5e : decide (t_''.Entry < 0) = true := decide_eq_true hs5
      replace hg := br_t hg hs5
      apply wp_region_lit
      refine q_seq hS rfl rfl rfl (y_boxField (o' := 0) hS rfl Try.underlying35 rfl rfl rfl) ?_; clear hS a; intro a hS
      refine q_seq hS rfl rfl rfl (y_loadBox1 (kk := 1000) hS rfl rfl rfl Try.underlying3 rfl) ?_; clear hS a; intro a hS
      refine q_seq hS rfl rfl rfl (yl_b (y_lss hS rfl rfl) hs5e) ?_; clear hS a; intro a hS
      refine q_seq hS rfl rfl rfl (y_move hS rfl) ?_; clear hS a; intro a hS
      refine g_no hS rfl rfl rfl rfl rfl rfl rfl ?_; clear hS a; intro a hS
      refine g_no hS rfl rfl rfl rfl rfl rfl rfl ?_; clear hS a; intro a hS
      refine g_no hS rfl rfl rfl rfl rfl rfl rfl ?_; clear hS a; intro a hS
      refine g_no hS rfl rfl rfl rfl rfl rfl rfl ?_; clear hS a; intro a hS
      refine g_no hS rfl rfl rfl rfl rfl rfl rfl ?_; clear hS a; intro a hS
      refine q_seq hS rfl rfl rfl (y_pick_t hS rfl rfl) ?_; clear hS a; intro a hS
      refine q_seq hS rfl rfl rfl (y_move hS rfl) ?_; clear hS a; intro a hS
      refine g_no hS rfl rfl rfl rfl rfl rfl rfl ?_; clear hS a; intro a hS
      refine g_no hS rfl rfl rfl rfl rfl rfl rfl ?_; clear hS a; intro a hS
      refine g_no hS rfl rfl rfl rfl rfl rfl rfl ?_; clear hS a; intro a hS
      refine g_no hS rfl rfl rfl rfl rfl rfl rfl ?_; clear hS a; intro a hS
      refine q_seq hS rfl rfl rfl (y_pick_t hS rfl rfl) ?_; clear hS a; intro a hS
      apply wpList_nil
      refine p_norm ?_
      exact ⟨(true), hg, (hS.sub ⟨rfl, rfl, rfl, rfl, trivial⟩ ⟨rfl, trivial⟩ ⟨rfl, rfl, rfl, trivial⟩)⟩
    · have hs5e : decide (t_''.Entry < 0) = false := decide_eq_false hs5
      replace hg := br_f hg hs5
      rcases Decidable.em ((((t_).length : Nat) : Int) ≤ t_''.Entry) with hs6 | hs6
      · have hs6e : decide ((((t_).length : Nat) : Int) ≤ t_''.Entry) = true := decide_eq_true hs6
        replace hg := br_t hg hs6
        apply wp_region_lit
        refine q_seq hS rfl rfl rfl (y_boxField (o' := 0) hS rfl Try.underlying35 rfl rfl rfl) ?_; clear hS a; intro a hS
        refine q_seq hS rfl rfl rfl (y_loadBox1 (kk := 1000) hS rfl rfl rfl Try.underlying3 rfl) ?_; clear hS a; intro a hS
        refine q_seq hS rfl rfl rfl (yl_b (y_lss hS rfl rfl) hs5e) ?_; clear hS a; intro a hS
        refine q_seq hS rfl rfl rfl (y_move hS rfl) ?_; clear hS a; intro a hS
        refine g_yes hS rfl rfl rfl rfl (l_quiet hS rfl rfl (y_boxField (o' := 0) hS rfl Try.underlying35 rfl rfl rfl) ?_); clear hS a; intro a hS
        refine g_yes hS rfl rfl rfl rfl (l_quiet hS rfl rfl (y_loadBox1 (kk := 1000) hS rfl rfl rfl Try.underlying3 rfl) ?_); clear hS a; intro a hS
        refine g_yes hS rfl rfl rfl rfl (l_quiet hS rfl rfl (y_move hS rfl) ?_); clear hS a; intro a hS
        refine g_yes hS rfl rfl rfl rfl (l_quiet hS rfl rfl (y_lenSlice hS rfl Try.underlying22) ?_); clear hS a; intro a hS
        refine g_yes hS rfl rfl rfl rfl (l_quiet hS rfl rfl (yl_b (y_geq hS rfl rfl) hs6e) ?_); clear hS a; intro a hS
        refine q_seq hS rfl rfl rfl (y_pick_f hS rfl rfl) ?_; clear hS a; intro a hS
        refine q_seq hS rfl rfl rfl (y_move hS rfl) ?_; clear hS a; intro a hS
        refine g_no hS rfl rfl rfl rfl rfl rfl rfl ?_; clear hS a; intro a hS
        refine g_no hS rfl rfl rfl rfl rfl rfl rfl ?_; clear hS a; intro a hS
        refine g_no hS rfl rfl rfl rfl rfl rfl rfl ?_; clear hS a; intro a hS
        refine g_no hS rfl rfl rfl rfl rfl rfl rfl ?_; clear hS a; intro a hS
        refine q_seq hS rfl rfl rfl (y_pick_t hS rfl rfl) ?_; clear hS a; intro a hS
        apply wpList_nil
        refine p_norm ?_
        exact ⟨(true), hg, (hS.sub ⟨rfl, rfl, rfl, rfl, trivial⟩ ⟨rfl, trivial⟩ ⟨rfl, rfl, rfl, trivial⟩)⟩
      · have hs6e : decide ((((t_).length : Nat) : Int) ≤ t_''.Entry) = false := decide_eq_false hs6
        replace hg := br_f hg hs6
        apply wp_region_lit
        refine q_seq hS rfl rfl rfl (y_boxField (o' := 0) hS rfl Try.underlying35 rfl rfl rfl) ?_; clear hS a; intro a hS
        refine q_seq hS rfl rfl rfl (y_loadBox1 (kk := 1000) hS rfl rfl rfl Try.underlying3 rfl) ?_; clear hS a; intro a hS
        refine q_seq hS rfl rfl rfl (yl_b (y_lss hS rfl rfl) hs5e) ?_; clear hS a; intro a hS
        refine q_seq hS rfl rfl rfl (y_move hS rfl) ?_; clear hS a; intro a hS
        refine g_yes hS rfl rfl rfl rfl (l_quiet hS rfl rfl (y_boxField (o' := 0) hS rfl Try.underlying35 rfl rfl rfl) ?_); clear hS a; intro a hS
        refine g_yes hS rfl rfl rfl rfl (l_quiet hS rfl rfl (y_loadBox1 (kk := 1000) hS rfl rfl rfl Try.underlying3 rfl) ?_); clear hS a; intro a hS
        refine g_yes hS rfl rfl rfl rfl (l_quiet hS rfl rfl (y_move hS rfl) ?_); clear hS a; intro a hS
        refine g_yes hS rfl rfl rfl rfl (l_quiet hS rfl rfl (y_lenSlice hS rfl Try.underlying22) ?_); clear hS a; intro a hS
        refine g_yes hS rfl rfl rfl rfl (l_quiet hS rfl rfl (yl_b (y_geq hS rfl rfl) hs6e) ?_); clear hS a; intro a hS
        refine q_seq hS rfl rfl rfl (y_pick_f hS rfl rfl) ?_; clear hS a; intro a hS
        refine q_seq hS rfl rfl rfl (y_move hS rfl) ?_; clear hS a; intro a hS
        refine g_yes hS rfl rfl rfl rfl (l_quiet hS rfl rfl (y_boxField (o' := 1) hS rfl Try.underlying35 rfl rfl rfl) ?_); clear hS a; intro a hS
        refine g_yes hS rfl rfl rfl rfl (l_quiet hS rfl rfl (y_loadBox1 (kk := 1000) hS rfl rfl rfl Try.underlying30 rfl) ?_); clear hS a; intro a hS
        refine g_yes hS rfl rfl rfl rfl (l_quiet hS rfl rfl (y_lenSlice hS rfl Try.underlying30) ?_); clear hS a; intro a hS
        refine g_yes hS rfl rfl rfl rfl (l_quiet hS rfl rfl (y_gtrN (i := ((t_''.Rules).length)) (j := 2) hS rfl rfl) ?_); clear hS a; intro a hS
        refine q_seq hS rfl rfl rfl (y_pick_f hS rfl rfl) ?_; clear hS a; intro a hS
        apply wpList_nil
        refine p_norm ?_
        exact ⟨(decide ((2 : Nat) < ((t_''.Rules).length))), hg, (hS.sub ⟨rfl, rfl, rfl, rfl, trivial⟩ ⟨rfl, trivial⟩ ⟨rfl, rfl, rfl, trivial⟩)⟩
  clear hS a; rintro a w ⟨t_4, hg, hS⟩
  subst hk3
  refine c_cond hS rfl (fun hc7 => ?_) (fun hc7 => ?_)
  · replace hg := br_t hg hc7
    apply wp_seq
    apply wp_region_lit
    refine q_seq hS rfl rfl rfl (y_assign hS rfl) ?_; clear hS a; intro a hS
    refine q_seq hS rfl rfl rfl (y_assign hS rfl) ?_; clear hS a; intro a hS
    apply wpList_nil
    refine p_norm ?_
    apply wp_ret
    refine p_thenR ?_
    obtain rfl := Option.some.inj hg
    refine fin2 (fn := Try.f18) hS rfl (r_tmp hS rfl) (r_tmp hS rfl) ?_
    exact ⟨(none), (0), rfl, (SlR.nil_ _ _ _)⟩
  · replace hg := br_f hg (by rw [hc7]; exact Bool.false_ne_true)
    apply wp_skip
    refine p_norm ?_
    apply wp_seq
    replace hg := bind_some hg; obtain ⟨x9, hx9, hg⟩ := hg
    apply wp_region_lit
    refine q_seq hS rfl rfl rfl (y_move hS rfl) ?_; clear hS a; intro a hS
    refine q_seq hS rfl rfl rfl (y_boxField (o' := 0) hS rfl Try.underlying35 rfl rfl rfl) ?_; clear hS a; intro a hS
    refine q_seq hS rfl rfl rfl (y_loadBox1 (kk := 1000) hS rfl rfl rfl Try.underlying3 rfl) ?_; clear hS a; intro a hS
    obtain ⟨p11, hep11, hpp11⟩ := SlR.elemX (hS.fact (k := 101) rfl) (ix_some hx9).1
    refine q_seq hS rfl rfl rfl (y_elem (sz := 3) (i := ((t_''.Entry).toNat)) hS rfl rfl Try.underlying22 rfl hep11 (ix_some hx9).2.1 (lt_of_get (ix_some hx9).1)) ?_; clear hS a; intro a hS
    refine q_seq hS rfl rfl rfl (y_ptrField (o' := 1) hS rfl Try.underlying47 rfl rfl rfl) ?_; clear hS a; intro a hS
    obtain ⟨hlq12, hmq12, csq12, hdq12, hcq12⟩ := hpp11
    obtain ⟨Aq122, cq122, Aq123, cq123, rfl, lq121, hq122, hq123⟩ := REntry.open hdq12
    replace hS := hS.add 106 (slF Rep.str (Aq122) ((x9.Words).length) (cq122) (x9.Words)) hq122
    replace hS := hS.add 107 (slF RNode (Aq123) ((x9.FS.Nodes).length) (cq123) (x9.FS.Nodes)) hq123
    refine q_seq hS rfl rfl rfl (y_ldp1 hS rfl hlq12 hmq12 (hcq12 1 _ rfl) Try.underlying27 rfl) ?_; clear hS a; intro a hS
    refine q_seq hS rfl rfl rfl (y_assign hS rfl) ?_; clear hS a; intro a hS
    apply wpList_nil
    refine p_norm ?_
    apply wp_seq
    apply wp_seq
    apply wp_region_lit
    refine q_seq hS rfl rfl rfl (y_boxField (o' := 1) hS rfl Try.underlying35 rfl rfl rfl) ?_; clear hS a; intro a hS
    refine q_seq hS rfl rfl rfl (y_loadBox1 (kk := 1000) hS rfl rfl rfl Try.underlying30 rfl) ?_; clear hS a; intro a hS
    refine q_seq hS rfl rfl rfl (y_lenSlice hS rfl Try.underlying30) ?_; clear hS a; intro a hS
    refine q_seq hS rfl rfl rfl (y_move hS rfl) ?_; clear hS a; intro a hS
    apply wpList_nil
    refine p_norm ?_
    apply wp_block
    replace hS := hS.add 108 (slF Rep.str (Aq122) ((x9.Words).length) (cq122) (x9.Words)) (hS.fact (k := 106) rfl)
    refine c_loop (σ := Nat) (fun m1 a w => ∃ (t_13 : (List (List UInt8))), ∃ (t_16 : Nat), ∃ (A14 : Option Addr), ∃ (c15 : Nat), lexicon_Form_L0 n t_' t_'' m1 t_13 t_16 = some r ∧ St (⟨Try.f18.ntmps, M, noB, w0⟩ : Ctx) [(1, .slice (Ap11) ((t_').length) (cp11)), (8, .slice (A14) ((t_13).length) (c15)), (36, .slice (Ap22) ((t_''.Rules).length) (cp22)), (37, .int .i64 ((((t_''.Rules).length : Nat) : Int))), (38, .int .i64 (((t_16 : Nat) : Int)))] [] [(102, slF RLexRule (Ap11) ((t_').length) (cp11) (t_')), (103, slF (Rep.num .i64) (Ap22) ((t_''.Rules).length) (cp22) (t_''.Rules)), (108, slF Rep.str (A14) ((t_13).length) (c15) (t_13))] a w) (fun m1 => m1) n ⟨(x9.Words), (0), (Aq122), (cq122), hg, (hS.sub ⟨rfl, rfl, rfl, rfl, rfl, trivial⟩ trivial ⟨rfl, rfl, rfl, trivial⟩)⟩ ?_
    clear hS a; rintro m1 a w ⟨t_13, t_16, A14, c15, hg, hS⟩
    rcases m1 with _ | m1
    · rw [lexicon_Form_L0] at hg; cases hg
    rw [lexicon_Form_L0] at hg
    apply wp_seq
    apply wp_region_lit
    refine q_seq hS rfl rfl rfl (y_lssN (i := t_16) (j := ((t_''.Rules).length)) hS rfl rfl) ?_; clear hS a; intro a hS
    apply wpList_nil
    refine p_norm ?_
    apply wp_seq
    refine c_dec hS rfl (fun hc17 => ?_) (fun hc17 => ?_)
    · replace hg := br_t hg hc17
      have hmx18 := SlR.mx (hS.fact (k := 103) rfl)
      apply wp_skip
      refine p_norm ?_
      apply wp_seq
      apply wp_block
      apply wp_seq
      replace hg := bind_some hg; obtain ⟨x20, hx20, hg⟩ := hg
      apply wp_region_lit
      obtain ⟨p22, hep22, hpp22⟩ := SlR.elemX (hS.fact (k := 103) rfl) hx20
      refine q_seq hS rfl rfl rfl (y_elem (sz := 1) (i := t_16) hS rfl rfl Try.underlying30 rfl hep22 rfl (lt_of_get hx20)) ?_; clear hS a; intro a hS
      obtain ⟨hlq23, hmq23, csq23, hdq23, hcq23⟩ := hpp22
      obtain rfl := hdq23
      refine q_seq hS rfl rfl rfl (y_ldp1 hS rfl hlq23 hmq23 (hcq23 0 _ rfl) Try.underlying3 rfl) ?_; clear hS a; intro a hS
      refine q_seq hS rfl rfl rfl (y_assign hS rfl) ?_; clear hS a; intro a hS
      apply wpList_nil
      refine p_norm ?_
      apply wp_seq
      apply wp_seq
      replace hg := jn_some hg; obtain ⟨k24, hg, hk24⟩ := hg
      refine c_post (fun a w => ∃ (t_25 : Bool), k24 t_25 = some r ∧ St (⟨Try.f18.ntmps, M, noB, w0⟩ : Ctx) [(1, .slice (Ap11) ((t_').length) (cp11)), (8, .slice (A14) ((t_13).length) (c15)), (10, .int .i64 (x20)), (36, .slice (Ap22) ((t_''.Rules).length) (cp22)), (37, .int .i64 ((((t_''.Rules).length : Nat) : Int))), (38, .int .i64 (((t_16 : Nat) : Int))), (49, .bool (t_25))] [] [(102, slF RLexRule (Ap11) ((t_').length) (cp11) (t_')), (103, slF (Rep.num .i64) (Ap22) ((t_''.Rules).length) (cp22) (t_''.Rules)), (108, slF Rep.str (A14) ((t_13).length) (c15) (t_13))] a w) ?_ ?_
      · rcases Decidable.em (x20 < 0) with hs26 | hs26
        · have hs26e : decide (x20 < 0) = true := decide_eq_true hs26
          replace hg := br_t hg hs26
          apply wp_region_lit
          refine q_seq hS rfl rfl rfl (y_move hS rfl) ?_; clear hS a; intro a hS
          refine q_seq hS rfl rfl rfl (yl_b (y_lss hS rfl rfl) hs26e) ?_; clear hS a; intro a hS
          refine q_seq hS rfl rfl rfl (y_move hS rfl) ?_; clear hS a; intro a hS
          refine g_no hS rfl rfl rfl rfl rfl rfl rfl ?_; clear hS a; intro a hS
          refine g_no hS rfl rfl rfl rfl rfl rfl rfl ?_; clear hS a; intro a hS
          refine g_no hS rfl rfl rfl rfl rfl rfl rfl ?_; clear hS a; intro a hS
          refine g_no hS rfl rfl rfl rfl rfl rfl rfl ?_; clear hS a; intro a hS
          refine q_seq hS rfl rfl rfl (y_pick_t hS rfl rfl) ?_; clear hS a; intro a hS
          apply wpList_nil
          refine p_norm ?_
          exact ⟨(true), hg, (hS.sub ⟨rfl, rfl, rfl, rfl, rfl, rfl, rfl, trivial⟩ trivial ⟨rfl, rfl, rfl, trivial⟩)⟩
        · have hs26e : decide (x20 < 0) = false := decide_eq_false hs26
          replace hg := br_f hg hs26
          apply wp_region_lit
          refine q_seq hS rfl rfl rfl (y_move hS rfl) ?_; clear hS a; intro a hS
          refine q_seq hS rfl rfl rfl (yl_b (y_lss hS rfl rfl) hs26e) ?_; clear hS a; intro a hS
          refine q_seq hS rfl rfl rfl (y_move hS rfl) ?_; clear hS a; intro a hS
          refine g_yes hS rfl rfl rfl rfl (l_quiet hS rfl rfl (y_move hS rfl) ?_); clear hS a; intro a hS
          refine g_yes hS rfl rfl rfl rfl (l_quiet hS rfl rfl (y_move hS rfl) ?_); clear hS a; intro a hS
          refine g_yes hS rfl rfl rfl rfl (l_quiet hS rfl rfl (y_lenSlice hS rfl Try.underlying33) ?_); clear hS a; intro a hS
          refine g_yes hS rfl rfl rfl rfl (l_quiet hS rfl rfl (y_geq hS rfl rfl) ?_); clear hS a; intro a hS
          refine q_seq hS rfl rfl rfl (y_pick_f hS rfl rfl) ?_; clear hS a; intro a hS
          apply wpList_nil
          refine p_norm ?_
          exact ⟨(decide ((((t_').length : Nat) : Int) ≤ x20)), hg, (hS.sub ⟨rfl, rfl, rfl, rfl, rfl, rfl, rfl, trivial⟩ trivial ⟨rfl, rfl, rfl, trivial⟩)⟩
      clear hS a; rintro a w ⟨t_25, hg, hS⟩
      subst hk24
      refine c_cond hS rfl (fun hc27 => ?_) (fun hc27 => ?_)
      · replace hg := br_t hg hc27
        apply wp_seq
        apply wp_region_lit
        refine q_seq hS rfl rfl rfl (y_assign hS rfl) ?_; clear hS a; intro a hS
        refine q_seq hS rfl rfl rfl (y_assign hS rfl) ?_; clear hS a; intro a hS
        apply wpList_nil
        refine p_norm ?_
        apply wp_ret
        refine p_thenR ?_
        refine p_inR ?_
        refine p_thenR ?_
        refine p_thenR ?_
        refine p_inR ?_
        refine p_thenR ?_
        obtain rfl := Option.some.inj hg
        refine fin2 (fn := Try.f18) hS rfl (r_tmp hS rfl) (r_tmp hS rfl) ?_
        exact ⟨(none), (0), rfl, (SlR.nil_ _ _ _)⟩
      · replace hg := br_f hg (by rw [hc27]; exact Bool.false_ne_true)
        apply wp_skip
        refine p_norm ?_
        apply wp_seq
        replace hg := bind_some hg; obtain ⟨x29, hx29, hg⟩ := hg
        replace hg := bind_some hg; obtain ⟨r31, hr31, hg⟩ := hg
        apply wp_region_lit
        refine q_seq hS rfl rfl rfl (y_move hS rfl) ?_; clear hS a; intro a hS
        refine q_seq hS rfl rfl rfl (y_move hS rfl) ?_; clear hS a; intro a hS
        obtain ⟨p34, hep34, hpp34⟩ := SlR.elemX (hS.fact (k := 102) rfl) (ix_some hx29).1
        refine q_seq hS rfl rfl rfl (y_elem (sz := 4) (i := ((x20).toNat)) hS rfl rfl Try.underlying33 rfl hep34 (ix_some hx29).2.1 (lt_of_get (ix_some hx29).1)) ?_; clear hS a; intro a hS
        refine q_seq hS rfl rfl rfl (y_ptrField (o' := 1) hS rfl Try.underlying54 rfl rfl rfl) ?_; clear hS a; intro a hS
        obtain ⟨hlq35, hmq35, csq35, hdq35, hcq35⟩ := hpp34
        obtain ⟨Aq353, cq353, Aq354, cq354, rfl, lq351, hq353, hq354⟩ := RLexRule.open hdq35
        replace hS := hS.add 112 (slF RChange (Aq353) ((x29.Affix.Pairs).length) (cq353) (x29.Affix.Pairs)) hq353
        replace hS := hS.add 113 (slF RNode (Aq354) ((x29.FS.Nodes).length) (cq354) (x29.FS.Nodes)) hq354
        refine q_seq hS rfl rfl rfl (y_ldp (cs := [.int .i64 (x29.Affix.Kind), .slice (Aq353) ((x29.Affix.Pairs).length) (cq353)]) hS rfl hlq35 hmq35 (fun j v hj => hcq35 (1 + j) v (by rcases j with _ | (_ | _) <;> first | exact hj | cases hj)) Try.underlying52 rfl rfl) ?_; clear hS a; intro a hS
        refine q_seq hS rfl rfl rfl (y_move hS rfl) ?_; clear hS a; intro a hS
        refine l_seq rfl (l_call (cap := []) hS rfl Try.func35 rfl (by kernel_rfl) rfl rfl (c_affix_Words n _ _ hS.lt x29.Affix (Aq353) (cq353) (hS.fact (k := 112) rfl) t_13 (A14) (c15) (hS.fact (k := 108) rfl) r31 hr31) ?_); clear hS a; intro v36 a w hK hp hS
        clear hK
        obtain ⟨Au37a1, cu37a1, rfl, hu37a1⟩ := hp
        replace hS := hS.add 114 (slF Rep.str (Au37a1) ((r31.1).length) (cu37a1) (r31.1)) hu37a1
        refine q_seq hS rfl rfl rfl (y_move hS rfl) ?_; clear hS a; intro a hS
        refine q_seq hS rfl rfl rfl (y_extract hS rfl rfl) ?_; clear hS a; intro a hS
        refine q_seq hS rfl rfl rfl (y_extract hS rfl rfl) ?_; clear hS a; intro a hS
        refine q_seq hS rfl rfl rfl (y_assign hS rfl) ?_; clear hS a; intro a hS
        refine q_seq hS rfl rfl rfl (y_assign hS rfl) ?_; clear hS a; intro a hS
        apply wpList_nil
        refine p_norm ?_
        apply wp_seq
        apply wp_seq
        apply wp_region_lit
        refine q_seq hS rfl rfl rfl (y_move hS rfl) ?_; clear hS a; intro a hS
        refine q_seq hS rfl rfl rfl (y_not hS rfl) ?_; clear hS a; intro a hS
        apply wpList_nil
        refine p_norm ?_
        refine c_cond hS rfl (fun hc38 => ?_) (fun hc38 => ?_)
        · replace hg := br_t hg hc38
          apply wp_seq
          apply wp_region_lit
          refine q_seq hS rfl rfl rfl (y_assign hS rfl) ?_; clear hS a; intro a hS
          refine q_seq hS rfl rfl rfl (y_assign hS rfl) ?_; clear hS a; intro a hS
          apply wpList_nil
          refine p_norm ?_
          apply wp_ret
          refine p_thenR ?_
          refine p_inR ?_
          refine p_thenR ?_
          refine p_thenR ?_
          refine p_inR ?_
          refine p_thenR ?_
          obtain rfl := Option.some.inj hg
          refine fin2 (fn := Try.f18) hS rfl (r_tmp hS rfl) (r_tmp hS rfl) ?_
          exact ⟨(none), (0), rfl, (SlR.nil_ _ _ _)⟩
        · replace hg := br_f hg (by rw [hc38]; exact Bool.false_ne_true)
          apply wp_skip
          refine p_norm ?_
          apply wp_region_lit
          refine q_seq hS rfl rfl rfl (y_move hS rfl) ?_; clear hS a; intro a hS
          refine q_seq hS rfl rfl rfl (y_assign hS rfl) ?_; clear hS a; intro a hS
          apply wpList_nil
          refine p_inN ?_
          refine p_norm ?_
          apply wp_region_lit
          refine q_seq hS rfl rfl rfl (y_addN (i := t_16) (j := 1) hS rfl rfl (in64.2 (by omega))) ?_; clear hS a; intro a hS
          refine q_seq hS rfl rfl rfl (y_move hS rfl) ?_; clear hS a; intro a hS
          apply wpList_nil
          refine p_norm ?_
          replace hS := hS.add 108 (slF Rep.str (Au37a1) ((r31.1).length) (cu37a1) (r31.1)) (hS.fact (k := 114) rfl)
          exact ⟨m1, Nat.lt_succ_self _, ⟨(r31.1), (t_16 + 1), (Au37a1), (cu37a1), hg, (hS.sub ⟨rfl, rfl, rfl, rfl, rfl, trivial⟩ trivial ⟨rfl, rfl, rfl, trivial⟩)⟩⟩
    · replace hg := br_f hg hc17
      apply wp_exit
      refine p_then ?_
      refine p_then ?_
      refine p_in ?_
      refine p_norm ?_
      apply wp_seq
      apply wp_region_lit
      refine q_seq hS rfl rfl rfl (y_move hS rfl) ?_; clear hS a; intro a hS
      refine q_seq hS rfl rfl rfl (y_assign hS rfl) ?_; clear hS a; intro a hS
      refine q_seq hS rfl rfl rfl (y_assign hS rfl) ?_; clear hS a; intro a hS
      apply wpList_nil
      refine p_norm ?_
      apply wp_ret
      obtain rfl := Option.some.inj hg
      refine fin2 (fn := Try.f18) hS rfl (r_tmp hS rfl) (r_tmp hS rfl) ?_
      exact ⟨(A14), (c15), rfl, (hS.out (k := 108) rfl)⟩
set_option maxHeartbeats 400000 in
theorem c_r01_Same (n : Nat) (M : Bs) (w0 : World) (hM : ∀ b, M b → b < w0.heap.size) (a_ : (List (List UInt8))) (Ap01 : Option Addr) (cp01 : Nat) (hp01 : SlR Rep.str M w0 Ap01 (a_).length cp01 (a_)) (b_ : (List (List UInt8))) (Ap11 : Option Addr) (cp11 : Nat) (hp11 : SlR Rep.str M w0 Ap11 (b_).length cp11 (b_)) (r : Bool) (hg : r01_Same n a_ b_ = some r) :
    Calls Try.prog 20 [.slice (Ap01) ((a_).length) (cp01), .slice (Ap11) ((b_).length) (cp11)].toArray w0 (Ret noB w0 fun v w => v = .bool (r)) := by
  unfold r01_Same at hg
  refine enter M noB Try.func20 rfl rfl hM ?_
  intro a hS
  replace hS := hS.add 101 (slF Rep.str (Ap01) ((a_).length) (cp01) (a_)) (by exact Fact.change _ enterM hp01)
  replace hS := hS.add 102 (slF Rep.str (Ap11) ((b_).length) (cp11) (b_)) (by exact Fact.change _ enterM hp11)
  apply wp_seq
  apply wp_region_lit
  refine q_seq hS rfl rfl rfl (y_assign hS rfl) ?_; clear hS a; intro a hS
  apply wpList_nil
  refine p_norm ?_
  apply wp_seq
  apply wp_seq
  apply wp_region_lit
  refine q_seq hS rfl rfl rfl (y_move hS rfl) ?_; clear hS a; intro a hS
  refine q_seq hS rfl rfl rfl (y_lenSlice hS rfl Try.underlying27) ?_; clear hS a; intro a hS
  refine q_seq hS rfl rfl rfl (y_move hS rfl) ?_; clear hS a; intro a hS
  refine q_seq hS rfl rfl rfl (y_lenSlice hS rfl Try.underlying27) ?_; clear hS a; intro a hS
  refine q_seq hS rfl rfl rfl (y_neqN (i := ((a_).length)) (j := ((b_).length)) hS rfl rfl) ?_; clear hS a; intro a hS
  apply wpList_nil
  refine p_norm ?_
  refine c_dec hS rfl (fun hc1 => ?_) (fun hc1 => ?_)
  · replace hg := br_t hg hc1
    apply wp_seq
    apply wp_region_lit
    refine q_seq hS rfl rfl rfl (y_assign hS rfl) ?_; clear hS a; intro a hS
    apply wpList_nil
    refine p_norm ?_
    apply wp_ret
    refine p_thenR ?_
    obtain rfl := Option.some.inj hg
    refine fin1 (fn := Try.f20) hS rfl (r_tmp hS rfl) ?_
    exact rfl
  · replace hg := br_f hg hc1
    apply wp_skip
    refine p_norm ?_
    apply wp_seq
    apply wp_seq
    apply wp_region_lit
    refine q_seq hS rfl rfl rfl (y_assign hS rfl) ?_; clear hS a; intro a hS
    apply wpList_nil
    refine p_norm ?_
    apply wp_block
    refine c_loop (σ := Nat) (fun m1 a w => ∃ (i_2 : Nat), r01_Same_L0 n a_ b_ m1 i_2 = some r ∧ St (⟨Try.f20.ntmps, M, noB, w0⟩ : Ctx) [(0, .slice (Ap01) ((a_).length) (cp01)), (1, .slice (Ap11) ((b_).length) (cp11)), (5, .int .i64 (((i_2 : Nat) : Int)))] [] [(101, slF Rep.str (Ap01) ((a_).length) (cp01) (a_)), (102, slF Rep.str (Ap11) ((b_).length) (cp11) (b_))] a w) (fun m1 => m1) n ⟨(0), hg, (hS.sub ⟨rfl, rfl, rfl, trivial⟩ trivial ⟨rfl, rfl, trivial⟩)⟩ ?_
    clear hS a; rintro m1 a w ⟨i_2, hg, hS⟩
    rcases m1 with _ | m1
    · rw [r01_Same_L0] at hg; cases hg
    rw [r01_Same_L0] at hg
    apply wp_seq
    apply wp_seq
    apply wp_region_lit
    refine q_seq hS rfl rfl rfl (y_move hS rfl) ?_; clear hS a; intro a hS
    refine q_seq hS rfl rfl rfl (y_move hS rfl) ?_; clear hS a; intro a hS
    refine q_seq hS rfl rfl rfl (y_lenSlice hS rfl Try.underlying27) ?_; clear hS a; intro a hS
    refine q_seq hS rfl rfl rfl (y_lssN (i := i_2) (j := ((a_).length)) hS rfl rfl) ?_; clear hS a; intro a hS
    apply wpList_nil
    refine p_norm ?_
    refine c_dec hS rfl (fun hc3 => ?_) (fun hc3 => ?_)
    · replace hg := br_t hg hc3
      have hmx4 := SlR.mx (hS.fact (k := 101) rfl)
      apply wp_skip
      refine p_norm ?_
      apply wp_seq
      apply wp_block
      apply wp_seq
      replace hg := bind_some hg; obtain ⟨x6, hx6, hg⟩ := hg
      replace hg := bind_some hg; obtain ⟨x9, hx9, hg⟩ := hg
      refine d_plan hS [] [(0, some 0), (1, some 0), (2, some 0), (3, some 0), (4, some 0), (5, some 0), (6, some 0), (7, some 0), (8, some 0)] rfl (by kernel_rfl) (by kernel_rfl) rfl ?_; clear hS; intro wr hZ hS; have hR := hS.wd
      refine q_take hS hR rfl rfl rfl rfl (y_move hS rfl) ?_; clear hS a; intro a hS
      refine q_take hS hR rfl rfl rfl rfl (y_move hS rfl) ?_; clear hS a; intro a hS
      obtain ⟨p11, hep11, hpp11⟩ := SlR.elemX (hS.fact (k := 101) rfl) hx6
      refine q_take hS hR rfl rfl rfl rfl (y_elem (sz := 1) (i := i_2) hS rfl rfl Try.underlying27 rfl hep11 rfl (lt_of_get hx6)) ?_; clear hS a; intro a hS
      obtain ⟨hlq12, hmq12, csq12, hdq12, hcq12⟩ := hpp11
      obtain ⟨rfl, lq121⟩ := hdq12
      refine q_take hS hR rfl rfl rfl rfl (y_ldp1 hS rfl hlq12 hmq12 (hcq12 0 _ rfl) Try.underlying9 rfl) ?_; clear hS a; intro a hS
      refine q_take hS hR rfl rfl rfl rfl (y_move hS rfl) ?_; clear hS a; intro a hS
      refine q_take hS hR rfl rfl rfl rfl (y_move hS rfl) ?_; clear hS a; intro a hS
      obtain ⟨p13, hep13, hpp13⟩ := SlR.elemX (hS.fact (k := 102) rfl) hx9
      refine q_take hS hR rfl rfl rfl rfl (y_elem (sz := 1) (i := i_2) hS rfl rfl Try.underlying27 rfl hep13 rfl (lt_of_get hx9)) ?_; clear hS a; intro a hS
      obtain ⟨hlq14, hmq14, csq14, hdq14, hcq14⟩ := hpp13
      obtain ⟨rfl, lq141⟩ := hdq14
      refine q_take hS hR rfl rfl rfl rfl (y_ldp1 hS rfl hlq14 hmq14 (hcq14 0 _ rfl) Try.underlying9 rfl) ?_; clear hS a; intro a hS
      refine q_take hS hR rfl rfl rfl rfl (y_sne hS rfl rfl) ?_; clear hS a; intro a hS
      clear hR hZ
      refine p_norm ?_
      refine c_dec hS rfl (fun hc15 => ?_) (fun hc15 => ?_)
      · replace hg := br_t hg hc15
        apply wp_seq
        apply wp_region_lit
        refine q_seq hS rfl rfl rfl (y_assign hS rfl) ?_; clear hS a; intro a hS
        apply wpList_nil
        refine p_norm ?_
        apply wp_ret
        refine p_inR ?_
        refine p_thenR ?_
        refine p_thenR ?_
        refine p_inR ?_
        refine p_thenR ?_
        obtain rfl := Option.some.inj hg
        refine fin1 (fn := Try.f20) hS rfl (r_tmp hS rfl) ?_
        exact rfl
      · replace hg := br_f hg hc15
        apply wp_skip
        refine p_inN ?_
        refine p_norm ?_
        apply wp_region_lit
        refine q_seq hS rfl rfl rfl (y_move hS rfl) ?_; clear hS a; intro a hS
        refine q_seq hS rfl rfl rfl (y_addN (i := i_2) (j := 1) hS rfl rfl (in64.2 (by omega))) ?_; clear hS a; intro a hS
        refine q_seq hS rfl rfl rfl (y_assign hS rfl) ?_; clear hS a; intro a hS
        apply wpList_nil
        refine p_norm ?_
        exact ⟨m1, Nat.lt_succ_self _, ⟨(i_2 + 1), hg, (hS.sub ⟨rfl, rfl, rfl, trivial⟩ trivial ⟨rfl, rfl, trivial⟩)⟩⟩
    · replace hg := br_f hg hc3
      apply wp_exit
      refine p_then ?_
      refine p_then ?_
      refine p_in ?_
      refine p_norm ?_
      apply wp_seq
      apply wp_region_lit
      refine q_seq hS rfl rfl rfl (y_assign hS rfl) ?_; clear hS a; intro a hS
      apply wpList_nil
      refine p_norm ?_
      apply wp_ret
      obtain rfl := Option.some.inj hg
      refine fin1 (fn := Try.f20) hS rfl (r_tmp hS rfl) ?_
      exact rfl
end Go.Proofs.Ytgmghembhenonaa

/- Chapter 24: the walks, part 3 -/
import Derived.Test.YtgmghembhenonaaW2
namespace Go.Proofs.Ytgmghembhenonaa
open Go.Gl Go.RowKit
set_option linter.unusedVariables false
set_option linter.unusedSimpArgs false

set_option maxHeartbeats 400000 in
theorem c_r23_plain (n : Nat) (M : Bs) (w0 : World) (hM : ∀ b, M b → b < w0.heap.size) (s_ : (List UInt8)) (lp01 : (s_).length ≤ 9223372036854775807) (r : Bool) (hg : r23_plain n s_ = some r) :
    Calls Try.prog 46 [.string (bs (s_))].toArray w0 (Ret noB w0 fun v w => v = .bool (r)) := by
  unfold r23_plain at hg
  refine enter M noB Try.func46 rfl rfl hM ?_
  intro a hS
  apply wp_seq
  apply wp_region_lit
  refine q_seq hS rfl rfl rfl (y_assign hS rfl) ?_; clear hS a; intro a hS
  apply wpList_nil
  refine p_norm ?_
  apply wp_seq
  apply wp_seq
  apply wp_region_lit
  refine q_seq hS rfl rfl rfl (y_assign hS rfl) ?_; clear hS a; intro a hS
  apply wpList_nil
  refine p_norm ?_
  apply wp_block
  refine c_loop (σ := Nat) (fun m1 a w => ∃ (i_1 : Nat), r23_plain_L0 n s_ m1 i_1 = some r ∧ St (⟨Try.f46.ntmps, M, noB, w0⟩ : Ctx) [(0, .string (bs (s_))), (3, .int .i64 (((i_1 : Nat) : Int)))] [] [] a w) (fun m1 => m1) n ⟨(0), hg, (hS.sub ⟨rfl, rfl, trivial⟩ trivial trivial)⟩ ?_
  clear hS a; rintro m1 a w ⟨i_1, hg, hS⟩
  rcases m1 with _ | m1
  · rw [r23_plain_L0] at hg; cases hg
  rw [r23_plain_L0] at hg
  apply wp_seq
  apply wp_seq
  apply wp_region_lit
  refine q_seq hS rfl rfl rfl (y_move hS rfl) ?_; clear hS a; intro a hS
  refine q_seq hS rfl rfl rfl (y_move hS rfl) ?_; clear hS a; intro a hS
  refine q_seq hS rfl rfl rfl (y_lenStrN hS rfl Try.underlying9) ?_; clear hS a; intro a hS
  refine q_seq hS rfl rfl rfl (y_lssN (i := i_1) (j := ((s_).length)) hS rfl rfl) ?_; clear hS a; intro a hS
  apply wpList_nil
  refine p_norm ?_
  refine c_dec hS rfl (fun hc2 => ?_) (fun hc2 => ?_)
  · replace hg := br_t hg hc2
    have hmx3 : (s_).length ≤ 9223372036854775807 := (by first | omega | (rw [List.length_append]; omega) | (simp only [List.length_append]; omega) | (simp only [List.length_append, List.length_take, List.length_drop, List.length_cons, List.length_nil]; omega))
    apply wp_skip
    refine p_norm ?_
    apply wp_seq
    apply wp_block
    apply wp_seq
    replace hg := bind_some hg; obtain ⟨c4, hc4, hg⟩ := hg
    apply wp_region_lit
    refine q_seq hS rfl rfl rfl (y_move hS rfl) ?_; clear hS a; intro a hS
    refine q_seq hS rfl rfl rfl (y_move hS rfl) ?_; clear hS a; intro a hS
    refine q_seq hS rfl rfl rfl (y_indexN (i := i_1) hS rfl rfl Try.underlying9 rfl hc4) ?_; clear hS a; intro a hS
    refine q_seq hS rfl rfl rfl (y_assign hS rfl) ?_; clear hS a; intro a hS
    apply wpList_nil
    refine p_norm ?_
    apply wp_seq
    replace hg := jn_some hg; obtain ⟨k5, hg, hk5⟩ := hg
    refine c_post (fun a w => ∃ (t_6 : Bool), k5 t_6 = some r ∧ St (⟨Try.f46.ntmps, M, noB, w0⟩ : Ctx) [(0, .string (bs (s_))), (3, .int .i64 (((i_1 : Nat) : Int))), (35, .bool (t_6))] [] [] a w) ?_ ?_
    · rcases Decidable.em (c4.toNat < 33) with hs7 | hs7
      · have hs7e : decide (c4.toNat < 33) = true := decide_eq_true hs7
        replace hg := br_t hg hs7
        apply wp_region_lit
        refine q_seq hS rfl rfl rfl (y_move hS rfl) ?_; clear hS a; intro a hS
        refine q_seq hS rfl rfl rfl (yl_b (y_lssN (i := c4.toNat) (j := 33) hS rfl rfl) hs7e) ?_; clear hS a; intro a hS
        refine q_seq hS rfl rfl rfl (y_move hS rfl) ?_; clear hS a; intro a hS
        refine g_no hS rfl rfl rfl rfl rfl rfl rfl ?_; clear hS a; intro a hS
        refine g_no hS rfl rfl rfl rfl rfl rfl rfl ?_; clear hS a; intro a hS
        refine q_seq hS rfl rfl rfl (y_pick_t hS rfl rfl) ?_; clear hS a; intro a hS
        refine q_seq hS rfl rfl rfl (y_move hS rfl) ?_; clear hS a; intro a hS
        refine g_no hS rfl rfl rfl rfl rfl rfl rfl ?_; clear hS a; intro a hS
        refine g_no hS rfl rfl rfl rfl rfl rfl rfl ?_; clear hS a; intro a hS
        refine g_no hS rfl rfl rfl rfl rfl rfl rfl ?_; clear hS a; intro a hS
        refine g_no hS rfl rfl rfl rfl rfl rfl rfl ?_; clear hS a; intro a hS
        refine g_no hS rfl rfl rfl rfl rfl rfl rfl ?_; clear hS a; intro a hS
        refine g_no hS rfl rfl rfl rfl rfl rfl rfl ?_; clear hS a; intro a hS
        refine q_seq hS rfl rfl rfl (y_pick_t hS rfl rfl) ?_; clear hS a; intro a hS
        refine q_seq hS rfl rfl rfl (y_move hS rfl) ?_; clear hS a; intro a hS
        refine g_no hS rfl rfl rfl rfl rfl rfl rfl ?_; clear hS a; intro a hS
        refine g_no hS rfl rfl rfl rfl rfl rfl rfl ?_; clear hS a; intro a hS
        refine q_seq hS rfl rfl rfl (y_pick_t hS rfl rfl) ?_; clear hS a; intro a hS
        refine q_seq hS rfl rfl rfl (y_move hS rfl) ?_; clear hS a; intro a hS
        refine g_no hS rfl rfl rfl rfl rfl rfl rfl ?_; clear hS a; intro a hS
        refine g_no hS rfl rfl rfl rfl rfl rfl rfl ?_; clear hS a; intro a hS
        refine q_seq hS rfl rfl rfl (y_pick_t hS rfl rfl) ?_; clear hS a; intro a hS
        apply wpList_nil
        refine p_norm ?_
        exact ⟨(true), hg, (hS.sub ⟨rfl, rfl, rfl, trivial⟩ trivial trivial)⟩
      · have hs7e : decide (c4.toNat < 33) = false := decide_eq_false hs7
        replace hg := br_f hg hs7
        rcases Decidable.em ((126 : Nat) < c4.toNat) with hs8 | hs8
        · have hs8e : decide ((126 : Nat) < c4.toNat) = true := decide_eq_true hs8
          replace hg := br_t hg hs8
          apply wp_region_lit
          refine q_seq hS rfl rfl rfl (y_move hS rfl) ?_; clear hS a; intro a hS
          refine q_seq hS rfl rfl rfl (yl_b (y_lssN (i := c4.toNat) (j := 33) hS rfl rfl) hs7e) ?_; clear hS a; intro a hS
          refine q_seq hS rfl rfl rfl (y_move hS rfl) ?_; clear hS a; intro a hS
          refine g_yes hS rfl rfl rfl rfl (l_quiet hS rfl rfl (y_move hS rfl) ?_); clear hS a; intro a hS
          refine g_yes hS rfl rfl rfl rfl (l_quiet hS rfl rfl (yl_b (y_gtrN (i := c4.toNat) (j := 126) hS rfl rfl) hs8e) ?_); clear hS a; intro a hS
          refine q_seq hS rfl rfl rfl (y_pick_f hS rfl rfl) ?_; clear hS a; intro a hS
          refine q_seq hS rfl rfl rfl (y_move hS rfl) ?_; clear hS a; intro a hS
          refine g_no hS rfl rfl rfl rfl rfl rfl rfl ?_; clear hS a; intro a hS
          refine g_no hS rfl rfl rfl rfl rfl rfl rfl ?_; clear hS a; intro a hS
          refine g_no hS rfl rfl rfl rfl rfl rfl rfl ?_; clear hS a; intro a hS
          refine g_no hS rfl rfl rfl rfl rfl rfl rfl ?_; clear hS a; intro a hS
          refine g_no hS rfl rfl rfl rfl rfl rfl rfl ?_; clear hS a; intro a hS
          refine g_no hS rfl rfl rfl rfl rfl rfl rfl ?_; clear hS a; intro a hS
          refine q_seq hS rfl rfl rfl (y_pick_t hS rfl rfl) ?_; clear hS a; intro a hS
          refine q_seq hS rfl rfl rfl (y_move hS rfl) ?_; clear hS a; intro a hS
          refine g_no hS rfl rfl rfl rfl rfl rfl rfl ?_; clear hS a; intro a hS
          refine g_no hS rfl rfl rfl rfl rfl rfl rfl ?_; clear hS a; intro a hS
          refine q_seq hS rfl rfl rfl (y_pick_t hS rfl rfl) ?_; clear hS a; intro a hS
          refine q_seq hS rfl rfl rfl (y_move hS rfl) ?_; clear hS a; intro a hS
          refine g_no hS rfl rfl rfl rfl rfl rfl rfl ?_; clear hS a; intro a hS
          refine g_no hS rfl rfl rfl rfl rfl rfl rfl ?_; clear hS a; intro a hS
          refine q_seq hS rfl rfl rfl (y_pick_t hS rfl rfl) ?_; clear hS a; intro a hS
          apply wpList_nil
          refine p_norm ?_
          exact ⟨(true), hg, (hS.sub ⟨rfl, rfl, rfl, trivial⟩ trivial trivial)⟩
        · have hs8e : decide ((126 : Nat) < c4.toNat) = false := decide_eq_false hs8
          replace hg := br_f hg hs8
          rcases Decidable.em ((65 : Nat) ≤ c4.toNat) with hs9 | hs9
          · have hs9e : decide ((65 : Nat) ≤ c4.toNat) = true := decide_eq_true hs9
            replace hg := br_t hg hs9
            rcases Decidable.em (c4.toNat ≤ 90) with hs10 | hs10
            · have hs10e : decide (c4.toNat ≤ 90) = true := decide_eq_true hs10
              replace hg := br_t hg hs10
              apply wp_region_lit
              refine q_seq hS rfl rfl rfl (y_move hS rfl) ?_; clear hS a; intro a hS
              refine q_seq hS rfl rfl rfl (yl_b (y_lssN (i := c4.toNat) (j := 33) hS rfl rfl) hs7e) ?_; clear hS a; intro a hS
              refine q_seq hS rfl rfl rfl (y_move hS rfl) ?_; clear hS a; intro a hS
              refine g_yes hS rfl rfl rfl rfl (l_quiet hS rfl rfl (y_move hS rfl) ?_); clear hS a; intro a hS
              refine g_yes hS rfl rfl rfl rfl (l_quiet hS rfl rfl (yl_b (y_gtrN (i := c4.toNat) (j := 126) hS rfl rfl) hs8e) ?_); clear hS a; intro a hS
              refine q_seq hS rfl rfl rfl (y_pick_f hS rfl rfl) ?_; clear hS a; intro a hS
              refine q_seq hS rfl rfl rfl (y_move hS rfl) ?_; clear hS a; intro a hS
              refine g_yes hS rfl rfl rfl rfl (l_quiet hS rfl rfl (y_move hS rfl) ?_); clear hS a; intro a hS
              refine g_yes hS rfl rfl rfl rfl (l_quiet hS rfl rfl (yl_b (y_geqN (i := c4.toNat) (j := 65) hS rfl rfl) hs9e) ?_); clear hS a; intro a hS
              refine g_yes hS rfl rfl rfl rfl (l_quiet hS rfl rfl (y_move hS rfl) ?_); clear hS a; intro a hS
              refine g_yes hS rfl rfl rfl rfl (l_quiet hS rfl rfl (y_move hS rfl) ?_); clear hS a; intro a hS
              refine g_yes hS rfl rfl rfl rfl (l_quiet hS rfl rfl (yl_b (y_leqN (i := c4.toNat) (j := 90) hS rfl rfl) hs10e) ?_); clear hS a; intro a hS
              refine g_yes hS rfl rfl rfl rfl (l_quiet hS rfl rfl (y_pick_t hS rfl rfl) ?_); clear hS a; intro a hS
              refine q_seq hS rfl rfl rfl (y_pick_f hS rfl rfl) ?_; clear hS a; intro a hS
              refine q_seq hS rfl rfl rfl (y_move hS rfl) ?_; clear hS a; intro a hS
              refine g_no hS rfl rfl rfl rfl rfl rfl rfl ?_; clear hS a; intro a hS
              refine g_no hS rfl rfl rfl rfl rfl rfl rfl ?_; clear hS a; intro a hS
              refine q_seq hS rfl rfl rfl (y_pick_t hS rfl rfl) ?_; clear hS a; intro a hS
              refine q_seq hS rfl rfl rfl (y_move hS rfl) ?_; clear hS a; intro a hS
              refine g_no hS rfl rfl rfl rfl rfl rfl rfl ?_; clear hS a; intro a hS
              refine g_no hS rfl rfl rfl rfl rfl rfl rfl ?_; clear hS a; intro a hS
              refine q_seq hS rfl rfl rfl (y_pick_t hS rfl rfl) ?_; clear hS a; intro a hS
              apply wpList_nil
              refine p_norm ?_
              exact ⟨(true), hg, (hS.sub ⟨rfl, rfl, rfl, trivial⟩ trivial trivial)⟩
            · have hs10e : decide (c4.toNat ≤ 90) = false := decide_eq_false hs10
              replace hg := br_f hg hs10
              rcases Decidable.em (c4.toNat = 34) with hs11 | hs11
              · have hs11e : decide (c4.toNat = 34) = true := decide_eq_true hs11
                replace hg := br_t hg hs11
                apply wp_region_lit
                refine q_seq hS rfl rfl rfl (y_move hS rfl) ?_; clear hS a; intro a hS
                refine q_seq hS rfl rfl rfl (yl_b (y_lssN (i := c4.toNat) (j := 33) hS rfl rfl) hs7e) ?_; clear hS a; intro a hS
                refine q_seq hS rfl rfl rfl (y_move hS rfl) ?_; clear hS a; intro a hS
                refine g_yes hS rfl rfl rfl rfl (l_quiet hS rfl rfl (y_move hS rfl) ?_); clear hS a; intro a hS
                refine g_yes hS rfl rfl rfl rfl (l_quiet hS rfl rfl (yl_b (y_gtrN (i := c4.toNat) (j := 126) hS rfl rfl) hs8e) ?_); clear hS a; intro a hS
                refine q_seq hS rfl rfl rfl (y_pick_f hS rfl rfl) ?_; clear hS a; intro a hS
                refine q_seq hS rfl rfl rfl (y_move hS rfl) ?_; clear hS a; intro a hS
                refine g_yes hS rfl rfl rfl rfl (l_quiet hS rfl rfl (y_move hS rfl) ?_); clear hS a; intro a hS
                refine g_yes hS rfl rfl rfl rfl (l_quiet hS rfl rfl (yl_b (y_geqN (i := c4.toNat) (j := 65) hS rfl rfl) hs9e) ?_); clear hS a; intro a hS
                refine g_yes hS rfl rfl rfl rfl (l_quiet hS rfl rfl (y_move hS rfl) ?_); clear hS a; intro a hS
                refine g_yes hS rfl rfl rfl rfl (l_quiet hS rfl rfl (y_move hS rfl) ?_); clear hS a; intro a hS
                refine g_yes hS rfl rfl rfl rfl (l_quiet hS rfl rfl (yl_b (y_leqN (i := c4.toNat) (j := 90) hS rfl rfl) hs10e) ?_); clear hS a; intro a hS
                refine g_yes hS rfl rfl rfl rfl (l_quiet hS rfl rfl (y_pick_t hS rfl rfl) ?_); clear hS a; intro a hS
                refine q_seq hS rfl rfl rfl (y_pick_f hS rfl rfl) ?_; clear hS a; intro a hS
                refine q_seq hS rfl rfl rfl (y_move hS rfl) ?_; clear hS a; intro a hS
                refine g_yes hS rfl rfl rfl rfl (l_quiet hS rfl rfl (y_move hS rfl) ?_); clear hS a; intro a hS
                refine g_yes hS rfl rfl rfl rfl (l_quiet hS rfl rfl (yl_b (y_eqlN (i := c4.toNat) (j := 34) hS rfl rfl) hs11e) ?_); clear hS a; intro a hS
                refine q_seq hS rfl rfl rfl (y_pick_f hS rfl rfl) ?_; clear hS a; intro a hS
                refine q_seq hS rfl rfl rfl (y_move hS rfl) ?_; clear hS a; intro a hS
                refine g_no hS rfl rfl rfl rfl rfl rfl rfl ?_; clear hS a; intro a hS
                refine g_no hS rfl rfl rfl rfl rfl rfl rfl ?_; clear hS a; intro a hS
                refine q_seq hS rfl rfl rfl (y_pick_t hS rfl rfl) ?_; clear hS a; intro a hS
                apply wpList_nil
                refine p_norm ?_
                exact ⟨(true), hg, (hS.sub ⟨rfl, rfl, rfl, trivial⟩ trivial trivial)⟩
              · have hs11e : decide (c4.toNat = 34) = false := decide_eq_false hs11
                replace hg := br_f hg hs11
                apply wp_region_lit
                refine q_seq hS rfl rfl rfl (y_move hS rfl) ?_; clear hS a; intro a hS
                refine q_seq hS rfl rfl rfl (yl_b (y_lssN (i := c4.toNat) (j := 33) hS rfl rfl) hs7e) ?_; clear hS a; intro a hS
                refine q_seq hS rfl rfl rfl (y_move hS rfl) ?_; clear hS a; intro a hS
                refine g_yes hS rfl rfl rfl rfl (l_quiet hS rfl rfl (y_move hS rfl) ?_); clear hS a; intro a hS
                refine g_yes hS rfl rfl rfl rfl (l_quiet hS rfl rfl (yl_b (y_gtrN (i := c4.toNat) (j := 126) hS rfl rfl) hs8e) ?_); clear hS a; intro a hS
                refine q_seq hS rfl rfl rfl (y_pick_f hS rfl rfl) ?_; clear hS a; intro a hS
                refine q_seq hS rfl rfl rfl (y_move hS rfl) ?_; clear hS a; intro a hS
                refine g_yes hS rfl rfl rfl rfl (l_quiet hS rfl rfl (y_move hS rfl) ?_); clear hS a; intro a hS
                refine g_yes hS rfl rfl rfl rfl (l_quiet hS rfl rfl (yl_b (y_geqN (i := c4.toNat) (j := 65) hS rfl rfl) hs9e) ?_); clear hS a; intro a hS
                refine g_yes hS rfl rfl rfl rfl (l_quiet hS rfl rfl (y_move hS rfl) ?_); clear hS a; intro a hS
                refine g_yes hS rfl rfl rfl rfl (l_quiet hS rfl rfl (y_move hS rfl) ?_); clear hS a; intro a hS
                refine g_yes hS rfl rfl rfl rfl (l_quiet hS rfl rfl (yl_b (y_leqN (i := c4.toNat) (j := 90) hS rfl rfl) hs10e) ?_); clear hS a; intro a hS
                refine g_yes hS rfl rfl rfl rfl (l_quiet hS rfl rfl (y_pick_t hS rfl rfl) ?_); clear hS a; intro a hS
                refine q_seq hS rfl rfl rfl (y_pick_f hS rfl rfl) ?_; clear hS a; intro a hS
                refine q_seq hS rfl rfl rfl (y_move hS rfl) ?_; clear hS a; intro a hS
                refine g_yes hS rfl rfl rfl rfl (l_quiet hS rfl rfl (y_move hS rfl) ?_); clear hS a; intro a hS
                refine g_yes hS rfl rfl rfl rfl (l_quiet hS rfl rfl (yl_b (y_eqlN (i := c4.toNat) (j := 34) hS rfl rfl) hs11e) ?_); clear hS a; intro a hS
                refine q_seq hS rfl rfl rfl (y_pick_f hS rfl rfl) ?_; clear hS a; intro a hS
                refine q_seq hS rfl rfl rfl (y_move hS rfl) ?_; clear hS a; intro a hS
                refine g_yes hS rfl rfl rfl rfl (l_quiet hS rfl rfl (y_move hS rfl) ?_); clear hS a; intro a hS
                refine g_yes hS rfl rfl rfl rfl (l_quiet hS rfl rfl (y_eqlN (i := c4.toNat) (j := 92) hS rfl rfl) ?_); clear hS a; intro a hS
                refine q_seq hS rfl rfl rfl (y_pick_f hS rfl rfl) ?_; clear hS a; intro a hS
                apply wpList_nil
                refine p_norm ?_
                exact ⟨(decide (c4.toNat = 92)), hg, (hS.sub ⟨rfl, rfl, rfl, trivial⟩ trivial trivial)⟩
          · have hs9e : decide ((65 : Nat) ≤ c4.toNat) = false := decide_eq_false hs9
            replace hg := br_f hg hs9
            rcases Decidable.em (c4.toNat = 34) with hs12 | hs12
            · have hs12e : decide (c4.toNat = 34) = true := decide_eq_true hs12
              replace hg := br_t hg hs12
              apply wp_region_lit
              refine q_seq hS rfl rfl rfl (y_move hS rfl) ?_; clear hS a; intro a hS
              refine q_seq hS rfl rfl rfl (yl_b (y_lssN (i := c4.toNat) (j := 33) hS rfl rfl) hs7e) ?_; clear hS a; intro a hS
              refine q_seq hS rfl rfl rfl (y_move hS rfl) ?_; clear hS a; intro a hS
              refine g_yes hS rfl rfl rfl rfl (l_quiet hS rfl rfl (y_move hS rfl) ?_); clear hS a; intro a hS
              refine g_yes hS rfl rfl rfl rfl (l_quiet hS rfl rfl (yl_b (y_gtrN (i := c4.toNat) (j := 126) hS rfl rfl) hs8e) ?_); clear hS a; intro a hS
              refine q_seq hS rfl rfl rfl (y_pick_f hS rfl rfl) ?_; clear hS a; intro a hS
              refine q_seq hS rfl rfl rfl (y_move hS rfl) ?_; clear hS a; intro a hS
              refine g_yes hS rfl rfl rfl rfl (l_quiet hS rfl rfl (y_move hS rfl) ?_); clear hS a; intro a hS
              refine g_yes hS rfl rfl rfl rfl (l_quiet hS rfl rfl (yl_b (y_geqN (i := c4.toNat) (j := 65) hS rfl rfl) hs9e) ?_); clear hS a; intro a hS
              refine g_yes hS rfl rfl rfl rfl (l_quiet hS rfl rfl (y_move hS rfl) ?_); clear hS a; intro a hS
              refine g_no hS rfl rfl rfl rfl rfl rfl rfl ?_; clear hS a; intro a hS
              refine g_no hS rfl rfl rfl rfl rfl rfl rfl ?_; clear hS a; intro a hS
              refine g_yes hS rfl rfl rfl rfl (l_quiet hS rfl rfl (y_pick_f hS rfl rfl) ?_); clear hS a; intro a hS
              refine q_seq hS rfl rfl rfl (y_pick_f hS rfl rfl) ?_; clear hS a; intro a hS
              refine q_seq hS rfl rfl rfl (y_move hS rfl) ?_; clear hS a; intro a hS
              refine g_yes hS rfl rfl rfl rfl (l_quiet hS rfl rfl (y_move hS rfl) ?_); clear hS a; intro a hS
              refine g_yes hS rfl rfl rfl rfl (l_quiet hS rfl rfl (yl_b (y_eqlN (i := c4.toNat) (j := 34) hS rfl rfl) hs12e) ?_); clear hS a; intro a hS
              refine q_seq hS rfl rfl rfl (y_pick_f hS rfl rfl) ?_; clear hS a; intro a hS
              refine q_seq hS rfl rfl rfl (y_move hS rfl) ?_; clear hS a; intro a hS
              refine g_no hS rfl rfl rfl rfl rfl rfl rfl ?_; clear hS a; intro a hS
              refine g_no hS rfl rfl rfl rfl rfl rfl rfl ?_; clear hS a; intro a hS
              refine q_seq hS rfl rfl rfl (y_pick_t hS rfl rfl) ?_; clear hS a; intro a hS
              apply wpList_nil
              refine p_norm ?_
              exact ⟨(true), hg, (hS.sub ⟨rfl, rfl, rfl, trivial⟩ trivial trivial)⟩
            · have hs12e : decide (c4.toNat = 34) = false := decide_eq_false hs12
              replace hg := br_f hg hs12
              apply wp_region_lit
              refine q_seq hS rfl rfl rfl (y_move hS rfl) ?_; clear hS a; intro a hS
              refine q_seq hS rfl rfl rfl (yl_b (y_lssN (i := c4.toNat) (j := 33) hS rfl rfl) hs7e) ?_; clear hS a; intro a hS
              refine q_seq hS rfl rfl rfl (y_move hS rfl) ?_; clear hS a; intro a hS
              refine g_yes hS rfl rfl rfl rfl (l_quiet hS rfl rfl (y_move hS rfl) ?_); clear hS a; intro a hS
              refine g_yes hS rfl rfl rfl rfl (l_quiet hS rfl rfl (yl_b (y_gtrN (i := c4.toNat) (j := 126) hS rfl rfl) hs8e) ?_); clear hS a; intro a hS
              refine q_seq hS rfl rfl rfl (y_pick_f hS rfl rfl) ?_; clear hS a; intro a hS
              refine q_seq hS rfl rfl rfl (y_move hS rfl) ?_; clear hS a; intro a hS
              refine g_yes hS rfl rfl rfl rfl (l_quiet hS rfl rfl (y_move hS rfl) ?_); clear hS a; intro a hS
              refine g_yes hS rfl rfl rfl rfl (l_quiet hS rfl rfl (yl_b (y_geqN (i := c4.toNat) (j := 65) hS rfl rfl) hs9e) ?_); clear hS a; intro a hS
              refine g_yes hS rfl rfl rfl rfl (l_quiet hS rfl rfl (y_move hS rfl) ?_); clear hS a; intro a hS
              refine g_no hS rfl rfl rfl rfl rfl rfl rfl ?_; clear hS a; intro a hS
              refine g_no hS rfl rfl rfl rfl rfl rfl rfl ?_; clear hS a; intro a hS
              refine g_yes hS rfl rfl rfl rfl (l_quiet hS rfl rfl (y_pick_f hS rfl rfl) ?_); clear hS a; intro a hS
              refine q_seq hS rfl rfl rfl (y_pick_f hS rfl rfl) ?_; clear hS a; intro a hS
              refine q_seq hS rfl rfl rfl (y_move hS rfl) ?_; clear hS a; intro a hS
              refine g_yes hS rfl rfl rfl rfl (l_quiet hS rfl rfl (y_move hS rfl) ?_); clear hS a; intro a hS
              refine g_yes hS rfl rfl rfl rfl (l_quiet hS rfl rfl (yl_b (y_eqlN (i := c4.toNat) (j := 34) hS rfl rfl) hs12e) ?_); clear hS a; intro a hS
              refine q_seq hS rfl rfl rfl (y_pick_f hS rfl rfl) ?_; clear hS a; intro a hS
              refine q_seq hS rfl rfl rfl (y_move hS rfl) ?_; clear hS a; intro a hS
              refine g_yes hS rfl rfl rfl rfl (l_quiet hS rfl rfl (y_move hS rfl) ?_); clear hS a; intro a hS
              refine g_yes hS rfl rfl rfl rfl (l_quiet hS rfl rfl (y_eqlN (i := c4.toNat) (j := 92) hS rfl rfl) ?_); clear hS a; intro a hS
              refine q_seq hS rfl rfl rfl (y_pick_f hS rfl rfl) ?_; clear hS a; intro a hS
              apply wpList_nil
              refine p_norm ?_
              exact ⟨(decide (c4.toNat = 92)), hg, (hS.sub ⟨rfl, rfl, rfl, trivial⟩ trivial trivial)⟩
    clear hS a; rintro a w ⟨t_6, hg, hS⟩
    subst hk5
    refine c_cond hS rfl (fun hc13 => ?_) (fun hc13 => ?_)
    · replace hg := br_t hg hc13
      apply wp_seq
      apply wp_region_lit
      refine q_seq hS rfl rfl rfl (y_assign hS rfl) ?_; clear hS a; intro a hS
      apply wpList_nil
      refine p_norm ?_
      apply wp_ret
      refine p_inR ?_
      refine p_thenR ?_
      refine p_thenR ?_
      refine p_inR ?_
      refine p_thenR ?_
      obtain rfl := Option.some.inj hg
      refine fin1 (fn := Try.f46) hS rfl (r_tmp hS rfl) ?_
      exact rfl
    · replace hg := br_f hg (by rw [hc13]; exact Bool.false_ne_true)
      apply wp_skip
      refine p_inN ?_
      refine p_norm ?_
      apply wp_region_lit
      refine q_seq hS rfl rfl rfl (y_move hS rfl) ?_; clear hS a; intro a hS
      refine q_seq hS rfl rfl rfl (y_addN (i := i_1) (j := 1) hS rfl rfl (in64.2 (by omega))) ?_; clear hS a; intro a hS
      refine q_seq hS rfl rfl rfl (y_assign hS rfl) ?_; clear hS a; intro a hS
      apply wpList_nil
      refine p_norm ?_
      exact ⟨m1, Nat.lt_succ_self _, ⟨(i_1 + 1), hg, (hS.sub ⟨rfl, rfl, trivial⟩ trivial trivial)⟩⟩
  · replace hg := br_f hg hc2
    apply wp_exit
    refine p_then ?_
    refine p_then ?_
    refine p_in ?_
    refine p_norm ?_
    apply wp_seq
    apply wp_region_lit
    refine q_seq hS rfl rfl rfl (y_assign hS rfl) ?_; clear hS a; intro a hS
    apply wpList_nil
    refine p_norm ?_
    apply wp_ret
    obtain rfl := Option.some.inj hg
    refine fin1 (fn := Try.f46) hS rfl (r_tmp hS rfl) ?_
    exact rfl
set_option maxHeartbeats 400000 in
theorem c_r23_Check (n : Nat) (M : Bs) (w0 : World) (hM : ∀ b, M b → b < w0.heap.size) (t_ : Affix) (Ap02 : Option Addr) (cp02 : Nat) (hp02 : SlR RChange M w0 Ap02 (t_.Pairs).length cp02 (t_.Pairs)) (r : Int) (hg : r23_Check n t_ = some r) :
    Calls Try.prog 31 [.agg #[.int .i64 (t_.Kind), .slice (Ap02) ((t_.Pairs).length) (cp02)]].toArray w0 (Ret noB w0 fun v w => v = .int .i64 (r)) := by
  unfold r23_Check at hg
  refine enter M noB Try.func31 rfl rfl hM ?_
  intro a hS
  replace hS := hS.add 101 (slF RChange (Ap02) ((t_.Pairs).length) (cp02) (t_.Pairs)) (by exact Fact.change _ enterM hp02)
  apply wp_seq
  apply wp_region_lit
  refine l_seq rfl (l_box (zs := [.int .i64 (t_.Kind), .slice (Ap02) ((t_.Pairs).length) (cp02)]) hS 1000 rfl rfl rfl rfl ?_); clear hS a; intro b2 a w hb hK hS
  clear hb
  clear hK
  refine q_seq hS rfl rfl rfl (y_assign hS rfl) ?_; clear hS a; intro a hS
  apply wpList_nil
  refine p_norm ?_
  apply wp_seq
  apply wp_seq
  replace hg := jn_some hg; obtain ⟨k3, hg, hk3⟩ := hg
  refine c_post (fun a w => ∃ (t_4 : Bool), k3 t_4 = some r ∧ St (⟨Try.f31.ntmps, M, noB, w0⟩ : Ctx) [(1, .pointer (some ⟨b2, 0, none⟩)), (18, .bool (t_4))] [(1000, Ob.box b2 [.int .i64 (t_.Kind), .slice (Ap02) ((t_.Pairs).length) (cp02)] 52)] [(101, slF RChange (Ap02) ((t_.Pairs).length) (cp02) (t_.Pairs))] a w) ?_ ?_
  · rcases Decidable.em (t_.Kind ≠ 0) with hs5 | hs5
    · have hs5e : decide (t_.Kind ≠ 0) = true := decide_eq_true hs5
      replace hg := br_t hg hs5
      rcases Decidable.em (t_.Kind ≠ 1) with hs6 | hs6
      · have hs6e : decide (t_.Kind ≠ 1) = true := decide_eq_true hs6
        replace hg := br_t hg hs6
        apply wp_region_lit
        refine q_seq hS rfl rfl rfl (y_boxField (o' := 0) hS rfl Try.underlying52 rfl rfl rfl) ?_; clear hS a; intro a hS
        refine q_seq hS rfl rfl rfl (y_loadBox1 (kk := 1000) hS rfl rfl rfl Try.underlying3 rfl) ?_; clear hS a; intro a hS
        refine q_seq hS rfl rfl rfl (yl_b (y_neq hS rfl rfl) hs5e) ?_; clear hS a; intro a hS
        refine q_seq hS rfl rfl rfl (y_move hS rfl) ?_; clear hS a; intro a hS
        refine g_yes hS rfl rfl rfl rfl (l_quiet hS rfl rfl (y_boxField (o' := 0) hS rfl Try.underlying52 rfl rfl rfl) ?_); clear hS a; intro a hS
        refine g_yes hS rfl rfl rfl rfl (l_quiet hS rfl rfl (y_loadBox1 (kk := 1000) hS rfl rfl rfl Try.underlying3 rfl) ?_); clear hS a; intro a hS
        refine g_yes hS rfl rfl rfl rfl (l_quiet hS rfl rfl (yl_b (y_neq hS rfl rfl) hs6e) ?_); clear hS a; intro a hS
        refine q_seq hS rfl rfl rfl (y_pick_t hS rfl rfl) ?_; clear hS a; intro a hS
        refine q_seq hS rfl rfl rfl (y_move hS rfl) ?_; clear hS a; intro a hS
        refine g_yes hS rfl rfl rfl rfl (l_quiet hS rfl rfl (y_boxField (o' := 0) hS rfl Try.underlying52 rfl rfl rfl) ?_); clear hS a; intro a hS
        refine g_yes hS rfl rfl rfl rfl (l_quiet hS rfl rfl (y_loadBox1 (kk := 1000) hS rfl rfl rfl Try.underlying3 rfl) ?_); clear hS a; intro a hS
        refine g_yes hS rfl rfl rfl rfl (l_quiet hS rfl rfl (y_neq hS rfl rfl) ?_); clear hS a; intro a hS
        refine q_seq hS rfl rfl rfl (y_pick_t hS rfl rfl) ?_; clear hS a; intro a hS
        apply wpList_nil
        refine p_norm ?_
        exact ⟨(decide (t_.Kind ≠ 2)), hg, (hS.sub ⟨rfl, rfl, trivial⟩ ⟨rfl, trivial⟩ ⟨rfl, trivial⟩)⟩
      · have hs6e : decide (t_.Kind ≠ 1) = false := decide_eq_false hs6
        replace hg := br_f hg hs6
        apply wp_region_lit
        refine q_seq hS rfl rfl rfl (y_boxField (o' := 0) hS rfl Try.underlying52 rfl rfl rfl) ?_; clear hS a; intro a hS
        refine q_seq hS rfl rfl rfl (y_loadBox1 (kk := 1000) hS rfl rfl rfl Try.underlying3 rfl) ?_; clear hS a; intro a hS
        refine q_seq hS rfl rfl rfl (yl_b (y_neq hS rfl rfl) hs5e) ?_; clear hS a; intro a hS
        refine q_seq hS rfl rfl rfl (y_move hS rfl) ?_; clear hS a; intro a hS
        refine g_yes hS rfl rfl rfl rfl (l_quiet hS rfl rfl (y_boxField (o' := 0) hS rfl Try.underlying52 rfl rfl rfl) ?_); clear hS a; intro a hS
        refine g_yes hS rfl rfl rfl rfl (l_quiet hS rfl rfl (y_loadBox1 (kk := 1000) hS rfl rfl rfl Try.underlying3 rfl) ?_); clear hS a; intro a hS
        refine g_yes hS rfl rfl rfl rfl (l_quiet hS rfl rfl (yl_b (y_neq hS rfl rfl) hs6e) ?_); clear hS a; intro a hS
        refine q_seq hS rfl rfl rfl (y_pick_t hS rfl rfl) ?_; clear hS a; intro a hS
        refine q_seq hS rfl rfl rfl (y_move hS rfl) ?_; clear hS a; intro a hS
        refine g_no hS rfl rfl rfl rfl rfl rfl rfl ?_; clear hS a; intro a hS
        refine g_no hS rfl rfl rfl rfl rfl rfl rfl ?_; clear hS a; intro a hS
        refine g_no hS rfl rfl rfl rfl rfl rfl rfl ?_; clear hS a; intro a hS
        refine q_seq hS rfl rfl rfl (y_pick_f hS rfl rfl) ?_; clear hS a; intro a hS
        apply wpList_nil
        refine p_norm ?_
        exact ⟨(false), hg, (hS.sub ⟨rfl, rfl, trivial⟩ ⟨rfl, trivial⟩ ⟨rfl, trivial⟩)⟩
    · have hs5e : decide (t_.Kind ≠ 0) = false := decide_eq_false hs5
      replace hg := br_f hg hs5
      apply wp_region_lit
      refine q_seq hS rfl rfl rfl (y_boxField (o' := 0) hS rfl Try.underlying52 rfl rfl rfl) ?_; clear hS a; intro a hS
      refine q_seq hS rfl rfl rfl (y_loadBox1 (kk := 1000) hS rfl rfl rfl Try.underlying3 rfl) ?_; clear hS a; intro a hS
      refine q_seq hS rfl rfl rfl (yl_b (y_neq hS rfl rfl) hs5e) ?_; clear hS a; intro a hS
      refine q_seq hS rfl rfl rfl (y_move hS rfl) ?_; clear hS a; intro a hS
      refine g_no hS rfl rfl rfl rfl rfl rfl rfl ?_; clear hS a; intro a hS
      refine g_no hS rfl rfl rfl rfl rfl rfl rfl ?_; clear hS a; intro a hS
      refine g_no hS rfl rfl rfl rfl rfl rfl rfl ?_; clear hS a; intro a hS
      refine q_seq hS rfl rfl rfl (y_pick_f hS rfl rfl) ?_; clear hS a; intro a hS
      refine q_seq hS rfl rfl rfl (y_move hS rfl) ?_; clear hS a; intro a hS
      refine g_no hS rfl rfl rfl rfl rfl rfl rfl ?_; clear hS a; intro a hS
      refine g_no hS rfl rfl rfl rfl rfl rfl rfl ?_; clear hS a; intro a hS
      refine g_no hS rfl rfl rfl rfl rfl rfl rfl ?_; clear hS a; intro a hS
      refine q_seq hS rfl rfl rfl (y_pick_f hS rfl rfl) ?_; clear hS a; intro a hS
      apply wpList_nil
      refine p_norm ?_
      exact ⟨(false), hg, (hS.sub ⟨rfl, rfl, trivial⟩ ⟨rfl, trivial⟩ ⟨rfl, trivial⟩)⟩
  clear hS a; rintro a w ⟨t_4, hg, hS⟩
  subst hk3
  refine c_cond hS rfl (fun hc7 => ?_) (fun hc7 => ?_)
  · replace hg := br_t hg hc7
    apply wp_seq
    apply wp_region_lit
    refine q_seq hS rfl rfl rfl (y_assign hS rfl) ?_; clear hS a; intro a hS
    apply wpList_nil
    refine p_norm ?_
    apply wp_ret
    refine p_thenR ?_
    obtain rfl := Option.some.inj hg
    refine fin1 (fn := Try.f31) hS rfl (r_tmp hS rfl) ?_
    exact rfl
  · replace hg := br_f hg (by rw [hc7]; exact Bool.false_ne_true)
    apply wp_skip
    refine p_norm ?_
    apply wp_seq
    apply wp_seq
    apply wp_region_lit
    refine q_seq hS rfl rfl rfl (y_boxField (o' := 0) hS rfl Try.underlying52 rfl rfl rfl) ?_; clear hS a; intro a hS
    refine q_seq hS rfl rfl rfl (y_loadBox1 (kk := 1000) hS rfl rfl rfl Try.underlying3 rfl) ?_; clear hS a; intro a hS
    refine q_seq hS rfl rfl rfl (y_eql hS rfl rfl) ?_; clear hS a; intro a hS
    refine q_seq hS rfl rfl rfl (y_boxField (o' := 1) hS rfl Try.underlying52 rfl rfl rfl) ?_; clear hS a; intro a hS
    refine q_seq hS rfl rfl rfl (y_loadBox1 (kk := 1000) hS rfl rfl rfl Try.underlying50 rfl) ?_; clear hS a; intro a hS
    refine q_seq hS rfl rfl rfl (y_lenSlice hS rfl Try.underlying50) ?_; clear hS a; intro a hS
    refine q_seq hS rfl rfl rfl (y_eqlN (i := ((t_.Pairs).length)) (j := 0) hS rfl rfl) ?_; clear hS a; intro a hS
    refine q_seq hS rfl rfl rfl (y_bne hS rfl rfl Try.underlying4) ?_; clear hS a; intro a hS
    apply wpList_nil
    refine p_norm ?_
    refine c_cond hS rfl (fun hc8 => ?_) (fun hc8 => ?_)
    · replace hg := br_t hg hc8
      apply wp_seq
      apply wp_region_lit
      refine q_seq hS rfl rfl rfl (y_assign hS rfl) ?_; clear hS a; intro a hS
      apply wpList_nil
      refine p_norm ?_
      apply wp_ret
      refine p_thenR ?_
      obtain rfl := Option.some.inj hg
      refine fin1 (fn := Try.f31) hS rfl (r_tmp hS rfl) ?_
      exact rfl
    · replace hg := br_f hg (by rw [hc8]; exact Bool.false_ne_true)
      apply wp_skip
      refine p_norm ?_
      apply wp_seq
      apply wp_seq
      apply wp_region_lit
      refine q_seq hS rfl rfl rfl (y_boxField (o' := 1) hS rfl Try.underlying52 rfl rfl rfl) ?_; clear hS a; intro a hS
      refine q_seq hS rfl rfl rfl (y_loadBox1 (kk := 1000) hS rfl rfl rfl Try.underlying50 rfl) ?_; clear hS a; intro a hS
      refine q_seq hS rfl rfl rfl (y_lenSlice hS rfl Try.underlying50) ?_; clear hS a; intro a hS
      refine q_seq hS rfl rfl rfl (y_gtrN (i := ((t_.Pairs).length)) (j := 16) hS rfl rfl) ?_; clear hS a; intro a hS
      apply wpList_nil
      refine p_norm ?_
      refine c_dec hS rfl (fun hc9 => ?_) (fun hc9 => ?_)
      · replace hg := br_t hg hc9
        have hmx10 := SlR.mx (hS.fact (k := 101) rfl)
        apply wp_seq
        apply wp_region_lit
        refine q_seq hS rfl rfl rfl (y_assign hS rfl) ?_; clear hS a; intro a hS
        apply wpList_nil
        refine p_norm ?_
        apply wp_ret
        refine p_thenR ?_
        obtain rfl := Option.some.inj hg
        refine fin1 (fn := Try.f31) hS rfl (r_tmp hS rfl) ?_
        exact rfl
      · replace hg := br_f hg hc9
        apply wp_skip
        refine p_norm ?_
        apply wp_seq
        apply wp_seq
        apply wp_region_lit
        refine q_seq hS rfl rfl rfl (y_assign hS rfl) ?_; clear hS a; intro a hS
        apply wpList_nil
        refine p_norm ?_
        apply wp_block
        refine c_loop (σ := Nat) (fun m1 a w => ∃ (t_11 : Nat), r23_Check_L0 n t_ m1 t_11 = some r ∧ St (⟨Try.f31.ntmps, M, noB, w0⟩ : Ctx) [(1, .pointer (some ⟨b2, 0, none⟩)), (3, .int .i64 (((t_11 : Nat) : Int)))] [(1000, Ob.box b2 [.int .i64 (t_.Kind), .slice (Ap02) ((t_.Pairs).length) (cp02)] 52)] [(101, slF RChange (Ap02) ((t_.Pairs).length) (cp02) (t_.Pairs))] a w) (fun m1 => m1) n ⟨(0), hg, (hS.sub ⟨rfl, rfl, trivial⟩ ⟨rfl, trivial⟩ ⟨rfl, trivial⟩)⟩ ?_
        clear hS a; rintro m1 a w ⟨t_11, hg, hS⟩
        rcases m1 with _ | m1
        · rw [r23_Check_L0] at hg; cases hg
        rw [r23_Check_L0] at hg
        apply wp_seq
        apply wp_seq
        apply wp_region_lit
        refine q_seq hS rfl rfl rfl (y_move hS rfl) ?_; clear hS a; intro a hS
        refine q_seq hS rfl rfl rfl (y_boxField (o' := 1) hS rfl Try.underlying52 rfl rfl rfl) ?_; clear hS a; intro a hS
        refine q_seq hS rfl rfl rfl (y_loadBox1 (kk := 1000) hS rfl rfl rfl Try.underlying50 rfl) ?_; clear hS a; intro a hS
        refine q_seq hS rfl rfl rfl (y_lenSlice hS rfl Try.underlying50) ?_; clear hS a; intro a hS
        refine q_seq hS rfl rfl rfl (y_lssN (i := t_11) (j := ((t_.Pairs).length)) hS rfl rfl) ?_; clear hS a; intro a hS
        apply wpList_nil
        refine p_norm ?_
        refine c_dec hS rfl (fun hc12 => ?_) (fun hc12 => ?_)
        · replace hg := br_t hg hc12
          have hmx13 := SlR.mx (hS.fact (k := 101) rfl)
          apply wp_skip
          refine p_norm ?_
          apply wp_seq
          replace hg := jn_some hg; obtain ⟨k14, hg, hk14⟩ := hg
          refine c_post (fun a w => k14 = some r ∧ St (⟨Try.f31.ntmps, M, noB, w0⟩ : Ctx) [(1, .pointer (some ⟨b2, 0, none⟩)), (3, .int .i64 (((t_11 : Nat) : Int)))] [(1000, Ob.box b2 [.int .i64 (t_.Kind), .slice (Ap02) ((t_.Pairs).length) (cp02)] 52)] [(101, slF RChange (Ap02) ((t_.Pairs).length) (cp02) (t_.Pairs))] a w) ?_ ?_
          · apply wp_block
            apply wp_seq
            replace hg := bind_some hg; obtain ⟨x16, hx16, hg⟩ := hg
            apply wp_region_lit
            refine q_seq hS rfl rfl rfl (y_boxField (o' := 1) hS rfl Try.underlying52 rfl rfl rfl) ?_; clear hS a; intro a hS
            refine q_seq hS rfl rfl rfl (y_loadBox1 (kk := 1000) hS rfl rfl rfl Try.underlying50 rfl) ?_; clear hS a; intro a hS
            refine q_seq hS rfl rfl rfl (y_move hS rfl) ?_; clear hS a; intro a hS
            obtain ⟨p19, hep19, hpp19⟩ := SlR.elemX (hS.fact (k := 101) rfl) hx16
            refine q_seq hS rfl rfl rfl (y_elem (sz := 2) (i := t_11) hS rfl rfl Try.underlying50 rfl hep19 rfl (lt_of_get hx16)) ?_; clear hS a; intro a hS
            obtain ⟨hlq20, hmq20, csq20, hdq20, hcq20⟩ := hpp19
            obtain ⟨rfl, lq201, lq202⟩ := RChange.open hdq20
            refine q_seq hS rfl rfl rfl (y_ldp hS rfl hlq20 hmq20 (by simpa using hcq20) Try.underlying49 rfl rfl) ?_; clear hS a; intro a hS
            refine l_seq rfl (l_alloc (zs := [.string (bs ([])), .string (bs ([]))]) hS 2005 rfl rfl rfl rfl ?_); clear hS a; intro b21 a w hb hK hS
            clear hb
            clear hK
            refine l_seq rfl (l_store (n := 2) (cs' := [.string (bs (x16.Old)), .string (bs (x16.New))]) hS 2005 rfl rfl rfl rfl rfl rfl rfl rfl ?_); clear hS; intro w hK hS; clear hK
            apply wpList_nil
            refine p_norm ?_
            apply wp_seq
            apply wp_seq
            replace hg := jn_some hg; obtain ⟨k22, hg, hk22⟩ := hg
            refine c_post (fun a w => ∃ (t_23 : Bool), k22 t_23 = some r ∧ St (⟨Try.f31.ntmps, M, noB, w0⟩ : Ctx) [(1, .pointer (some ⟨b2, 0, none⟩)), (3, .int .i64 (((t_11 : Nat) : Int))), (4, .pointer (some ⟨b21, 0, none⟩)), (52, .bool (t_23))] [(1000, Ob.box b2 [.int .i64 (t_.Kind), .slice (Ap02) ((t_.Pairs).length) (cp02)] 52), (2005, Ob.box b21 [.string (bs (x16.Old)), .string (bs (x16.New))] 49)] [(101, slF RChange (Ap02) ((t_.Pairs).length) (cp02) (t_.Pairs))] a w) ?_ ?_
            · replace hg := bind_some hg; obtain ⟨r24, hr24, hg⟩ := hg
              rcases Bool.eq_false_or_eq_true (!(r24)) with hs27 | hs27
              · replace hg := br_t hg hs27
                apply wp_region_lit
                refine q_seq hS rfl rfl rfl (y_boxField (o' := 0) hS rfl Try.underlying49 rfl rfl rfl) ?_; clear hS a; intro a hS
                refine q_seq hS rfl rfl rfl (y_loadBox1 (kk := 2005) hS rfl rfl rfl Try.underlying9 rfl) ?_; clear hS a; intro a hS
                refine l_seq rfl (l_call (cap := []) hS rfl Try.func46 rfl (by kernel_rfl) rfl rfl (c_r23_plain n _ _ hS.lt x16.Old (by first | omega | (rw [List.length_append]; omega) | (simp only [List.length_append]; omega) | (simp only [List.length_append, List.length_take, List.length_drop, List.length_cons, List.length_nil]; omega)) r24 hr24) ?_); clear hS a; intro v28 a w hK hp hS
                clear hK
                obtain rfl := hp
                refine q_seq hS rfl rfl rfl (yl_b (y_not hS rfl) hs27) ?_; clear hS a; intro a hS
                refine q_seq hS rfl rfl rfl (y_move hS rfl) ?_; clear hS a; intro a hS
                refine g_no hS rfl rfl rfl rfl rfl rfl rfl ?_; clear hS a; intro a hS
                refine g_no hS rfl rfl rfl rfl rfl rfl rfl ?_; clear hS a; intro a hS
                refine g_no hS rfl rfl rfl rfl rfl rfl rfl ?_; clear hS a; intro a hS
                refine g_no hS rfl rfl rfl rfl rfl rfl rfl ?_; clear hS a; intro a hS
                refine q_seq hS rfl rfl rfl (y_pick_t hS rfl rfl) ?_; clear hS a; intro a hS
                apply wpList_nil
                refine p_norm ?_
                exact ⟨(true), hg, (hS.sub ⟨rfl, rfl, rfl, rfl, trivial⟩ ⟨rfl, rfl, trivial⟩ ⟨rfl, trivial⟩)⟩
              · replace hg := br_f hg (by rw [hs27]; exact Bool.false_ne_true)
                replace hg := bind_some hg; obtain ⟨r30, hr30, hg⟩ := hg
                apply wp_region_lit
                refine q_seq hS rfl rfl rfl (y_boxField (o' := 0) hS rfl Try.underlying49 rfl rfl rfl) ?_; clear hS a; intro a hS
                refine q_seq hS rfl rfl rfl (y_loadBox1 (kk := 2005) hS rfl rfl rfl Try.underlying9 rfl) ?_; clear hS a; intro a hS
                refine l_seq rfl (l_call (cap := []) hS rfl Try.func46 rfl (by kernel_rfl) rfl rfl (c_r23_plain n _ _ hS.lt x16.Old (by first | omega | (rw [List.length_append]; omega) | (simp only [List.length_append]; omega) | (simp only [List.length_append, List.length_take, List.length_drop, List.length_cons, List.length_nil]; omega)) r24 hr24) ?_); clear hS a; intro v33 a w hK hp hS
                clear hK
                obtain rfl := hp
                refine q_seq hS rfl rfl rfl (yl_b (y_not hS rfl) hs27) ?_; clear hS a; intro a hS
                refine q_seq hS rfl rfl rfl (y_move hS rfl) ?_; clear hS a; intro a hS
                refine g_yes hS rfl rfl rfl rfl (l_quiet hS rfl rfl (y_boxField (o' := 1) hS rfl Try.underlying49 rfl rfl rfl) ?_); clear hS a; intro a hS
                refine g_yes hS rfl rfl rfl rfl (l_quiet hS rfl rfl (y_loadBox1 (kk := 2005) hS rfl rfl rfl Try.underlying9 rfl) ?_); clear hS a; intro a hS
                refine g_yes hS rfl rfl rfl rfl (l_call (cap := []) hS rfl Try.func46 rfl (by kernel_rfl) rfl rfl (c_r23_plain n _ _ hS.lt x16.New (by first | omega | (rw [List.length_append]; omega) | (simp only [List.length_append]; omega) | (simp only [List.length_append, List.length_take, List.length_drop, List.length_cons, List.length_nil]; omega)) r30 hr30) ?_); clear hS a; intro v35 a w hK hp hS
                clear hK
                obtain rfl := hp
                refine g_yes hS rfl rfl rfl rfl (l_quiet hS rfl rfl (y_not hS rfl) ?_); clear hS a; intro a hS
                refine q_seq hS rfl rfl rfl (y_pick_f hS rfl rfl) ?_; clear hS a; intro a hS
                apply wpList_nil
                refine p_norm ?_
                exact ⟨(!(r30)), hg, (hS.sub ⟨rfl, rfl, rfl, rfl, trivial⟩ ⟨rfl, rfl, trivial⟩ ⟨rfl, trivial⟩)⟩
            clear hS a; rintro a w ⟨t_23, hg, hS⟩
            subst hk22
            refine c_cond hS rfl (fun hc37 => ?_) (fun hc37 => ?_)
            · replace hg := br_t hg hc37
              apply wp_seq
              apply wp_region_lit
              refine q_seq hS rfl rfl rfl (y_assign hS rfl) ?_; clear hS a; intro a hS
              apply wpList_nil
              refine p_norm ?_
              apply wp_ret
              refine p_thenR ?_
              refine p_inR ?_
              refine p_thenR ?_
              refine p_thenR ?_
              refine p_inR ?_
              refine p_thenR ?_
              obtain rfl := Option.some.inj hg
              refine fin1 (fn := Try.f31) hS rfl (r_tmp hS rfl) ?_
              exact rfl
            · replace hg := br_f hg (by rw [hc37]; exact Bool.false_ne_true)
              apply wp_skip
              refine p_norm ?_
              apply wp_seq
              apply wp_seq
              replace hg := jn_some hg; obtain ⟨k38, hg, hk38⟩ := hg
              refine c_post (fun a w => ∃ (t_39 : Bool), k38 t_39 = some r ∧ St (⟨Try.f31.ntmps, M, noB, w0⟩ : Ctx) [(1, .pointer (some ⟨b2, 0, none⟩)), (3, .int .i64 (((t_11 : Nat) : Int))), (4, .pointer (some ⟨b21, 0, none⟩)), (62, .bool (t_39))] [(1000, Ob.box b2 [.int .i64 (t_.Kind), .slice (Ap02) ((t_.Pairs).length) (cp02)] 52), (2005, Ob.box b21 [.string (bs (x16.Old)), .string (bs (x16.New))] 49)] [(101, slF RChange (Ap02) ((t_.Pairs).length) (cp02) (t_.Pairs))] a w) ?_ ?_
              · rcases Decidable.em ((32 : Nat) < ((x16.Old).length)) with hs40 | hs40
                · have hs40e : decide ((32 : Nat) < ((x16.Old).length)) = true := decide_eq_true hs40
                  replace hg := br_t hg hs40
                  apply wp_region_lit
                  refine q_seq hS rfl rfl rfl (y_boxField (o' := 0) hS rfl Try.underlying49 rfl rfl rfl) ?_; clear hS a; intro a hS
                  refine q_seq hS rfl rfl rfl (y_loadBox1 (kk := 2005) hS rfl rfl rfl Try.underlying9 rfl) ?_; clear hS a; intro a hS
                  refine q_seq hS rfl rfl rfl (y_lenStrN hS rfl Try.underlying9) ?_; clear hS a; intro a hS
                  refine q_seq hS rfl rfl rfl (yl_b (y_gtrN (i := ((x16.Old).length)) (j := 32) hS rfl rfl) hs40e) ?_; clear hS a; intro a hS
                  refine q_seq hS rfl rfl rfl (y_move hS rfl) ?_; clear hS a; intro a hS
                  refine g_no hS rfl rfl rfl rfl rfl rfl rfl ?_; clear hS a; intro a hS
                  refine g_no hS rfl rfl rfl rfl rfl rfl rfl ?_; clear hS a; intro a hS
                  refine g_no hS rfl rfl rfl rfl rfl rfl rfl ?_; clear hS a; intro a hS
                  refine g_no hS rfl rfl rfl rfl rfl rfl rfl ?_; clear hS a; intro a hS
                  refine q_seq hS rfl rfl rfl (y_pick_t hS rfl rfl) ?_; clear hS a; intro a hS
                  apply wpList_nil
                  refine p_norm ?_
                  exact ⟨(true), hg, (hS.sub ⟨rfl, rfl, rfl, rfl, trivial⟩ ⟨rfl, rfl, trivial⟩ ⟨rfl, trivial⟩)⟩
                · have hs40e : decide ((32 : Nat) < ((x16.Old).length)) = false := decide_eq_false hs40
                  replace hg := br_f hg hs40
                  apply wp_region_lit
                  refine q_seq hS rfl rfl rfl (y_boxField (o' := 0) hS rfl Try.underlying49 rfl rfl rfl) ?_; clear hS a; intro a hS
                  refine q_seq hS rfl rfl rfl (y_loadBox1 (kk := 2005) hS rfl rfl rfl Try.underlying9 rfl) ?_; clear hS a; intro a hS
                  refine q_seq hS rfl rfl rfl (y_lenStrN hS rfl Try.underlying9) ?_; clear hS a; intro a hS
                  refine q_seq hS rfl rfl rfl (yl_b (y_gtrN (i := ((x16.Old).length)) (j := 32) hS rfl rfl) hs40e) ?_; clear hS a; intro a hS
                  refine q_seq hS rfl rfl rfl (y_move hS rfl) ?_; clear hS a; intro a hS
                  refine g_yes hS rfl rfl rfl rfl (l_quiet hS rfl rfl (y_boxField (o' := 1) hS rfl Try.underlying49 rfl rfl rfl) ?_); clear hS a; intro a hS
                  refine g_yes hS rfl rfl rfl rfl (l_quiet hS rfl rfl (y_loadBox1 (kk := 2005) hS rfl rfl rfl Try.underlying9 rfl) ?_); clear hS a; intro a hS
                  refine g_yes hS rfl rfl rfl rfl (l_quiet hS rfl rfl (y_lenStrN hS rfl Try.underlying9) ?_); clear hS a; intro a hS
                  refine g_yes hS rfl rfl rfl rfl (l_quiet hS rfl rfl (y_gtrN (i := ((x16.New).length)) (j := 32) hS rfl rfl) ?_); clear hS a; intro a hS
                  refine q_seq hS rfl rfl rfl (y_pick_f hS rfl rfl) ?_; clear hS a; intro a hS
                  apply wpList_nil
                  refine p_norm ?_
                  exact ⟨(decide ((32 : Nat) < ((x16.New).length))), hg, (hS.sub ⟨rfl, rfl, rfl, rfl, trivial⟩ ⟨rfl, rfl, trivial⟩ ⟨rfl, trivial⟩)⟩
              clear hS a; rintro a w ⟨t_39, hg, hS⟩
              subst hk38
              refine c_cond hS rfl (fun hc41 => ?_) (fun hc41 => ?_)
              · replace hg := br_t hg hc41
                apply wp_seq
                apply wp_region_lit
                refine q_seq hS rfl rfl rfl (y_assign hS rfl) ?_; clear hS a; intro a hS
                apply wpList_nil
                refine p_norm ?_
                apply wp_ret
                refine p_thenR ?_
                refine p_inR ?_
                refine p_thenR ?_
                refine p_thenR ?_
                refine p_inR ?_
                refine p_thenR ?_
                obtain rfl := Option.some.inj hg
                refine fin1 (fn := Try.f31) hS rfl (r_tmp hS rfl) ?_
                exact rfl
              · replace hg := br_f hg (by rw [hc41]; exact Bool.false_ne_true)
                apply wp_skip
                refine p_norm ?_
                apply wp_seq
                apply wp_region_lit
                refine q_seq hS rfl rfl rfl (y_assign hS rfl) ?_; clear hS a; intro a hS
                apply wpList_nil
                refine p_norm ?_
                apply wp_block
                refine c_loop (σ := Nat) (fun m2 a w => ∃ (t_42 : Nat), r23_Check_L1 n t_ t_11 k14 x16 m2 t_42 = some r ∧ St (⟨Try.f31.ntmps, M, noB, w0⟩ : Ctx) [(1, .pointer (some ⟨b2, 0, none⟩)), (3, .int .i64 (((t_11 : Nat) : Int))), (4, .pointer (some ⟨b21, 0, none⟩)), (5, .int .i64 (((t_42 : Nat) : Int)))] [(1000, Ob.box b2 [.int .i64 (t_.Kind), .slice (Ap02) ((t_.Pairs).length) (cp02)] 52), (2005, Ob.box b21 [.string (bs (x16.Old)), .string (bs (x16.New))] 49)] [(101, slF RChange (Ap02) ((t_.Pairs).length) (cp02) (t_.Pairs))] a w) (fun m2 => m2) n ⟨(0), hg, (hS.sub ⟨rfl, rfl, rfl, rfl, trivial⟩ ⟨rfl, rfl, trivial⟩ ⟨rfl, trivial⟩)⟩ ?_
                clear hS a; rintro m2 a w ⟨t_42, hg, hS⟩
                rcases m2 with _ | m2
                · rw [r23_Check_L1] at hg; cases hg
                rw [r23_Check_L1] at hg
                apply wp_seq
                apply wp_seq
                apply wp_region_lit
                refine q_seq hS rfl rfl rfl (y_move hS rfl) ?_; clear hS a; intro a hS
                refine q_seq hS rfl rfl rfl (y_move hS rfl) ?_; clear hS a; intro a hS
                refine q_seq hS rfl rfl rfl (y_lssN (i := t_42) (j := t_11) hS rfl rfl) ?_; clear hS a; intro a hS
                apply wpList_nil
                refine p_norm ?_
                refine c_dec hS rfl (fun hc43 => ?_) (fun hc43 => ?_)
                · replace hg := br_t hg hc43
                  apply wp_skip
                  refine p_norm ?_
                  apply wp_seq
                  apply wp_block
                  apply wp_seq
                  replace hg := bind_some hg; obtain ⟨x45, hx45, hg⟩ := hg
                  refine d_plan hS [] [(0, some 0), (1, some 1000), (2, some 0), (3, some 0), (4, some 0), (5, some 0), (6, some 0), (7, some 2005), (8, some 0)] rfl (by kernel_rfl) (by kernel_rfl) rfl ?_; clear hS; intro wr hZ hS; have hR := hS.wd
                  refine q_take hS hR rfl rfl rfl rfl (y_boxField (o' := 1) hS rfl Try.underlying52 rfl rfl rfl) ?_; clear hS a; intro a hS
                  refine q_take hS hR rfl rfl rfl rfl (y_loadBox1 (kk := 1000) hS rfl rfl rfl Try.underlying50 rfl) ?_; clear hS a; intro a hS
                  refine q_take hS hR rfl rfl rfl rfl (y_move hS rfl) ?_; clear hS a; intro a hS
                  obtain ⟨p47, hep47, hpp47⟩ := SlR.elemX (hS.fact (k := 101) rfl) hx45
                  refine q_take hS hR rfl rfl rfl rfl (y_elem (sz := 2) (i := t_42) hS rfl rfl Try.underlying50 rfl hep47 rfl (lt_of_get hx45)) ?_; clear hS a; intro a hS
                  refine q_take hS hR rfl rfl rfl rfl (y_ptrField (o' := 0) hS rfl Try.underlying49 rfl rfl rfl) ?_; clear hS a; intro a hS
                  obtain ⟨hlq48, hmq48, csq48, hdq48, hcq48⟩ := hpp47
                  obtain ⟨rfl, lq481, lq482⟩ := RChange.open hdq48
                  refine q_take hS hR rfl rfl rfl rfl (y_ldp1 hS rfl hlq48 hmq48 (hcq48 0 _ rfl) Try.underlying9 rfl) ?_; clear hS a; intro a hS
                  refine q_take hS hR rfl rfl rfl rfl (y_boxField (o' := 0) hS rfl Try.underlying49 rfl rfl rfl) ?_; clear hS a; intro a hS
                  refine q_take hS hR rfl rfl rfl rfl (y_loadBox1 (kk := 2005) hS rfl rfl rfl Try.underlying9 rfl) ?_; clear hS a; intro a hS
                  refine q_take hS hR rfl rfl rfl rfl (y_seq hS rfl rfl) ?_; clear hS a; intro a hS
                  clear hR hZ
                  refine p_norm ?_
                  refine c_dec hS rfl (fun hc49 => ?_) (fun hc49 => ?_)
                  · replace hg := br_t hg hc49
                    apply wp_seq
                    apply wp_region_lit
                    refine q_seq hS rfl rfl rfl (y_assign hS rfl) ?_; clear hS a; intro a hS
                    apply wpList_nil
                    refine p_norm ?_
                    apply wp_ret
                    refine p_inR ?_
                    refine p_thenR ?_
                    refine p_thenR ?_
                    refine p_inR ?_
                    refine p_inR ?_
                    refine p_thenR ?_
                    refine p_thenR ?_
                    refine p_inR ?_
                    refine p_thenR ?_
                    obtain rfl := Option.some.inj hg
                    refine fin1 (fn := Try.f31) hS rfl (r_tmp hS rfl) ?_
                    exact rfl
                  · replace hg := br_f hg hc49
                    apply wp_skip
                    refine p_inN ?_
                    refine p_norm ?_
                    replace hg := chk_some hg; obtain ⟨hk50, hg⟩ := hg
                    apply wp_region_lit
                    refine q_seq hS rfl rfl rfl (y_move hS rfl) ?_; clear hS a; intro a hS
                    refine q_seq hS rfl rfl rfl (y_addN (i := t_42) (j := 1) hS rfl rfl (in64.2 (by omega))) ?_; clear hS a; intro a hS
                    refine q_seq hS rfl rfl rfl (y_assign hS rfl) ?_; clear hS a; intro a hS
                    apply wpList_nil
                    refine p_norm ?_
                    exact ⟨m2, Nat.lt_succ_self _, ⟨(t_42 + 1), hg, (hS.sub ⟨rfl, rfl, rfl, rfl, trivial⟩ ⟨rfl, rfl, trivial⟩ ⟨rfl, trivial⟩)⟩⟩
                · replace hg := br_f hg hc43
                  apply wp_exit
                  refine p_then ?_
                  refine p_then ?_
                  refine p_in ?_
                  refine p_inN ?_
                  refine p_norm ?_
                  exact ⟨hg, (hS.sub ⟨rfl, rfl, trivial⟩ ⟨rfl, trivial⟩ ⟨rfl, trivial⟩)⟩
          clear hS a; rintro a w ⟨hg, hS⟩
          subst hk14
          apply wp_region_lit
          refine q_seq hS rfl rfl rfl (y_move hS rfl) ?_; clear hS a; intro a hS
          refine q_seq hS rfl rfl rfl (y_addN (i := t_11) (j := 1) hS rfl rfl (in64.2 (by omega))) ?_; clear hS a; intro a hS
          refine q_seq hS rfl rfl rfl (y_assign hS rfl) ?_; clear hS a; intro a hS
          apply wpList_nil
          refine p_norm ?_
          exact ⟨m1, Nat.lt_succ_self _, ⟨(t_11 + 1), hg, (hS.sub ⟨rfl, rfl, trivial⟩ ⟨rfl, trivial⟩ ⟨rfl, trivial⟩)⟩⟩
        · replace hg := br_f hg hc12
          apply wp_exit
          refine p_then ?_
          refine p_then ?_
          refine p_in ?_
          refine p_norm ?_
          apply wp_seq
          apply wp_region_lit
          refine q_seq hS rfl rfl rfl (y_assign hS rfl) ?_; clear hS a; intro a hS
          apply wpList_nil
          refine p_norm ?_
          apply wp_ret
          obtain rfl := Option.some.inj hg
          refine fin1 (fn := Try.f31) hS rfl (r_tmp hS rfl) ?_
          exact rfl
set_option maxHeartbeats 400000 in
theorem c_r24_Light (n : Nat) (M : Bs) (w0 : World) (hM : ∀ b, M b → b < w0.heap.size) (e_ : (List Entry)) (Ap01 : Option Addr) (cp01 : Nat) (hp01 : SlR REntry M w0 Ap01 (e_).length cp01 (e_)) (r_ : (List LexRule)) (Ap11 : Option Addr) (cp11 : Nat) (hp11 : SlR RLexRule M w0 Ap11 (r_).length cp11 (r_)) (words_ : (List (List UInt8))) (Ap21 : Option Addr) (cp21 : Nat) (hp21 : SlR Rep.str M w0 Ap21 (words_).length cp21 (words_)) (r : Bool) (hg : r24_Light n e_ r_ words_ = some r) :
    Calls Try.prog 14 [.slice (Ap01) ((e_).length) (cp01), .slice (Ap11) ((r_).length) (cp11), .slice (Ap21) ((words_).length) (cp21)].toArray w0 (Ret noB w0 fun v w => v = .bool (r)) := by
  unfold r24_Light at hg
  refine enter M noB Try.func14 rfl rfl hM ?_
  intro a hS
  replace hS := hS.add 101 (slF REntry (Ap01) ((e_).length) (cp01) (e_)) (by exact Fact.change _ enterM hp01)
  replace hS := hS.add 102 (slF RLexRule (Ap11) ((r_).length) (cp11) (r_)) (by exact Fact.change _ enterM hp11)
  replace hS := hS.add 103 (slF Rep.str (Ap21) ((words_).length) (cp21) (words_)) (by exact Fact.change _ enterM hp21)
  apply wp_seq
  apply wp_region_lit
  refine q_seq hS rfl rfl rfl (y_assign hS rfl) ?_; clear hS a; intro a hS
  apply wpList_nil
  refine p_norm ?_
  apply wp_seq
  apply wp_seq
  replace hg := jn_some hg; obtain ⟨k1, hg, hk1⟩ := hg
  refine c_post (fun a w => ∃ (t_2 : Bool), k1 t_2 = some r ∧ St (⟨Try.f14.ntmps, M, noB, w0⟩ : Ctx) [(1, .slice (Ap11) ((r_).length) (cp11)), (2, .slice (Ap21) ((words_).length) (cp21)), (26, .bool (t_2))] [] [(102, slF RLexRule (Ap11) ((r_).length) (cp11) (r_)), (103, slF Rep.str (Ap21) ((words_).length) (cp21) (words_))] a w) ?_ ?_
  · rcases Decidable.em ((6 : Nat) < ((e_).length)) with hs3 | hs3
    · have hs3e : decide ((6 : Nat) < ((e_).length)) = true := decide_eq_true hs3
      replace hg := br_t hg hs3
      have hmx4 := SlR.mx (hS.fact (k := 101) rfl)
      apply wp_region_lit
      refine q_seq hS rfl rfl rfl (y_move hS rfl) ?_; clear hS a; intro a hS
      refine q_seq hS rfl rfl rfl (y_lenSlice hS rfl Try.underlying22) ?_; clear hS a; intro a hS
      refine q_seq hS rfl rfl rfl (yl_b (y_gtrN (i := ((e_).length)) (j := 6) hS rfl rfl) hs3e) ?_; clear hS a; intro a hS
      refine q_seq hS rfl rfl rfl (y_move hS rfl) ?_; clear hS a; intro a hS
      refine g_no hS rfl rfl rfl rfl rfl rfl rfl ?_; clear hS a; intro a hS
      refine g_no hS rfl rfl rfl rfl rfl rfl rfl ?_; clear hS a; intro a hS
      refine g_no hS rfl rfl rfl rfl rfl rfl rfl ?_; clear hS a; intro a hS
      refine q_seq hS rfl rfl rfl (y_pick_t hS rfl rfl) ?_; clear hS a; intro a hS
      refine q_seq hS rfl rfl rfl (y_move hS rfl) ?_; clear hS a; intro a hS
      refine g_no hS rfl rfl rfl rfl rfl rfl rfl ?_; clear hS a; intro a hS
      refine g_no hS rfl rfl rfl rfl rfl rfl rfl ?_; clear hS a; intro a hS
      refine g_no hS rfl rfl rfl rfl rfl rfl rfl ?_; clear hS a; intro a hS
      refine q_seq hS rfl rfl rfl (y_pick_t hS rfl rfl) ?_; clear hS a; intro a hS
      refine q_seq hS rfl rfl rfl (y_move hS rfl) ?_; clear hS a; intro a hS
      refine g_no hS rfl rfl rfl rfl rfl rfl rfl ?_; clear hS a; intro a hS
      refine g_no hS rfl rfl rfl rfl rfl rfl rfl ?_; clear hS a; intro a hS
      refine g_no hS rfl rfl rfl rfl rfl rfl rfl ?_; clear hS a; intro a hS
      refine q_seq hS rfl rfl rfl (y_pick_t hS rfl rfl) ?_; clear hS a; intro a hS
      apply wpList_nil
      refine p_norm ?_
      exact ⟨(true), hg, (hS.sub ⟨rfl, rfl, rfl, trivial⟩ trivial ⟨rfl, rfl, trivial⟩)⟩
    · have hs3e : decide ((6 : Nat) < ((e_).length)) = false := decide_eq_false hs3
      replace hg := br_f hg hs3
      rcases Decidable.em ((4 : Nat) < ((r_).length)) with hs5 | hs5
      · have hs5e : decide ((4 : Nat) < ((r_).length)) = true := decide_eq_true hs5
        replace hg := br_t hg hs5
        have hmx6 := SlR.mx (hS.fact (k := 102) rfl)
        apply wp_region_lit
        refine q_seq hS rfl rfl rfl (y_move hS rfl) ?_; clear hS a; intro a hS
        refine q_seq hS rfl rfl rfl (y_lenSlice hS rfl Try.underlying22) ?_; clear hS a; intro a hS
        refine q_seq hS rfl rfl rfl (yl_b (y_gtrN (i := ((e_).length)) (j := 6) hS rfl rfl) hs3e) ?_; clear hS a; intro a hS
        refine q_seq hS rfl rfl rfl (y_move hS rfl) ?_; clear hS a; intro a hS
        refine g_yes hS rfl rfl rfl rfl (l_quiet hS rfl rfl (y_move hS rfl) ?_); clear hS a; intro a hS
        refine g_yes hS rfl rfl rfl rfl (l_quiet hS rfl rfl (y_lenSlice hS rfl Try.underlying33) ?_); clear hS a; intro a hS
        refine g_yes hS rfl rfl rfl rfl (l_quiet hS rfl rfl (yl_b (y_gtrN (i := ((r_).length)) (j := 4) hS rfl rfl) hs5e) ?_); clear hS a; intro a hS
        refine q_seq hS rfl rfl rfl (y_pick_f hS rfl rfl) ?_; clear hS a; intro a hS
        refine q_seq hS rfl rfl rfl (y_move hS rfl) ?_; clear hS a; intro a hS
        refine g_no hS rfl rfl rfl rfl rfl rfl rfl ?_; clear hS a; intro a hS
        refine g_no hS rfl rfl rfl rfl rfl rfl rfl ?_; clear hS a; intro a hS
        refine g_no hS rfl rfl rfl rfl rfl rfl rfl ?_; clear hS a; intro a hS
        refine q_seq hS rfl rfl rfl (y_pick_t hS rfl rfl) ?_; clear hS a; intro a hS
        refine q_seq hS rfl rfl rfl (y_move hS rfl) ?_; clear hS a; intro a hS
        refine g_no hS rfl rfl rfl rfl rfl rfl rfl ?_; clear hS a; intro a hS
        refine g_no hS rfl rfl rfl rfl rfl rfl rfl ?_; clear hS a; intro a hS
        refine g_no hS rfl rfl rfl rfl rfl rfl rfl ?_; clear hS a; intro a hS
        refine q_seq hS rfl rfl rfl (y_pick_t hS rfl rfl) ?_; clear hS a; intro a hS
        apply wpList_nil
        refine p_norm ?_
        exact ⟨(true), hg, (hS.sub ⟨rfl, rfl, rfl, trivial⟩ trivial ⟨rfl, rfl, trivial⟩)⟩
      · have hs5e : decide ((4 : Nat) < ((r_).length)) = false := decide_eq_false hs5
        replace hg := br_f hg hs5
        rcases Decidable.em ((6 : Nat) < ((words_).length)) with hs7 | hs7
        · have hs7e : decide ((6 : Nat) < ((words_).length)) = true := decide_eq_true hs7
          replace hg := br_t hg hs7
          have hmx8 := SlR.mx (hS.fact (k := 103) rfl)
          apply wp_region_lit
          refine q_seq hS rfl rfl rfl (y_move hS rfl) ?_; clear hS a; intro a hS
          refine q_seq hS rfl rfl rfl (y_lenSlice hS rfl Try.underlying22) ?_; clear hS a; intro a hS
          refine q_seq hS rfl rfl rfl (yl_b (y_gtrN (i := ((e_).length)) (j := 6) hS rfl rfl) hs3e) ?_; clear hS a; intro a hS
          refine q_seq hS rfl rfl rfl (y_move hS rfl) ?_; clear hS a; intro a hS
          refine g_yes hS rfl rfl rfl rfl (l_quiet hS rfl rfl (y_move hS rfl) ?_); clear hS a; intro a hS
          refine g_yes hS rfl rfl rfl rfl (l_quiet hS rfl rfl (y_lenSlice hS rfl Try.underlying33) ?_); clear hS a; intro a hS
          refine g_yes hS rfl rfl rfl rfl (l_quiet hS rfl rfl (yl_b (y_gtrN (i := ((r_).length)) (j := 4) hS rfl rfl) hs5e) ?_); clear hS a; intro a hS
          refine q_seq hS rfl rfl rfl (y_pick_f hS rfl rfl) ?_; clear hS a; intro a hS
          refine q_seq hS rfl rfl rfl (y_move hS rfl) ?_; clear hS a; intro a hS
          refine g_yes hS rfl rfl rfl rfl (l_quiet hS rfl rfl (y_move hS rfl) ?_); clear hS a; intro a hS
          refine g_yes hS rfl rfl rfl rfl (l_quiet hS rfl rfl (y_lenSlice hS rfl Try.underlying27) ?_); clear hS a; intro a hS
          refine g_yes hS rfl rfl rfl rfl (l_quiet hS rfl rfl (yl_b (y_gtrN (i := ((words_).length)) (j := 6) hS rfl rfl) hs7e) ?_); clear hS a; intro a hS
          refine q_seq hS rfl rfl rfl (y_pick_f hS rfl rfl) ?_; clear hS a; intro a hS
          refine q_seq hS rfl rfl rfl (y_move hS rfl) ?_; clear hS a; intro a hS
          refine g_no hS rfl rfl rfl rfl rfl rfl rfl ?_; clear hS a; intro a hS
          refine g_no hS rfl rfl rfl rfl rfl rfl rfl ?_; clear hS a; intro a hS
          refine g_no hS rfl rfl rfl rfl rfl rfl rfl ?_; clear hS a; intro a hS
          refine q_seq hS rfl rfl rfl (y_pick_t hS rfl rfl) ?_; clear hS a; intro a hS
          apply wpList_nil
          refine p_norm ?_
          exact ⟨(true), hg, (hS.sub ⟨rfl, rfl, rfl, trivial⟩ trivial ⟨rfl, rfl, trivial⟩)⟩
        · have hs7e : decide ((6 : Nat) < ((words_).length)) = false := decide_eq_false hs7
          replace hg := br_f hg hs7
          replace hg := bind_some hg; obtain ⟨r9, hr9, hg⟩ := hg
          apply wp_region_lit
          refine q_seq hS rfl rfl rfl (y_move hS rfl) ?_; clear hS a; intro a hS
          refine q_seq hS rfl rfl rfl (y_lenSlice hS rfl Try.underlying22) ?_; clear hS a; intro a hS
          refine q_seq hS rfl rfl rfl (yl_b (y_gtrN (i := ((e_).length)) (j := 6) hS rfl rfl) hs3e) ?_; clear hS a; intro a hS
          refine q_seq hS rfl rfl rfl (y_move hS rfl) ?_; clear hS a; intro a hS
          refine g_yes hS rfl rfl rfl rfl (l_quiet hS rfl rfl (y_move hS rfl) ?_); clear hS a; intro a hS
          refine g_yes hS rfl rfl rfl rfl (l_quiet hS rfl rfl (y_lenSlice hS rfl Try.underlying33) ?_); clear hS a; intro a hS
          refine g_yes hS rfl rfl rfl rfl (l_quiet hS rfl rfl (yl_b (y_gtrN (i := ((r_).length)) (j := 4) hS rfl rfl) hs5e) ?_); clear hS a; intro a hS
          refine q_seq hS rfl rfl rfl (y_pick_f hS rfl rfl) ?_; clear hS a; intro a hS
          refine q_seq hS rfl rfl rfl (y_move hS rfl) ?_; clear hS a; intro a hS
          refine g_yes hS rfl rfl rfl rfl (l_quiet hS rfl rfl (y_move hS rfl) ?_); clear hS a; intro a hS
          refine g_yes hS rfl rfl rfl rfl (l_quiet hS rfl rfl (y_lenSlice hS rfl Try.underlying27) ?_); clear hS a; intro a hS
          refine g_yes hS rfl rfl rfl rfl (l_quiet hS rfl rfl (yl_b (y_gtrN (i := ((words_).length)) (j := 6) hS rfl rfl) hs7e) ?_); clear hS a; intro a hS
          refine q_seq hS rfl rfl rfl (y_pick_f hS rfl rfl) ?_; clear hS a; intro a hS
          refine q_seq hS rfl rfl rfl (y_move hS rfl) ?_; clear hS a; intro a hS
          refine g_yes hS rfl rfl rfl rfl (l_quiet hS rfl rfl (y_move hS rfl) ?_); clear hS a; intro a hS
          refine g_yes hS rfl rfl rfl rfl (l_call (cap := []) hS rfl Try.func13 rfl (by kernel_rfl) rfl rfl (c_r24_Check n _ _ hS.lt e_ (Ap01) (cp01) (hS.fact (k := 101) rfl) r9 hr9) ?_); clear hS a; intro v12 a w hK hp hS
          clear hK
          obtain rfl := hp
          refine g_yes hS rfl rfl rfl rfl (l_quiet hS rfl rfl (y_neq hS rfl rfl) ?_); clear hS a; intro a hS
          refine q_seq hS rfl rfl rfl (y_pick_f hS rfl rfl) ?_; clear hS a; intro a hS
          apply wpList_nil
          refine p_norm ?_
          exact ⟨(decide (r9 ≠ 0)), hg, (hS.sub ⟨rfl, rfl, rfl, trivial⟩ trivial ⟨rfl, rfl, trivial⟩)⟩
  clear hS a; rintro a w ⟨t_2, hg, hS⟩
  subst hk1
  refine c_cond hS rfl (fun hc14 => ?_) (fun hc14 => ?_)
  · replace hg := br_t hg hc14
    apply wp_seq
    apply wp_region_lit
    refine q_seq hS rfl rfl rfl (y_assign hS rfl) ?_; clear hS a; intro a hS
    apply wpList_nil
    refine p_norm ?_
    apply wp_ret
    refine p_thenR ?_
    obtain rfl := Option.some.inj hg
    refine fin1 (fn := Try.f14) hS rfl (r_tmp hS rfl) ?_
    exact rfl
  · replace hg := br_f hg (by rw [hc14]; exact Bool.false_ne_true)
    apply wp_skip
    refine p_norm ?_
    apply wp_seq
    apply wp_seq
    apply wp_region_lit
    refine q_seq hS rfl rfl rfl (y_assign hS rfl) ?_; clear hS a; intro a hS
    apply wpList_nil
    refine p_norm ?_
    replace hg := jn_some hg; obtain ⟨k15, hg, hk15⟩ := hg
    refine c_post (fun a w => k15 = some r ∧ St (⟨Try.f14.ntmps, M, noB, w0⟩ : Ctx) [(2, .slice (Ap21) ((words_).length) (cp21))] [] [(103, slF Rep.str (Ap21) ((words_).length) (cp21) (words_))] a w) ?_ ?_
    · apply wp_block
      refine c_loop (σ := Nat) (fun m1 a w => ∃ (i_16 : Nat), r24_Light_L0 n r_ k15 m1 i_16 = some r ∧ St (⟨Try.f14.ntmps, M, noB, w0⟩ : Ctx) [(1, .slice (Ap11) ((r_).length) (cp11)), (2, .slice (Ap21) ((words_).length) (cp21)), (7, .int .i64 (((i_16 : Nat) : Int)))] [] [(102, slF RLexRule (Ap11) ((r_).length) (cp11) (r_)), (103, slF Rep.str (Ap21) ((words_).length) (cp21) (words_))] a w) (fun m1 => m1) n ⟨(0), hg, (hS.sub ⟨rfl, rfl, rfl, trivial⟩ trivial ⟨rfl, rfl, trivial⟩)⟩ ?_
      clear hS a; rintro m1 a w ⟨i_16, hg, hS⟩
      rcases m1 with _ | m1
      · rw [r24_Light_L0] at hg; cases hg
      rw [r24_Light_L0] at hg
      apply wp_seq
      apply wp_seq
      apply wp_region_lit
      refine q_seq hS rfl rfl rfl (y_move hS rfl) ?_; clear hS a; intro a hS
      refine q_seq hS rfl rfl rfl (y_move hS rfl) ?_; clear hS a; intro a hS
      refine q_seq hS rfl rfl rfl (y_lenSlice hS rfl Try.underlying33) ?_; clear hS a; intro a hS
      refine q_seq hS rfl rfl rfl (y_lssN (i := i_16) (j := ((r_).length)) hS rfl rfl) ?_; clear hS a; intro a hS
      apply wpList_nil
      refine p_norm ?_
      refine c_dec hS rfl (fun hc17 => ?_) (fun hc17 => ?_)
      · replace hg := br_t hg hc17
        have hmx18 := SlR.mx (hS.fact (k := 102) rfl)
        apply wp_skip
        refine p_norm ?_
        apply wp_seq
        apply wp_block
        apply wp_seq
        replace hg := jn_some hg; obtain ⟨k19, hg, hk19⟩ := hg
        refine c_post (fun a w => ∃ (t_20 : Bool), k19 t_20 = some r ∧ St (⟨Try.f14.ntmps, M, noB, w0⟩ : Ctx) [(1, .slice (Ap11) ((r_).length) (cp11)), (2, .slice (Ap21) ((words_).length) (cp21)), (7, .int .i64 (((i_16 : Nat) : Int))), (48, .bool (t_20))] [] [(102, slF RLexRule (Ap11) ((r_).length) (cp11) (r_)), (103, slF Rep.str (Ap21) ((words_).length) (cp21) (words_))] a w) ?_ ?_
        · replace hg := bind_some hg; obtain ⟨x22, hx22, hg⟩ := hg
          replace hg := bind_some hg; obtain ⟨r24, hr24, hg⟩ := hg
          rcases Bool.eq_false_or_eq_true (!(r24)) with hs27 | hs27
          · replace hg := br_t hg hs27
            apply wp_region_lit
            refine q_seq hS rfl rfl rfl (y_move hS rfl) ?_; clear hS a; intro a hS
            refine q_seq hS rfl rfl rfl (y_move hS rfl) ?_; clear hS a; intro a hS
            obtain ⟨p28, hep28, hpp28⟩ := SlR.elemX (hS.fact (k := 102) rfl) hx22
            refine q_seq hS rfl rfl rfl (y_elem (sz := 4) (i := i_16) hS rfl rfl Try.underlying33 rfl hep28 rfl (lt_of_get hx22)) ?_; clear hS a; intro a hS
            refine q_seq hS rfl rfl rfl (y_ptrField (o' := 1) hS rfl Try.underlying54 rfl rfl rfl) ?_; clear hS a; intro a hS
            obtain ⟨hlq29, hmq29, csq29, hdq29, hcq29⟩ := hpp28
            obtain ⟨Aq293, cq293, Aq294, cq294, rfl, lq291, hq293, hq294⟩ := RLexRule.open hdq29
            replace hS := hS.add 106 (slF RChange (Aq293) ((x22.Affix.Pairs).length) (cq293) (x22.Affix.Pairs)) hq293
            replace hS := hS.add 107 (slF RNode (Aq294) ((x22.FS.Nodes).length) (cq294) (x22.FS.Nodes)) hq294
            refine q_seq hS rfl rfl rfl (y_ldp (cs := [.int .i64 (x22.Affix.Kind), .slice (Aq293) ((x22.Affix.Pairs).length) (cq293)]) hS rfl hlq29 hmq29 (fun j v hj => hcq29 (1 + j) v (by rcases j with _ | (_ | _) <;> first | exact hj | cases hj)) Try.underlying52 rfl rfl) ?_; clear hS a; intro a hS
            refine l_seq rfl (l_call (cap := []) hS rfl Try.func30 rfl (by kernel_rfl) rfl rfl (c_r23_Light n _ _ hS.lt x22.Affix (Aq293) (cq293) (hS.fact (k := 106) rfl) r24 hr24) ?_); clear hS a; intro v30 a w hK hp hS
            clear hK
            obtain rfl := hp
            refine q_seq hS rfl rfl rfl (yl_b (y_not hS rfl) hs27) ?_; clear hS a; intro a hS
            refine q_seq hS rfl rfl rfl (y_move hS rfl) ?_; clear hS a; intro a hS
            refine g_no hS rfl rfl rfl rfl rfl rfl rfl ?_; clear hS a; intro a hS
            refine g_no hS rfl rfl rfl rfl rfl rfl rfl ?_; clear hS a; intro a hS
            refine g_no hS rfl rfl rfl rfl rfl rfl rfl ?_; clear hS a; intro a hS
            refine g_no hS rfl rfl rfl rfl rfl rfl rfl ?_; clear hS a; intro a hS
            refine g_no hS rfl rfl rfl rfl rfl rfl rfl ?_; clear hS a; intro a hS
            refine g_no hS rfl rfl rfl rfl rfl rfl rfl ?_; clear hS a; intro a hS
            refine g_no hS rfl rfl rfl rfl rfl rfl rfl ?_; clear hS a; intro a hS
            refine q_seq hS rfl rfl rfl (y_pick_t hS rfl rfl) ?_; clear hS a; intro a hS
            apply wpList_nil
            refine p_norm ?_
            exact ⟨(true), hg, (hS.sub ⟨rfl, rfl, rfl, rfl, trivial⟩ trivial ⟨rfl, rfl, trivial⟩)⟩
          · replace hg := br_f hg (by rw [hs27]; exact Bool.false_ne_true)
            replace hg := bind_some hg; obtain ⟨r34, hr34, hg⟩ := hg
            apply wp_region_lit
            refine q_seq hS rfl rfl rfl (y_move hS rfl) ?_; clear hS a; intro a hS
            refine q_seq hS rfl rfl rfl (y_move hS rfl) ?_; clear hS a; intro a hS
            obtain ⟨p37, hep37, hpp37⟩ := SlR.elemX (hS.fact (k := 102) rfl) hx22
            refine q_seq hS rfl rfl rfl (y_elem (sz := 4) (i := i_16) hS rfl rfl Try.underlying33 rfl hep37 rfl (lt_of_get hx22)) ?_; clear hS a; intro a hS
            refine q_seq hS rfl rfl rfl (y_ptrField (o' := 1) hS rfl Try.underlying54 rfl rfl rfl) ?_; clear hS a; intro a hS
            obtain ⟨hlq38, hmq38, csq38, hdq38, hcq38⟩ := hpp37
            obtain ⟨Aq383, cq383, Aq384, cq384, rfl, lq381, hq383, hq384⟩ := RLexRule.open hdq38
            replace hS := hS.add 110 (slF RChange (Aq383) ((x22.Affix.Pairs).length) (cq383) (x22.Affix.Pairs)) hq383
            replace hS := hS.add 111 (slF RNode (Aq384) ((x22.FS.Nodes).length) (cq384) (x22.FS.Nodes)) hq384
            refine q_seq hS rfl rfl rfl (y_ldp (cs := [.int .i64 (x22.Affix.Kind), .slice (Aq383) ((x22.Affix.Pairs).length) (cq383)]) hS rfl hlq38 hmq38 (fun j v hj => hcq38 (1 + j) v (by rcases j with _ | (_ | _) <;> first | exact hj | cases hj)) Try.underlying52 rfl rfl) ?_; clear hS a; intro a hS
            refine l_seq rfl (l_call (cap := []) hS rfl Try.func30 rfl (by kernel_rfl) rfl rfl (c_r23_Light n _ _ hS.lt x22.Affix (Aq383) (cq383) (hS.fact (k := 110) rfl) r24 hr24) ?_); clear hS a; intro v39 a w hK hp hS
            clear hK
            obtain rfl := hp
            refine q_seq hS rfl rfl rfl (yl_b (y_not hS rfl) hs27) ?_; clear hS a; intro a hS
            refine q_seq hS rfl rfl rfl (y_move hS rfl) ?_; clear hS a; intro a hS
            refine g_yes hS rfl rfl rfl rfl (l_quiet hS rfl rfl (y_move hS rfl) ?_); clear hS a; intro a hS
            refine g_yes hS rfl rfl rfl rfl (l_quiet hS rfl rfl (y_move hS rfl) ?_); clear hS a; intro a hS
            obtain ⟨p41, hep41, hpp41⟩ := SlR.elemX (hS.fact (k := 102) rfl) hx22
            refine g_yes hS rfl rfl rfl rfl (l_quiet hS rfl rfl (y_elem (sz := 4) (i := i_16) hS rfl rfl Try.underlying33 rfl hep41 rfl (lt_of_get hx22)) ?_); clear hS a; intro a hS
            refine g_yes hS rfl rfl rfl rfl (l_quiet hS rfl rfl (y_ptrField (o' := 1) hS rfl Try.underlying54 rfl rfl rfl) ?_); clear hS a; intro a hS
            obtain ⟨hlq42, hmq42, csq42, hdq42, hcq42⟩ := hpp41
            obtain ⟨Aq423, cq423, Aq424, cq424, rfl, lq421, hq423, hq424⟩ := RLexRule.open hdq42
            replace hS := hS.add 112 (slF RChange (Aq423) ((x22.Affix.Pairs).length) (cq423) (x22.Affix.Pairs)) hq423
            replace hS := hS.add 113 (slF RNode (Aq424) ((x22.FS.Nodes).length) (cq424) (x22.FS.Nodes)) hq424
            refine g_yes hS rfl rfl rfl rfl (l_quiet hS rfl rfl (y_ldp (cs := [.int .i64 (x22.Affix.Kind), .slice (Aq423) ((x22.Affix.Pairs).length) (cq423)]) hS rfl hlq42 hmq42 (fun j v hj => hcq42 (1 + j) v (by rcases j with _ | (_ | _) <;> first | exact hj | cases hj)) Try.underlying52 rfl rfl) ?_); clear hS a; intro a hS
            refine g_yes hS rfl rfl rfl rfl (l_call (cap := []) hS rfl Try.func31 rfl (by kernel_rfl) rfl rfl (c_r23_Check n _ _ hS.lt x22.Affix (Aq423) (cq423) (hS.fact (k := 112) rfl) r34 hr34) ?_); clear hS a; intro v43 a w hK hp hS
            clear hK
            obtain rfl := hp
            refine g_yes hS rfl rfl rfl rfl (l_quiet hS rfl rfl (y_neq hS rfl rfl) ?_); clear hS a; intro a hS
            refine q_seq hS rfl rfl rfl (y_pick_f hS rfl rfl) ?_; clear hS a; intro a hS
            apply wpList_nil
            refine p_norm ?_
            exact ⟨(decide (r34 ≠ 0)), hg, (hS.sub ⟨rfl, rfl, rfl, rfl, trivial⟩ trivial ⟨rfl, rfl, trivial⟩)⟩
        clear hS a; rintro a w ⟨t_20, hg, hS⟩
        subst hk19
        refine c_cond hS rfl (fun hc45 => ?_) (fun hc45 => ?_)
        · replace hg := br_t hg hc45
          apply wp_seq
          apply wp_region_lit
          refine q_seq hS rfl rfl rfl (y_assign hS rfl) ?_; clear hS a; intro a hS
          apply wpList_nil
          refine p_norm ?_
          apply wp_ret
          refine p_inR ?_
          refine p_thenR ?_
          refine p_thenR ?_
          refine p_inR ?_
          refine p_thenR ?_
          obtain rfl := Option.some.inj hg
          refine fin1 (fn := Try.f14) hS rfl (r_tmp hS rfl) ?_
          exact rfl
        · replace hg := br_f hg (by rw [hc45]; exact Bool.false_ne_true)
          apply wp_skip
          refine p_inN ?_
          refine p_norm ?_
          apply wp_region_lit
          refine q_seq hS rfl rfl rfl (y_move hS rfl) ?_; clear hS a; intro a hS
          refine q_seq hS rfl rfl rfl (y_addN (i := i_16) (j := 1) hS rfl rfl (in64.2 (by omega))) ?_; clear hS a; intro a hS
          refine q_seq hS rfl rfl rfl (y_assign hS rfl) ?_; clear hS a; intro a hS
          apply wpList_nil
          refine p_norm ?_
          exact ⟨m1, Nat.lt_succ_self _, ⟨(i_16 + 1), hg, (hS.sub ⟨rfl, rfl, rfl, trivial⟩ trivial ⟨rfl, rfl, trivial⟩)⟩⟩
      · replace hg := br_f hg hc17
        apply wp_exit
        refine p_then ?_
        refine p_then ?_
        refine p_in ?_
        refine p_norm ?_
        exact ⟨hg, (hS.sub ⟨rfl, trivial⟩ trivial ⟨rfl, trivial⟩)⟩
    clear hS a; rintro a w ⟨hg, hS⟩
    subst hk15
    apply wp_seq
    apply wp_seq
    apply wp_region_lit
    refine q_seq hS rfl rfl rfl (y_assign hS rfl) ?_; clear hS a; intro a hS
    apply wpList_nil
    refine p_norm ?_
    apply wp_block
    refine c_loop (σ := Nat) (fun m2 a w => ∃ (i_46 : Nat), r24_Light_L1 n words_ m2 i_46 = some r ∧ St (⟨Try.f14.ntmps, M, noB, w0⟩ : Ctx) [(2, .slice (Ap21) ((words_).length) (cp21)), (8, .int .i64 (((i_46 : Nat) : Int)))] [] [(103, slF Rep.str (Ap21) ((words_).length) (cp21) (words_))] a w) (fun m2 => m2) n ⟨(0), hg, (hS.sub ⟨rfl, rfl, trivial⟩ trivial ⟨rfl, trivial⟩)⟩ ?_
    clear hS a; rintro m2 a w ⟨i_46, hg, hS⟩
    rcases m2 with _ | m2
    · rw [r24_Light_L1] at hg; cases hg
    rw [r24_Light_L1] at hg
    apply wp_seq
    apply wp_seq
    apply wp_region_lit
    refine q_seq hS rfl rfl rfl (y_move hS rfl) ?_; clear hS a; intro a hS
    refine q_seq hS rfl rfl rfl (y_move hS rfl) ?_; clear hS a; intro a hS
    refine q_seq hS rfl rfl rfl (y_lenSlice hS rfl Try.underlying27) ?_; clear hS a; intro a hS
    refine q_seq hS rfl rfl rfl (y_lssN (i := i_46) (j := ((words_).length)) hS rfl rfl) ?_; clear hS a; intro a hS
    apply wpList_nil
    refine p_norm ?_
    refine c_dec hS rfl (fun hc47 => ?_) (fun hc47 => ?_)
    · replace hg := br_t hg hc47
      have hmx48 := SlR.mx (hS.fact (k := 103) rfl)
      apply wp_skip
      refine p_norm ?_
      apply wp_seq
      apply wp_block
      apply wp_seq
      replace hg := bind_some hg; obtain ⟨x50, hx50, hg⟩ := hg
      apply wp_region_lit
      refine q_seq hS rfl rfl rfl (y_move hS rfl) ?_; clear hS a; intro a hS
      refine q_seq hS rfl rfl rfl (y_move hS rfl) ?_; clear hS a; intro a hS
      obtain ⟨p52, hep52, hpp52⟩ := SlR.elemX (hS.fact (k := 103) rfl) hx50
      refine q_seq hS rfl rfl rfl (y_elem (sz := 1) (i := i_46) hS rfl rfl Try.underlying27 rfl hep52 rfl (lt_of_get hx50)) ?_; clear hS a; intro a hS
      obtain ⟨hlq53, hmq53, csq53, hdq53, hcq53⟩ := hpp52
      obtain ⟨rfl, lq531⟩ := hdq53
      refine q_seq hS rfl rfl rfl (y_ldp1 hS rfl hlq53 hmq53 (hcq53 0 _ rfl) Try.underlying9 rfl) ?_; clear hS a; intro a hS
      refine q_seq hS rfl rfl rfl (y_lenStrN hS rfl Try.underlying9) ?_; clear hS a; intro a hS
      refine q_seq hS rfl rfl rfl (y_gtrN (i := ((x50).length)) (j := 40) hS rfl rfl) ?_; clear hS a; intro a hS
      apply wpList_nil
      refine p_norm ?_
      refine c_dec hS rfl (fun hc54 => ?_) (fun hc54 => ?_)
      · replace hg := br_t hg hc54
        have hmx55 : (x50).length ≤ 9223372036854775807 := (by first | omega | (rw [List.length_append]; omega) | (simp only [List.length_append]; omega) | (simp only [List.length_append, List.length_take, List.length_drop, List.length_cons, List.length_nil]; omega))
        apply wp_seq
        apply wp_region_lit
        refine q_seq hS rfl rfl rfl (y_assign hS rfl) ?_; clear hS a; intro a hS
        apply wpList_nil
        refine p_norm ?_
        apply wp_ret
        refine p_inR ?_
        refine p_thenR ?_
        refine p_thenR ?_
        refine p_inR ?_
        refine p_thenR ?_
        obtain rfl := Option.some.inj hg
        refine fin1 (fn := Try.f14) hS rfl (r_tmp hS rfl) ?_
        exact rfl
      · replace hg := br_f hg hc54
        apply wp_skip
        refine p_inN ?_
        refine p_norm ?_
        apply wp_region_lit
        refine q_seq hS rfl rfl rfl (y_move hS rfl) ?_; clear hS a; intro a hS
        refine q_seq hS rfl rfl rfl (y_addN (i := i_46) (j := 1) hS rfl rfl (in64.2 (by omega))) ?_; clear hS a; intro a hS
        refine q_seq hS rfl rfl rfl (y_assign hS rfl) ?_; clear hS a; intro a hS
        apply wpList_nil
        refine p_norm ?_
        exact ⟨m2, Nat.lt_succ_self _, ⟨(i_46 + 1), hg, (hS.sub ⟨rfl, rfl, trivial⟩ trivial ⟨rfl, trivial⟩)⟩⟩
    · replace hg := br_f hg hc47
      apply wp_exit
      refine p_then ?_
      refine p_then ?_
      refine p_in ?_
      refine p_norm ?_
      apply wp_seq
      apply wp_region_lit
      refine q_seq hS rfl rfl rfl (y_assign hS rfl) ?_; clear hS a; intro a hS
      apply wpList_nil
      refine p_norm ?_
      apply wp_ret
      obtain rfl := Option.some.inj hg
      refine fin1 (fn := Try.f14) hS rfl (r_tmp hS rfl) ?_
      exact rfl
set_option maxHeartbeats 400000 in
theorem c_r24_Find (n : Nat) (M : Bs) (w0 : World) (hM : ∀ b, M b → b < w0.heap.size) (e_ : (List Entry)) (Ap01 : Option Addr) (cp01 : Nat) (hp01 : SlR REntry M w0 Ap01 (e_).length cp01 (e_)) (words_ : (List (List UInt8))) (Ap11 : Option Addr) (cp11 : Nat) (hp11 : SlR Rep.str M w0 Ap11 (words_).length cp11 (words_)) (r : (List Int)) (hg : r24_Find n e_ words_ = some r) :
    Calls Try.prog 17 [.slice (Ap01) ((e_).length) (cp01), .slice (Ap11) ((words_).length) (cp11)].toArray w0 (Ret noB w0 fun v w => ∃ (Aa1 : Option Addr), ∃ (ca1 : Nat), v = .slice (Aa1) ((r).length) (ca1) ∧ (SlR (Rep.num .i64) M w Aa1 (r).length ca1 (r))) := by
  unfold r24_Find at hg
  refine enter M noB Try.func17 rfl rfl hM ?_
  intro a hS
  replace hS := hS.add 101 (slF REntry (Ap01) ((e_).length) (cp01) (e_)) (by exact Fact.change _ enterM hp01)
  replace hS := hS.add 102 (slF Rep.str (Ap11) ((words_).length) (cp11) (words_)) (by exact Fact.change _ enterM hp11)
  apply wp_seq
  apply wp_region_lit
  refine q_seq hS rfl rfl rfl (y_assign hS rfl) ?_; clear hS a; intro a hS
  apply wpList_nil
  refine p_norm ?_
  apply wp_seq
  apply wp_region_lit
  refine q_seq hS rfl rfl rfl (y_assign hS rfl) ?_; clear hS a; intro a hS
  apply wpList_nil
  refine p_norm ?_
  apply wp_seq
  apply wp_seq
  apply wp_region_lit
  refine q_seq hS rfl rfl rfl (y_assign hS rfl) ?_; clear hS a; intro a hS
  apply wpList_nil
  refine p_norm ?_
  apply wp_block
  replace hS := hS.nilRow 700103 3 1 rfl
  replace hS := hS.add 104 (rdF (Rep.num .i64) [] []) (RdAll.nil _ _ _)
  refine c_loop (σ := Nat) (fun m1 a w => ∃ (out_1 : (List Int)), ∃ (i_5 : Nat), ∃ (A2 : Option Addr), ∃ (c3 : Nat), ∃ (cs4 : List Value), r24_Find_L0 n e_ words_ m1 out_1 i_5 = some r ∧ St (⟨Try.f17.ntmps, M, noB, w0⟩ : Ctx) [(0, .slice (Ap01) ((e_).length) (cp01)), (1, .slice (Ap11) ((words_).length) (cp11)), (5, .slice (A2) ((out_1).length) (c3)), (6, .int .i64 (((i_5 : Nat) : Int)))] [(700103, Ob.row (A2) ((out_1).length) (c3) 3 1 (cs4))] [(101, slF REntry (Ap01) ((e_).length) (cp01) (e_)), (102, slF Rep.str (Ap11) ((words_).length) (cp11) (words_)), (104, rdF (Rep.num .i64) (cs4) (out_1))] a w) (fun m1 => m1) n ⟨([]), (0), (none), (0), ([]), hg, (hS.sub ⟨rfl, rfl, rfl, rfl, trivial⟩ ⟨rfl, trivial⟩ ⟨rfl, rfl, rfl, trivial⟩)⟩ ?_
  clear hS a; rintro m1 a w ⟨out_1, i_5, A2, c3, cs4, hg, hS⟩
  rcases m1 with _ | m1
  · rw [r24_Find_L0] at hg; cases hg
  rw [r24_Find_L0] at hg
  apply wp_seq
  apply wp_seq
  apply wp_region_lit
  refine q_seq hS rfl rfl rfl (y_move hS rfl) ?_; clear hS a; intro a hS
  refine q_seq hS rfl rfl rfl (y_move hS rfl) ?_; clear hS a; intro a hS
  refine q_seq hS rfl rfl rfl (y_lenSlice hS rfl Try.underlying22) ?_; clear hS a; intro a hS
  refine q_seq hS rfl rfl rfl (y_lssN (i := i_5) (j := ((e_).length)) hS rfl rfl) ?_; clear hS a; intro a hS
  apply wpList_nil
  refine p_norm ?_
  refine c_dec hS rfl (fun hc6 => ?_) (fun hc6 => ?_)
  · replace hg := br_t hg hc6
    have hmx7 := SlR.mx (hS.fact (k := 101) rfl)
    apply wp_skip
    refine p_norm ?_
    apply wp_seq
    apply wp_block
    apply wp_seq
    replace hg := bind_some hg; obtain ⟨x9, hx9, hg⟩ := hg
    replace hg := bind_some hg; obtain ⟨r11, hr11, hg⟩ := hg
    apply wp_region_lit
    refine q_seq hS rfl rfl rfl (y_move hS rfl) ?_; clear hS a; intro a hS
    refine q_seq hS rfl rfl rfl (y_move hS rfl) ?_; clear hS a; intro a hS
    obtain ⟨p14, hep14, hpp14⟩ := SlR.elemX (hS.fact (k := 101) rfl) hx9
    refine q_seq hS rfl rfl rfl (y_elem (sz := 3) (i := i_5) hS rfl rfl Try.underlying22 rfl hep14 rfl (lt_of_get hx9)) ?_; clear hS a; intro a hS
    refine q_seq hS rfl rfl rfl (y_ptrField (o' := 1) hS rfl Try.underlying47 rfl rfl rfl) ?_; clear hS a; intro a hS
    obtain ⟨hlq15, hmq15, csq15, hdq15, hcq15⟩ := hpp14
    obtain ⟨Aq152, cq152, Aq153, cq153, rfl, lq151, hq152, hq153⟩ := REntry.open hdq15
    replace hS := hS.add 107 (slF Rep.str (Aq152) ((x9.Words).length) (cq152) (x9.Words)) hq152
    replace hS := hS.add 108 (slF RNode (Aq153) ((x9.FS.Nodes).length) (cq153) (x9.FS.Nodes)) hq153
    refine q_seq hS rfl rfl rfl (y_ldp1 hS rfl hlq15 hmq15 (hcq15 1 _ rfl) Try.underlying27 rfl) ?_; clear hS a; intro a hS
    refine q_seq hS rfl rfl rfl (y_move hS rfl) ?_; clear hS a; intro a hS
    refine l_seq rfl (l_call (cap := []) hS rfl Try.func20 rfl (by kernel_rfl) rfl rfl (c_r01_Same n _ _ hS.lt x9.Words (Aq152) (cq152) (hS.fact (k := 107) rfl) words_ (Ap11) (cp11) (hS.fact (k := 102) rfl) r11 hr11) ?_); clear hS a; intro v16 a w hK hp hS
    clear hK
    obtain rfl := hp
    apply wpList_nil
    refine p_norm ?_
    refine c_cond hS rfl (fun hc18 => ?_) (fun hc18 => ?_)
    · replace hg := br_t hg hc18
      replace hg := chk_some hg; obtain ⟨hk20, hg⟩ := hg
      apply wp_region_lit
      refine q_seq hS rfl rfl rfl (y_move hS rfl) ?_; clear hS a; intro a hS
      refine q_seq hS rfl rfl rfl (y_move hS rfl) ?_; clear hS a; intro a hS
      refine l_seq rfl (l_buildDense (sz := 1) hS 1602 rfl rfl rfl Try.underlying30 rfl rfl rfl rfl rfl rfl rfl ?_); clear hS a; intro b23 a w hbb23 hK hS
      clear hbb23
      clear hK
      replace hS := hS.add 111 (rdF (Rep.num .i64) (cellsOfL [.int .i64 (((i_5 : Nat) : Int))]) ([((i_5 : Nat) : Int)])) (RdAll.cons (by exact rfl) (RdAll.nil _ _ _))
      have hs25 := row_src (hS.wd.holds 1602 _ rfl) (RdAll.one (hS.fact (k := 111) rfl))
      refine l_seq rfl (l_append (sz := 1) (by_ := 8) (N := (out_1 ++ [((i_5 : Nat) : Int)]).length) (ys := cs4 ++ (cellsOfL [.int .i64 (((i_5 : Nat) : Int))])) hS 700103 rfl rfl rfl Try.underlying30 rfl rfl rfl rfl rfl hs25 (by simp) rfl (by have hr := hk20; clear hg; first | omega | (simp only [List.length_append, List.length_cons, List.length_nil] at hr ⊢; omega) | (simp at hr ⊢; omega)) (by have hr := hk20; clear hg; first | omega | (simp only [List.length_append, List.length_cons, List.length_nil] at hr ⊢; omega) | (simp at hr ⊢; omega)) rfl ?_); clear hS a; intro Aq24 cq24 a w hA hK hS
      clear hK hA
      replace hS := hS.add 112 (rdF (Rep.num .i64) (cs4 ++ (cellsOfL [.int .i64 (((i_5 : Nat) : Int))])) (out_1 ++ [((i_5 : Nat) : Int)])) (RdAll.append (hS.fact (k := 104) rfl) (hS.fact (k := 111) rfl))
      refine q_seq hS rfl rfl rfl (y_assign hS rfl) ?_; clear hS a; intro a hS
      apply wpList_nil
      refine p_inN ?_
      refine p_norm ?_
      apply wp_region_lit
      refine q_seq hS rfl rfl rfl (y_move hS rfl) ?_; clear hS a; intro a hS
      refine q_seq hS rfl rfl rfl (y_addN (i := i_5) (j := 1) hS rfl rfl (in64.2 (by omega))) ?_; clear hS a; intro a hS
      refine q_seq hS rfl rfl rfl (y_assign hS rfl) ?_; clear hS a; intro a hS
      apply wpList_nil
      refine p_norm ?_
      replace hS := hS.add 104 (rdF (Rep.num .i64) (cs4 ++ (cellsOfL [.int .i64 (((i_5 : Nat) : Int))])) (out_1 ++ [((i_5 : Nat) : Int)])) (hS.fact (k := 112) rfl)
      exact ⟨m1, Nat.lt_succ_self _, ⟨(out_1 ++ [((i_5 : Nat) : Int)]), (i_5 + 1), (Aq24), (cq24), (cs4 ++ (cellsOfL [.int .i64 (((i_5 : Nat) : Int))])), hg, (hS.sub ⟨rfl, rfl, rfl, rfl, trivial⟩ ⟨rfl, trivial⟩ ⟨rfl, rfl, rfl, trivial⟩)⟩⟩
    · replace hg := br_f hg (by rw [hc18]; exact Bool.false_ne_true)
      apply wp_skip
      refine p_inN ?_
      refine p_norm ?_
      apply wp_region_lit
      refine q_seq hS rfl rfl rfl (y_move hS rfl) ?_; clear hS a; intro a hS
      refine q_seq hS rfl rfl rfl (y_addN (i := i_5) (j := 1) hS rfl rfl (in64.2 (by omega))) ?_; clear hS a; intro a hS
      refine q_seq hS rfl rfl rfl (y_assign hS rfl) ?_; clear hS a; intro a hS
      apply wpList_nil
      refine p_norm ?_
      replace hS := hS.add 104 (rdF (Rep.num .i64) (cs4) (out_1)) (hS.fact (k := 104) rfl)
      exact ⟨m1, Nat.lt_succ_self _, ⟨(out_1), (i_5 + 1), (A2), (c3), (cs4), hg, (hS.sub ⟨rfl, rfl, rfl, rfl, trivial⟩ ⟨rfl, trivial⟩ ⟨rfl, rfl, rfl, trivial⟩)⟩⟩
  · replace hg := br_f hg hc6
    apply wp_exit
    refine p_then ?_
    refine p_then ?_
    refine p_in ?_
    refine p_norm ?_
    apply wp_seq
    apply wp_region_lit
    refine q_seq hS rfl rfl rfl (y_move hS rfl) ?_; clear hS a; intro a hS
    refine q_seq hS rfl rfl rfl (y_assign hS rfl) ?_; clear hS a; intro a hS
    apply wpList_nil
    refine p_norm ?_
    apply wp_ret
    obtain rfl := Option.some.inj hg
    refine fin1 (fn := Try.f17) hS rfl (r_tmp hS rfl) ?_
    exact ⟨(A2), (c3), rfl, (hS.rowOut (R := (Rep.num .i64)) (kk := 700103) rfl rfl (hS.fact (k := 104) rfl))⟩
set_option maxHeartbeats 400000 in
theorem c_law24_LexiconFinds (n : Nat) (M : Bs) (w0 : World) (hM : ∀ b, M b → b < w0.heap.size) (e_ : (List Entry)) (Ap01 : Option Addr) (cp01 : Nat) (hp01 : SlR REntry M w0 Ap01 (e_).length cp01 (e_)) (words_ : (List (List UInt8))) (Ap11 : Option Addr) (cp11 : Nat) (hp11 : SlR Rep.str M w0 Ap11 (words_).length cp11 (words_)) (r : Bool) (hg : law24_LexiconFinds n e_ words_ = some r) :
    Calls Try.prog 4 [.slice (Ap01) ((e_).length) (cp01), .slice (Ap11) ((words_).length) (cp11)].toArray w0 (Ret noB w0 fun v w => v = .bool (r)) := by
  unfold law24_LexiconFinds at hg
  refine enter M noB Try.func4 rfl rfl hM ?_
  intro a hS
  replace hS := hS.add 101 (slF REntry (Ap01) ((e_).length) (cp01) (e_)) (by exact Fact.change _ enterM hp01)
  replace hS := hS.add 102 (slF Rep.str (Ap11) ((words_).length) (cp11) (words_)) (by exact Fact.change _ enterM hp11)
  apply wp_seq
  apply wp_region_lit
  refine q_seq hS rfl rfl rfl (y_assign hS rfl) ?_; clear hS a; intro a hS
  apply wpList_nil
  refine p_norm ?_
  apply wp_seq
  apply wp_seq
  replace hg := bind_some hg; obtain ⟨r1, hr1, hg⟩ := hg
  apply wp_region_lit
  refine q_seq hS rfl rfl rfl (y_move hS rfl) ?_; clear hS a; intro a hS
  refine q_seq hS rfl rfl rfl (y_move hS rfl) ?_; clear hS a; intro a hS
  refine l_seq rfl (l_call (cap := []) hS rfl Try.func14 rfl (by kernel_rfl) rfl rfl (c_r24_Light n _ _ hS.lt e_ (Ap01) (cp01) (hS.fact (k := 101) rfl) [] (none) (0) (SlR.nil_ _ _ _) words_ (Ap11) (cp11) (hS.fact (k := 102) rfl) r1 hr1) ?_); clear hS a; intro v4 a w hK hp hS
  clear hK
  obtain rfl := hp
  refine q_seq hS rfl rfl rfl (y_not hS rfl) ?_; clear hS a; intro a hS
  apply wpList_nil
  refine p_norm ?_
  refine c_cond hS rfl (fun hc6 => ?_) (fun hc6 => ?_)
  · replace hg := br_t hg hc6
    apply wp_seq
    replace hg := bind_some hg; obtain ⟨r7, hr7, hg⟩ := hg
    apply wp_region_lit
    refine l_seq rfl (l_call (cap := []) hS rfl Try.func11 rfl (by kernel_rfl) rfl rfl (c_law24_exampleHolds n _ _ hS.lt  r7 hr7) ?_); clear hS a; intro v10 a w hK hp hS
    clear hK
    obtain rfl := hp
    refine q_seq hS rfl rfl rfl (y_assign hS rfl) ?_; clear hS a; intro a hS
    apply wpList_nil
    refine p_norm ?_
    apply wp_ret
    refine p_thenR ?_
    obtain rfl := Option.some.inj hg
    refine fin1 (fn := Try.f4) hS rfl (r_tmp hS rfl) ?_
    exact rfl
  · replace hg := br_f hg (by rw [hc6]; exact Bool.false_ne_true)
    apply wp_skip
    refine p_norm ?_
    apply wp_seq
    replace hg := bind_some hg; obtain ⟨r12, hr12, hg⟩ := hg
    replace hg := bind_some hg; obtain ⟨r15, hr15, hg⟩ := hg
    replace hg := bind_some hg; obtain ⟨r18, hr18, hg⟩ := hg
    rcases Bool.eq_false_or_eq_true (r18) with hs21 | hs21
    · replace hg := br_t hg hs21
      replace hg := bind_some hg; obtain ⟨r22, hr22, hg⟩ := hg
      apply wp_region_lit
      refine q_seq hS rfl rfl rfl (y_move hS rfl) ?_; clear hS a; intro a hS
      refine q_seq hS rfl rfl rfl (y_move hS rfl) ?_; clear hS a; intro a hS
      refine l_seq rfl (l_call (cap := []) hS rfl Try.func16 rfl (by kernel_rfl) rfl rfl (c_lexicon_Find n _ _ hS.lt e_ (Ap01) (cp01) (hS.fact (k := 101) rfl) words_ (Ap11) (cp11) (hS.fact (k := 102) rfl) r12 hr12) ?_); clear hS a; intro v25 a w hK hp hS
      clear hK
      obtain ⟨Au26a1, cu26a1, rfl, hu26a1⟩ := hp
      replace hS := hS.add 105 (slF (Rep.num .i64) (Au26a1) ((r12).length) (cu26a1) (r12)) hu26a1
      refine q_seq hS rfl rfl rfl (y_move hS rfl) ?_; clear hS a; intro a hS
      refine q_seq hS rfl rfl rfl (y_move hS rfl) ?_; clear hS a; intro a hS
      refine l_seq rfl (l_call (cap := []) hS rfl Try.func17 rfl (by kernel_rfl) rfl rfl (c_r24_Find n _ _ hS.lt e_ (Ap01) (cp01) (hS.fact (k := 101) rfl) words_ (Ap11) (cp11) (hS.fact (k := 102) rfl) r15 hr15) ?_); clear hS a; intro v27 a w hK hp hS
      clear hK
      obtain ⟨Au28a1, cu28a1, rfl, hu28a1⟩ := hp
      replace hS := hS.add 106 (slF (Rep.num .i64) (Au28a1) ((r15).length) (cu28a1) (r15)) hu28a1
      refine l_seq rfl (l_call (cap := []) hS rfl Try.func15 rfl (by kernel_rfl) rfl rfl (c_r24_SameInts n _ _ hS.lt r12 (Au26a1) (cu26a1) (hS.fact (k := 105) rfl) r15 (Au28a1) (cu28a1) (hS.fact (k := 106) rfl) r18 hr18) ?_); clear hS a; intro v29 a w hK hp hS
      clear hK
      obtain rfl := hp.trans (congrArg Value.bool hs21)
      refine q_seq hS rfl rfl rfl (y_move hS rfl) ?_; clear hS a; intro a hS
      refine g_yes hS rfl rfl rfl rfl (l_call (cap := []) hS rfl Try.func11 rfl (by kernel_rfl) rfl rfl (c_law24_exampleHolds n _ _ hS.lt  r22 hr22) ?_); clear hS a; intro v31 a w hK hp hS
      clear hK
      obtain rfl := hp
      refine q_seq hS rfl rfl rfl (y_pick_t hS rfl rfl) ?_; clear hS a; intro a hS
      refine q_seq hS rfl rfl rfl (y_assign hS rfl) ?_; clear hS a; intro a hS
      apply wpList_nil
      refine p_norm ?_
      apply wp_ret
      obtain rfl := Option.some.inj hg
      refine fin1 (fn := Try.f4) hS rfl (r_tmp hS rfl) ?_
      exact rfl
    · replace hg := br_f hg (by rw [hs21]; exact Bool.false_ne_true)
      apply wp_region_lit
      refine q_seq hS rfl rfl rfl (y_move hS rfl) ?_; clear hS a; intro a hS
      refine q_seq hS rfl rfl rfl (y_move hS rfl) ?_; clear hS a; intro a hS
      refine l_seq rfl (l_call (cap := []) hS rfl Try.func16 rfl (by kernel_rfl) rfl rfl (c_lexicon_Find n _ _ hS.lt e_ (Ap01) (cp01) (hS.fact (k := 101) rfl) words_ (Ap11) (cp11) (hS.fact (k := 102) rfl) r12 hr12) ?_); clear hS a; intro v33 a w hK hp hS
      clear hK
      obtain ⟨Au34a1, cu34a1, rfl, hu34a1⟩ := hp
      replace hS := hS.add 107 (slF (Rep.num .i64) (Au34a1) ((r12).length) (cu34a1) (r12)) hu34a1
      refine q_seq hS rfl rfl rfl (y_move hS rfl) ?_; clear hS a; intro a hS
      refine q_seq hS rfl rfl rfl (y_move hS rfl) ?_; clear hS a; intro a hS
      refine l_seq rfl (l_call (cap := []) hS rfl Try.func17 rfl (by kernel_rfl) rfl rfl (c_r24_Find n _ _ hS.lt e_ (Ap01) (cp01) (hS.fact (k := 101) rfl) words_ (Ap11) (cp11) (hS.fact (k := 102) rfl) r15 hr15) ?_); clear hS a; intro v35 a w hK hp hS
      clear hK
      obtain ⟨Au36a1, cu36a1, rfl, hu36a1⟩ := hp
      replace hS := hS.add 108 (slF (Rep.num .i64) (Au36a1) ((r15).length) (cu36a1) (r15)) hu36a1
      refine l_seq rfl (l_call (cap := []) hS rfl Try.func15 rfl (by kernel_rfl) rfl rfl (c_r24_SameInts n _ _ hS.lt r12 (Au34a1) (cu34a1) (hS.fact (k := 107) rfl) r15 (Au36a1) (cu36a1) (hS.fact (k := 108) rfl) r18 hr18) ?_); clear hS a; intro v37 a w hK hp hS
      clear hK
      obtain rfl := hp.trans (congrArg Value.bool hs21)
      refine q_seq hS rfl rfl rfl (y_move hS rfl) ?_; clear hS a; intro a hS
      refine g_no hS rfl rfl rfl rfl rfl rfl rfl ?_; clear hS a; intro a hS
      refine q_seq hS rfl rfl rfl (y_pick_f hS rfl rfl) ?_; clear hS a; intro a hS
      refine q_seq hS rfl rfl rfl (y_assign hS rfl) ?_; clear hS a; intro a hS
      apply wpList_nil
      refine p_norm ?_
      apply wp_ret
      obtain rfl := Option.some.inj hg
      refine fin1 (fn := Try.f4) hS rfl (r_tmp hS rfl) ?_
      exact rfl
set_option maxHeartbeats 400000 in
theorem c_r23_fits (n : Nat) (M : Bs) (w0 : World) (hM : ∀ b, M b → b < w0.heap.size) (kind_ : Int) (part_ : (List UInt8)) (lp11 : (part_).length ≤ 9223372036854775807) (w_ : (List UInt8)) (lp21 : (w_).length ≤ 9223372036854775807) (r : Bool) (hg : r23_fits n kind_ part_ w_ = some r) :
    Calls Try.prog 55 [.int .i64 (kind_), .string (bs (part_)), .string (bs (w_))].toArray w0 (Ret noB w0 fun v w => v = .bool (r)) := by
  unfold r23_fits at hg
  refine enter M noB Try.func55 rfl rfl hM ?_
  intro a hS
  apply wp_seq
  apply wp_region_lit
  refine q_seq hS rfl rfl rfl (y_assign hS rfl) ?_; clear hS a; intro a hS
  apply wpList_nil
  refine p_norm ?_
  apply wp_seq
  apply wp_seq
  apply wp_region_lit
  refine q_seq hS rfl rfl rfl (y_move hS rfl) ?_; clear hS a; intro a hS
  refine q_seq hS rfl rfl rfl (y_lenStrN hS rfl Try.underlying9) ?_; clear hS a; intro a hS
  refine q_seq hS rfl rfl rfl (y_move hS rfl) ?_; clear hS a; intro a hS
  refine q_seq hS rfl rfl rfl (y_lenStrN hS rfl Try.underlying9) ?_; clear hS a; intro a hS
  refine q_seq hS rfl rfl rfl (y_leqN (i := ((w_).length)) (j := ((part_).length)) hS rfl rfl) ?_; clear hS a; intro a hS
  apply wpList_nil
  refine p_norm ?_
  refine c_dec hS rfl (fun hc1 => ?_) (fun hc1 => ?_)
  · replace hg := br_t hg hc1
    apply wp_seq
    apply wp_region_lit
    refine q_seq hS rfl rfl rfl (y_assign hS rfl) ?_; clear hS a; intro a hS
    apply wpList_nil
    refine p_norm ?_
    apply wp_ret
    refine p_thenR ?_
    obtain rfl := Option.some.inj hg
    refine fin1 (fn := Try.f55) hS rfl (r_tmp hS rfl) ?_
    exact rfl
  · replace hg := br_f hg hc1
    apply wp_skip
    refine p_norm ?_
    apply wp_seq
    apply wp_seq
    apply wp_region_lit
    refine q_seq hS rfl rfl rfl (y_move hS rfl) ?_; clear hS a; intro a hS
    refine q_seq hS rfl rfl rfl (y_eql hS rfl rfl) ?_; clear hS a; intro a hS
    apply wpList_nil
    refine p_norm ?_
    refine c_dec hS rfl (fun hc2 => ?_) (fun hc2 => ?_)
    · replace hg := br_t hg hc2
      apply wp_seq
      replace hg := chk_some hg; obtain ⟨hk3, hg⟩ := hg
      apply wp_region_lit
      refine q_seq hS rfl rfl rfl (y_move hS rfl) ?_; clear hS a; intro a hS
      refine q_seq hS rfl rfl rfl (y_move hS rfl) ?_; clear hS a; intro a hS
      refine q_seq hS rfl rfl rfl (y_lenStrN hS rfl Try.underlying9) ?_; clear hS a; intro a hS
      refine q_seq hS rfl rfl rfl (y_strH (i := ((part_).length)) hS rfl rfl Try.underlying9 rfl hk3) ?_; clear hS a; intro a hS
      refine q_seq hS rfl rfl rfl (y_move hS rfl) ?_; clear hS a; intro a hS
      refine q_seq hS rfl rfl rfl (y_seq hS rfl rfl) ?_; clear hS a; intro a hS
      refine q_seq hS rfl rfl rfl (y_assign hS rfl) ?_; clear hS a; intro a hS
      apply wpList_nil
      refine p_norm ?_
      apply wp_ret
      refine p_thenR ?_
      obtain rfl := Option.some.inj hg
      refine fin1 (fn := Try.f55) hS rfl (r_tmp hS rfl) ?_
      exact rfl
    · replace hg := br_f hg hc2
      apply wp_skip
      refine p_norm ?_
      apply wp_seq
      replace hg := chk_some hg; obtain ⟨hk4, hg⟩ := hg
      replace hg := chk_some hg; obtain ⟨hk5, hg⟩ := hg
      apply wp_region_lit
      refine q_seq hS rfl rfl rfl (y_move hS rfl) ?_; clear hS a; intro a hS
      refine q_seq hS rfl rfl rfl (y_move hS rfl) ?_; clear hS a; intro a hS
      refine q_seq hS rfl rfl rfl (y_lenStrN hS rfl Try.underlying9) ?_; clear hS a; intro a hS
      refine q_seq hS rfl rfl rfl (y_move hS rfl) ?_; clear hS a; intro a hS
      refine q_seq hS rfl rfl rfl (y_lenStrN hS rfl Try.underlying9) ?_; clear hS a; intro a hS
      have hmx6 : (w_).length ≤ 9223372036854775807 := (by first | omega | (rw [List.length_append]; omega) | (simp only [List.length_append]; omega) | (simp only [List.length_append, List.length_take, List.length_drop, List.length_cons, List.length_nil]; omega))
      have hmx7 : (part_).length ≤ 9223372036854775807 := (by first | omega | (rw [List.length_append]; omega) | (simp only [List.length_append]; omega) | (simp only [List.length_append, List.length_take, List.length_drop, List.length_cons, List.length_nil]; omega))
      refine q_seq hS rfl rfl rfl (y_sub hS rfl rfl (in64.2 (by omega))) ?_; clear hS a; intro a hS
      refine q_seq hS rfl rfl rfl (y_strL (i := (((((w_).length : Nat) : Int) - (((part_).length : Nat) : Int)).toNat)) hS rfl rfl Try.underlying9 (by omega) hk5) ?_; clear hS a; intro a hS
      refine q_seq hS rfl rfl rfl (y_move hS rfl) ?_; clear hS a; intro a hS
      refine q_seq hS rfl rfl rfl (y_seq hS rfl rfl) ?_; clear hS a; intro a hS
      refine q_seq hS rfl rfl rfl (y_assign hS rfl) ?_; clear hS a; intro a hS
      apply wpList_nil
      refine p_norm ?_
      apply wp_ret
      obtain rfl := Option.some.inj hg
      refine fin1 (fn := Try.f55) hS rfl (r_tmp hS rfl) ?_
      exact rfl
set_option maxHeartbeats 400000 in
theorem c_r23_replaced (n : Nat) (M : Bs) (w0 : World) (hM : ∀ b, M b → b < w0.heap.size) (kind_ : Int) (w_ : (List UInt8)) (lp11 : (w_).length ≤ 9223372036854775807) (from_ : (List UInt8)) (lp21 : (from_).length ≤ 9223372036854775807) (to_ : (List UInt8)) (lp31 : (to_).length ≤ 9223372036854775807) (r : (List UInt8)) (hg : r23_replaced n kind_ w_ from_ to_ = some r) :
    Calls Try.prog 56 [.int .i64 (kind_), .string (bs (w_)), .string (bs (from_)), .string (bs (to_))].toArray w0 (Ret noB w0 fun v w => v = .string (bs (r)) ∧ ((r).length ≤ 9223372036854775807)) := by
  unfold r23_replaced at hg
  refine enter M noB Try.func56 rfl rfl hM ?_
  intro a hS
  apply wp_seq
  apply wp_region_lit
  refine q_seq hS rfl rfl rfl (y_assign hS rfl) ?_; clear hS a; intro a hS
  apply wpList_nil
  refine p_norm ?_
  apply wp_seq
  apply wp_seq
  apply wp_region_lit
  refine q_seq hS rfl rfl rfl (y_move hS rfl) ?_; clear hS a; intro a hS
  refine q_seq hS rfl rfl rfl (y_eql hS rfl rfl) ?_; clear hS a; intro a hS
  apply wpList_nil
  refine p_norm ?_
  refine c_dec hS rfl (fun hc1 => ?_) (fun hc1 => ?_)
  · replace hg := br_t hg hc1
    apply wp_seq
    replace hg := chk_some hg; obtain ⟨hk2, hg⟩ := hg
    replace hg := chk_some hg; obtain ⟨hk3, hg⟩ := hg
    apply wp_region_lit
    refine q_seq hS rfl rfl rfl (y_move hS rfl) ?_; clear hS a; intro a hS
    refine q_seq hS rfl rfl rfl (y_move hS rfl) ?_; clear hS a; intro a hS
    refine q_seq hS rfl rfl rfl (y_move hS rfl) ?_; clear hS a; intro a hS
    refine q_seq hS rfl rfl rfl (y_lenStrN hS rfl Try.underlying9) ?_; clear hS a; intro a hS
    refine q_seq hS rfl rfl rfl (y_strL (i := ((from_).length)) hS rfl rfl Try.underlying9 rfl hk2) ?_; clear hS a; intro a hS
    refine q_seq hS rfl rfl rfl (y_concat hS rfl rfl hk3) ?_; clear hS a; intro a hS
    refine q_seq hS rfl rfl rfl (y_assign hS rfl) ?_; clear hS a; intro a hS
    apply wpList_nil
    refine p_norm ?_
    apply wp_ret
    refine p_thenR ?_
    obtain rfl := Option.some.inj hg
    refine fin1 (fn := Try.f56) hS rfl (r_tmp hS rfl) ?_
    exact ⟨rfl, (by first | omega | (rw [List.length_append]; omega) | (simp only [List.length_append]; omega) | (simp only [List.length_append, List.length_take, List.length_drop, List.length_cons, List.length_nil]; omega))⟩
  · replace hg := br_f hg hc1
    apply wp_skip
    refine p_norm ?_
    apply wp_seq
    replace hg := chk_some hg; obtain ⟨hk4, hg⟩ := hg
    replace hg := chk_some hg; obtain ⟨hk5, hg⟩ := hg
    replace hg := chk_some hg; obtain ⟨hk6, hg⟩ := hg
    apply wp_region_lit
    refine q_seq hS rfl rfl rfl (y_move hS rfl) ?_; clear hS a; intro a hS
    refine q_seq hS rfl rfl rfl (y_move hS rfl) ?_; clear hS a; intro a hS
    refine q_seq hS rfl rfl rfl (y_lenStrN hS rfl Try.underlying9) ?_; clear hS a; intro a hS
    refine q_seq hS rfl rfl rfl (y_move hS rfl) ?_; clear hS a; intro a hS
    refine q_seq hS rfl rfl rfl (y_lenStrN hS rfl Try.underlying9) ?_; clear hS a; intro a hS
    have hmx7 : (w_).length ≤ 9223372036854775807 := (by first | omega | (rw [List.length_append]; omega) | (simp only [List.length_append]; omega) | (simp only [List.length_append, List.length_take, List.length_drop, List.length_cons, List.length_nil]; omega))
    have hmx8 : (from_).length ≤ 9223372036854775807 := (by first | omega | (rw [List.length_append]; omega) | (simp only [List.length_append]; omega) | (simp only [List.length_append, List.length_take, List.length_drop, List.length_cons, List.length_nil]; omega))
    refine q_seq hS rfl rfl rfl (y_sub hS rfl rfl (in64.2 (by omega))) ?_; clear hS a; intro a hS
    refine q_seq hS rfl rfl rfl (y_strH (i := (((((w_).length : Nat) : Int) - (((from_).length : Nat) : Int)).toNat)) hS rfl rfl Try.underlying9 (by omega) hk5) ?_; clear hS a; intro a hS
    refine q_seq hS rfl rfl rfl (y_move hS rfl) ?_; clear hS a; intro a hS
    refine q_seq hS rfl rfl rfl (y_concat hS rfl rfl hk6) ?_; clear hS a; intro a hS
    refine q_seq hS rfl rfl rfl (y_assign hS rfl) ?_; clear hS a; intro a hS
    apply wpList_nil
    refine p_norm ?_
    apply wp_ret
    obtain rfl := Option.some.inj hg
    refine fin1 (fn := Try.f56) hS rfl (r_tmp hS rfl) ?_
    exact ⟨rfl, (by first | omega | (rw [List.length_append]; omega) | (simp only [List.length_append]; omega) | (simp only [List.length_append, List.length_take, List.length_drop, List.length_cons, List.length_nil]; omega))⟩
set_option maxHeartbeats 400000 in
theorem c_r23_Apply (n : Nat) (M : Bs) (w0 : World) (hM : ∀ b, M b → b < w0.heap.size) (a_ : Affix) (Ap02 : Option Addr) (cp02 : Nat) (hp02 : SlR RChange M w0 Ap02 (a_.Pairs).length cp02 (a_.Pairs)) (w_ : (List UInt8)) (lp11 : (w_).length ≤ 9223372036854775807) (r : ((List UInt8) × Bool)) (hg : r23_Apply n a_ w_ = some r) :
    Calls Try.prog 49 [.agg #[.int .i64 (a_.Kind), .slice (Ap02) ((a_.Pairs).length) (cp02)], .string (bs (w_))].toArray w0 (Ret noB w0 fun v w => v = .tuple #[.string (bs (r.1)), .bool (r.2)] ∧ ((r.1).length ≤ 9223372036854775807)) := by
  unfold r23_Apply at hg
  refine enter M noB Try.func49 rfl rfl hM ?_
  intro a hS
  replace hS := hS.add 101 (slF RChange (Ap02) ((a_.Pairs).length) (cp02) (a_.Pairs)) (by exact Fact.change _ enterM hp02)
  apply wp_seq
  apply wp_region_lit
  refine l_seq rfl (l_box (zs := [.int .i64 (a_.Kind), .slice (Ap02) ((a_.Pairs).length) (cp02)]) hS 1000 rfl rfl rfl rfl ?_); clear hS a; intro b2 a w hb hK hS
  clear hb
  clear hK
  refine q_seq hS rfl rfl rfl (y_assign hS rfl) ?_; clear hS a; intro a hS
  refine q_seq hS rfl rfl rfl (y_assign hS rfl) ?_; clear hS a; intro a hS
  apply wpList_nil
  refine p_norm ?_
  apply wp_seq
  apply wp_seq
  apply wp_region_lit
  refine q_seq hS rfl rfl rfl (y_boxField (o' := 0) hS rfl Try.underlying52 rfl rfl rfl) ?_; clear hS a; intro a hS
  refine q_seq hS rfl rfl rfl (y_loadBox1 (kk := 1000) hS rfl rfl rfl Try.underlying3 rfl) ?_; clear hS a; intro a hS
  refine q_seq hS rfl rfl rfl (y_eql hS rfl rfl) ?_; clear hS a; intro a hS
  apply wpList_nil
  refine p_norm ?_
  refine c_dec hS rfl (fun hc3 => ?_) (fun hc3 => ?_)
  · replace hg := br_t hg hc3
    apply wp_seq
    apply wp_region_lit
    refine q_seq hS rfl rfl rfl (y_move hS rfl) ?_; clear hS a; intro a hS
    refine q_seq hS rfl rfl rfl (y_assign hS rfl) ?_; clear hS a; intro a hS
    refine q_seq hS rfl rfl rfl (y_assign hS rfl) ?_; clear hS a; intro a hS
    apply wpList_nil
    refine p_norm ?_
    apply wp_ret
    refine p_thenR ?_
    obtain rfl := Option.some.inj hg
    refine fin2 (fn := Try.f49) hS rfl (r_tmp hS rfl) (r_tmp hS rfl) ?_
    exact ⟨rfl, (by first | omega | (rw [List.length_append]; omega) | (simp only [List.length_append]; omega) | (simp only [List.length_append, List.length_take, List.length_drop, List.length_cons, List.length_nil]; omega))⟩
  · replace hg := br_f hg hc3
    apply wp_skip
    refine p_norm ?_
    apply wp_seq
    apply wp_seq
    apply wp_region_lit
    refine q_seq hS rfl rfl rfl (y_assign hS rfl) ?_; clear hS a; intro a hS
    apply wpList_nil
    refine p_norm ?_
    apply wp_block
    refine c_loop (σ := Nat) (fun m1 a w => ∃ (i_4 : Nat), r23_Apply_L0 n a_ w_ m1 i_4 = some r ∧ St (⟨Try.f49.ntmps, M, noB, w0⟩ : Ctx) [(1, .string (bs (w_))), (2, .pointer (some ⟨b2, 0, none⟩)), (6, .int .i64 (((i_4 : Nat) : Int)))] [(1000, Ob.box b2 [.int .i64 (a_.Kind), .slice (Ap02) ((a_.Pairs).length) (cp02)] 52)] [(101, slF RChange (Ap02) ((a_.Pairs).length) (cp02) (a_.Pairs))] a w) (fun m1 => m1) n ⟨(0), hg, (hS.sub ⟨rfl, rfl, rfl, trivial⟩ ⟨rfl, trivial⟩ ⟨rfl, trivial⟩)⟩ ?_
    clear hS a; rintro m1 a w ⟨i_4, hg, hS⟩
    rcases m1 with _ | m1
    · rw [r23_Apply_L0] at hg; cases hg
    rw [r23_Apply_L0] at hg
    apply wp_seq
    apply wp_seq
    apply wp_region_lit
    refine q_seq hS rfl rfl rfl (y_move hS rfl) ?_; clear hS a; intro a hS
    refine q_seq hS rfl rfl rfl (y_boxField (o' := 1) hS rfl Try.underlying52 rfl rfl rfl) ?_; clear hS a; intro a hS
    refine q_seq hS rfl rfl rfl (y_loadBox1 (kk := 1000) hS rfl rfl rfl Try.underlying50 rfl) ?_; clear hS a; intro a hS
    refine q_seq hS rfl rfl rfl (y_lenSlice hS rfl Try.underlying50) ?_; clear hS a; intro a hS
    refine q_seq hS rfl rfl rfl (y_lssN (i := i_4) (j := ((a_.Pairs).length)) hS rfl rfl) ?_; clear hS a; intro a hS
    apply wpList_nil
    refine p_norm ?_
    refine c_dec hS rfl (fun hc5 => ?_) (fun hc5 => ?_)
    · replace hg := br_t hg hc5
      have hmx6 := SlR.mx (hS.fact (k := 101) rfl)
      apply wp_skip
      refine p_norm ?_
      apply wp_seq
      apply wp_block
      apply wp_seq
      replace hg := bind_some hg; obtain ⟨x8, hx8, hg⟩ := hg
      replace hg := bind_some hg; obtain ⟨r10, hr10, hg⟩ := hg
      refine d_plan hS [] [(0, some 0), (1, some 1000), (2, some 0), (3, some 1000), (4, some 0), (5, some 0), (6, some 0), (7, some 0), (8, some 0), (9, none)] rfl (by kernel_rfl) (by kernel_rfl) rfl ?_; clear hS; intro wr hZ hS; have hR := hS.wd
      refine q_take hS hR rfl rfl rfl rfl (y_boxField (o' := 0) hS rfl Try.underlying52 rfl rfl rfl) ?_; clear hS a; intro a hS
      refine q_take hS hR rfl rfl rfl rfl (y_loadBox1 (kk := 1000) hS rfl rfl rfl Try.underlying3 rfl) ?_; clear hS a; intro a hS
      refine q_take hS hR rfl rfl rfl rfl (y_boxField (o' := 1) hS rfl Try.underlying52 rfl rfl rfl) ?_; clear hS a; intro a hS
      refine q_take hS hR rfl rfl rfl rfl (y_loadBox1 (kk := 1000) hS rfl rfl rfl Try.underlying50 rfl) ?_; clear hS a; intro a hS
      refine q_take hS hR rfl rfl rfl rfl (y_move hS rfl) ?_; clear hS a; intro a hS
      obtain ⟨p13, hep13, hpp13⟩ := SlR.elemX (hS.fact (k := 101) rfl) hx8
      refine q_take hS hR rfl rfl rfl rfl (y_elem (sz := 2) (i := i_4) hS rfl rfl Try.underlying50 rfl hep13 rfl (lt_of_get hx8)) ?_; clear hS a; intro a hS
      refine q_take hS hR rfl rfl rfl rfl (y_ptrField (o' := 0) hS rfl Try.underlying49 rfl rfl rfl) ?_; clear hS a; intro a hS
      obtain ⟨hlq14, hmq14, csq14, hdq14, hcq14⟩ := hpp13
      obtain ⟨rfl, lq141, lq142⟩ := RChange.open hdq14
      refine q_take hS hR rfl rfl rfl rfl (y_ldp1 hS rfl hlq14 hmq14 (hcq14 0 _ rfl) Try.underlying9 rfl) ?_; clear hS a; intro a hS
      refine q_take hS hR rfl rfl rfl rfl (y_move hS rfl) ?_; clear hS a; intro a hS
      refine l_take hS rfl rfl (l_call (cap := []) hS rfl Try.func55 rfl (by kernel_rfl) rfl rfl (c_r23_fits n _ _ hS.lt a_.Kind x8.Old (by first | omega | (rw [List.length_append]; omega) | (simp only [List.length_append]; omega) | (simp only [List.length_append, List.length_take, List.length_drop, List.length_cons, List.length_nil]; omega)) w_ (by first | omega | (rw [List.length_append]; omega) | (simp only [List.length_append]; omega) | (simp only [List.length_append, List.length_take, List.length_drop, List.length_cons, List.length_nil]; omega)) r10 hr10) ?_); clear hS a; intro v15 a w hK hp hS
      replace hZ := Nat.le_trans hZ hK.size; refine ⟨fun g _ h => h.grow hK, ?_⟩; clear hK
      obtain rfl := hp
      clear hR hZ
      refine p_norm ?_
      refine c_cond hS rfl (fun hc17 => ?_) (fun hc17 => ?_)
      · replace hg := br_t hg hc17
        apply wp_seq
        replace hg := bind_some hg; obtain ⟨r22, hr22, hg⟩ := hg
        refine d_plan hS [] [(0, some 0), (1, some 1000), (2, some 0), (3, some 0), (4, some 1000), (5, some 0), (6, some 0), (7, some 0), (8, some 0), (9, some 0), (10, some 1000), (11, some 0), (12, some 0), (13, some 0), (14, some 0), (15, none), (16, none)] rfl (by kernel_rfl) (by kernel_rfl) rfl ?_; clear hS; intro wr hZ hS; have hR := hS.wd
        refine q_take hS hR rfl rfl rfl rfl (y_boxField (o' := 0) hS rfl Try.underlying52 rfl rfl rfl) ?_; clear hS a; intro a hS
        refine q_take hS hR rfl rfl rfl rfl (y_loadBox1 (kk := 1000) hS rfl rfl rfl Try.underlying3 rfl) ?_; clear hS a; intro a hS
        refine q_take hS hR rfl rfl rfl rfl (y_move hS rfl) ?_; clear hS a; intro a hS
        refine q_take hS hR rfl rfl rfl rfl (y_boxField (o' := 1) hS rfl Try.underlying52 rfl rfl rfl) ?_; clear hS a; intro a hS
        refine q_take hS hR rfl rfl rfl rfl (y_loadBox1 (kk := 1000) hS rfl rfl rfl Try.underlying50 rfl) ?_; clear hS a; intro a hS
        refine q_take hS hR rfl rfl rfl rfl (y_move hS rfl) ?_; clear hS a; intro a hS
        obtain ⟨p25, hep25, hpp25⟩ := SlR.elemX (hS.fact (k := 101) rfl) hx8
        refine q_take hS hR rfl rfl rfl rfl (y_elem (sz := 2) (i := i_4) hS rfl rfl Try.underlying50 rfl hep25 rfl (lt_of_get hx8)) ?_; clear hS a; intro a hS
        refine q_take hS hR rfl rfl rfl rfl (y_ptrField (o' := 0) hS rfl Try.underlying49 rfl rfl rfl) ?_; clear hS a; intro a hS
        obtain ⟨hlq26, hmq26, csq26, hdq26, hcq26⟩ := hpp25
        obtain ⟨rfl, lq261, lq262⟩ := RChange.open hdq26
        refine q_take hS hR rfl rfl rfl rfl (y_ldp1 hS rfl hlq26 hmq26 (hcq26 0 _ rfl) Try.underlying9 rfl) ?_; clear hS a; intro a hS
        refine q_take hS hR rfl rfl rfl rfl (y_boxField (o' := 1) hS rfl Try.underlying52 rfl rfl rfl) ?_; clear hS a; intro a hS
        refine q_take hS hR rfl rfl rfl rfl (y_loadBox1 (kk := 1000) hS rfl rfl rfl Try.underlying50 rfl) ?_; clear hS a; intro a hS
        refine q_take hS hR rfl rfl rfl rfl (y_move hS rfl) ?_; clear hS a; intro a hS
        obtain ⟨p27, hep27, hpp27⟩ := SlR.elemX (hS.fact (k := 101) rfl) hx8
        refine q_take hS hR rfl rfl rfl rfl (y_elem (sz := 2) (i := i_4) hS rfl rfl Try.underlying50 rfl hep27 rfl (lt_of_get hx8)) ?_; clear hS a; intro a hS
        refine q_take hS hR rfl rfl rfl rfl (y_ptrField (o' := 1) hS rfl Try.underlying49 rfl rfl rfl) ?_; clear hS a; intro a hS
        obtain ⟨hlq28, hmq28, csq28, hdq28, hcq28⟩ := hpp27
        obtain ⟨rfl, lq281, lq282⟩ := RChange.open hdq28
        refine q_take hS hR rfl rfl rfl rfl (y_ldp1 hS rfl hlq28 hmq28 (hcq28 1 _ rfl) Try.underlying9 rfl) ?_; clear hS a; intro a hS
        refine l_take hS rfl rfl (l_call (cap := []) hS rfl Try.func56 rfl (by kernel_rfl) rfl rfl (c_r23_replaced n _ _ hS.lt a_.Kind w_ (by first | omega | (rw [List.length_append]; omega) | (simp only [List.length_append]; omega) | (simp only [List.length_append, List.length_take, List.length_drop, List.length_cons, List.length_nil]; omega)) x8.Old (by first | omega | (rw [List.length_append]; omega) | (simp only [List.length_append]; omega) | (simp only [List.length_append, List.length_take, List.length_drop, List.length_cons, List.length_nil]; omega)) x8.New (by first | omega | (rw [List.length_append]; omega) | (simp only [List.length_append]; omega) | (simp only [List.length_append, List.length_take, List.length_drop, List.length_cons, List.length_nil]; omega)) r22 hr22) ?_); clear hS a; intro v29 a w hK hp hS
        replace hZ := Nat.le_trans hZ hK.size; refine ⟨fun g _ h => h.grow hK, ?_⟩; clear hK
        obtain ⟨rfl, lu30a1⟩ := hp
        refine l_take hS rfl rfl (l_quiet hS rfl rfl (y_assign hS rfl) ?_); clear hS a; intro a hS; refine ⟨fun g _ h => h, ?_⟩
        clear hR hZ
        refine p_norm ?_
        apply wp_seq
        apply wp_seq
        replace hg := bind_some hg; obtain ⟨r31, hr31, hg⟩ := hg
        apply wp_region_lit
        refine q_seq hS rfl rfl rfl (y_move hS rfl) ?_; clear hS a; intro a hS
        refine l_seq rfl (l_call (cap := []) hS rfl Try.func29 rfl (by kernel_rfl) rfl rfl (c_r01_Word n _ _ hS.lt r22 (by first | omega | (rw [List.length_append]; omega) | (simp only [List.length_append]; omega) | (simp only [List.length_append, List.length_take, List.length_drop, List.length_cons, List.length_nil]; omega)) r31 hr31) ?_); clear hS a; intro v34 a w hK hp hS
        clear hK
        obtain rfl := hp
        refine q_seq hS rfl rfl rfl (y_not hS rfl) ?_; clear hS a; intro a hS
        apply wpList_nil
        refine p_norm ?_
        refine c_cond hS rfl (fun hc36 => ?_) (fun hc36 => ?_)
        · replace hg := br_t hg hc36
          apply wp_seq
          apply wp_region_lit
          refine q_seq hS rfl rfl rfl (y_assign hS rfl) ?_; clear hS a; intro a hS
          refine q_seq hS rfl rfl rfl (y_assign hS rfl) ?_; clear hS a; intro a hS
          apply wpList_nil
          refine p_norm ?_
          apply wp_ret
          refine p_thenR ?_
          refine p_inR ?_
          refine p_thenR ?_
          refine p_thenR ?_
          refine p_inR ?_
          refine p_thenR ?_
          obtain rfl := Option.some.inj hg
          refine fin2 (fn := Try.f49) hS rfl (r_tmp hS rfl) (r_tmp hS rfl) ?_
          exact ⟨rfl, (by first | omega | (rw [List.length_append]; omega) | (simp only [List.length_append]; omega) | (simp only [List.length_append, List.length_take, List.length_drop, List.length_cons, List.length_nil]; omega))⟩
        · replace hg := br_f hg (by rw [hc36]; exact Bool.false_ne_true)
          apply wp_skip
          refine p_norm ?_
          apply wp_seq
          apply wp_region_lit
          refine q_seq hS rfl rfl rfl (y_move hS rfl) ?_; clear hS a; intro a hS
          refine q_seq hS rfl rfl rfl (y_assign hS rfl) ?_; clear hS a; intro a hS
          refine q_seq hS rfl rfl rfl (y_assign hS rfl) ?_; clear hS a; intro a hS
          apply wpList_nil
          refine p_norm ?_
          apply wp_ret
          refine p_inR ?_
          refine p_thenR ?_
          refine p_thenR ?_
          refine p_inR ?_
          refine p_thenR ?_
          obtain rfl := Option.some.inj hg
          refine fin2 (fn := Try.f49) hS rfl (r_tmp hS rfl) (r_tmp hS rfl) ?_
          exact ⟨rfl, (by first | omega | (rw [List.length_append]; omega) | (simp only [List.length_append]; omega) | (simp only [List.length_append, List.length_take, List.length_drop, List.length_cons, List.length_nil]; omega))⟩
      · replace hg := br_f hg (by rw [hc17]; exact Bool.false_ne_true)
        apply wp_skip
        refine p_inN ?_
        refine p_norm ?_
        apply wp_region_lit
        refine q_seq hS rfl rfl rfl (y_move hS rfl) ?_; clear hS a; intro a hS
        refine q_seq hS rfl rfl rfl (y_addN (i := i_4) (j := 1) hS rfl rfl (in64.2 (by omega))) ?_; clear hS a; intro a hS
        refine q_seq hS rfl rfl rfl (y_assign hS rfl) ?_; clear hS a; intro a hS
        apply wpList_nil
        refine p_norm ?_
        exact ⟨m1, Nat.lt_succ_self _, ⟨(i_4 + 1), hg, (hS.sub ⟨rfl, rfl, rfl, trivial⟩ ⟨rfl, trivial⟩ ⟨rfl, trivial⟩)⟩⟩
    · replace hg := br_f hg hc5
      apply wp_exit
      refine p_then ?_
      refine p_then ?_
      refine p_in ?_
      refine p_norm ?_
      apply wp_seq
      apply wp_region_lit
      refine q_seq hS rfl rfl rfl (y_assign hS rfl) ?_; clear hS a; intro a hS
      refine q_seq hS rfl rfl rfl (y_assign hS rfl) ?_; clear hS a; intro a hS
      apply wpList_nil
      refine p_norm ?_
      apply wp_ret
      obtain rfl := Option.some.inj hg
      refine fin2 (fn := Try.f49) hS rfl (r_tmp hS rfl) (r_tmp hS rfl) ?_
      exact ⟨rfl, (by first | omega | (rw [List.length_append]; omega) | (simp only [List.length_append]; omega) | (simp only [List.length_append, List.length_take, List.length_drop, List.length_cons, List.length_nil]; omega))⟩
set_option maxHeartbeats 400000 in
theorem c_r23_Words (n : Nat) (M : Bs) (w0 : World) (hM : ∀ b, M b → b < w0.heap.size) (a_ : Affix) (Ap02 : Option Addr) (cp02 : Nat) (hp02 : SlR RChange M w0 Ap02 (a_.Pairs).length cp02 (a_.Pairs)) (w_ : (List (List UInt8))) (Ap11 : Option Addr) (cp11 : Nat) (hp11 : SlR Rep.str M w0 Ap11 (w_).length cp11 (w_)) (r : ((List (List UInt8)) × Bool)) (hg : r23_Words n a_ w_ = some r) :
    Calls Try.prog 36 [.agg #[.int .i64 (a_.Kind), .slice (Ap02) ((a_.Pairs).length) (cp02)], .slice (Ap11) ((w_).length) (cp11)].toArray w0 (Ret noB w0 fun v w => ∃ (Aa1 : Option Addr), ∃ (ca1 : Nat), v = .tuple #[.slice (Aa1) ((r.1).length) (ca1), .bool (r.2)] ∧ (SlR Rep.str M w Aa1 (r.1).length ca1 (r.1))) := by
  unfold r23_Words at hg
  refine enter M noB Try.func36 rfl rfl hM ?_
  intro a hS
  replace hS := hS.add 101 (slF RChange (Ap02) ((a_.Pairs).length) (cp02) (a_.Pairs)) (by exact Fact.change _ enterM hp02)
  replace hS := hS.add 102 (slF Rep.str (Ap11) ((w_).length) (cp11) (w_)) (by exact Fact.change _ enterM hp11)
  apply wp_seq
  apply wp_region_lit
  refine l_seq rfl (l_box (zs := [.int .i64 (a_.Kind), .slice (Ap02) ((a_.Pairs).length) (cp02)]) hS 1000 rfl rfl rfl rfl ?_); clear hS a; intro b2 a w hb hK hS
  clear hb
  clear hK
  refine q_seq hS rfl rfl rfl (y_assign hS rfl) ?_; clear hS a; intro a hS
  refine q_seq hS rfl rfl rfl (y_assign hS rfl) ?_; clear hS a; intro a hS
  apply wpList_nil
  refine p_norm ?_
  apply wp_seq
  replace hg := chk_some hg; obtain ⟨hk4, hg⟩ := hg
  apply wp_region_lit
  refine l_seq rfl (l_buildEmpty (sz := 1) hS 1100 Try.underlying27 rfl rfl rfl ?_); clear hS a; intro b7 a w hbb7 hK hS
  clear hbb7
  clear hK
  refine q_seq hS rfl rfl rfl (y_move hS rfl) ?_; clear hS a; intro a hS
  replace hS := hS.add 106 (rdF Rep.str ([]) ([])) (RdAll.nil _ _ _)
  obtain ⟨ns9, hs9, hns9⟩ := SlR.src (hS.fact (k := 102) rfl)
  replace hS := hS.add 107 (rdF Rep.str ns9 (w_)) hns9
  refine l_seq rfl (l_append (sz := 1) (by_ := 16) (N := (w_).length) (ys := ns9) hS 1100 rfl rfl rfl Try.underlying27 rfl rfl rfl rfl rfl hs9 (by simp) rfl (by have hr := hk4; clear hg; first | omega | (simp only [List.length_append, List.length_cons, List.length_nil] at hr ⊢; omega) | (simp at hr ⊢; omega)) (by have hr := hk4; clear hg; first | omega | (simp only [List.length_append, List.length_cons, List.length_nil] at hr ⊢; omega) | (simp at hr ⊢; omega)) rfl ?_); clear hS a; intro Aq8 cq8 a w hA hK hS
  clear hK hA
  replace hS := hS.add 108 (rdF Rep.str (ns9) (w_)) (hS.fact (k := 107) rfl)
  refine q_seq hS rfl rfl rfl (y_assign hS rfl) ?_; clear hS a; intro a hS
  apply wpList_nil
  refine p_norm ?_
  apply wp_seq
  apply wp_seq
  apply wp_region_lit
  refine q_seq hS rfl rfl rfl (y_boxField (o' := 0) hS rfl Try.underlying52 rfl rfl rfl) ?_; clear hS a; intro a hS
  refine q_seq hS rfl rfl rfl (y_loadBox1 (kk := 1000) hS rfl rfl rfl Try.underlying3 rfl) ?_; clear hS a; intro a hS
  refine q_seq hS rfl rfl rfl (y_eql hS rfl rfl) ?_; clear hS a; intro a hS
  apply wpList_nil
  refine p_norm ?_
  refine c_dec hS rfl (fun hc10 => ?_) (fun hc10 => ?_)
  · replace hg := br_t hg hc10
    apply wp_seq
    apply wp_region_lit
    refine q_seq hS rfl rfl rfl (y_move hS rfl) ?_; clear hS a; intro a hS
    refine q_seq hS rfl rfl rfl (y_assign hS rfl) ?_; clear hS a; intro a hS
    refine q_seq hS rfl rfl rfl (y_assign hS rfl) ?_; clear hS a; intro a hS
    apply wpList_nil
    refine p_norm ?_
    apply wp_ret
    refine p_thenR ?_
    obtain rfl := Option.some.inj hg
    refine fin2 (fn := Try.f36) hS rfl (r_tmp hS rfl) (r_tmp hS rfl) ?_
    exact ⟨(Aq8), (cq8), rfl, (hS.rowOut (R := Rep.str) (kk := 1100) rfl rfl (hS.fact (k := 108) rfl))⟩
  · replace hg := br_f hg hc10
    apply wp_skip
    refine p_norm ?_
    apply wp_seq
    apply wp_region_lit
    refine q_seq hS rfl rfl rfl (y_assign hS rfl) ?_; clear hS a; intro a hS
    apply wpList_nil
    refine p_norm ?_
    apply wp_seq
    apply wp_seq
    apply wp_region_lit
    refine q_seq hS rfl rfl rfl (y_boxField (o' := 0) hS rfl Try.underlying52 rfl rfl rfl) ?_; clear hS a; intro a hS
    refine q_seq hS rfl rfl rfl (y_loadBox1 (kk := 1000) hS rfl rfl rfl Try.underlying3 rfl) ?_; clear hS a; intro a hS
    refine q_seq hS rfl rfl rfl (y_eql hS rfl rfl) ?_; clear hS a; intro a hS
    apply wpList_nil
    refine p_norm ?_
    replace hg := jn_some hg; obtain ⟨k11, hg, hk11⟩ := hg
    refine c_post (fun a w => ∃ (at_12 : Int), k11 at_12 = some r ∧ St (⟨Try.f36.ntmps, M, noB, w0⟩ : Ctx) [(1, .slice (Ap11) ((w_).length) (cp11)), (2, .pointer (some ⟨b2, 0, none⟩)), (6, .slice (Aq8) ((w_).length) (cq8)), (7, .int .i64 (at_12))] [(1000, Ob.box b2 [.int .i64 (a_.Kind), .slice (Ap02) ((a_.Pairs).length) (cp02)] 52), (1100, Ob.row (Aq8) ((w_).length) (cq8) 9 1 (ns9))] [(101, slF RChange (Ap02) ((a_.Pairs).length) (cp02) (a_.Pairs)), (102, slF Rep.str (Ap11) ((w_).length) (cp11) (w_)), (108, rdF Rep.str (ns9) (w_))] a w) ?_ ?_
    · refine c_dec hS rfl (fun hc13 => ?_) (fun hc13 => ?_)
      · replace hg := br_t hg hc13
        apply wp_region_lit
        refine q_seq hS rfl rfl rfl (y_move hS rfl) ?_; clear hS a; intro a hS
        refine q_seq hS rfl rfl rfl (y_lenSlice hS rfl Try.underlying27) ?_; clear hS a; intro a hS
        have hmx14 := SlR.mx (hS.fact (k := 102) rfl)
        refine q_seq hS rfl rfl rfl (y_sub hS rfl rfl (in64.2 (by omega))) ?_; clear hS a; intro a hS
        refine q_seq hS rfl rfl rfl (y_assign hS rfl) ?_; clear hS a; intro a hS
        apply wpList_nil
        refine p_norm ?_
        exact ⟨((((w_).length : Nat) : Int) - 1), hg, (hS.sub ⟨rfl, rfl, rfl, rfl, trivial⟩ ⟨rfl, rfl, trivial⟩ ⟨rfl, rfl, rfl, trivial⟩)⟩
      · replace hg := br_f hg hc13
        apply wp_skip
        refine p_norm ?_
        exact ⟨(0), hg, (hS.sub ⟨rfl, rfl, rfl, rfl, trivial⟩ ⟨rfl, rfl, trivial⟩ ⟨rfl, rfl, rfl, trivial⟩)⟩
    clear hS a; rintro a w ⟨at_12, hg, hS⟩
    subst hk11
    apply wp_seq
    replace hg := bind_some hg; obtain ⟨x16, hx16, hg⟩ := hg
    replace hg := bind_some hg; obtain ⟨r18, hr18, hg⟩ := hg
    refine d_steps hS [] rfl ?_; clear hS; intro wr hZ hS; have hR := hS.wd
    refine n_q 0 1000 hS hR rfl (by kernel_rfl) (by kernel_rfl) (by kernel_rfl) rfl rfl rfl (y_loadBox (kk := 1000) (n := 2) (vs := [.int .i64 (a_.Kind), .slice (Ap02) ((a_.Pairs).length) (cp02)]) hS rfl rfl Try.underlying52 rfl rfl rfl rfl) ?_; clear hS a; intro a hS
    refine n_q 1 0 hS hR rfl (by kernel_rfl) (by kernel_rfl) (by kernel_rfl) rfl rfl rfl (y_move hS rfl) ?_; clear hS a; intro a hS
    refine n_q 2 0 hS hR rfl (by kernel_rfl) (by kernel_rfl) (by kernel_rfl) rfl rfl rfl (y_move hS rfl) ?_; clear hS a; intro a hS
    obtain ⟨p21, hep21, hpp21⟩ := SlR.elemX (hS.fact (k := 102) rfl) (ix_some hx16).1
    refine n_q 3 0 hS hR rfl (by kernel_rfl) (by kernel_rfl) (by kernel_rfl) rfl rfl rfl (y_elem (sz := 1) (i := ((at_12).toNat)) hS rfl rfl Try.underlying27 rfl hep21 (ix_some hx16).2.1 (lt_of_get (ix_some hx16).1)) ?_; clear hS a; intro a hS
    obtain ⟨hlq22, hmq22, csq22, hdq22, hcq22⟩ := hpp21
    obtain ⟨rfl, lq221⟩ := hdq22
    refine n_q 4 0 hS hR rfl (by kernel_rfl) (by kernel_rfl) (by kernel_rfl) rfl rfl rfl (y_ldp1 hS rfl hlq22 hmq22 (hcq22 0 _ rfl) Try.underlying9 rfl) ?_; clear hS a; intro a hS
    refine n_1 5 hS (by kernel_rfl) rfl rfl (l_call (cap := []) hS rfl Try.func49 rfl (by kernel_rfl) rfl rfl (c_r23_Apply n _ _ hS.lt a_ (Ap02) (cp02) (hS.fact (k := 101) rfl) x16 (by first | omega | (rw [List.length_append]; omega) | (simp only [List.length_append]; omega) | (simp only [List.length_append, List.length_take, List.length_drop, List.length_cons, List.length_nil]; omega)) r18 hr18) ?_); clear hS a; intro v23 a w hK hp hS
    replace hZ := Nat.le_trans hZ hK.size; refine ⟨fun g _ h => h.grow hK, ?_⟩; clear hK
    obtain ⟨rfl, lu24a1⟩ := hp
    refine n_1 6 hS (by kernel_rfl) rfl rfl (l_quiet hS rfl rfl (y_move hS rfl) ?_); clear hS a; intro a hS; refine ⟨fun g _ h => h, ?_⟩
    refine n_2 7 8 hS (by kernel_rfl) rfl rfl rfl rfl ?_ ?_
    · refine l_quiet hS rfl rfl (y_extract hS rfl rfl) ?_; clear hS a; intro a hS; refine ⟨fun g _ h => h, ?_⟩
      refine n_2 8 9 hS (by kernel_rfl) rfl rfl rfl rfl ?_ ?_
      · refine l_quiet hS rfl rfl (y_extract hS rfl rfl) ?_; clear hS a; intro a hS; refine ⟨fun g _ h => h, ?_⟩
        refine n_1 9 hS (by kernel_rfl) rfl rfl (l_quiet hS rfl rfl (y_assign hS rfl) ?_); clear hS a; intro a hS; refine ⟨fun g _ h => h, ?_⟩
        refine n_1 10 hS (by kernel_rfl) rfl rfl (l_quiet hS rfl rfl (y_assign hS rfl) ?_); clear hS a; intro a hS; refine ⟨fun g _ h => h, ?_⟩
        refine n_end (by kernel_rfl) ?_; clear hR hZ
        refine p_norm ?_
        apply wp_seq
        apply wp_seq
        apply wp_region_lit
        refine q_seq hS rfl rfl rfl (y_move hS rfl) ?_; clear hS a; intro a hS
        refine q_seq hS rfl rfl rfl (y_not hS rfl) ?_; clear hS a; intro a hS
        apply wpList_nil
        refine p_norm ?_
        refine c_cond hS rfl (fun hc25 => ?_) (fun hc25 => ?_)
        · replace hg := br_t hg hc25
          apply wp_seq
          apply wp_region_lit
          refine q_seq hS rfl rfl rfl (y_assign hS rfl) ?_; clear hS a; intro a hS
          refine q_seq hS rfl rfl rfl (y_assign hS rfl) ?_; clear hS a; intro a hS
          apply wpList_nil
          refine p_norm ?_
          apply wp_ret
          refine p_thenR ?_
          obtain rfl := Option.some.inj hg
          refine fin2 (fn := Try.f36) hS rfl (r_tmp hS rfl) (r_tmp hS rfl) ?_
          exact ⟨(none), (0), rfl, (SlR.nil_ _ _ _)⟩
        · replace hg := br_f hg (by rw [hc25]; exact Bool.false_ne_true)
          apply wp_skip
          refine p_norm ?_
          apply wp_seq
          apply wp_region_lit
          refine q_seq hS rfl rfl rfl (y_move hS rfl) ?_; clear hS a; intro a hS
          refine q_seq hS rfl rfl rfl (y_move hS rfl) ?_; clear hS a; intro a hS
          refine q_seq hS rfl rfl rfl (y_move hS rfl) ?_; clear hS a; intro a hS
          obtain ⟨hiq27, bq27, hAq27⟩ := SlR.row1 (hS.wd.holds 1100 _ rfl) (hS.fact (k := 108) rfl) rfl rfl (ix_some hx16).1
          refine q_seq hS rfl rfl rfl (y_rowIndex (sz := 1) (i := ((at_12).toNat)) hS rfl rfl Try.underlying27 rfl hAq27 (ix_some hx16).2.1 hiq27) ?_; clear hS a; intro a hS
          have hzi := lt_of_get (ix_some hx16).1
          have hzn := rowN (hS.wd.holds 1100 _ rfl) (hS.fact (k := 108) rfl) rfl rfl
          have hzf : ((at_12).toNat) * 1 + 1 ≤ ((w_).length) * 1 := by have := Nat.mul_le_mul_right 1 (Nat.succ_le_of_lt hzi); omega
          refine l_seq rfl (l_storeRow (N := 1) (cs' := splice (ns9) (((at_12).toNat) * 1) [.string (bs (r18.1))]) hS 1100 rfl rfl rfl hAq27 rfl rfl hzf rfl rfl ?_); clear hS; intro w hK hS; clear hK
          replace hS := hS.sub (l' := [(1, .slice (Ap11) ((w_).length) (cp11)), (2, .pointer (some ⟨b2, 0, none⟩)), (6, .slice (Aq8) ((w_).length) (cq8)), (7, .int .i64 (at_12)), (8, .string (bs (r18.1))), (9, .bool (r18.2)), (23, .tuple #[.string (bs (r18.1)), .bool (r18.2)]), (24, .agg #[.int .i64 (a_.Kind), .slice (Ap02) ((a_.Pairs).length) (cp02)]), (25, .slice (Ap11) ((w_).length) (cp11)), (26, .int .i64 (at_12)), (27, .pointer (some (p21.add 0))), (28, .string (bs (x16))), (29, .tuple #[.string (bs (r18.1)), .bool (r18.2)]), (30, .string (bs (r18.1))), (31, .bool (r18.2)), (32, .bool (r18.2)), (33, .bool (!(r18.2))), (34, .slice (Aq8) ((w_).length) (cq8)), (35, .int .i64 (at_12)), (36, .string (bs (r18.1))), (37, .pointer (some ⟨bq27, ((at_12).toNat) * 1, none⟩))]) (L' := [(1000, Ob.box b2 [.int .i64 (a_.Kind), .slice (Ap02) ((a_.Pairs).length) (cp02)] 52), (1100, Ob.row (Aq8) ((w_).length) (cq8) 9 1 (splice (ns9) (((at_12).toNat) * 1) [.string (bs (r18.1))]))]) (D' := [(101, slF RChange (Ap02) ((a_.Pairs).length) (cp02) (a_.Pairs)), (102, slF Rep.str (Ap11) ((w_).length) (cp11) (w_)), (108, rdF Rep.str (ns9) (w_))]) ⟨rfl, rfl, rfl, rfl, rfl, rfl, rfl, rfl, rfl, rfl, rfl, rfl, rfl, rfl, rfl, rfl, rfl, rfl, rfl, rfl, rfl, trivial⟩ ⟨rfl, rfl, trivial⟩ ⟨rfl, rfl, rfl, trivial⟩
          replace hS := hS.eqs (l' := [(1, .slice (Ap11) ((w_).length) (cp11)), (2, .pointer (some ⟨b2, 0, none⟩)), (6, .slice (Aq8) (((w_).set ((at_12).toNat) r18.1).length) (cq8)), (7, .int .i64 (at_12)), (8, .string (bs (r18.1))), (9, .bool (r18.2)), (23, .tuple #[.string (bs (r18.1)), .bool (r18.2)]), (24, .agg #[.int .i64 (a_.Kind), .slice (Ap02) ((a_.Pairs).length) (cp02)]), (25, .slice (Ap11) ((w_).length) (cp11)), (26, .int .i64 (at_12)), (27, .pointer (some (p21.add 0))), (28, .string (bs (x16))), (29, .tuple #[.string (bs (r18.1)), .bool (r18.2)]), (30, .string (bs (r18.1))), (31, .bool (r18.2)), (32, .bool (r18.2)), (33, .bool (!(r18.2))), (34, .slice (Aq8) (((w_).set ((at_12).toNat) r18.1).length) (cq8)), (35, .int .i64 (at_12)), (36, .string (bs (r18.1))), (37, .pointer (some ⟨bq27, ((at_12).toNat) * 1, none⟩))]) (L' := [(1000, Ob.box b2 [.int .i64 (a_.Kind), .slice (Ap02) ((a_.Pairs).length) (cp02)] 52), (1100, Ob.row (Aq8) (((w_).set ((at_12).toNat) r18.1).length) (cq8) 9 1 (splice (ns9) (((at_12).toNat) * 1) [.string (bs (r18.1))]))]) (by simp only [List.length_set]) (by simp only [List.length_set])
          replace hS := hS.add 110 (rdF Rep.str (splice (ns9) (((at_12).toNat) * 1) [.string (bs (r18.1))]) ((w_).set ((at_12).toNat) r18.1)) (RdAll.put (hS.fact (k := 108) rfl) ⟨rfl, (by first | omega | (rw [List.length_append]; omega) | (simp only [List.length_append]; omega) | (simp only [List.length_append, List.length_take, List.length_drop, List.length_cons, List.length_nil]; omega))⟩ hzi)
          apply wpList_nil
          refine p_norm ?_
          apply wp_seq
          apply wp_region_lit
          refine q_seq hS rfl rfl rfl (y_move hS rfl) ?_; clear hS a; intro a hS
          refine q_seq hS rfl rfl rfl (y_assign hS rfl) ?_; clear hS a; intro a hS
          refine q_seq hS rfl rfl rfl (y_assign hS rfl) ?_; clear hS a; intro a hS
          apply wpList_nil
          refine p_norm ?_
          apply wp_ret
          obtain rfl := Option.some.inj hg
          refine fin2 (fn := Try.f36) hS rfl (r_tmp hS rfl) (r_tmp hS rfl) ?_
          exact ⟨(Aq8), (cq8), rfl, (hS.rowOut (R := Rep.str) (kk := 1100) rfl rfl (hS.fact (k := 110) rfl))⟩
      · refine l_quiet hS rfl rfl (y_assign hS rfl) ?_; clear hS a; intro a hS; refine ⟨fun g _ h => h, ?_⟩
        refine n_1 8 hS (by kernel_rfl) rfl rfl (l_quiet hS rfl rfl (y_extract hS rfl rfl) ?_); clear hS a; intro a hS; refine ⟨fun g _ h => h, ?_⟩
        refine n_1 10 hS (by kernel_rfl) rfl rfl (l_quiet hS rfl rfl (y_assign hS rfl) ?_); clear hS a; intro a hS; refine ⟨fun g _ h => h, ?_⟩
        refine n_end (by kernel_rfl) ?_; clear hR hZ
        refine p_norm ?_
        apply wp_seq
        apply wp_seq
        apply wp_region_lit
        refine q_seq hS rfl rfl rfl (y_move hS rfl) ?_; clear hS a; intro a hS
        refine q_seq hS rfl rfl rfl (y_not hS rfl) ?_; clear hS a; intro a hS
        apply wpList_nil
        refine p_norm ?_
        refine c_cond hS rfl (fun hc28 => ?_) (fun hc28 => ?_)
        · replace hg := br_t hg hc28
          apply wp_seq
          apply wp_region_lit
          refine q_seq hS rfl rfl rfl (y_assign hS rfl) ?_; clear hS a; intro a hS
          refine q_seq hS rfl rfl rfl (y_assign hS rfl) ?_; clear hS a; intro a hS
          apply wpList_nil
          refine p_norm ?_
          apply wp_ret
          refine p_thenR ?_
          obtain rfl := Option.some.inj hg
          refine fin2 (fn := Try.f36) hS rfl (r_tmp hS rfl) (r_tmp hS rfl) ?_
          exact ⟨(none), (0), rfl, (SlR.nil_ _ _ _)⟩
        · replace hg := br_f hg (by rw [hc28]; exact Bool.false_ne_true)
          apply wp_skip
          refine p_norm ?_
          apply wp_seq
          apply wp_region_lit
          refine q_seq hS rfl rfl rfl (y_move hS rfl) ?_; clear hS a; intro a hS
          refine q_seq hS rfl rfl rfl (y_move hS rfl) ?_; clear hS a; intro a hS
          refine q_seq hS rfl rfl rfl (y_move hS rfl) ?_; clear hS a; intro a hS
          obtain ⟨hiq30, bq30, hAq30⟩ := SlR.row1 (hS.wd.holds 1100 _ rfl) (hS.fact (k := 108) rfl) rfl rfl (ix_some hx16).1
          refine q_seq hS rfl rfl rfl (y_rowIndex (sz := 1) (i := ((at_12).toNat)) hS rfl rfl Try.underlying27 rfl hAq30 (ix_some hx16).2.1 hiq30) ?_; clear hS a; intro a hS
          have hzi := lt_of_get (ix_some hx16).1
          have hzn := rowN (hS.wd.holds 1100 _ rfl) (hS.fact (k := 108) rfl) rfl rfl
          have hzf : ((at_12).toNat) * 1 + 1 ≤ ((w_).length) * 1 := by have := Nat.mul_le_mul_right 1 (Nat.succ_le_of_lt hzi); omega
          refine l_seq rfl (l_storeRow (N := 1) (cs' := splice (ns9) (((at_12).toNat) * 1) [.string (bs (r18.1))]) hS 1100 rfl rfl rfl hAq30 rfl rfl hzf rfl rfl ?_); clear hS; intro w hK hS; clear hK
          replace hS := hS.sub (l' := [(1, .slice (Ap11) ((w_).length) (cp11)), (2, .pointer (some ⟨b2, 0, none⟩)), (6, .slice (Aq8) ((w_).length) (cq8)), (7, .int .i64 (at_12)), (8, .string (bs (r18.1))), (9, .bool (r18.2)), (23, .tuple #[.string (bs (r18.1)), .bool (r18.2)]), (24, .agg #[.int .i64 (a_.Kind), .slice (Ap02) ((a_.Pairs).length) (cp02)]), (25, .slice (Ap11) ((w_).length) (cp11)), (26, .int .i64 (at_12)), (27, .pointer (some (p21.add 0))), (28, .string (bs (x16))), (29, .tuple #[.string (bs (r18.1)), .bool (r18.2)]), (30, .string (bs (r18.1))), (31, .bool (r18.2)), (32, .bool (r18.2)), (33, .bool (!(r18.2))), (34, .slice (Aq8) ((w_).length) (cq8)), (35, .int .i64 (at_12)), (36, .string (bs (r18.1))), (37, .pointer (some ⟨bq30, ((at_12).toNat) * 1, none⟩))]) (L' := [(1000, Ob.box b2 [.int .i64 (a_.Kind), .slice (Ap02) ((a_.Pairs).length) (cp02)] 52), (1100, Ob.row (Aq8) ((w_).length) (cq8) 9 1 (splice (ns9) (((at_12).toNat) * 1) [.string (bs (r18.1))]))]) (D' := [(101, slF RChange (Ap02) ((a_.Pairs).length) (cp02) (a_.Pairs)), (102, slF Rep.str (Ap11) ((w_).length) (cp11) (w_)), (108, rdF Rep.str (ns9) (w_))]) ⟨rfl, rfl, rfl, rfl, rfl, rfl, rfl, rfl, rfl, rfl, rfl, rfl, rfl, rfl, rfl, rfl, rfl, rfl, rfl, rfl, rfl, trivial⟩ ⟨rfl, rfl, trivial⟩ ⟨rfl, rfl, rfl, trivial⟩
          replace hS := hS.eqs (l' := [(1, .slice (Ap11) ((w_).length) (cp11)), (2, .pointer (some ⟨b2, 0, none⟩)), (6, .slice (Aq8) (((w_).set ((at_12).toNat) r18.1).length) (cq8)), (7, .int .i64 (at_12)), (8, .string (bs (r18.1))), (9, .bool (r18.2)), (23, .tuple #[.string (bs (r18.1)), .bool (r18.2)]), (24, .agg #[.int .i64 (a_.Kind), .slice (Ap02) ((a_.Pairs).length) (cp02)]), (25, .slice (Ap11) ((w_).length) (cp11)), (26, .int .i64 (at_12)), (27, .pointer (some (p21.add 0))), (28, .string (bs (x16))), (29, .tuple #[.string (bs (r18.1)), .bool (r18.2)]), (30, .string (bs (r18.1))), (31, .bool (r18.2)), (32, .bool (r18.2)), (33, .bool (!(r18.2))), (34, .slice (Aq8) (((w_).set ((at_12).toNat) r18.1).length) (cq8)), (35, .int .i64 (at_12)), (36, .string (bs (r18.1))), (37, .pointer (some ⟨bq30, ((at_12).toNat) * 1, none⟩))]) (L' := [(1000, Ob.box b2 [.int .i64 (a_.Kind), .slice (Ap02) ((a_.Pairs).length) (cp02)] 52), (1100, Ob.row (Aq8) (((w_).set ((at_12).toNat) r18.1).length) (cq8) 9 1 (splice (ns9) (((at_12).toNat) * 1) [.string (bs (r18.1))]))]) (by simp only [List.length_set]) (by simp only [List.length_set])
          replace hS := hS.add 112 (rdF Rep.str (splice (ns9) (((at_12).toNat) * 1) [.string (bs (r18.1))]) ((w_).set ((at_12).toNat) r18.1)) (RdAll.put (hS.fact (k := 108) rfl) ⟨rfl, (by first | omega | (rw [List.length_append]; omega) | (simp only [List.length_append]; omega) | (simp only [List.length_append, List.length_take, List.length_drop, List.length_cons, List.length_nil]; omega))⟩ hzi)
          apply wpList_nil
          refine p_norm ?_
          apply wp_seq
          apply wp_region_lit
          refine q_seq hS rfl rfl rfl (y_move hS rfl) ?_; clear hS a; intro a hS
          refine q_seq hS rfl rfl rfl (y_assign hS rfl) ?_; clear hS a; intro a hS
          refine q_seq hS rfl rfl rfl (y_assign hS rfl) ?_; clear hS a; intro a hS
          apply wpList_nil
          refine p_norm ?_
          apply wp_ret
          obtain rfl := Option.some.inj hg
          refine fin2 (fn := Try.f36) hS rfl (r_tmp hS rfl) (r_tmp hS rfl) ?_
          exact ⟨(Aq8), (cq8), rfl, (hS.rowOut (R := Rep.str) (kk := 1100) rfl rfl (hS.fact (k := 112) rfl))⟩
    · refine l_quiet hS rfl rfl (y_extract hS rfl rfl) ?_; clear hS a; intro a hS; refine ⟨fun g _ h => h, ?_⟩
      refine n_1 7 hS (by kernel_rfl) rfl rfl (l_quiet hS rfl rfl (y_extract hS rfl rfl) ?_); clear hS a; intro a hS; refine ⟨fun g _ h => h, ?_⟩
      refine n_1 9 hS (by kernel_rfl) rfl rfl (l_quiet hS rfl rfl (y_assign hS rfl) ?_); clear hS a; intro a hS; refine ⟨fun g _ h => h, ?_⟩
      refine n_1 10 hS (by kernel_rfl) rfl rfl (l_quiet hS rfl rfl (y_assign hS rfl) ?_); clear hS a; intro a hS; refine ⟨fun g _ h => h, ?_⟩
      refine n_end (by kernel_rfl) ?_; clear hR hZ
      refine p_norm ?_
      apply wp_seq
      apply wp_seq
      apply wp_region_lit
      refine q_seq hS rfl rfl rfl (y_move hS rfl) ?_; clear hS a; intro a hS
      refine q_seq hS rfl rfl rfl (y_not hS rfl) ?_; clear hS a; intro a hS
      apply wpList_nil
      refine p_norm ?_
      refine c_cond hS rfl (fun hc31 => ?_) (fun hc31 => ?_)
      · replace hg := br_t hg hc31
        apply wp_seq
        apply wp_region_lit
        refine q_seq hS rfl rfl rfl (y_assign hS rfl) ?_; clear hS a; intro a hS
        refine q_seq hS rfl rfl rfl (y_assign hS rfl) ?_; clear hS a; intro a hS
        apply wpList_nil
        refine p_norm ?_
        apply wp_ret
        refine p_thenR ?_
        obtain rfl := Option.some.inj hg
        refine fin2 (fn := Try.f36) hS rfl (r_tmp hS rfl) (r_tmp hS rfl) ?_
        exact ⟨(none), (0), rfl, (SlR.nil_ _ _ _)⟩
      · replace hg := br_f hg (by rw [hc31]; exact Bool.false_ne_true)
        apply wp_skip
        refine p_norm ?_
        apply wp_seq
        apply wp_region_lit
        refine q_seq hS rfl rfl rfl (y_move hS rfl) ?_; clear hS a; intro a hS
        refine q_seq hS rfl rfl rfl (y_move hS rfl) ?_; clear hS a; intro a hS
        refine q_seq hS rfl rfl rfl (y_move hS rfl) ?_; clear hS a; intro a hS
        obtain ⟨hiq33, bq33, hAq33⟩ := SlR.row1 (hS.wd.holds 1100 _ rfl) (hS.fact (k := 108) rfl) rfl rfl (ix_some hx16).1
        refine q_seq hS rfl rfl rfl (y_rowIndex (sz := 1) (i := ((at_12).toNat)) hS rfl rfl Try.underlying27 rfl hAq33 (ix_some hx16).2.1 hiq33) ?_; clear hS a; intro a hS
        have hzi := lt_of_get (ix_some hx16).1
        have hzn := rowN (hS.wd.holds 1100 _ rfl) (hS.fact (k := 108) rfl) rfl rfl
        have hzf : ((at_12).toNat) * 1 + 1 ≤ ((w_).length) * 1 := by have := Nat.mul_le_mul_right 1 (Nat.succ_le_of_lt hzi); omega
        refine l_seq rfl (l_storeRow (N := 1) (cs' := splice (ns9) (((at_12).toNat) * 1) [.string (bs (r18.1))]) hS 1100 rfl rfl rfl hAq33 rfl rfl hzf rfl rfl ?_); clear hS; intro w hK hS; clear hK
        replace hS := hS.sub (l' := [(1, .slice (Ap11) ((w_).length) (cp11)), (2, .pointer (some ⟨b2, 0, none⟩)), (6, .slice (Aq8) ((w_).length) (cq8)), (7, .int .i64 (at_12)), (8, .string (bs (r18.1))), (9, .bool (r18.2)), (23, .tuple #[.string (bs (r18.1)), .bool (r18.2)]), (24, .agg #[.int .i64 (a_.Kind), .slice (Ap02) ((a_.Pairs).length) (cp02)]), (25, .slice (Ap11) ((w_).length) (cp11)), (26, .int .i64 (at_12)), (27, .pointer (some (p21.add 0))), (28, .string (bs (x16))), (29, .tuple #[.string (bs (r18.1)), .bool (r18.2)]), (30, .string (bs (r18.1))), (31, .bool (r18.2)), (32, .bool (r18.2)), (33, .bool (!(r18.2))), (34, .slice (Aq8) ((w_).length) (cq8)), (35, .int .i64 (at_12)), (36, .string (bs (r18.1))), (37, .pointer (some ⟨bq33, ((at_12).toNat) * 1, none⟩))]) (L' := [(1000, Ob.box b2 [.int .i64 (a_.Kind), .slice (Ap02) ((a_.Pairs).length) (cp02)] 52), (1100, Ob.row (Aq8) ((w_).length) (cq8) 9 1 (splice (ns9) (((at_12).toNat) * 1) [.string (bs (r18.1))]))]) (D' := [(101, slF RChange (Ap02) ((a_.Pairs).length) (cp02) (a_.Pairs)), (102, slF Rep.str (Ap11) ((w_).length) (cp11) (w_)), (108, rdF Rep.str (ns9) (w_))]) ⟨rfl, rfl, rfl, rfl, rfl, rfl, rfl, rfl, rfl, rfl, rfl, rfl, rfl, rfl, rfl, rfl, rfl, rfl, rfl, rfl, rfl, trivial⟩ ⟨rfl, rfl, trivial⟩ ⟨rfl, rfl, rfl, trivial⟩
        replace hS := hS.eqs (l' := [(1, .slice (Ap11) ((w_).length) (cp11)), (2, .pointer (some ⟨b2, 0, none⟩)), (6, .slice (Aq8) (((w_).set ((at_12).toNat) r18.1).length) (cq8)), (7, .int .i64 (at_12)), (8, .string (bs (r18.1))), (9, .bool (r18.2)), (23, .tuple #[.string (bs (r18.1)), .bool (r18.2)]), (24, .agg #[.int .i64 (a_.Kind), .slice (Ap02) ((a_.Pairs).length) (cp02)]), (25, .slice (Ap11) ((w_).length) (cp11)), (26, .int .i64 (at_12)), (27, .pointer (some (p21.add 0))), (28, .string (bs (x16))), (29, .tuple #[.string (bs (r18.1)), .bool (r18.2)]), (30, .string (bs (r18.1))), (31, .bool (r18.2)), (32, .bool (r18.2)), (33, .bool (!(r18.2))), (34, .slice (Aq8) (((w_).set ((at_12).toNat) r18.1).length) (cq8)), (35, .int .i64 (at_12)), (36, .string (bs (r18.1))), (37, .pointer (some ⟨bq33, ((at_12).toNat) * 1, none⟩))]) (L' := [(1000, Ob.box b2 [.int .i64 (a_.Kind), .slice (Ap02) ((a_.Pairs).length) (cp02)] 52), (1100, Ob.row (Aq8) (((w_).set ((at_12).toNat) r18.1).length) (cq8) 9 1 (splice (ns9) (((at_12).toNat) * 1) [.string (bs (r18.1))]))]) (by simp only [List.length_set]) (by simp only [List.length_set])
        replace hS := hS.add 114 (rdF Rep.str (splice (ns9) (((at_12).toNat) * 1) [.string (bs (r18.1))]) ((w_).set ((at_12).toNat) r18.1)) (RdAll.put (hS.fact (k := 108) rfl) ⟨rfl, (by first | omega | (rw [List.length_append]; omega) | (simp only [List.length_append]; omega) | (simp only [List.length_append, List.length_take, List.length_drop, List.length_cons, List.length_nil]; omega))⟩ hzi)
        apply wpList_nil
        refine p_norm ?_
        apply wp_seq
        apply wp_region_lit
        refine q_seq hS rfl rfl rfl (y_move hS rfl) ?_; clear hS a; intro a hS
        refine q_seq hS rfl rfl rfl (y_assign hS rfl) ?_; clear hS a; intro a hS
        refine q_seq hS rfl rfl rfl (y_assign hS rfl) ?_; clear hS a; intro a hS
        apply wpList_nil
        refine p_norm ?_
        apply wp_ret
        obtain rfl := Option.some.inj hg
        refine fin2 (fn := Try.f36) hS rfl (r_tmp hS rfl) (r_tmp hS rfl) ?_
        exact ⟨(Aq8), (cq8), rfl, (hS.rowOut (R := Rep.str) (kk := 1100) rfl rfl (hS.fact (k := 114) rfl))⟩
set_option maxHeartbeats 400000 in
theorem c_r24_Form (n : Nat) (M : Bs) (w0 : World) (hM : ∀ b, M b → b < w0.heap.size) (t_ : (List Entry)) (Ap01 : Option Addr) (cp01 : Nat) (hp01 : SlR REntry M w0 Ap01 (t_).length cp01 (t_)) (t_' : (List LexRule)) (Ap11 : Option Addr) (cp11 : Nat) (hp11 : SlR RLexRule M w0 Ap11 (t_').length cp11 (t_')) (t_'' : Analysis) (Ap22 : Option Addr) (cp22 : Nat) (hp22 : SlR (Rep.num .i64) M w0 Ap22 (t_''.Rules).length cp22 (t_''.Rules)) (r : ((List (List UInt8)) × Bool)) (hg : r24_Form n t_ t_' t_'' = some r) :
    Calls Try.prog 19 [.slice (Ap01) ((t_).length) (cp01), .slice (Ap11) ((t_').length) (cp11), .agg #[.int .i64 (t_''.Entry), .slice (Ap22) ((t_''.Rules).length) (cp22)]].toArray w0 (Ret noB w0 fun v w => ∃ (Aa1 : Option Addr), ∃ (ca1 : Nat), v = .tuple #[.slice (Aa1) ((r.1).length) (ca1), .bool (r.2)] ∧ (SlR Rep.str M w Aa1 (r.1).length ca1 (r.1))) := by
  unfold r24_Form at hg
  refine enter M noB Try.func19 rfl rfl hM ?_
  intro a hS
  replace hS := hS.add 101 (slF REntry (Ap01) ((t_).length) (cp01) (t_)) (by exact Fact.change _ enterM hp01)
  replace hS := hS.add 102 (slF RLexRule (Ap11) ((t_').length) (cp11) (t_')) (by exact Fact.change _ enterM hp11)
  replace hS := hS.add 103 (slF (Rep.num .i64) (Ap22) ((t_''.Rules).length) (cp22) (t_''.Rules)) (by exact Fact.change _ enterM hp22)
  apply wp_seq
  apply wp_region_lit
  refine l_seq rfl (l_box (zs := [.int .i64 (t_''.Entry), .slice (Ap22) ((t_''.Rules).length) (cp22)]) hS 1000 rfl rfl rfl rfl ?_); clear hS a; intro b2 a w hb hK hS
  clear hb
  clear hK
  refine q_seq hS rfl rfl rfl (y_assign hS rfl) ?_; clear hS a; intro a hS
  refine q_seq hS rfl rfl rfl (y_assign hS rfl) ?_; clear hS a; intro a hS
  apply wpList_nil
  refine p_norm ?_
  apply wp_seq
  apply wp_seq
  replace hg := jn_some hg; obtain ⟨k3, hg, hk3⟩ := hg
  refine c_post (fun a w => ∃ (t_4 : Bool), k3 t_4 = some r ∧ St (⟨Try.f19.ntmps, M, noB, w0⟩ : Ctx) [(0, .slice (Ap01) ((t_).length) (cp01)), (1, .slice (Ap11) ((t_').length) (cp11)), (5, .pointer (some ⟨b2, 0, none⟩)), (28, .bool (t_4))] [(1000, Ob.box b2 [.int .i64 (t_''.Entry), .slice (Ap22) ((t_''.Rules).length) (cp22)] 35)] [(101, slF REntry (Ap01) ((t_).length) (cp01) (t_)), (102, slF RLexRule (Ap11) ((t_').length) (cp11) (t_')), (103, slF (Rep.num .i64) (Ap22) ((t_''.Rules).length) (cp22) (t_''.Rules))] a w) ?_ ?_
  · rcases Decidable.em (t_''.Entry < 0) with hs5 | hs5
    · have hs5e : decide (t_''.Entry < 0) = true := decide_eq_true hs5
      replace hg := br_t hg hs5
      apply wp_region_lit
      refine q_seq hS rfl rfl rfl (y_boxField (o' := 0) hS rfl Try.underlying35 rfl rfl rfl) ?_; clear hS a; intro a hS
      refine q_seq hS rfl rfl rfl (y_loadBox1 (kk := 1000) hS rfl rfl rfl Try.underlying3 rfl) ?_; clear hS a; intro a hS
      refine q_seq hS rfl rfl rfl (yl_b (y_lss hS rfl rfl) hs5e) ?_; clear hS a; intro a hS
      refine q_seq hS rfl rfl rfl (y_move hS rfl) ?_; clear hS a; intro a hS
      refine g_no hS rfl rfl rfl rfl rfl rfl rfl ?_; clear hS a; intro a hS
      refine g_no hS rfl rfl rfl rfl rfl rfl rfl ?_; clear hS a; intro a hS
      refine g_no hS rfl rfl rfl rfl rfl rfl rfl ?_; clear hS a; intro a hS
      refine g_no hS rfl rfl rfl rfl rfl rfl rfl ?_; clear hS a; intro a hS
      refine g_no hS rfl rfl rfl rfl rfl rfl rfl ?_; clear hS a; intro a hS
      refine q_seq hS rfl rfl rfl (y_pick_t hS rfl rfl) ?_; clear hS a; intro a hS
      refine q_seq hS rfl rfl rfl (y_move hS rfl) ?_; clear hS a; intro a hS
      refine g_no hS rfl rfl rfl rfl rfl rfl rfl ?_; clear hS a; intro a hS
      refine g_no hS rfl rfl rfl rfl rfl rfl rfl ?_; clear hS a; intro a hS
      refine g_no hS rfl rfl rfl rfl rfl rfl rfl ?_; clear hS a; intro a hS
      refine g_no hS rfl rfl rfl rfl rfl rfl rfl ?_; clear hS a; intro a hS
      refine q_seq hS rfl rfl rfl (y_pick_t hS rfl rfl) ?_; clear hS a; intro a hS
      apply wpList_nil
      refine p_norm ?_
      exact ⟨(true), hg, (hS.sub ⟨rfl, rfl, rfl, rfl, trivial⟩ ⟨rfl, trivial⟩ ⟨rfl, rfl, rfl, trivial⟩)⟩
    · have hs5e : decide (t_''.Entry < 0) = false := decide_eq_false hs5
      replace hg := br_f hg hs5
      rcases Decidable.em ((((t_).length : Nat) : Int) ≤ t_''.Entry) with hs6 | hs6
      · have hs6e : decide ((((t_).length : Nat) : Int) ≤ t_''.Entry) = true := decide_eq_true hs6
        replace hg := br_t hg hs6
        apply wp_region_lit
        refine q_seq hS rfl rfl rfl (y_boxField (o' := 0) hS rfl Try.underlying35 rfl rfl rfl) ?_; clear hS a; intro a hS
        refine q_seq hS rfl rfl rfl (y_loadBox1 (kk := 1000) hS rfl rfl rfl Try.underlying3 rfl) ?_; clear hS a; intro a hS
        refine q_seq hS rfl rfl rfl (yl_b (y_lss hS rfl rfl) hs5e) ?_; clear hS a; intro a hS
        refine q_seq hS rfl rfl rfl (y_move hS rfl) ?_; clear hS a; intro a hS
        refine g_yes hS rfl rfl rfl rfl (l_quiet hS rfl rfl (y_boxField (o' := 0) hS rfl Try.underlying35 rfl rfl rfl) ?_); clear hS a; intro a hS
        refine g_yes hS rfl rfl rfl rfl (l_quiet hS rfl rfl (y_loadBox1 (kk := 1000) hS rfl rfl rfl Try.underlying3 rfl) ?_); clear hS a; intro a hS
        refine g_yes hS rfl rfl rfl rfl (l_quiet hS rfl rfl (y_move hS rfl) ?_); clear hS a; intro a hS
        refine g_yes hS rfl rfl rfl rfl (l_quiet hS rfl rfl (y_lenSlice hS rfl Try.underlying22) ?_); clear hS a; intro a hS
        refine g_yes hS rfl rfl rfl rfl (l_quiet hS rfl rfl (yl_b (y_geq hS rfl rfl) hs6e) ?_); clear hS a; intro a hS
        refine q_seq hS rfl rfl rfl (y_pick_f hS rfl rfl) ?_; clear hS a; intro a hS
        refine q_seq hS rfl rfl rfl (y_move hS rfl) ?_; clear hS a; intro a hS
        refine g_no hS rfl rfl rfl rfl rfl rfl rfl ?_; clear hS a; intro a hS
        refine g_no hS rfl rfl rfl rfl rfl rfl rfl ?_; clear hS a; intro a hS
        refine g_no hS rfl rfl rfl rfl rfl rfl rfl ?_; clear hS a; intro a hS
        refine g_no hS rfl rfl rfl rfl rfl rfl rfl ?_; clear hS a; intro a hS
        refine q_seq hS rfl rfl rfl (y_pick_t hS rfl rfl) ?_; clear hS a; intro a hS
        apply wpList_nil
        refine p_norm ?_
        exact ⟨(true), hg, (hS.sub ⟨rfl, rfl, rfl, rfl, trivial⟩ ⟨rfl, trivial⟩ ⟨rfl, rfl, rfl, trivial⟩)⟩
      · have hs6e : decide ((((t_).length : Nat) : Int) ≤ t_''.Entry) = false := decide_eq_false hs6
        replace hg := br_f hg hs6
        apply wp_region_lit
        refine q_seq hS rfl rfl rfl (y_boxField (o' := 0) hS rfl Try.underlying35 rfl rfl rfl) ?_; clear hS a; intro a hS
        refine q_seq hS rfl rfl rfl (y_loadBox1 (kk := 1000) hS rfl rfl rfl Try.underlying3 rfl) ?_; clear hS a; intro a hS
        refine q_seq hS rfl rfl rfl (yl_b (y_lss hS rfl rfl) hs5e) ?_; clear hS a; intro a hS
        refine q_seq hS rfl rfl rfl (y_move hS rfl) ?_; clear hS a; intro a hS
        refine g_yes hS rfl rfl rfl rfl (l_quiet hS rfl rfl (y_boxField (o' := 0) hS rfl Try.underlying35 rfl rfl rfl) ?_); clear hS a; intro a hS
        refine g_yes hS rfl rfl rfl rfl (l_quiet hS rfl rfl (y_loadBox1 (kk := 1000) hS rfl rfl rfl Try.underlying3 rfl) ?_); clear hS a; intro a hS
        refine g_yes hS rfl rfl rfl rfl (l_quiet hS rfl rfl (y_move hS rfl) ?_); clear hS a; intro a hS
        refine g_yes hS rfl rfl rfl rfl (l_quiet hS rfl rfl (y_lenSlice hS rfl Try.underlying22) ?_); clear hS a; intro a hS
        refine g_yes hS rfl rfl rfl rfl (l_quiet hS rfl rfl (yl_b (y_geq hS rfl rfl) hs6e) ?_); clear hS a; intro a hS
        refine q_seq hS rfl rfl rfl (y_pick_f hS rfl rfl) ?_; clear hS a; intro a hS
        refine q_seq hS rfl rfl rfl (y_move hS rfl) ?_; clear hS a; intro a hS
        refine g_yes hS rfl rfl rfl rfl (l_quiet hS rfl rfl (y_boxField (o' := 1) hS rfl Try.underlying35 rfl rfl rfl) ?_); clear hS a; intro a hS
        refine g_yes hS rfl rfl rfl rfl (l_quiet hS rfl rfl (y_loadBox1 (kk := 1000) hS rfl rfl rfl Try.underlying30 rfl) ?_); clear hS a; intro a hS
        refine g_yes hS rfl rfl rfl rfl (l_quiet hS rfl rfl (y_lenSlice hS rfl Try.underlying30) ?_); clear hS a; intro a hS
        refine g_yes hS rfl rfl rfl rfl (l_quiet hS rfl rfl (y_gtrN (i := ((t_''.Rules).length)) (j := 2) hS rfl rfl) ?_); clear hS a; intro a hS
        refine q_seq hS rfl rfl rfl (y_pick_f hS rfl rfl) ?_; clear hS a; intro a hS
        apply wpList_nil
        refine p_norm ?_
        exact ⟨(decide ((2 : Nat) < ((t_''.Rules).length))), hg, (hS.sub ⟨rfl, rfl, rfl, rfl, trivial⟩ ⟨rfl, trivial⟩ ⟨rfl, rfl, rfl, trivial⟩)⟩
  clear hS a; rintro a w ⟨t_4, hg, hS⟩
  subst hk3
  refine c_cond hS rfl (fun hc7 => ?_) (fun hc7 => ?_)
  · replace hg := br_t hg hc7
    apply wp_seq
    apply wp_region_lit
    refine q_seq hS rfl rfl rfl (y_assign hS rfl) ?_; clear hS a; intro a hS
    refine q_seq hS rfl rfl rfl (y_assign hS rfl) ?_; clear hS a; intro a hS
    apply wpList_nil
    refine p_norm ?_
    apply wp_ret
    refine p_thenR ?_
    obtain rfl := Option.some.inj hg
    refine fin2 (fn := Try.f19) hS rfl (r_tmp hS rfl) (r_tmp hS rfl) ?_
    exact ⟨(none), (0), rfl, (SlR.nil_ _ _ _)⟩
  · replace hg := br_f hg (by rw [hc7]; exact Bool.false_ne_true)
    apply wp_skip
    refine p_norm ?_
    apply wp_seq
    apply wp_seq
    apply wp_region_lit
    refine q_seq hS rfl rfl rfl (y_assign hS rfl) ?_; clear hS a; intro a hS
    apply wpList_nil
    refine p_norm ?_
    replace hg := jn_some hg; obtain ⟨k8, hg, hk8⟩ := hg
    refine c_post (fun a w => k8 = some r ∧ St (⟨Try.f19.ntmps, M, noB, w0⟩ : Ctx) [(0, .slice (Ap01) ((t_).length) (cp01)), (1, .slice (Ap11) ((t_').length) (cp11)), (5, .pointer (some ⟨b2, 0, none⟩))] [(1000, Ob.box b2 [.int .i64 (t_''.Entry), .slice (Ap22) ((t_''.Rules).length) (cp22)] 35)] [(101, slF REntry (Ap01) ((t_).length) (cp01) (t_)), (102, slF RLexRule (Ap11) ((t_').length) (cp11) (t_')), (103, slF (Rep.num .i64) (Ap22) ((t_''.Rules).length) (cp22) (t_''.Rules))] a w) ?_ ?_
    · apply wp_block
      refine c_loop (σ := Nat) (fun m1 a w => ∃ (t_9 : Nat), r24_Form_L0 n t_' t_'' k8 m1 t_9 = some r ∧ St (⟨Try.f19.ntmps, M, noB, w0⟩ : Ctx) [(0, .slice (Ap01) ((t_).length) (cp01)), (1, .slice (Ap11) ((t_').length) (cp11)), (5, .pointer (some ⟨b2, 0, none⟩)), (8, .int .i64 (((t_9 : Nat) : Int)))] [(1000, Ob.box b2 [.int .i64 (t_''.Entry), .slice (Ap22) ((t_''.Rules).length) (cp22)] 35)] [(101, slF REntry (Ap01) ((t_).length) (cp01) (t_)), (102, slF RLexRule (Ap11) ((t_').length) (cp11) (t_')), (103, slF (Rep.num .i64) (Ap22) ((t_''.Rules).length) (cp22) (t_''.Rules))] a w) (fun m1 => m1) n ⟨(0), hg, (hS.sub ⟨rfl, rfl, rfl, rfl, trivial⟩ ⟨rfl, trivial⟩ ⟨rfl, rfl, rfl, trivial⟩)⟩ ?_
      clear hS a; rintro m1 a w ⟨t_9, hg, hS⟩
      rcases m1 with _ | m1
      · rw [r24_Form_L0] at hg; cases hg
      rw [r24_Form_L0] at hg
      apply wp_seq
      apply wp_seq
      apply wp_region_lit
      refine q_seq hS rfl rfl rfl (y_move hS rfl) ?_; clear hS a; intro a hS
      refine q_seq hS rfl rfl rfl (y_boxField (o' := 1) hS rfl Try.underlying35 rfl rfl rfl) ?_; clear hS a; intro a hS
      refine q_seq hS rfl rfl rfl (y_loadBox1 (kk := 1000) hS rfl rfl rfl Try.underlying30 rfl) ?_; clear hS a; intro a hS
      refine q_seq hS rfl rfl rfl (y_lenSlice hS rfl Try.underlying30) ?_; clear hS a; intro a hS
      refine q_seq hS rfl rfl rfl (y_lssN (i := t_9) (j := ((t_''.Rules).length)) hS rfl rfl) ?_; clear hS a; intro a hS
      apply wpList_nil
      refine p_norm ?_
      refine c_dec hS rfl (fun hc10 => ?_) (fun hc10 => ?_)
      · replace hg := br_t hg hc10
        have hmx11 := SlR.mx (hS.fact (k := 103) rfl)
        apply wp_skip
        refine p_norm ?_
        apply wp_seq
        apply wp_block
        apply wp_seq
        replace hg := jn_some hg; obtain ⟨k12, hg, hk12⟩ := hg
        refine c_post (fun a w => ∃ (t_13 : Bool), k12 t_13 = some r ∧ St (⟨Try.f19.ntmps, M, noB, w0⟩ : Ctx) [(0, .slice (Ap01) ((t_).length) (cp01)), (1, .slice (Ap11) ((t_').length) (cp11)), (5, .pointer (some ⟨b2, 0, none⟩)), (8, .int .i64 (((t_9 : Nat) : Int))), (51, .bool (t_13))] [(1000, Ob.box b2 [.int .i64 (t_''.Entry), .slice (Ap22) ((t_''.Rules).length) (cp22)] 35)] [(101, slF REntry (Ap01) ((t_).length) (cp01) (t_)), (102, slF RLexRule (Ap11) ((t_').length) (cp11) (t_')), (103, slF (Rep.num .i64) (Ap22) ((t_''.Rules).length) (cp22) (t_''.Rules))] a w) ?_ ?_
        · replace hg := bind_some hg; obtain ⟨x15, hx15, hg⟩ := hg
          rcases Decidable.em (x15 < 0) with hs17 | hs17
          · have hs17e : decide (x15 < 0) = true := decide_eq_true hs17
            replace hg := br_t hg hs17
            apply wp_region_lit
            refine q_seq hS rfl rfl rfl (y_boxField (o' := 1) hS rfl Try.underlying35 rfl rfl rfl) ?_; clear hS a; intro a hS
            refine q_seq hS rfl rfl rfl (y_loadBox1 (kk := 1000) hS rfl rfl rfl Try.underlying30 rfl) ?_; clear hS a; intro a hS
            refine q_seq hS rfl rfl rfl (y_move hS rfl) ?_; clear hS a; intro a hS
            obtain ⟨p18, hep18, hpp18⟩ := SlR.elemX (hS.fact (k := 103) rfl) hx15
            refine q_seq hS rfl rfl rfl (y_elem (sz := 1) (i := t_9) hS rfl rfl Try.underlying30 rfl hep18 rfl (lt_of_get hx15)) ?_; clear hS a; intro a hS
            obtain ⟨hlq19, hmq19, csq19, hdq19, hcq19⟩ := hpp18
            obtain rfl := hdq19
            refine q_seq hS rfl rfl rfl (y_ldp1 hS rfl hlq19 hmq19 (hcq19 0 _ rfl) Try.underlying3 rfl) ?_; clear hS a; intro a hS
            refine q_seq hS rfl rfl rfl (yl_b (y_lss hS rfl rfl) hs17e) ?_; clear hS a; intro a hS
            refine q_seq hS rfl rfl rfl (y_move hS rfl) ?_; clear hS a; intro a hS
            refine g_no hS rfl rfl rfl rfl rfl rfl rfl ?_; clear hS a; intro a hS
            refine g_no hS rfl rfl rfl rfl rfl rfl rfl ?_; clear hS a; intro a hS
            refine g_no hS rfl rfl rfl rfl rfl rfl rfl ?_; clear hS a; intro a hS
            refine g_no hS rfl rfl rfl rfl rfl rfl rfl ?_; clear hS a; intro a hS
            refine g_no hS rfl rfl rfl rfl rfl rfl rfl ?_; clear hS a; intro a hS
            refine g_no hS rfl rfl rfl rfl rfl rfl rfl ?_; clear hS a; intro a hS
            refine g_no hS rfl rfl rfl rfl rfl rfl rfl ?_; clear hS a; intro a hS
            refine g_no hS rfl rfl rfl rfl rfl rfl rfl ?_; clear hS a; intro a hS
            refine q_seq hS rfl rfl rfl (y_pick_t hS rfl rfl) ?_; clear hS a; intro a hS
            apply wpList_nil
            refine p_norm ?_
            exact ⟨(true), hg, (hS.sub ⟨rfl, rfl, rfl, rfl, rfl, trivial⟩ ⟨rfl, trivial⟩ ⟨rfl, rfl, rfl, trivial⟩)⟩
          · have hs17e : decide (x15 < 0) = false := decide_eq_false hs17
            replace hg := br_f hg hs17
            apply wp_region_lit
            refine q_seq hS rfl rfl rfl (y_boxField (o' := 1) hS rfl Try.underlying35 rfl rfl rfl) ?_; clear hS a; intro a hS
            refine q_seq hS rfl rfl rfl (y_loadBox1 (kk := 1000) hS rfl rfl rfl Try.underlying30 rfl) ?_; clear hS a; intro a hS
            refine q_seq hS rfl rfl rfl (y_move hS rfl) ?_; clear hS a; intro a hS
            obtain ⟨p22, hep22, hpp22⟩ := SlR.elemX (hS.fact (k := 103) rfl) hx15
            refine q_seq hS rfl rfl rfl (y_elem (sz := 1) (i := t_9) hS rfl rfl Try.underlying30 rfl hep22 rfl (lt_of_get hx15)) ?_; clear hS a; intro a hS
            obtain ⟨hlq23, hmq23, csq23, hdq23, hcq23⟩ := hpp22
            obtain rfl := hdq23
            refine q_seq hS rfl rfl rfl (y_ldp1 hS rfl hlq23 hmq23 (hcq23 0 _ rfl) Try.underlying3 rfl) ?_; clear hS a; intro a hS
            refine q_seq hS rfl rfl rfl (yl_b (y_lss hS rfl rfl) hs17e) ?_; clear hS a; intro a hS
            refine q_seq hS rfl rfl rfl (y_move hS rfl) ?_; clear hS a; intro a hS
            refine g_yes hS rfl rfl rfl rfl (l_quiet hS rfl rfl (y_boxField (o' := 1) hS rfl Try.underlying35 rfl rfl rfl) ?_); clear hS a; intro a hS
            refine g_yes hS rfl rfl rfl rfl (l_quiet hS rfl rfl (y_loadBox1 (kk := 1000) hS rfl rfl rfl Try.underlying30 rfl) ?_); clear hS a; intro a hS
            refine g_yes hS rfl rfl rfl rfl (l_quiet hS rfl rfl (y_move hS rfl) ?_); clear hS a; intro a hS
            obtain ⟨p24, hep24, hpp24⟩ := SlR.elemX (hS.fact (k := 103) rfl) hx15
            refine g_yes hS rfl rfl rfl rfl (l_quiet hS rfl rfl (y_elem (sz := 1) (i := t_9) hS rfl rfl Try.underlying30 rfl hep24 rfl (lt_of_get hx15)) ?_); clear hS a; intro a hS
            obtain ⟨hlq25, hmq25, csq25, hdq25, hcq25⟩ := hpp24
            obtain rfl := hdq25
            refine g_yes hS rfl rfl rfl rfl (l_quiet hS rfl rfl (y_ldp1 hS rfl hlq25 hmq25 (hcq25 0 _ rfl) Try.underlying3 rfl) ?_); clear hS a; intro a hS
            refine g_yes hS rfl rfl rfl rfl (l_quiet hS rfl rfl (y_move hS rfl) ?_); clear hS a; intro a hS
            refine g_yes hS rfl rfl rfl rfl (l_quiet hS rfl rfl (y_lenSlice hS rfl Try.underlying33) ?_); clear hS a; intro a hS
            refine g_yes hS rfl rfl rfl rfl (l_quiet hS rfl rfl (y_geq hS rfl rfl) ?_); clear hS a; intro a hS
            refine q_seq hS rfl rfl rfl (y_pick_f hS rfl rfl) ?_; clear hS a; intro a hS
            apply wpList_nil
            refine p_norm ?_
            exact ⟨(decide ((((t_').length : Nat) : Int) ≤ x15)), hg, (hS.sub ⟨rfl, rfl, rfl, rfl, rfl, trivial⟩ ⟨rfl, trivial⟩ ⟨rfl, rfl, rfl, trivial⟩)⟩
        clear hS a; rintro a w ⟨t_13, hg, hS⟩
        subst hk12
        refine c_cond hS rfl (fun hc26 => ?_) (fun hc26 => ?_)
        · replace hg := br_t hg hc26
          apply wp_seq
          apply wp_region_lit
          refine q_seq hS rfl rfl rfl (y_assign hS rfl) ?_; clear hS a; intro a hS
          refine q_seq hS rfl rfl rfl (y_assign hS rfl) ?_; clear hS a; intro a hS
          apply wpList_nil
          refine p_norm ?_
          apply wp_ret
          refine p_inR ?_
          refine p_thenR ?_
          refine p_thenR ?_
          refine p_inR ?_
          refine p_thenR ?_
          obtain rfl := Option.some.inj hg
          refine fin2 (fn := Try.f19) hS rfl (r_tmp hS rfl) (r_tmp hS rfl) ?_
          exact ⟨(none), (0), rfl, (SlR.nil_ _ _ _)⟩
        · replace hg := br_f hg (by rw [hc26]; exact Bool.false_ne_true)
          apply wp_skip
          refine p_inN ?_
          refine p_norm ?_
          apply wp_region_lit
          refine q_seq hS rfl rfl rfl (y_move hS rfl) ?_; clear hS a; intro a hS
          refine q_seq hS rfl rfl rfl (y_addN (i := t_9) (j := 1) hS rfl rfl (in64.2 (by omega))) ?_; clear hS a; intro a hS
          refine q_seq hS rfl rfl rfl (y_assign hS rfl) ?_; clear hS a; intro a hS
          apply wpList_nil
          refine p_norm ?_
          exact ⟨m1, Nat.lt_succ_self _, ⟨(t_9 + 1), hg, (hS.sub ⟨rfl, rfl, rfl, rfl, trivial⟩ ⟨rfl, trivial⟩ ⟨rfl, rfl, rfl, trivial⟩)⟩⟩
      · replace hg := br_f hg hc10
        apply wp_exit
        refine p_then ?_
        refine p_then ?_
        refine p_in ?_
        refine p_norm ?_
        exact ⟨hg, (hS.sub ⟨rfl, rfl, rfl, trivial⟩ ⟨rfl, trivial⟩ ⟨rfl, rfl, rfl, trivial⟩)⟩
    clear hS a; rintro a w ⟨hg, hS⟩
    subst hk8
    apply wp_seq
    replace hg := bind_some hg; obtain ⟨x29, hx29, hg⟩ := hg
    replace hg := chk_some hg; obtain ⟨hk31, hg⟩ := hg
    apply wp_region_lit
    refine l_seq rfl (l_buildEmpty (sz := 1) hS 1800 Try.underlying27 rfl rfl rfl ?_); clear hS a; intro b34 a w hbb34 hK hS
    clear hbb34
    clear hK
    refine q_seq hS rfl rfl rfl (y_move hS rfl) ?_; clear hS a; intro a hS
    refine q_seq hS rfl rfl rfl (y_boxField (o' := 0) hS rfl Try.underlying35 rfl rfl rfl) ?_; clear hS a; intro a hS
    refine q_seq hS rfl rfl rfl (y_loadBox1 (kk := 1000) hS rfl rfl rfl Try.underlying3 rfl) ?_; clear hS a; intro a hS
    obtain ⟨p35, hep35, hpp35⟩ := SlR.elemX (hS.fact (k := 101) rfl) (ix_some hx29).1
    refine q_seq hS rfl rfl rfl (y_elem (sz := 3) (i := ((t_''.Entry).toNat)) hS rfl rfl Try.underlying22 rfl hep35 (ix_some hx29).2.1 (lt_of_get (ix_some hx29).1)) ?_; clear hS a; intro a hS
    refine q_seq hS rfl rfl rfl (y_ptrField (o' := 1) hS rfl Try.underlying47 rfl rfl rfl) ?_; clear hS a; intro a hS
    obtain ⟨hlq36, hmq36, csq36, hdq36, hcq36⟩ := hpp35
    obtain ⟨Aq362, cq362, Aq363, cq363, rfl, lq361, hq362, hq363⟩ := REntry.open hdq36
    replace hS := hS.add 109 (slF Rep.str (Aq362) ((x29.Words).length) (cq362) (x29.Words)) hq362
    replace hS := hS.add 110 (slF RNode (Aq363) ((x29.FS.Nodes).length) (cq363) (x29.FS.Nodes)) hq363
    refine q_seq hS rfl rfl rfl (y_ldp1 hS rfl hlq36 hmq36 (hcq36 1 _ rfl) Try.underlying27 rfl) ?_; clear hS a; intro a hS
    replace hS := hS.add 111 (rdF Rep.str ([]) ([])) (RdAll.nil _ _ _)
    obtain ⟨ns38, hs38, hns38⟩ := SlR.src (hS.fact (k := 109) rfl)
    replace hS := hS.add 112 (rdF Rep.str ns38 (x29.Words)) hns38
    refine l_seq rfl (l_append (sz := 1) (by_ := 16) (N := (x29.Words).length) (ys := ns38) hS 1800 rfl rfl rfl Try.underlying27 rfl rfl rfl rfl rfl hs38 (by simp) rfl (by have hr := hk31; clear hg; first | omega | (simp only [List.length_append, List.length_cons, List.length_nil] at hr ⊢; omega) | (simp at hr ⊢; omega)) (by have hr := hk31; clear hg; first | omega | (simp only [List.length_append, List.length_cons, List.length_nil] at hr ⊢; omega) | (simp at hr ⊢; omega)) rfl ?_); clear hS a; intro Aq37 cq37 a w hA hK hS
    clear hK hA
    replace hS := hS.add 113 (rdF Rep.str (ns38) (x29.Words)) (hS.fact (k := 112) rfl)
    refine q_seq hS rfl rfl rfl (y_assign hS rfl) ?_; clear hS a; intro a hS
    apply wpList_nil
    refine p_norm ?_
    apply wp_seq
    apply wp_seq
    apply wp_region_lit
    refine q_seq hS rfl rfl rfl (y_assign hS rfl) ?_; clear hS a; intro a hS
    apply wpList_nil
    refine p_norm ?_
    apply wp_block
    replace hS := hS.freeze (R := Rep.str) (kk := 1800) (L' := [(1000, Ob.box b2 [.int .i64 (t_''.Entry), .slice (Ap22) ((t_''.Rules).length) (cp22)] 35)]) 115 rfl rfl (hS.fact (k := 113) rfl) ⟨rfl, trivial⟩ rfl
    replace hS := hS.add 114 (slF Rep.str (Aq37) ((x29.Words).length) (cq37) (x29.Words)) (hS.fact (k := 115) rfl)
    refine c_loop (σ := Nat) (fun m2 a w => ∃ (t_39 : (List (List UInt8))), ∃ (t_42 : Nat), ∃ (A40 : Option Addr), ∃ (c41 : Nat), r24_Form_L1 n t_' t_'' m2 t_39 t_42 = some r ∧ St (⟨Try.f19.ntmps, M, noB, w0⟩ : Ctx) [(1, .slice (Ap11) ((t_').length) (cp11)), (5, .pointer (some ⟨b2, 0, none⟩)), (9, .slice (A40) ((t_39).length) (c41)), (10, .int .i64 (((t_42 : Nat) : Int)))] [(1000, Ob.box b2 [.int .i64 (t_''.Entry), .slice (Ap22) ((t_''.Rules).length) (cp22)] 35)] [(102, slF RLexRule (Ap11) ((t_').length) (cp11) (t_')), (103, slF (Rep.num .i64) (Ap22) ((t_''.Rules).length) (cp22) (t_''.Rules)), (114, slF Rep.str (A40) ((t_39).length) (c41) (t_39))] a w) (fun m2 => m2) n ⟨(x29.Words), (0), (Aq37), (cq37), hg, (hS.sub ⟨rfl, rfl, rfl, rfl, trivial⟩ ⟨rfl, trivial⟩ ⟨rfl, rfl, rfl, trivial⟩)⟩ ?_
    clear hS a; rintro m2 a w ⟨t_39, t_42, A40, c41, hg, hS⟩
    rcases m2 with _ | m2
    · rw [r24_Form_L1] at hg; cases hg
    rw [r24_Form_L1] at hg
    apply wp_seq
    apply wp_seq
    apply wp_region_lit
    refine q_seq hS rfl rfl rfl (y_move hS rfl) ?_; clear hS a; intro a hS
    refine q_seq hS rfl rfl rfl (y_boxField (o' := 1) hS rfl Try.underlying35 rfl rfl rfl) ?_; clear hS a; intro a hS
    refine q_seq hS rfl rfl rfl (y_loadBox1 (kk := 1000) hS rfl rfl rfl Try.underlying30 rfl) ?_; clear hS a; intro a hS
    refine q_seq hS rfl rfl rfl (y_lenSlice hS rfl Try.underlying30) ?_; clear hS a; intro a hS
    refine q_seq hS rfl rfl rfl (y_lssN (i := t_42) (j := ((t_''.Rules).length)) hS rfl rfl) ?_; clear hS a; intro a hS
    apply wpList_nil
    refine p_norm ?_
    refine c_dec hS rfl (fun hc43 => ?_) (fun hc43 => ?_)
    · replace hg := br_t hg hc43
      have hmx44 := SlR.mx (hS.fact (k := 103) rfl)
      apply wp_skip
      refine p_norm ?_
      apply wp_seq
      apply wp_block
      apply wp_seq
      replace hg := bind_some hg; obtain ⟨x46, hx46, hg⟩ := hg
      replace hg := bind_some hg; obtain ⟨x49, hx49, hg⟩ := hg
      replace hg := bind_some hg; obtain ⟨r51, hr51, hg⟩ := hg
      apply wp_region_lit
      refine q_seq hS rfl rfl rfl (y_move hS rfl) ?_; clear hS a; intro a hS
      refine q_seq hS rfl rfl rfl (y_boxField (o' := 1) hS rfl Try.underlying35 rfl rfl rfl) ?_; clear hS a; intro a hS
      refine q_seq hS rfl rfl rfl (y_loadBox1 (kk := 1000) hS rfl rfl rfl Try.underlying30 rfl) ?_; clear hS a; intro a hS
      refine q_seq hS rfl rfl rfl (y_move hS rfl) ?_; clear hS a; intro a hS
      obtain ⟨p54, hep54, hpp54⟩ := SlR.elemX (hS.fact (k := 103) rfl) hx46
      refine q_seq hS rfl rfl rfl (y_elem (sz := 1) (i := t_42) hS rfl rfl Try.underlying30 rfl hep54 rfl (lt_of_get hx46)) ?_; clear hS a; intro a hS
      obtain ⟨hlq55, hmq55, csq55, hdq55, hcq55⟩ := hpp54
      obtain rfl := hdq55
      refine q_seq hS rfl rfl rfl (y_ldp1 hS rfl hlq55 hmq55 (hcq55 0 _ rfl) Try.underlying3 rfl) ?_; clear hS a; intro a hS
      obtain ⟨p56, hep56, hpp56⟩ := SlR.elemX (hS.fact (k := 102) rfl) (ix_some hx49).1
      refine q_seq hS rfl rfl rfl (y_elem (sz := 4) (i := ((x46).toNat)) hS rfl rfl Try.underlying33 rfl hep56 (ix_some hx49).2.1 (lt_of_get (ix_some hx49).1)) ?_; clear hS a; intro a hS
      refine q_seq hS rfl rfl rfl (y_ptrField (o' := 1) hS rfl Try.underlying54 rfl rfl rfl) ?_; clear hS a; intro a hS
      obtain ⟨hlq57, hmq57, csq57, hdq57, hcq57⟩ := hpp56
      obtain ⟨Aq573, cq573, Aq574, cq574, rfl, lq571, hq573, hq574⟩ := RLexRule.open hdq57
      replace hS := hS.add 119 (slF RChange (Aq573) ((x49.Affix.Pairs).length) (cq573) (x49.Affix.Pairs)) hq573
      replace hS := hS.add 120 (slF RNode (Aq574) ((x49.FS.Nodes).length) (cq574) (x49.FS.Nodes)) hq574
      refine q_seq hS rfl rfl rfl (y_ldp (cs := [.int .i64 (x49.Affix.Kind), .slice (Aq573) ((x49.Affix.Pairs).length) (cq573)]) hS rfl hlq57 hmq57 (fun j v hj => hcq57 (1 + j) v (by rcases j with _ | (_ | _) <;> first | exact hj | cases hj)) Try.underlying52 rfl rfl) ?_; clear hS a; intro a hS
      refine q_seq hS rfl rfl rfl (y_move hS rfl) ?_; clear hS a; intro a hS
      refine l_seq rfl (l_call (cap := []) hS rfl Try.func36 rfl (by kernel_rfl) rfl rfl (c_r23_Words n _ _ hS.lt x49.Affix (Aq573) (cq573) (hS.fact (k := 119) rfl) t_39 (A40) (c41) (hS.fact (k := 114) rfl) r51 hr51) ?_); clear hS a; intro v58 a w hK hp hS
      clear hK
      obtain ⟨Au59a1, cu59a1, rfl, hu59a1⟩ := hp
      replace hS := hS.add 121 (slF Rep.str (Au59a1) ((r51.1).length) (cu59a1) (r51.1)) hu59a1
      refine q_seq hS rfl rfl rfl (y_move hS rfl) ?_; clear hS a; intro a hS
      refine q_seq hS rfl rfl rfl (y_extract hS rfl rfl) ?_; clear hS a; intro a hS
      refine q_seq hS rfl rfl rfl (y_extract hS rfl rfl) ?_; clear hS a; intro a hS
      refine q_seq hS rfl rfl rfl (y_assign hS rfl) ?_; clear hS a; intro a hS
      refine q_seq hS rfl rfl rfl (y_assign hS rfl) ?_; clear hS a; intro a hS
      apply wpList_nil
      refine p_norm ?_
      apply wp_seq
      apply wp_seq
      apply wp_region_lit
      refine q_seq hS rfl rfl rfl (y_move hS rfl) ?_; clear hS a; intro a hS
      refine q_seq hS rfl rfl rfl (y_not hS rfl) ?_; clear hS a; intro a hS
      apply wpList_nil
      refine p_norm ?_
      refine c_cond hS rfl (fun hc60 => ?_) (fun hc60 => ?_)
      · replace hg := br_t hg hc60
        apply wp_seq
        apply wp_region_lit
        refine q_seq hS rfl rfl rfl (y_assign hS rfl) ?_; clear hS a; intro a hS
        refine q_seq hS rfl rfl rfl (y_assign hS rfl) ?_; clear hS a; intro a hS
        apply wpList_nil
        refine p_norm ?_
        apply wp_ret
        refine p_thenR ?_
        refine p_inR ?_
        refine p_thenR ?_
        refine p_thenR ?_
        refine p_inR ?_
        refine p_thenR ?_
        obtain rfl := Option.some.inj hg
        refine fin2 (fn := Try.f19) hS rfl (r_tmp hS rfl) (r_tmp hS rfl) ?_
        exact ⟨(none), (0), rfl, (SlR.nil_ _ _ _)⟩
      · replace hg := br_f hg (by rw [hc60]; exact Bool.false_ne_true)
        apply wp_skip
        refine p_norm ?_
        apply wp_region_lit
        refine q_seq hS rfl rfl rfl (y_move hS rfl) ?_; clear hS a; intro a hS
        refine q_seq hS rfl rfl rfl (y_assign hS rfl) ?_; clear hS a; intro a hS
        apply wpList_nil
        refine p_inN ?_
        refine p_norm ?_
        apply wp_region_lit
        refine q_seq hS rfl rfl rfl (y_move hS rfl) ?_; clear hS a; intro a hS
        refine q_seq hS rfl rfl rfl (y_addN (i := t_42) (j := 1) hS rfl rfl (in64.2 (by omega))) ?_; clear hS a; intro a hS
        refine q_seq hS rfl rfl rfl (y_assign hS rfl) ?_; clear hS a; intro a hS
        apply wpList_nil
        refine p_norm ?_
        replace hS := hS.add 114 (slF Rep.str (Au59a1) ((r51.1).length) (cu59a1) (r51.1)) (hS.fact (k := 121) rfl)
        exact ⟨m2, Nat.lt_succ_self _, ⟨(r51.1), (t_42 + 1), (Au59a1), (cu59a1), hg, (hS.sub ⟨rfl, rfl, rfl, rfl, trivial⟩ ⟨rfl, trivial⟩ ⟨rfl, rfl, rfl, trivial⟩)⟩⟩
    · replace hg := br_f hg hc43
      apply wp_exit
      refine p_then ?_
      refine p_then ?_
      refine p_in ?_
      refine p_norm ?_
      apply wp_seq
      apply wp_region_lit
      refine q_seq hS rfl rfl rfl (y_move hS rfl) ?_; clear hS a; intro a hS
      refine q_seq hS rfl rfl rfl (y_assign hS rfl) ?_; clear hS a; intro a hS
      refine q_seq hS rfl rfl rfl (y_assign hS rfl) ?_; clear hS a; intro a hS
      apply wpList_nil
      refine p_norm ?_
      apply wp_ret
      obtain rfl := Option.some.inj hg
      refine fin2 (fn := Try.f19) hS rfl (r_tmp hS rfl) (r_tmp hS rfl) ?_
      exact ⟨(A40), (c41), rfl, (hS.out (k := 114) rfl)⟩
set_option maxHeartbeats 400000 in
theorem c_law24_LexiconForms (n : Nat) (M : Bs) (w0 : World) (hM : ∀ b, M b → b < w0.heap.size) (e_ : (List Entry)) (Ap01 : Option Addr) (cp01 : Nat) (hp01 : SlR REntry M w0 Ap01 (e_).length cp01 (e_)) (r_ : (List LexRule)) (Ap11 : Option Addr) (cp11 : Nat) (hp11 : SlR RLexRule M w0 Ap11 (r_).length cp11 (r_)) (a_ : Analysis) (Ap22 : Option Addr) (cp22 : Nat) (hp22 : SlR (Rep.num .i64) M w0 Ap22 (a_.Rules).length cp22 (a_.Rules)) (r : Bool) (hg : law24_LexiconForms n e_ r_ a_ = some r) :
    Calls Try.prog 5 [.slice (Ap01) ((e_).length) (cp01), .slice (Ap11) ((r_).length) (cp11), .agg #[.int .i64 (a_.Entry), .slice (Ap22) ((a_.Rules).length) (cp22)]].toArray w0 (Ret noB w0 fun v w => v = .bool (r)) := by
  unfold law24_LexiconForms at hg
  refine enter M noB Try.func5 rfl rfl hM ?_
  intro a hS
  replace hS := hS.add 101 (slF REntry (Ap01) ((e_).length) (cp01) (e_)) (by exact Fact.change _ enterM hp01)
  replace hS := hS.add 102 (slF RLexRule (Ap11) ((r_).length) (cp11) (r_)) (by exact Fact.change _ enterM hp11)
  replace hS := hS.add 103 (slF (Rep.num .i64) (Ap22) ((a_.Rules).length) (cp22) (a_.Rules)) (by exact Fact.change _ enterM hp22)
  apply wp_seq
  apply wp_region_lit
  refine l_seq rfl (l_box (zs := [.int .i64 (a_.Entry), .slice (Ap22) ((a_.Rules).length) (cp22)]) hS 1000 rfl rfl rfl rfl ?_); clear hS a; intro b2 a w hb hK hS
  clear hb
  clear hK
  refine q_seq hS rfl rfl rfl (y_assign hS rfl) ?_; clear hS a; intro a hS
  apply wpList_nil
  refine p_norm ?_
  apply wp_seq
  apply wp_seq
  replace hg := jn_some hg; obtain ⟨k3, hg, hk3⟩ := hg
  refine c_post (fun a w => ∃ (t_4 : Bool), k3 t_4 = some r ∧ St (⟨Try.f5.ntmps, M, noB, w0⟩ : Ctx) [(0, .slice (Ap01) ((e_).length) (cp01)), (1, .slice (Ap11) ((r_).length) (cp11)), (5, .pointer (some ⟨b2, 0, none⟩)), (20, .bool (t_4))] [(1000, Ob.box b2 [.int .i64 (a_.Entry), .slice (Ap22) ((a_.Rules).length) (cp22)] 35)] [(101, slF REntry (Ap01) ((e_).length) (cp01) (e_)), (102, slF RLexRule (Ap11) ((r_).length) (cp11) (r_)), (103, slF (Rep.num .i64) (Ap22) ((a_.Rules).length) (cp22) (a_.Rules))] a w) ?_ ?_
  · replace hg := bind_some hg; obtain ⟨r5, hr5, hg⟩ := hg
    rcases Bool.eq_false_or_eq_true (!(r5)) with hs8 | hs8
    · replace hg := br_t hg hs8
      apply wp_region_lit
      refine q_seq hS rfl rfl rfl (y_move hS rfl) ?_; clear hS a; intro a hS
      refine q_seq hS rfl rfl rfl (y_move hS rfl) ?_; clear hS a; intro a hS
      refine l_seq rfl (l_call (cap := []) hS rfl Try.func14 rfl (by kernel_rfl) rfl rfl (c_r24_Light n _ _ hS.lt e_ (Ap01) (cp01) (hS.fact (k := 101) rfl) r_ (Ap11) (cp11) (hS.fact (k := 102) rfl) [] (none) (0) (SlR.nil_ _ _ _) r5 hr5) ?_); clear hS a; intro v9 a w hK hp hS
      clear hK
      obtain rfl := hp
      refine q_seq hS rfl rfl rfl (yl_b (y_not hS rfl) hs8) ?_; clear hS a; intro a hS
      refine q_seq hS rfl rfl rfl (y_move hS rfl) ?_; clear hS a; intro a hS
      refine g_no hS rfl rfl rfl rfl rfl rfl rfl ?_; clear hS a; intro a hS
      refine g_no hS rfl rfl rfl rfl rfl rfl rfl ?_; clear hS a; intro a hS
      refine g_no hS rfl rfl rfl rfl rfl rfl rfl ?_; clear hS a; intro a hS
      refine g_no hS rfl rfl rfl rfl rfl rfl rfl ?_; clear hS a; intro a hS
      refine q_seq hS rfl rfl rfl (y_pick_t hS rfl rfl) ?_; clear hS a; intro a hS
      apply wpList_nil
      refine p_norm ?_
      exact ⟨(true), hg, (hS.sub ⟨rfl, rfl, rfl, rfl, trivial⟩ ⟨rfl, trivial⟩ ⟨rfl, rfl, rfl, trivial⟩)⟩
    · replace hg := br_f hg (by rw [hs8]; exact Bool.false_ne_true)
      apply wp_region_lit
      refine q_seq hS rfl rfl rfl (y_move hS rfl) ?_; clear hS a; intro a hS
      refine q_seq hS rfl rfl rfl (y_move hS rfl) ?_; clear hS a; intro a hS
      refine l_seq rfl (l_call (cap := []) hS rfl Try.func14 rfl (by kernel_rfl) rfl rfl (c_r24_Light n _ _ hS.lt e_ (Ap01) (cp01) (hS.fact (k := 101) rfl) r_ (Ap11) (cp11) (hS.fact (k := 102) rfl) [] (none) (0) (SlR.nil_ _ _ _) r5 hr5) ?_); clear hS a; intro v11 a w hK hp hS
      clear hK
      obtain rfl := hp
      refine q_seq hS rfl rfl rfl (yl_b (y_not hS rfl) hs8) ?_; clear hS a; intro a hS
      refine q_seq hS rfl rfl rfl (y_move hS rfl) ?_; clear hS a; intro a hS
      refine g_yes hS rfl rfl rfl rfl (l_quiet hS rfl rfl (y_boxField (o' := 1) hS rfl Try.underlying35 rfl rfl rfl) ?_); clear hS a; intro a hS
      refine g_yes hS rfl rfl rfl rfl (l_quiet hS rfl rfl (y_loadBox1 (kk := 1000) hS rfl rfl rfl Try.underlying30 rfl) ?_); clear hS a; intro a hS
      refine g_yes hS rfl rfl rfl rfl (l_quiet hS rfl rfl (y_lenSlice hS rfl Try.underlying30) ?_); clear hS a; intro a hS
      refine g_yes hS rfl rfl rfl rfl (l_quiet hS rfl rfl (y_gtrN (i := ((a_.Rules).length)) (j := 6) hS rfl rfl) ?_); clear hS a; intro a hS
      refine q_seq hS rfl rfl rfl (y_pick_f hS rfl rfl) ?_; clear hS a; intro a hS
      apply wpList_nil
      refine p_norm ?_
      exact ⟨(decide ((6 : Nat) < ((a_.Rules).length))), hg, (hS.sub ⟨rfl, rfl, rfl, rfl, trivial⟩ ⟨rfl, trivial⟩ ⟨rfl, rfl, rfl, trivial⟩)⟩
  clear hS a; rintro a w ⟨t_4, hg, hS⟩
  subst hk3
  refine c_cond hS rfl (fun hc13 => ?_) (fun hc13 => ?_)
  · replace hg := br_t hg hc13
    apply wp_seq
    replace hg := bind_some hg; obtain ⟨r14, hr14, hg⟩ := hg
    apply wp_region_lit
    refine l_seq rfl (l_call (cap := []) hS rfl Try.func11 rfl (by kernel_rfl) rfl rfl (c_law24_exampleHolds n _ _ hS.lt  r14 hr14) ?_); clear hS a; intro v17 a w hK hp hS
    clear hK
    obtain rfl := hp
    refine q_seq hS rfl rfl rfl (y_assign hS rfl) ?_; clear hS a; intro a hS
    apply wpList_nil
    refine p_norm ?_
    apply wp_ret
    refine p_thenR ?_
    obtain rfl := Option.some.inj hg
    refine fin1 (fn := Try.f5) hS rfl (r_tmp hS rfl) ?_
    exact rfl
  · replace hg := br_f hg (by rw [hc13]; exact Bool.false_ne_true)
    apply wp_skip
    refine p_norm ?_
    apply wp_seq
    replace hg := bind_some hg; obtain ⟨r19, hr19, hg⟩ := hg
    apply wp_region_lit
    refine q_seq hS rfl rfl rfl (y_move hS rfl) ?_; clear hS a; intro a hS
    refine q_seq hS rfl rfl rfl (y_move hS rfl) ?_; clear hS a; intro a hS
    refine q_seq hS rfl rfl rfl (y_loadBox (kk := 1000) (n := 2) (vs := [.int .i64 (a_.Entry), .slice (Ap22) ((a_.Rules).length) (cp22)]) hS rfl rfl Try.underlying35 rfl rfl rfl rfl) ?_; clear hS a; intro a hS
    refine l_seq rfl (l_call (cap := []) hS rfl Try.func18 rfl (by kernel_rfl) rfl rfl (c_lexicon_Form n _ _ hS.lt e_ (Ap01) (cp01) (hS.fact (k := 101) rfl) r_ (Ap11) (cp11) (hS.fact (k := 102) rfl) a_ (Ap22) (cp22) (hS.fact (k := 103) rfl) r19 hr19) ?_); clear hS a; intro v22 a w hK hp hS
    clear hK
    obtain ⟨Au23a1, cu23a1, rfl, hu23a1⟩ := hp
    replace hS := hS.add 105 (slF Rep.str (Au23a1) ((r19.1).length) (cu23a1) (r19.1)) hu23a1
    refine q_seq hS rfl rfl rfl (y_move hS rfl) ?_; clear hS a; intro a hS
    refine q_seq hS rfl rfl rfl (y_extract hS rfl rfl) ?_; clear hS a; intro a hS
    refine q_seq hS rfl rfl rfl (y_extract hS rfl rfl) ?_; clear hS a; intro a hS
    refine q_seq hS rfl rfl rfl (y_assign hS rfl) ?_; clear hS a; intro a hS
    refine q_seq hS rfl rfl rfl (y_assign hS rfl) ?_; clear hS a; intro a hS
    apply wpList_nil
    refine p_norm ?_
    apply wp_seq
    replace hg := bind_some hg; obtain ⟨r24, hr24, hg⟩ := hg
    apply wp_region_lit
    refine q_seq hS rfl rfl rfl (y_move hS rfl) ?_; clear hS a; intro a hS
    refine q_seq hS rfl rfl rfl (y_move hS rfl) ?_; clear hS a; intro a hS
    refine q_seq hS rfl rfl rfl (y_loadBox (kk := 1000) (n := 2) (vs := [.int .i64 (a_.Entry), .slice (Ap22) ((a_.Rules).length) (cp22)]) hS rfl rfl Try.underlying35 rfl rfl rfl rfl) ?_; clear hS a; intro a hS
    refine l_seq rfl (l_call (cap := []) hS rfl Try.func19 rfl (by kernel_rfl) rfl rfl (c_r24_Form n _ _ hS.lt e_ (Ap01) (cp01) (hS.fact (k := 101) rfl) r_ (Ap11) (cp11) (hS.fact (k := 102) rfl) a_ (Ap22) (cp22) (hS.fact (k := 103) rfl) r24 hr24) ?_); clear hS a; intro v27 a w hK hp hS
    clear hK
    obtain ⟨Au28a1, cu28a1, rfl, hu28a1⟩ := hp
    replace hS := hS.add 107 (slF Rep.str (Au28a1) ((r24.1).length) (cu28a1) (r24.1)) hu28a1
    refine q_seq hS rfl rfl rfl (y_move hS rfl) ?_; clear hS a; intro a hS
    refine q_seq hS rfl rfl rfl (y_extract hS rfl rfl) ?_; clear hS a; intro a hS
    refine q_seq hS rfl rfl rfl (y_extract hS rfl rfl) ?_; clear hS a; intro a hS
    refine q_seq hS rfl rfl rfl (y_assign hS rfl) ?_; clear hS a; intro a hS
    refine q_seq hS rfl rfl rfl (y_assign hS rfl) ?_; clear hS a; intro a hS
    apply wpList_nil
    refine p_norm ?_
    apply wp_seq
    rcases Bool.eq_false_or_eq_true (r19.2 == r24.2) with hs29 | hs29
    · replace hg := br_t hg hs29
      replace hg := bind_some hg; obtain ⟨r30, hr30, hg⟩ := hg
      rcases Bool.eq_false_or_eq_true (r30) with hs33 | hs33
      · replace hg := br_t hg hs33
        replace hg := bind_some hg; obtain ⟨r34, hr34, hg⟩ := hg
        apply wp_region_lit
        refine q_seq hS rfl rfl rfl (y_move hS rfl) ?_; clear hS a; intro a hS
        refine q_seq hS rfl rfl rfl (y_move hS rfl) ?_; clear hS a; intro a hS
        refine q_seq hS rfl rfl rfl (yl_b (y_beq hS rfl rfl Try.underlying4) hs29) ?_; clear hS a; intro a hS
        refine q_seq hS rfl rfl rfl (y_move hS rfl) ?_; clear hS a; intro a hS
        refine g_yes hS rfl rfl rfl rfl (l_quiet hS rfl rfl (y_move hS rfl) ?_); clear hS a; intro a hS
        refine g_yes hS rfl rfl rfl rfl (l_quiet hS rfl rfl (y_move hS rfl) ?_); clear hS a; intro a hS
        refine g_yes hS rfl rfl rfl rfl (l_call (cap := []) hS rfl Try.func20 rfl (by kernel_rfl) rfl rfl (c_r01_Same n _ _ hS.lt r19.1 (Au23a1) (cu23a1) (hS.fact (k := 105) rfl) r24.1 (Au28a1) (cu28a1) (hS.fact (k := 107) rfl) r30 hr30) ?_); clear hS a; intro v37 a w hK hp hS
        clear hK
        obtain rfl := hp.trans (congrArg Value.bool hs33)
        refine q_seq hS rfl rfl rfl (y_pick_t hS rfl rfl) ?_; clear hS a; intro a hS
        refine q_seq hS rfl rfl rfl (y_move hS rfl) ?_; clear hS a; intro a hS
        refine g_yes hS rfl rfl rfl rfl (l_call (cap := []) hS rfl Try.func11 rfl (by kernel_rfl) rfl rfl (c_law24_exampleHolds n _ _ hS.lt  r34 hr34) ?_); clear hS a; intro v39 a w hK hp hS
        clear hK
        obtain rfl := hp
        refine q_seq hS rfl rfl rfl (y_pick_t hS rfl rfl) ?_; clear hS a; intro a hS
        refine q_seq hS rfl rfl rfl (y_assign hS rfl) ?_; clear hS a; intro a hS
        apply wpList_nil
        refine p_norm ?_
        apply wp_ret
        obtain rfl := Option.some.inj hg
        refine fin1 (fn := Try.f5) hS rfl (r_tmp hS rfl) ?_
        exact rfl
      · replace hg := br_f hg (by rw [hs33]; exact Bool.false_ne_true)
        apply wp_region_lit
        refine q_seq hS rfl rfl rfl (y_move hS rfl) ?_; clear hS a; intro a hS
        refine q_seq hS rfl rfl rfl (y_move hS rfl) ?_; clear hS a; intro a hS
        refine q_seq hS rfl rfl rfl (yl_b (y_beq hS rfl rfl Try.underlying4) hs29) ?_; clear hS a; intro a hS
        refine q_seq hS rfl rfl rfl (y_move hS rfl) ?_; clear hS a; intro a hS
        refine g_yes hS rfl rfl rfl rfl (l_quiet hS rfl rfl (y_move hS rfl) ?_); clear hS a; intro a hS
        refine g_yes hS rfl rfl rfl rfl (l_quiet hS rfl rfl (y_move hS rfl) ?_); clear hS a; intro a hS
        refine g_yes hS rfl rfl rfl rfl (l_call (cap := []) hS rfl Try.func20 rfl (by kernel_rfl) rfl rfl (c_r01_Same n _ _ hS.lt r19.1 (Au23a1) (cu23a1) (hS.fact (k := 105) rfl) r24.1 (Au28a1) (cu28a1) (hS.fact (k := 107) rfl) r30 hr30) ?_); clear hS a; intro v41 a w hK hp hS
        clear hK
        obtain rfl := hp.trans (congrArg Value.bool hs33)
        refine q_seq hS rfl rfl rfl (y_pick_t hS rfl rfl) ?_; clear hS a; intro a hS
        refine q_seq hS rfl rfl rfl (y_move hS rfl) ?_; clear hS a; intro a hS
        refine g_no hS rfl rfl rfl rfl rfl rfl rfl ?_; clear hS a; intro a hS
        refine q_seq hS rfl rfl rfl (y_pick_f hS rfl rfl) ?_; clear hS a; intro a hS
        refine q_seq hS rfl rfl rfl (y_assign hS rfl) ?_; clear hS a; intro a hS
        apply wpList_nil
        refine p_norm ?_
        apply wp_ret
        obtain rfl := Option.some.inj hg
        refine fin1 (fn := Try.f5) hS rfl (r_tmp hS rfl) ?_
        exact rfl
    · replace hg := br_f hg (by rw [hs29]; exact Bool.false_ne_true)
      apply wp_region_lit
      refine q_seq hS rfl rfl rfl (y_move hS rfl) ?_; clear hS a; intro a hS
      refine q_seq hS rfl rfl rfl (y_move hS rfl) ?_; clear hS a; intro a hS
      refine q_seq hS rfl rfl rfl (yl_b (y_beq hS rfl rfl Try.underlying4) hs29) ?_; clear hS a; intro a hS
      refine q_seq hS rfl rfl rfl (y_move hS rfl) ?_; clear hS a; intro a hS
      refine g_no hS rfl rfl rfl rfl rfl rfl rfl ?_; clear hS a; intro a hS
      refine g_no hS rfl rfl rfl rfl rfl rfl rfl ?_; clear hS a; intro a hS
      refine g_no hS rfl rfl rfl rfl rfl rfl rfl ?_; clear hS a; intro a hS
      refine q_seq hS rfl rfl rfl (y_pick_f hS rfl rfl) ?_; clear hS a; intro a hS
      refine q_seq hS rfl rfl rfl (y_move hS rfl) ?_; clear hS a; intro a hS
      refine g_no hS rfl rfl rfl rfl rfl rfl rfl ?_; clear hS a; intro a hS
      refine q_seq hS rfl rfl rfl (y_pick_f hS rfl rfl) ?_; clear hS a; intro a hS
      refine q_seq hS rfl rfl rfl (y_assign hS rfl) ?_; clear hS a; intro a hS
      apply wpList_nil
      refine p_norm ?_
      apply wp_ret
      obtain rfl := Option.some.inj hg
      refine fin1 (fn := Try.f5) hS rfl (r_tmp hS rfl) ?_
      exact rfl
set_option maxHeartbeats 400000 in
theorem c_r24_chains (n : Nat) (M : Bs) (w0 : World) (hM : ∀ b, M b → b < w0.heap.size) (r_ : Int) (n_ : Int) (r : (List (List Int))) (hg : r24_chains n r_ n_ = some r) :
    Calls Try.prog 39 [.int .i64 (r_), .int .i64 (n_)].toArray w0 (Ret noB w0 fun v w => ∃ (Aa1 : Option Addr), ∃ (ca1 : Nat), v = .slice (Aa1) ((r).length) (ca1) ∧ (SlR (Rep.list (Rep.num .i64)) M w Aa1 (r).length ca1 (r))) := by
  unfold r24_chains at hg
  refine enter M noB Try.func39 rfl rfl hM ?_
  intro a hS
  apply wp_seq
  apply wp_region_lit
  refine q_seq hS rfl rfl rfl (y_assign hS rfl) ?_; clear hS a; intro a hS
  apply wpList_nil
  refine p_norm ?_
  apply wp_seq
  apply wp_region_lit
  refine l_seq rfl (l_buildEmpty (sz := 1) hS 1100 Try.underlying30 rfl rfl rfl ?_); clear hS a; intro b3 a w hbb3 hK hS
  clear hbb3
  clear hK
  replace hS := hS.add 103 (rdF (Rep.num .i64) ([]) ([])) (RdAll.nil _ _ _)
  replace hS := hS.freeze (R := (Rep.num .i64)) (kk := 1100) (L' := []) 104 rfl rfl (hS.fact (k := 103) rfl) trivial rfl
  refine l_seq rfl (l_buildDense (sz := 1) hS 1101 rfl rfl rfl Try.underlying62 rfl rfl rfl rfl rfl rfl rfl ?_); clear hS a; intro b4 a w hbb4 hK hS
  clear hbb4
  clear hK
  refine q_seq hS rfl rfl rfl (y_assign hS rfl) ?_; clear hS a; intro a hS
  apply wpList_nil
  refine p_norm ?_
  apply wp_seq
  apply wp_block
  replace hS := hS.add 107 (rdF (Rep.list (Rep.num .i64)) (cellsOfL [.slice (some ⟨b3, 0, none⟩) (0) (0)]) ([[]])) (RdAll.cons (by exact ⟨_, _, _, rfl, (hS.fact (k := 104) rfl)⟩) (RdAll.nil _ _ _))
  replace hS := hS.add 106 (rdF (Rep.list (Rep.num .i64)) (cellsOfL [.slice (some ⟨b3, 0, none⟩) (0) (0)]) ([[]])) (hS.fact (k := 107) rfl)
  replace hS := hS.ren [(700105, Ob.row (some ⟨b4, 0, none⟩) (1) (1) 30 1 (cellsOfL [.slice (some ⟨b3, 0, none⟩) (0) (0)]))] [1101] ⟨rfl, trivial⟩ (by decide)
  refine c_loop (σ := Nat) (fun m1 a w => ∃ (n_5 : Int), ∃ (out_6 : (List (List Int))), ∃ (A7 : Option Addr), ∃ (c8 : Nat), ∃ (cs9 : List Value), r24_chains_L0 n r_ m1 n_5 out_6 = some r ∧ St (⟨Try.f39.ntmps, M, noB, w0⟩ : Ctx) [(0, .int .i64 (r_)), (1, .int .i64 (n_5)), (5, .slice (A7) ((out_6).length) (c8))] [(700105, Ob.row (A7) ((out_6).length) (c8) 30 1 (cs9))] [(106, rdF (Rep.list (Rep.num .i64)) (cs9) (out_6))] a w) (fun m1 => m1) n ⟨(n_), ([[]]), (some ⟨b4, 0, none⟩), (1), (cellsOfL [.slice (some ⟨b3, 0, none⟩) (0) (0)]), hg, (hS.sub ⟨rfl, rfl, rfl, trivial⟩ ⟨rfl, trivial⟩ ⟨rfl, trivial⟩)⟩ ?_
  clear hS a; rintro m1 a w ⟨n_5, out_6, A7, c8, cs9, hg, hS⟩
  rcases m1 with _ | m1
  · rw [r24_chains_L0] at hg; cases hg
  rw [r24_chains_L0] at hg
  apply wp_seq
  apply wp_seq
  apply wp_region_lit
  refine q_seq hS rfl rfl rfl (y_move hS rfl) ?_; clear hS a; intro a hS
  refine q_seq hS rfl rfl rfl (y_gtr hS rfl rfl) ?_; clear hS a; intro a hS
  apply wpList_nil
  refine p_norm ?_
  refine c_dec hS rfl (fun hc10 => ?_) (fun hc10 => ?_)
  · replace hg := br_t hg hc10
    apply wp_skip
    refine p_norm ?_
    apply wp_seq
    apply wp_block
    apply wp_seq
    apply wp_region_lit
    refine q_seq hS rfl rfl rfl (y_assign hS rfl) ?_; clear hS a; intro a hS
    apply wpList_nil
    refine p_norm ?_
    apply wp_seq
    apply wp_seq
    apply wp_region_lit
    refine q_seq hS rfl rfl rfl (y_assign hS rfl) ?_; clear hS a; intro a hS
    apply wpList_nil
    refine p_norm ?_
    replace hg := jn_some hg; obtain ⟨k11, hg, hk11⟩ := hg
    refine c_post (fun a w => ∃ (next_12 : (List (List Int))), ∃ (A13 : Option Addr), ∃ (c14 : Nat), ∃ (cs15 : List Value), k11 next_12 = some r ∧ St (⟨Try.f39.ntmps, M, noB, w0⟩ : Ctx) [(0, .int .i64 (r_)), (1, .int .i64 (n_5)), (6, .slice (A13) ((next_12).length) (c14))] [(700108, Ob.row (A13) ((next_12).length) (c14) 30 1 (cs15))] [(109, rdF (Rep.list (Rep.num .i64)) (cs15) (next_12))] a w) ?_ ?_
    · apply wp_block
      replace hS := hS.nilRow 700110 30 1 rfl
      replace hS := hS.add 111 (rdF (Rep.list (Rep.num .i64)) [] []) (RdAll.nil _ _ _)
      refine c_loop (σ := Nat) (fun m2 a w => ∃ (next_16 : (List (List Int))), ∃ (i_20 : Nat), ∃ (A17 : Option Addr), ∃ (c18 : Nat), ∃ (cs19 : List Value), r24_chains_L1 n r_ out_6 k11 m2 next_16 i_20 = some r ∧ St (⟨Try.f39.ntmps, M, noB, w0⟩ : Ctx) [(0, .int .i64 (r_)), (1, .int .i64 (n_5)), (5, .slice (A7) ((out_6).length) (c8)), (6, .slice (A17) ((next_16).length) (c18)), (7, .int .i64 (((i_20 : Nat) : Int)))] [(700105, Ob.row (A7) ((out_6).length) (c8) 30 1 (cs9)), (700110, Ob.row (A17) ((next_16).length) (c18) 30 1 (cs19))] [(106, rdF (Rep.list (Rep.num .i64)) (cs9) (out_6)), (111, rdF (Rep.list (Rep.num .i64)) (cs19) (next_16))] a w) (fun m2 => m2) n ⟨([]), (0), (none), (0), ([]), hg, (hS.sub ⟨rfl, rfl, rfl, rfl, rfl, trivial⟩ ⟨rfl, rfl, trivial⟩ ⟨rfl, rfl, trivial⟩)⟩ ?_
      clear hS a; rintro m2 a w ⟨next_16, i_20, A17, c18, cs19, hg, hS⟩
      rcases m2 with _ | m2
      · rw [r24_chains_L1] at hg; cases hg
      rw [r24_chains_L1] at hg
      apply wp_seq
      apply wp_seq
      apply wp_region_lit
      refine q_seq hS rfl rfl rfl (y_move hS rfl) ?_; clear hS a; intro a hS
      refine q_seq hS rfl rfl rfl (y_move hS rfl) ?_; clear hS a; intro a hS
      refine q_seq hS rfl rfl rfl (y_lenSlice hS rfl Try.underlying62) ?_; clear hS a; intro a hS
      refine q_seq hS rfl rfl rfl (y_lssN (i := i_20) (j := ((out_6).length)) hS rfl rfl) ?_; clear hS a; intro a hS
      apply wpList_nil
      refine p_norm ?_
      refine c_dec hS rfl (fun hc21 => ?_) (fun hc21 => ?_)
      · replace hg := br_t hg hc21
        have hmx22 := row_mx (hS.wd.holds 700105 _ rfl)
        apply wp_skip
        refine p_norm ?_
        apply wp_seq
        replace hg := jn_some hg; obtain ⟨k23, hg, hk23⟩ := hg
        refine c_post (fun a w => ∃ (next_24 : (List (List Int))), ∃ (A25 : Option Addr), ∃ (c26 : Nat), ∃ (cs27 : List Value), k23 next_24 = some r ∧ St (⟨Try.f39.ntmps, M, noB, w0⟩ : Ctx) [(0, .int .i64 (r_)), (1, .int .i64 (n_5)), (5, .slice (A7) ((out_6).length) (c8)), (6, .slice (A25) ((next_24).length) (c26)), (7, .int .i64 (((i_20 : Nat) : Int)))] [(700105, Ob.row (A7) ((out_6).length) (c8) 30 1 (cs9)), (700112, Ob.row (A25) ((next_24).length) (c26) 30 1 (cs27))] [(106, rdF (Rep.list (Rep.num .i64)) (cs9) (out_6)), (113, rdF (Rep.list (Rep.num .i64)) (cs27) (next_24))] a w) ?_ ?_
        · apply wp_block
          apply wp_seq
          apply wp_region_lit
          refine q_seq hS rfl rfl rfl (y_assign hS rfl) ?_; clear hS a; intro a hS
          apply wpList_nil
          refine p_norm ?_
          apply wp_block
          replace hS := hS.add 115 (rdF (Rep.list (Rep.num .i64)) (cs19) (next_16)) (hS.fact (k := 111) rfl)
          replace hS := hS.ren [(700105, Ob.row (A7) ((out_6).length) (c8) 30 1 (cs9)), (700114, Ob.row (A17) ((next_16).length) (c18) 30 1 (cs19))] [700105, 700110] ⟨rfl, rfl, trivial⟩ (by decide)
          refine c_loop (σ := Nat) (fun m3 a w => ∃ (next_28 : (List (List Int))), ∃ (k_32 : Nat), ∃ (A29 : Option Addr), ∃ (c30 : Nat), ∃ (cs31 : List Value), r24_chains_L2 n r_ out_6 i_20 k23 m3 next_28 k_32 = some r ∧ St (⟨Try.f39.ntmps, M, noB, w0⟩ : Ctx) [(0, .int .i64 (r_)), (1, .int .i64 (n_5)), (5, .slice (A7) ((out_6).length) (c8)), (6, .slice (A29) ((next_28).length) (c30)), (7, .int .i64 (((i_20 : Nat) : Int))), (8, .int .i64 (((k_32 : Nat) : Int)))] [(700105, Ob.row (A7) ((out_6).length) (c8) 30 1 (cs9)), (700114, Ob.row (A29) ((next_28).length) (c30) 30 1 (cs31))] [(106, rdF (Rep.list (Rep.num .i64)) (cs9) (out_6)), (115, rdF (Rep.list (Rep.num .i64)) (cs31) (next_28))] a w) (fun m3 => m3) n ⟨(next_16), (0), (A17), (c18), (cs19), hg, (hS.sub ⟨rfl, rfl, rfl, rfl, rfl, rfl, trivial⟩ ⟨rfl, rfl, trivial⟩ ⟨rfl, rfl, trivial⟩)⟩ ?_
          clear hS a; rintro m3 a w ⟨next_28, k_32, A29, c30, cs31, hg, hS⟩
          rcases m3 with _ | m3
          · rw [r24_chains_L2] at hg; cases hg
          rw [r24_chains_L2] at hg
          apply wp_seq
          apply wp_seq
          apply wp_region_lit
          refine q_seq hS rfl rfl rfl (y_move hS rfl) ?_; clear hS a; intro a hS
          refine q_seq hS rfl rfl rfl (y_move hS rfl) ?_; clear hS a; intro a hS
          refine q_seq hS rfl rfl rfl (y_lss hS rfl rfl) ?_; clear hS a; intro a hS
          apply wpList_nil
          refine p_norm ?_
          refine c_dec hS rfl (fun hc33 => ?_) (fun hc33 => ?_)
          · replace hg := br_t hg hc33
            apply wp_skip
            refine p_norm ?_
            apply wp_seq
            apply wp_block
            replace hg := bind_some hg; obtain ⟨x36, hx36, hg⟩ := hg
            replace hg := chk_some hg; obtain ⟨hk38, hg⟩ := hg
            replace hg := chk_some hg; obtain ⟨hk42, hg⟩ := hg
            replace hg := chk_some hg; obtain ⟨hk46, hg⟩ := hg
            apply wp_region_lit
            refine q_seq hS rfl rfl rfl (y_move hS rfl) ?_; clear hS a; intro a hS
            refine l_seq rfl (l_buildEmpty (sz := 1) hS 2101 Try.underlying30 rfl rfl rfl ?_); clear hS a; intro b49 a w hbb49 hK hS
            clear hbb49
            clear hK
            refine q_seq hS rfl rfl rfl (y_move hS rfl) ?_; clear hS a; intro a hS
            refine q_seq hS rfl rfl rfl (y_move hS rfl) ?_; clear hS a; intro a hS
            obtain ⟨hiq50, bq50, hAq50⟩ := SlR.row1 (hS.wd.holds 700105 _ rfl) (hS.fact (k := 106) rfl) rfl rfl hx36
            refine q_seq hS rfl rfl rfl (y_rowIndex (sz := 1) (i := i_20) hS rfl rfl Try.underlying62 rfl hAq50 rfl hiq50) ?_; clear hS a; intro a hS
            have hz51 := (hS.fact (k := 106) rfl).at_ _ _ hx36
            obtain ⟨Az511, nnz51, cz511, ez51, hz511⟩ := hz51
            obtain rfl := hz511.len
            replace hS := hS.add 125 (slF (Rep.num .i64) (Az511) ((x36).length) (cz511) (x36)) hz511
            refine q_seq hS rfl rfl rfl (y_loadRow1 (kk := 700105) hS rfl rfl hAq50 (take1 ez51) Try.underlying30 rfl) ?_; clear hS a; intro a hS
            replace hS := hS.add 126 (rdF (Rep.num .i64) ([]) ([])) (RdAll.nil _ _ _)
            obtain ⟨ns53, hs53, hns53⟩ := SlR.src (hS.fact (k := 125) rfl)
            replace hS := hS.add 127 (rdF (Rep.num .i64) ns53 (x36)) hns53
            refine l_seq rfl (l_append (sz := 1) (by_ := 8) (N := (x36).length) (ys := ns53) hS 2101 rfl rfl rfl Try.underlying30 rfl rfl rfl rfl rfl hs53 (by simp) rfl (by have hr := hk38; clear hg; first | omega | (simp only [List.length_append, List.length_cons, List.length_nil] at hr ⊢; omega) | (simp at hr ⊢; omega)) (by have hr := hk38; clear hg; first | omega | (simp only [List.length_append, List.length_cons, List.length_nil] at hr ⊢; omega) | (simp at hr ⊢; omega)) rfl ?_); clear hS a; intro Aq52 cq52 a w hA hK hS
            clear hK hA
            replace hS := hS.add 128 (rdF (Rep.num .i64) (ns53) (x36)) (hS.fact (k := 127) rfl)
            refine q_seq hS rfl rfl rfl (y_move hS rfl) ?_; clear hS a; intro a hS
            refine l_seq rfl (l_buildDense (sz := 1) hS 2108 rfl rfl rfl Try.underlying30 rfl rfl rfl rfl rfl rfl rfl ?_); clear hS a; intro b54 a w hbb54 hK hS
            clear hbb54
            clear hK
            replace hS := hS.add 129 (rdF (Rep.num .i64) (cellsOfL [.int .i64 (((k_32 : Nat) : Int))]) ([((k_32 : Nat) : Int)])) (RdAll.cons (by exact rfl) (RdAll.nil _ _ _))
            have hs56 := row_src (hS.wd.holds 2108 _ rfl) (RdAll.one (hS.fact (k := 129) rfl))
            refine l_seq rfl (l_append (sz := 1) (by_ := 8) (N := (x36 ++ [((k_32 : Nat) : Int)]).length) (ys := ns53 ++ (cellsOfL [.int .i64 (((k_32 : Nat) : Int))])) hS 2101 rfl rfl rfl Try.underlying30 rfl rfl rfl rfl rfl hs56 (by simp) rfl (by have hr := hk42; clear hg; first | omega | (simp only [List.length_append, List.length_cons, List.length_nil] at hr ⊢; omega) | (simp at hr ⊢; omega)) (by have hr := hk42; clear hg; first | omega | (simp only [List.length_append, List.length_cons, List.length_nil] at hr ⊢; omega) | (simp at hr ⊢; omega)) rfl ?_); clear hS a; intro Aq55 cq55 a w hA hK hS
            clear hK hA
            replace hS := hS.add 130 (rdF (Rep.num .i64) (ns53 ++ (cellsOfL [.int .i64 (((k_32 : Nat) : Int))])) (x36 ++ [((k_32 : Nat) : Int)])) (RdAll.append (hS.fact (k := 128) rfl) (hS.fact (k := 129) rfl))
            replace hS := hS.freeze (R := (Rep.num .i64)) (kk := 2101) (L' := [(2108, Ob.row (some ⟨b54, 0, none⟩) (1) (1) 3 1 (cellsOfL [.int .i64 (((k_32 : Nat) : Int))])), (700105, Ob.row (A7) ((out_6).length) (c8) 30 1 (cs9)), (700114, Ob.row (A29) ((next_28).length) (c30) 30 1 (cs31))]) 131 rfl rfl (hS.fact (k := 130) rfl) ⟨rfl, rfl, rfl, trivial⟩ rfl
            refine l_seq rfl (l_buildDense (sz := 1) hS 2110 rfl rfl rfl Try.underlying62 rfl rfl rfl rfl rfl rfl rfl ?_); clear hS a; intro b57 a w hbb57 hK hS
            clear hbb57
            clear hK
            replace hS := hS.add 132 (rdF (Rep.list (Rep.num .i64)) (cellsOfL [.slice (Aq55) ((x36 ++ [((k_32 : Nat) : Int)]).length) (cq55)]) ([x36 ++ [((k_32 : Nat) : Int)]])) (RdAll.cons (by exact ⟨_, _, _, rfl, (hS.fact (k := 131) rfl)⟩) (RdAll.nil _ _ _))
            have hs59 := row_src (hS.wd.holds 2110 _ rfl) (RdAll.one (hS.fact (k := 132) rfl))
            refine l_seq rfl (l_append (sz := 1) (by_ := 24) (N := (next_28 ++ [x36 ++ [((k_32 : Nat) : Int)]]).length) (ys := cs31 ++ (cellsOfL [.slice (Aq55) ((x36 ++ [((k_32 : Nat) : Int)]).length) (cq55)])) hS 700114 rfl rfl rfl Try.underlying62 rfl rfl rfl rfl rfl hs59 (by simp) rfl (by have hr := hk46; clear hg; first | omega | (simp only [List.length_append, List.length_cons, List.length_nil] at hr ⊢; omega) | (simp at hr ⊢; omega)) (by have hr := hk46; clear hg; first | omega | (simp only [List.length_append, List.length_cons, List.length_nil] at hr ⊢; omega) | (simp at hr ⊢; omega)) rfl ?_); clear hS a; intro Aq58 cq58 a w hA hK hS
            clear hK hA
            replace hS := hS.add 133 (rdF (Rep.list (Rep.num .i64)) (cs31 ++ (cellsOfL [.slice (Aq55) ((x36 ++ [((k_32 : Nat) : Int)]).length) (cq55)])) (next_28 ++ [x36 ++ [((k_32 : Nat) : Int)]])) (RdAll.append (hS.fact (k := 115) rfl) (hS.fact (k := 132) rfl))
            refine q_seq hS rfl rfl rfl (y_assign hS rfl) ?_; clear hS a; intro a hS
            apply wpList_nil
            refine p_inN ?_
            refine p_norm ?_
            replace hg := chk_some hg; obtain ⟨hk60, hg⟩ := hg
            apply wp_region_lit
            refine q_seq hS rfl rfl rfl (y_move hS rfl) ?_; clear hS a; intro a hS
            refine q_seq hS rfl rfl rfl (y_addN (i := k_32) (j := 1) hS rfl rfl (in64.2 (by omega))) ?_; clear hS a; intro a hS
            refine q_seq hS rfl rfl rfl (y_assign hS rfl) ?_; clear hS a; intro a hS
            apply wpList_nil
            refine p_norm ?_
            replace hS := hS.add 115 (rdF (Rep.list (Rep.num .i64)) (cs31 ++ (cellsOfL [.slice (Aq55) ((x36 ++ [((k_32 : Nat) : Int)]).length) (cq55)])) (next_28 ++ [x36 ++ [((k_32 : Nat) : Int)]])) (hS.fact (k := 133) rfl)
            exact ⟨m3, Nat.lt_succ_self _, ⟨(next_28 ++ [x36 ++ [((k_32 : Nat) : Int)]]), (k_32 + 1), (Aq58), (cq58), (cs31 ++ (cellsOfL [.slice (Aq55) ((x36 ++ [((k_32 : Nat) : Int)]).length) (cq55)])), hg, (hS.sub ⟨rfl, rfl, rfl, rfl, rfl, rfl, trivial⟩ ⟨rfl, rfl, trivial⟩ ⟨rfl, rfl, trivial⟩)⟩⟩
          · replace hg := br_f hg hc33
            apply wp_exit
            refine p_then ?_
            refine p_then ?_
            refine p_in ?_
            refine p_inN ?_
            refine p_norm ?_
            replace hS := hS.add 113 (rdF (Rep.list (Rep.num .i64)) (cs31) (next_28)) (hS.fact (k := 115) rfl)
            replace hS := hS.ren [(700105, Ob.row (A7) ((out_6).length) (c8) 30 1 (cs9)), (700112, Ob.row (A29) ((next_28).length) (c30) 30 1 (cs31))] [700105, 700114] ⟨rfl, rfl, trivial⟩ (by decide)
            exact ⟨(next_28), (A29), (c30), (cs31), hg, (hS.sub ⟨rfl, rfl, rfl, rfl, rfl, trivial⟩ ⟨rfl, rfl, trivial⟩ ⟨rfl, rfl, trivial⟩)⟩
        clear hS a; rintro a w ⟨next_24, A25, c26, cs27, hg, hS⟩
        subst hk23
        apply wp_region_lit
        refine q_seq hS rfl rfl rfl (y_move hS rfl) ?_; clear hS a; intro a hS
        refine q_seq hS rfl rfl rfl (y_addN (i := i_20) (j := 1) hS rfl rfl (in64.2 (by omega))) ?_; clear hS a; intro a hS
        refine q_seq hS rfl rfl rfl (y_assign hS rfl) ?_; clear hS a; intro a hS
        apply wpList_nil
        refine p_norm ?_
        replace hS := hS.add 111 (rdF (Rep.list (Rep.num .i64)) (cs27) (next_24)) (hS.fact (k := 113) rfl)
        replace hS := hS.ren [(700105, Ob.row (A7) ((out_6).length) (c8) 30 1 (cs9)), (700110, Ob.row (A25) ((next_24).length) (c26) 30 1 (cs27))] [700105, 700112] ⟨rfl, rfl, trivial⟩ (by decide)
        exact ⟨m2, Nat.lt_succ_self _, ⟨(next_24), (i_20 + 1), (A25), (c26), (cs27), hg, (hS.sub ⟨rfl, rfl, rfl, rfl, rfl, trivial⟩ ⟨rfl, rfl, trivial⟩ ⟨rfl, rfl, trivial⟩)⟩⟩
      · replace hg := br_f hg hc21
        apply wp_exit
        refine p_then ?_
        refine p_then ?_
        refine p_in ?_
        refine p_norm ?_
        replace hS := hS.add 109 (rdF (Rep.list (Rep.num .i64)) (cs19) (next_16)) (hS.fact (k := 111) rfl)
        replace hS := hS.ren [(700105, Ob.row (A7) ((out_6).length) (c8) 30 1 (cs9)), (700108, Ob.row (A17) ((next_16).length) (c18) 30 1 (cs19))] [700105, 700110] ⟨rfl, rfl, trivial⟩ (by decide)
        exact ⟨(next_16), (A17), (c18), (cs19), hg, (hS.sub ⟨rfl, rfl, rfl, trivial⟩ ⟨rfl, trivial⟩ ⟨rfl, trivial⟩)⟩
    clear hS a; rintro a w ⟨next_12, A13, c14, cs15, hg, hS⟩
    subst hk11
    apply wp_region_lit
    refine q_seq hS rfl rfl rfl (y_move hS rfl) ?_; clear hS a; intro a hS
    refine q_seq hS rfl rfl rfl (y_assign hS rfl) ?_; clear hS a; intro a hS
    apply wpList_nil
    refine p_inN ?_
    refine p_norm ?_
    replace hg := chk_some hg; obtain ⟨hk61, hg⟩ := hg
    apply wp_region_lit
    refine q_seq hS rfl rfl rfl (y_move hS rfl) ?_; clear hS a; intro a hS
    refine q_seq hS rfl rfl rfl (y_sub hS rfl rfl (in64.2 hk61)) ?_; clear hS a; intro a hS
    refine q_seq hS rfl rfl rfl (y_assign hS rfl) ?_; clear hS a; intro a hS
    apply wpList_nil
    refine p_norm ?_
    replace hS := hS.add 106 (rdF (Rep.list (Rep.num .i64)) (cs15) (next_12)) (hS.fact (k := 109) rfl)
    replace hS := hS.ren [(700105, Ob.row (A13) ((next_12).length) (c14) 30 1 (cs15))] [700108] ⟨rfl, trivial⟩ (by decide)
    exact ⟨m1, Nat.lt_succ_self _, ⟨(n_5 - 1), (next_12), (A13), (c14), (cs15), hg, (hS.sub ⟨rfl, rfl, rfl, trivial⟩ ⟨rfl, trivial⟩ ⟨rfl, trivial⟩)⟩⟩
  · replace hg := br_f hg hc10
    apply wp_exit
    refine p_then ?_
    refine p_then ?_
    refine p_in ?_
    refine p_norm ?_
    apply wp_seq
    apply wp_region_lit
    refine q_seq hS rfl rfl rfl (y_move hS rfl) ?_; clear hS a; intro a hS
    refine q_seq hS rfl rfl rfl (y_assign hS rfl) ?_; clear hS a; intro a hS
    apply wpList_nil
    refine p_norm ?_
    apply wp_ret
    obtain rfl := Option.some.inj hg
    refine fin1 (fn := Try.f39) hS rfl (r_tmp hS rfl) ?_
    exact ⟨(A7), (c8), rfl, (hS.rowOut (R := (Rep.list (Rep.num .i64))) (kk := 700105) rfl rfl (hS.fact (k := 106) rfl))⟩
set_option maxHeartbeats 400000 in
theorem c_r24_Analyses (n : Nat) (M : Bs) (w0 : World) (hM : ∀ b, M b → b < w0.heap.size) (e_ : (List Entry)) (Ap01 : Option Addr) (cp01 : Nat) (hp01 : SlR REntry M w0 Ap01 (e_).length cp01 (e_)) (r_ : (List LexRule)) (Ap11 : Option Addr) (cp11 : Nat) (hp11 : SlR RLexRule M w0 Ap11 (r_).length cp11 (r_)) (words_ : (List (List UInt8))) (Ap21 : Option Addr) (cp21 : Nat) (hp21 : SlR Rep.str M w0 Ap21 (words_).length cp21 (words_)) (r : (List Analysis)) (hg : r24_Analyses n e_ r_ words_ = some r) :
    Calls Try.prog 23 [.slice (Ap01) ((e_).length) (cp01), .slice (Ap11) ((r_).length) (cp11), .slice (Ap21) ((words_).length) (cp21)].toArray w0 (Ret noB w0 fun v w => ∃ (Aa1 : Option Addr), ∃ (ca1 : Nat), v = .slice (Aa1) ((r).length) (ca1) ∧ (SlR RAnalysis M w Aa1 (r).length ca1 (r))) := by
  unfold r24_Analyses at hg
  refine enter M noB Try.func23 rfl rfl hM ?_
  intro a hS
  replace hS := hS.add 101 (slF REntry (Ap01) ((e_).length) (cp01) (e_)) (by exact Fact.change _ enterM hp01)
  replace hS := hS.add 102 (slF RLexRule (Ap11) ((r_).length) (cp11) (r_)) (by exact Fact.change _ enterM hp11)
  replace hS := hS.add 103 (slF Rep.str (Ap21) ((words_).length) (cp21) (words_)) (by exact Fact.change _ enterM hp21)
  apply wp_seq
  apply wp_region_lit
  refine q_seq hS rfl rfl rfl (y_assign hS rfl) ?_; clear hS a; intro a hS
  apply wpList_nil
  refine p_norm ?_
  apply wp_seq
  apply wp_region_lit
  refine q_seq hS rfl rfl rfl (y_assign hS rfl) ?_; clear hS a; intro a hS
  apply wpList_nil
  refine p_norm ?_
  apply wp_seq
  apply wp_seq
  apply wp_region_lit
  refine q_seq hS rfl rfl rfl (y_assign hS rfl) ?_; clear hS a; intro a hS
  apply wpList_nil
  refine p_norm ?_
  apply wp_block
  replace hS := hS.nilRow 700104 35 2 rfl
  replace hS := hS.add 105 (rdF RAnalysis [] []) (RdAll.nil _ _ _)
  refine c_loop (σ := Nat) (fun m1 a w => ∃ (out_1 : (List Analysis)), ∃ (i_5 : Nat), ∃ (A2 : Option Addr), ∃ (c3 : Nat), ∃ (cs4 : List Value), r24_Analyses_L0 n e_ r_ words_ m1 out_1 i_5 = some r ∧ St (⟨Try.f23.ntmps, M, noB, w0⟩ : Ctx) [(0, .slice (Ap01) ((e_).length) (cp01)), (1, .slice (Ap11) ((r_).length) (cp11)), (2, .slice (Ap21) ((words_).length) (cp21)), (7, .slice (A2) ((out_1).length) (c3)), (8, .int .i64 (((i_5 : Nat) : Int)))] [(700104, Ob.row (A2) ((out_1).length) (c3) 35 2 (cs4))] [(101, slF REntry (Ap01) ((e_).length) (cp01) (e_)), (102, slF RLexRule (Ap11) ((r_).length) (cp11) (r_)), (103, slF Rep.str (Ap21) ((words_).length) (cp21) (words_)), (105, rdF RAnalysis (cs4) (out_1))] a w) (fun m1 => m1) n ⟨([]), (0), (none), (0), ([]), hg, (hS.sub ⟨rfl, rfl, rfl, rfl, rfl, trivial⟩ ⟨rfl, trivial⟩ ⟨rfl, rfl, rfl, rfl, trivial⟩)⟩ ?_
  clear hS a; rintro m1 a w ⟨out_1, i_5, A2, c3, cs4, hg, hS⟩
  rcases m1 with _ | m1
  · rw [r24_Analyses_L0] at hg; cases hg
  rw [r24_Analyses_L0] at hg
  apply wp_seq
  apply wp_seq
  apply wp_region_lit
  refine q_seq hS rfl rfl rfl (y_move hS rfl) ?_; clear hS a; intro a hS
  refine q_seq hS rfl rfl rfl (y_move hS rfl) ?_; clear hS a; intro a hS
  refine q_seq hS rfl rfl rfl (y_lenSlice hS rfl Try.underlying22) ?_; clear hS a; intro a hS
  refine q_seq hS rfl rfl rfl (y_lssN (i := i_5) (j := ((e_).length)) hS rfl rfl) ?_; clear hS a; intro a hS
  apply wpList_nil
  refine p_norm ?_
  refine c_dec hS rfl (fun hc6 => ?_) (fun hc6 => ?_)
  · replace hg := br_t hg hc6
    have hmx7 := SlR.mx (hS.fact (k := 101) rfl)
    apply wp_skip
    refine p_norm ?_
    apply wp_seq
    replace hg := jn_some hg; obtain ⟨k8, hg, hk8⟩ := hg
    refine c_post (fun a w => ∃ (out_9 : (List Analysis)), ∃ (A10 : Option Addr), ∃ (c11 : Nat), ∃ (cs12 : List Value), k8 out_9 = some r ∧ St (⟨Try.f23.ntmps, M, noB, w0⟩ : Ctx) [(0, .slice (Ap01) ((e_).length) (cp01)), (1, .slice (Ap11) ((r_).length) (cp11)), (2, .slice (Ap21) ((words_).length) (cp21)), (7, .slice (A10) ((out_9).length) (c11)), (8, .int .i64 (((i_5 : Nat) : Int)))] [(700106, Ob.row (A10) ((out_9).length) (c11) 35 2 (cs12))] [(101, slF REntry (Ap01) ((e_).length) (cp01) (e_)), (102, slF RLexRule (Ap11) ((r_).length) (cp11) (r_)), (103, slF Rep.str (Ap21) ((words_).length) (cp21) (words_)), (107, rdF RAnalysis (cs12) (out_9))] a w) ?_ ?_
    · apply wp_block
      apply wp_seq
      apply wp_region_lit
      refine q_seq hS rfl rfl rfl (y_assign hS rfl) ?_; clear hS a; intro a hS
      apply wpList_nil
      refine p_norm ?_
      apply wp_block
      replace hS := hS.add 109 (rdF RAnalysis (cs4) (out_1)) (hS.fact (k := 105) rfl)
      replace hS := hS.ren [(700108, Ob.row (A2) ((out_1).length) (c3) 35 2 (cs4))] [700104] ⟨rfl, trivial⟩ (by decide)
      refine c_loop (σ := Nat) (fun m2 a w => ∃ (out_13 : (List Analysis)), ∃ (n_17 : Nat), ∃ (A14 : Option Addr), ∃ (c15 : Nat), ∃ (cs16 : List Value), r24_Analyses_L1 n e_ r_ words_ i_5 k8 m2 out_13 n_17 = some r ∧ St (⟨Try.f23.ntmps, M, noB, w0⟩ : Ctx) [(0, .slice (Ap01) ((e_).length) (cp01)), (1, .slice (Ap11) ((r_).length) (cp11)), (2, .slice (Ap21) ((words_).length) (cp21)), (7, .slice (A14) ((out_13).length) (c15)), (8, .int .i64 (((i_5 : Nat) : Int))), (9, .int .i64 (((n_17 : Nat) : Int)))] [(700108, Ob.row (A14) ((out_13).length) (c15) 35 2 (cs16))] [(101, slF REntry (Ap01) ((e_).length) (cp01) (e_)), (102, slF RLexRule (Ap11) ((r_).length) (cp11) (r_)), (103, slF Rep.str (Ap21) ((words_).length) (cp21) (words_)), (109, rdF RAnalysis (cs16) (out_13))] a w) (fun m2 => m2) n ⟨(out_1), (0), (A2), (c3), (cs4), hg, (hS.sub ⟨rfl, rfl, rfl, rfl, rfl, rfl, trivial⟩ ⟨rfl, trivial⟩ ⟨rfl, rfl, rfl, rfl, trivial⟩)⟩ ?_
      clear hS a; rintro m2 a w ⟨out_13, n_17, A14, c15, cs16, hg, hS⟩
      rcases m2 with _ | m2
      · rw [r24_Analyses_L1] at hg; cases hg
      rw [r24_Analyses_L1] at hg
      apply wp_seq
      apply wp_seq
      apply wp_region_lit
      refine q_seq hS rfl rfl rfl (y_move hS rfl) ?_; clear hS a; intro a hS
      refine q_seq hS rfl rfl rfl (y_leqN (i := n_17) (j := 2) hS rfl rfl) ?_; clear hS a; intro a hS
      apply wpList_nil
      refine p_norm ?_
      refine c_dec hS rfl (fun hc18 => ?_) (fun hc18 => ?_)
      · replace hg := br_t hg hc18
        apply wp_skip
        refine p_norm ?_
        apply wp_seq
        replace hg := jn_some hg; obtain ⟨k19, hg, hk19⟩ := hg
        refine c_post (fun a w => ∃ (out_20 : (List Analysis)), ∃ (A21 : Option Addr), ∃ (c22 : Nat), ∃ (cs23 : List Value), k19 out_20 = some r ∧ St (⟨Try.f23.ntmps, M, noB, w0⟩ : Ctx) [(0, .slice (Ap01) ((e_).length) (cp01)), (1, .slice (Ap11) ((r_).length) (cp11)), (2, .slice (Ap21) ((words_).length) (cp21)), (7, .slice (A21) ((out_20).length) (c22)), (8, .int .i64 (((i_5 : Nat) : Int))), (9, .int .i64 (((n_17 : Nat) : Int)))] [(700110, Ob.row (A21) ((out_20).length) (c22) 35 2 (cs23))] [(101, slF REntry (Ap01) ((e_).length) (cp01) (e_)), (102, slF RLexRule (Ap11) ((r_).length) (cp11) (r_)), (103, slF Rep.str (Ap21) ((words_).length) (cp21) (words_)), (111, rdF RAnalysis (cs23) (out_20))] a w) ?_ ?_
        · apply wp_block
          apply wp_seq
          replace hg := bind_some hg; obtain ⟨r24, hr24, hg⟩ := hg
          apply wp_region_lit
          refine q_seq hS rfl rfl rfl (y_move hS rfl) ?_; clear hS a; intro a hS
          refine q_seq hS rfl rfl rfl (y_lenSlice hS rfl Try.underlying33) ?_; clear hS a; intro a hS
          refine q_seq hS rfl rfl rfl (y_move hS rfl) ?_; clear hS a; intro a hS
          refine l_seq rfl (l_call (cap := []) hS rfl Try.func39 rfl (by kernel_rfl) rfl rfl (c_r24_chains n _ _ hS.lt (((r_).length : Nat) : Int) ((n_17 : Nat) : Int) r24 hr24) ?_); clear hS a; intro v27 a w hK hp hS
          clear hK
          obtain ⟨Au28a1, cu28a1, rfl, hu28a1⟩ := hp
          replace hS := hS.add 113 (slF (Rep.list (Rep.num .i64)) (Au28a1) ((r24).length) (cu28a1) (r24)) hu28a1
          refine q_seq hS rfl rfl rfl (y_assign hS rfl) ?_; clear hS a; intro a hS
          apply wpList_nil
          refine p_norm ?_
          apply wp_seq
          apply wp_region_lit
          refine q_seq hS rfl rfl rfl (y_assign hS rfl) ?_; clear hS a; intro a hS
          apply wpList_nil
          refine p_norm ?_
          apply wp_block
          replace hS := hS.add 115 (rdF RAnalysis (cs16) (out_13)) (hS.fact (k := 109) rfl)
          replace hS := hS.ren [(700114, Ob.row (A14) ((out_13).length) (c15) 35 2 (cs16))] [700108] ⟨rfl, trivial⟩ (by decide)
          refine c_loop (σ := Nat) (fun m3 a w => ∃ (out_29 : (List Analysis)), ∃ (k_33 : Nat), ∃ (A30 : Option Addr), ∃ (c31 : Nat), ∃ (cs32 : List Value), r24_Analyses_L2 n e_ r_ words_ i_5 k19 r24 m3 out_29 k_33 = some r ∧ St (⟨Try.f23.ntmps, M, noB, w0⟩ : Ctx) [(0, .slice (Ap01) ((e_).length) (cp01)), (1, .slice (Ap11) ((r_).length) (cp11)), (2, .slice (Ap21) ((words_).length) (cp21)), (7, .slice (A30) ((out_29).length) (c31)), (8, .int .i64 (((i_5 : Nat) : Int))), (9, .int .i64 (((n_17 : Nat) : Int))), (10, .slice (Au28a1) ((r24).length) (cu28a1)), (11, .int .i64 (((k_33 : Nat) : Int)))] [(700114, Ob.row (A30) ((out_29).length) (c31) 35 2 (cs32))] [(101, slF REntry (Ap01) ((e_).length) (cp01) (e_)), (102, slF RLexRule (Ap11) ((r_).length) (cp11) (r_)), (103, slF Rep.str (Ap21) ((words_).length) (cp21) (words_)), (113, slF (Rep.list (Rep.num .i64)) (Au28a1) ((r24).length) (cu28a1) (r24)), (115, rdF RAnalysis (cs32) (out_29))] a w) (fun m3 => m3) n ⟨(out_13), (0), (A14), (c15), (cs16), hg, (hS.sub ⟨rfl, rfl, rfl, rfl, rfl, rfl, rfl, rfl, trivial⟩ ⟨rfl, trivial⟩ ⟨rfl, rfl, rfl, rfl, rfl, trivial⟩)⟩ ?_
          clear hS a; rintro m3 a w ⟨out_29, k_33, A30, c31, cs32, hg, hS⟩
          rcases m3 with _ | m3
          · rw [r24_Analyses_L2] at hg; cases hg
          rw [r24_Analyses_L2] at hg
          apply wp_seq
          apply wp_seq
          apply wp_region_lit
          refine q_seq hS rfl rfl rfl (y_move hS rfl) ?_; clear hS a; intro a hS
          refine q_seq hS rfl rfl rfl (y_move hS rfl) ?_; clear hS a; intro a hS
          refine q_seq hS rfl rfl rfl (y_lenSlice hS rfl Try.underlying62) ?_; clear hS a; intro a hS
          refine q_seq hS rfl rfl rfl (y_lssN (i := k_33) (j := ((r24).length)) hS rfl rfl) ?_; clear hS a; intro a hS
          apply wpList_nil
          refine p_norm ?_
          refine c_dec hS rfl (fun hc34 => ?_) (fun hc34 => ?_)
          · replace hg := br_t hg hc34
            have hmx35 := SlR.mx (hS.fact (k := 113) rfl)
            apply wp_skip
            refine p_norm ?_
            apply wp_seq
            apply wp_block
            apply wp_seq
            replace hg := bind_some hg; obtain ⟨x37, hx37, hg⟩ := hg
            apply wp_region_lit
            refine q_seq hS rfl rfl rfl (y_move hS rfl) ?_; clear hS a; intro a hS
            refine q_seq hS rfl rfl rfl (y_move hS rfl) ?_; clear hS a; intro a hS
            refine q_seq hS rfl rfl rfl (y_move hS rfl) ?_; clear hS a; intro a hS
            obtain ⟨p40, hep40, hpp40⟩ := SlR.elemX (hS.fact (k := 113) rfl) hx37
            refine q_seq hS rfl rfl rfl (y_elem (sz := 1) (i := k_33) hS rfl rfl Try.underlying62 rfl hep40 rfl (lt_of_get hx37)) ?_; clear hS a; intro a hS
            obtain ⟨hlq41, hmq41, csq41, hdq41, hcq41⟩ := hpp40
            obtain ⟨Aq411, nnq41, cq411, rfl, hq411⟩ := hdq41
            obtain rfl := hq411.len
            replace hS := hS.add 117 (slF (Rep.num .i64) (Aq411) ((x37).length) (cq411) (x37)) hq411
            refine q_seq hS rfl rfl rfl (y_ldp1 hS rfl hlq41 hmq41 (hcq41 0 _ rfl) Try.underlying30 rfl) ?_; clear hS a; intro a hS
            refine q_seq hS rfl rfl rfl (y_build (parts := [(0, .tmp 35), (1, .tmp 39)]) (ps := [(0, .int .i64 (((i_5 : Nat) : Int))), (1, .slice (Aq411) ((x37).length) (cq411))]) (cells := #[.int .i64 (((i_5 : Nat) : Int)), .slice (Aq411) ((x37).length) (cq411)]) hS rfl (by kernel_rfl)) ?_; clear hS a; intro a hS
            refine l_seq rfl (l_alloc (zs := [.int .i64 (0), .slice (none) (0) (0)]) hS 2206 rfl rfl rfl rfl ?_); clear hS a; intro b42 a w hb hK hS
            clear hb
            clear hK
            refine l_seq rfl (l_store (n := 2) (cs' := [.int .i64 (((i_5 : Nat) : Int)), .slice (Aq411) ((x37).length) (cq411)]) hS 2206 rfl rfl rfl rfl rfl rfl rfl rfl ?_); clear hS; intro w hK hS; clear hK
            apply wpList_nil
            refine p_norm ?_
            apply wp_seq
            replace hg := bind_some hg; obtain ⟨r43, hr43, hg⟩ := hg
            apply wp_region_lit
            refine q_seq hS rfl rfl rfl (y_move hS rfl) ?_; clear hS a; intro a hS
            refine q_seq hS rfl rfl rfl (y_move hS rfl) ?_; clear hS a; intro a hS
            refine q_seq hS rfl rfl rfl (y_loadBox (kk := 2206) (n := 2) (vs := [.int .i64 (((i_5 : Nat) : Int)), .slice (Aq411) ((x37).length) (cq411)]) hS rfl rfl Try.underlying35 rfl rfl rfl rfl) ?_; clear hS a; intro a hS
            refine l_seq rfl (l_call (cap := []) hS rfl Try.func19 rfl (by kernel_rfl) rfl rfl (c_r24_Form n _ _ hS.lt e_ (Ap01) (cp01) (hS.fact (k := 101) rfl) r_ (Ap11) (cp11) (hS.fact (k := 102) rfl) (Analysis.mk ((i_5 : Nat) : Int) x37) (Aq411) (cq411) (hS.fact (k := 117) rfl) r43 hr43) ?_); clear hS a; intro v46 a w hK hp hS
            clear hK
            obtain ⟨Au47a1, cu47a1, rfl, hu47a1⟩ := hp
            replace hS := hS.add 119 (slF Rep.str (Au47a1) ((r43.1).length) (cu47a1) (r43.1)) hu47a1
            refine q_seq hS rfl rfl rfl (y_move hS rfl) ?_; clear hS a; intro a hS
            refine q_seq hS rfl rfl rfl (y_extract hS rfl rfl) ?_; clear hS a; intro a hS
            refine q_seq hS rfl rfl rfl (y_extract hS rfl rfl) ?_; clear hS a; intro a hS
            refine q_seq hS rfl rfl rfl (y_assign hS rfl) ?_; clear hS a; intro a hS
            refine q_seq hS rfl rfl rfl (y_assign hS rfl) ?_; clear hS a; intro a hS
            apply wpList_nil
            refine p_norm ?_
            apply wp_seq
            replace hg := jn_some hg; obtain ⟨k48, hg, hk48⟩ := hg
            refine c_post (fun a w => ∃ (t_49 : Bool), k48 t_49 = some r ∧ St (⟨Try.f23.ntmps, M, noB, w0⟩ : Ctx) [(0, .slice (Ap01) ((e_).length) (cp01)), (1, .slice (Ap11) ((r_).length) (cp11)), (2, .slice (Ap21) ((words_).length) (cp21)), (7, .slice (A30) ((out_29).length) (c31)), (8, .int .i64 (((i_5 : Nat) : Int))), (9, .int .i64 (((n_17 : Nat) : Int))), (10, .slice (Au28a1) ((r24).length) (cu28a1)), (11, .int .i64 (((k_33 : Nat) : Int))), (12, .pointer (some ⟨b42, 0, none⟩)), (53, .bool (t_49))] [(2206, Ob.box b42 [.int .i64 (((i_5 : Nat) : Int)), .slice (Aq411) ((x37).length) (cq411)] 35), (700114, Ob.row (A30) ((out_29).length) (c31) 35 2 (cs32))] [(101, slF REntry (Ap01) ((e_).length) (cp01) (e_)), (102, slF RLexRule (Ap11) ((r_).length) (cp11) (r_)), (103, slF Rep.str (Ap21) ((words_).length) (cp21) (words_)), (113, slF (Rep.list (Rep.num .i64)) (Au28a1) ((r24).length) (cu28a1) (r24)), (115, rdF RAnalysis (cs32) (out_29)), (117, slF (Rep.num .i64) (Aq411) ((x37).length) (cq411) (x37))] a w) ?_ ?_
            · rcases Bool.eq_false_or_eq_true (r43.2) with hs50 | hs50
              · replace hg := br_t hg hs50
                replace hg := bind_some hg; obtain ⟨r51, hr51, hg⟩ := hg
                apply wp_region_lit
                refine q_seq hS rfl rfl rfl (yl_b (y_move hS rfl) hs50) ?_; clear hS a; intro a hS
                refine q_seq hS rfl rfl rfl (y_move hS rfl) ?_; clear hS a; intro a hS
                refine g_yes hS rfl rfl rfl rfl (l_quiet hS rfl rfl (y_move hS rfl) ?_); clear hS a; intro a hS
                refine g_yes hS rfl rfl rfl rfl (l_quiet hS rfl rfl (y_move hS rfl) ?_); clear hS a; intro a hS
                refine g_yes hS rfl rfl rfl rfl (l_call (cap := []) hS rfl Try.func20 rfl (by kernel_rfl) rfl rfl (c_r01_Same n _ _ hS.lt r43.1 (Au47a1) (cu47a1) (hS.fact (k := 119) rfl) words_ (Ap21) (cp21) (hS.fact (k := 103) rfl) r51 hr51) ?_); clear hS a; intro v54 a w hK hp hS
                clear hK
                obtain rfl := hp
                refine q_seq hS rfl rfl rfl (y_pick_t hS rfl rfl) ?_; clear hS a; intro a hS
                apply wpList_nil
                refine p_norm ?_
                exact ⟨(r51), hg, (hS.sub ⟨rfl, rfl, rfl, rfl, rfl, rfl, rfl, rfl, rfl, rfl, trivial⟩ ⟨rfl, rfl, trivial⟩ ⟨rfl, rfl, rfl, rfl, rfl, rfl, trivial⟩)⟩
              · replace hg := br_f hg (by rw [hs50]; exact Bool.false_ne_true)
                apply wp_region_lit
                refine q_seq hS rfl rfl rfl (yl_b (y_move hS rfl) hs50) ?_; clear hS a; intro a hS
                refine q_seq hS rfl rfl rfl (y_move hS rfl) ?_; clear hS a; intro a hS
                refine g_no hS rfl rfl rfl rfl rfl rfl rfl ?_; clear hS a; intro a hS
                refine g_no hS rfl rfl rfl rfl rfl rfl rfl ?_; clear hS a; intro a hS
                refine g_no hS rfl rfl rfl rfl rfl rfl rfl ?_; clear hS a; intro a hS
                refine q_seq hS rfl rfl rfl (y_pick_f hS rfl rfl) ?_; clear hS a; intro a hS
                apply wpList_nil
                refine p_norm ?_
                exact ⟨(false), hg, (hS.sub ⟨rfl, rfl, rfl, rfl, rfl, rfl, rfl, rfl, rfl, rfl, trivial⟩ ⟨rfl, rfl, trivial⟩ ⟨rfl, rfl, rfl, rfl, rfl, rfl, trivial⟩)⟩
            clear hS a; rintro a w ⟨t_49, hg, hS⟩
            subst hk48
            refine c_cond hS rfl (fun hc56 => ?_) (fun hc56 => ?_)
            · replace hg := br_t hg hc56
              replace hg := chk_some hg; obtain ⟨hk58, hg⟩ := hg
              apply wp_region_lit
              refine q_seq hS rfl rfl rfl (y_move hS rfl) ?_; clear hS a; intro a hS
              refine q_seq hS rfl rfl rfl (y_loadBox (kk := 2206) (n := 2) (vs := [.int .i64 (((i_5 : Nat) : Int)), .slice (Aq411) ((x37).length) (cq411)]) hS rfl rfl Try.underlying35 rfl rfl rfl rfl) ?_; clear hS a; intro a hS
              refine l_seq rfl (l_buildDense (sz := 2) hS 2502 rfl rfl rfl Try.underlying41 rfl rfl rfl rfl rfl rfl rfl ?_); clear hS a; intro b61 a w hbb61 hK hS
              clear hbb61
              clear hK
              replace hS := hS.add 122 (rdF RAnalysis (cellsOfL [.agg #[.int .i64 (((i_5 : Nat) : Int)), .slice (Aq411) ((x37).length) (cq411)]]) ([(Analysis.mk ((i_5 : Nat) : Int) x37)])) (RdAll.cons (by exact (RAnalysis.mk' (x := (Analysis.mk ((i_5 : Nat) : Int) x37)) (hS.fact (k := 117) rfl))) (RdAll.nil _ _ _))
              have hs63 := row_src (hS.wd.holds 2502 _ rfl) (RdAll.one (hS.fact (k := 122) rfl))
              refine l_seq rfl (l_append (sz := 2) (by_ := 32) (N := (out_29 ++ [(Analysis.mk ((i_5 : Nat) : Int) x37)]).length) (ys := cs32 ++ (cellsOfL [.agg #[.int .i64 (((i_5 : Nat) : Int)), .slice (Aq411) ((x37).length) (cq411)]])) hS 700114 rfl rfl rfl Try.underlying41 rfl rfl rfl rfl rfl hs63 (by simp) rfl (by have hr := hk58; clear hg; first | omega | (simp only [List.length_append, List.length_cons, List.length_nil] at hr ⊢; omega) | (simp at hr ⊢; omega)) (by have hr := hk58; clear hg; first | omega | (simp only [List.length_append, List.length_cons, List.length_nil] at hr ⊢; omega) | (simp at hr ⊢; omega)) rfl ?_); clear hS a; intro Aq62 cq62 a w hA hK hS
              clear hK hA
              replace hS := hS.add 123 (rdF RAnalysis (cs32 ++ (cellsOfL [.agg #[.int .i64 (((i_5 : Nat) : Int)), .slice (Aq411) ((x37).length) (cq411)]])) (out_29 ++ [(Analysis.mk ((i_5 : Nat) : Int) x37)])) (RdAll.append (hS.fact (k := 115) rfl) (hS.fact (k := 122) rfl))
              refine q_seq hS rfl rfl rfl (y_assign hS rfl) ?_; clear hS a; intro a hS
              apply wpList_nil
              refine p_inN ?_
              refine p_norm ?_
              apply wp_region_lit
              refine q_seq hS rfl rfl rfl (y_move hS rfl) ?_; clear hS a; intro a hS
              refine q_seq hS rfl rfl rfl (y_addN (i := k_33) (j := 1) hS rfl rfl (in64.2 (by omega))) ?_; clear hS a; intro a hS
              refine q_seq hS rfl rfl rfl (y_assign hS rfl) ?_; clear hS a; intro a hS
              apply wpList_nil
              refine p_norm ?_
              replace hS := hS.add 115 (rdF RAnalysis (cs32 ++ (cellsOfL [.agg #[.int .i64 (((i_5 : Nat) : Int)), .slice (Aq411) ((x37).length) (cq411)]])) (out_29 ++ [(Analysis.mk ((i_5 : Nat) : Int) x37)])) (hS.fact (k := 123) rfl)
              exact ⟨m3, Nat.lt_succ_self _, ⟨(out_29 ++ [(Analysis.mk ((i_5 : Nat) : Int) x37)]), (k_33 + 1), (Aq62), (cq62), (cs32 ++ (cellsOfL [.agg #[.int .i64 (((i_5 : Nat) : Int)), .slice (Aq411) ((x37).length) (cq411)]])), hg, (hS.sub ⟨rfl, rfl, rfl, rfl, rfl, rfl, rfl, rfl, trivial⟩ ⟨rfl, trivial⟩ ⟨rfl, rfl, rfl, rfl, rfl, trivial⟩)⟩⟩
            · replace hg := br_f hg (by rw [hc56]; exact Bool.false_ne_true)
              apply wp_skip
              refine p_inN ?_
              refine p_norm ?_
              apply wp_region_lit
              refine q_seq hS rfl rfl rfl (y_move hS rfl) ?_; clear hS a; intro a hS
              refine q_seq hS rfl rfl rfl (y_addN (i := k_33) (j := 1) hS rfl rfl (in64.2 (by omega))) ?_; clear hS a; intro a hS
              refine q_seq hS rfl rfl rfl (y_assign hS rfl) ?_; clear hS a; intro a hS
              apply wpList_nil
              refine p_norm ?_
              replace hS := hS.add 115 (rdF RAnalysis (cs32) (out_29)) (hS.fact (k := 115) rfl)
              exact ⟨m3, Nat.lt_succ_self _, ⟨(out_29), (k_33 + 1), (A30), (c31), (cs32), hg, (hS.sub ⟨rfl, rfl, rfl, rfl, rfl, rfl, rfl, rfl, trivial⟩ ⟨rfl, trivial⟩ ⟨rfl, rfl, rfl, rfl, rfl, trivial⟩)⟩⟩
          · replace hg := br_f hg hc34
            apply wp_exit
            refine p_then ?_
            refine p_then ?_
            refine p_in ?_
            refine p_inN ?_
            refine p_norm ?_
            replace hS := hS.add 111 (rdF RAnalysis (cs32) (out_29)) (hS.fact (k := 115) rfl)
            replace hS := hS.ren [(700110, Ob.row (A30) ((out_29).length) (c31) 35 2 (cs32))] [700114] ⟨rfl, trivial⟩ (by decide)
            exact ⟨(out_29), (A30), (c31), (cs32), hg, (hS.sub ⟨rfl, rfl, rfl, rfl, rfl, rfl, trivial⟩ ⟨rfl, trivial⟩ ⟨rfl, rfl, rfl, rfl, trivial⟩)⟩
        clear hS a; rintro a w ⟨out_20, A21, c22, cs23, hg, hS⟩
        subst hk19
        replace hg := chk_some hg; obtain ⟨hk64, hg⟩ := hg
        apply wp_region_lit
        refine q_seq hS rfl rfl rfl (y_move hS rfl) ?_; clear hS a; intro a hS
        refine q_seq hS rfl rfl rfl (y_addN (i := n_17) (j := 1) hS rfl rfl (in64.2 (by omega))) ?_; clear hS a; intro a hS
        refine q_seq hS rfl rfl rfl (y_assign hS rfl) ?_; clear hS a; intro a hS
        apply wpList_nil
        refine p_norm ?_
        replace hS := hS.add 109 (rdF RAnalysis (cs23) (out_20)) (hS.fact (k := 111) rfl)
        replace hS := hS.ren [(700108, Ob.row (A21) ((out_20).length) (c22) 35 2 (cs23))] [700110] ⟨rfl, trivial⟩ (by decide)
        exact ⟨m2, Nat.lt_succ_self _, ⟨(out_20), (n_17 + 1), (A21), (c22), (cs23), hg, (hS.sub ⟨rfl, rfl, rfl, rfl, rfl, rfl, trivial⟩ ⟨rfl, trivial⟩ ⟨rfl, rfl, rfl, rfl, trivial⟩)⟩⟩
      · replace hg := br_f hg hc18
        apply wp_exit
        refine p_then ?_
        refine p_then ?_
        refine p_in ?_
        refine p_inN ?_
        refine p_norm ?_
        replace hS := hS.add 107 (rdF RAnalysis (cs16) (out_13)) (hS.fact (k := 109) rfl)
        replace hS := hS.ren [(700106, Ob.row (A14) ((out_13).length) (c15) 35 2 (cs16))] [700108] ⟨rfl, trivial⟩ (by decide)
        exact ⟨(out_13), (A14), (c15), (cs16), hg, (hS.sub ⟨rfl, rfl, rfl, rfl, rfl, trivial⟩ ⟨rfl, trivial⟩ ⟨rfl, rfl, rfl, rfl, trivial⟩)⟩
    clear hS a; rintro a w ⟨out_9, A10, c11, cs12, hg, hS⟩
    subst hk8
    apply wp_region_lit
    refine q_seq hS rfl rfl rfl (y_move hS rfl) ?_; clear hS a; intro a hS
    refine q_seq hS rfl rfl rfl (y_addN (i := i_5) (j := 1) hS rfl rfl (in64.2 (by omega))) ?_; clear hS a; intro a hS
    refine q_seq hS rfl rfl rfl (y_assign hS rfl) ?_; clear hS a; intro a hS
    apply wpList_nil
    refine p_norm ?_
    replace hS := hS.add 105 (rdF RAnalysis (cs12) (out_9)) (hS.fact (k := 107) rfl)
    replace hS := hS.ren [(700104, Ob.row (A10) ((out_9).length) (c11) 35 2 (cs12))] [700106] ⟨rfl, trivial⟩ (by decide)
    exact ⟨m1, Nat.lt_succ_self _, ⟨(out_9), (i_5 + 1), (A10), (c11), (cs12), hg, (hS.sub ⟨rfl, rfl, rfl, rfl, rfl, trivial⟩ ⟨rfl, trivial⟩ ⟨rfl, rfl, rfl, rfl, trivial⟩)⟩⟩
  · replace hg := br_f hg hc6
    apply wp_exit
    refine p_then ?_
    refine p_then ?_
    refine p_in ?_
    refine p_norm ?_
    apply wp_seq
    apply wp_region_lit
    refine q_seq hS rfl rfl rfl (y_move hS rfl) ?_; clear hS a; intro a hS
    refine q_seq hS rfl rfl rfl (y_assign hS rfl) ?_; clear hS a; intro a hS
    apply wpList_nil
    refine p_norm ?_
    apply wp_ret
    obtain rfl := Option.some.inj hg
    refine fin1 (fn := Try.f23) hS rfl (r_tmp hS rfl) ?_
    exact ⟨(A2), (c3), rfl, (hS.rowOut (R := RAnalysis) (kk := 700104) rfl rfl (hS.fact (k := 105) rfl))⟩
end Go.Proofs.Ytgmghembhenonaa

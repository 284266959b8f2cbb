/- Chapter 23: the walk of AffixUndo -/
import Derived.Test.YtolgbjbfhoffpaaW3
import Derived.Test.YtolgbjbfhoffpaaGl18
namespace Go.Proofs.Ytolgbjbfhoffpaa
open Go.Gl Go.RowKit
set_option linter.unusedVariables false
set_option linter.unusedSimpArgs false

def law23_AffixUndo_L0 (n : Nat) (t_ : Affix) (t_' : (List UInt8)) (t_'' : (List UInt8)) (r46 : (List (List UInt8))) (k51 : Bool → Option Bool) : Nat → Bool → Nat → Option Bool
  | 0, _, _ => none
  | m1 + 1, t_53, t_54 =>
    if t_54 < ((r46).length) then
      (r46[t_54]?).bind fun x58 =>
      (affix_Apply n t_ x58).bind fun r60 =>
      jn (fun (t_68 : Bool) =>
        if t_68 = true then
          some false
        else
          if t_53 = true then
            law23_AffixUndo_L0 n t_ t_' t_'' r46 k51 m1 true (t_54 + 1)
          else
            law23_AffixUndo_L0 n t_ t_' t_'' r46 k51 m1 (decide ((x58 : List UInt8) = t_')) (t_54 + 1))
        (fun k67 =>
          if (!(r60.2)) = true then
            k67 true
          else
            if (r60.1 : List UInt8) ≠ t_'' then
              k67 true
            else
              (r01_Word n x58).bind fun r73 =>
              if (!(r73)) = true then
                k67 true
              else
                if (0 : Nat) < t_54 then
                  (ix r46 (((t_54 : Nat) : Int) - 1)).bind fun x83 =>
                  k67 (!(Op.bytesLess x83 x58))
                else
                  k67 false)
    else
      k51 t_53
/-- grammarlab/grammarlablaw23.AffixUndo -/
def law23_AffixUndo (n : Nat) (t_ : Affix) (t_' : (List UInt8)) (t_'' : (List UInt8)) : Option Bool :=
  jn (fun (t_4 : Bool) =>
    if t_4 = true then
      (law23_exampleHolds n).bind fun r41 =>
      some r41
    else
      (affix_Undo n t_ t_'').bind fun r46 =>
      jn (fun (t_52 : Bool) =>
        (affix_Apply n t_ t_').bind fun r187 =>
        if r187.2 = true then
          if (t_52 == (decide ((r187.1 : List UInt8) = t_''))) = true then
            (law23_exampleHolds n).bind fun r194 =>
            some r194
          else
            some false
        else
          if (t_52 == false) = true then
            (law23_exampleHolds n).bind fun r200 =>
            some r200
          else
            some false)
        (fun k51 =>
          law23_AffixUndo_L0 n t_ t_' t_'' r46 k51 n false 0))
    (fun k3 =>
      (r23_Light n t_).bind fun r5 =>
      if (!(r5)) = true then
        k3 true
      else
        (r23_Check n t_).bind fun r11 =>
        if r11 ≠ 0 then
          k3 true
        else
          (r01_Word n t_').bind fun r19 =>
          if (!(r19)) = true then
            k3 true
          else
            (r01_Word n t_'').bind fun r29 =>
            k3 (!(r29)))
set_option maxHeartbeats 400000 in
theorem c_law23_AffixUndo (n : Nat) (M : Bs) (w0 : World) (hM : ∀ b, M b → b < w0.heap.size) (t_ : Affix) (Ap02 : Option Addr) (cp02 : Nat) (hp02 : SlR RChange M w0 Ap02 (t_.Pairs).length cp02 (t_.Pairs)) (t_' : (List UInt8)) (lp11 : (t_').length ≤ 9223372036854775807) (t_'' : (List UInt8)) (lp21 : (t_'').length ≤ 9223372036854775807) (r : Bool) (hg : law23_AffixUndo n t_ t_' t_'' = some r) :
    Calls Try.prog 6 [.agg #[.int .i64 (t_.Kind), .slice (Ap02) ((t_.Pairs).length) (cp02)], .string (bs (t_')), .string (bs (t_''))].toArray w0 (Ret noB w0 fun v w => v = .bool (r)) := by
  unfold law23_AffixUndo at hg
  refine enter M noB Try.func6 rfl rfl hM ?_
  intro a hS
  replace hS := hS.add 101 (slF RChange (Ap02) ((t_.Pairs).length) (cp02) (t_.Pairs)) (by exact Fact.change _ enterM hp02)
  apply wp_seq
  apply wp_region_lit
  refine l_seq rfl (l_box (zs := [.int .i64 (t_.Kind), .slice (Ap02) ((t_.Pairs).length) (cp02)]) hS 1000 rfl rfl rfl rfl ?_); clear hS a; intro b2 a w hb hK hS
  clear hb
  clear hK
  refine q_seq hS rfl rfl rfl (y_assign hS rfl) ?_; clear hS a; intro a hS
  apply wpList_nil
  refine p_norm ?_
  apply wp_seq
  apply wp_seq
  replace hg := jn_some hg; obtain ⟨k3, hg, hk3⟩ := hg
  refine c_post (fun a w => ∃ (t_4 : Bool), k3 t_4 = some r ∧ St (⟨Try.f6.ntmps, M, noB, w0⟩ : Ctx) [(1, .string (bs (t_'))), (2, .string (bs (t_''))), (3, .pointer (some ⟨b2, 0, none⟩)), (31, .bool (t_4))] [(1000, Ob.box b2 [.int .i64 (t_.Kind), .slice (Ap02) ((t_.Pairs).length) (cp02)] 24)] [(101, slF RChange (Ap02) ((t_.Pairs).length) (cp02) (t_.Pairs))] a w) ?_ ?_
  · replace hg := bind_some hg; obtain ⟨r5, hr5, hg⟩ := hg
    rcases Bool.eq_false_or_eq_true (!(r5)) with hs8 | hs8
    · replace hg := br_t hg hs8
      apply wp_region_lit
      refine q_seq hS rfl rfl rfl (y_loadBox (kk := 1000) (n := 2) (vs := [.int .i64 (t_.Kind), .slice (Ap02) ((t_.Pairs).length) (cp02)]) hS rfl rfl Try.underlying24 rfl rfl rfl rfl) ?_; clear hS a; intro a hS
      refine l_seq rfl (l_call (cap := []) hS rfl Try.func9 rfl (by kernel_rfl) rfl rfl (c_r23_Light n _ _ hS.lt t_ (Ap02) (cp02) (hS.fact (k := 101) rfl) r5 hr5) ?_); clear hS a; intro v9 a w hK hp hS
      clear hK
      obtain rfl := hp
      refine q_seq hS rfl rfl rfl (yl_b (y_not hS rfl) hs8) ?_; clear hS a; intro a hS
      refine q_seq hS rfl rfl rfl (y_move hS rfl) ?_; clear hS a; intro a hS
      refine g_no hS rfl rfl rfl rfl rfl rfl rfl ?_; clear hS a; intro a hS
      refine g_no hS rfl rfl rfl rfl rfl rfl rfl ?_; clear hS a; intro a hS
      refine g_no hS rfl rfl rfl rfl rfl rfl rfl ?_; clear hS a; intro a hS
      refine q_seq hS rfl rfl rfl (y_pick_t hS rfl rfl) ?_; clear hS a; intro a hS
      refine q_seq hS rfl rfl rfl (y_move hS rfl) ?_; clear hS a; intro a hS
      refine g_no hS rfl rfl rfl rfl rfl rfl rfl ?_; clear hS a; intro a hS
      refine g_no hS rfl rfl rfl rfl rfl rfl rfl ?_; clear hS a; intro a hS
      refine g_no hS rfl rfl rfl rfl rfl rfl rfl ?_; clear hS a; intro a hS
      refine q_seq hS rfl rfl rfl (y_pick_t hS rfl rfl) ?_; clear hS a; intro a hS
      refine q_seq hS rfl rfl rfl (y_move hS rfl) ?_; clear hS a; intro a hS
      refine g_no hS rfl rfl rfl rfl rfl rfl rfl ?_; clear hS a; intro a hS
      refine g_no hS rfl rfl rfl rfl rfl rfl rfl ?_; clear hS a; intro a hS
      refine g_no hS rfl rfl rfl rfl rfl rfl rfl ?_; clear hS a; intro a hS
      refine q_seq hS rfl rfl rfl (y_pick_t hS rfl rfl) ?_; clear hS a; intro a hS
      apply wpList_nil
      refine p_norm ?_
      exact ⟨(true), hg, (hS.sub ⟨rfl, rfl, rfl, rfl, trivial⟩ ⟨rfl, trivial⟩ ⟨rfl, trivial⟩)⟩
    · replace hg := br_f hg (by rw [hs8]; exact Bool.false_ne_true)
      replace hg := bind_some hg; obtain ⟨r11, hr11, hg⟩ := hg
      rcases Decidable.em (r11 ≠ 0) with hs14 | hs14
      · have hs14e : decide (r11 ≠ 0) = true := decide_eq_true hs14
        replace hg := br_t hg hs14
        apply wp_region_lit
        refine q_seq hS rfl rfl rfl (y_loadBox (kk := 1000) (n := 2) (vs := [.int .i64 (t_.Kind), .slice (Ap02) ((t_.Pairs).length) (cp02)]) hS rfl rfl Try.underlying24 rfl rfl rfl rfl) ?_; clear hS a; intro a hS
        refine l_seq rfl (l_call (cap := []) hS rfl Try.func9 rfl (by kernel_rfl) rfl rfl (c_r23_Light n _ _ hS.lt t_ (Ap02) (cp02) (hS.fact (k := 101) rfl) r5 hr5) ?_); clear hS a; intro v15 a w hK hp hS
        clear hK
        obtain rfl := hp
        refine q_seq hS rfl rfl rfl (yl_b (y_not hS rfl) hs8) ?_; clear hS a; intro a hS
        refine q_seq hS rfl rfl rfl (y_move hS rfl) ?_; clear hS a; intro a hS
        refine g_yes hS rfl rfl rfl rfl (l_quiet hS rfl rfl (y_loadBox (kk := 1000) (n := 2) (vs := [.int .i64 (t_.Kind), .slice (Ap02) ((t_.Pairs).length) (cp02)]) hS rfl rfl Try.underlying24 rfl rfl rfl rfl) ?_); clear hS a; intro a hS
        refine g_yes hS rfl rfl rfl rfl (l_call (cap := []) hS rfl Try.func12 rfl (by kernel_rfl) rfl rfl (c_r23_Check n _ _ hS.lt t_ (Ap02) (cp02) (hS.fact (k := 101) rfl) r11 hr11) ?_); clear hS a; intro v17 a w hK hp hS
        clear hK
        obtain rfl := hp
        refine g_yes hS rfl rfl rfl rfl (l_quiet hS rfl rfl (yl_b (y_neq hS rfl rfl) hs14e) ?_); clear hS a; intro a hS
        refine q_seq hS rfl rfl rfl (y_pick_f hS rfl rfl) ?_; clear hS a; intro a hS
        refine q_seq hS rfl rfl rfl (y_move hS rfl) ?_; clear hS a; intro a hS
        refine g_no hS rfl rfl rfl rfl rfl rfl rfl ?_; clear hS a; intro a hS
        refine g_no hS rfl rfl rfl rfl rfl rfl rfl ?_; clear hS a; intro a hS
        refine g_no hS rfl rfl rfl rfl rfl rfl rfl ?_; clear hS a; intro a hS
        refine q_seq hS rfl rfl rfl (y_pick_t hS rfl rfl) ?_; clear hS a; intro a hS
        refine q_seq hS rfl rfl rfl (y_move hS rfl) ?_; clear hS a; intro a hS
        refine g_no hS rfl rfl rfl rfl rfl rfl rfl ?_; clear hS a; intro a hS
        refine g_no hS rfl rfl rfl rfl rfl rfl rfl ?_; clear hS a; intro a hS
        refine g_no hS rfl rfl rfl rfl rfl rfl rfl ?_; clear hS a; intro a hS
        refine q_seq hS rfl rfl rfl (y_pick_t hS rfl rfl) ?_; clear hS a; intro a hS
        apply wpList_nil
        refine p_norm ?_
        exact ⟨(true), hg, (hS.sub ⟨rfl, rfl, rfl, rfl, trivial⟩ ⟨rfl, trivial⟩ ⟨rfl, trivial⟩)⟩
      · have hs14e : decide (r11 ≠ 0) = false := decide_eq_false hs14
        replace hg := br_f hg hs14
        replace hg := bind_some hg; obtain ⟨r19, hr19, hg⟩ := hg
        rcases Bool.eq_false_or_eq_true (!(r19)) with hs22 | hs22
        · replace hg := br_t hg hs22
          apply wp_region_lit
          refine q_seq hS rfl rfl rfl (y_loadBox (kk := 1000) (n := 2) (vs := [.int .i64 (t_.Kind), .slice (Ap02) ((t_.Pairs).length) (cp02)]) hS rfl rfl Try.underlying24 rfl rfl rfl rfl) ?_; clear hS a; intro a hS
          refine l_seq rfl (l_call (cap := []) hS rfl Try.func9 rfl (by kernel_rfl) rfl rfl (c_r23_Light n _ _ hS.lt t_ (Ap02) (cp02) (hS.fact (k := 101) rfl) r5 hr5) ?_); clear hS a; intro v23 a w hK hp hS
          clear hK
          obtain rfl := hp
          refine q_seq hS rfl rfl rfl (yl_b (y_not hS rfl) hs8) ?_; clear hS a; intro a hS
          refine q_seq hS rfl rfl rfl (y_move hS rfl) ?_; clear hS a; intro a hS
          refine g_yes hS rfl rfl rfl rfl (l_quiet hS rfl rfl (y_loadBox (kk := 1000) (n := 2) (vs := [.int .i64 (t_.Kind), .slice (Ap02) ((t_.Pairs).length) (cp02)]) hS rfl rfl Try.underlying24 rfl rfl rfl rfl) ?_); clear hS a; intro a hS
          refine g_yes hS rfl rfl rfl rfl (l_call (cap := []) hS rfl Try.func12 rfl (by kernel_rfl) rfl rfl (c_r23_Check n _ _ hS.lt t_ (Ap02) (cp02) (hS.fact (k := 101) rfl) r11 hr11) ?_); clear hS a; intro v25 a w hK hp hS
          clear hK
          obtain rfl := hp
          refine g_yes hS rfl rfl rfl rfl (l_quiet hS rfl rfl (yl_b (y_neq hS rfl rfl) hs14e) ?_); clear hS a; intro a hS
          refine q_seq hS rfl rfl rfl (y_pick_f hS rfl rfl) ?_; clear hS a; intro a hS
          refine q_seq hS rfl rfl rfl (y_move hS rfl) ?_; clear hS a; intro a hS
          refine g_yes hS rfl rfl rfl rfl (l_quiet hS rfl rfl (y_move hS rfl) ?_); clear hS a; intro a hS
          refine g_yes hS rfl rfl rfl rfl (l_call (cap := []) hS rfl Try.func13 rfl (by kernel_rfl) rfl rfl (c_r01_Word n _ _ hS.lt t_' (by first | omega | (rw [List.length_append]; omega) | (simp only [List.length_append]; omega) | (simp only [List.length_append, List.length_take, List.length_drop, List.length_cons, List.length_nil]; omega)) r19 hr19) ?_); clear hS a; intro v27 a w hK hp hS
          clear hK
          obtain rfl := hp
          refine g_yes hS rfl rfl rfl rfl (l_quiet hS rfl rfl (yl_b (y_not hS rfl) hs22) ?_); clear hS a; intro a hS
          refine q_seq hS rfl rfl rfl (y_pick_f hS rfl rfl) ?_; clear hS a; intro a hS
          refine q_seq hS rfl rfl rfl (y_move hS rfl) ?_; clear hS a; intro a hS
          refine g_no hS rfl rfl rfl rfl rfl rfl rfl ?_; clear hS a; intro a hS
          refine g_no hS rfl rfl rfl rfl rfl rfl rfl ?_; clear hS a; intro a hS
          refine g_no hS rfl rfl rfl rfl rfl rfl rfl ?_; clear hS a; intro a hS
          refine q_seq hS rfl rfl rfl (y_pick_t hS rfl rfl) ?_; clear hS a; intro a hS
          apply wpList_nil
          refine p_norm ?_
          exact ⟨(true), hg, (hS.sub ⟨rfl, rfl, rfl, rfl, trivial⟩ ⟨rfl, trivial⟩ ⟨rfl, trivial⟩)⟩
        · replace hg := br_f hg (by rw [hs22]; exact Bool.false_ne_true)
          replace hg := bind_some hg; obtain ⟨r29, hr29, hg⟩ := hg
          apply wp_region_lit
          refine q_seq hS rfl rfl rfl (y_loadBox (kk := 1000) (n := 2) (vs := [.int .i64 (t_.Kind), .slice (Ap02) ((t_.Pairs).length) (cp02)]) hS rfl rfl Try.underlying24 rfl rfl rfl rfl) ?_; clear hS a; intro a hS
          refine l_seq rfl (l_call (cap := []) hS rfl Try.func9 rfl (by kernel_rfl) rfl rfl (c_r23_Light n _ _ hS.lt t_ (Ap02) (cp02) (hS.fact (k := 101) rfl) r5 hr5) ?_); clear hS a; intro v32 a w hK hp hS
          clear hK
          obtain rfl := hp
          refine q_seq hS rfl rfl rfl (yl_b (y_not hS rfl) hs8) ?_; clear hS a; intro a hS
          refine q_seq hS rfl rfl rfl (y_move hS rfl) ?_; clear hS a; intro a hS
          refine g_yes hS rfl rfl rfl rfl (l_quiet hS rfl rfl (y_loadBox (kk := 1000) (n := 2) (vs := [.int .i64 (t_.Kind), .slice (Ap02) ((t_.Pairs).length) (cp02)]) hS rfl rfl Try.underlying24 rfl rfl rfl rfl) ?_); clear hS a; intro a hS
          refine g_yes hS rfl rfl rfl rfl (l_call (cap := []) hS rfl Try.func12 rfl (by kernel_rfl) rfl rfl (c_r23_Check n _ _ hS.lt t_ (Ap02) (cp02) (hS.fact (k := 101) rfl) r11 hr11) ?_); clear hS a; intro v34 a w hK hp hS
          clear hK
          obtain rfl := hp
          refine g_yes hS rfl rfl rfl rfl (l_quiet hS rfl rfl (yl_b (y_neq hS rfl rfl) hs14e) ?_); clear hS a; intro a hS
          refine q_seq hS rfl rfl rfl (y_pick_f hS rfl rfl) ?_; clear hS a; intro a hS
          refine q_seq hS rfl rfl rfl (y_move hS rfl) ?_; clear hS a; intro a hS
          refine g_yes hS rfl rfl rfl rfl (l_quiet hS rfl rfl (y_move hS rfl) ?_); clear hS a; intro a hS
          refine g_yes hS rfl rfl rfl rfl (l_call (cap := []) hS rfl Try.func13 rfl (by kernel_rfl) rfl rfl (c_r01_Word n _ _ hS.lt t_' (by first | omega | (rw [List.length_append]; omega) | (simp only [List.length_append]; omega) | (simp only [List.length_append, List.length_take, List.length_drop, List.length_cons, List.length_nil]; omega)) r19 hr19) ?_); clear hS a; intro v36 a w hK hp hS
          clear hK
          obtain rfl := hp
          refine g_yes hS rfl rfl rfl rfl (l_quiet hS rfl rfl (yl_b (y_not hS rfl) hs22) ?_); clear hS a; intro a hS
          refine q_seq hS rfl rfl rfl (y_pick_f hS rfl rfl) ?_; clear hS a; intro a hS
          refine q_seq hS rfl rfl rfl (y_move hS rfl) ?_; clear hS a; intro a hS
          refine g_yes hS rfl rfl rfl rfl (l_quiet hS rfl rfl (y_move hS rfl) ?_); clear hS a; intro a hS
          refine g_yes hS rfl rfl rfl rfl (l_call (cap := []) hS rfl Try.func13 rfl (by kernel_rfl) rfl rfl (c_r01_Word n _ _ hS.lt t_'' (by first | omega | (rw [List.length_append]; omega) | (simp only [List.length_append]; omega) | (simp only [List.length_append, List.length_take, List.length_drop, List.length_cons, List.length_nil]; omega)) r29 hr29) ?_); clear hS a; intro v38 a w hK hp hS
          clear hK
          obtain rfl := hp
          refine g_yes hS rfl rfl rfl rfl (l_quiet hS rfl rfl (y_not hS rfl) ?_); clear hS a; intro a hS
          refine q_seq hS rfl rfl rfl (y_pick_f hS rfl rfl) ?_; clear hS a; intro a hS
          apply wpList_nil
          refine p_norm ?_
          exact ⟨(!(r29)), hg, (hS.sub ⟨rfl, rfl, rfl, rfl, trivial⟩ ⟨rfl, trivial⟩ ⟨rfl, trivial⟩)⟩
  clear hS a; rintro a w ⟨t_4, hg, hS⟩
  subst hk3
  refine c_cond hS rfl (fun hc40 => ?_) (fun hc40 => ?_)
  · replace hg := br_t hg hc40
    apply wp_seq
    replace hg := bind_some hg; obtain ⟨r41, hr41, hg⟩ := hg
    apply wp_region_lit
    refine l_seq rfl (l_call (cap := []) hS rfl Try.func10 rfl (by kernel_rfl) rfl rfl (c_law23_exampleHolds n _ _ hS.lt  r41 hr41) ?_); clear hS a; intro v44 a w hK hp hS
    clear hK
    obtain rfl := hp
    refine q_seq hS rfl rfl rfl (y_assign hS rfl) ?_; clear hS a; intro a hS
    apply wpList_nil
    refine p_norm ?_
    apply wp_ret
    refine p_thenR ?_
    obtain rfl := Option.some.inj hg
    refine fin1 (fn := Try.f6) hS rfl (r_tmp hS rfl) ?_
    exact rfl
  · replace hg := br_f hg (by rw [hc40]; exact Bool.false_ne_true)
    apply wp_skip
    refine p_norm ?_
    apply wp_seq
    replace hg := bind_some hg; obtain ⟨r46, hr46, hg⟩ := hg
    apply wp_region_lit
    refine q_seq hS rfl rfl rfl (y_loadBox (kk := 1000) (n := 2) (vs := [.int .i64 (t_.Kind), .slice (Ap02) ((t_.Pairs).length) (cp02)]) hS rfl rfl Try.underlying24 rfl rfl rfl rfl) ?_; clear hS a; intro a hS
    refine q_seq hS rfl rfl rfl (y_move hS rfl) ?_; clear hS a; intro a hS
    refine l_seq rfl (l_call (cap := []) hS rfl Try.func17 rfl (by kernel_rfl) rfl rfl (c_affix_Undo n _ _ hS.lt t_ (Ap02) (cp02) (hS.fact (k := 101) rfl) t_'' (by first | omega | (rw [List.length_append]; omega) | (simp only [List.length_append]; omega) | (simp only [List.length_append, List.length_take, List.length_drop, List.length_cons, List.length_nil]; omega)) r46 hr46) ?_); clear hS a; intro v49 a w hK hp hS
    clear hK
    obtain ⟨Au50a1, cu50a1, rfl, hu50a1⟩ := hp
    replace hS := hS.add 103 (slF Rep.str (Au50a1) ((r46).length) (cu50a1) (r46)) hu50a1
    refine q_seq hS rfl rfl rfl (y_assign hS rfl) ?_; clear hS a; intro a hS
    apply wpList_nil
    refine p_norm ?_
    apply wp_seq
    apply wp_region_lit
    refine q_seq hS rfl rfl rfl (y_assign hS rfl) ?_; clear hS a; intro a hS
    apply wpList_nil
    refine p_norm ?_
    apply wp_seq
    apply wp_seq
    apply wp_region_lit
    refine q_seq hS rfl rfl rfl (y_assign hS rfl) ?_; clear hS a; intro a hS
    apply wpList_nil
    refine p_norm ?_
    replace hg := jn_some hg; obtain ⟨k51, hg, hk51⟩ := hg
    refine c_post (fun a w => ∃ (t_52 : Bool), k51 t_52 = some r ∧ St (⟨Try.f6.ntmps, M, noB, w0⟩ : Ctx) [(1, .string (bs (t_'))), (2, .string (bs (t_''))), (3, .pointer (some ⟨b2, 0, none⟩)), (8, .bool (t_52))] [(1000, Ob.box b2 [.int .i64 (t_.Kind), .slice (Ap02) ((t_.Pairs).length) (cp02)] 24)] [(101, slF RChange (Ap02) ((t_.Pairs).length) (cp02) (t_.Pairs))] a w) ?_ ?_
    · apply wp_block
      refine c_loop (σ := Nat) (fun m1 a w => ∃ (t_53 : Bool), ∃ (t_54 : Nat), law23_AffixUndo_L0 n t_ t_' t_'' r46 k51 m1 t_53 t_54 = some r ∧ St (⟨Try.f6.ntmps, M, noB, w0⟩ : Ctx) [(1, .string (bs (t_'))), (2, .string (bs (t_''))), (3, .pointer (some ⟨b2, 0, none⟩)), (7, .slice (Au50a1) ((r46).length) (cu50a1)), (8, .bool (t_53)), (9, .int .i64 (((t_54 : Nat) : Int)))] [(1000, Ob.box b2 [.int .i64 (t_.Kind), .slice (Ap02) ((t_.Pairs).length) (cp02)] 24)] [(101, slF RChange (Ap02) ((t_.Pairs).length) (cp02) (t_.Pairs)), (103, slF Rep.str (Au50a1) ((r46).length) (cu50a1) (r46))] a w) (fun m1 => m1) n ⟨(false), (0), hg, (hS.sub ⟨rfl, rfl, rfl, rfl, rfl, rfl, trivial⟩ ⟨rfl, trivial⟩ ⟨rfl, rfl, trivial⟩)⟩ ?_
      clear hS a; rintro m1 a w ⟨t_53, t_54, hg, hS⟩
      rcases m1 with _ | m1
      · rw [law23_AffixUndo_L0] at hg; cases hg
      rw [law23_AffixUndo_L0] at hg
      apply wp_seq
      apply wp_seq
      apply wp_region_lit
      refine q_seq hS rfl rfl rfl (y_move hS rfl) ?_; clear hS a; intro a hS
      refine q_seq hS rfl rfl rfl (y_move hS rfl) ?_; clear hS a; intro a hS
      refine q_seq hS rfl rfl rfl (y_lenSlice hS rfl Try.underlying34) ?_; clear hS a; intro a hS
      refine q_seq hS rfl rfl rfl (y_lssN (i := t_54) (j := ((r46).length)) hS rfl rfl) ?_; clear hS a; intro a hS
      apply wpList_nil
      refine p_norm ?_
      refine c_dec hS rfl (fun hc55 => ?_) (fun hc55 => ?_)
      · replace hg := br_t hg hc55
        have hmx56 := SlR.mx (hS.fact (k := 103) rfl)
        apply wp_skip
        refine p_norm ?_
        apply wp_seq
        apply wp_block
        apply wp_seq
        replace hg := bind_some hg; obtain ⟨x58, hx58, hg⟩ := hg
        replace hg := bind_some hg; obtain ⟨r60, hr60, hg⟩ := hg
        refine d_steps hS [] rfl ?_; clear hS; intro wr hZ hS; have hR := hS.wd; have hE := Ext.init hR 0
        refine n_q 0 1000 hS hR rfl (by kernel_rfl) (by kernel_rfl) (by kernel_rfl) rfl rfl rfl (y_loadBox (kk := 1000) (n := 2) (vs := [.int .i64 (t_.Kind), .slice (Ap02) ((t_.Pairs).length) (cp02)]) hS rfl rfl Try.underlying24 rfl rfl rfl rfl) ?_; clear hS a; intro a hS
        refine n_q 1 0 hS hR rfl (by kernel_rfl) (by kernel_rfl) (by kernel_rfl) rfl rfl rfl (y_move hS rfl) ?_; clear hS a; intro a hS
        refine n_q 2 0 hS hR rfl (by kernel_rfl) (by kernel_rfl) (by kernel_rfl) rfl rfl rfl (y_move hS rfl) ?_; clear hS a; intro a hS
        obtain ⟨p63, hep63, hpp63⟩ := SlR.elemX (hS.fact (k := 103) rfl) hx58
        refine n_q 3 0 hS hR rfl (by kernel_rfl) (by kernel_rfl) (by kernel_rfl) rfl rfl rfl (y_elem (sz := 1) (i := t_54) hS rfl rfl Try.underlying34 rfl hep63 rfl (lt_of_get hx58)) ?_; clear hS a; intro a hS
        obtain ⟨hlq64, hmq64, csq64, hdq64, hcq64⟩ := hpp63
        obtain ⟨rfl, lq641⟩ := hdq64
        refine n_q 4 0 hS hR rfl (by kernel_rfl) (by kernel_rfl) (by kernel_rfl) rfl rfl rfl (y_ldp1 hS rfl hlq64 hmq64 (hcq64 0 _ rfl) Try.underlying9 rfl) ?_; clear hS a; intro a hS
        refine n_1 5 hS (by kernel_rfl) rfl rfl (l_call (cap := []) hS rfl Try.func14 rfl (by kernel_rfl) rfl rfl (c_affix_Apply n _ _ hS.lt t_ (Ap02) (cp02) (hS.fact (k := 101) rfl) x58 (by first | omega | (rw [List.length_append]; omega) | (simp only [List.length_append]; omega) | (simp only [List.length_append, List.length_take, List.length_drop, List.length_cons, List.length_nil]; omega)) r60 hr60) ?_); clear hS a; intro v65 a w hK hp hS
        replace hE := hE.grow hK; replace hZ := Nat.le_trans hZ hK.size; refine ⟨fun g _ h => h.grow hK, ?_⟩; clear hK
        obtain ⟨rfl, lu66a1⟩ := hp
        refine n_1 6 hS (by kernel_rfl) rfl rfl (l_quiet hS rfl rfl (y_move hS rfl) ?_); clear hS a; intro a hS; refine ⟨fun g _ h => h, ?_⟩
        refine n_2 7 8 hS (by kernel_rfl) rfl rfl rfl rfl ?_ ?_
        · refine l_quiet hS rfl rfl (y_extract hS rfl rfl) ?_; clear hS a; intro a hS; refine ⟨fun g _ h => h, ?_⟩
          refine n_2 8 9 hS (by kernel_rfl) rfl rfl rfl rfl ?_ ?_
          · refine l_quiet hS rfl rfl (y_extract hS rfl rfl) ?_; clear hS a; intro a hS; refine ⟨fun g _ h => h, ?_⟩
            refine n_1 9 hS (by kernel_rfl) rfl rfl (l_quiet hS rfl rfl (y_assign hS rfl) ?_); clear hS a; intro a hS; refine ⟨fun g _ h => h, ?_⟩
            refine n_1 10 hS (by kernel_rfl) rfl rfl (l_quiet hS rfl rfl (y_assign hS rfl) ?_); clear hS a; intro a hS; refine ⟨fun g _ h => h, ?_⟩
            refine n_end (by kernel_rfl) ?_; clear hR hZ hE
            refine p_norm ?_
            apply wp_seq
            apply wp_seq
            replace hg := jn_some hg; obtain ⟨k67, hg, hk67⟩ := hg
            refine c_post (fun a w => ∃ (t_68 : Bool), k67 t_68 = some r ∧ St (⟨Try.f6.ntmps, M, noB, w0⟩ : Ctx) [(1, .string (bs (t_'))), (2, .string (bs (t_''))), (3, .pointer (some ⟨b2, 0, none⟩)), (7, .slice (Au50a1) ((r46).length) (cu50a1)), (8, .bool (t_53)), (9, .int .i64 (((t_54 : Nat) : Int))), (81, .bool (t_68))] [(1000, Ob.box b2 [.int .i64 (t_.Kind), .slice (Ap02) ((t_.Pairs).length) (cp02)] 24)] [(101, slF RChange (Ap02) ((t_.Pairs).length) (cp02) (t_.Pairs)), (103, slF Rep.str (Au50a1) ((r46).length) (cu50a1) (r46))] a w) ?_ ?_
            · rcases Bool.eq_false_or_eq_true (!(r60.2)) with hs69 | hs69
              · replace hg := br_t hg hs69
                refine d_plan hS [] [(0, some 0), (1, some 0), (2, some 0), (3, some 0), (4, some 0), (5, some 0), (6, some 0), (7, some 0), (8, some 0), (9, some 0), (10, some 0), (11, some 0), (12, some 0), (13, some 0), (14, some 0), (15, some 0), (16, some 0), (17, some 0), (18, some 0), (19, some 0), (20, some 0), (21, some 0), (22, some 0), (23, some 0), (24, some 0), (25, some 0), (26, some 0), (27, some 0), (28, some 0), (29, some 0), (30, some 0)] rfl (by kernel_rfl) (by kernel_rfl) rfl ?_; clear hS; intro wr hZ hS; have hR := hS.wd
                refine q_take hS hR rfl rfl rfl rfl (y_move hS rfl) ?_; clear hS a; intro a hS
                refine q_take hS hR rfl rfl rfl rfl (yl_b (y_not hS rfl) hs69) ?_; clear hS a; intro a hS
                refine q_take hS hR rfl rfl rfl rfl (y_move hS rfl) ?_; clear hS a; intro a hS
                refine q_pass hS hR rfl rfl ⟨_, _, _, rfl, rfl, rfl, rfl⟩ rfl ?_; clear hS a; intro a hS
                refine q_pass hS hR rfl rfl ⟨_, _, _, rfl, rfl, rfl, rfl⟩ rfl ?_; clear hS a; intro a hS
                refine q_pass hS hR rfl rfl ⟨_, _, _, rfl, rfl, rfl, rfl⟩ rfl ?_; clear hS a; intro a hS
                refine q_take hS hR rfl rfl rfl rfl (y_pick_t hS rfl rfl) ?_; clear hS a; intro a hS
                refine q_take hS hR rfl rfl rfl rfl (y_move hS rfl) ?_; clear hS a; intro a hS
                refine q_pass hS hR rfl rfl ⟨_, _, _, rfl, rfl, rfl, rfl⟩ rfl ?_; clear hS a; intro a hS
                refine q_pass hS hR rfl rfl ⟨_, _, _, rfl, rfl, rfl, rfl⟩ rfl ?_; clear hS a; intro a hS
                refine q_pass hS hR rfl rfl ⟨_, _, _, rfl, rfl, rfl, rfl⟩ rfl ?_; clear hS a; intro a hS
                refine q_pass hS hR rfl rfl ⟨_, _, _, rfl, rfl, rfl, rfl⟩ rfl ?_; clear hS a; intro a hS
                refine q_pass hS hR rfl rfl ⟨_, _, _, rfl, rfl, rfl, rfl⟩ rfl ?_; clear hS a; intro a hS
                refine q_pass hS hR rfl rfl ⟨_, _, _, rfl, rfl, rfl, rfl⟩ rfl ?_; clear hS a; intro a hS
                refine q_take hS hR rfl rfl rfl rfl (y_pick_t hS rfl rfl) ?_; clear hS a; intro a hS
                refine q_take hS hR rfl rfl rfl rfl (y_move hS rfl) ?_; clear hS a; intro a hS
                refine q_pass hS hR rfl rfl ⟨_, _, _, rfl, rfl, rfl, rfl⟩ rfl ?_; clear hS a; intro a hS
                refine q_pass hS hR rfl rfl ⟨_, _, _, rfl, rfl, rfl, rfl⟩ rfl ?_; clear hS a; intro a hS
                refine q_pass hS hR rfl rfl ⟨_, _, _, rfl, rfl, rfl, rfl⟩ rfl ?_; clear hS a; intro a hS
                refine q_pass hS hR rfl rfl ⟨_, _, _, rfl, rfl, rfl, rfl⟩ rfl ?_; clear hS a; intro a hS
                refine q_pass hS hR rfl rfl ⟨_, _, _, rfl, rfl, rfl, rfl⟩ rfl ?_; clear hS a; intro a hS
                refine q_pass hS hR rfl rfl ⟨_, _, _, rfl, rfl, rfl, rfl⟩ rfl ?_; clear hS a; intro a hS
                refine q_pass hS hR rfl rfl ⟨_, _, _, rfl, rfl, rfl, rfl⟩ rfl ?_; clear hS a; intro a hS
                refine q_pass hS hR rfl rfl ⟨_, _, _, rfl, rfl, rfl, rfl⟩ rfl ?_; clear hS a; intro a hS
                refine q_pass hS hR rfl rfl ⟨_, _, _, rfl, rfl, rfl, rfl⟩ rfl ?_; clear hS a; intro a hS
                refine q_pass hS hR rfl rfl ⟨_, _, _, rfl, rfl, rfl, rfl⟩ rfl ?_; clear hS a; intro a hS
                refine q_pass hS hR rfl rfl ⟨_, _, _, rfl, rfl, rfl, rfl⟩ rfl ?_; clear hS a; intro a hS
                refine q_pass hS hR rfl rfl ⟨_, _, _, rfl, rfl, rfl, rfl⟩ rfl ?_; clear hS a; intro a hS
                refine q_pass hS hR rfl rfl ⟨_, _, _, rfl, rfl, rfl, rfl⟩ rfl ?_; clear hS a; intro a hS
                refine q_pass hS hR rfl rfl ⟨_, _, _, rfl, rfl, rfl, rfl⟩ rfl ?_; clear hS a; intro a hS
                refine q_take hS hR rfl rfl rfl rfl (y_pick_t hS rfl rfl) ?_; clear hS a; intro a hS
                clear hR hZ
                refine p_norm ?_
                exact ⟨(true), hg, (hS.sub ⟨rfl, rfl, rfl, rfl, rfl, rfl, rfl, trivial⟩ ⟨rfl, trivial⟩ ⟨rfl, rfl, trivial⟩)⟩
              · replace hg := br_f hg (by rw [hs69]; exact Bool.false_ne_true)
                rcases Decidable.em ((r60.1 : List UInt8) ≠ t_'') with hs70 | hs70
                · have hs70e : decide ((r60.1 : List UInt8) ≠ t_'') = true := decide_eq_true hs70
                  replace hg := br_t hg hs70
                  refine d_plan hS [] [(0, some 0), (1, some 0), (2, some 0), (3, some 0), (4, some 0), (5, some 0), (6, some 0), (7, some 0), (8, some 0), (9, some 0), (10, some 0), (11, some 0), (12, some 0), (13, some 0), (14, some 0), (15, some 0), (16, some 0), (17, some 0), (18, some 0), (19, some 0), (20, some 0), (21, some 0), (22, some 0), (23, some 0), (24, some 0), (25, some 0), (26, some 0), (27, some 0), (28, some 0), (29, some 0), (30, some 0)] rfl (by kernel_rfl) (by kernel_rfl) rfl ?_; clear hS; intro wr hZ hS; have hR := hS.wd
                  refine q_take hS hR rfl rfl rfl rfl (y_move hS rfl) ?_; clear hS a; intro a hS
                  refine q_take hS hR rfl rfl rfl rfl (yl_b (y_not hS rfl) hs69) ?_; clear hS a; intro a hS
                  refine q_take hS hR rfl rfl rfl rfl (y_move hS rfl) ?_; clear hS a; intro a hS
                  refine q_take hS hR rfl rfl ⟨_, _, _, rfl, rfl, rfl, rfl⟩ rfl (y_move hS rfl) ?_; clear hS a; intro a hS
                  refine q_take hS hR rfl rfl ⟨_, _, _, rfl, rfl, rfl, rfl⟩ rfl (y_move hS rfl) ?_; clear hS a; intro a hS
                  refine q_take hS hR rfl rfl ⟨_, _, _, rfl, rfl, rfl, rfl⟩ rfl (yl_b (y_sne hS rfl rfl) hs70e) ?_; clear hS a; intro a hS
                  refine q_take hS hR rfl rfl rfl rfl (y_pick_f hS rfl rfl) ?_; clear hS a; intro a hS
                  refine q_take hS hR rfl rfl rfl rfl (y_move hS rfl) ?_; clear hS a; intro a hS
                  refine q_pass hS hR rfl rfl ⟨_, _, _, rfl, rfl, rfl, rfl⟩ rfl ?_; clear hS a; intro a hS
                  refine q_pass hS hR rfl rfl ⟨_, _, _, rfl, rfl, rfl, rfl⟩ rfl ?_; clear hS a; intro a hS
                  refine q_pass hS hR rfl rfl ⟨_, _, _, rfl, rfl, rfl, rfl⟩ rfl ?_; clear hS a; intro a hS
                  refine q_pass hS hR rfl rfl ⟨_, _, _, rfl, rfl, rfl, rfl⟩ rfl ?_; clear hS a; intro a hS
                  refine q_pass hS hR rfl rfl ⟨_, _, _, rfl, rfl, rfl, rfl⟩ rfl ?_; clear hS a; intro a hS
                  refine q_pass hS hR rfl rfl ⟨_, _, _, rfl, rfl, rfl, rfl⟩ rfl ?_; clear hS a; intro a hS
                  refine q_take hS hR rfl rfl rfl rfl (y_pick_t hS rfl rfl) ?_; clear hS a; intro a hS
                  refine q_take hS hR rfl rfl rfl rfl (y_move hS rfl) ?_; clear hS a; intro a hS
                  refine q_pass hS hR rfl rfl ⟨_, _, _, rfl, rfl, rfl, rfl⟩ rfl ?_; clear hS a; intro a hS
                  refine q_pass hS hR rfl rfl ⟨_, _, _, rfl, rfl, rfl, rfl⟩ rfl ?_; clear hS a; intro a hS
                  refine q_pass hS hR rfl rfl ⟨_, _, _, rfl, rfl, rfl, rfl⟩ rfl ?_; clear hS a; intro a hS
                  refine q_pass hS hR rfl rfl ⟨_, _, _, rfl, rfl, rfl, rfl⟩ rfl ?_; clear hS a; intro a hS
                  refine q_pass hS hR rfl rfl ⟨_, _, _, rfl, rfl, rfl, rfl⟩ rfl ?_; clear hS a; intro a hS
                  refine q_pass hS hR rfl rfl ⟨_, _, _, rfl, rfl, rfl, rfl⟩ rfl ?_; clear hS a; intro a hS
                  refine q_pass hS hR rfl rfl ⟨_, _, _, rfl, rfl, rfl, rfl⟩ rfl ?_; clear hS a; intro a hS
                  refine q_pass hS hR rfl rfl ⟨_, _, _, rfl, rfl, rfl, rfl⟩ rfl ?_; clear hS a; intro a hS
                  refine q_pass hS hR rfl rfl ⟨_, _, _, rfl, rfl, rfl, rfl⟩ rfl ?_; clear hS a; intro a hS
                  refine q_pass hS hR rfl rfl ⟨_, _, _, rfl, rfl, rfl, rfl⟩ rfl ?_; clear hS a; intro a hS
                  refine q_pass hS hR rfl rfl ⟨_, _, _, rfl, rfl, rfl, rfl⟩ rfl ?_; clear hS a; intro a hS
                  refine q_pass hS hR rfl rfl ⟨_, _, _, rfl, rfl, rfl, rfl⟩ rfl ?_; clear hS a; intro a hS
                  refine q_pass hS hR rfl rfl ⟨_, _, _, rfl, rfl, rfl, rfl⟩ rfl ?_; clear hS a; intro a hS
                  refine q_pass hS hR rfl rfl ⟨_, _, _, rfl, rfl, rfl, rfl⟩ rfl ?_; clear hS a; intro a hS
                  refine q_take hS hR rfl rfl rfl rfl (y_pick_t hS rfl rfl) ?_; clear hS a; intro a hS
                  clear hR hZ
                  refine p_norm ?_
                  exact ⟨(true), hg, (hS.sub ⟨rfl, rfl, rfl, rfl, rfl, rfl, rfl, trivial⟩ ⟨rfl, trivial⟩ ⟨rfl, rfl, trivial⟩)⟩
                · have hs70e : decide ((r60.1 : List UInt8) ≠ t_'') = false := decide_eq_false hs70
                  replace hg := br_f hg hs70
                  replace hg := bind_some hg; obtain ⟨r73, hr73, hg⟩ := hg
                  rcases Bool.eq_false_or_eq_true (!(r73)) with hs76 | hs76
                  · replace hg := br_t hg hs76
                    refine d_steps hS [] rfl ?_; clear hS; intro wr hZ hS; have hR := hS.wd; have hE := Ext.init hR 0
                    refine n_q 0 0 hS hR rfl (by kernel_rfl) (by kernel_rfl) (by kernel_rfl) rfl rfl rfl (y_move hS rfl) ?_; clear hS a; intro a hS
                    refine n_q 1 0 hS hR rfl (by kernel_rfl) (by kernel_rfl) (by kernel_rfl) rfl rfl rfl (yl_b (y_not hS rfl) hs69) ?_; clear hS a; intro a hS
                    refine n_q 2 0 hS hR rfl (by kernel_rfl) (by kernel_rfl) (by kernel_rfl) rfl rfl rfl (y_move hS rfl) ?_; clear hS a; intro a hS
                    refine n_q 3 0 hS hR rfl (by kernel_rfl) (by kernel_rfl) (by kernel_rfl) rfl ⟨_, _, _, rfl, rfl, rfl, rfl⟩ rfl (y_move hS rfl) ?_; clear hS a; intro a hS
                    refine n_q 4 0 hS hR rfl (by kernel_rfl) (by kernel_rfl) (by kernel_rfl) rfl ⟨_, _, _, rfl, rfl, rfl, rfl⟩ rfl (y_move hS rfl) ?_; clear hS a; intro a hS
                    refine n_q 5 0 hS hR rfl (by kernel_rfl) (by kernel_rfl) (by kernel_rfl) rfl ⟨_, _, _, rfl, rfl, rfl, rfl⟩ rfl (yl_b (y_sne hS rfl rfl) hs70e) ?_; clear hS a; intro a hS
                    refine n_q 6 0 hS hR rfl (by kernel_rfl) (by kernel_rfl) (by kernel_rfl) rfl rfl rfl (y_pick_f hS rfl rfl) ?_; clear hS a; intro a hS
                    refine n_q 7 0 hS hR rfl (by kernel_rfl) (by kernel_rfl) (by kernel_rfl) rfl rfl rfl (y_move hS rfl) ?_; clear hS a; intro a hS
                    refine n_q 8 0 hS hR rfl (by kernel_rfl) (by kernel_rfl) (by kernel_rfl) rfl ⟨_, _, _, rfl, rfl, rfl, rfl⟩ rfl (y_move hS rfl) ?_; clear hS a; intro a hS
                    refine n_q 9 0 hS hR rfl (by kernel_rfl) (by kernel_rfl) (by kernel_rfl) rfl ⟨_, _, _, rfl, rfl, rfl, rfl⟩ rfl (y_move hS rfl) ?_; clear hS a; intro a hS
                    obtain ⟨p77, hep77, hpp77⟩ := SlR.elemX (hS.fact (k := 103) rfl) hx58
                    refine n_q 10 0 hS hR rfl (by kernel_rfl) (by kernel_rfl) (by kernel_rfl) rfl ⟨_, _, _, rfl, rfl, rfl, rfl⟩ rfl (y_elem (sz := 1) (i := t_54) hS rfl rfl Try.underlying34 rfl hep77 rfl (lt_of_get hx58)) ?_; clear hS a; intro a hS
                    obtain ⟨hlq78, hmq78, csq78, hdq78, hcq78⟩ := hpp77
                    obtain ⟨rfl, lq781⟩ := hdq78
                    refine n_q 11 0 hS hR rfl (by kernel_rfl) (by kernel_rfl) (by kernel_rfl) rfl ⟨_, _, _, rfl, rfl, rfl, rfl⟩ rfl (y_ldp1 hS rfl hlq78 hmq78 (hcq78 0 _ rfl) Try.underlying9 rfl) ?_; clear hS a; intro a hS
                    refine n_1 12 hS (by kernel_rfl) rfl ⟨_, _, _, rfl, rfl, rfl, rfl⟩ (l_call (cap := []) hS rfl Try.func13 rfl (by kernel_rfl) rfl rfl (c_r01_Word n _ _ hS.lt x58 (by first | omega | (rw [List.length_append]; omega) | (simp only [List.length_append]; omega) | (simp only [List.length_append, List.length_take, List.length_drop, List.length_cons, List.length_nil]; omega)) r73 hr73) ?_); clear hS a; intro v79 a w hK hp hS
                    replace hE := hE.grow hK; replace hZ := Nat.le_trans hZ hK.size; refine ⟨fun g _ h => h.grow hK, ?_⟩; clear hK
                    obtain rfl := hp
                    refine n_1 13 hS (by kernel_rfl) rfl ⟨_, _, _, rfl, rfl, rfl, rfl⟩ (l_quiet hS rfl rfl (yl_b (y_not hS rfl) hs76) ?_); clear hS a; intro a hS; refine ⟨fun g _ h => h, ?_⟩
                    refine n_1 14 hS (by kernel_rfl) rfl rfl (l_quiet hS rfl rfl (y_pick_f hS rfl rfl) ?_); clear hS a; intro a hS; refine ⟨fun g _ h => h, ?_⟩
                    refine n_1 15 hS (by kernel_rfl) rfl rfl (l_quiet hS rfl rfl (y_move hS rfl) ?_); clear hS a; intro a hS; refine ⟨fun g _ h => h, ?_⟩
                    refine n_pass 16 hS (by kernel_rfl) rfl ⟨_, _, _, rfl, rfl, rfl, rfl⟩ rfl rfl ?_; clear hS a; intro a hS
                    refine n_pass 17 hS (by kernel_rfl) rfl ⟨_, _, _, rfl, rfl, rfl, rfl⟩ rfl rfl ?_; clear hS a; intro a hS
                    refine n_pass 18 hS (by kernel_rfl) rfl ⟨_, _, _, rfl, rfl, rfl, rfl⟩ rfl rfl ?_; clear hS a; intro a hS
                    refine n_qlpass 19 hS hE rfl (by kernel_rfl) (by kernel_rfl) (by kernel_rfl) rfl ⟨_, _, _, rfl, rfl, rfl, rfl⟩ rfl ?_; clear hS a; intro a hS
                    refine n_qlpass 20 hS hE rfl (by kernel_rfl) (by kernel_rfl) (by kernel_rfl) rfl ⟨_, _, _, rfl, rfl, rfl, rfl⟩ rfl ?_; clear hS a; intro a hS
                    refine n_qlpass 21 hS hE rfl (by kernel_rfl) (by kernel_rfl) (by kernel_rfl) rfl ⟨_, _, _, rfl, rfl, rfl, rfl⟩ rfl ?_; clear hS a; intro a hS
                    refine n_qlpass 22 hS hE rfl (by kernel_rfl) (by kernel_rfl) (by kernel_rfl) rfl ⟨_, _, _, rfl, rfl, rfl, rfl⟩ rfl ?_; clear hS a; intro a hS
                    refine n_qlpass 23 hS hE rfl (by kernel_rfl) (by kernel_rfl) (by kernel_rfl) rfl ⟨_, _, _, rfl, rfl, rfl, rfl⟩ rfl ?_; clear hS a; intro a hS
                    refine n_qlpass 24 hS hE rfl (by kernel_rfl) (by kernel_rfl) (by kernel_rfl) rfl ⟨_, _, _, rfl, rfl, rfl, rfl⟩ rfl ?_; clear hS a; intro a hS
                    refine n_pass 25 hS (by kernel_rfl) rfl ⟨_, _, _, rfl, rfl, rfl, rfl⟩ rfl rfl ?_; clear hS a; intro a hS
                    refine n_pass 26 hS (by kernel_rfl) rfl ⟨_, _, _, rfl, rfl, rfl, rfl⟩ rfl rfl ?_; clear hS a; intro a hS
                    refine n_pass 27 hS (by kernel_rfl) rfl ⟨_, _, _, rfl, rfl, rfl, rfl⟩ rfl rfl ?_; clear hS a; intro a hS
                    refine n_pass 28 hS (by kernel_rfl) rfl ⟨_, _, _, rfl, rfl, rfl, rfl⟩ rfl rfl ?_; clear hS a; intro a hS
                    refine n_pass 29 hS (by kernel_rfl) rfl ⟨_, _, _, rfl, rfl, rfl, rfl⟩ rfl rfl ?_; clear hS a; intro a hS
                    refine n_1 30 hS (by kernel_rfl) rfl rfl (l_quiet hS rfl rfl (y_pick_t hS rfl rfl) ?_); clear hS a; intro a hS; refine ⟨fun g _ h => h, ?_⟩
                    refine n_end (by kernel_rfl) ?_; clear hR hZ hE
                    refine p_norm ?_
                    exact ⟨(true), hg, (hS.sub ⟨rfl, rfl, rfl, rfl, rfl, rfl, rfl, trivial⟩ ⟨rfl, trivial⟩ ⟨rfl, rfl, trivial⟩)⟩
                  · replace hg := br_f hg (by rw [hs76]; exact Bool.false_ne_true)
                    rcases Decidable.em ((0 : Nat) < t_54) with hs81 | hs81
                    · have hs81e : decide ((0 : Nat) < t_54) = true := decide_eq_true hs81
                      replace hg := br_t hg hs81
                      replace hg := bind_some hg; obtain ⟨x83, hx83, hg⟩ := hg
                      refine d_steps hS [] rfl ?_; clear hS; intro wr hZ hS; have hR := hS.wd; have hE := Ext.init hR 0
                      refine n_q 0 0 hS hR rfl (by kernel_rfl) (by kernel_rfl) (by kernel_rfl) rfl rfl rfl (y_move hS rfl) ?_; clear hS a; intro a hS
                      refine n_q 1 0 hS hR rfl (by kernel_rfl) (by kernel_rfl) (by kernel_rfl) rfl rfl rfl (yl_b (y_not hS rfl) hs69) ?_; clear hS a; intro a hS
                      refine n_q 2 0 hS hR rfl (by kernel_rfl) (by kernel_rfl) (by kernel_rfl) rfl rfl rfl (y_move hS rfl) ?_; clear hS a; intro a hS
                      refine n_q 3 0 hS hR rfl (by kernel_rfl) (by kernel_rfl) (by kernel_rfl) rfl ⟨_, _, _, rfl, rfl, rfl, rfl⟩ rfl (y_move hS rfl) ?_; clear hS a; intro a hS
                      refine n_q 4 0 hS hR rfl (by kernel_rfl) (by kernel_rfl) (by kernel_rfl) rfl ⟨_, _, _, rfl, rfl, rfl, rfl⟩ rfl (y_move hS rfl) ?_; clear hS a; intro a hS
                      refine n_q 5 0 hS hR rfl (by kernel_rfl) (by kernel_rfl) (by kernel_rfl) rfl ⟨_, _, _, rfl, rfl, rfl, rfl⟩ rfl (yl_b (y_sne hS rfl rfl) hs70e) ?_; clear hS a; intro a hS
                      refine n_q 6 0 hS hR rfl (by kernel_rfl) (by kernel_rfl) (by kernel_rfl) rfl rfl rfl (y_pick_f hS rfl rfl) ?_; clear hS a; intro a hS
                      refine n_q 7 0 hS hR rfl (by kernel_rfl) (by kernel_rfl) (by kernel_rfl) rfl rfl rfl (y_move hS rfl) ?_; clear hS a; intro a hS
                      refine n_q 8 0 hS hR rfl (by kernel_rfl) (by kernel_rfl) (by kernel_rfl) rfl ⟨_, _, _, rfl, rfl, rfl, rfl⟩ rfl (y_move hS rfl) ?_; clear hS a; intro a hS
                      refine n_q 9 0 hS hR rfl (by kernel_rfl) (by kernel_rfl) (by kernel_rfl) rfl ⟨_, _, _, rfl, rfl, rfl, rfl⟩ rfl (y_move hS rfl) ?_; clear hS a; intro a hS
                      obtain ⟨p87, hep87, hpp87⟩ := SlR.elemX (hS.fact (k := 103) rfl) hx58
                      refine n_q 10 0 hS hR rfl (by kernel_rfl) (by kernel_rfl) (by kernel_rfl) rfl ⟨_, _, _, rfl, rfl, rfl, rfl⟩ rfl (y_elem (sz := 1) (i := t_54) hS rfl rfl Try.underlying34 rfl hep87 rfl (lt_of_get hx58)) ?_; clear hS a; intro a hS
                      obtain ⟨hlq88, hmq88, csq88, hdq88, hcq88⟩ := hpp87
                      obtain ⟨rfl, lq881⟩ := hdq88
                      refine n_q 11 0 hS hR rfl (by kernel_rfl) (by kernel_rfl) (by kernel_rfl) rfl ⟨_, _, _, rfl, rfl, rfl, rfl⟩ rfl (y_ldp1 hS rfl hlq88 hmq88 (hcq88 0 _ rfl) Try.underlying9 rfl) ?_; clear hS a; intro a hS
                      refine n_1 12 hS (by kernel_rfl) rfl ⟨_, _, _, rfl, rfl, rfl, rfl⟩ (l_call (cap := []) hS rfl Try.func13 rfl (by kernel_rfl) rfl rfl (c_r01_Word n _ _ hS.lt x58 (by first | omega | (rw [List.length_append]; omega) | (simp only [List.length_append]; omega) | (simp only [List.length_append, List.length_take, List.length_drop, List.length_cons, List.length_nil]; omega)) r73 hr73) ?_); clear hS a; intro v89 a w hK hp hS
                      replace hE := hE.grow hK; replace hZ := Nat.le_trans hZ hK.size; refine ⟨fun g _ h => h.grow hK, ?_⟩; clear hK
                      obtain rfl := hp
                      refine n_1 13 hS (by kernel_rfl) rfl ⟨_, _, _, rfl, rfl, rfl, rfl⟩ (l_quiet hS rfl rfl (yl_b (y_not hS rfl) hs76) ?_); clear hS a; intro a hS; refine ⟨fun g _ h => h, ?_⟩
                      refine n_1 14 hS (by kernel_rfl) rfl rfl (l_quiet hS rfl rfl (y_pick_f hS rfl rfl) ?_); clear hS a; intro a hS; refine ⟨fun g _ h => h, ?_⟩
                      refine n_1 15 hS (by kernel_rfl) rfl rfl (l_quiet hS rfl rfl (y_move hS rfl) ?_); clear hS a; intro a hS; refine ⟨fun g _ h => h, ?_⟩
                      refine n_1 16 hS (by kernel_rfl) rfl ⟨_, _, _, rfl, rfl, rfl, rfl⟩ (l_quiet hS rfl rfl (y_move hS rfl) ?_); clear hS a; intro a hS; refine ⟨fun g _ h => h, ?_⟩
                      refine n_1 17 hS (by kernel_rfl) rfl ⟨_, _, _, rfl, rfl, rfl, rfl⟩ (l_quiet hS rfl rfl (yl_b (y_gtrN (i := t_54) (j := 0) hS rfl rfl) hs81e) ?_); clear hS a; intro a hS; refine ⟨fun g _ h => h, ?_⟩
                      refine n_1 18 hS (by kernel_rfl) rfl ⟨_, _, _, rfl, rfl, rfl, rfl⟩ (l_quiet hS rfl rfl (y_move hS rfl) ?_); clear hS a; intro a hS; refine ⟨fun g _ h => h, ?_⟩
                      refine n_ql 19 hS hE rfl (by kernel_rfl) (by kernel_rfl) (by kernel_rfl) rfl ⟨_, _, _, rfl, rfl, rfl, rfl⟩ rfl (fun w' hS => y_move hS rfl) ?_; clear hS a; intro a hS
                      refine n_ql 20 hS hE rfl (by kernel_rfl) (by kernel_rfl) (by kernel_rfl) rfl ⟨_, _, _, rfl, rfl, rfl, rfl⟩ rfl (fun w' hS => y_move hS rfl) ?_; clear hS a; intro a hS
                      refine n_ql 21 hS hE rfl (by kernel_rfl) (by kernel_rfl) (by kernel_rfl) rfl ⟨_, _, _, rfl, rfl, rfl, rfl⟩ rfl (fun w' hS => y_sub hS rfl rfl (in64.2 (by omega))) ?_; clear hS a; intro a hS
                      obtain ⟨p91, hep91, hpp91⟩ := SlR.elemX (hS.fact (k := 103) rfl) (ix_some hx83).1
                      refine n_ql 22 hS hE rfl (by kernel_rfl) (by kernel_rfl) (by kernel_rfl) rfl ⟨_, _, _, rfl, rfl, rfl, rfl⟩ rfl (fun w' hS => y_elem (sz := 1) (i := ((((t_54 : Nat) : Int) - 1).toNat)) hS rfl rfl Try.underlying34 rfl hep91 (ix_some hx83).2.1 (lt_of_get (ix_some hx83).1)) ?_; clear hS a; intro a hS
                      refine n_ql 24 hS hE rfl (by kernel_rfl) (by kernel_rfl) (by kernel_rfl) rfl ⟨_, _, _, rfl, rfl, rfl, rfl⟩ rfl (fun w' hS => y_move hS rfl) ?_; clear hS a; intro a hS
                      refine n_ql 25 hS hE rfl (by kernel_rfl) (by kernel_rfl) (by kernel_rfl) rfl ⟨_, _, _, rfl, rfl, rfl, rfl⟩ rfl (fun w' hS => y_move hS rfl) ?_; clear hS a; intro a hS
                      obtain ⟨p92, hep92, hpp92⟩ := SlR.elemX (hS.fact (k := 103) rfl) hx58
                      refine n_ql 26 hS hE rfl (by kernel_rfl) (by kernel_rfl) (by kernel_rfl) rfl ⟨_, _, _, rfl, rfl, rfl, rfl⟩ rfl (fun w' hS => y_elem (sz := 1) (i := t_54) hS rfl rfl Try.underlying34 rfl hep92 rfl (lt_of_get hx58)) ?_; clear hS a; intro a hS
                      refine n_2 23 27 hS (by kernel_rfl) rfl ⟨_, _, _, rfl, rfl, rfl, rfl⟩ rfl ⟨_, _, _, rfl, rfl, rfl, rfl⟩ ?_ ?_
                      · obtain ⟨hlq93, hmq93, csq93, hdq93, hcq93⟩ := hpp91
                        obtain ⟨rfl, lq931⟩ := hdq93
                        refine l_quiet hS rfl rfl (y_ldp1 hS rfl hlq93 hmq93 (hcq93 0 _ rfl) Try.underlying9 rfl) ?_; clear hS a; intro a hS; refine ⟨fun g _ h => h, ?_⟩
                        obtain ⟨hlq94, hmq94, csq94, hdq94, hcq94⟩ := hpp92
                        obtain ⟨rfl, lq941⟩ := hdq94
                        refine n_1 27 hS (by kernel_rfl) rfl ⟨_, _, _, rfl, rfl, rfl, rfl⟩ (l_quiet hS rfl rfl (y_ldp1 hS rfl hlq94 hmq94 (hcq94 0 _ rfl) Try.underlying9 rfl) ?_); clear hS a; intro a hS; refine ⟨fun g _ h => h, ?_⟩
                        refine n_1 28 hS (by kernel_rfl) rfl ⟨_, _, _, rfl, rfl, rfl, rfl⟩ (l_quiet hS rfl rfl (y_sgeq hS rfl rfl) ?_); clear hS a; intro a hS; refine ⟨fun g _ h => h, ?_⟩
                        refine n_1 29 hS (by kernel_rfl) rfl ⟨_, _, _, rfl, rfl, rfl, rfl⟩ (l_quiet hS rfl rfl (y_pick_t hS rfl rfl) ?_); clear hS a; intro a hS; refine ⟨fun g _ h => h, ?_⟩
                        refine n_1 30 hS (by kernel_rfl) rfl rfl (l_quiet hS rfl rfl (y_pick_f hS rfl rfl) ?_); clear hS a; intro a hS; refine ⟨fun g _ h => h, ?_⟩
                        refine n_end (by kernel_rfl) ?_; clear hR hZ hE
                        refine p_norm ?_
                        exact ⟨(!(Op.bytesLess x83 x58)), hg, (hS.sub ⟨rfl, rfl, rfl, rfl, rfl, rfl, rfl, trivial⟩ ⟨rfl, trivial⟩ ⟨rfl, rfl, trivial⟩)⟩
                      · obtain ⟨hlq95, hmq95, csq95, hdq95, hcq95⟩ := hpp92
                        obtain ⟨rfl, lq951⟩ := hdq95
                        refine l_quiet hS rfl rfl (y_ldp1 hS rfl hlq95 hmq95 (hcq95 0 _ rfl) Try.underlying9 rfl) ?_; clear hS a; intro a hS; refine ⟨fun g _ h => h, ?_⟩
                        obtain ⟨hlq96, hmq96, csq96, hdq96, hcq96⟩ := hpp91
                        obtain ⟨rfl, lq961⟩ := hdq96
                        refine n_1 23 hS (by kernel_rfl) rfl ⟨_, _, _, rfl, rfl, rfl, rfl⟩ (l_quiet hS rfl rfl (y_ldp1 hS rfl hlq96 hmq96 (hcq96 0 _ rfl) Try.underlying9 rfl) ?_); clear hS a; intro a hS; refine ⟨fun g _ h => h, ?_⟩
                        refine n_1 28 hS (by kernel_rfl) rfl ⟨_, _, _, rfl, rfl, rfl, rfl⟩ (l_quiet hS rfl rfl (y_sgeq hS rfl rfl) ?_); clear hS a; intro a hS; refine ⟨fun g _ h => h, ?_⟩
                        refine n_1 29 hS (by kernel_rfl) rfl ⟨_, _, _, rfl, rfl, rfl, rfl⟩ (l_quiet hS rfl rfl (y_pick_t hS rfl rfl) ?_); clear hS a; intro a hS; refine ⟨fun g _ h => h, ?_⟩
                        refine n_1 30 hS (by kernel_rfl) rfl rfl (l_quiet hS rfl rfl (y_pick_f hS rfl rfl) ?_); clear hS a; intro a hS; refine ⟨fun g _ h => h, ?_⟩
                        refine n_end (by kernel_rfl) ?_; clear hR hZ hE
                        refine p_norm ?_
                        exact ⟨(!(Op.bytesLess x83 x58)), hg, (hS.sub ⟨rfl, rfl, rfl, rfl, rfl, rfl, rfl, trivial⟩ ⟨rfl, trivial⟩ ⟨rfl, rfl, trivial⟩)⟩
                    · have hs81e : decide ((0 : Nat) < t_54) = false := decide_eq_false hs81
                      replace hg := br_f hg hs81
                      refine d_steps hS [] rfl ?_; clear hS; intro wr hZ hS; have hR := hS.wd; have hE := Ext.init hR 0
                      refine n_q 0 0 hS hR rfl (by kernel_rfl) (by kernel_rfl) (by kernel_rfl) rfl rfl rfl (y_move hS rfl) ?_; clear hS a; intro a hS
                      refine n_q 1 0 hS hR rfl (by kernel_rfl) (by kernel_rfl) (by kernel_rfl) rfl rfl rfl (yl_b (y_not hS rfl) hs69) ?_; clear hS a; intro a hS
                      refine n_q 2 0 hS hR rfl (by kernel_rfl) (by kernel_rfl) (by kernel_rfl) rfl rfl rfl (y_move hS rfl) ?_; clear hS a; intro a hS
                      refine n_q 3 0 hS hR rfl (by kernel_rfl) (by kernel_rfl) (by kernel_rfl) rfl ⟨_, _, _, rfl, rfl, rfl, rfl⟩ rfl (y_move hS rfl) ?_; clear hS a; intro a hS
                      refine n_q 4 0 hS hR rfl (by kernel_rfl) (by kernel_rfl) (by kernel_rfl) rfl ⟨_, _, _, rfl, rfl, rfl, rfl⟩ rfl (y_move hS rfl) ?_; clear hS a; intro a hS
                      refine n_q 5 0 hS hR rfl (by kernel_rfl) (by kernel_rfl) (by kernel_rfl) rfl ⟨_, _, _, rfl, rfl, rfl, rfl⟩ rfl (yl_b (y_sne hS rfl rfl) hs70e) ?_; clear hS a; intro a hS
                      refine n_q 6 0 hS hR rfl (by kernel_rfl) (by kernel_rfl) (by kernel_rfl) rfl rfl rfl (y_pick_f hS rfl rfl) ?_; clear hS a; intro a hS
                      refine n_q 7 0 hS hR rfl (by kernel_rfl) (by kernel_rfl) (by kernel_rfl) rfl rfl rfl (y_move hS rfl) ?_; clear hS a; intro a hS
                      refine n_q 8 0 hS hR rfl (by kernel_rfl) (by kernel_rfl) (by kernel_rfl) rfl ⟨_, _, _, rfl, rfl, rfl, rfl⟩ rfl (y_move hS rfl) ?_; clear hS a; intro a hS
                      refine n_q 9 0 hS hR rfl (by kernel_rfl) (by kernel_rfl) (by kernel_rfl) rfl ⟨_, _, _, rfl, rfl, rfl, rfl⟩ rfl (y_move hS rfl) ?_; clear hS a; intro a hS
                      obtain ⟨p97, hep97, hpp97⟩ := SlR.elemX (hS.fact (k := 103) rfl) hx58
                      refine n_q 10 0 hS hR rfl (by kernel_rfl) (by kernel_rfl) (by kernel_rfl) rfl ⟨_, _, _, rfl, rfl, rfl, rfl⟩ rfl (y_elem (sz := 1) (i := t_54) hS rfl rfl Try.underlying34 rfl hep97 rfl (lt_of_get hx58)) ?_; clear hS a; intro a hS
                      obtain ⟨hlq98, hmq98, csq98, hdq98, hcq98⟩ := hpp97
                      obtain ⟨rfl, lq981⟩ := hdq98
                      refine n_q 11 0 hS hR rfl (by kernel_rfl) (by kernel_rfl) (by kernel_rfl) rfl ⟨_, _, _, rfl, rfl, rfl, rfl⟩ rfl (y_ldp1 hS rfl hlq98 hmq98 (hcq98 0 _ rfl) Try.underlying9 rfl) ?_; clear hS a; intro a hS
                      refine n_1 12 hS (by kernel_rfl) rfl ⟨_, _, _, rfl, rfl, rfl, rfl⟩ (l_call (cap := []) hS rfl Try.func13 rfl (by kernel_rfl) rfl rfl (c_r01_Word n _ _ hS.lt x58 (by first | omega | (rw [List.length_append]; omega) | (simp only [List.length_append]; omega) | (simp only [List.length_append, List.length_take, List.length_drop, List.length_cons, List.length_nil]; omega)) r73 hr73) ?_); clear hS a; intro v99 a w hK hp hS
                      replace hE := hE.grow hK; replace hZ := Nat.le_trans hZ hK.size; refine ⟨fun g _ h => h.grow hK, ?_⟩; clear hK
                      obtain rfl := hp
                      refine n_1 13 hS (by kernel_rfl) rfl ⟨_, _, _, rfl, rfl, rfl, rfl⟩ (l_quiet hS rfl rfl (yl_b (y_not hS rfl) hs76) ?_); clear hS a; intro a hS; refine ⟨fun g _ h => h, ?_⟩
                      refine n_1 14 hS (by kernel_rfl) rfl rfl (l_quiet hS rfl rfl (y_pick_f hS rfl rfl) ?_); clear hS a; intro a hS; refine ⟨fun g _ h => h, ?_⟩
                      refine n_1 15 hS (by kernel_rfl) rfl rfl (l_quiet hS rfl rfl (y_move hS rfl) ?_); clear hS a; intro a hS; refine ⟨fun g _ h => h, ?_⟩
                      refine n_1 16 hS (by kernel_rfl) rfl ⟨_, _, _, rfl, rfl, rfl, rfl⟩ (l_quiet hS rfl rfl (y_move hS rfl) ?_); clear hS a; intro a hS; refine ⟨fun g _ h => h, ?_⟩
                      refine n_1 17 hS (by kernel_rfl) rfl ⟨_, _, _, rfl, rfl, rfl, rfl⟩ (l_quiet hS rfl rfl (yl_b (y_gtrN (i := t_54) (j := 0) hS rfl rfl) hs81e) ?_); clear hS a; intro a hS; refine ⟨fun g _ h => h, ?_⟩
                      refine n_1 18 hS (by kernel_rfl) rfl ⟨_, _, _, rfl, rfl, rfl, rfl⟩ (l_quiet hS rfl rfl (y_move hS rfl) ?_); clear hS a; intro a hS; refine ⟨fun g _ h => h, ?_⟩
                      refine n_qlpass 19 hS hE rfl (by kernel_rfl) (by kernel_rfl) (by kernel_rfl) rfl ⟨_, _, _, rfl, rfl, rfl, rfl⟩ rfl ?_; clear hS a; intro a hS
                      refine n_qlpass 20 hS hE rfl (by kernel_rfl) (by kernel_rfl) (by kernel_rfl) rfl ⟨_, _, _, rfl, rfl, rfl, rfl⟩ rfl ?_; clear hS a; intro a hS
                      refine n_qlpass 21 hS hE rfl (by kernel_rfl) (by kernel_rfl) (by kernel_rfl) rfl ⟨_, _, _, rfl, rfl, rfl, rfl⟩ rfl ?_; clear hS a; intro a hS
                      refine n_qlpass 22 hS hE rfl (by kernel_rfl) (by kernel_rfl) (by kernel_rfl) rfl ⟨_, _, _, rfl, rfl, rfl, rfl⟩ rfl ?_; clear hS a; intro a hS
                      refine n_qlpass 23 hS hE rfl (by kernel_rfl) (by kernel_rfl) (by kernel_rfl) rfl ⟨_, _, _, rfl, rfl, rfl, rfl⟩ rfl ?_; clear hS a; intro a hS
                      refine n_qlpass 24 hS hE rfl (by kernel_rfl) (by kernel_rfl) (by kernel_rfl) rfl ⟨_, _, _, rfl, rfl, rfl, rfl⟩ rfl ?_; clear hS a; intro a hS
                      refine n_pass 25 hS (by kernel_rfl) rfl ⟨_, _, _, rfl, rfl, rfl, rfl⟩ rfl rfl ?_; clear hS a; intro a hS
                      refine n_pass 26 hS (by kernel_rfl) rfl ⟨_, _, _, rfl, rfl, rfl, rfl⟩ rfl rfl ?_; clear hS a; intro a hS
                      refine n_pass 27 hS (by kernel_rfl) rfl ⟨_, _, _, rfl, rfl, rfl, rfl⟩ rfl rfl ?_; clear hS a; intro a hS
                      refine n_pass 28 hS (by kernel_rfl) rfl ⟨_, _, _, rfl, rfl, rfl, rfl⟩ rfl rfl ?_; clear hS a; intro a hS
                      refine n_1 29 hS (by kernel_rfl) rfl ⟨_, _, _, rfl, rfl, rfl, rfl⟩ (l_quiet hS rfl rfl (y_pick_f hS rfl rfl) ?_); clear hS a; intro a hS; refine ⟨fun g _ h => h, ?_⟩
                      refine n_1 30 hS (by kernel_rfl) rfl rfl (l_quiet hS rfl rfl (y_pick_f hS rfl rfl) ?_); clear hS a; intro a hS; refine ⟨fun g _ h => h, ?_⟩
                      refine n_end (by kernel_rfl) ?_; clear hR hZ hE
                      refine p_norm ?_
                      exact ⟨(false), hg, (hS.sub ⟨rfl, rfl, rfl, rfl, rfl, rfl, rfl, trivial⟩ ⟨rfl, trivial⟩ ⟨rfl, rfl, trivial⟩)⟩
            clear hS a; rintro a w ⟨t_68, hg, hS⟩
            subst hk67
            refine c_cond hS rfl (fun hc101 => ?_) (fun hc101 => ?_)
            · replace hg := br_t hg hc101
              apply wp_seq
              apply wp_region_lit
              refine q_seq hS rfl rfl rfl (y_assign hS rfl) ?_; clear hS a; intro a hS
              apply wpList_nil
              refine p_norm ?_
              apply wp_ret
              refine p_thenR ?_
              refine p_inR ?_
              refine p_thenR ?_
              refine p_thenR ?_
              refine p_inR ?_
              refine p_thenR ?_
              obtain rfl := Option.some.inj hg
              refine fin1 (fn := Try.f6) hS rfl (r_tmp hS rfl) ?_
              exact rfl
            · replace hg := br_f hg (by rw [hc101]; exact Bool.false_ne_true)
              apply wp_skip
              refine p_norm ?_
              rcases Bool.eq_false_or_eq_true (t_53) with hs102 | hs102
              · replace hg := br_t hg hs102
                apply wp_region_lit
                refine q_seq hS rfl rfl rfl (yl_b (y_move hS rfl) hs102) ?_; clear hS a; intro a hS
                refine q_seq hS rfl rfl rfl (y_move hS rfl) ?_; clear hS a; intro a hS
                refine g_no hS rfl rfl rfl rfl rfl rfl rfl ?_; clear hS a; intro a hS
                refine g_no hS rfl rfl rfl rfl rfl rfl rfl ?_; clear hS a; intro a hS
                refine g_no hS rfl rfl rfl rfl rfl rfl rfl ?_; clear hS a; intro a hS
                refine g_no hS rfl rfl rfl rfl rfl rfl rfl ?_; clear hS a; intro a hS
                refine g_no hS rfl rfl rfl rfl rfl rfl rfl ?_; clear hS a; intro a hS
                refine g_no hS rfl rfl rfl rfl rfl rfl rfl ?_; clear hS a; intro a hS
                refine q_seq hS rfl rfl rfl (y_pick_t hS rfl rfl) ?_; clear hS a; intro a hS
                refine q_seq hS rfl rfl rfl (y_assign hS rfl) ?_; clear hS a; intro a hS
                apply wpList_nil
                refine p_inN ?_
                refine p_norm ?_
                apply wp_region_lit
                refine q_seq hS rfl rfl rfl (y_move hS rfl) ?_; clear hS a; intro a hS
                refine q_seq hS rfl rfl rfl (y_addN (i := t_54) (j := 1) hS rfl rfl (in64.2 (by omega))) ?_; clear hS a; intro a hS
                refine q_seq hS rfl rfl rfl (y_assign hS rfl) ?_; clear hS a; intro a hS
                apply wpList_nil
                refine p_norm ?_
                exact ⟨m1, Nat.lt_succ_self _, ⟨(true), (t_54 + 1), hg, (hS.sub ⟨rfl, rfl, rfl, rfl, rfl, rfl, trivial⟩ ⟨rfl, trivial⟩ ⟨rfl, rfl, trivial⟩)⟩⟩
              · replace hg := br_f hg (by rw [hs102]; exact Bool.false_ne_true)
                apply wp_region_lit
                refine q_seq hS rfl rfl rfl (yl_b (y_move hS rfl) hs102) ?_; clear hS a; intro a hS
                refine q_seq hS rfl rfl rfl (y_move hS rfl) ?_; clear hS a; intro a hS
                refine g_yes hS rfl rfl rfl rfl (l_quiet hS rfl rfl (y_move hS rfl) ?_); clear hS a; intro a hS
                refine g_yes hS rfl rfl rfl rfl (l_quiet hS rfl rfl (y_move hS rfl) ?_); clear hS a; intro a hS
                obtain ⟨p105, hep105, hpp105⟩ := SlR.elemX (hS.fact (k := 103) rfl) hx58
                refine g_yes hS rfl rfl rfl rfl (l_quiet hS rfl rfl (y_elem (sz := 1) (i := t_54) hS rfl rfl Try.underlying34 rfl hep105 rfl (lt_of_get hx58)) ?_); clear hS a; intro a hS
                obtain ⟨hlq106, hmq106, csq106, hdq106, hcq106⟩ := hpp105
                obtain ⟨rfl, lq1061⟩ := hdq106
                refine g_yes hS rfl rfl rfl rfl (l_quiet hS rfl rfl (y_ldp1 hS rfl hlq106 hmq106 (hcq106 0 _ rfl) Try.underlying9 rfl) ?_); clear hS a; intro a hS
                refine g_yes hS rfl rfl rfl rfl (l_quiet hS rfl rfl (y_move hS rfl) ?_); clear hS a; intro a hS
                refine g_yes hS rfl rfl rfl rfl (l_quiet hS rfl rfl (y_seq hS rfl rfl) ?_); clear hS a; intro a hS
                refine q_seq hS rfl rfl rfl (y_pick_f hS rfl rfl) ?_; clear hS a; intro a hS
                refine q_seq hS rfl rfl rfl (y_assign hS rfl) ?_; clear hS a; intro a hS
                apply wpList_nil
                refine p_inN ?_
                refine p_norm ?_
                apply wp_region_lit
                refine q_seq hS rfl rfl rfl (y_move hS rfl) ?_; clear hS a; intro a hS
                refine q_seq hS rfl rfl rfl (y_addN (i := t_54) (j := 1) hS rfl rfl (in64.2 (by omega))) ?_; clear hS a; intro a hS
                refine q_seq hS rfl rfl rfl (y_assign hS rfl) ?_; clear hS a; intro a hS
                apply wpList_nil
                refine p_norm ?_
                exact ⟨m1, Nat.lt_succ_self _, ⟨(decide ((x58 : List UInt8) = t_')), (t_54 + 1), hg, (hS.sub ⟨rfl, rfl, rfl, rfl, rfl, rfl, trivial⟩ ⟨rfl, trivial⟩ ⟨rfl, rfl, trivial⟩)⟩⟩
          · refine l_quiet hS rfl rfl (y_assign hS rfl) ?_; clear hS a; intro a hS; refine ⟨fun g _ h => h, ?_⟩
            refine n_1 8 hS (by kernel_rfl) rfl rfl (l_quiet hS rfl rfl (y_extract hS rfl rfl) ?_); clear hS a; intro a hS; refine ⟨fun g _ h => h, ?_⟩
            refine n_1 10 hS (by kernel_rfl) rfl rfl (l_quiet hS rfl rfl (y_assign hS rfl) ?_); clear hS a; intro a hS; refine ⟨fun g _ h => h, ?_⟩
            refine n_end (by kernel_rfl) ?_; clear hR hZ hE
            refine p_norm ?_
            apply wp_seq
            apply wp_seq
            replace hg := jn_some hg; obtain ⟨k107, hg, hk107⟩ := hg
            refine c_post (fun a w => ∃ (t_108 : Bool), k107 t_108 = some r ∧ St (⟨Try.f6.ntmps, M, noB, w0⟩ : Ctx) [(1, .string (bs (t_'))), (2, .string (bs (t_''))), (3, .pointer (some ⟨b2, 0, none⟩)), (7, .slice (Au50a1) ((r46).length) (cu50a1)), (8, .bool (t_53)), (9, .int .i64 (((t_54 : Nat) : Int))), (81, .bool (t_108))] [(1000, Ob.box b2 [.int .i64 (t_.Kind), .slice (Ap02) ((t_.Pairs).length) (cp02)] 24)] [(101, slF RChange (Ap02) ((t_.Pairs).length) (cp02) (t_.Pairs)), (103, slF Rep.str (Au50a1) ((r46).length) (cu50a1) (r46))] a w) ?_ ?_
            · rcases Bool.eq_false_or_eq_true (!(r60.2)) with hs109 | hs109
              · replace hg := br_t hg hs109
                refine d_plan hS [] [(0, some 0), (1, some 0), (2, some 0), (3, some 0), (4, some 0), (5, some 0), (6, some 0), (7, some 0), (8, some 0), (9, some 0), (10, some 0), (11, some 0), (12, some 0), (13, some 0), (14, some 0), (15, some 0), (16, some 0), (17, some 0), (18, some 0), (19, some 0), (20, some 0), (21, some 0), (22, some 0), (23, some 0), (24, some 0), (25, some 0), (26, some 0), (27, some 0), (28, some 0), (29, some 0), (30, some 0)] rfl (by kernel_rfl) (by kernel_rfl) rfl ?_; clear hS; intro wr hZ hS; have hR := hS.wd
                refine q_take hS hR rfl rfl rfl rfl (y_move hS rfl) ?_; clear hS a; intro a hS
                refine q_take hS hR rfl rfl rfl rfl (yl_b (y_not hS rfl) hs109) ?_; clear hS a; intro a hS
                refine q_take hS hR rfl rfl rfl rfl (y_move hS rfl) ?_; clear hS a; intro a hS
                refine q_pass hS hR rfl rfl ⟨_, _, _, rfl, rfl, rfl, rfl⟩ rfl ?_; clear hS a; intro a hS
                refine q_pass hS hR rfl rfl ⟨_, _, _, rfl, rfl, rfl, rfl⟩ rfl ?_; clear hS a; intro a hS
                refine q_pass hS hR rfl rfl ⟨_, _, _, rfl, rfl, rfl, rfl⟩ rfl ?_; clear hS a; intro a hS
                refine q_take hS hR rfl rfl rfl rfl (y_pick_t hS rfl rfl) ?_; clear hS a; intro a hS
                refine q_take hS hR rfl rfl rfl rfl (y_move hS rfl) ?_; clear hS a; intro a hS
                refine q_pass hS hR rfl rfl ⟨_, _, _, rfl, rfl, rfl, rfl⟩ rfl ?_; clear hS a; intro a hS
                refine q_pass hS hR rfl rfl ⟨_, _, _, rfl, rfl, rfl, rfl⟩ rfl ?_; clear hS a; intro a hS
                refine q_pass hS hR rfl rfl ⟨_, _, _, rfl, rfl, rfl, rfl⟩ rfl ?_; clear hS a; intro a hS
                refine q_pass hS hR rfl rfl ⟨_, _, _, rfl, rfl, rfl, rfl⟩ rfl ?_; clear hS a; intro a hS
                refine q_pass hS hR rfl rfl ⟨_, _, _, rfl, rfl, rfl, rfl⟩ rfl ?_; clear hS a; intro a hS
                refine q_pass hS hR rfl rfl ⟨_, _, _, rfl, rfl, rfl, rfl⟩ rfl ?_; clear hS a; intro a hS
                refine q_take hS hR rfl rfl rfl rfl (y_pick_t hS rfl rfl) ?_; clear hS a; intro a hS
                refine q_take hS hR rfl rfl rfl rfl (y_move hS rfl) ?_; clear hS a; intro a hS
                refine q_pass hS hR rfl rfl ⟨_, _, _, rfl, rfl, rfl, rfl⟩ rfl ?_; clear hS a; intro a hS
                refine q_pass hS hR rfl rfl ⟨_, _, _, rfl, rfl, rfl, rfl⟩ rfl ?_; clear hS a; intro a hS
                refine q_pass hS hR rfl rfl ⟨_, _, _, rfl, rfl, rfl, rfl⟩ rfl ?_; clear hS a; intro a hS
                refine q_pass hS hR rfl rfl ⟨_, _, _, rfl, rfl, rfl, rfl⟩ rfl ?_; clear hS a; intro a hS
                refine q_pass hS hR rfl rfl ⟨_, _, _, rfl, rfl, rfl, rfl⟩ rfl ?_; clear hS a; intro a hS
                refine q_pass hS hR rfl rfl ⟨_, _, _, rfl, rfl, rfl, rfl⟩ rfl ?_; clear hS a; intro a hS
                refine q_pass hS hR rfl rfl ⟨_, _, _, rfl, rfl, rfl, rfl⟩ rfl ?_; clear hS a; intro a hS
                refine q_pass hS hR rfl rfl ⟨_, _, _, rfl, rfl, rfl, rfl⟩ rfl ?_; clear hS a; intro a hS
                refine q_pass hS hR rfl rfl ⟨_, _, _, rfl, rfl, rfl, rfl⟩ rfl ?_; clear hS a; intro a hS
                refine q_pass hS hR rfl rfl ⟨_, _, _, rfl, rfl, rfl, rfl⟩ rfl ?_; clear hS a; intro a hS
                refine q_pass hS hR rfl rfl ⟨_, _, _, rfl, rfl, rfl, rfl⟩ rfl ?_; clear hS a; intro a hS
                refine q_pass hS hR rfl rfl ⟨_, _, _, rfl, rfl, rfl, rfl⟩ rfl ?_; clear hS a; intro a hS
                refine q_pass hS hR rfl rfl ⟨_, _, _, rfl, rfl, rfl, rfl⟩ rfl ?_; clear hS a; intro a hS
                refine q_pass hS hR rfl rfl ⟨_, _, _, rfl, rfl, rfl, rfl⟩ rfl ?_; clear hS a; intro a hS
                refine q_take hS hR rfl rfl rfl rfl (y_pick_t hS rfl rfl) ?_; clear hS a; intro a hS
                clear hR hZ
                refine p_norm ?_
                exact ⟨(true), hg, (hS.sub ⟨rfl, rfl, rfl, rfl, rfl, rfl, rfl, trivial⟩ ⟨rfl, trivial⟩ ⟨rfl, rfl, trivial⟩)⟩
              · replace hg := br_f hg (by rw [hs109]; exact Bool.false_ne_true)
                rcases Decidable.em ((r60.1 : List UInt8) ≠ t_'') with hs110 | hs110
                · have hs110e : decide ((r60.1 : List UInt8) ≠ t_'') = true := decide_eq_true hs110
                  replace hg := br_t hg hs110
                  refine d_plan hS [] [(0, some 0), (1, some 0), (2, some 0), (3, some 0), (4, some 0), (5, some 0), (6, some 0), (7, some 0), (8, some 0), (9, some 0), (10, some 0), (11, some 0), (12, some 0), (13, some 0), (14, some 0), (15, some 0), (16, some 0), (17, some 0), (18, some 0), (19, some 0), (20, some 0), (21, some 0), (22, some 0), (23, some 0), (24, some 0), (25, some 0), (26, some 0), (27, some 0), (28, some 0), (29, some 0), (30, some 0)] rfl (by kernel_rfl) (by kernel_rfl) rfl ?_; clear hS; intro wr hZ hS; have hR := hS.wd
                  refine q_take hS hR rfl rfl rfl rfl (y_move hS rfl) ?_; clear hS a; intro a hS
                  refine q_take hS hR rfl rfl rfl rfl (yl_b (y_not hS rfl) hs109) ?_; clear hS a; intro a hS
                  refine q_take hS hR rfl rfl rfl rfl (y_move hS rfl) ?_; clear hS a; intro a hS
                  refine q_take hS hR rfl rfl ⟨_, _, _, rfl, rfl, rfl, rfl⟩ rfl (y_move hS rfl) ?_; clear hS a; intro a hS
                  refine q_take hS hR rfl rfl ⟨_, _, _, rfl, rfl, rfl, rfl⟩ rfl (y_move hS rfl) ?_; clear hS a; intro a hS
                  refine q_take hS hR rfl rfl ⟨_, _, _, rfl, rfl, rfl, rfl⟩ rfl (yl_b (y_sne hS rfl rfl) hs110e) ?_; clear hS a; intro a hS
                  refine q_take hS hR rfl rfl rfl rfl (y_pick_f hS rfl rfl) ?_; clear hS a; intro a hS
                  refine q_take hS hR rfl rfl rfl rfl (y_move hS rfl) ?_; clear hS a; intro a hS
                  refine q_pass hS hR rfl rfl ⟨_, _, _, rfl, rfl, rfl, rfl⟩ rfl ?_; clear hS a; intro a hS
                  refine q_pass hS hR rfl rfl ⟨_, _, _, rfl, rfl, rfl, rfl⟩ rfl ?_; clear hS a; intro a hS
                  refine q_pass hS hR rfl rfl ⟨_, _, _, rfl, rfl, rfl, rfl⟩ rfl ?_; clear hS a; intro a hS
                  refine q_pass hS hR rfl rfl ⟨_, _, _, rfl, rfl, rfl, rfl⟩ rfl ?_; clear hS a; intro a hS
                  refine q_pass hS hR rfl rfl ⟨_, _, _, rfl, rfl, rfl, rfl⟩ rfl ?_; clear hS a; intro a hS
                  refine q_pass hS hR rfl rfl ⟨_, _, _, rfl, rfl, rfl, rfl⟩ rfl ?_; clear hS a; intro a hS
                  refine q_take hS hR rfl rfl rfl rfl (y_pick_t hS rfl rfl) ?_; clear hS a; intro a hS
                  refine q_take hS hR rfl rfl rfl rfl (y_move hS rfl) ?_; clear hS a; intro a hS
                  refine q_pass hS hR rfl rfl ⟨_, _, _, rfl, rfl, rfl, rfl⟩ rfl ?_; clear hS a; intro a hS
                  refine q_pass hS hR rfl rfl ⟨_, _, _, rfl, rfl, rfl, rfl⟩ rfl ?_; clear hS a; intro a hS
                  refine q_pass hS hR rfl rfl ⟨_, _, _, rfl, rfl, rfl, rfl⟩ rfl ?_; clear hS a; intro a hS
                  refine q_pass hS hR rfl rfl ⟨_, _, _, rfl, rfl, rfl, rfl⟩ rfl ?_; clear hS a; intro a hS
                  refine q_pass hS hR rfl rfl ⟨_, _, _, rfl, rfl, rfl, rfl⟩ rfl ?_; clear hS a; intro a hS
                  refine q_pass hS hR rfl rfl ⟨_, _, _, rfl, rfl, rfl, rfl⟩ rfl ?_; clear hS a; intro a hS
                  refine q_pass hS hR rfl rfl ⟨_, _, _, rfl, rfl, rfl, rfl⟩ rfl ?_; clear hS a; intro a hS
                  refine q_pass hS hR rfl rfl ⟨_, _, _, rfl, rfl, rfl, rfl⟩ rfl ?_; clear hS a; intro a hS
                  refine q_pass hS hR rfl rfl ⟨_, _, _, rfl, rfl, rfl, rfl⟩ rfl ?_; clear hS a; intro a hS
                  refine q_pass hS hR rfl rfl ⟨_, _, _, rfl, rfl, rfl, rfl⟩ rfl ?_; clear hS a; intro a hS
                  refine q_pass hS hR rfl rfl ⟨_, _, _, rfl, rfl, rfl, rfl⟩ rfl ?_; clear hS a; intro a hS
                  refine q_pass hS hR rfl rfl ⟨_, _, _, rfl, rfl, rfl, rfl⟩ rfl ?_; clear hS a; intro a hS
                  refine q_pass hS hR rfl rfl ⟨_, _, _, rfl, rfl, rfl, rfl⟩ rfl ?_; clear hS a; intro a hS
                  refine q_pass hS hR rfl rfl ⟨_, _, _, rfl, rfl, rfl, rfl⟩ rfl ?_; clear hS a; intro a hS
                  refine q_take hS hR rfl rfl rfl rfl (y_pick_t hS rfl rfl) ?_; clear hS a; intro a hS
                  clear hR hZ
                  refine p_norm ?_
                  exact ⟨(true), hg, (hS.sub ⟨rfl, rfl, rfl, rfl, rfl, rfl, rfl, trivial⟩ ⟨rfl, trivial⟩ ⟨rfl, rfl, trivial⟩)⟩
                · have hs110e : decide ((r60.1 : List UInt8) ≠ t_'') = false := decide_eq_false hs110
                  replace hg := br_f hg hs110
                  replace hg := bind_some hg; obtain ⟨r113, hr113, hg⟩ := hg
                  rcases Bool.eq_false_or_eq_true (!(r113)) with hs116 | hs116
                  · replace hg := br_t hg hs116
                    refine d_steps hS [] rfl ?_; clear hS; intro wr hZ hS; have hR := hS.wd; have hE := Ext.init hR 0
                    refine n_q 0 0 hS hR rfl (by kernel_rfl) (by kernel_rfl) (by kernel_rfl) rfl rfl rfl (y_move hS rfl) ?_; clear hS a; intro a hS
                    refine n_q 1 0 hS hR rfl (by kernel_rfl) (by kernel_rfl) (by kernel_rfl) rfl rfl rfl (yl_b (y_not hS rfl) hs109) ?_; clear hS a; intro a hS
                    refine n_q 2 0 hS hR rfl (by kernel_rfl) (by kernel_rfl) (by kernel_rfl) rfl rfl rfl (y_move hS rfl) ?_; clear hS a; intro a hS
                    refine n_q 3 0 hS hR rfl (by kernel_rfl) (by kernel_rfl) (by kernel_rfl) rfl ⟨_, _, _, rfl, rfl, rfl, rfl⟩ rfl (y_move hS rfl) ?_; clear hS a; intro a hS
                    refine n_q 4 0 hS hR rfl (by kernel_rfl) (by kernel_rfl) (by kernel_rfl) rfl ⟨_, _, _, rfl, rfl, rfl, rfl⟩ rfl (y_move hS rfl) ?_; clear hS a; intro a hS
                    refine n_q 5 0 hS hR rfl (by kernel_rfl) (by kernel_rfl) (by kernel_rfl) rfl ⟨_, _, _, rfl, rfl, rfl, rfl⟩ rfl (yl_b (y_sne hS rfl rfl) hs110e) ?_; clear hS a; intro a hS
                    refine n_q 6 0 hS hR rfl (by kernel_rfl) (by kernel_rfl) (by kernel_rfl) rfl rfl rfl (y_pick_f hS rfl rfl) ?_; clear hS a; intro a hS
                    refine n_q 7 0 hS hR rfl (by kernel_rfl) (by kernel_rfl) (by kernel_rfl) rfl rfl rfl (y_move hS rfl) ?_; clear hS a; intro a hS
                    refine n_q 8 0 hS hR rfl (by kernel_rfl) (by kernel_rfl) (by kernel_rfl) rfl ⟨_, _, _, rfl, rfl, rfl, rfl⟩ rfl (y_move hS rfl) ?_; clear hS a; intro a hS
                    refine n_q 9 0 hS hR rfl (by kernel_rfl) (by kernel_rfl) (by kernel_rfl) rfl ⟨_, _, _, rfl, rfl, rfl, rfl⟩ rfl (y_move hS rfl) ?_; clear hS a; intro a hS
                    obtain ⟨p117, hep117, hpp117⟩ := SlR.elemX (hS.fact (k := 103) rfl) hx58
                    refine n_q 10 0 hS hR rfl (by kernel_rfl) (by kernel_rfl) (by kernel_rfl) rfl ⟨_, _, _, rfl, rfl, rfl, rfl⟩ rfl (y_elem (sz := 1) (i := t_54) hS rfl rfl Try.underlying34 rfl hep117 rfl (lt_of_get hx58)) ?_; clear hS a; intro a hS
                    obtain ⟨hlq118, hmq118, csq118, hdq118, hcq118⟩ := hpp117
                    obtain ⟨rfl, lq1181⟩ := hdq118
                    refine n_q 11 0 hS hR rfl (by kernel_rfl) (by kernel_rfl) (by kernel_rfl) rfl ⟨_, _, _, rfl, rfl, rfl, rfl⟩ rfl (y_ldp1 hS rfl hlq118 hmq118 (hcq118 0 _ rfl) Try.underlying9 rfl) ?_; clear hS a; intro a hS
                    refine n_1 12 hS (by kernel_rfl) rfl ⟨_, _, _, rfl, rfl, rfl, rfl⟩ (l_call (cap := []) hS rfl Try.func13 rfl (by kernel_rfl) rfl rfl (c_r01_Word n _ _ hS.lt x58 (by first | omega | (rw [List.length_append]; omega) | (simp only [List.length_append]; omega) | (simp only [List.length_append, List.length_take, List.length_drop, List.length_cons, List.length_nil]; omega)) r113 hr113) ?_); clear hS a; intro v119 a w hK hp hS
                    replace hE := hE.grow hK; replace hZ := Nat.le_trans hZ hK.size; refine ⟨fun g _ h => h.grow hK, ?_⟩; clear hK
                    obtain rfl := hp
                    refine n_1 13 hS (by kernel_rfl) rfl ⟨_, _, _, rfl, rfl, rfl, rfl⟩ (l_quiet hS rfl rfl (yl_b (y_not hS rfl) hs116) ?_); clear hS a; intro a hS; refine ⟨fun g _ h => h, ?_⟩
                    refine n_1 14 hS (by kernel_rfl) rfl rfl (l_quiet hS rfl rfl (y_pick_f hS rfl rfl) ?_); clear hS a; intro a hS; refine ⟨fun g _ h => h, ?_⟩
                    refine n_1 15 hS (by kernel_rfl) rfl rfl (l_quiet hS rfl rfl (y_move hS rfl) ?_); clear hS a; intro a hS; refine ⟨fun g _ h => h, ?_⟩
                    refine n_pass 16 hS (by kernel_rfl) rfl ⟨_, _, _, rfl, rfl, rfl, rfl⟩ rfl rfl ?_; clear hS a; intro a hS
                    refine n_pass 17 hS (by kernel_rfl) rfl ⟨_, _, _, rfl, rfl, rfl, rfl⟩ rfl rfl ?_; clear hS a; intro a hS
                    refine n_pass 18 hS (by kernel_rfl) rfl ⟨_, _, _, rfl, rfl, rfl, rfl⟩ rfl rfl ?_; clear hS a; intro a hS
                    refine n_qlpass 19 hS hE rfl (by kernel_rfl) (by kernel_rfl) (by kernel_rfl) rfl ⟨_, _, _, rfl, rfl, rfl, rfl⟩ rfl ?_; clear hS a; intro a hS
                    refine n_qlpass 20 hS hE rfl (by kernel_rfl) (by kernel_rfl) (by kernel_rfl) rfl ⟨_, _, _, rfl, rfl, rfl, rfl⟩ rfl ?_; clear hS a; intro a hS
                    refine n_qlpass 21 hS hE rfl (by kernel_rfl) (by kernel_rfl) (by kernel_rfl) rfl ⟨_, _, _, rfl, rfl, rfl, rfl⟩ rfl ?_; clear hS a; intro a hS
                    refine n_qlpass 22 hS hE rfl (by kernel_rfl) (by kernel_rfl) (by kernel_rfl) rfl ⟨_, _, _, rfl, rfl, rfl, rfl⟩ rfl ?_; clear hS a; intro a hS
                    refine n_qlpass 23 hS hE rfl (by kernel_rfl) (by kernel_rfl) (by kernel_rfl) rfl ⟨_, _, _, rfl, rfl, rfl, rfl⟩ rfl ?_; clear hS a; intro a hS
                    refine n_qlpass 24 hS hE rfl (by kernel_rfl) (by kernel_rfl) (by kernel_rfl) rfl ⟨_, _, _, rfl, rfl, rfl, rfl⟩ rfl ?_; clear hS a; intro a hS
                    refine n_pass 25 hS (by kernel_rfl) rfl ⟨_, _, _, rfl, rfl, rfl, rfl⟩ rfl rfl ?_; clear hS a; intro a hS
                    refine n_pass 26 hS (by kernel_rfl) rfl ⟨_, _, _, rfl, rfl, rfl, rfl⟩ rfl rfl ?_; clear hS a; intro a hS
                    refine n_pass 27 hS (by kernel_rfl) rfl ⟨_, _, _, rfl, rfl, rfl, rfl⟩ rfl rfl ?_; clear hS a; intro a hS
                    refine n_pass 28 hS (by kernel_rfl) rfl ⟨_, _, _, rfl, rfl, rfl, rfl⟩ rfl rfl ?_; clear hS a; intro a hS
                    refine n_pass 29 hS (by kernel_rfl) rfl ⟨_, _, _, rfl, rfl, rfl, rfl⟩ rfl rfl ?_; clear hS a; intro a hS
                    refine n_1 30 hS (by kernel_rfl) rfl rfl (l_quiet hS rfl rfl (y_pick_t hS rfl rfl) ?_); clear hS a; intro a hS; refine ⟨fun g _ h => h, ?_⟩
                    refine n_end (by kernel_rfl) ?_; clear hR hZ hE
                    refine p_norm ?_
                    exact ⟨(true), hg, (hS.sub ⟨rfl, rfl, rfl, rfl, rfl, rfl, rfl, trivial⟩ ⟨rfl, trivial⟩ ⟨rfl, rfl, trivial⟩)⟩
                  · replace hg := br_f hg (by rw [hs116]; exact Bool.false_ne_true)
                    rcases Decidable.em ((0 : Nat) < t_54) with hs121 | hs121
                    · have hs121e : decide ((0 : Nat) < t_54) = true := decide_eq_true hs121
                      replace hg := br_t hg hs121
                      replace hg := bind_some hg; obtain ⟨x123, hx123, hg⟩ := hg
                      refine d_steps hS [] rfl ?_; clear hS; intro wr hZ hS; have hR := hS.wd; have hE := Ext.init hR 0
                      refine n_q 0 0 hS hR rfl (by kernel_rfl) (by kernel_rfl) (by kernel_rfl) rfl rfl rfl (y_move hS rfl) ?_; clear hS a; intro a hS
                      refine n_q 1 0 hS hR rfl (by kernel_rfl) (by kernel_rfl) (by kernel_rfl) rfl rfl rfl (yl_b (y_not hS rfl) hs109) ?_; clear hS a; intro a hS
                      refine n_q 2 0 hS hR rfl (by kernel_rfl) (by kernel_rfl) (by kernel_rfl) rfl rfl rfl (y_move hS rfl) ?_; clear hS a; intro a hS
                      refine n_q 3 0 hS hR rfl (by kernel_rfl) (by kernel_rfl) (by kernel_rfl) rfl ⟨_, _, _, rfl, rfl, rfl, rfl⟩ rfl (y_move hS rfl) ?_; clear hS a; intro a hS
                      refine n_q 4 0 hS hR rfl (by kernel_rfl) (by kernel_rfl) (by kernel_rfl) rfl ⟨_, _, _, rfl, rfl, rfl, rfl⟩ rfl (y_move hS rfl) ?_; clear hS a; intro a hS
                      refine n_q 5 0 hS hR rfl (by kernel_rfl) (by kernel_rfl) (by kernel_rfl) rfl ⟨_, _, _, rfl, rfl, rfl, rfl⟩ rfl (yl_b (y_sne hS rfl rfl) hs110e) ?_; clear hS a; intro a hS
                      refine n_q 6 0 hS hR rfl (by kernel_rfl) (by kernel_rfl) (by kernel_rfl) rfl rfl rfl (y_pick_f hS rfl rfl) ?_; clear hS a; intro a hS
                      refine n_q 7 0 hS hR rfl (by kernel_rfl) (by kernel_rfl) (by kernel_rfl) rfl rfl rfl (y_move hS rfl) ?_; clear hS a; intro a hS
                      refine n_q 8 0 hS hR rfl (by kernel_rfl) (by kernel_rfl) (by kernel_rfl) rfl ⟨_, _, _, rfl, rfl, rfl, rfl⟩ rfl (y_move hS rfl) ?_; clear hS a; intro a hS
                      refine n_q 9 0 hS hR rfl (by kernel_rfl) (by kernel_rfl) (by kernel_rfl) rfl ⟨_, _, _, rfl, rfl, rfl, rfl⟩ rfl (y_move hS rfl) ?_; clear hS a; intro a hS
                      obtain ⟨p127, hep127, hpp127⟩ := SlR.elemX (hS.fact (k := 103) rfl) hx58
                      refine n_q 10 0 hS hR rfl (by kernel_rfl) (by kernel_rfl) (by kernel_rfl) rfl ⟨_, _, _, rfl, rfl, rfl, rfl⟩ rfl (y_elem (sz := 1) (i := t_54) hS rfl rfl Try.underlying34 rfl hep127 rfl (lt_of_get hx58)) ?_; clear hS a; intro a hS
                      obtain ⟨hlq128, hmq128, csq128, hdq128, hcq128⟩ := hpp127
                      obtain ⟨rfl, lq1281⟩ := hdq128
                      refine n_q 11 0 hS hR rfl (by kernel_rfl) (by kernel_rfl) (by kernel_rfl) rfl ⟨_, _, _, rfl, rfl, rfl, rfl⟩ rfl (y_ldp1 hS rfl hlq128 hmq128 (hcq128 0 _ rfl) Try.underlying9 rfl) ?_; clear hS a; intro a hS
                      refine n_1 12 hS (by kernel_rfl) rfl ⟨_, _, _, rfl, rfl, rfl, rfl⟩ (l_call (cap := []) hS rfl Try.func13 rfl (by kernel_rfl) rfl rfl (c_r01_Word n _ _ hS.lt x58 (by first | omega | (rw [List.length_append]; omega) | (simp only [List.length_append]; omega) | (simp only [List.length_append, List.length_take, List.length_drop, List.length_cons, List.length_nil]; omega)) r113 hr113) ?_); clear hS a; intro v129 a w hK hp hS
                      replace hE := hE.grow hK; replace hZ := Nat.le_trans hZ hK.size; refine ⟨fun g _ h => h.grow hK, ?_⟩; clear hK
                      obtain rfl := hp
                      refine n_1 13 hS (by kernel_rfl) rfl ⟨_, _, _, rfl, rfl, rfl, rfl⟩ (l_quiet hS rfl rfl (yl_b (y_not hS rfl) hs116) ?_); clear hS a; intro a hS; refine ⟨fun g _ h => h, ?_⟩
                      refine n_1 14 hS (by kernel_rfl) rfl rfl (l_quiet hS rfl rfl (y_pick_f hS rfl rfl) ?_); clear hS a; intro a hS; refine ⟨fun g _ h => h, ?_⟩
                      refine n_1 15 hS (by kernel_rfl) rfl rfl (l_quiet hS rfl rfl (y_move hS rfl) ?_); clear hS a; intro a hS; refine ⟨fun g _ h => h, ?_⟩
                      refine n_1 16 hS (by kernel_rfl) rfl ⟨_, _, _, rfl, rfl, rfl, rfl⟩ (l_quiet hS rfl rfl (y_move hS rfl) ?_); clear hS a; intro a hS; refine ⟨fun g _ h => h, ?_⟩
                      refine n_1 17 hS (by kernel_rfl) rfl ⟨_, _, _, rfl, rfl, rfl, rfl⟩ (l_quiet hS rfl rfl (yl_b (y_gtrN (i := t_54) (j := 0) hS rfl rfl) hs121e) ?_); clear hS a; intro a hS; refine ⟨fun g _ h => h, ?_⟩
                      refine n_1 18 hS (by kernel_rfl) rfl ⟨_, _, _, rfl, rfl, rfl, rfl⟩ (l_quiet hS rfl rfl (y_move hS rfl) ?_); clear hS a; intro a hS; refine ⟨fun g _ h => h, ?_⟩
                      refine n_ql 19 hS hE rfl (by kernel_rfl) (by kernel_rfl) (by kernel_rfl) rfl ⟨_, _, _, rfl, rfl, rfl, rfl⟩ rfl (fun w' hS => y_move hS rfl) ?_; clear hS a; intro a hS
                      refine n_ql 20 hS hE rfl (by kernel_rfl) (by kernel_rfl) (by kernel_rfl) rfl ⟨_, _, _, rfl, rfl, rfl, rfl⟩ rfl (fun w' hS => y_move hS rfl) ?_; clear hS a; intro a hS
                      refine n_ql 21 hS hE rfl (by kernel_rfl) (by kernel_rfl) (by kernel_rfl) rfl ⟨_, _, _, rfl, rfl, rfl, rfl⟩ rfl (fun w' hS => y_sub hS rfl rfl (in64.2 (by omega))) ?_; clear hS a; intro a hS
                      obtain ⟨p131, hep131, hpp131⟩ := SlR.elemX (hS.fact (k := 103) rfl) (ix_some hx123).1
                      refine n_ql 22 hS hE rfl (by kernel_rfl) (by kernel_rfl) (by kernel_rfl) rfl ⟨_, _, _, rfl, rfl, rfl, rfl⟩ rfl (fun w' hS => y_elem (sz := 1) (i := ((((t_54 : Nat) : Int) - 1).toNat)) hS rfl rfl Try.underlying34 rfl hep131 (ix_some hx123).2.1 (lt_of_get (ix_some hx123).1)) ?_; clear hS a; intro a hS
                      refine n_ql 24 hS hE rfl (by kernel_rfl) (by kernel_rfl) (by kernel_rfl) rfl ⟨_, _, _, rfl, rfl, rfl, rfl⟩ rfl (fun w' hS => y_move hS rfl) ?_; clear hS a; intro a hS
                      refine n_ql 25 hS hE rfl (by kernel_rfl) (by kernel_rfl) (by kernel_rfl) rfl ⟨_, _, _, rfl, rfl, rfl, rfl⟩ rfl (fun w' hS => y_move hS rfl) ?_; clear hS a; intro a hS
                      obtain ⟨p132, hep132, hpp132⟩ := SlR.elemX (hS.fact (k := 103) rfl) hx58
                      refine n_ql 26 hS hE rfl (by kernel_rfl) (by kernel_rfl) (by kernel_rfl) rfl ⟨_, _, _, rfl, rfl, rfl, rfl⟩ rfl (fun w' hS => y_elem (sz := 1) (i := t_54) hS rfl rfl Try.underlying34 rfl hep132 rfl (lt_of_get hx58)) ?_; clear hS a; intro a hS
                      refine n_2 23 27 hS (by kernel_rfl) rfl ⟨_, _, _, rfl, rfl, rfl, rfl⟩ rfl ⟨_, _, _, rfl, rfl, rfl, rfl⟩ ?_ ?_
                      · obtain ⟨hlq133, hmq133, csq133, hdq133, hcq133⟩ := hpp131
                        obtain ⟨rfl, lq1331⟩ := hdq133
                        refine l_quiet hS rfl rfl (y_ldp1 hS rfl hlq133 hmq133 (hcq133 0 _ rfl) Try.underlying9 rfl) ?_; clear hS a; intro a hS; refine ⟨fun g _ h => h, ?_⟩
                        obtain ⟨hlq134, hmq134, csq134, hdq134, hcq134⟩ := hpp132
                        obtain ⟨rfl, lq1341⟩ := hdq134
                        refine n_1 27 hS (by kernel_rfl) rfl ⟨_, _, _, rfl, rfl, rfl, rfl⟩ (l_quiet hS rfl rfl (y_ldp1 hS rfl hlq134 hmq134 (hcq134 0 _ rfl) Try.underlying9 rfl) ?_); clear hS a; intro a hS; refine ⟨fun g _ h => h, ?_⟩
                        refine n_1 28 hS (by kernel_rfl) rfl ⟨_, _, _, rfl, rfl, rfl, rfl⟩ (l_quiet hS rfl rfl (y_sgeq hS rfl rfl) ?_); clear hS a; intro a hS; refine ⟨fun g _ h => h, ?_⟩
                        refine n_1 29 hS (by kernel_rfl) rfl ⟨_, _, _, rfl, rfl, rfl, rfl⟩ (l_quiet hS rfl rfl (y_pick_t hS rfl rfl) ?_); clear hS a; intro a hS; refine ⟨fun g _ h => h, ?_⟩
                        refine n_1 30 hS (by kernel_rfl) rfl rfl (l_quiet hS rfl rfl (y_pick_f hS rfl rfl) ?_); clear hS a; intro a hS; refine ⟨fun g _ h => h, ?_⟩
                        refine n_end (by kernel_rfl) ?_; clear hR hZ hE
                        refine p_norm ?_
                        exact ⟨(!(Op.bytesLess x123 x58)), hg, (hS.sub ⟨rfl, rfl, rfl, rfl, rfl, rfl, rfl, trivial⟩ ⟨rfl, trivial⟩ ⟨rfl, rfl, trivial⟩)⟩
                      · obtain ⟨hlq135, hmq135, csq135, hdq135, hcq135⟩ := hpp132
                        obtain ⟨rfl, lq1351⟩ := hdq135
                        refine l_quiet hS rfl rfl (y_ldp1 hS rfl hlq135 hmq135 (hcq135 0 _ rfl) Try.underlying9 rfl) ?_; clear hS a; intro a hS; refine ⟨fun g _ h => h, ?_⟩
                        obtain ⟨hlq136, hmq136, csq136, hdq136, hcq136⟩ := hpp131
                        obtain ⟨rfl, lq1361⟩ := hdq136
                        refine n_1 23 hS (by kernel_rfl) rfl ⟨_, _, _, rfl, rfl, rfl, rfl⟩ (l_quiet hS rfl rfl (y_ldp1 hS rfl hlq136 hmq136 (hcq136 0 _ rfl) Try.underlying9 rfl) ?_); clear hS a; intro a hS; refine ⟨fun g _ h => h, ?_⟩
                        refine n_1 28 hS (by kernel_rfl) rfl ⟨_, _, _, rfl, rfl, rfl, rfl⟩ (l_quiet hS rfl rfl (y_sgeq hS rfl rfl) ?_); clear hS a; intro a hS; refine ⟨fun g _ h => h, ?_⟩
                        refine n_1 29 hS (by kernel_rfl) rfl ⟨_, _, _, rfl, rfl, rfl, rfl⟩ (l_quiet hS rfl rfl (y_pick_t hS rfl rfl) ?_); clear hS a; intro a hS; refine ⟨fun g _ h => h, ?_⟩
                        refine n_1 30 hS (by kernel_rfl) rfl rfl (l_quiet hS rfl rfl (y_pick_f hS rfl rfl) ?_); clear hS a; intro a hS; refine ⟨fun g _ h => h, ?_⟩
                        refine n_end (by kernel_rfl) ?_; clear hR hZ hE
                        refine p_norm ?_
                        exact ⟨(!(Op.bytesLess x123 x58)), hg, (hS.sub ⟨rfl, rfl, rfl, rfl, rfl, rfl, rfl, trivial⟩ ⟨rfl, trivial⟩ ⟨rfl, rfl, trivial⟩)⟩
                    · have hs121e : decide ((0 : Nat) < t_54) = false := decide_eq_false hs121
                      replace hg := br_f hg hs121
                      refine d_steps hS [] rfl ?_; clear hS; intro wr hZ hS; have hR := hS.wd; have hE := Ext.init hR 0
                      refine n_q 0 0 hS hR rfl (by kernel_rfl) (by kernel_rfl) (by kernel_rfl) rfl rfl rfl (y_move hS rfl) ?_; clear hS a; intro a hS
                      refine n_q 1 0 hS hR rfl (by kernel_rfl) (by kernel_rfl) (by kernel_rfl) rfl rfl rfl (yl_b (y_not hS rfl) hs109) ?_; clear hS a; intro a hS
                      refine n_q 2 0 hS hR rfl (by kernel_rfl) (by kernel_rfl) (by kernel_rfl) rfl rfl rfl (y_move hS rfl) ?_; clear hS a; intro a hS
                      refine n_q 3 0 hS hR rfl (by kernel_rfl) (by kernel_rfl) (by kernel_rfl) rfl ⟨_, _, _, rfl, rfl, rfl, rfl⟩ rfl (y_move hS rfl) ?_; clear hS a; intro a hS
                      refine n_q 4 0 hS hR rfl (by kernel_rfl) (by kernel_rfl) (by kernel_rfl) rfl ⟨_, _, _, rfl, rfl, rfl, rfl⟩ rfl (y_move hS rfl) ?_; clear hS a; intro a hS
                      refine n_q 5 0 hS hR rfl (by kernel_rfl) (by kernel_rfl) (by kernel_rfl) rfl ⟨_, _, _, rfl, rfl, rfl, rfl⟩ rfl (yl_b (y_sne hS rfl rfl) hs110e) ?_; clear hS a; intro a hS
                      refine n_q 6 0 hS hR rfl (by kernel_rfl) (by kernel_rfl) (by kernel_rfl) rfl rfl rfl (y_pick_f hS rfl rfl) ?_; clear hS a; intro a hS
                      refine n_q 7 0 hS hR rfl (by kernel_rfl) (by kernel_rfl) (by kernel_rfl) rfl rfl rfl (y_move hS rfl) ?_; clear hS a; intro a hS
                      refine n_q 8 0 hS hR rfl (by kernel_rfl) (by kernel_rfl) (by kernel_rfl) rfl ⟨_, _, _, rfl, rfl, rfl, rfl⟩ rfl (y_move hS rfl) ?_; clear hS a; intro a hS
                      refine n_q 9 0 hS hR rfl (by kernel_rfl) (by kernel_rfl) (by kernel_rfl) rfl ⟨_, _, _, rfl, rfl, rfl, rfl⟩ rfl (y_move hS rfl) ?_; clear hS a; intro a hS
                      obtain ⟨p137, hep137, hpp137⟩ := SlR.elemX (hS.fact (k := 103) rfl) hx58
                      refine n_q 10 0 hS hR rfl (by kernel_rfl) (by kernel_rfl) (by kernel_rfl) rfl ⟨_, _, _, rfl, rfl, rfl, rfl⟩ rfl (y_elem (sz := 1) (i := t_54) hS rfl rfl Try.underlying34 rfl hep137 rfl (lt_of_get hx58)) ?_; clear hS a; intro a hS
                      obtain ⟨hlq138, hmq138, csq138, hdq138, hcq138⟩ := hpp137
                      obtain ⟨rfl, lq1381⟩ := hdq138
                      refine n_q 11 0 hS hR rfl (by kernel_rfl) (by kernel_rfl) (by kernel_rfl) rfl ⟨_, _, _, rfl, rfl, rfl, rfl⟩ rfl (y_ldp1 hS rfl hlq138 hmq138 (hcq138 0 _ rfl) Try.underlying9 rfl) ?_; clear hS a; intro a hS
                      refine n_1 12 hS (by kernel_rfl) rfl ⟨_, _, _, rfl, rfl, rfl, rfl⟩ (l_call (cap := []) hS rfl Try.func13 rfl (by kernel_rfl) rfl rfl (c_r01_Word n _ _ hS.lt x58 (by first | omega | (rw [List.length_append]; omega) | (simp only [List.length_append]; omega) | (simp only [List.length_append, List.length_take, List.length_drop, List.length_cons, List.length_nil]; omega)) r113 hr113) ?_); clear hS a; intro v139 a w hK hp hS
                      replace hE := hE.grow hK; replace hZ := Nat.le_trans hZ hK.size; refine ⟨fun g _ h => h.grow hK, ?_⟩; clear hK
                      obtain rfl := hp
                      refine n_1 13 hS (by kernel_rfl) rfl ⟨_, _, _, rfl, rfl, rfl, rfl⟩ (l_quiet hS rfl rfl (yl_b (y_not hS rfl) hs116) ?_); clear hS a; intro a hS; refine ⟨fun g _ h => h, ?_⟩
                      refine n_1 14 hS (by kernel_rfl) rfl rfl (l_quiet hS rfl rfl (y_pick_f hS rfl rfl) ?_); clear hS a; intro a hS; refine ⟨fun g _ h => h, ?_⟩
                      refine n_1 15 hS (by kernel_rfl) rfl rfl (l_quiet hS rfl rfl (y_move hS rfl) ?_); clear hS a; intro a hS; refine ⟨fun g _ h => h, ?_⟩
                      refine n_1 16 hS (by kernel_rfl) rfl ⟨_, _, _, rfl, rfl, rfl, rfl⟩ (l_quiet hS rfl rfl (y_move hS rfl) ?_); clear hS a; intro a hS; refine ⟨fun g _ h => h, ?_⟩
                      refine n_1 17 hS (by kernel_rfl) rfl ⟨_, _, _, rfl, rfl, rfl, rfl⟩ (l_quiet hS rfl rfl (yl_b (y_gtrN (i := t_54) (j := 0) hS rfl rfl) hs121e) ?_); clear hS a; intro a hS; refine ⟨fun g _ h => h, ?_⟩
                      refine n_1 18 hS (by kernel_rfl) rfl ⟨_, _, _, rfl, rfl, rfl, rfl⟩ (l_quiet hS rfl rfl (y_move hS rfl) ?_); clear hS a; intro a hS; refine ⟨fun g _ h => h, ?_⟩
                      refine n_qlpass 19 hS hE rfl (by kernel_rfl) (by kernel_rfl) (by kernel_rfl) rfl ⟨_, _, _, rfl, rfl, rfl, rfl⟩ rfl ?_; clear hS a; intro a hS
                      refine n_qlpass 20 hS hE rfl (by kernel_rfl) (by kernel_rfl) (by kernel_rfl) rfl ⟨_, _, _, rfl, rfl, rfl, rfl⟩ rfl ?_; clear hS a; intro a hS
                      refine n_qlpass 21 hS hE rfl (by kernel_rfl) (by kernel_rfl) (by kernel_rfl) rfl ⟨_, _, _, rfl, rfl, rfl, rfl⟩ rfl ?_; clear hS a; intro a hS
                      refine n_qlpass 22 hS hE rfl (by kernel_rfl) (by kernel_rfl) (by kernel_rfl) rfl ⟨_, _, _, rfl, rfl, rfl, rfl⟩ rfl ?_; clear hS a; intro a hS
                      refine n_qlpass 23 hS hE rfl (by kernel_rfl) (by kernel_rfl) (by kernel_rfl) rfl ⟨_, _, _, rfl, rfl, rfl, rfl⟩ rfl ?_; clear hS a; intro a hS
                      refine n_qlpass 24 hS hE rfl (by kernel_rfl) (by kernel_rfl) (by kernel_rfl) rfl ⟨_, _, _, rfl, rfl, rfl, rfl⟩ rfl ?_; clear hS a; intro a hS
                      refine n_pass 25 hS (by kernel_rfl) rfl ⟨_, _, _, rfl, rfl, rfl, rfl⟩ rfl rfl ?_; clear hS a; intro a hS
                      refine n_pass 26 hS (by kernel_rfl) rfl ⟨_, _, _, rfl, rfl, rfl, rfl⟩ rfl rfl ?_; clear hS a; intro a hS
                      refine n_pass 27 hS (by kernel_rfl) rfl ⟨_, _, _, rfl, rfl, rfl, rfl⟩ rfl rfl ?_; clear hS a; intro a hS
                      refine n_pass 28 hS (by kernel_rfl) rfl ⟨_, _, _, rfl, rfl, rfl, rfl⟩ rfl rfl ?_; clear hS a; intro a hS
                      refine n_1 29 hS (by kernel_rfl) rfl ⟨_, _, _, rfl, rfl, rfl, rfl⟩ (l_quiet hS rfl rfl (y_pick_f hS rfl rfl) ?_); clear hS a; intro a hS; refine ⟨fun g _ h => h, ?_⟩
                      refine n_1 30 hS (by kernel_rfl) rfl rfl (l_quiet hS rfl rfl (y_pick_f hS rfl rfl) ?_); clear hS a; intro a hS; refine ⟨fun g _ h => h, ?_⟩
                      refine n_end (by kernel_rfl) ?_; clear hR hZ hE
                      refine p_norm ?_
                      exact ⟨(false), hg, (hS.sub ⟨rfl, rfl, rfl, rfl, rfl, rfl, rfl, trivial⟩ ⟨rfl, trivial⟩ ⟨rfl, rfl, trivial⟩)⟩
            clear hS a; rintro a w ⟨t_108, hg, hS⟩
            subst hk107
            refine c_cond hS rfl (fun hc141 => ?_) (fun hc141 => ?_)
            · replace hg := br_t hg hc141
              apply wp_seq
              apply wp_region_lit
              refine q_seq hS rfl rfl rfl (y_assign hS rfl) ?_; clear hS a; intro a hS
              apply wpList_nil
              refine p_norm ?_
              apply wp_ret
              refine p_thenR ?_
              refine p_inR ?_
              refine p_thenR ?_
              refine p_thenR ?_
              refine p_inR ?_
              refine p_thenR ?_
              obtain rfl := Option.some.inj hg
              refine fin1 (fn := Try.f6) hS rfl (r_tmp hS rfl) ?_
              exact rfl
            · replace hg := br_f hg (by rw [hc141]; exact Bool.false_ne_true)
              apply wp_skip
              refine p_norm ?_
              rcases Bool.eq_false_or_eq_true (t_53) with hs142 | hs142
              · replace hg := br_t hg hs142
                apply wp_region_lit
                refine q_seq hS rfl rfl rfl (yl_b (y_move hS rfl) hs142) ?_; clear hS a; intro a hS
                refine q_seq hS rfl rfl rfl (y_move hS rfl) ?_; clear hS a; intro a hS
                refine g_no hS rfl rfl rfl rfl rfl rfl rfl ?_; clear hS a; intro a hS
                refine g_no hS rfl rfl rfl rfl rfl rfl rfl ?_; clear hS a; intro a hS
                refine g_no hS rfl rfl rfl rfl rfl rfl rfl ?_; clear hS a; intro a hS
                refine g_no hS rfl rfl rfl rfl rfl rfl rfl ?_; clear hS a; intro a hS
                refine g_no hS rfl rfl rfl rfl rfl rfl rfl ?_; clear hS a; intro a hS
                refine g_no hS rfl rfl rfl rfl rfl rfl rfl ?_; clear hS a; intro a hS
                refine q_seq hS rfl rfl rfl (y_pick_t hS rfl rfl) ?_; clear hS a; intro a hS
                refine q_seq hS rfl rfl rfl (y_assign hS rfl) ?_; clear hS a; intro a hS
                apply wpList_nil
                refine p_inN ?_
                refine p_norm ?_
                apply wp_region_lit
                refine q_seq hS rfl rfl rfl (y_move hS rfl) ?_; clear hS a; intro a hS
                refine q_seq hS rfl rfl rfl (y_addN (i := t_54) (j := 1) hS rfl rfl (in64.2 (by omega))) ?_; clear hS a; intro a hS
                refine q_seq hS rfl rfl rfl (y_assign hS rfl) ?_; clear hS a; intro a hS
                apply wpList_nil
                refine p_norm ?_
                exact ⟨m1, Nat.lt_succ_self _, ⟨(true), (t_54 + 1), hg, (hS.sub ⟨rfl, rfl, rfl, rfl, rfl, rfl, trivial⟩ ⟨rfl, trivial⟩ ⟨rfl, rfl, trivial⟩)⟩⟩
              · replace hg := br_f hg (by rw [hs142]; exact Bool.false_ne_true)
                apply wp_region_lit
                refine q_seq hS rfl rfl rfl (yl_b (y_move hS rfl) hs142) ?_; clear hS a; intro a hS
                refine q_seq hS rfl rfl rfl (y_move hS rfl) ?_; clear hS a; intro a hS
                refine g_yes hS rfl rfl rfl rfl (l_quiet hS rfl rfl (y_move hS rfl) ?_); clear hS a; intro a hS
                refine g_yes hS rfl rfl rfl rfl (l_quiet hS rfl rfl (y_move hS rfl) ?_); clear hS a; intro a hS
                obtain ⟨p145, hep145, hpp145⟩ := SlR.elemX (hS.fact (k := 103) rfl) hx58
                refine g_yes hS rfl rfl rfl rfl (l_quiet hS rfl rfl (y_elem (sz := 1) (i := t_54) hS rfl rfl Try.underlying34 rfl hep145 rfl (lt_of_get hx58)) ?_); clear hS a; intro a hS
                obtain ⟨hlq146, hmq146, csq146, hdq146, hcq146⟩ := hpp145
                obtain ⟨rfl, lq1461⟩ := hdq146
                refine g_yes hS rfl rfl rfl rfl (l_quiet hS rfl rfl (y_ldp1 hS rfl hlq146 hmq146 (hcq146 0 _ rfl) Try.underlying9 rfl) ?_); clear hS a; intro a hS
                refine g_yes hS rfl rfl rfl rfl (l_quiet hS rfl rfl (y_move hS rfl) ?_); clear hS a; intro a hS
                refine g_yes hS rfl rfl rfl rfl (l_quiet hS rfl rfl (y_seq hS rfl rfl) ?_); clear hS a; intro a hS
                refine q_seq hS rfl rfl rfl (y_pick_f hS rfl rfl) ?_; clear hS a; intro a hS
                refine q_seq hS rfl rfl rfl (y_assign hS rfl) ?_; clear hS a; intro a hS
                apply wpList_nil
                refine p_inN ?_
                refine p_norm ?_
                apply wp_region_lit
                refine q_seq hS rfl rfl rfl (y_move hS rfl) ?_; clear hS a; intro a hS
                refine q_seq hS rfl rfl rfl (y_addN (i := t_54) (j := 1) hS rfl rfl (in64.2 (by omega))) ?_; clear hS a; intro a hS
                refine q_seq hS rfl rfl rfl (y_assign hS rfl) ?_; clear hS a; intro a hS
                apply wpList_nil
                refine p_norm ?_
                exact ⟨m1, Nat.lt_succ_self _, ⟨(decide ((x58 : List UInt8) = t_')), (t_54 + 1), hg, (hS.sub ⟨rfl, rfl, rfl, rfl, rfl, rfl, trivial⟩ ⟨rfl, trivial⟩ ⟨rfl, rfl, trivial⟩)⟩⟩
        · refine l_quiet hS rfl rfl (y_extract hS rfl rfl) ?_; clear hS a; intro a hS; refine ⟨fun g _ h => h, ?_⟩
          refine n_1 7 hS (by kernel_rfl) rfl rfl (l_quiet hS rfl rfl (y_extract hS rfl rfl) ?_); clear hS a; intro a hS; refine ⟨fun g _ h => h, ?_⟩
          refine n_1 9 hS (by kernel_rfl) rfl rfl (l_quiet hS rfl rfl (y_assign hS rfl) ?_); clear hS a; intro a hS; refine ⟨fun g _ h => h, ?_⟩
          refine n_1 10 hS (by kernel_rfl) rfl rfl (l_quiet hS rfl rfl (y_assign hS rfl) ?_); clear hS a; intro a hS; refine ⟨fun g _ h => h, ?_⟩
          refine n_end (by kernel_rfl) ?_; clear hR hZ hE
          refine p_norm ?_
          apply wp_seq
          apply wp_seq
          replace hg := jn_some hg; obtain ⟨k147, hg, hk147⟩ := hg
          refine c_post (fun a w => ∃ (t_148 : Bool), k147 t_148 = some r ∧ St (⟨Try.f6.ntmps, M, noB, w0⟩ : Ctx) [(1, .string (bs (t_'))), (2, .string (bs (t_''))), (3, .pointer (some ⟨b2, 0, none⟩)), (7, .slice (Au50a1) ((r46).length) (cu50a1)), (8, .bool (t_53)), (9, .int .i64 (((t_54 : Nat) : Int))), (81, .bool (t_148))] [(1000, Ob.box b2 [.int .i64 (t_.Kind), .slice (Ap02) ((t_.Pairs).length) (cp02)] 24)] [(101, slF RChange (Ap02) ((t_.Pairs).length) (cp02) (t_.Pairs)), (103, slF Rep.str (Au50a1) ((r46).length) (cu50a1) (r46))] a w) ?_ ?_
          · rcases Bool.eq_false_or_eq_true (!(r60.2)) with hs149 | hs149
            · replace hg := br_t hg hs149
              refine d_plan hS [] [(0, some 0), (1, some 0), (2, some 0), (3, some 0), (4, some 0), (5, some 0), (6, some 0), (7, some 0), (8, some 0), (9, some 0), (10, some 0), (11, some 0), (12, some 0), (13, some 0), (14, some 0), (15, some 0), (16, some 0), (17, some 0), (18, some 0), (19, some 0), (20, some 0), (21, some 0), (22, some 0), (23, some 0), (24, some 0), (25, some 0), (26, some 0), (27, some 0), (28, some 0), (29, some 0), (30, some 0)] rfl (by kernel_rfl) (by kernel_rfl) rfl ?_; clear hS; intro wr hZ hS; have hR := hS.wd
              refine q_take hS hR rfl rfl rfl rfl (y_move hS rfl) ?_; clear hS a; intro a hS
              refine q_take hS hR rfl rfl rfl rfl (yl_b (y_not hS rfl) hs149) ?_; clear hS a; intro a hS
              refine q_take hS hR rfl rfl rfl rfl (y_move hS rfl) ?_; clear hS a; intro a hS
              refine q_pass hS hR rfl rfl ⟨_, _, _, rfl, rfl, rfl, rfl⟩ rfl ?_; clear hS a; intro a hS
              refine q_pass hS hR rfl rfl ⟨_, _, _, rfl, rfl, rfl, rfl⟩ rfl ?_; clear hS a; intro a hS
              refine q_pass hS hR rfl rfl ⟨_, _, _, rfl, rfl, rfl, rfl⟩ rfl ?_; clear hS a; intro a hS
              refine q_take hS hR rfl rfl rfl rfl (y_pick_t hS rfl rfl) ?_; clear hS a; intro a hS
              refine q_take hS hR rfl rfl rfl rfl (y_move hS rfl) ?_; clear hS a; intro a hS
              refine q_pass hS hR rfl rfl ⟨_, _, _, rfl, rfl, rfl, rfl⟩ rfl ?_; clear hS a; intro a hS
              refine q_pass hS hR rfl rfl ⟨_, _, _, rfl, rfl, rfl, rfl⟩ rfl ?_; clear hS a; intro a hS
              refine q_pass hS hR rfl rfl ⟨_, _, _, rfl, rfl, rfl, rfl⟩ rfl ?_; clear hS a; intro a hS
              refine q_pass hS hR rfl rfl ⟨_, _, _, rfl, rfl, rfl, rfl⟩ rfl ?_; clear hS a; intro a hS
              refine q_pass hS hR rfl rfl ⟨_, _, _, rfl, rfl, rfl, rfl⟩ rfl ?_; clear hS a; intro a hS
              refine q_pass hS hR rfl rfl ⟨_, _, _, rfl, rfl, rfl, rfl⟩ rfl ?_; clear hS a; intro a hS
              refine q_take hS hR rfl rfl rfl rfl (y_pick_t hS rfl rfl) ?_; clear hS a; intro a hS
              refine q_take hS hR rfl rfl rfl rfl (y_move hS rfl) ?_; clear hS a; intro a hS
              refine q_pass hS hR rfl rfl ⟨_, _, _, rfl, rfl, rfl, rfl⟩ rfl ?_; clear hS a; intro a hS
              refine q_pass hS hR rfl rfl ⟨_, _, _, rfl, rfl, rfl, rfl⟩ rfl ?_; clear hS a; intro a hS
              refine q_pass hS hR rfl rfl ⟨_, _, _, rfl, rfl, rfl, rfl⟩ rfl ?_; clear hS a; intro a hS
              refine q_pass hS hR rfl rfl ⟨_, _, _, rfl, rfl, rfl, rfl⟩ rfl ?_; clear hS a; intro a hS
              refine q_pass hS hR rfl rfl ⟨_, _, _, rfl, rfl, rfl, rfl⟩ rfl ?_; clear hS a; intro a hS
              refine q_pass hS hR rfl rfl ⟨_, _, _, rfl, rfl, rfl, rfl⟩ rfl ?_; clear hS a; intro a hS
              refine q_pass hS hR rfl rfl ⟨_, _, _, rfl, rfl, rfl, rfl⟩ rfl ?_; clear hS a; intro a hS
              refine q_pass hS hR rfl rfl ⟨_, _, _, rfl, rfl, rfl, rfl⟩ rfl ?_; clear hS a; intro a hS
              refine q_pass hS hR rfl rfl ⟨_, _, _, rfl, rfl, rfl, rfl⟩ rfl ?_; clear hS a; intro a hS
              refine q_pass hS hR rfl rfl ⟨_, _, _, rfl, rfl, rfl, rfl⟩ rfl ?_; clear hS a; intro a hS
              refine q_pass hS hR rfl rfl ⟨_, _, _, rfl, rfl, rfl, rfl⟩ rfl ?_; clear hS a; intro a hS
              refine q_pass hS hR rfl rfl ⟨_, _, _, rfl, rfl, rfl, rfl⟩ rfl ?_; clear hS a; intro a hS
              refine q_pass hS hR rfl rfl ⟨_, _, _, rfl, rfl, rfl, rfl⟩ rfl ?_; clear hS a; intro a hS
              refine q_pass hS hR rfl rfl ⟨_, _, _, rfl, rfl, rfl, rfl⟩ rfl ?_; clear hS a; intro a hS
              refine q_take hS hR rfl rfl rfl rfl (y_pick_t hS rfl rfl) ?_; clear hS a; intro a hS
              clear hR hZ
              refine p_norm ?_
              exact ⟨(true), hg, (hS.sub ⟨rfl, rfl, rfl, rfl, rfl, rfl, rfl, trivial⟩ ⟨rfl, trivial⟩ ⟨rfl, rfl, trivial⟩)⟩
            · replace hg := br_f hg (by rw [hs149]; exact Bool.false_ne_true)
              rcases Decidable.em ((r60.1 : List UInt8) ≠ t_'') with hs150 | hs150
              · have hs150e : decide ((r60.1 : List UInt8) ≠ t_'') = true := decide_eq_true hs150
                replace hg := br_t hg hs150
                refine d_plan hS [] [(0, some 0), (1, some 0), (2, some 0), (3, some 0), (4, some 0), (5, some 0), (6, some 0), (7, some 0), (8, some 0), (9, some 0), (10, some 0), (11, some 0), (12, some 0), (13, some 0), (14, some 0), (15, some 0), (16, some 0), (17, some 0), (18, some 0), (19, some 0), (20, some 0), (21, some 0), (22, some 0), (23, some 0), (24, some 0), (25, some 0), (26, some 0), (27, some 0), (28, some 0), (29, some 0), (30, some 0)] rfl (by kernel_rfl) (by kernel_rfl) rfl ?_; clear hS; intro wr hZ hS; have hR := hS.wd
                refine q_take hS hR rfl rfl rfl rfl (y_move hS rfl) ?_; clear hS a; intro a hS
                refine q_take hS hR rfl rfl rfl rfl (yl_b (y_not hS rfl) hs149) ?_; clear hS a; intro a hS
                refine q_take hS hR rfl rfl rfl rfl (y_move hS rfl) ?_; clear hS a; intro a hS
                refine q_take hS hR rfl rfl ⟨_, _, _, rfl, rfl, rfl, rfl⟩ rfl (y_move hS rfl) ?_; clear hS a; intro a hS
                refine q_take hS hR rfl rfl ⟨_, _, _, rfl, rfl, rfl, rfl⟩ rfl (y_move hS rfl) ?_; clear hS a; intro a hS
                refine q_take hS hR rfl rfl ⟨_, _, _, rfl, rfl, rfl, rfl⟩ rfl (yl_b (y_sne hS rfl rfl) hs150e) ?_; clear hS a; intro a hS
                refine q_take hS hR rfl rfl rfl rfl (y_pick_f hS rfl rfl) ?_; clear hS a; intro a hS
                refine q_take hS hR rfl rfl rfl rfl (y_move hS rfl) ?_; clear hS a; intro a hS
                refine q_pass hS hR rfl rfl ⟨_, _, _, rfl, rfl, rfl, rfl⟩ rfl ?_; clear hS a; intro a hS
                refine q_pass hS hR rfl rfl ⟨_, _, _, rfl, rfl, rfl, rfl⟩ rfl ?_; clear hS a; intro a hS
                refine q_pass hS hR rfl rfl ⟨_, _, _, rfl, rfl, rfl, rfl⟩ rfl ?_; clear hS a; intro a hS
                refine q_pass hS hR rfl rfl ⟨_, _, _, rfl, rfl, rfl, rfl⟩ rfl ?_; clear hS a; intro a hS
                refine q_pass hS hR rfl rfl ⟨_, _, _, rfl, rfl, rfl, rfl⟩ rfl ?_; clear hS a; intro a hS
                refine q_pass hS hR rfl rfl ⟨_, _, _, rfl, rfl, rfl, rfl⟩ rfl ?_; clear hS a; intro a hS
                refine q_take hS hR rfl rfl rfl rfl (y_pick_t hS rfl rfl) ?_; clear hS a; intro a hS
                refine q_take hS hR rfl rfl rfl rfl (y_move hS rfl) ?_; clear hS a; intro a hS
                refine q_pass hS hR rfl rfl ⟨_, _, _, rfl, rfl, rfl, rfl⟩ rfl ?_; clear hS a; intro a hS
                refine q_pass hS hR rfl rfl ⟨_, _, _, rfl, rfl, rfl, rfl⟩ rfl ?_; clear hS a; intro a hS
                refine q_pass hS hR rfl rfl ⟨_, _, _, rfl, rfl, rfl, rfl⟩ rfl ?_; clear hS a; intro a hS
                refine q_pass hS hR rfl rfl ⟨_, _, _, rfl, rfl, rfl, rfl⟩ rfl ?_; clear hS a; intro a hS
                refine q_pass hS hR rfl rfl ⟨_, _, _, rfl, rfl, rfl, rfl⟩ rfl ?_; clear hS a; intro a hS
                refine q_pass hS hR rfl rfl ⟨_, _, _, rfl, rfl, rfl, rfl⟩ rfl ?_; clear hS a; intro a hS
                refine q_pass hS hR rfl rfl ⟨_, _, _, rfl, rfl, rfl, rfl⟩ rfl ?_; clear hS a; intro a hS
                refine q_pass hS hR rfl rfl ⟨_, _, _, rfl, rfl, rfl, rfl⟩ rfl ?_; clear hS a; intro a hS
                refine q_pass hS hR rfl rfl ⟨_, _, _, rfl, rfl, rfl, rfl⟩ rfl ?_; clear hS a; intro a hS
                refine q_pass hS hR rfl rfl ⟨_, _, _, rfl, rfl, rfl, rfl⟩ rfl ?_; clear hS a; intro a hS
                refine q_pass hS hR rfl rfl ⟨_, _, _, rfl, rfl, rfl, rfl⟩ rfl ?_; clear hS a; intro a hS
                refine q_pass hS hR rfl rfl ⟨_, _, _, rfl, rfl, rfl, rfl⟩ rfl ?_; clear hS a; intro a hS
                refine q_pass hS hR rfl rfl ⟨_, _, _, rfl, rfl, rfl, rfl⟩ rfl ?_; clear hS a; intro a hS
                refine q_pass hS hR rfl rfl ⟨_, _, _, rfl, rfl, rfl, rfl⟩ rfl ?_; clear hS a; intro a hS
                refine q_take hS hR rfl rfl rfl rfl (y_pick_t hS rfl rfl) ?_; clear hS a; intro a hS
                clear hR hZ
                refine p_norm ?_
                exact ⟨(true), hg, (hS.sub ⟨rfl, rfl, rfl, rfl, rfl, rfl, rfl, trivial⟩ ⟨rfl, trivial⟩ ⟨rfl, rfl, trivial⟩)⟩
              · have hs150e : decide ((r60.1 : List UInt8) ≠ t_'') = false := decide_eq_false hs150
                replace hg := br_f hg hs150
                replace hg := bind_some hg; obtain ⟨r153, hr153, hg⟩ := hg
                rcases Bool.eq_false_or_eq_true (!(r153)) with hs156 | hs156
                · replace hg := br_t hg hs156
                  refine d_steps hS [] rfl ?_; clear hS; intro wr hZ hS; have hR := hS.wd; have hE := Ext.init hR 0
                  refine n_q 0 0 hS hR rfl (by kernel_rfl) (by kernel_rfl) (by kernel_rfl) rfl rfl rfl (y_move hS rfl) ?_; clear hS a; intro a hS
                  refine n_q 1 0 hS hR rfl (by kernel_rfl) (by kernel_rfl) (by kernel_rfl) rfl rfl rfl (yl_b (y_not hS rfl) hs149) ?_; clear hS a; intro a hS
                  refine n_q 2 0 hS hR rfl (by kernel_rfl) (by kernel_rfl) (by kernel_rfl) rfl rfl rfl (y_move hS rfl) ?_; clear hS a; intro a hS
                  refine n_q 3 0 hS hR rfl (by kernel_rfl) (by kernel_rfl) (by kernel_rfl) rfl ⟨_, _, _, rfl, rfl, rfl, rfl⟩ rfl (y_move hS rfl) ?_; clear hS a; intro a hS
                  refine n_q 4 0 hS hR rfl (by kernel_rfl) (by kernel_rfl) (by kernel_rfl) rfl ⟨_, _, _, rfl, rfl, rfl, rfl⟩ rfl (y_move hS rfl) ?_; clear hS a; intro a hS
                  refine n_q 5 0 hS hR rfl (by kernel_rfl) (by kernel_rfl) (by kernel_rfl) rfl ⟨_, _, _, rfl, rfl, rfl, rfl⟩ rfl (yl_b (y_sne hS rfl rfl) hs150e) ?_; clear hS a; intro a hS
                  refine n_q 6 0 hS hR rfl (by kernel_rfl) (by kernel_rfl) (by kernel_rfl) rfl rfl rfl (y_pick_f hS rfl rfl) ?_; clear hS a; intro a hS
                  refine n_q 7 0 hS hR rfl (by kernel_rfl) (by kernel_rfl) (by kernel_rfl) rfl rfl rfl (y_move hS rfl) ?_; clear hS a; intro a hS
                  refine n_q 8 0 hS hR rfl (by kernel_rfl) (by kernel_rfl) (by kernel_rfl) rfl ⟨_, _, _, rfl, rfl, rfl, rfl⟩ rfl (y_move hS rfl) ?_; clear hS a; intro a hS
                  refine n_q 9 0 hS hR rfl (by kernel_rfl) (by kernel_rfl) (by kernel_rfl) rfl ⟨_, _, _, rfl, rfl, rfl, rfl⟩ rfl (y_move hS rfl) ?_; clear hS a; intro a hS
                  obtain ⟨p157, hep157, hpp157⟩ := SlR.elemX (hS.fact (k := 103) rfl) hx58
                  refine n_q 10 0 hS hR rfl (by kernel_rfl) (by kernel_rfl) (by kernel_rfl) rfl ⟨_, _, _, rfl, rfl, rfl, rfl⟩ rfl (y_elem (sz := 1) (i := t_54) hS rfl rfl Try.underlying34 rfl hep157 rfl (lt_of_get hx58)) ?_; clear hS a; intro a hS
                  obtain ⟨hlq158, hmq158, csq158, hdq158, hcq158⟩ := hpp157
                  obtain ⟨rfl, lq1581⟩ := hdq158
                  refine n_q 11 0 hS hR rfl (by kernel_rfl) (by kernel_rfl) (by kernel_rfl) rfl ⟨_, _, _, rfl, rfl, rfl, rfl⟩ rfl (y_ldp1 hS rfl hlq158 hmq158 (hcq158 0 _ rfl) Try.underlying9 rfl) ?_; clear hS a; intro a hS
                  refine n_1 12 hS (by kernel_rfl) rfl ⟨_, _, _, rfl, rfl, rfl, rfl⟩ (l_call (cap := []) hS rfl Try.func13 rfl (by kernel_rfl) rfl rfl (c_r01_Word n _ _ hS.lt x58 (by first | omega | (rw [List.length_append]; omega) | (simp only [List.length_append]; omega) | (simp only [List.length_append, List.length_take, List.length_drop, List.length_cons, List.length_nil]; omega)) r153 hr153) ?_); clear hS a; intro v159 a w hK hp hS
                  replace hE := hE.grow hK; replace hZ := Nat.le_trans hZ hK.size; refine ⟨fun g _ h => h.grow hK, ?_⟩; clear hK
                  obtain rfl := hp
                  refine n_1 13 hS (by kernel_rfl) rfl ⟨_, _, _, rfl, rfl, rfl, rfl⟩ (l_quiet hS rfl rfl (yl_b (y_not hS rfl) hs156) ?_); clear hS a; intro a hS; refine ⟨fun g _ h => h, ?_⟩
                  refine n_1 14 hS (by kernel_rfl) rfl rfl (l_quiet hS rfl rfl (y_pick_f hS rfl rfl) ?_); clear hS a; intro a hS; refine ⟨fun g _ h => h, ?_⟩
                  refine n_1 15 hS (by kernel_rfl) rfl rfl (l_quiet hS rfl rfl (y_move hS rfl) ?_); clear hS a; intro a hS; refine ⟨fun g _ h => h, ?_⟩
                  refine n_pass 16 hS (by kernel_rfl) rfl ⟨_, _, _, rfl, rfl, rfl, rfl⟩ rfl rfl ?_; clear hS a; intro a hS
                  refine n_pass 17 hS (by kernel_rfl) rfl ⟨_, _, _, rfl, rfl, rfl, rfl⟩ rfl rfl ?_; clear hS a; intro a hS
                  refine n_pass 18 hS (by kernel_rfl) rfl ⟨_, _, _, rfl, rfl, rfl, rfl⟩ rfl rfl ?_; clear hS a; intro a hS
                  refine n_qlpass 19 hS hE rfl (by kernel_rfl) (by kernel_rfl) (by kernel_rfl) rfl ⟨_, _, _, rfl, rfl, rfl, rfl⟩ rfl ?_; clear hS a; intro a hS
                  refine n_qlpass 20 hS hE rfl (by kernel_rfl) (by kernel_rfl) (by kernel_rfl) rfl ⟨_, _, _, rfl, rfl, rfl, rfl⟩ rfl ?_; clear hS a; intro a hS
                  refine n_qlpass 21 hS hE rfl (by kernel_rfl) (by kernel_rfl) (by kernel_rfl) rfl ⟨_, _, _, rfl, rfl, rfl, rfl⟩ rfl ?_; clear hS a; intro a hS
                  refine n_qlpass 22 hS hE rfl (by kernel_rfl) (by kernel_rfl) (by kernel_rfl) rfl ⟨_, _, _, rfl, rfl, rfl, rfl⟩ rfl ?_; clear hS a; intro a hS
                  refine n_qlpass 23 hS hE rfl (by kernel_rfl) (by kernel_rfl) (by kernel_rfl) rfl ⟨_, _, _, rfl, rfl, rfl, rfl⟩ rfl ?_; clear hS a; intro a hS
                  refine n_qlpass 24 hS hE rfl (by kernel_rfl) (by kernel_rfl) (by kernel_rfl) rfl ⟨_, _, _, rfl, rfl, rfl, rfl⟩ rfl ?_; clear hS a; intro a hS
                  refine n_pass 25 hS (by kernel_rfl) rfl ⟨_, _, _, rfl, rfl, rfl, rfl⟩ rfl rfl ?_; clear hS a; intro a hS
                  refine n_pass 26 hS (by kernel_rfl) rfl ⟨_, _, _, rfl, rfl, rfl, rfl⟩ rfl rfl ?_; clear hS a; intro a hS
                  refine n_pass 27 hS (by kernel_rfl) rfl ⟨_, _, _, rfl, rfl, rfl, rfl⟩ rfl rfl ?_; clear hS a; intro a hS
                  refine n_pass 28 hS (by kernel_rfl) rfl ⟨_, _, _, rfl, rfl, rfl, rfl⟩ rfl rfl ?_; clear hS a; intro a hS
                  refine n_pass 29 hS (by kernel_rfl) rfl ⟨_, _, _, rfl, rfl, rfl, rfl⟩ rfl rfl ?_; clear hS a; intro a hS
                  refine n_1 30 hS (by kernel_rfl) rfl rfl (l_quiet hS rfl rfl (y_pick_t hS rfl rfl) ?_); clear hS a; intro a hS; refine ⟨fun g _ h => h, ?_⟩
                  refine n_end (by kernel_rfl) ?_; clear hR hZ hE
                  refine p_norm ?_
                  exact ⟨(true), hg, (hS.sub ⟨rfl, rfl, rfl, rfl, rfl, rfl, rfl, trivial⟩ ⟨rfl, trivial⟩ ⟨rfl, rfl, trivial⟩)⟩
                · replace hg := br_f hg (by rw [hs156]; exact Bool.false_ne_true)
                  rcases Decidable.em ((0 : Nat) < t_54) with hs161 | hs161
                  · have hs161e : decide ((0 : Nat) < t_54) = true := decide_eq_true hs161
                    replace hg := br_t hg hs161
                    replace hg := bind_some hg; obtain ⟨x163, hx163, hg⟩ := hg
                    refine d_steps hS [] rfl ?_; clear hS; intro wr hZ hS; have hR := hS.wd; have hE := Ext.init hR 0
                    refine n_q 0 0 hS hR rfl (by kernel_rfl) (by kernel_rfl) (by kernel_rfl) rfl rfl rfl (y_move hS rfl) ?_; clear hS a; intro a hS
                    refine n_q 1 0 hS hR rfl (by kernel_rfl) (by kernel_rfl) (by kernel_rfl) rfl rfl rfl (yl_b (y_not hS rfl) hs149) ?_; clear hS a; intro a hS
                    refine n_q 2 0 hS hR rfl (by kernel_rfl) (by kernel_rfl) (by kernel_rfl) rfl rfl rfl (y_move hS rfl) ?_; clear hS a; intro a hS
                    refine n_q 3 0 hS hR rfl (by kernel_rfl) (by kernel_rfl) (by kernel_rfl) rfl ⟨_, _, _, rfl, rfl, rfl, rfl⟩ rfl (y_move hS rfl) ?_; clear hS a; intro a hS
                    refine n_q 4 0 hS hR rfl (by kernel_rfl) (by kernel_rfl) (by kernel_rfl) rfl ⟨_, _, _, rfl, rfl, rfl, rfl⟩ rfl (y_move hS rfl) ?_; clear hS a; intro a hS
                    refine n_q 5 0 hS hR rfl (by kernel_rfl) (by kernel_rfl) (by kernel_rfl) rfl ⟨_, _, _, rfl, rfl, rfl, rfl⟩ rfl (yl_b (y_sne hS rfl rfl) hs150e) ?_; clear hS a; intro a hS
                    refine n_q 6 0 hS hR rfl (by kernel_rfl) (by kernel_rfl) (by kernel_rfl) rfl rfl rfl (y_pick_f hS rfl rfl) ?_; clear hS a; intro a hS
                    refine n_q 7 0 hS hR rfl (by kernel_rfl) (by kernel_rfl) (by kernel_rfl) rfl rfl rfl (y_move hS rfl) ?_; clear hS a; intro a hS
                    refine n_q 8 0 hS hR rfl (by kernel_rfl) (by kernel_rfl) (by kernel_rfl) rfl ⟨_, _, _, rfl, rfl, rfl, rfl⟩ rfl (y_move hS rfl) ?_; clear hS a; intro a hS
                    refine n_q 9 0 hS hR rfl (by kernel_rfl) (by kernel_rfl) (by kernel_rfl) rfl ⟨_, _, _, rfl, rfl, rfl, rfl⟩ rfl (y_move hS rfl) ?_; clear hS a; intro a hS
                    obtain ⟨p167, hep167, hpp167⟩ := SlR.elemX (hS.fact (k := 103) rfl) hx58
                    refine n_q 10 0 hS hR rfl (by kernel_rfl) (by kernel_rfl) (by kernel_rfl) rfl ⟨_, _, _, rfl, rfl, rfl, rfl⟩ rfl (y_elem (sz := 1) (i := t_54) hS rfl rfl Try.underlying34 rfl hep167 rfl (lt_of_get hx58)) ?_; clear hS a; intro a hS
                    obtain ⟨hlq168, hmq168, csq168, hdq168, hcq168⟩ := hpp167
                    obtain ⟨rfl, lq1681⟩ := hdq168
                    refine n_q 11 0 hS hR rfl (by kernel_rfl) (by kernel_rfl) (by kernel_rfl) rfl ⟨_, _, _, rfl, rfl, rfl, rfl⟩ rfl (y_ldp1 hS rfl hlq168 hmq168 (hcq168 0 _ rfl) Try.underlying9 rfl) ?_; clear hS a; intro a hS
                    refine n_1 12 hS (by kernel_rfl) rfl ⟨_, _, _, rfl, rfl, rfl, rfl⟩ (l_call (cap := []) hS rfl Try.func13 rfl (by kernel_rfl) rfl rfl (c_r01_Word n _ _ hS.lt x58 (by first | omega | (rw [List.length_append]; omega) | (simp only [List.length_append]; omega) | (simp only [List.length_append, List.length_take, List.length_drop, List.length_cons, List.length_nil]; omega)) r153 hr153) ?_); clear hS a; intro v169 a w hK hp hS
                    replace hE := hE.grow hK; replace hZ := Nat.le_trans hZ hK.size; refine ⟨fun g _ h => h.grow hK, ?_⟩; clear hK
                    obtain rfl := hp
                    refine n_1 13 hS (by kernel_rfl) rfl ⟨_, _, _, rfl, rfl, rfl, rfl⟩ (l_quiet hS rfl rfl (yl_b (y_not hS rfl) hs156) ?_); clear hS a; intro a hS; refine ⟨fun g _ h => h, ?_⟩
                    refine n_1 14 hS (by kernel_rfl) rfl rfl (l_quiet hS rfl rfl (y_pick_f hS rfl rfl) ?_); clear hS a; intro a hS; refine ⟨fun g _ h => h, ?_⟩
                    refine n_1 15 hS (by kernel_rfl) rfl rfl (l_quiet hS rfl rfl (y_move hS rfl) ?_); clear hS a; intro a hS; refine ⟨fun g _ h => h, ?_⟩
                    refine n_1 16 hS (by kernel_rfl) rfl ⟨_, _, _, rfl, rfl, rfl, rfl⟩ (l_quiet hS rfl rfl (y_move hS rfl) ?_); clear hS a; intro a hS; refine ⟨fun g _ h => h, ?_⟩
                    refine n_1 17 hS (by kernel_rfl) rfl ⟨_, _, _, rfl, rfl, rfl, rfl⟩ (l_quiet hS rfl rfl (yl_b (y_gtrN (i := t_54) (j := 0) hS rfl rfl) hs161e) ?_); clear hS a; intro a hS; refine ⟨fun g _ h => h, ?_⟩
                    refine n_1 18 hS (by kernel_rfl) rfl ⟨_, _, _, rfl, rfl, rfl, rfl⟩ (l_quiet hS rfl rfl (y_move hS rfl) ?_); clear hS a; intro a hS; refine ⟨fun g _ h => h, ?_⟩
                    refine n_ql 19 hS hE rfl (by kernel_rfl) (by kernel_rfl) (by kernel_rfl) rfl ⟨_, _, _, rfl, rfl, rfl, rfl⟩ rfl (fun w' hS => y_move hS rfl) ?_; clear hS a; intro a hS
                    refine n_ql 20 hS hE rfl (by kernel_rfl) (by kernel_rfl) (by kernel_rfl) rfl ⟨_, _, _, rfl, rfl, rfl, rfl⟩ rfl (fun w' hS => y_move hS rfl) ?_; clear hS a; intro a hS
                    refine n_ql 21 hS hE rfl (by kernel_rfl) (by kernel_rfl) (by kernel_rfl) rfl ⟨_, _, _, rfl, rfl, rfl, rfl⟩ rfl (fun w' hS => y_sub hS rfl rfl (in64.2 (by omega))) ?_; clear hS a; intro a hS
                    obtain ⟨p171, hep171, hpp171⟩ := SlR.elemX (hS.fact (k := 103) rfl) (ix_some hx163).1
                    refine n_ql 22 hS hE rfl (by kernel_rfl) (by kernel_rfl) (by kernel_rfl) rfl ⟨_, _, _, rfl, rfl, rfl, rfl⟩ rfl (fun w' hS => y_elem (sz := 1) (i := ((((t_54 : Nat) : Int) - 1).toNat)) hS rfl rfl Try.underlying34 rfl hep171 (ix_some hx163).2.1 (lt_of_get (ix_some hx163).1)) ?_; clear hS a; intro a hS
                    refine n_ql 24 hS hE rfl (by kernel_rfl) (by kernel_rfl) (by kernel_rfl) rfl ⟨_, _, _, rfl, rfl, rfl, rfl⟩ rfl (fun w' hS => y_move hS rfl) ?_; clear hS a; intro a hS
                    refine n_ql 25 hS hE rfl (by kernel_rfl) (by kernel_rfl) (by kernel_rfl) rfl ⟨_, _, _, rfl, rfl, rfl, rfl⟩ rfl (fun w' hS => y_move hS rfl) ?_; clear hS a; intro a hS
                    obtain ⟨p172, hep172, hpp172⟩ := SlR.elemX (hS.fact (k := 103) rfl) hx58
                    refine n_ql 26 hS hE rfl (by kernel_rfl) (by kernel_rfl) (by kernel_rfl) rfl ⟨_, _, _, rfl, rfl, rfl, rfl⟩ rfl (fun w' hS => y_elem (sz := 1) (i := t_54) hS rfl rfl Try.underlying34 rfl hep172 rfl (lt_of_get hx58)) ?_; clear hS a; intro a hS
                    refine n_2 23 27 hS (by kernel_rfl) rfl ⟨_, _, _, rfl, rfl, rfl, rfl⟩ rfl ⟨_, _, _, rfl, rfl, rfl, rfl⟩ ?_ ?_
                    · obtain ⟨hlq173, hmq173, csq173, hdq173, hcq173⟩ := hpp171
                      obtain ⟨rfl, lq1731⟩ := hdq173
                      refine l_quiet hS rfl rfl (y_ldp1 hS rfl hlq173 hmq173 (hcq173 0 _ rfl) Try.underlying9 rfl) ?_; clear hS a; intro a hS; refine ⟨fun g _ h => h, ?_⟩
                      obtain ⟨hlq174, hmq174, csq174, hdq174, hcq174⟩ := hpp172
                      obtain ⟨rfl, lq1741⟩ := hdq174
                      refine n_1 27 hS (by kernel_rfl) rfl ⟨_, _, _, rfl, rfl, rfl, rfl⟩ (l_quiet hS rfl rfl (y_ldp1 hS rfl hlq174 hmq174 (hcq174 0 _ rfl) Try.underlying9 rfl) ?_); clear hS a; intro a hS; refine ⟨fun g _ h => h, ?_⟩
                      refine n_1 28 hS (by kernel_rfl) rfl ⟨_, _, _, rfl, rfl, rfl, rfl⟩ (l_quiet hS rfl rfl (y_sgeq hS rfl rfl) ?_); clear hS a; intro a hS; refine ⟨fun g _ h => h, ?_⟩
                      refine n_1 29 hS (by kernel_rfl) rfl ⟨_, _, _, rfl, rfl, rfl, rfl⟩ (l_quiet hS rfl rfl (y_pick_t hS rfl rfl) ?_); clear hS a; intro a hS; refine ⟨fun g _ h => h, ?_⟩
                      refine n_1 30 hS (by kernel_rfl) rfl rfl (l_quiet hS rfl rfl (y_pick_f hS rfl rfl) ?_); clear hS a; intro a hS; refine ⟨fun g _ h => h, ?_⟩
                      refine n_end (by kernel_rfl) ?_; clear hR hZ hE
                      refine p_norm ?_
                      exact ⟨(!(Op.bytesLess x163 x58)), hg, (hS.sub ⟨rfl, rfl, rfl, rfl, rfl, rfl, rfl, trivial⟩ ⟨rfl, trivial⟩ ⟨rfl, rfl, trivial⟩)⟩
                    · obtain ⟨hlq175, hmq175, csq175, hdq175, hcq175⟩ := hpp172
                      obtain ⟨rfl, lq1751⟩ := hdq175
                      refine l_quiet hS rfl rfl (y_ldp1 hS rfl hlq175 hmq175 (hcq175 0 _ rfl) Try.underlying9 rfl) ?_; clear hS a; intro a hS; refine ⟨fun g _ h => h, ?_⟩
                      obtain ⟨hlq176, hmq176, csq176, hdq176, hcq176⟩ := hpp171
                      obtain ⟨rfl, lq1761⟩ := hdq176
                      refine n_1 23 hS (by kernel_rfl) rfl ⟨_, _, _, rfl, rfl, rfl, rfl⟩ (l_quiet hS rfl rfl (y_ldp1 hS rfl hlq176 hmq176 (hcq176 0 _ rfl) Try.underlying9 rfl) ?_); clear hS a; intro a hS; refine ⟨fun g _ h => h, ?_⟩
                      refine n_1 28 hS (by kernel_rfl) rfl ⟨_, _, _, rfl, rfl, rfl, rfl⟩ (l_quiet hS rfl rfl (y_sgeq hS rfl rfl) ?_); clear hS a; intro a hS; refine ⟨fun g _ h => h, ?_⟩
                      refine n_1 29 hS (by kernel_rfl) rfl ⟨_, _, _, rfl, rfl, rfl, rfl⟩ (l_quiet hS rfl rfl (y_pick_t hS rfl rfl) ?_); clear hS a; intro a hS; refine ⟨fun g _ h => h, ?_⟩
                      refine n_1 30 hS (by kernel_rfl) rfl rfl (l_quiet hS rfl rfl (y_pick_f hS rfl rfl) ?_); clear hS a; intro a hS; refine ⟨fun g _ h => h, ?_⟩
                      refine n_end (by kernel_rfl) ?_; clear hR hZ hE
                      refine p_norm ?_
                      exact ⟨(!(Op.bytesLess x163 x58)), hg, (hS.sub ⟨rfl, rfl, rfl, rfl, rfl, rfl, rfl, trivial⟩ ⟨rfl, trivial⟩ ⟨rfl, rfl, trivial⟩)⟩
                  · have hs161e : decide ((0 : Nat) < t_54) = false := decide_eq_false hs161
                    replace hg := br_f hg hs161
                    refine d_steps hS [] rfl ?_; clear hS; intro wr hZ hS; have hR := hS.wd; have hE := Ext.init hR 0
                    refine n_q 0 0 hS hR rfl (by kernel_rfl) (by kernel_rfl) (by kernel_rfl) rfl rfl rfl (y_move hS rfl) ?_; clear hS a; intro a hS
                    refine n_q 1 0 hS hR rfl (by kernel_rfl) (by kernel_rfl) (by kernel_rfl) rfl rfl rfl (yl_b (y_not hS rfl) hs149) ?_; clear hS a; intro a hS
                    refine n_q 2 0 hS hR rfl (by kernel_rfl) (by kernel_rfl) (by kernel_rfl) rfl rfl rfl (y_move hS rfl) ?_; clear hS a; intro a hS
                    refine n_q 3 0 hS hR rfl (by kernel_rfl) (by kernel_rfl) (by kernel_rfl) rfl ⟨_, _, _, rfl, rfl, rfl, rfl⟩ rfl (y_move hS rfl) ?_; clear hS a; intro a hS
                    refine n_q 4 0 hS hR rfl (by kernel_rfl) (by kernel_rfl) (by kernel_rfl) rfl ⟨_, _, _, rfl, rfl, rfl, rfl⟩ rfl (y_move hS rfl) ?_; clear hS a; intro a hS
                    refine n_q 5 0 hS hR rfl (by kernel_rfl) (by kernel_rfl) (by kernel_rfl) rfl ⟨_, _, _, rfl, rfl, rfl, rfl⟩ rfl (yl_b (y_sne hS rfl rfl) hs150e) ?_; clear hS a; intro a hS
                    refine n_q 6 0 hS hR rfl (by kernel_rfl) (by kernel_rfl) (by kernel_rfl) rfl rfl rfl (y_pick_f hS rfl rfl) ?_; clear hS a; intro a hS
                    refine n_q 7 0 hS hR rfl (by kernel_rfl) (by kernel_rfl) (by kernel_rfl) rfl rfl rfl (y_move hS rfl) ?_; clear hS a; intro a hS
                    refine n_q 8 0 hS hR rfl (by kernel_rfl) (by kernel_rfl) (by kernel_rfl) rfl ⟨_, _, _, rfl, rfl, rfl, rfl⟩ rfl (y_move hS rfl) ?_; clear hS a; intro a hS
                    refine n_q 9 0 hS hR rfl (by kernel_rfl) (by kernel_rfl) (by kernel_rfl) rfl ⟨_, _, _, rfl, rfl, rfl, rfl⟩ rfl (y_move hS rfl) ?_; clear hS a; intro a hS
                    obtain ⟨p177, hep177, hpp177⟩ := SlR.elemX (hS.fact (k := 103) rfl) hx58
                    refine n_q 10 0 hS hR rfl (by kernel_rfl) (by kernel_rfl) (by kernel_rfl) rfl ⟨_, _, _, rfl, rfl, rfl, rfl⟩ rfl (y_elem (sz := 1) (i := t_54) hS rfl rfl Try.underlying34 rfl hep177 rfl (lt_of_get hx58)) ?_; clear hS a; intro a hS
                    obtain ⟨hlq178, hmq178, csq178, hdq178, hcq178⟩ := hpp177
                    obtain ⟨rfl, lq1781⟩ := hdq178
                    refine n_q 11 0 hS hR rfl (by kernel_rfl) (by kernel_rfl) (by kernel_rfl) rfl ⟨_, _, _, rfl, rfl, rfl, rfl⟩ rfl (y_ldp1 hS rfl hlq178 hmq178 (hcq178 0 _ rfl) Try.underlying9 rfl) ?_; clear hS a; intro a hS
                    refine n_1 12 hS (by kernel_rfl) rfl ⟨_, _, _, rfl, rfl, rfl, rfl⟩ (l_call (cap := []) hS rfl Try.func13 rfl (by kernel_rfl) rfl rfl (c_r01_Word n _ _ hS.lt x58 (by first | omega | (rw [List.length_append]; omega) | (simp only [List.length_append]; omega) | (simp only [List.length_append, List.length_take, List.length_drop, List.length_cons, List.length_nil]; omega)) r153 hr153) ?_); clear hS a; intro v179 a w hK hp hS
                    replace hE := hE.grow hK; replace hZ := Nat.le_trans hZ hK.size; refine ⟨fun g _ h => h.grow hK, ?_⟩; clear hK
                    obtain rfl := hp
                    refine n_1 13 hS (by kernel_rfl) rfl ⟨_, _, _, rfl, rfl, rfl, rfl⟩ (l_quiet hS rfl rfl (yl_b (y_not hS rfl) hs156) ?_); clear hS a; intro a hS; refine ⟨fun g _ h => h, ?_⟩
                    refine n_1 14 hS (by kernel_rfl) rfl rfl (l_quiet hS rfl rfl (y_pick_f hS rfl rfl) ?_); clear hS a; intro a hS; refine ⟨fun g _ h => h, ?_⟩
                    refine n_1 15 hS (by kernel_rfl) rfl rfl (l_quiet hS rfl rfl (y_move hS rfl) ?_); clear hS a; intro a hS; refine ⟨fun g _ h => h, ?_⟩
                    refine n_1 16 hS (by kernel_rfl) rfl ⟨_, _, _, rfl, rfl, rfl, rfl⟩ (l_quiet hS rfl rfl (y_move hS rfl) ?_); clear hS a; intro a hS; refine ⟨fun g _ h => h, ?_⟩
                    refine n_1 17 hS (by kernel_rfl) rfl ⟨_, _, _, rfl, rfl, rfl, rfl⟩ (l_quiet hS rfl rfl (yl_b (y_gtrN (i := t_54) (j := 0) hS rfl rfl) hs161e) ?_); clear hS a; intro a hS; refine ⟨fun g _ h => h, ?_⟩
                    refine n_1 18 hS (by kernel_rfl) rfl ⟨_, _, _, rfl, rfl, rfl, rfl⟩ (l_quiet hS rfl rfl (y_move hS rfl) ?_); clear hS a; intro a hS; refine ⟨fun g _ h => h, ?_⟩
                    refine n_qlpass 19 hS hE rfl (by kernel_rfl) (by kernel_rfl) (by kernel_rfl) rfl ⟨_, _, _, rfl, rfl, rfl, rfl⟩ rfl ?_; clear hS a; intro a hS
                    refine n_qlpass 20 hS hE rfl (by kernel_rfl) (by kernel_rfl) (by kernel_rfl) rfl ⟨_, _, _, rfl, rfl, rfl, rfl⟩ rfl ?_; clear hS a; intro a hS
                    refine n_qlpass 21 hS hE rfl (by kernel_rfl) (by kernel_rfl) (by kernel_rfl) rfl ⟨_, _, _, rfl, rfl, rfl, rfl⟩ rfl ?_; clear hS a; intro a hS
                    refine n_qlpass 22 hS hE rfl (by kernel_rfl) (by kernel_rfl) (by kernel_rfl) rfl ⟨_, _, _, rfl, rfl, rfl, rfl⟩ rfl ?_; clear hS a; intro a hS
                    refine n_qlpass 23 hS hE rfl (by kernel_rfl) (by kernel_rfl) (by kernel_rfl) rfl ⟨_, _, _, rfl, rfl, rfl, rfl⟩ rfl ?_; clear hS a; intro a hS
                    refine n_qlpass 24 hS hE rfl (by kernel_rfl) (by kernel_rfl) (by kernel_rfl) rfl ⟨_, _, _, rfl, rfl, rfl, rfl⟩ rfl ?_; clear hS a; intro a hS
                    refine n_pass 25 hS (by kernel_rfl) rfl ⟨_, _, _, rfl, rfl, rfl, rfl⟩ rfl rfl ?_; clear hS a; intro a hS
                    refine n_pass 26 hS (by kernel_rfl) rfl ⟨_, _, _, rfl, rfl, rfl, rfl⟩ rfl rfl ?_; clear hS a; intro a hS
                    refine n_pass 27 hS (by kernel_rfl) rfl ⟨_, _, _, rfl, rfl, rfl, rfl⟩ rfl rfl ?_; clear hS a; intro a hS
                    refine n_pass 28 hS (by kernel_rfl) rfl ⟨_, _, _, rfl, rfl, rfl, rfl⟩ rfl rfl ?_; clear hS a; intro a hS
                    refine n_1 29 hS (by kernel_rfl) rfl ⟨_, _, _, rfl, rfl, rfl, rfl⟩ (l_quiet hS rfl rfl (y_pick_f hS rfl rfl) ?_); clear hS a; intro a hS; refine ⟨fun g _ h => h, ?_⟩
                    refine n_1 30 hS (by kernel_rfl) rfl rfl (l_quiet hS rfl rfl (y_pick_f hS rfl rfl) ?_); clear hS a; intro a hS; refine ⟨fun g _ h => h, ?_⟩
                    refine n_end (by kernel_rfl) ?_; clear hR hZ hE
                    refine p_norm ?_
                    exact ⟨(false), hg, (hS.sub ⟨rfl, rfl, rfl, rfl, rfl, rfl, rfl, trivial⟩ ⟨rfl, trivial⟩ ⟨rfl, rfl, trivial⟩)⟩
          clear hS a; rintro a w ⟨t_148, hg, hS⟩
          subst hk147
          refine c_cond hS rfl (fun hc181 => ?_) (fun hc181 => ?_)
          · replace hg := br_t hg hc181
            apply wp_seq
            apply wp_region_lit
            refine q_seq hS rfl rfl rfl (y_assign hS rfl) ?_; clear hS a; intro a hS
            apply wpList_nil
            refine p_norm ?_
            apply wp_ret
            refine p_thenR ?_
            refine p_inR ?_
            refine p_thenR ?_
            refine p_thenR ?_
            refine p_inR ?_
            refine p_thenR ?_
            obtain rfl := Option.some.inj hg
            refine fin1 (fn := Try.f6) hS rfl (r_tmp hS rfl) ?_
            exact rfl
          · replace hg := br_f hg (by rw [hc181]; exact Bool.false_ne_true)
            apply wp_skip
            refine p_norm ?_
            rcases Bool.eq_false_or_eq_true (t_53) with hs182 | hs182
            · replace hg := br_t hg hs182
              apply wp_region_lit
              refine q_seq hS rfl rfl rfl (yl_b (y_move hS rfl) hs182) ?_; clear hS a; intro a hS
              refine q_seq hS rfl rfl rfl (y_move hS rfl) ?_; clear hS a; intro a hS
              refine g_no hS rfl rfl rfl rfl rfl rfl rfl ?_; clear hS a; intro a hS
              refine g_no hS rfl rfl rfl rfl rfl rfl rfl ?_; clear hS a; intro a hS
              refine g_no hS rfl rfl rfl rfl rfl rfl rfl ?_; clear hS a; intro a hS
              refine g_no hS rfl rfl rfl rfl rfl rfl rfl ?_; clear hS a; intro a hS
              refine g_no hS rfl rfl rfl rfl rfl rfl rfl ?_; clear hS a; intro a hS
              refine g_no hS rfl rfl rfl rfl rfl rfl rfl ?_; clear hS a; intro a hS
              refine q_seq hS rfl rfl rfl (y_pick_t hS rfl rfl) ?_; clear hS a; intro a hS
              refine q_seq hS rfl rfl rfl (y_assign hS rfl) ?_; clear hS a; intro a hS
              apply wpList_nil
              refine p_inN ?_
              refine p_norm ?_
              apply wp_region_lit
              refine q_seq hS rfl rfl rfl (y_move hS rfl) ?_; clear hS a; intro a hS
              refine q_seq hS rfl rfl rfl (y_addN (i := t_54) (j := 1) hS rfl rfl (in64.2 (by omega))) ?_; clear hS a; intro a hS
              refine q_seq hS rfl rfl rfl (y_assign hS rfl) ?_; clear hS a; intro a hS
              apply wpList_nil
              refine p_norm ?_
              exact ⟨m1, Nat.lt_succ_self _, ⟨(true), (t_54 + 1), hg, (hS.sub ⟨rfl, rfl, rfl, rfl, rfl, rfl, trivial⟩ ⟨rfl, trivial⟩ ⟨rfl, rfl, trivial⟩)⟩⟩
            · replace hg := br_f hg (by rw [hs182]; exact Bool.false_ne_true)
              apply wp_region_lit
              refine q_seq hS rfl rfl rfl (yl_b (y_move hS rfl) hs182) ?_; clear hS a; intro a hS
              refine q_seq hS rfl rfl rfl (y_move hS rfl) ?_; clear hS a; intro a hS
              refine g_yes hS rfl rfl rfl rfl (l_quiet hS rfl rfl (y_move hS rfl) ?_); clear hS a; intro a hS
              refine g_yes hS rfl rfl rfl rfl (l_quiet hS rfl rfl (y_move hS rfl) ?_); clear hS a; intro a hS
              obtain ⟨p185, hep185, hpp185⟩ := SlR.elemX (hS.fact (k := 103) rfl) hx58
              refine g_yes hS rfl rfl rfl rfl (l_quiet hS rfl rfl (y_elem (sz := 1) (i := t_54) hS rfl rfl Try.underlying34 rfl hep185 rfl (lt_of_get hx58)) ?_); clear hS a; intro a hS
              obtain ⟨hlq186, hmq186, csq186, hdq186, hcq186⟩ := hpp185
              obtain ⟨rfl, lq1861⟩ := hdq186
              refine g_yes hS rfl rfl rfl rfl (l_quiet hS rfl rfl (y_ldp1 hS rfl hlq186 hmq186 (hcq186 0 _ rfl) Try.underlying9 rfl) ?_); clear hS a; intro a hS
              refine g_yes hS rfl rfl rfl rfl (l_quiet hS rfl rfl (y_move hS rfl) ?_); clear hS a; intro a hS
              refine g_yes hS rfl rfl rfl rfl (l_quiet hS rfl rfl (y_seq hS rfl rfl) ?_); clear hS a; intro a hS
              refine q_seq hS rfl rfl rfl (y_pick_f hS rfl rfl) ?_; clear hS a; intro a hS
              refine q_seq hS rfl rfl rfl (y_assign hS rfl) ?_; clear hS a; intro a hS
              apply wpList_nil
              refine p_inN ?_
              refine p_norm ?_
              apply wp_region_lit
              refine q_seq hS rfl rfl rfl (y_move hS rfl) ?_; clear hS a; intro a hS
              refine q_seq hS rfl rfl rfl (y_addN (i := t_54) (j := 1) hS rfl rfl (in64.2 (by omega))) ?_; clear hS a; intro a hS
              refine q_seq hS rfl rfl rfl (y_assign hS rfl) ?_; clear hS a; intro a hS
              apply wpList_nil
              refine p_norm ?_
              exact ⟨m1, Nat.lt_succ_self _, ⟨(decide ((x58 : List UInt8) = t_')), (t_54 + 1), hg, (hS.sub ⟨rfl, rfl, rfl, rfl, rfl, rfl, trivial⟩ ⟨rfl, trivial⟩ ⟨rfl, rfl, trivial⟩)⟩⟩
      · replace hg := br_f hg hc55
        apply wp_exit
        refine p_then ?_
        refine p_then ?_
        refine p_in ?_
        refine p_norm ?_
        exact ⟨(t_53), hg, (hS.sub ⟨rfl, rfl, rfl, rfl, trivial⟩ ⟨rfl, trivial⟩ ⟨rfl, trivial⟩)⟩
    clear hS a; rintro a w ⟨t_52, hg, hS⟩
    subst hk51
    apply wp_seq
    replace hg := bind_some hg; obtain ⟨r187, hr187, hg⟩ := hg
    apply wp_region_lit
    refine q_seq hS rfl rfl rfl (y_loadBox (kk := 1000) (n := 2) (vs := [.int .i64 (t_.Kind), .slice (Ap02) ((t_.Pairs).length) (cp02)]) hS rfl rfl Try.underlying24 rfl rfl rfl rfl) ?_; clear hS a; intro a hS
    refine q_seq hS rfl rfl rfl (y_move hS rfl) ?_; clear hS a; intro a hS
    refine l_seq rfl (l_call (cap := []) hS rfl Try.func14 rfl (by kernel_rfl) rfl rfl (c_affix_Apply n _ _ hS.lt t_ (Ap02) (cp02) (hS.fact (k := 101) rfl) t_' (by first | omega | (rw [List.length_append]; omega) | (simp only [List.length_append]; omega) | (simp only [List.length_append, List.length_take, List.length_drop, List.length_cons, List.length_nil]; omega)) r187 hr187) ?_); clear hS a; intro v190 a w hK hp hS
    clear hK
    obtain ⟨rfl, lu191a1⟩ := hp
    refine q_seq hS rfl rfl rfl (y_move hS rfl) ?_; clear hS a; intro a hS
    refine q_seq hS rfl rfl rfl (y_extract hS rfl rfl) ?_; clear hS a; intro a hS
    refine q_seq hS rfl rfl rfl (y_extract hS rfl rfl) ?_; clear hS a; intro a hS
    refine q_seq hS rfl rfl rfl (y_assign hS rfl) ?_; clear hS a; intro a hS
    refine q_seq hS rfl rfl rfl (y_assign hS rfl) ?_; clear hS a; intro a hS
    apply wpList_nil
    refine p_norm ?_
    apply wp_seq
    rcases Bool.eq_false_or_eq_true (r187.2) with hs192 | hs192
    · replace hg := br_t hg hs192
      rcases Bool.eq_false_or_eq_true (t_52 == (decide ((r187.1 : List UInt8) = t_''))) with hs193 | hs193
      · replace hg := br_t hg hs193
        replace hg := bind_some hg; obtain ⟨r194, hr194, hg⟩ := hg
        apply wp_region_lit
        refine q_seq hS rfl rfl rfl (y_move hS rfl) ?_; clear hS a; intro a hS
        refine q_seq hS rfl rfl rfl (yl_b (y_move hS rfl) hs192) ?_; clear hS a; intro a hS
        refine q_seq hS rfl rfl rfl (y_move hS rfl) ?_; clear hS a; intro a hS
        refine g_yes hS rfl rfl rfl rfl (l_quiet hS rfl rfl (y_move hS rfl) ?_); clear hS a; intro a hS
        refine g_yes hS rfl rfl rfl rfl (l_quiet hS rfl rfl (y_move hS rfl) ?_); clear hS a; intro a hS
        refine g_yes hS rfl rfl rfl rfl (l_quiet hS rfl rfl (y_seq hS rfl rfl) ?_); clear hS a; intro a hS
        refine q_seq hS rfl rfl rfl (y_pick_t hS rfl rfl) ?_; clear hS a; intro a hS
        refine q_seq hS rfl rfl rfl (yl_b (y_beq hS rfl rfl Try.underlying4) hs193) ?_; clear hS a; intro a hS
        refine q_seq hS rfl rfl rfl (y_move hS rfl) ?_; clear hS a; intro a hS
        refine g_yes hS rfl rfl rfl rfl (l_call (cap := []) hS rfl Try.func10 rfl (by kernel_rfl) rfl rfl (c_law23_exampleHolds n _ _ hS.lt  r194 hr194) ?_); clear hS a; intro v197 a w hK hp hS
        clear hK
        obtain rfl := hp
        refine q_seq hS rfl rfl rfl (y_pick_t hS rfl rfl) ?_; clear hS a; intro a hS
        refine q_seq hS rfl rfl rfl (y_assign hS rfl) ?_; clear hS a; intro a hS
        apply wpList_nil
        refine p_norm ?_
        apply wp_ret
        obtain rfl := Option.some.inj hg
        refine fin1 (fn := Try.f6) hS rfl (r_tmp hS rfl) ?_
        exact rfl
      · replace hg := br_f hg (by rw [hs193]; exact Bool.false_ne_true)
        apply wp_region_lit
        refine q_seq hS rfl rfl rfl (y_move hS rfl) ?_; clear hS a; intro a hS
        refine q_seq hS rfl rfl rfl (yl_b (y_move hS rfl) hs192) ?_; clear hS a; intro a hS
        refine q_seq hS rfl rfl rfl (y_move hS rfl) ?_; clear hS a; intro a hS
        refine g_yes hS rfl rfl rfl rfl (l_quiet hS rfl rfl (y_move hS rfl) ?_); clear hS a; intro a hS
        refine g_yes hS rfl rfl rfl rfl (l_quiet hS rfl rfl (y_move hS rfl) ?_); clear hS a; intro a hS
        refine g_yes hS rfl rfl rfl rfl (l_quiet hS rfl rfl (y_seq hS rfl rfl) ?_); clear hS a; intro a hS
        refine q_seq hS rfl rfl rfl (y_pick_t hS rfl rfl) ?_; clear hS a; intro a hS
        refine q_seq hS rfl rfl rfl (yl_b (y_beq hS rfl rfl Try.underlying4) hs193) ?_; clear hS a; intro a hS
        refine q_seq hS rfl rfl rfl (y_move hS rfl) ?_; clear hS a; intro a hS
        refine g_no hS rfl rfl rfl rfl rfl rfl rfl ?_; clear hS a; intro a hS
        refine q_seq hS rfl rfl rfl (y_pick_f hS rfl rfl) ?_; clear hS a; intro a hS
        refine q_seq hS rfl rfl rfl (y_assign hS rfl) ?_; clear hS a; intro a hS
        apply wpList_nil
        refine p_norm ?_
        apply wp_ret
        obtain rfl := Option.some.inj hg
        refine fin1 (fn := Try.f6) hS rfl (r_tmp hS rfl) ?_
        exact rfl
    · replace hg := br_f hg (by rw [hs192]; exact Bool.false_ne_true)
      rcases Bool.eq_false_or_eq_true (t_52 == false) with hs199 | hs199
      · replace hg := br_t hg hs199
        replace hg := bind_some hg; obtain ⟨r200, hr200, hg⟩ := hg
        apply wp_region_lit
        refine q_seq hS rfl rfl rfl (y_move hS rfl) ?_; clear hS a; intro a hS
        refine q_seq hS rfl rfl rfl (yl_b (y_move hS rfl) hs192) ?_; clear hS a; intro a hS
        refine q_seq hS rfl rfl rfl (y_move hS rfl) ?_; clear hS a; intro a hS
        refine g_no hS rfl rfl rfl rfl rfl rfl rfl ?_; clear hS a; intro a hS
        refine g_no hS rfl rfl rfl rfl rfl rfl rfl ?_; clear hS a; intro a hS
        refine g_no hS rfl rfl rfl rfl rfl rfl rfl ?_; clear hS a; intro a hS
        refine q_seq hS rfl rfl rfl (y_pick_f hS rfl rfl) ?_; clear hS a; intro a hS
        refine q_seq hS rfl rfl rfl (yl_b (y_beq hS rfl rfl Try.underlying4) hs199) ?_; clear hS a; intro a hS
        refine q_seq hS rfl rfl rfl (y_move hS rfl) ?_; clear hS a; intro a hS
        refine g_yes hS rfl rfl rfl rfl (l_call (cap := []) hS rfl Try.func10 rfl (by kernel_rfl) rfl rfl (c_law23_exampleHolds n _ _ hS.lt  r200 hr200) ?_); clear hS a; intro v203 a w hK hp hS
        clear hK
        obtain rfl := hp
        refine q_seq hS rfl rfl rfl (y_pick_t hS rfl rfl) ?_; clear hS a; intro a hS
        refine q_seq hS rfl rfl rfl (y_assign hS rfl) ?_; clear hS a; intro a hS
        apply wpList_nil
        refine p_norm ?_
        apply wp_ret
        obtain rfl := Option.some.inj hg
        refine fin1 (fn := Try.f6) hS rfl (r_tmp hS rfl) ?_
        exact rfl
      · replace hg := br_f hg (by rw [hs199]; exact Bool.false_ne_true)
        apply wp_region_lit
        refine q_seq hS rfl rfl rfl (y_move hS rfl) ?_; clear hS a; intro a hS
        refine q_seq hS rfl rfl rfl (yl_b (y_move hS rfl) hs192) ?_; clear hS a; intro a hS
        refine q_seq hS rfl rfl rfl (y_move hS rfl) ?_; clear hS a; intro a hS
        refine g_no hS rfl rfl rfl rfl rfl rfl rfl ?_; clear hS a; intro a hS
        refine g_no hS rfl rfl rfl rfl rfl rfl rfl ?_; clear hS a; intro a hS
        refine g_no hS rfl rfl rfl rfl rfl rfl rfl ?_; clear hS a; intro a hS
        refine q_seq hS rfl rfl rfl (y_pick_f hS rfl rfl) ?_; clear hS a; intro a hS
        refine q_seq hS rfl rfl rfl (yl_b (y_beq hS rfl rfl Try.underlying4) hs199) ?_; clear hS a; intro a hS
        refine q_seq hS rfl rfl rfl (y_move hS rfl) ?_; clear hS a; intro a hS
        refine g_no hS rfl rfl rfl rfl rfl rfl rfl ?_; clear hS a; intro a hS
        refine q_seq hS rfl rfl rfl (y_pick_f hS rfl rfl) ?_; clear hS a; intro a hS
        refine q_seq hS rfl rfl rfl (y_assign hS rfl) ?_; clear hS a; intro a hS
        apply wpList_nil
        refine p_norm ?_
        apply wp_ret
        obtain rfl := Option.some.inj hg
        refine fin1 (fn := Try.f6) hS rfl (r_tmp hS rfl) ?_
        exact rfl
end Go.Proofs.Ytolgbjbfhoffpaa

/- Chapter 24: the walks, part 4 -/
import Derived.Test.YtgmghembhenonaaW3
namespace Go.Proofs.Ytgmghembhenonaa
open Go.Gl Go.RowKit
set_option linter.unusedVariables false
set_option linter.unusedSimpArgs false

set_option maxHeartbeats 400000 in
theorem c_law24_LexiconAnalyses (n : Nat) (M : Bs) (w0 : World) (hM : ∀ b, M b → b < w0.heap.size) (e_ : (List Entry)) (Ap01 : Option Addr) (cp01 : Nat) (hp01 : SlR REntry M w0 Ap01 (e_).length cp01 (e_)) (r_ : (List LexRule)) (Ap11 : Option Addr) (cp11 : Nat) (hp11 : SlR RLexRule M w0 Ap11 (r_).length cp11 (r_)) (words_ : (List (List UInt8))) (Ap21 : Option Addr) (cp21 : Nat) (hp21 : SlR Rep.str M w0 Ap21 (words_).length cp21 (words_)) (r : Bool) (hg : law24_LexiconAnalyses n e_ r_ words_ = some r) :
    Calls Try.prog 6 [.slice (Ap01) ((e_).length) (cp01), .slice (Ap11) ((r_).length) (cp11), .slice (Ap21) ((words_).length) (cp21)].toArray w0 (Ret noB w0 fun v w => v = .bool (r)) := by
  unfold law24_LexiconAnalyses at hg
  refine enter M noB Try.func6 rfl rfl hM ?_
  intro a hS
  replace hS := hS.add 101 (slF REntry (Ap01) ((e_).length) (cp01) (e_)) (by exact Fact.change _ enterM hp01)
  replace hS := hS.add 102 (slF RLexRule (Ap11) ((r_).length) (cp11) (r_)) (by exact Fact.change _ enterM hp11)
  replace hS := hS.add 103 (slF Rep.str (Ap21) ((words_).length) (cp21) (words_)) (by exact Fact.change _ enterM hp21)
  apply wp_seq
  apply wp_region_lit
  refine q_seq hS rfl rfl rfl (y_assign hS rfl) ?_; clear hS a; intro a hS
  apply wpList_nil
  refine p_norm ?_
  apply wp_seq
  apply wp_seq
  replace hg := bind_some hg; obtain ⟨r1, hr1, hg⟩ := hg
  apply wp_region_lit
  refine q_seq hS rfl rfl rfl (y_move hS rfl) ?_; clear hS a; intro a hS
  refine q_seq hS rfl rfl rfl (y_move hS rfl) ?_; clear hS a; intro a hS
  refine q_seq hS rfl rfl rfl (y_move hS rfl) ?_; clear hS a; intro a hS
  refine l_seq rfl (l_call (cap := []) hS rfl Try.func14 rfl (by kernel_rfl) rfl rfl (c_r24_Light n _ _ hS.lt e_ (Ap01) (cp01) (hS.fact (k := 101) rfl) r_ (Ap11) (cp11) (hS.fact (k := 102) rfl) words_ (Ap21) (cp21) (hS.fact (k := 103) rfl) r1 hr1) ?_); clear hS a; intro v4 a w hK hp hS
  clear hK
  obtain rfl := hp
  refine q_seq hS rfl rfl rfl (y_not hS rfl) ?_; clear hS a; intro a hS
  apply wpList_nil
  refine p_norm ?_
  refine c_cond hS rfl (fun hc6 => ?_) (fun hc6 => ?_)
  · replace hg := br_t hg hc6
    apply wp_seq
    replace hg := bind_some hg; obtain ⟨r7, hr7, hg⟩ := hg
    apply wp_region_lit
    refine l_seq rfl (l_call (cap := []) hS rfl Try.func11 rfl (by kernel_rfl) rfl rfl (c_law24_exampleHolds n _ _ hS.lt  r7 hr7) ?_); clear hS a; intro v10 a w hK hp hS
    clear hK
    obtain rfl := hp
    refine q_seq hS rfl rfl rfl (y_assign hS rfl) ?_; clear hS a; intro a hS
    apply wpList_nil
    refine p_norm ?_
    apply wp_ret
    refine p_thenR ?_
    obtain rfl := Option.some.inj hg
    refine fin1 (fn := Try.f6) hS rfl (r_tmp hS rfl) ?_
    exact rfl
  · replace hg := br_f hg (by rw [hc6]; exact Bool.false_ne_true)
    apply wp_skip
    refine p_norm ?_
    apply wp_seq
    replace hg := bind_some hg; obtain ⟨r12, hr12, hg⟩ := hg
    replace hg := bind_some hg; obtain ⟨r15, hr15, hg⟩ := hg
    replace hg := bind_some hg; obtain ⟨r18, hr18, hg⟩ := hg
    rcases Bool.eq_false_or_eq_true (r18) with hs21 | hs21
    · replace hg := br_t hg hs21
      replace hg := bind_some hg; obtain ⟨r22, hr22, hg⟩ := hg
      apply wp_region_lit
      refine q_seq hS rfl rfl rfl (y_move hS rfl) ?_; clear hS a; intro a hS
      refine q_seq hS rfl rfl rfl (y_move hS rfl) ?_; clear hS a; intro a hS
      refine q_seq hS rfl rfl rfl (y_move hS rfl) ?_; clear hS a; intro a hS
      refine l_seq rfl (l_call (cap := []) hS rfl Try.func22 rfl (by kernel_rfl) rfl rfl (c_lexicon_Analyses n _ _ hS.lt e_ (Ap01) (cp01) (hS.fact (k := 101) rfl) r_ (Ap11) (cp11) (hS.fact (k := 102) rfl) words_ (Ap21) (cp21) (hS.fact (k := 103) rfl) r12 hr12) ?_); clear hS a; intro v25 a w hK hp hS
      clear hK
      obtain ⟨Au26a1, cu26a1, rfl, hu26a1⟩ := hp
      replace hS := hS.add 106 (slF RAnalysis (Au26a1) ((r12).length) (cu26a1) (r12)) hu26a1
      refine q_seq hS rfl rfl rfl (y_move hS rfl) ?_; clear hS a; intro a hS
      refine q_seq hS rfl rfl rfl (y_move hS rfl) ?_; clear hS a; intro a hS
      refine q_seq hS rfl rfl rfl (y_move hS rfl) ?_; clear hS a; intro a hS
      refine l_seq rfl (l_call (cap := []) hS rfl Try.func23 rfl (by kernel_rfl) rfl rfl (c_r24_Analyses n _ _ hS.lt e_ (Ap01) (cp01) (hS.fact (k := 101) rfl) r_ (Ap11) (cp11) (hS.fact (k := 102) rfl) words_ (Ap21) (cp21) (hS.fact (k := 103) rfl) r15 hr15) ?_); clear hS a; intro v27 a w hK hp hS
      clear hK
      obtain ⟨Au28a1, cu28a1, rfl, hu28a1⟩ := hp
      replace hS := hS.add 107 (slF RAnalysis (Au28a1) ((r15).length) (cu28a1) (r15)) hu28a1
      refine l_seq rfl (l_call (cap := []) hS rfl Try.func21 rfl (by kernel_rfl) rfl rfl (c_r24_SameAnalyses n _ _ hS.lt r12 (Au26a1) (cu26a1) (hS.fact (k := 106) rfl) r15 (Au28a1) (cu28a1) (hS.fact (k := 107) rfl) r18 hr18) ?_); clear hS a; intro v29 a w hK hp hS
      clear hK
      obtain rfl := hp.trans (congrArg Value.bool hs21)
      refine q_seq hS rfl rfl rfl (y_move hS rfl) ?_; clear hS a; intro a hS
      refine g_yes hS rfl rfl rfl rfl (l_call (cap := []) hS rfl Try.func11 rfl (by kernel_rfl) rfl rfl (c_law24_exampleHolds n _ _ hS.lt  r22 hr22) ?_); clear hS a; intro v31 a w hK hp hS
      clear hK
      obtain rfl := hp
      refine q_seq hS rfl rfl rfl (y_pick_t hS rfl rfl) ?_; clear hS a; intro a hS
      refine q_seq hS rfl rfl rfl (y_assign hS rfl) ?_; clear hS a; intro a hS
      apply wpList_nil
      refine p_norm ?_
      apply wp_ret
      obtain rfl := Option.some.inj hg
      refine fin1 (fn := Try.f6) hS rfl (r_tmp hS rfl) ?_
      exact rfl
    · replace hg := br_f hg (by rw [hs21]; exact Bool.false_ne_true)
      apply wp_region_lit
      refine q_seq hS rfl rfl rfl (y_move hS rfl) ?_; clear hS a; intro a hS
      refine q_seq hS rfl rfl rfl (y_move hS rfl) ?_; clear hS a; intro a hS
      refine q_seq hS rfl rfl rfl (y_move hS rfl) ?_; clear hS a; intro a hS
      refine l_seq rfl (l_call (cap := []) hS rfl Try.func22 rfl (by kernel_rfl) rfl rfl (c_lexicon_Analyses n _ _ hS.lt e_ (Ap01) (cp01) (hS.fact (k := 101) rfl) r_ (Ap11) (cp11) (hS.fact (k := 102) rfl) words_ (Ap21) (cp21) (hS.fact (k := 103) rfl) r12 hr12) ?_); clear hS a; intro v33 a w hK hp hS
      clear hK
      obtain ⟨Au34a1, cu34a1, rfl, hu34a1⟩ := hp
      replace hS := hS.add 108 (slF RAnalysis (Au34a1) ((r12).length) (cu34a1) (r12)) hu34a1
      refine q_seq hS rfl rfl rfl (y_move hS rfl) ?_; clear hS a; intro a hS
      refine q_seq hS rfl rfl rfl (y_move hS rfl) ?_; clear hS a; intro a hS
      refine q_seq hS rfl rfl rfl (y_move hS rfl) ?_; clear hS a; intro a hS
      refine l_seq rfl (l_call (cap := []) hS rfl Try.func23 rfl (by kernel_rfl) rfl rfl (c_r24_Analyses n _ _ hS.lt e_ (Ap01) (cp01) (hS.fact (k := 101) rfl) r_ (Ap11) (cp11) (hS.fact (k := 102) rfl) words_ (Ap21) (cp21) (hS.fact (k := 103) rfl) r15 hr15) ?_); clear hS a; intro v35 a w hK hp hS
      clear hK
      obtain ⟨Au36a1, cu36a1, rfl, hu36a1⟩ := hp
      replace hS := hS.add 109 (slF RAnalysis (Au36a1) ((r15).length) (cu36a1) (r15)) hu36a1
      refine l_seq rfl (l_call (cap := []) hS rfl Try.func21 rfl (by kernel_rfl) rfl rfl (c_r24_SameAnalyses n _ _ hS.lt r12 (Au34a1) (cu34a1) (hS.fact (k := 108) rfl) r15 (Au36a1) (cu36a1) (hS.fact (k := 109) rfl) r18 hr18) ?_); clear hS a; intro v37 a w hK hp hS
      clear hK
      obtain rfl := hp.trans (congrArg Value.bool hs21)
      refine q_seq hS rfl rfl rfl (y_move hS rfl) ?_; clear hS a; intro a hS
      refine g_no hS rfl rfl rfl rfl rfl rfl rfl ?_; clear hS a; intro a hS
      refine q_seq hS rfl rfl rfl (y_pick_f hS rfl rfl) ?_; clear hS a; intro a hS
      refine q_seq hS rfl rfl rfl (y_assign hS rfl) ?_; clear hS a; intro a hS
      apply wpList_nil
      refine p_norm ?_
      apply wp_ret
      obtain rfl := Option.some.inj hg
      refine fin1 (fn := Try.f6) hS rfl (r_tmp hS rfl) ?_
      exact rfl
set_option maxHeartbeats 400000 in
theorem c_law24_LexiconBack (n : Nat) (M : Bs) (w0 : World) (hM : ∀ b, M b → b < w0.heap.size) (t_ : (List Entry)) (Ap01 : Option Addr) (cp01 : Nat) (hp01 : SlR REntry M w0 Ap01 (t_).length cp01 (t_)) (t_' : (List LexRule)) (Ap11 : Option Addr) (cp11 : Nat) (hp11 : SlR RLexRule M w0 Ap11 (t_').length cp11 (t_')) (t_'' : (List (List UInt8))) (Ap21 : Option Addr) (cp21 : Nat) (hp21 : SlR Rep.str M w0 Ap21 (t_'').length cp21 (t_'')) (r : Bool) (hg : law24_LexiconBack n t_ t_' t_'' = some r) :
    Calls Try.prog 7 [.slice (Ap01) ((t_).length) (cp01), .slice (Ap11) ((t_').length) (cp11), .slice (Ap21) ((t_'').length) (cp21)].toArray w0 (Ret noB w0 fun v w => v = .bool (r)) := by
  unfold law24_LexiconBack at hg
  refine enter M noB Try.func7 rfl rfl hM ?_
  intro a hS
  replace hS := hS.add 101 (slF REntry (Ap01) ((t_).length) (cp01) (t_)) (by exact Fact.change _ enterM hp01)
  replace hS := hS.add 102 (slF RLexRule (Ap11) ((t_').length) (cp11) (t_')) (by exact Fact.change _ enterM hp11)
  replace hS := hS.add 103 (slF Rep.str (Ap21) ((t_'').length) (cp21) (t_'')) (by exact Fact.change _ enterM hp21)
  apply wp_seq
  apply wp_region_lit
  refine q_seq hS rfl rfl rfl (y_assign hS rfl) ?_; clear hS a; intro a hS
  apply wpList_nil
  refine p_norm ?_
  apply wp_seq
  apply wp_seq
  replace hg := bind_some hg; obtain ⟨r1, hr1, hg⟩ := hg
  apply wp_region_lit
  refine q_seq hS rfl rfl rfl (y_move hS rfl) ?_; clear hS a; intro a hS
  refine q_seq hS rfl rfl rfl (y_move hS rfl) ?_; clear hS a; intro a hS
  refine q_seq hS rfl rfl rfl (y_move hS rfl) ?_; clear hS a; intro a hS
  refine l_seq rfl (l_call (cap := []) hS rfl Try.func14 rfl (by kernel_rfl) rfl rfl (c_r24_Light n _ _ hS.lt t_ (Ap01) (cp01) (hS.fact (k := 101) rfl) t_' (Ap11) (cp11) (hS.fact (k := 102) rfl) t_'' (Ap21) (cp21) (hS.fact (k := 103) rfl) r1 hr1) ?_); clear hS a; intro v4 a w hK hp hS
  clear hK
  obtain rfl := hp
  refine q_seq hS rfl rfl rfl (y_not hS rfl) ?_; clear hS a; intro a hS
  apply wpList_nil
  refine p_norm ?_
  refine c_cond hS rfl (fun hc6 => ?_) (fun hc6 => ?_)
  · replace hg := br_t hg hc6
    apply wp_seq
    replace hg := bind_some hg; obtain ⟨r7, hr7, hg⟩ := hg
    apply wp_region_lit
    refine l_seq rfl (l_call (cap := []) hS rfl Try.func11 rfl (by kernel_rfl) rfl rfl (c_law24_exampleHolds n _ _ hS.lt  r7 hr7) ?_); clear hS a; intro v10 a w hK hp hS
    clear hK
    obtain rfl := hp
    refine q_seq hS rfl rfl rfl (y_assign hS rfl) ?_; clear hS a; intro a hS
    apply wpList_nil
    refine p_norm ?_
    apply wp_ret
    refine p_thenR ?_
    obtain rfl := Option.some.inj hg
    refine fin1 (fn := Try.f7) hS rfl (r_tmp hS rfl) ?_
    exact rfl
  · replace hg := br_f hg (by rw [hc6]; exact Bool.false_ne_true)
    apply wp_skip
    refine p_norm ?_
    apply wp_seq
    apply wp_region_lit
    refine q_seq hS rfl rfl rfl (y_assign hS rfl) ?_; clear hS a; intro a hS
    apply wpList_nil
    refine p_norm ?_
    apply wp_seq
    replace hg := bind_some hg; obtain ⟨r12, hr12, hg⟩ := hg
    apply wp_region_lit
    refine q_seq hS rfl rfl rfl (y_move hS rfl) ?_; clear hS a; intro a hS
    refine q_seq hS rfl rfl rfl (y_move hS rfl) ?_; clear hS a; intro a hS
    refine q_seq hS rfl rfl rfl (y_move hS rfl) ?_; clear hS a; intro a hS
    refine l_seq rfl (l_call (cap := []) hS rfl Try.func22 rfl (by kernel_rfl) rfl rfl (c_lexicon_Analyses n _ _ hS.lt t_ (Ap01) (cp01) (hS.fact (k := 101) rfl) t_' (Ap11) (cp11) (hS.fact (k := 102) rfl) t_'' (Ap21) (cp21) (hS.fact (k := 103) rfl) r12 hr12) ?_); clear hS a; intro v15 a w hK hp hS
    clear hK
    obtain ⟨Au16a1, cu16a1, rfl, hu16a1⟩ := hp
    replace hS := hS.add 105 (slF RAnalysis (Au16a1) ((r12).length) (cu16a1) (r12)) hu16a1
    refine q_seq hS rfl rfl rfl (y_assign hS rfl) ?_; clear hS a; intro a hS
    apply wpList_nil
    refine p_norm ?_
    apply wp_seq
    apply wp_seq
    apply wp_region_lit
    refine q_seq hS rfl rfl rfl (y_assign hS rfl) ?_; clear hS a; intro a hS
    apply wpList_nil
    refine p_norm ?_
    replace hg := jn_some hg; obtain ⟨k17, hg, hk17⟩ := hg
    refine c_post (fun a w => ∃ (t_18 : (List Int)), ∃ (A19 : Option Addr), ∃ (c20 : Nat), ∃ (cs21 : List Value), k17 t_18 = some r ∧ St (⟨Try.f7.ntmps, M, noB, w0⟩ : Ctx) [(0, .slice (Ap01) ((t_).length) (cp01)), (2, .slice (Ap21) ((t_'').length) (cp21)), (7, .slice (A19) ((t_18).length) (c20))] [(700106, Ob.row (A19) ((t_18).length) (c20) 3 1 (cs21))] [(101, slF REntry (Ap01) ((t_).length) (cp01) (t_)), (103, slF Rep.str (Ap21) ((t_'').length) (cp21) (t_'')), (107, rdF (Rep.num .i64) (cs21) (t_18))] a w) ?_ ?_
    · apply wp_block
      replace hS := hS.nilRow 700108 3 1 rfl
      replace hS := hS.add 109 (rdF (Rep.num .i64) [] []) (RdAll.nil _ _ _)
      refine c_loop (σ := Nat) (fun m1 a w => ∃ (t_22 : (List Int)), ∃ (t_26 : Nat), ∃ (A23 : Option Addr), ∃ (c24 : Nat), ∃ (cs25 : List Value), law24_LexiconBack_L0 n t_ t_' t_'' r12 k17 m1 t_22 t_26 = some r ∧ St (⟨Try.f7.ntmps, M, noB, w0⟩ : Ctx) [(0, .slice (Ap01) ((t_).length) (cp01)), (1, .slice (Ap11) ((t_').length) (cp11)), (2, .slice (Ap21) ((t_'').length) (cp21)), (7, .slice (A23) ((t_22).length) (c24)), (8, .slice (Au16a1) ((r12).length) (cu16a1)), (9, .int .i64 (((t_26 : Nat) : Int)))] [(700108, Ob.row (A23) ((t_22).length) (c24) 3 1 (cs25))] [(101, slF REntry (Ap01) ((t_).length) (cp01) (t_)), (102, slF RLexRule (Ap11) ((t_').length) (cp11) (t_')), (103, slF Rep.str (Ap21) ((t_'').length) (cp21) (t_'')), (105, slF RAnalysis (Au16a1) ((r12).length) (cu16a1) (r12)), (109, rdF (Rep.num .i64) (cs25) (t_22))] a w) (fun m1 => m1) n ⟨([]), (0), (none), (0), ([]), hg, (hS.sub ⟨rfl, rfl, rfl, rfl, rfl, rfl, trivial⟩ ⟨rfl, trivial⟩ ⟨rfl, rfl, rfl, rfl, rfl, trivial⟩)⟩ ?_
      clear hS a; rintro m1 a w ⟨t_22, t_26, A23, c24, cs25, hg, hS⟩
      rcases m1 with _ | m1
      · rw [law24_LexiconBack_L0] at hg; cases hg
      rw [law24_LexiconBack_L0] at hg
      apply wp_seq
      apply wp_seq
      apply wp_region_lit
      refine q_seq hS rfl rfl rfl (y_move hS rfl) ?_; clear hS a; intro a hS
      refine q_seq hS rfl rfl rfl (y_move hS rfl) ?_; clear hS a; intro a hS
      refine q_seq hS rfl rfl rfl (y_lenSlice hS rfl Try.underlying41) ?_; clear hS a; intro a hS
      refine q_seq hS rfl rfl rfl (y_lssN (i := t_26) (j := ((r12).length)) hS rfl rfl) ?_; clear hS a; intro a hS
      apply wpList_nil
      refine p_norm ?_
      refine c_dec hS rfl (fun hc27 => ?_) (fun hc27 => ?_)
      · replace hg := br_t hg hc27
        have hmx28 := SlR.mx (hS.fact (k := 105) rfl)
        apply wp_skip
        refine p_norm ?_
        apply wp_seq
        apply wp_block
        apply wp_seq
        replace hg := bind_some hg; obtain ⟨x30, hx30, hg⟩ := hg
        replace hg := bind_some hg; obtain ⟨r32, hr32, hg⟩ := hg
        apply wp_region_lit
        refine q_seq hS rfl rfl rfl (y_move hS rfl) ?_; clear hS a; intro a hS
        refine q_seq hS rfl rfl rfl (y_move hS rfl) ?_; clear hS a; intro a hS
        refine q_seq hS rfl rfl rfl (y_move hS rfl) ?_; clear hS a; intro a hS
        refine q_seq hS rfl rfl rfl (y_move hS rfl) ?_; clear hS a; intro a hS
        obtain ⟨p35, hep35, hpp35⟩ := SlR.elemX (hS.fact (k := 105) rfl) hx30
        refine q_seq hS rfl rfl rfl (y_elem (sz := 2) (i := t_26) hS rfl rfl Try.underlying41 rfl hep35 rfl (lt_of_get hx30)) ?_; clear hS a; intro a hS
        obtain ⟨hlq36, hmq36, csq36, hdq36, hcq36⟩ := hpp35
        obtain ⟨Aq362, cq362, rfl, hq362⟩ := RAnalysis.open hdq36
        replace hS := hS.add 112 (slF (Rep.num .i64) (Aq362) ((x30.Rules).length) (cq362) (x30.Rules)) hq362
        refine q_seq hS rfl rfl rfl (y_ldp hS rfl hlq36 hmq36 (by simpa using hcq36) Try.underlying35 rfl rfl) ?_; clear hS a; intro a hS
        refine l_seq rfl (l_call (cap := []) hS rfl Try.func18 rfl (by kernel_rfl) rfl rfl (c_lexicon_Form n _ _ hS.lt t_ (Ap01) (cp01) (hS.fact (k := 101) rfl) t_' (Ap11) (cp11) (hS.fact (k := 102) rfl) x30 (Aq362) (cq362) (hS.fact (k := 112) rfl) r32 hr32) ?_); clear hS a; intro v37 a w hK hp hS
        clear hK
        obtain ⟨Au38a1, cu38a1, rfl, hu38a1⟩ := hp
        replace hS := hS.add 113 (slF Rep.str (Au38a1) ((r32.1).length) (cu38a1) (r32.1)) hu38a1
        refine q_seq hS rfl rfl rfl (y_move hS rfl) ?_; clear hS a; intro a hS
        refine q_seq hS rfl rfl rfl (y_extract hS rfl rfl) ?_; clear hS a; intro a hS
        refine q_seq hS rfl rfl rfl (y_extract hS rfl rfl) ?_; clear hS a; intro a hS
        refine q_seq hS rfl rfl rfl (y_assign hS rfl) ?_; clear hS a; intro a hS
        refine q_seq hS rfl rfl rfl (y_assign hS rfl) ?_; clear hS a; intro a hS
        apply wpList_nil
        refine p_norm ?_
        apply wp_seq
        apply wp_seq
        replace hg := jn_some hg; obtain ⟨k39, hg, hk39⟩ := hg
        refine c_post (fun a w => ∃ (t_40 : Bool), k39 t_40 = some r ∧ St (⟨Try.f7.ntmps, M, noB, w0⟩ : Ctx) [(0, .slice (Ap01) ((t_).length) (cp01)), (1, .slice (Ap11) ((t_').length) (cp11)), (2, .slice (Ap21) ((t_'').length) (cp21)), (7, .slice (A23) ((t_22).length) (c24)), (8, .slice (Au16a1) ((r12).length) (cu16a1)), (9, .int .i64 (((t_26 : Nat) : Int))), (60, .bool (t_40))] [(700108, Ob.row (A23) ((t_22).length) (c24) 3 1 (cs25))] [(101, slF REntry (Ap01) ((t_).length) (cp01) (t_)), (102, slF RLexRule (Ap11) ((t_').length) (cp11) (t_')), (103, slF Rep.str (Ap21) ((t_'').length) (cp21) (t_'')), (105, slF RAnalysis (Au16a1) ((r12).length) (cu16a1) (r12)), (109, rdF (Rep.num .i64) (cs25) (t_22))] a w) ?_ ?_
        · rcases Bool.eq_false_or_eq_true (!(r32.2)) with hs41 | hs41
          · replace hg := br_t hg hs41
            apply wp_region_lit
            refine q_seq hS rfl rfl rfl (y_move hS rfl) ?_; clear hS a; intro a hS
            refine q_seq hS rfl rfl rfl (yl_b (y_not hS rfl) hs41) ?_; clear hS a; intro a hS
            refine q_seq hS rfl rfl rfl (y_move hS rfl) ?_; clear hS a; intro a hS
            refine g_no hS rfl rfl rfl rfl rfl rfl rfl ?_; clear hS a; intro a hS
            refine g_no hS rfl rfl rfl rfl rfl rfl rfl ?_; clear hS a; intro a hS
            refine g_no hS rfl rfl rfl rfl rfl rfl rfl ?_; clear hS a; intro a hS
            refine g_no hS rfl rfl rfl rfl rfl rfl rfl ?_; clear hS a; intro a hS
            refine q_seq hS rfl rfl rfl (y_pick_t hS rfl rfl) ?_; clear hS a; intro a hS
            refine q_seq hS rfl rfl rfl (y_move hS rfl) ?_; clear hS a; intro a hS
            refine g_no hS rfl rfl rfl rfl rfl rfl rfl ?_; clear hS a; intro a hS
            refine g_no hS rfl rfl rfl rfl rfl rfl rfl ?_; clear hS a; intro a hS
            refine g_no hS rfl rfl rfl rfl rfl rfl rfl ?_; clear hS a; intro a hS
            refine g_no hS rfl rfl rfl rfl rfl rfl rfl ?_; clear hS a; intro a hS
            refine g_no hS rfl rfl rfl rfl rfl rfl rfl ?_; clear hS a; intro a hS
            refine g_no hS rfl rfl rfl rfl rfl rfl rfl ?_; clear hS a; intro a hS
            refine g_no hS rfl rfl rfl rfl rfl rfl rfl ?_; clear hS a; intro a hS
            refine g_no hS rfl rfl rfl rfl rfl rfl rfl ?_; clear hS a; intro a hS
            refine g_no hS rfl rfl rfl rfl rfl rfl rfl ?_; clear hS a; intro a hS
            refine g_no hS rfl rfl rfl rfl rfl rfl rfl ?_; clear hS a; intro a hS
            refine g_no hS rfl rfl rfl rfl rfl rfl rfl ?_; clear hS a; intro a hS
            refine g_no hS rfl rfl rfl rfl rfl rfl rfl ?_; clear hS a; intro a hS
            refine g_no hS rfl rfl rfl rfl rfl rfl rfl ?_; clear hS a; intro a hS
            refine q_seq hS rfl rfl rfl (y_pick_t hS rfl rfl) ?_; clear hS a; intro a hS
            apply wpList_nil
            refine p_norm ?_
            exact ⟨(true), hg, (hS.sub ⟨rfl, rfl, rfl, rfl, rfl, rfl, rfl, trivial⟩ ⟨rfl, trivial⟩ ⟨rfl, rfl, rfl, rfl, rfl, trivial⟩)⟩
          · replace hg := br_f hg (by rw [hs41]; exact Bool.false_ne_true)
            replace hg := bind_some hg; obtain ⟨r42, hr42, hg⟩ := hg
            rcases Bool.eq_false_or_eq_true (!(r42)) with hs45 | hs45
            · replace hg := br_t hg hs45
              apply wp_region_lit
              refine q_seq hS rfl rfl rfl (y_move hS rfl) ?_; clear hS a; intro a hS
              refine q_seq hS rfl rfl rfl (yl_b (y_not hS rfl) hs41) ?_; clear hS a; intro a hS
              refine q_seq hS rfl rfl rfl (y_move hS rfl) ?_; clear hS a; intro a hS
              refine g_yes hS rfl rfl rfl rfl (l_quiet hS rfl rfl (y_move hS rfl) ?_); clear hS a; intro a hS
              refine g_yes hS rfl rfl rfl rfl (l_quiet hS rfl rfl (y_move hS rfl) ?_); clear hS a; intro a hS
              refine g_yes hS rfl rfl rfl rfl (l_call (cap := []) hS rfl Try.func20 rfl (by kernel_rfl) rfl rfl (c_r01_Same n _ _ hS.lt r32.1 (Au38a1) (cu38a1) (hS.fact (k := 113) rfl) t_'' (Ap21) (cp21) (hS.fact (k := 103) rfl) r42 hr42) ?_); clear hS a; intro v46 a w hK hp hS
              clear hK
              obtain rfl := hp
              refine g_yes hS rfl rfl rfl rfl (l_quiet hS rfl rfl (yl_b (y_not hS rfl) hs45) ?_); clear hS a; intro a hS
              refine q_seq hS rfl rfl rfl (y_pick_f hS rfl rfl) ?_; clear hS a; intro a hS
              refine q_seq hS rfl rfl rfl (y_move hS rfl) ?_; clear hS a; intro a hS
              refine g_no hS rfl rfl rfl rfl rfl rfl rfl ?_; clear hS a; intro a hS
              refine g_no hS rfl rfl rfl rfl rfl rfl rfl ?_; clear hS a; intro a hS
              refine g_no hS rfl rfl rfl rfl rfl rfl rfl ?_; clear hS a; intro a hS
              refine g_no hS rfl rfl rfl rfl rfl rfl rfl ?_; clear hS a; intro a hS
              refine g_no hS rfl rfl rfl rfl rfl rfl rfl ?_; clear hS a; intro a hS
              refine g_no hS rfl rfl rfl rfl rfl rfl rfl ?_; clear hS a; intro a hS
              refine g_no hS rfl rfl rfl rfl rfl rfl rfl ?_; clear hS a; intro a hS
              refine g_no hS rfl rfl rfl rfl rfl rfl rfl ?_; clear hS a; intro a hS
              refine g_no hS rfl rfl rfl rfl rfl rfl rfl ?_; clear hS a; intro a hS
              refine g_no hS rfl rfl rfl rfl rfl rfl rfl ?_; clear hS a; intro a hS
              refine g_no hS rfl rfl rfl rfl rfl rfl rfl ?_; clear hS a; intro a hS
              refine g_no hS rfl rfl rfl rfl rfl rfl rfl ?_; clear hS a; intro a hS
              refine g_no hS rfl rfl rfl rfl rfl rfl rfl ?_; clear hS a; intro a hS
              refine q_seq hS rfl rfl rfl (y_pick_t hS rfl rfl) ?_; clear hS a; intro a hS
              apply wpList_nil
              refine p_norm ?_
              exact ⟨(true), hg, (hS.sub ⟨rfl, rfl, rfl, rfl, rfl, rfl, rfl, trivial⟩ ⟨rfl, trivial⟩ ⟨rfl, rfl, rfl, rfl, rfl, trivial⟩)⟩
            · replace hg := br_f hg (by rw [hs45]; exact Bool.false_ne_true)
              replace hg := bind_some hg; obtain ⟨x51, hx51, hg⟩ := hg
              apply wp_region_lit
              refine q_seq hS rfl rfl rfl (y_move hS rfl) ?_; clear hS a; intro a hS
              refine q_seq hS rfl rfl rfl (yl_b (y_not hS rfl) hs41) ?_; clear hS a; intro a hS
              refine q_seq hS rfl rfl rfl (y_move hS rfl) ?_; clear hS a; intro a hS
              refine g_yes hS rfl rfl rfl rfl (l_quiet hS rfl rfl (y_move hS rfl) ?_); clear hS a; intro a hS
              refine g_yes hS rfl rfl rfl rfl (l_quiet hS rfl rfl (y_move hS rfl) ?_); clear hS a; intro a hS
              refine g_yes hS rfl rfl rfl rfl (l_call (cap := []) hS rfl Try.func20 rfl (by kernel_rfl) rfl rfl (c_r01_Same n _ _ hS.lt r32.1 (Au38a1) (cu38a1) (hS.fact (k := 113) rfl) t_'' (Ap21) (cp21) (hS.fact (k := 103) rfl) r42 hr42) ?_); clear hS a; intro v53 a w hK hp hS
              clear hK
              obtain rfl := hp
              refine g_yes hS rfl rfl rfl rfl (l_quiet hS rfl rfl (yl_b (y_not hS rfl) hs45) ?_); clear hS a; intro a hS
              refine q_seq hS rfl rfl rfl (y_pick_f hS rfl rfl) ?_; clear hS a; intro a hS
              refine q_seq hS rfl rfl rfl (y_move hS rfl) ?_; clear hS a; intro a hS
              refine g_yes hS rfl rfl rfl rfl (l_quiet hS rfl rfl (y_move hS rfl) ?_); clear hS a; intro a hS
              refine g_yes hS rfl rfl rfl rfl (l_quiet hS rfl rfl (y_lenSlice hS rfl Try.underlying27) ?_); clear hS a; intro a hS
              refine g_yes hS rfl rfl rfl rfl (l_quiet hS rfl rfl (y_move hS rfl) ?_); clear hS a; intro a hS
              refine g_yes hS rfl rfl rfl rfl (l_quiet hS rfl rfl (y_move hS rfl) ?_); clear hS a; intro a hS
              refine g_yes hS rfl rfl rfl rfl (l_quiet hS rfl rfl (y_move hS rfl) ?_); clear hS a; intro a hS
              obtain ⟨p55, hep55, hpp55⟩ := SlR.elemX (hS.fact (k := 105) rfl) hx30
              refine g_yes hS rfl rfl rfl rfl (l_quiet hS rfl rfl (y_elem (sz := 2) (i := t_26) hS rfl rfl Try.underlying41 rfl hep55 rfl (lt_of_get hx30)) ?_); clear hS a; intro a hS
              refine g_yes hS rfl rfl rfl rfl (l_quiet hS rfl rfl (y_ptrField (o' := 0) hS rfl Try.underlying35 rfl rfl rfl) ?_); clear hS a; intro a hS
              obtain ⟨hlq56, hmq56, csq56, hdq56, hcq56⟩ := hpp55
              obtain ⟨Aq562, cq562, rfl, hq562⟩ := RAnalysis.open hdq56
              replace hS := hS.add 117 (slF (Rep.num .i64) (Aq562) ((x30.Rules).length) (cq562) (x30.Rules)) hq562
              refine g_yes hS rfl rfl rfl rfl (l_quiet hS rfl rfl (y_ldp1 hS rfl hlq56 hmq56 (hcq56 0 _ rfl) Try.underlying3 rfl) ?_); clear hS a; intro a hS
              obtain ⟨p57, hep57, hpp57⟩ := SlR.elemX (hS.fact (k := 101) rfl) (ix_some hx51).1
              refine g_yes hS rfl rfl rfl rfl (l_quiet hS rfl rfl (y_elem (sz := 3) (i := ((x30.Entry).toNat)) hS rfl rfl Try.underlying22 rfl hep57 (ix_some hx51).2.1 (lt_of_get (ix_some hx51).1)) ?_); clear hS a; intro a hS
              refine g_yes hS rfl rfl rfl rfl (l_quiet hS rfl rfl (y_ptrField (o' := 1) hS rfl Try.underlying47 rfl rfl rfl) ?_); clear hS a; intro a hS
              obtain ⟨hlq58, hmq58, csq58, hdq58, hcq58⟩ := hpp57
              obtain ⟨Aq582, cq582, Aq583, cq583, rfl, lq581, hq582, hq583⟩ := REntry.open hdq58
              replace hS := hS.add 118 (slF Rep.str (Aq582) ((x51.Words).length) (cq582) (x51.Words)) hq582
              replace hS := hS.add 119 (slF RNode (Aq583) ((x51.FS.Nodes).length) (cq583) (x51.FS.Nodes)) hq583
              refine g_yes hS rfl rfl rfl rfl (l_quiet hS rfl rfl (y_ldp1 hS rfl hlq58 hmq58 (hcq58 1 _ rfl) Try.underlying27 rfl) ?_); clear hS a; intro a hS
              refine g_yes hS rfl rfl rfl rfl (l_quiet hS rfl rfl (y_lenSlice hS rfl Try.underlying27) ?_); clear hS a; intro a hS
              refine g_yes hS rfl rfl rfl rfl (l_quiet hS rfl rfl (y_neqN (i := ((r32.1).length)) (j := ((x51.Words).length)) hS rfl rfl) ?_); clear hS a; intro a hS
              refine q_seq hS rfl rfl rfl (y_pick_f hS rfl rfl) ?_; clear hS a; intro a hS
              apply wpList_nil
              refine p_norm ?_
              exact ⟨(decide (((r32.1).length) ≠ ((x51.Words).length))), hg, (hS.sub ⟨rfl, rfl, rfl, rfl, rfl, rfl, rfl, trivial⟩ ⟨rfl, trivial⟩ ⟨rfl, rfl, rfl, rfl, rfl, trivial⟩)⟩
        clear hS a; rintro a w ⟨t_40, hg, hS⟩
        subst hk39
        refine c_cond hS rfl (fun hc59 => ?_) (fun hc59 => ?_)
        · replace hg := br_t hg hc59
          apply wp_seq
          apply wp_region_lit
          refine q_seq hS rfl rfl rfl (y_assign hS rfl) ?_; clear hS a; intro a hS
          apply wpList_nil
          refine p_norm ?_
          apply wp_ret
          refine p_thenR ?_
          refine p_inR ?_
          refine p_thenR ?_
          refine p_thenR ?_
          refine p_inR ?_
          refine p_thenR ?_
          obtain rfl := Option.some.inj hg
          refine fin1 (fn := Try.f7) hS rfl (r_tmp hS rfl) ?_
          exact rfl
        · replace hg := br_f hg (by rw [hc59]; exact Bool.false_ne_true)
          apply wp_skip
          refine p_norm ?_
          apply wp_seq
          apply wp_region_lit
          refine q_seq hS rfl rfl rfl (y_move hS rfl) ?_; clear hS a; intro a hS
          refine q_seq hS rfl rfl rfl (y_move hS rfl) ?_; clear hS a; intro a hS
          obtain ⟨p62, hep62, hpp62⟩ := SlR.elemX (hS.fact (k := 105) rfl) hx30
          refine q_seq hS rfl rfl rfl (y_elem (sz := 2) (i := t_26) hS rfl rfl Try.underlying41 rfl hep62 rfl (lt_of_get hx30)) ?_; clear hS a; intro a hS
          refine q_seq hS rfl rfl rfl (y_ptrField (o' := 1) hS rfl Try.underlying35 rfl rfl rfl) ?_; clear hS a; intro a hS
          obtain ⟨hlq63, hmq63, csq63, hdq63, hcq63⟩ := hpp62
          obtain ⟨Aq632, cq632, rfl, hq632⟩ := RAnalysis.open hdq63
          replace hS := hS.add 121 (slF (Rep.num .i64) (Aq632) ((x30.Rules).length) (cq632) (x30.Rules)) hq632
          refine q_seq hS rfl rfl rfl (y_ldp1 hS rfl hlq63 hmq63 (hcq63 1 _ rfl) Try.underlying30 rfl) ?_; clear hS a; intro a hS
          refine q_seq hS rfl rfl rfl (y_lenSlice hS rfl Try.underlying30) ?_; clear hS a; intro a hS
          refine q_seq hS rfl rfl rfl (y_eqlN (i := ((x30.Rules).length)) (j := 0) hS rfl rfl) ?_; clear hS a; intro a hS
          apply wpList_nil
          refine p_norm ?_
          refine c_dec hS rfl (fun hc64 => ?_) (fun hc64 => ?_)
          · replace hg := br_t hg hc64
            replace hg := chk_some hg; obtain ⟨hk68, hg⟩ := hg
            apply wp_region_lit
            refine q_seq hS rfl rfl rfl (y_move hS rfl) ?_; clear hS a; intro a hS
            refine q_seq hS rfl rfl rfl (y_move hS rfl) ?_; clear hS a; intro a hS
            refine q_seq hS rfl rfl rfl (y_move hS rfl) ?_; clear hS a; intro a hS
            obtain ⟨p71, hep71, hpp71⟩ := SlR.elemX (hS.fact (k := 105) rfl) hx30
            refine q_seq hS rfl rfl rfl (y_elem (sz := 2) (i := t_26) hS rfl rfl Try.underlying41 rfl hep71 rfl (lt_of_get hx30)) ?_; clear hS a; intro a hS
            refine q_seq hS rfl rfl rfl (y_ptrField (o' := 0) hS rfl Try.underlying35 rfl rfl rfl) ?_; clear hS a; intro a hS
            obtain ⟨hlq72, hmq72, csq72, hdq72, hcq72⟩ := hpp71
            obtain ⟨Aq722, cq722, rfl, hq722⟩ := RAnalysis.open hdq72
            replace hS := hS.add 125 (slF (Rep.num .i64) (Aq722) ((x30.Rules).length) (cq722) (x30.Rules)) hq722
            refine q_seq hS rfl rfl rfl (y_ldp1 hS rfl hlq72 hmq72 (hcq72 0 _ rfl) Try.underlying3 rfl) ?_; clear hS a; intro a hS
            refine l_seq rfl (l_buildDense (sz := 1) hS 2206 rfl rfl rfl Try.underlying30 rfl rfl rfl rfl rfl rfl rfl ?_); clear hS a; intro b73 a w hbb73 hK hS
            clear hbb73
            clear hK
            replace hS := hS.add 126 (rdF (Rep.num .i64) (cellsOfL [.int .i64 (x30.Entry)]) ([x30.Entry])) (RdAll.cons (by exact rfl) (RdAll.nil _ _ _))
            have hs75 := row_src (hS.wd.holds 2206 _ rfl) (RdAll.one (hS.fact (k := 126) rfl))
            refine l_seq rfl (l_append (sz := 1) (by_ := 8) (N := (t_22 ++ [x30.Entry]).length) (ys := cs25 ++ (cellsOfL [.int .i64 (x30.Entry)])) hS 700108 rfl rfl rfl Try.underlying30 rfl rfl rfl rfl rfl hs75 (by simp) rfl (by have hr := hk68; clear hg; first | omega | (simp only [List.length_append, List.length_cons, List.length_nil] at hr ⊢; omega) | (simp at hr ⊢; omega)) (by have hr := hk68; clear hg; first | omega | (simp only [List.length_append, List.length_cons, List.length_nil] at hr ⊢; omega) | (simp at hr ⊢; omega)) rfl ?_); clear hS a; intro Aq74 cq74 a w hA hK hS
            clear hK hA
            replace hS := hS.add 127 (rdF (Rep.num .i64) (cs25 ++ (cellsOfL [.int .i64 (x30.Entry)])) (t_22 ++ [x30.Entry])) (RdAll.append (hS.fact (k := 109) rfl) (hS.fact (k := 126) rfl))
            refine q_seq hS rfl rfl rfl (y_assign hS rfl) ?_; clear hS a; intro a hS
            apply wpList_nil
            refine p_inN ?_
            refine p_norm ?_
            apply wp_region_lit
            refine q_seq hS rfl rfl rfl (y_move hS rfl) ?_; clear hS a; intro a hS
            refine q_seq hS rfl rfl rfl (y_addN (i := t_26) (j := 1) hS rfl rfl (in64.2 (by omega))) ?_; clear hS a; intro a hS
            refine q_seq hS rfl rfl rfl (y_assign hS rfl) ?_; clear hS a; intro a hS
            apply wpList_nil
            refine p_norm ?_
            replace hS := hS.add 109 (rdF (Rep.num .i64) (cs25 ++ (cellsOfL [.int .i64 (x30.Entry)])) (t_22 ++ [x30.Entry])) (hS.fact (k := 127) rfl)
            exact ⟨m1, Nat.lt_succ_self _, ⟨(t_22 ++ [x30.Entry]), (t_26 + 1), (Aq74), (cq74), (cs25 ++ (cellsOfL [.int .i64 (x30.Entry)])), hg, (hS.sub ⟨rfl, rfl, rfl, rfl, rfl, rfl, trivial⟩ ⟨rfl, trivial⟩ ⟨rfl, rfl, rfl, rfl, rfl, trivial⟩)⟩⟩
          · replace hg := br_f hg hc64
            apply wp_skip
            refine p_inN ?_
            refine p_norm ?_
            apply wp_region_lit
            refine q_seq hS rfl rfl rfl (y_move hS rfl) ?_; clear hS a; intro a hS
            refine q_seq hS rfl rfl rfl (y_addN (i := t_26) (j := 1) hS rfl rfl (in64.2 (by omega))) ?_; clear hS a; intro a hS
            refine q_seq hS rfl rfl rfl (y_assign hS rfl) ?_; clear hS a; intro a hS
            apply wpList_nil
            refine p_norm ?_
            replace hS := hS.add 109 (rdF (Rep.num .i64) (cs25) (t_22)) (hS.fact (k := 109) rfl)
            exact ⟨m1, Nat.lt_succ_self _, ⟨(t_22), (t_26 + 1), (A23), (c24), (cs25), hg, (hS.sub ⟨rfl, rfl, rfl, rfl, rfl, rfl, trivial⟩ ⟨rfl, trivial⟩ ⟨rfl, rfl, rfl, rfl, rfl, trivial⟩)⟩⟩
      · replace hg := br_f hg hc27
        apply wp_exit
        refine p_then ?_
        refine p_then ?_
        refine p_in ?_
        refine p_norm ?_
        replace hS := hS.add 107 (rdF (Rep.num .i64) (cs25) (t_22)) (hS.fact (k := 109) rfl)
        replace hS := hS.ren [(700106, Ob.row (A23) ((t_22).length) (c24) 3 1 (cs25))] [700108] ⟨rfl, trivial⟩ (by decide)
        exact ⟨(t_22), (A23), (c24), (cs25), hg, (hS.sub ⟨rfl, rfl, rfl, trivial⟩ ⟨rfl, trivial⟩ ⟨rfl, rfl, rfl, trivial⟩)⟩
    clear hS a; rintro a w ⟨t_18, A19, c20, cs21, hg, hS⟩
    subst hk17
    apply wp_seq
    replace hg := bind_some hg; obtain ⟨r76, hr76, hg⟩ := hg
    replace hg := bind_some hg; obtain ⟨r79, hr79, hg⟩ := hg
    rcases Bool.eq_false_or_eq_true (r79) with hs82 | hs82
    · replace hg := br_t hg hs82
      replace hg := bind_some hg; obtain ⟨r83, hr83, hg⟩ := hg
      apply wp_region_lit
      refine q_seq hS rfl rfl rfl (y_move hS rfl) ?_; clear hS a; intro a hS
      refine q_seq hS rfl rfl rfl (y_move hS rfl) ?_; clear hS a; intro a hS
      refine q_seq hS rfl rfl rfl (y_move hS rfl) ?_; clear hS a; intro a hS
      refine l_seq rfl (l_call (cap := []) hS rfl Try.func16 rfl (by kernel_rfl) rfl rfl (c_lexicon_Find n _ _ hS.lt t_ (Ap01) (cp01) (hS.fact (k := 101) rfl) t_'' (Ap21) (cp21) (hS.fact (k := 103) rfl) r76 hr76) ?_); clear hS a; intro v86 a w hK hp hS
      clear hK
      obtain ⟨Au87a1, cu87a1, rfl, hu87a1⟩ := hp
      replace hS := hS.add 130 (slF (Rep.num .i64) (Au87a1) ((r76).length) (cu87a1) (r76)) hu87a1
      have hT := hS
      replace hT := hT.freeze (R := (Rep.num .i64)) (kk := 700106) (L' := []) 131 rfl rfl (hT.fact (k := 107) rfl) trivial rfl
      refine l_seq rfl (l_call (cap := []) hS rfl Try.func15 rfl (by kernel_rfl) rfl rfl (c_r24_SameInts n _ _ hT.lt t_18 (A19) (c20) (hT.fact (k := 131) rfl) r76 (Au87a1) (cu87a1) (hT.fact (k := 130) rfl) r79 hr79) ?_); clear hS hT a; intro v88 a w hK hp hS
      clear hK
      obtain rfl := hp.trans (congrArg Value.bool hs82)
      refine q_seq hS rfl rfl rfl (y_move hS rfl) ?_; clear hS a; intro a hS
      refine g_yes hS rfl rfl rfl rfl (l_call (cap := []) hS rfl Try.func11 rfl (by kernel_rfl) rfl rfl (c_law24_exampleHolds n _ _ hS.lt  r83 hr83) ?_); clear hS a; intro v90 a w hK hp hS
      clear hK
      obtain rfl := hp
      refine q_seq hS rfl rfl rfl (y_pick_t hS rfl rfl) ?_; clear hS a; intro a hS
      refine q_seq hS rfl rfl rfl (y_assign hS rfl) ?_; clear hS a; intro a hS
      apply wpList_nil
      refine p_norm ?_
      apply wp_ret
      obtain rfl := Option.some.inj hg
      refine fin1 (fn := Try.f7) hS rfl (r_tmp hS rfl) ?_
      exact rfl
    · replace hg := br_f hg (by rw [hs82]; exact Bool.false_ne_true)
      apply wp_region_lit
      refine q_seq hS rfl rfl rfl (y_move hS rfl) ?_; clear hS a; intro a hS
      refine q_seq hS rfl rfl rfl (y_move hS rfl) ?_; clear hS a; intro a hS
      refine q_seq hS rfl rfl rfl (y_move hS rfl) ?_; clear hS a; intro a hS
      refine l_seq rfl (l_call (cap := []) hS rfl Try.func16 rfl (by kernel_rfl) rfl rfl (c_lexicon_Find n _ _ hS.lt t_ (Ap01) (cp01) (hS.fact (k := 101) rfl) t_'' (Ap21) (cp21) (hS.fact (k := 103) rfl) r76 hr76) ?_); clear hS a; intro v92 a w hK hp hS
      clear hK
      obtain ⟨Au93a1, cu93a1, rfl, hu93a1⟩ := hp
      replace hS := hS.add 132 (slF (Rep.num .i64) (Au93a1) ((r76).length) (cu93a1) (r76)) hu93a1
      have hT := hS
      replace hT := hT.freeze (R := (Rep.num .i64)) (kk := 700106) (L' := []) 133 rfl rfl (hT.fact (k := 107) rfl) trivial rfl
      refine l_seq rfl (l_call (cap := []) hS rfl Try.func15 rfl (by kernel_rfl) rfl rfl (c_r24_SameInts n _ _ hT.lt t_18 (A19) (c20) (hT.fact (k := 133) rfl) r76 (Au93a1) (cu93a1) (hT.fact (k := 132) rfl) r79 hr79) ?_); clear hS hT a; intro v94 a w hK hp hS
      clear hK
      obtain rfl := hp.trans (congrArg Value.bool hs82)
      refine q_seq hS rfl rfl rfl (y_move hS rfl) ?_; clear hS a; intro a hS
      refine g_no hS rfl rfl rfl rfl rfl rfl rfl ?_; clear hS a; intro a hS
      refine q_seq hS rfl rfl rfl (y_pick_f hS rfl rfl) ?_; clear hS a; intro a hS
      refine q_seq hS rfl rfl rfl (y_assign hS rfl) ?_; clear hS a; intro a hS
      apply wpList_nil
      refine p_norm ?_
      apply wp_ret
      obtain rfl := Option.some.inj hg
      refine fin1 (fn := Try.f7) hS rfl (r_tmp hS rfl) ?_
      exact rfl
set_option maxHeartbeats 400000 in
theorem c_law24_LexiconOnce (n : Nat) (M : Bs) (w0 : World) (hM : ∀ b, M b → b < w0.heap.size) (t_ : (List Entry)) (Ap01 : Option Addr) (cp01 : Nat) (hp01 : SlR REntry M w0 Ap01 (t_).length cp01 (t_)) (t_' : (List LexRule)) (Ap11 : Option Addr) (cp11 : Nat) (hp11 : SlR RLexRule M w0 Ap11 (t_').length cp11 (t_')) (t_'' : Analysis) (Ap22 : Option Addr) (cp22 : Nat) (hp22 : SlR (Rep.num .i64) M w0 Ap22 (t_''.Rules).length cp22 (t_''.Rules)) (r : Bool) (hg : law24_LexiconOnce n t_ t_' t_'' = some r) :
    Calls Try.prog 8 [.slice (Ap01) ((t_).length) (cp01), .slice (Ap11) ((t_').length) (cp11), .agg #[.int .i64 (t_''.Entry), .slice (Ap22) ((t_''.Rules).length) (cp22)]].toArray w0 (Ret noB w0 fun v w => v = .bool (r)) := by
  unfold law24_LexiconOnce at hg
  refine enter M noB Try.func8 rfl rfl hM ?_
  intro a hS
  replace hS := hS.add 101 (slF REntry (Ap01) ((t_).length) (cp01) (t_)) (by exact Fact.change _ enterM hp01)
  replace hS := hS.add 102 (slF RLexRule (Ap11) ((t_').length) (cp11) (t_')) (by exact Fact.change _ enterM hp11)
  replace hS := hS.add 103 (slF (Rep.num .i64) (Ap22) ((t_''.Rules).length) (cp22) (t_''.Rules)) (by exact Fact.change _ enterM hp22)
  apply wp_seq
  apply wp_region_lit
  refine l_seq rfl (l_box (zs := [.int .i64 (t_''.Entry), .slice (Ap22) ((t_''.Rules).length) (cp22)]) hS 1000 rfl rfl rfl rfl ?_); clear hS a; intro b2 a w hb hK hS
  clear hb
  clear hK
  refine q_seq hS rfl rfl rfl (y_assign hS rfl) ?_; clear hS a; intro a hS
  apply wpList_nil
  refine p_norm ?_
  apply wp_seq
  apply wp_seq
  replace hg := jn_some hg; obtain ⟨k3, hg, hk3⟩ := hg
  refine c_post (fun a w => ∃ (t_4 : Bool), k3 t_4 = some r ∧ St (⟨Try.f8.ntmps, M, noB, w0⟩ : Ctx) [(0, .slice (Ap01) ((t_).length) (cp01)), (1, .slice (Ap11) ((t_').length) (cp11)), (5, .pointer (some ⟨b2, 0, none⟩)), (21, .bool (t_4))] [(1000, Ob.box b2 [.int .i64 (t_''.Entry), .slice (Ap22) ((t_''.Rules).length) (cp22)] 35)] [(101, slF REntry (Ap01) ((t_).length) (cp01) (t_)), (102, slF RLexRule (Ap11) ((t_').length) (cp11) (t_')), (103, slF (Rep.num .i64) (Ap22) ((t_''.Rules).length) (cp22) (t_''.Rules))] a w) ?_ ?_
  · replace hg := bind_some hg; obtain ⟨r5, hr5, hg⟩ := hg
    rcases Bool.eq_false_or_eq_true (!(r5)) with hs8 | hs8
    · replace hg := br_t hg hs8
      apply wp_region_lit
      refine q_seq hS rfl rfl rfl (y_move hS rfl) ?_; clear hS a; intro a hS
      refine q_seq hS rfl rfl rfl (y_move hS rfl) ?_; clear hS a; intro a hS
      refine l_seq rfl (l_call (cap := []) hS rfl Try.func14 rfl (by kernel_rfl) rfl rfl (c_r24_Light n _ _ hS.lt t_ (Ap01) (cp01) (hS.fact (k := 101) rfl) t_' (Ap11) (cp11) (hS.fact (k := 102) rfl) [] (none) (0) (SlR.nil_ _ _ _) r5 hr5) ?_); clear hS a; intro v9 a w hK hp hS
      clear hK
      obtain rfl := hp
      refine q_seq hS rfl rfl rfl (yl_b (y_not hS rfl) hs8) ?_; clear hS a; intro a hS
      refine q_seq hS rfl rfl rfl (y_move hS rfl) ?_; clear hS a; intro a hS
      refine g_no hS rfl rfl rfl rfl rfl rfl rfl ?_; clear hS a; intro a hS
      refine g_no hS rfl rfl rfl rfl rfl rfl rfl ?_; clear hS a; intro a hS
      refine g_no hS rfl rfl rfl rfl rfl rfl rfl ?_; clear hS a; intro a hS
      refine g_no hS rfl rfl rfl rfl rfl rfl rfl ?_; clear hS a; intro a hS
      refine q_seq hS rfl rfl rfl (y_pick_t hS rfl rfl) ?_; clear hS a; intro a hS
      apply wpList_nil
      refine p_norm ?_
      exact ⟨(true), hg, (hS.sub ⟨rfl, rfl, rfl, rfl, trivial⟩ ⟨rfl, trivial⟩ ⟨rfl, rfl, rfl, trivial⟩)⟩
    · replace hg := br_f hg (by rw [hs8]; exact Bool.false_ne_true)
      apply wp_region_lit
      refine q_seq hS rfl rfl rfl (y_move hS rfl) ?_; clear hS a; intro a hS
      refine q_seq hS rfl rfl rfl (y_move hS rfl) ?_; clear hS a; intro a hS
      refine l_seq rfl (l_call (cap := []) hS rfl Try.func14 rfl (by kernel_rfl) rfl rfl (c_r24_Light n _ _ hS.lt t_ (Ap01) (cp01) (hS.fact (k := 101) rfl) t_' (Ap11) (cp11) (hS.fact (k := 102) rfl) [] (none) (0) (SlR.nil_ _ _ _) r5 hr5) ?_); clear hS a; intro v11 a w hK hp hS
      clear hK
      obtain rfl := hp
      refine q_seq hS rfl rfl rfl (yl_b (y_not hS rfl) hs8) ?_; clear hS a; intro a hS
      refine q_seq hS rfl rfl rfl (y_move hS rfl) ?_; clear hS a; intro a hS
      refine g_yes hS rfl rfl rfl rfl (l_quiet hS rfl rfl (y_boxField (o' := 1) hS rfl Try.underlying35 rfl rfl rfl) ?_); clear hS a; intro a hS
      refine g_yes hS rfl rfl rfl rfl (l_quiet hS rfl rfl (y_loadBox1 (kk := 1000) hS rfl rfl rfl Try.underlying30 rfl) ?_); clear hS a; intro a hS
      refine g_yes hS rfl rfl rfl rfl (l_quiet hS rfl rfl (y_lenSlice hS rfl Try.underlying30) ?_); clear hS a; intro a hS
      refine g_yes hS rfl rfl rfl rfl (l_quiet hS rfl rfl (y_gtrN (i := ((t_''.Rules).length)) (j := 6) hS rfl rfl) ?_); clear hS a; intro a hS
      refine q_seq hS rfl rfl rfl (y_pick_f hS rfl rfl) ?_; clear hS a; intro a hS
      apply wpList_nil
      refine p_norm ?_
      exact ⟨(decide ((6 : Nat) < ((t_''.Rules).length))), hg, (hS.sub ⟨rfl, rfl, rfl, rfl, trivial⟩ ⟨rfl, trivial⟩ ⟨rfl, rfl, rfl, trivial⟩)⟩
  clear hS a; rintro a w ⟨t_4, hg, hS⟩
  subst hk3
  refine c_cond hS rfl (fun hc13 => ?_) (fun hc13 => ?_)
  · replace hg := br_t hg hc13
    apply wp_seq
    replace hg := bind_some hg; obtain ⟨r14, hr14, hg⟩ := hg
    apply wp_region_lit
    refine l_seq rfl (l_call (cap := []) hS rfl Try.func11 rfl (by kernel_rfl) rfl rfl (c_law24_exampleHolds n _ _ hS.lt  r14 hr14) ?_); clear hS a; intro v17 a w hK hp hS
    clear hK
    obtain rfl := hp
    refine q_seq hS rfl rfl rfl (y_assign hS rfl) ?_; clear hS a; intro a hS
    apply wpList_nil
    refine p_norm ?_
    apply wp_ret
    refine p_thenR ?_
    obtain rfl := Option.some.inj hg
    refine fin1 (fn := Try.f8) hS rfl (r_tmp hS rfl) ?_
    exact rfl
  · replace hg := br_f hg (by rw [hc13]; exact Bool.false_ne_true)
    apply wp_skip
    refine p_norm ?_
    apply wp_seq
    replace hg := bind_some hg; obtain ⟨r19, hr19, hg⟩ := hg
    apply wp_region_lit
    refine q_seq hS rfl rfl rfl (y_move hS rfl) ?_; clear hS a; intro a hS
    refine q_seq hS rfl rfl rfl (y_move hS rfl) ?_; clear hS a; intro a hS
    refine q_seq hS rfl rfl rfl (y_loadBox (kk := 1000) (n := 2) (vs := [.int .i64 (t_''.Entry), .slice (Ap22) ((t_''.Rules).length) (cp22)]) hS rfl rfl Try.underlying35 rfl rfl rfl rfl) ?_; clear hS a; intro a hS
    refine l_seq rfl (l_call (cap := []) hS rfl Try.func18 rfl (by kernel_rfl) rfl rfl (c_lexicon_Form n _ _ hS.lt t_ (Ap01) (cp01) (hS.fact (k := 101) rfl) t_' (Ap11) (cp11) (hS.fact (k := 102) rfl) t_'' (Ap22) (cp22) (hS.fact (k := 103) rfl) r19 hr19) ?_); clear hS a; intro v22 a w hK hp hS
    clear hK
    obtain ⟨Au23a1, cu23a1, rfl, hu23a1⟩ := hp
    replace hS := hS.add 105 (slF Rep.str (Au23a1) ((r19.1).length) (cu23a1) (r19.1)) hu23a1
    refine q_seq hS rfl rfl rfl (y_move hS rfl) ?_; clear hS a; intro a hS
    refine q_seq hS rfl rfl rfl (y_extract hS rfl rfl) ?_; clear hS a; intro a hS
    refine q_seq hS rfl rfl rfl (y_extract hS rfl rfl) ?_; clear hS a; intro a hS
    refine q_seq hS rfl rfl rfl (y_assign hS rfl) ?_; clear hS a; intro a hS
    refine q_seq hS rfl rfl rfl (y_assign hS rfl) ?_; clear hS a; intro a hS
    apply wpList_nil
    refine p_norm ?_
    apply wp_seq
    apply wp_seq
    apply wp_region_lit
    refine q_seq hS rfl rfl rfl (y_move hS rfl) ?_; clear hS a; intro a hS
    refine q_seq hS rfl rfl rfl (y_not hS rfl) ?_; clear hS a; intro a hS
    apply wpList_nil
    refine p_norm ?_
    refine c_cond hS rfl (fun hc24 => ?_) (fun hc24 => ?_)
    · replace hg := br_t hg hc24
      apply wp_seq
      rcases Decidable.em (((r19.1).length) = 0) with hs25 | hs25
      · have hs25e : decide (((r19.1).length) = 0) = true := decide_eq_true hs25
        replace hg := br_t hg hs25
        replace hg := bind_some hg; obtain ⟨r26, hr26, hg⟩ := hg
        apply wp_region_lit
        refine q_seq hS rfl rfl rfl (y_move hS rfl) ?_; clear hS a; intro a hS
        refine q_seq hS rfl rfl rfl (y_lenSlice hS rfl Try.underlying27) ?_; clear hS a; intro a hS
        refine q_seq hS rfl rfl rfl (yl_b (y_eqlN (i := ((r19.1).length)) (j := 0) hS rfl rfl) hs25e) ?_; clear hS a; intro a hS
        refine q_seq hS rfl rfl rfl (y_move hS rfl) ?_; clear hS a; intro a hS
        refine g_yes hS rfl rfl rfl rfl (l_call (cap := []) hS rfl Try.func11 rfl (by kernel_rfl) rfl rfl (c_law24_exampleHolds n _ _ hS.lt  r26 hr26) ?_); clear hS a; intro v29 a w hK hp hS
        clear hK
        obtain rfl := hp
        refine q_seq hS rfl rfl rfl (y_pick_t hS rfl rfl) ?_; clear hS a; intro a hS
        refine q_seq hS rfl rfl rfl (y_assign hS rfl) ?_; clear hS a; intro a hS
        apply wpList_nil
        refine p_norm ?_
        apply wp_ret
        refine p_thenR ?_
        obtain rfl := Option.some.inj hg
        refine fin1 (fn := Try.f8) hS rfl (r_tmp hS rfl) ?_
        exact rfl
      · have hs25e : decide (((r19.1).length) = 0) = false := decide_eq_false hs25
        replace hg := br_f hg hs25
        apply wp_region_lit
        refine q_seq hS rfl rfl rfl (y_move hS rfl) ?_; clear hS a; intro a hS
        refine q_seq hS rfl rfl rfl (y_lenSlice hS rfl Try.underlying27) ?_; clear hS a; intro a hS
        refine q_seq hS rfl rfl rfl (yl_b (y_eqlN (i := ((r19.1).length)) (j := 0) hS rfl rfl) hs25e) ?_; clear hS a; intro a hS
        refine q_seq hS rfl rfl rfl (y_move hS rfl) ?_; clear hS a; intro a hS
        refine g_no hS rfl rfl rfl rfl rfl rfl rfl ?_; clear hS a; intro a hS
        refine q_seq hS rfl rfl rfl (y_pick_f hS rfl rfl) ?_; clear hS a; intro a hS
        refine q_seq hS rfl rfl rfl (y_assign hS rfl) ?_; clear hS a; intro a hS
        apply wpList_nil
        refine p_norm ?_
        apply wp_ret
        refine p_thenR ?_
        obtain rfl := Option.some.inj hg
        refine fin1 (fn := Try.f8) hS rfl (r_tmp hS rfl) ?_
        exact rfl
    · replace hg := br_f hg (by rw [hc24]; exact Bool.false_ne_true)
      apply wp_skip
      refine p_norm ?_
      apply wp_seq
      apply wp_region_lit
      refine q_seq hS rfl rfl rfl (y_assign hS rfl) ?_; clear hS a; intro a hS
      apply wpList_nil
      refine p_norm ?_
      apply wp_seq
      replace hg := bind_some hg; obtain ⟨r31, hr31, hg⟩ := hg
      apply wp_region_lit
      refine q_seq hS rfl rfl rfl (y_move hS rfl) ?_; clear hS a; intro a hS
      refine q_seq hS rfl rfl rfl (y_move hS rfl) ?_; clear hS a; intro a hS
      refine q_seq hS rfl rfl rfl (y_move hS rfl) ?_; clear hS a; intro a hS
      refine l_seq rfl (l_call (cap := []) hS rfl Try.func22 rfl (by kernel_rfl) rfl rfl (c_lexicon_Analyses n _ _ hS.lt t_ (Ap01) (cp01) (hS.fact (k := 101) rfl) t_' (Ap11) (cp11) (hS.fact (k := 102) rfl) r19.1 (Au23a1) (cu23a1) (hS.fact (k := 105) rfl) r31 hr31) ?_); clear hS a; intro v34 a w hK hp hS
      clear hK
      obtain ⟨Au35a1, cu35a1, rfl, hu35a1⟩ := hp
      replace hS := hS.add 107 (slF RAnalysis (Au35a1) ((r31).length) (cu35a1) (r31)) hu35a1
      refine q_seq hS rfl rfl rfl (y_assign hS rfl) ?_; clear hS a; intro a hS
      apply wpList_nil
      refine p_norm ?_
      apply wp_seq
      apply wp_seq
      apply wp_region_lit
      refine q_seq hS rfl rfl rfl (y_assign hS rfl) ?_; clear hS a; intro a hS
      apply wpList_nil
      refine p_norm ?_
      replace hg := jn_some hg; obtain ⟨k36, hg, hk36⟩ := hg
      refine c_post (fun a w => ∃ (t_37 : Nat), k36 t_37 = some r ∧ St (⟨Try.f8.ntmps, M, noB, w0⟩ : Ctx) [(9, .int .i64 (((t_37 : Nat) : Int)))] [] [] a w) ?_ ?_
      · apply wp_block
        refine c_loop (σ := Nat) (fun m1 a w => ∃ (t_38 : Nat), ∃ (t_39 : Nat), law24_LexiconOnce_L0 n t_'' r31 k36 m1 t_38 t_39 = some r ∧ St (⟨Try.f8.ntmps, M, noB, w0⟩ : Ctx) [(5, .pointer (some ⟨b2, 0, none⟩)), (9, .int .i64 (((t_38 : Nat) : Int))), (10, .slice (Au35a1) ((r31).length) (cu35a1)), (11, .int .i64 (((t_39 : Nat) : Int)))] [(1000, Ob.box b2 [.int .i64 (t_''.Entry), .slice (Ap22) ((t_''.Rules).length) (cp22)] 35)] [(103, slF (Rep.num .i64) (Ap22) ((t_''.Rules).length) (cp22) (t_''.Rules)), (107, slF RAnalysis (Au35a1) ((r31).length) (cu35a1) (r31))] a w) (fun m1 => m1) n ⟨(0), (0), hg, (hS.sub ⟨rfl, rfl, rfl, rfl, trivial⟩ ⟨rfl, trivial⟩ ⟨rfl, rfl, trivial⟩)⟩ ?_
        clear hS a; rintro m1 a w ⟨t_38, t_39, hg, hS⟩
        rcases m1 with _ | m1
        · rw [law24_LexiconOnce_L0] at hg; cases hg
        rw [law24_LexiconOnce_L0] at hg
        apply wp_seq
        apply wp_seq
        apply wp_region_lit
        refine q_seq hS rfl rfl rfl (y_move hS rfl) ?_; clear hS a; intro a hS
        refine q_seq hS rfl rfl rfl (y_move hS rfl) ?_; clear hS a; intro a hS
        refine q_seq hS rfl rfl rfl (y_lenSlice hS rfl Try.underlying41) ?_; clear hS a; intro a hS
        refine q_seq hS rfl rfl rfl (y_lssN (i := t_39) (j := ((r31).length)) hS rfl rfl) ?_; clear hS a; intro a hS
        apply wpList_nil
        refine p_norm ?_
        refine c_dec hS rfl (fun hc40 => ?_) (fun hc40 => ?_)
        · replace hg := br_t hg hc40
          have hmx41 := SlR.mx (hS.fact (k := 107) rfl)
          apply wp_skip
          refine p_norm ?_
          apply wp_seq
          apply wp_block
          apply wp_seq
          replace hg := jn_some hg; obtain ⟨k42, hg, hk42⟩ := hg
          refine c_post (fun a w => ∃ (t_43 : Bool), k42 t_43 = some r ∧ St (⟨Try.f8.ntmps, M, noB, w0⟩ : Ctx) [(5, .pointer (some ⟨b2, 0, none⟩)), (9, .int .i64 (((t_38 : Nat) : Int))), (10, .slice (Au35a1) ((r31).length) (cu35a1)), (11, .int .i64 (((t_39 : Nat) : Int))), (65, .bool (t_43))] [(1000, Ob.box b2 [.int .i64 (t_''.Entry), .slice (Ap22) ((t_''.Rules).length) (cp22)] 35)] [(103, slF (Rep.num .i64) (Ap22) ((t_''.Rules).length) (cp22) (t_''.Rules)), (107, slF RAnalysis (Au35a1) ((r31).length) (cu35a1) (r31))] a w) ?_ ?_
          · replace hg := bind_some hg; obtain ⟨x45, hx45, hg⟩ := hg
            rcases Decidable.em (x45.Entry = t_''.Entry) with hs47 | hs47
            · have hs47e : decide (x45.Entry = t_''.Entry) = true := decide_eq_true hs47
              replace hg := br_t hg hs47
              replace hg := bind_some hg; obtain ⟨r50, hr50, hg⟩ := hg
              refine d_plan hS [] [(0, some 0), (1, some 0), (2, some 0), (3, some 0), (4, some 0), (5, some 0), (6, some 1000), (7, some 0), (8, some 0), (9, some 0), (10, some 0), (11, some 0), (12, some 0), (13, some 0), (14, some 0), (15, some 1000), (16, none), (17, none)] rfl (by kernel_rfl) (by kernel_rfl) rfl ?_; clear hS; intro wr hZ hS; have hR := hS.wd
              refine q_take hS hR rfl rfl rfl rfl (y_move hS rfl) ?_; clear hS a; intro a hS
              refine q_take hS hR rfl rfl rfl rfl (y_move hS rfl) ?_; clear hS a; intro a hS
              obtain ⟨p53, hep53, hpp53⟩ := SlR.elemX (hS.fact (k := 107) rfl) hx45
              refine q_take hS hR rfl rfl rfl rfl (y_elem (sz := 2) (i := t_39) hS rfl rfl Try.underlying41 rfl hep53 rfl (lt_of_get hx45)) ?_; clear hS a; intro a hS
              refine q_take hS hR rfl rfl rfl rfl (y_ptrField (o' := 0) hS rfl Try.underlying35 rfl rfl rfl) ?_; clear hS a; intro a hS
              obtain ⟨hlq54, hmq54, csq54, hdq54, hcq54⟩ := hpp53
              obtain ⟨Aq542, cq542, rfl, hq542⟩ := RAnalysis.open hdq54
              replace hS := hS.add 110 (slF (Rep.num .i64) (Aq542) ((x45.Rules).length) (cq542) (x45.Rules)) hq542
              refine q_take hS hR rfl rfl rfl rfl (y_ldp1 hS rfl hlq54 hmq54 (hcq54 0 _ rfl) Try.underlying3 rfl) ?_; clear hS a; intro a hS
              refine q_take hS hR rfl rfl rfl rfl (y_boxField (o' := 0) hS rfl Try.underlying35 rfl rfl rfl) ?_; clear hS a; intro a hS
              refine q_take hS hR rfl rfl rfl rfl (y_loadBox1 (kk := 1000) hS rfl rfl rfl Try.underlying3 rfl) ?_; clear hS a; intro a hS
              refine q_take hS hR rfl rfl rfl rfl (yl_b (y_eql hS rfl rfl) hs47e) ?_; clear hS a; intro a hS
              refine q_take hS hR rfl rfl rfl rfl (y_move hS rfl) ?_; clear hS a; intro a hS
              refine q_take hS hR rfl rfl ⟨_, _, _, rfl, rfl, rfl, rfl⟩ rfl (y_move hS rfl) ?_; clear hS a; intro a hS
              refine q_take hS hR rfl rfl ⟨_, _, _, rfl, rfl, rfl, rfl⟩ rfl (y_move hS rfl) ?_; clear hS a; intro a hS
              obtain ⟨p55, hep55, hpp55⟩ := SlR.elemX (hS.fact (k := 107) rfl) hx45
              refine q_take hS hR rfl rfl ⟨_, _, _, rfl, rfl, rfl, rfl⟩ rfl (y_elem (sz := 2) (i := t_39) hS rfl rfl Try.underlying41 rfl hep55 rfl (lt_of_get hx45)) ?_; clear hS a; intro a hS
              refine q_take hS hR rfl rfl ⟨_, _, _, rfl, rfl, rfl, rfl⟩ rfl (y_ptrField (o' := 1) hS rfl Try.underlying35 rfl rfl rfl) ?_; clear hS a; intro a hS
              obtain ⟨hlq56, hmq56, csq56, hdq56, hcq56⟩ := hpp55
              obtain ⟨Aq562, cq562, rfl, hq562⟩ := RAnalysis.open hdq56
              replace hS := hS.add 111 (slF (Rep.num .i64) (Aq562) ((x45.Rules).length) (cq562) (x45.Rules)) hq562
              refine q_take hS hR rfl rfl ⟨_, _, _, rfl, rfl, rfl, rfl⟩ rfl (y_ldp1 hS rfl hlq56 hmq56 (hcq56 1 _ rfl) Try.underlying30 rfl) ?_; clear hS a; intro a hS
              refine q_take hS hR rfl rfl ⟨_, _, _, rfl, rfl, rfl, rfl⟩ rfl (y_boxField (o' := 1) hS rfl Try.underlying35 rfl rfl rfl) ?_; clear hS a; intro a hS
              refine q_take hS hR rfl rfl ⟨_, _, _, rfl, rfl, rfl, rfl⟩ rfl (y_loadBox1 (kk := 1000) hS rfl rfl rfl Try.underlying30 rfl) ?_; clear hS a; intro a hS
              refine l_take hS rfl ⟨_, _, _, rfl, rfl, rfl, rfl⟩ (l_call (cap := []) hS rfl Try.func15 rfl (by kernel_rfl) rfl rfl (c_r24_SameInts n _ _ hS.lt x45.Rules (Aq562) (cq562) (hS.fact (k := 111) rfl) t_''.Rules (Ap22) (cp22) (hS.fact (k := 103) rfl) r50 hr50) ?_); clear hS a; intro v57 a w hK hp hS
              replace hZ := Nat.le_trans hZ hK.size; refine ⟨fun g _ h => h.grow hK, ?_⟩; clear hK
              obtain rfl := hp
              refine l_take hS rfl rfl (l_quiet hS rfl rfl (y_pick_t hS rfl rfl) ?_); clear hS a; intro a hS; refine ⟨fun g _ h => h, ?_⟩
              clear hR hZ
              refine p_norm ?_
              exact ⟨(r50), hg, (hS.sub ⟨rfl, rfl, rfl, rfl, rfl, trivial⟩ ⟨rfl, trivial⟩ ⟨rfl, rfl, trivial⟩)⟩
            · have hs47e : decide (x45.Entry = t_''.Entry) = false := decide_eq_false hs47
              replace hg := br_f hg hs47
              refine d_plan hS [] [(0, some 0), (1, some 0), (2, some 0), (3, some 0), (4, some 0), (5, some 0), (6, some 1000), (7, some 0), (8, some 0), (9, some 0), (10, some 0), (11, some 0), (12, some 0), (13, some 0), (14, some 0), (15, some 0), (16, some 0), (17, some 0)] rfl (by kernel_rfl) (by kernel_rfl) rfl ?_; clear hS; intro wr hZ hS; have hR := hS.wd
              refine q_take hS hR rfl rfl rfl rfl (y_move hS rfl) ?_; clear hS a; intro a hS
              refine q_take hS hR rfl rfl rfl rfl (y_move hS rfl) ?_; clear hS a; intro a hS
              obtain ⟨p59, hep59, hpp59⟩ := SlR.elemX (hS.fact (k := 107) rfl) hx45
              refine q_take hS hR rfl rfl rfl rfl (y_elem (sz := 2) (i := t_39) hS rfl rfl Try.underlying41 rfl hep59 rfl (lt_of_get hx45)) ?_; clear hS a; intro a hS
              refine q_take hS hR rfl rfl rfl rfl (y_ptrField (o' := 0) hS rfl Try.underlying35 rfl rfl rfl) ?_; clear hS a; intro a hS
              obtain ⟨hlq60, hmq60, csq60, hdq60, hcq60⟩ := hpp59
              obtain ⟨Aq602, cq602, rfl, hq602⟩ := RAnalysis.open hdq60
              replace hS := hS.add 112 (slF (Rep.num .i64) (Aq602) ((x45.Rules).length) (cq602) (x45.Rules)) hq602
              refine q_take hS hR rfl rfl rfl rfl (y_ldp1 hS rfl hlq60 hmq60 (hcq60 0 _ rfl) Try.underlying3 rfl) ?_; clear hS a; intro a hS
              refine q_take hS hR rfl rfl rfl rfl (y_boxField (o' := 0) hS rfl Try.underlying35 rfl rfl rfl) ?_; clear hS a; intro a hS
              refine q_take hS hR rfl rfl rfl rfl (y_loadBox1 (kk := 1000) hS rfl rfl rfl Try.underlying3 rfl) ?_; clear hS a; intro a hS
              refine q_take hS hR rfl rfl rfl rfl (yl_b (y_eql hS rfl rfl) hs47e) ?_; clear hS a; intro a hS
              refine q_take hS hR rfl rfl rfl rfl (y_move hS rfl) ?_; clear hS a; intro a hS
              refine q_pass hS hR rfl rfl ⟨_, _, _, rfl, rfl, rfl, rfl⟩ rfl ?_; clear hS a; intro a hS
              refine q_pass hS hR rfl rfl ⟨_, _, _, rfl, rfl, rfl, rfl⟩ rfl ?_; clear hS a; intro a hS
              refine q_pass hS hR rfl rfl ⟨_, _, _, rfl, rfl, rfl, rfl⟩ rfl ?_; clear hS a; intro a hS
              refine q_pass hS hR rfl rfl ⟨_, _, _, rfl, rfl, rfl, rfl⟩ rfl ?_; clear hS a; intro a hS
              refine q_pass hS hR rfl rfl ⟨_, _, _, rfl, rfl, rfl, rfl⟩ rfl ?_; clear hS a; intro a hS
              refine q_pass hS hR rfl rfl ⟨_, _, _, rfl, rfl, rfl, rfl⟩ rfl ?_; clear hS a; intro a hS
              refine q_pass hS hR rfl rfl ⟨_, _, _, rfl, rfl, rfl, rfl⟩ rfl ?_; clear hS a; intro a hS
              refine q_pass hS hR rfl rfl ⟨_, _, _, rfl, rfl, rfl, rfl⟩ rfl ?_; clear hS a; intro a hS
              refine q_take hS hR rfl rfl rfl rfl (y_pick_f hS rfl rfl) ?_; clear hS a; intro a hS
              clear hR hZ
              refine p_norm ?_
              exact ⟨(false), hg, (hS.sub ⟨rfl, rfl, rfl, rfl, rfl, trivial⟩ ⟨rfl, trivial⟩ ⟨rfl, rfl, trivial⟩)⟩
          clear hS a; rintro a w ⟨t_43, hg, hS⟩
          subst hk42
          refine c_cond hS rfl (fun hc61 => ?_) (fun hc61 => ?_)
          · replace hg := br_t hg hc61
            replace hg := chk_some hg; obtain ⟨hk62, hg⟩ := hg
            apply wp_region_lit
            refine q_seq hS rfl rfl rfl (y_move hS rfl) ?_; clear hS a; intro a hS
            refine q_seq hS rfl rfl rfl (y_addN (i := t_38) (j := 1) hS rfl rfl (in64.2 (by omega))) ?_; clear hS a; intro a hS
            refine q_seq hS rfl rfl rfl (y_assign hS rfl) ?_; clear hS a; intro a hS
            apply wpList_nil
            refine p_inN ?_
            refine p_norm ?_
            apply wp_region_lit
            refine q_seq hS rfl rfl rfl (y_move hS rfl) ?_; clear hS a; intro a hS
            refine q_seq hS rfl rfl rfl (y_addN (i := t_39) (j := 1) hS rfl rfl (in64.2 (by omega))) ?_; clear hS a; intro a hS
            refine q_seq hS rfl rfl rfl (y_assign hS rfl) ?_; clear hS a; intro a hS
            apply wpList_nil
            refine p_norm ?_
            exact ⟨m1, Nat.lt_succ_self _, ⟨(t_38 + 1), (t_39 + 1), hg, (hS.sub ⟨rfl, rfl, rfl, rfl, trivial⟩ ⟨rfl, trivial⟩ ⟨rfl, rfl, trivial⟩)⟩⟩
          · replace hg := br_f hg (by rw [hc61]; exact Bool.false_ne_true)
            apply wp_skip
            refine p_inN ?_
            refine p_norm ?_
            apply wp_region_lit
            refine q_seq hS rfl rfl rfl (y_move hS rfl) ?_; clear hS a; intro a hS
            refine q_seq hS rfl rfl rfl (y_addN (i := t_39) (j := 1) hS rfl rfl (in64.2 (by omega))) ?_; clear hS a; intro a hS
            refine q_seq hS rfl rfl rfl (y_assign hS rfl) ?_; clear hS a; intro a hS
            apply wpList_nil
            refine p_norm ?_
            exact ⟨m1, Nat.lt_succ_self _, ⟨(t_38), (t_39 + 1), hg, (hS.sub ⟨rfl, rfl, rfl, rfl, trivial⟩ ⟨rfl, trivial⟩ ⟨rfl, rfl, trivial⟩)⟩⟩
        · replace hg := br_f hg hc40
          apply wp_exit
          refine p_then ?_
          refine p_then ?_
          refine p_in ?_
          refine p_norm ?_
          exact ⟨(t_38), hg, (hS.sub ⟨rfl, trivial⟩ trivial trivial)⟩
      clear hS a; rintro a w ⟨t_37, hg, hS⟩
      subst hk36
      apply wp_seq
      rcases Decidable.em (t_37 = 1) with hs63 | hs63
      · have hs63e : decide (t_37 = 1) = true := decide_eq_true hs63
        replace hg := br_t hg hs63
        replace hg := bind_some hg; obtain ⟨r64, hr64, hg⟩ := hg
        apply wp_region_lit
        refine q_seq hS rfl rfl rfl (y_move hS rfl) ?_; clear hS a; intro a hS
        refine q_seq hS rfl rfl rfl (yl_b (y_eqlN (i := t_37) (j := 1) hS rfl rfl) hs63e) ?_; clear hS a; intro a hS
        refine q_seq hS rfl rfl rfl (y_move hS rfl) ?_; clear hS a; intro a hS
        refine g_yes hS rfl rfl rfl rfl (l_call (cap := []) hS rfl Try.func11 rfl (by kernel_rfl) rfl rfl (c_law24_exampleHolds n _ _ hS.lt  r64 hr64) ?_); clear hS a; intro v67 a w hK hp hS
        clear hK
        obtain rfl := hp
        refine q_seq hS rfl rfl rfl (y_pick_t hS rfl rfl) ?_; clear hS a; intro a hS
        refine q_seq hS rfl rfl rfl (y_assign hS rfl) ?_; clear hS a; intro a hS
        apply wpList_nil
        refine p_norm ?_
        apply wp_ret
        obtain rfl := Option.some.inj hg
        refine fin1 (fn := Try.f8) hS rfl (r_tmp hS rfl) ?_
        exact rfl
      · have hs63e : decide (t_37 = 1) = false := decide_eq_false hs63
        replace hg := br_f hg hs63
        apply wp_region_lit
        refine q_seq hS rfl rfl rfl (y_move hS rfl) ?_; clear hS a; intro a hS
        refine q_seq hS rfl rfl rfl (yl_b (y_eqlN (i := t_37) (j := 1) hS rfl rfl) hs63e) ?_; clear hS a; intro a hS
        refine q_seq hS rfl rfl rfl (y_move hS rfl) ?_; clear hS a; intro a hS
        refine g_no hS rfl rfl rfl rfl rfl rfl rfl ?_; clear hS a; intro a hS
        refine q_seq hS rfl rfl rfl (y_pick_f hS rfl rfl) ?_; clear hS a; intro a hS
        refine q_seq hS rfl rfl rfl (y_assign hS rfl) ?_; clear hS a; intro a hS
        apply wpList_nil
        refine p_norm ?_
        apply wp_ret
        obtain rfl := Option.some.inj hg
        refine fin1 (fn := Try.f8) hS rfl (r_tmp hS rfl) ?_
        exact rfl
set_option maxHeartbeats 400000 in
theorem c_law24_LexiconGrows (n : Nat) (M : Bs) (w0 : World) (hM : ∀ b, M b → b < w0.heap.size) (t_ : (List Entry)) (Ap01 : Option Addr) (cp01 : Nat) (hp01 : SlR REntry M w0 Ap01 (t_).length cp01 (t_)) (t_' : (List LexRule)) (Ap11 : Option Addr) (cp11 : Nat) (hp11 : SlR RLexRule M w0 Ap11 (t_').length cp11 (t_')) (t_'' : (List (List UInt8))) (Ap21 : Option Addr) (cp21 : Nat) (hp21 : SlR Rep.str M w0 Ap21 (t_'').length cp21 (t_'')) (r : Bool) (hg : law24_LexiconGrows n t_ t_' t_'' = some r) :
    Calls Try.prog 9 [.slice (Ap01) ((t_).length) (cp01), .slice (Ap11) ((t_').length) (cp11), .slice (Ap21) ((t_'').length) (cp21)].toArray w0 (Ret noB w0 fun v w => v = .bool (r)) := by
  unfold law24_LexiconGrows at hg
  refine enter M noB Try.func9 rfl rfl hM ?_
  intro a hS
  replace hS := hS.add 101 (slF REntry (Ap01) ((t_).length) (cp01) (t_)) (by exact Fact.change _ enterM hp01)
  replace hS := hS.add 102 (slF RLexRule (Ap11) ((t_').length) (cp11) (t_')) (by exact Fact.change _ enterM hp11)
  replace hS := hS.add 103 (slF Rep.str (Ap21) ((t_'').length) (cp21) (t_'')) (by exact Fact.change _ enterM hp21)
  apply wp_seq
  apply wp_region_lit
  refine q_seq hS rfl rfl rfl (y_assign hS rfl) ?_; clear hS a; intro a hS
  apply wpList_nil
  refine p_norm ?_
  apply wp_seq
  apply wp_seq
  replace hg := jn_some hg; obtain ⟨k1, hg, hk1⟩ := hg
  refine c_post (fun a w => ∃ (t_2 : Bool), k1 t_2 = some r ∧ St (⟨Try.f9.ntmps, M, noB, w0⟩ : Ctx) [(0, .slice (Ap01) ((t_).length) (cp01)), (1, .slice (Ap11) ((t_').length) (cp11)), (2, .slice (Ap21) ((t_'').length) (cp21)), (27, .bool (t_2))] [] [(101, slF REntry (Ap01) ((t_).length) (cp01) (t_)), (102, slF RLexRule (Ap11) ((t_').length) (cp11) (t_')), (103, slF Rep.str (Ap21) ((t_'').length) (cp21) (t_''))] a w) ?_ ?_
  · replace hg := bind_some hg; obtain ⟨r3, hr3, hg⟩ := hg
    rcases Bool.eq_false_or_eq_true (!(r3)) with hs6 | hs6
    · replace hg := br_t hg hs6
      apply wp_region_lit
      refine q_seq hS rfl rfl rfl (y_move hS rfl) ?_; clear hS a; intro a hS
      refine q_seq hS rfl rfl rfl (y_move hS rfl) ?_; clear hS a; intro a hS
      refine q_seq hS rfl rfl rfl (y_move hS rfl) ?_; clear hS a; intro a hS
      refine l_seq rfl (l_call (cap := []) hS rfl Try.func14 rfl (by kernel_rfl) rfl rfl (c_r24_Light n _ _ hS.lt t_ (Ap01) (cp01) (hS.fact (k := 101) rfl) t_' (Ap11) (cp11) (hS.fact (k := 102) rfl) t_'' (Ap21) (cp21) (hS.fact (k := 103) rfl) r3 hr3) ?_); clear hS a; intro v7 a w hK hp hS
      clear hK
      obtain rfl := hp
      refine q_seq hS rfl rfl rfl (yl_b (y_not hS rfl) hs6) ?_; clear hS a; intro a hS
      refine q_seq hS rfl rfl rfl (y_move hS rfl) ?_; clear hS a; intro a hS
      refine g_no hS rfl rfl rfl rfl rfl rfl rfl ?_; clear hS a; intro a hS
      refine g_no hS rfl rfl rfl rfl rfl rfl rfl ?_; clear hS a; intro a hS
      refine g_no hS rfl rfl rfl rfl rfl rfl rfl ?_; clear hS a; intro a hS
      refine q_seq hS rfl rfl rfl (y_pick_t hS rfl rfl) ?_; clear hS a; intro a hS
      refine q_seq hS rfl rfl rfl (y_move hS rfl) ?_; clear hS a; intro a hS
      refine g_no hS rfl rfl rfl rfl rfl rfl rfl ?_; clear hS a; intro a hS
      refine g_no hS rfl rfl rfl rfl rfl rfl rfl ?_; clear hS a; intro a hS
      refine g_no hS rfl rfl rfl rfl rfl rfl rfl ?_; clear hS a; intro a hS
      refine q_seq hS rfl rfl rfl (y_pick_t hS rfl rfl) ?_; clear hS a; intro a hS
      apply wpList_nil
      refine p_norm ?_
      exact ⟨(true), hg, (hS.sub ⟨rfl, rfl, rfl, rfl, trivial⟩ trivial ⟨rfl, rfl, rfl, trivial⟩)⟩
    · replace hg := br_f hg (by rw [hs6]; exact Bool.false_ne_true)
      rcases Decidable.em (((t_).length) = 0) with hs9 | hs9
      · have hs9e : decide (((t_).length) = 0) = true := decide_eq_true hs9
        replace hg := br_t hg hs9
        apply wp_region_lit
        refine q_seq hS rfl rfl rfl (y_move hS rfl) ?_; clear hS a; intro a hS
        refine q_seq hS rfl rfl rfl (y_move hS rfl) ?_; clear hS a; intro a hS
        refine q_seq hS rfl rfl rfl (y_move hS rfl) ?_; clear hS a; intro a hS
        refine l_seq rfl (l_call (cap := []) hS rfl Try.func14 rfl (by kernel_rfl) rfl rfl (c_r24_Light n _ _ hS.lt t_ (Ap01) (cp01) (hS.fact (k := 101) rfl) t_' (Ap11) (cp11) (hS.fact (k := 102) rfl) t_'' (Ap21) (cp21) (hS.fact (k := 103) rfl) r3 hr3) ?_); clear hS a; intro v10 a w hK hp hS
        clear hK
        obtain rfl := hp
        refine q_seq hS rfl rfl rfl (yl_b (y_not hS rfl) hs6) ?_; clear hS a; intro a hS
        refine q_seq hS rfl rfl rfl (y_move hS rfl) ?_; clear hS a; intro a hS
        refine g_yes hS rfl rfl rfl rfl (l_quiet hS rfl rfl (y_move hS rfl) ?_); clear hS a; intro a hS
        refine g_yes hS rfl rfl rfl rfl (l_quiet hS rfl rfl (y_lenSlice hS rfl Try.underlying22) ?_); clear hS a; intro a hS
        refine g_yes hS rfl rfl rfl rfl (l_quiet hS rfl rfl (yl_b (y_eqlN (i := ((t_).length)) (j := 0) hS rfl rfl) hs9e) ?_); clear hS a; intro a hS
        refine q_seq hS rfl rfl rfl (y_pick_f hS rfl rfl) ?_; clear hS a; intro a hS
        refine q_seq hS rfl rfl rfl (y_move hS rfl) ?_; clear hS a; intro a hS
        refine g_no hS rfl rfl rfl rfl rfl rfl rfl ?_; clear hS a; intro a hS
        refine g_no hS rfl rfl rfl rfl rfl rfl rfl ?_; clear hS a; intro a hS
        refine g_no hS rfl rfl rfl rfl rfl rfl rfl ?_; clear hS a; intro a hS
        refine q_seq hS rfl rfl rfl (y_pick_t hS rfl rfl) ?_; clear hS a; intro a hS
        apply wpList_nil
        refine p_norm ?_
        exact ⟨(true), hg, (hS.sub ⟨rfl, rfl, rfl, rfl, trivial⟩ trivial ⟨rfl, rfl, rfl, trivial⟩)⟩
      · have hs9e : decide (((t_).length) = 0) = false := decide_eq_false hs9
        replace hg := br_f hg hs9
        apply wp_region_lit
        refine q_seq hS rfl rfl rfl (y_move hS rfl) ?_; clear hS a; intro a hS
        refine q_seq hS rfl rfl rfl (y_move hS rfl) ?_; clear hS a; intro a hS
        refine q_seq hS rfl rfl rfl (y_move hS rfl) ?_; clear hS a; intro a hS
        refine l_seq rfl (l_call (cap := []) hS rfl Try.func14 rfl (by kernel_rfl) rfl rfl (c_r24_Light n _ _ hS.lt t_ (Ap01) (cp01) (hS.fact (k := 101) rfl) t_' (Ap11) (cp11) (hS.fact (k := 102) rfl) t_'' (Ap21) (cp21) (hS.fact (k := 103) rfl) r3 hr3) ?_); clear hS a; intro v12 a w hK hp hS
        clear hK
        obtain rfl := hp
        refine q_seq hS rfl rfl rfl (yl_b (y_not hS rfl) hs6) ?_; clear hS a; intro a hS
        refine q_seq hS rfl rfl rfl (y_move hS rfl) ?_; clear hS a; intro a hS
        refine g_yes hS rfl rfl rfl rfl (l_quiet hS rfl rfl (y_move hS rfl) ?_); clear hS a; intro a hS
        refine g_yes hS rfl rfl rfl rfl (l_quiet hS rfl rfl (y_lenSlice hS rfl Try.underlying22) ?_); clear hS a; intro a hS
        refine g_yes hS rfl rfl rfl rfl (l_quiet hS rfl rfl (yl_b (y_eqlN (i := ((t_).length)) (j := 0) hS rfl rfl) hs9e) ?_); clear hS a; intro a hS
        refine q_seq hS rfl rfl rfl (y_pick_f hS rfl rfl) ?_; clear hS a; intro a hS
        refine q_seq hS rfl rfl rfl (y_move hS rfl) ?_; clear hS a; intro a hS
        refine g_yes hS rfl rfl rfl rfl (l_quiet hS rfl rfl (y_move hS rfl) ?_); clear hS a; intro a hS
        refine g_yes hS rfl rfl rfl rfl (l_quiet hS rfl rfl (y_lenSlice hS rfl Try.underlying33) ?_); clear hS a; intro a hS
        refine g_yes hS rfl rfl rfl rfl (l_quiet hS rfl rfl (y_eqlN (i := ((t_').length)) (j := 0) hS rfl rfl) ?_); clear hS a; intro a hS
        refine q_seq hS rfl rfl rfl (y_pick_f hS rfl rfl) ?_; clear hS a; intro a hS
        apply wpList_nil
        refine p_norm ?_
        exact ⟨(decide (((t_').length) = 0)), hg, (hS.sub ⟨rfl, rfl, rfl, rfl, trivial⟩ trivial ⟨rfl, rfl, rfl, trivial⟩)⟩
  clear hS a; rintro a w ⟨t_2, hg, hS⟩
  subst hk1
  refine c_cond hS rfl (fun hc14 => ?_) (fun hc14 => ?_)
  · replace hg := br_t hg hc14
    apply wp_seq
    replace hg := bind_some hg; obtain ⟨r15, hr15, hg⟩ := hg
    apply wp_region_lit
    refine l_seq rfl (l_call (cap := []) hS rfl Try.func11 rfl (by kernel_rfl) rfl rfl (c_law24_exampleHolds n _ _ hS.lt  r15 hr15) ?_); clear hS a; intro v18 a w hK hp hS
    clear hK
    obtain rfl := hp
    refine q_seq hS rfl rfl rfl (y_assign hS rfl) ?_; clear hS a; intro a hS
    apply wpList_nil
    refine p_norm ?_
    apply wp_ret
    refine p_thenR ?_
    obtain rfl := Option.some.inj hg
    refine fin1 (fn := Try.f9) hS rfl (r_tmp hS rfl) ?_
    exact rfl
  · replace hg := br_f hg (by rw [hc14]; exact Bool.false_ne_true)
    apply wp_skip
    refine p_norm ?_
    apply wp_seq
    apply wp_region_lit
    refine q_seq hS rfl rfl rfl (y_assign hS rfl) ?_; clear hS a; intro a hS
    refine q_seq hS rfl rfl rfl (y_assign hS rfl) ?_; clear hS a; intro a hS
    apply wpList_nil
    refine p_norm ?_
    apply wp_seq
    replace hg := bind_some hg; obtain ⟨r20, hr20, hg⟩ := hg
    apply wp_region_lit
    refine q_seq hS rfl rfl rfl (y_move hS rfl) ?_; clear hS a; intro a hS
    refine q_seq hS rfl rfl rfl (y_move hS rfl) ?_; clear hS a; intro a hS
    refine q_seq hS rfl rfl rfl (y_move hS rfl) ?_; clear hS a; intro a hS
    refine l_seq rfl (l_call (cap := []) hS rfl Try.func22 rfl (by kernel_rfl) rfl rfl (c_lexicon_Analyses n _ _ hS.lt t_ (Ap01) (cp01) (hS.fact (k := 101) rfl) t_' (Ap11) (cp11) (hS.fact (k := 102) rfl) t_'' (Ap21) (cp21) (hS.fact (k := 103) rfl) r20 hr20) ?_); clear hS a; intro v23 a w hK hp hS
    clear hK
    obtain ⟨Au24a1, cu24a1, rfl, hu24a1⟩ := hp
    replace hS := hS.add 105 (slF RAnalysis (Au24a1) ((r20).length) (cu24a1) (r20)) hu24a1
    refine q_seq hS rfl rfl rfl (y_assign hS rfl) ?_; clear hS a; intro a hS
    apply wpList_nil
    refine p_norm ?_
    apply wp_seq
    apply wp_seq
    apply wp_region_lit
    refine q_seq hS rfl rfl rfl (y_assign hS rfl) ?_; clear hS a; intro a hS
    apply wpList_nil
    refine p_norm ?_
    replace hg := jn_some hg; obtain ⟨k25, hg, hk25⟩ := hg
    refine c_post (fun a w => ∃ (t_26 : (List Analysis)), ∃ (t_30 : (List Analysis)), ∃ (A27 : Option Addr), ∃ (c28 : Nat), ∃ (cs29 : List Value), ∃ (A31 : Option Addr), ∃ (c32 : Nat), ∃ (cs33 : List Value), k25 t_26 t_30 = some r ∧ St (⟨Try.f9.ntmps, M, noB, w0⟩ : Ctx) [(0, .slice (Ap01) ((t_).length) (cp01)), (1, .slice (Ap11) ((t_').length) (cp11)), (2, .slice (Ap21) ((t_'').length) (cp21)), (7, .slice (A27) ((t_26).length) (c28)), (8, .slice (A31) ((t_30).length) (c32))] [(700106, Ob.row (A27) ((t_26).length) (c28) 35 2 (cs29)), (700108, Ob.row (A31) ((t_30).length) (c32) 35 2 (cs33))] [(101, slF REntry (Ap01) ((t_).length) (cp01) (t_)), (102, slF RLexRule (Ap11) ((t_').length) (cp11) (t_')), (103, slF Rep.str (Ap21) ((t_'').length) (cp21) (t_'')), (107, rdF RAnalysis (cs29) (t_26)), (109, rdF RAnalysis (cs33) (t_30))] a w) ?_ ?_
    · apply wp_block
      replace hS := hS.nilRow 700110 35 2 rfl
      replace hS := hS.add 111 (rdF RAnalysis [] []) (RdAll.nil _ _ _)
      replace hS := hS.nilRow 700112 35 2 rfl
      replace hS := hS.add 113 (rdF RAnalysis [] []) (RdAll.nil _ _ _)
      refine c_loop (σ := Nat) (fun m1 a w => ∃ (t_34 : (List Analysis)), ∃ (t_38 : (List Analysis)), ∃ (t_42 : Nat), ∃ (A35 : Option Addr), ∃ (c36 : Nat), ∃ (cs37 : List Value), ∃ (A39 : Option Addr), ∃ (c40 : Nat), ∃ (cs41 : List Value), law24_LexiconGrows_L0 n t_ t_' r20 k25 m1 t_34 t_38 t_42 = some r ∧ St (⟨Try.f9.ntmps, M, noB, w0⟩ : Ctx) [(0, .slice (Ap01) ((t_).length) (cp01)), (1, .slice (Ap11) ((t_').length) (cp11)), (2, .slice (Ap21) ((t_'').length) (cp21)), (7, .slice (A35) ((t_34).length) (c36)), (8, .slice (A39) ((t_38).length) (c40)), (9, .slice (Au24a1) ((r20).length) (cu24a1)), (10, .int .i64 (((t_42 : Nat) : Int)))] [(700110, Ob.row (A35) ((t_34).length) (c36) 35 2 (cs37)), (700112, Ob.row (A39) ((t_38).length) (c40) 35 2 (cs41))] [(101, slF REntry (Ap01) ((t_).length) (cp01) (t_)), (102, slF RLexRule (Ap11) ((t_').length) (cp11) (t_')), (103, slF Rep.str (Ap21) ((t_'').length) (cp21) (t_'')), (105, slF RAnalysis (Au24a1) ((r20).length) (cu24a1) (r20)), (111, rdF RAnalysis (cs37) (t_34)), (113, rdF RAnalysis (cs41) (t_38))] a w) (fun m1 => m1) n ⟨([]), ([]), (0), (none), (0), ([]), (none), (0), ([]), hg, (hS.sub ⟨rfl, rfl, rfl, rfl, rfl, rfl, rfl, trivial⟩ ⟨rfl, rfl, trivial⟩ ⟨rfl, rfl, rfl, rfl, rfl, rfl, trivial⟩)⟩ ?_
      clear hS a; rintro m1 a w ⟨t_34, t_38, t_42, A35, c36, cs37, A39, c40, cs41, hg, hS⟩
      rcases m1 with _ | m1
      · rw [law24_LexiconGrows_L0] at hg; cases hg
      rw [law24_LexiconGrows_L0] at hg
      apply wp_seq
      apply wp_seq
      apply wp_region_lit
      refine q_seq hS rfl rfl rfl (y_move hS rfl) ?_; clear hS a; intro a hS
      refine q_seq hS rfl rfl rfl (y_move hS rfl) ?_; clear hS a; intro a hS
      refine q_seq hS rfl rfl rfl (y_lenSlice hS rfl Try.underlying41) ?_; clear hS a; intro a hS
      refine q_seq hS rfl rfl rfl (y_lssN (i := t_42) (j := ((r20).length)) hS rfl rfl) ?_; clear hS a; intro a hS
      apply wpList_nil
      refine p_norm ?_
      refine c_dec hS rfl (fun hc43 => ?_) (fun hc43 => ?_)
      · replace hg := br_t hg hc43
        have hmx44 := SlR.mx (hS.fact (k := 105) rfl)
        apply wp_skip
        refine p_norm ?_
        apply wp_seq
        apply wp_block
        apply wp_seq
        apply wp_seq
        replace hg := bind_some hg; obtain ⟨x46, hx46, hg⟩ := hg
        apply wp_region_lit
        refine q_seq hS rfl rfl rfl (y_move hS rfl) ?_; clear hS a; intro a hS
        refine q_seq hS rfl rfl rfl (y_move hS rfl) ?_; clear hS a; intro a hS
        obtain ⟨p48, hep48, hpp48⟩ := SlR.elemX (hS.fact (k := 105) rfl) hx46
        refine q_seq hS rfl rfl rfl (y_elem (sz := 2) (i := t_42) hS rfl rfl Try.underlying41 rfl hep48 rfl (lt_of_get hx46)) ?_; clear hS a; intro a hS
        refine q_seq hS rfl rfl rfl (y_ptrField (o' := 0) hS rfl Try.underlying35 rfl rfl rfl) ?_; clear hS a; intro a hS
        obtain ⟨hlq49, hmq49, csq49, hdq49, hcq49⟩ := hpp48
        obtain ⟨Aq492, cq492, rfl, hq492⟩ := RAnalysis.open hdq49
        replace hS := hS.add 115 (slF (Rep.num .i64) (Aq492) ((x46.Rules).length) (cq492) (x46.Rules)) hq492
        refine q_seq hS rfl rfl rfl (y_ldp1 hS rfl hlq49 hmq49 (hcq49 0 _ rfl) Try.underlying3 rfl) ?_; clear hS a; intro a hS
        refine q_seq hS rfl rfl rfl (y_move hS rfl) ?_; clear hS a; intro a hS
        refine q_seq hS rfl rfl rfl (y_lenSlice hS rfl Try.underlying22) ?_; clear hS a; intro a hS
        have hmx50 := SlR.mx (hS.fact (k := 101) rfl)
        refine q_seq hS rfl rfl rfl (y_sub hS rfl rfl (in64.2 (by omega))) ?_; clear hS a; intro a hS
        refine q_seq hS rfl rfl rfl (y_lss hS rfl rfl) ?_; clear hS a; intro a hS
        apply wpList_nil
        refine p_norm ?_
        replace hg := jn_some hg; obtain ⟨k51, hg, hk51⟩ := hg
        refine c_post (fun a w => ∃ (t_52 : (List Analysis)), ∃ (A53 : Option Addr), ∃ (c54 : Nat), ∃ (cs55 : List Value), k51 t_52 = some r ∧ St (⟨Try.f9.ntmps, M, noB, w0⟩ : Ctx) [(0, .slice (Ap01) ((t_).length) (cp01)), (1, .slice (Ap11) ((t_').length) (cp11)), (2, .slice (Ap21) ((t_'').length) (cp21)), (7, .slice (A53) ((t_52).length) (c54)), (8, .slice (A39) ((t_38).length) (c40)), (9, .slice (Au24a1) ((r20).length) (cu24a1)), (10, .int .i64 (((t_42 : Nat) : Int)))] [(700112, Ob.row (A39) ((t_38).length) (c40) 35 2 (cs41)), (700116, Ob.row (A53) ((t_52).length) (c54) 35 2 (cs55))] [(101, slF REntry (Ap01) ((t_).length) (cp01) (t_)), (102, slF RLexRule (Ap11) ((t_').length) (cp11) (t_')), (103, slF Rep.str (Ap21) ((t_'').length) (cp21) (t_'')), (105, slF RAnalysis (Au24a1) ((r20).length) (cu24a1) (r20)), (113, rdF RAnalysis (cs41) (t_38)), (117, rdF RAnalysis (cs55) (t_52))] a w) ?_ ?_
        · refine c_dec hS rfl (fun hc56 => ?_) (fun hc56 => ?_)
          · replace hg := br_t hg hc56
            replace hg := chk_some hg; obtain ⟨hk60, hg⟩ := hg
            apply wp_region_lit
            refine q_seq hS rfl rfl rfl (y_move hS rfl) ?_; clear hS a; intro a hS
            refine q_seq hS rfl rfl rfl (y_move hS rfl) ?_; clear hS a; intro a hS
            refine q_seq hS rfl rfl rfl (y_move hS rfl) ?_; clear hS a; intro a hS
            obtain ⟨p63, hep63, hpp63⟩ := SlR.elemX (hS.fact (k := 105) rfl) hx46
            refine q_seq hS rfl rfl rfl (y_elem (sz := 2) (i := t_42) hS rfl rfl Try.underlying41 rfl hep63 rfl (lt_of_get hx46)) ?_; clear hS a; intro a hS
            obtain ⟨hlq64, hmq64, csq64, hdq64, hcq64⟩ := hpp63
            obtain ⟨Aq642, cq642, rfl, hq642⟩ := RAnalysis.open hdq64
            replace hS := hS.add 121 (slF (Rep.num .i64) (Aq642) ((x46.Rules).length) (cq642) (x46.Rules)) hq642
            refine q_seq hS rfl rfl rfl (y_ldp hS rfl hlq64 hmq64 (by simpa using hcq64) Try.underlying35 rfl rfl) ?_; clear hS a; intro a hS
            refine l_seq rfl (l_buildDense (sz := 2) hS 1905 rfl rfl rfl Try.underlying41 rfl rfl rfl rfl rfl rfl rfl ?_); clear hS a; intro b65 a w hbb65 hK hS
            clear hbb65
            clear hK
            replace hS := hS.add 122 (rdF RAnalysis (cellsOfL [.agg #[.int .i64 (x46.Entry), .slice (Aq642) ((x46.Rules).length) (cq642)]]) ([x46])) (RdAll.cons (by exact (RAnalysis.mk' (x := x46) (hS.fact (k := 121) rfl))) (RdAll.nil _ _ _))
            have hs67 := row_src (hS.wd.holds 1905 _ rfl) (RdAll.one (hS.fact (k := 122) rfl))
            refine l_seq rfl (l_append (sz := 2) (by_ := 32) (N := (t_34 ++ [x46]).length) (ys := cs37 ++ (cellsOfL [.agg #[.int .i64 (x46.Entry), .slice (Aq642) ((x46.Rules).length) (cq642)]])) hS 700110 rfl rfl rfl Try.underlying41 rfl rfl rfl rfl rfl hs67 (by simp) rfl (by have hr := hk60; clear hg; first | omega | (simp only [List.length_append, List.length_cons, List.length_nil] at hr ⊢; omega) | (simp at hr ⊢; omega)) (by have hr := hk60; clear hg; first | omega | (simp only [List.length_append, List.length_cons, List.length_nil] at hr ⊢; omega) | (simp at hr ⊢; omega)) rfl ?_); clear hS a; intro Aq66 cq66 a w hA hK hS
            clear hK hA
            replace hS := hS.add 123 (rdF RAnalysis (cs37 ++ (cellsOfL [.agg #[.int .i64 (x46.Entry), .slice (Aq642) ((x46.Rules).length) (cq642)]])) (t_34 ++ [x46])) (RdAll.append (hS.fact (k := 111) rfl) (hS.fact (k := 122) rfl))
            refine q_seq hS rfl rfl rfl (y_assign hS rfl) ?_; clear hS a; intro a hS
            apply wpList_nil
            refine p_norm ?_
            replace hS := hS.add 117 (rdF RAnalysis (cs37 ++ (cellsOfL [.agg #[.int .i64 (x46.Entry), .slice (Aq642) ((x46.Rules).length) (cq642)]])) (t_34 ++ [x46])) (hS.fact (k := 123) rfl)
            replace hS := hS.ren [(1905, Ob.row (some ⟨b65, 0, none⟩) (1) (1) 35 2 (cellsOfL [.agg #[.int .i64 (x46.Entry), .slice (Aq642) ((x46.Rules).length) (cq642)]])), (700112, Ob.row (A39) ((t_38).length) (c40) 35 2 (cs41)), (700116, Ob.row (Aq66) ((t_34 ++ [x46]).length) (cq66) 35 2 (cs37 ++ (cellsOfL [.agg #[.int .i64 (x46.Entry), .slice (Aq642) ((x46.Rules).length) (cq642)]])))] [1905, 700112, 700110] ⟨rfl, rfl, rfl, trivial⟩ (by decide)
            exact ⟨(t_34 ++ [x46]), (Aq66), (cq66), (cs37 ++ (cellsOfL [.agg #[.int .i64 (x46.Entry), .slice (Aq642) ((x46.Rules).length) (cq642)]])), hg, (hS.sub ⟨rfl, rfl, rfl, rfl, rfl, rfl, rfl, trivial⟩ ⟨rfl, rfl, trivial⟩ ⟨rfl, rfl, rfl, rfl, rfl, rfl, trivial⟩)⟩
          · replace hg := br_f hg hc56
            apply wp_skip
            refine p_norm ?_
            replace hS := hS.add 117 (rdF RAnalysis (cs37) (t_34)) (hS.fact (k := 111) rfl)
            replace hS := hS.ren [(700112, Ob.row (A39) ((t_38).length) (c40) 35 2 (cs41)), (700116, Ob.row (A35) ((t_34).length) (c36) 35 2 (cs37))] [700112, 700110] ⟨rfl, rfl, trivial⟩ (by decide)
            exact ⟨(t_34), (A35), (c36), (cs37), hg, (hS.sub ⟨rfl, rfl, rfl, rfl, rfl, rfl, rfl, trivial⟩ ⟨rfl, rfl, trivial⟩ ⟨rfl, rfl, rfl, rfl, rfl, rfl, trivial⟩)⟩
        clear hS a; rintro a w ⟨t_52, A53, c54, cs55, hg, hS⟩
        subst hk51
        apply wp_seq
        apply wp_region_lit
        refine q_seq hS rfl rfl rfl (y_assign hS rfl) ?_; clear hS a; intro a hS
        apply wpList_nil
        refine p_norm ?_
        apply wp_seq
        apply wp_seq
        apply wp_region_lit
        refine q_seq hS rfl rfl rfl (y_assign hS rfl) ?_; clear hS a; intro a hS
        apply wpList_nil
        refine p_norm ?_
        replace hg := jn_some hg; obtain ⟨k68, hg, hk68⟩ := hg
        refine c_post (fun a w => ∃ (t_69 : Bool), k68 t_69 = some r ∧ St (⟨Try.f9.ntmps, M, noB, w0⟩ : Ctx) [(0, .slice (Ap01) ((t_).length) (cp01)), (1, .slice (Ap11) ((t_').length) (cp11)), (2, .slice (Ap21) ((t_'').length) (cp21)), (7, .slice (A53) ((t_52).length) (c54)), (8, .slice (A39) ((t_38).length) (c40)), (9, .slice (Au24a1) ((r20).length) (cu24a1)), (10, .int .i64 (((t_42 : Nat) : Int))), (11, .bool (t_69))] [(700112, Ob.row (A39) ((t_38).length) (c40) 35 2 (cs41)), (700116, Ob.row (A53) ((t_52).length) (c54) 35 2 (cs55))] [(101, slF REntry (Ap01) ((t_).length) (cp01) (t_)), (102, slF RLexRule (Ap11) ((t_').length) (cp11) (t_')), (103, slF Rep.str (Ap21) ((t_'').length) (cp21) (t_'')), (105, slF RAnalysis (Au24a1) ((r20).length) (cu24a1) (r20)), (113, rdF RAnalysis (cs41) (t_38)), (117, rdF RAnalysis (cs55) (t_52))] a w) ?_ ?_
        · apply wp_block
          refine c_loop (σ := Nat) (fun m2 a w => ∃ (t_70 : Bool), ∃ (t_71 : Nat), law24_LexiconGrows_L1 n t_' x46 k68 m2 t_70 t_71 = some r ∧ St (⟨Try.f9.ntmps, M, noB, w0⟩ : Ctx) [(0, .slice (Ap01) ((t_).length) (cp01)), (1, .slice (Ap11) ((t_').length) (cp11)), (2, .slice (Ap21) ((t_'').length) (cp21)), (7, .slice (A53) ((t_52).length) (c54)), (8, .slice (A39) ((t_38).length) (c40)), (9, .slice (Au24a1) ((r20).length) (cu24a1)), (10, .int .i64 (((t_42 : Nat) : Int))), (11, .bool (t_70)), (12, .int .i64 (((t_71 : Nat) : Int)))] [(700112, Ob.row (A39) ((t_38).length) (c40) 35 2 (cs41)), (700116, Ob.row (A53) ((t_52).length) (c54) 35 2 (cs55))] [(101, slF REntry (Ap01) ((t_).length) (cp01) (t_)), (102, slF RLexRule (Ap11) ((t_').length) (cp11) (t_')), (103, slF Rep.str (Ap21) ((t_'').length) (cp21) (t_'')), (105, slF RAnalysis (Au24a1) ((r20).length) (cu24a1) (r20)), (113, rdF RAnalysis (cs41) (t_38)), (117, rdF RAnalysis (cs55) (t_52))] a w) (fun m2 => m2) n ⟨(false), (0), hg, (hS.sub ⟨rfl, rfl, rfl, rfl, rfl, rfl, rfl, rfl, rfl, trivial⟩ ⟨rfl, rfl, trivial⟩ ⟨rfl, rfl, rfl, rfl, rfl, rfl, trivial⟩)⟩ ?_
          clear hS a; rintro m2 a w ⟨t_70, t_71, hg, hS⟩
          rcases m2 with _ | m2
          · rw [law24_LexiconGrows_L1] at hg; cases hg
          rw [law24_LexiconGrows_L1] at hg
          apply wp_seq
          apply wp_seq
          apply wp_region_lit
          refine q_seq hS rfl rfl rfl (y_move hS rfl) ?_; clear hS a; intro a hS
          refine q_seq hS rfl rfl rfl (y_move hS rfl) ?_; clear hS a; intro a hS
          refine q_seq hS rfl rfl rfl (y_move hS rfl) ?_; clear hS a; intro a hS
          obtain ⟨p74, hep74, hpp74⟩ := SlR.elemX (hS.fact (k := 105) rfl) hx46
          refine q_seq hS rfl rfl rfl (y_elem (sz := 2) (i := t_42) hS rfl rfl Try.underlying41 rfl hep74 rfl (lt_of_get hx46)) ?_; clear hS a; intro a hS
          refine q_seq hS rfl rfl rfl (y_ptrField (o' := 1) hS rfl Try.underlying35 rfl rfl rfl) ?_; clear hS a; intro a hS
          obtain ⟨hlq75, hmq75, csq75, hdq75, hcq75⟩ := hpp74
          obtain ⟨Aq752, cq752, rfl, hq752⟩ := RAnalysis.open hdq75
          replace hS := hS.add 125 (slF (Rep.num .i64) (Aq752) ((x46.Rules).length) (cq752) (x46.Rules)) hq752
          refine q_seq hS rfl rfl rfl (y_ldp1 hS rfl hlq75 hmq75 (hcq75 1 _ rfl) Try.underlying30 rfl) ?_; clear hS a; intro a hS
          refine q_seq hS rfl rfl rfl (y_lenSlice hS rfl Try.underlying30) ?_; clear hS a; intro a hS
          refine q_seq hS rfl rfl rfl (y_lssN (i := t_71) (j := ((x46.Rules).length)) hS rfl rfl) ?_; clear hS a; intro a hS
          apply wpList_nil
          refine p_norm ?_
          refine c_dec hS rfl (fun hc76 => ?_) (fun hc76 => ?_)
          · replace hg := br_t hg hc76
            have hmx77 := SlR.mx (hS.fact (k := 125) rfl)
            apply wp_skip
            refine p_norm ?_
            apply wp_seq
            apply wp_block
            rcases Bool.eq_false_or_eq_true (t_70) with hs78 | hs78
            · replace hg := br_t hg hs78
              apply wp_region_lit
              refine q_seq hS rfl rfl rfl (yl_b (y_move hS rfl) hs78) ?_; clear hS a; intro a hS
              refine q_seq hS rfl rfl rfl (y_move hS rfl) ?_; clear hS a; intro a hS
              refine g_no hS rfl rfl rfl rfl rfl rfl rfl ?_; clear hS a; intro a hS
              refine g_no hS rfl rfl rfl rfl rfl rfl rfl ?_; clear hS a; intro a hS
              refine g_no hS rfl rfl rfl rfl rfl rfl rfl ?_; clear hS a; intro a hS
              refine g_no hS rfl rfl rfl rfl rfl rfl rfl ?_; clear hS a; intro a hS
              refine g_no hS rfl rfl rfl rfl rfl rfl rfl ?_; clear hS a; intro a hS
              refine g_no hS rfl rfl rfl rfl rfl rfl rfl ?_; clear hS a; intro a hS
              refine g_no hS rfl rfl rfl rfl rfl rfl rfl ?_; clear hS a; intro a hS
              refine g_no hS rfl rfl rfl rfl rfl rfl rfl ?_; clear hS a; intro a hS
              refine g_no hS rfl rfl rfl rfl rfl rfl rfl ?_; clear hS a; intro a hS
              refine g_no hS rfl rfl rfl rfl rfl rfl rfl ?_; clear hS a; intro a hS
              refine g_no hS rfl rfl rfl rfl rfl rfl rfl ?_; clear hS a; intro a hS
              refine g_no hS rfl rfl rfl rfl rfl rfl rfl ?_; clear hS a; intro a hS
              refine q_seq hS rfl rfl rfl (y_pick_t hS rfl rfl) ?_; clear hS a; intro a hS
              refine q_seq hS rfl rfl rfl (y_assign hS rfl) ?_; clear hS a; intro a hS
              apply wpList_nil
              refine p_inN ?_
              refine p_norm ?_
              apply wp_region_lit
              refine q_seq hS rfl rfl rfl (y_move hS rfl) ?_; clear hS a; intro a hS
              refine q_seq hS rfl rfl rfl (y_addN (i := t_71) (j := 1) hS rfl rfl (in64.2 (by omega))) ?_; clear hS a; intro a hS
              refine q_seq hS rfl rfl rfl (y_assign hS rfl) ?_; clear hS a; intro a hS
              apply wpList_nil
              refine p_norm ?_
              exact ⟨m2, Nat.lt_succ_self _, ⟨(true), (t_71 + 1), hg, (hS.sub ⟨rfl, rfl, rfl, rfl, rfl, rfl, rfl, rfl, rfl, trivial⟩ ⟨rfl, rfl, trivial⟩ ⟨rfl, rfl, rfl, rfl, rfl, rfl, trivial⟩)⟩⟩
            · replace hg := br_f hg (by rw [hs78]; exact Bool.false_ne_true)
              replace hg := bind_some hg; obtain ⟨x82, hx82, hg⟩ := hg
              apply wp_region_lit
              refine q_seq hS rfl rfl rfl (yl_b (y_move hS rfl) hs78) ?_; clear hS a; intro a hS
              refine q_seq hS rfl rfl rfl (y_move hS rfl) ?_; clear hS a; intro a hS
              refine g_yes hS rfl rfl rfl rfl (l_quiet hS rfl rfl (y_move hS rfl) ?_); clear hS a; intro a hS
              refine g_yes hS rfl rfl rfl rfl (l_quiet hS rfl rfl (y_move hS rfl) ?_); clear hS a; intro a hS
              obtain ⟨p84, hep84, hpp84⟩ := SlR.elemX (hS.fact (k := 105) rfl) hx46
              refine g_yes hS rfl rfl rfl rfl (l_quiet hS rfl rfl (y_elem (sz := 2) (i := t_42) hS rfl rfl Try.underlying41 rfl hep84 rfl (lt_of_get hx46)) ?_); clear hS a; intro a hS
              refine g_yes hS rfl rfl rfl rfl (l_quiet hS rfl rfl (y_ptrField (o' := 1) hS rfl Try.underlying35 rfl rfl rfl) ?_); clear hS a; intro a hS
              obtain ⟨hlq85, hmq85, csq85, hdq85, hcq85⟩ := hpp84
              obtain ⟨Aq852, cq852, rfl, hq852⟩ := RAnalysis.open hdq85
              replace hS := hS.add 127 (slF (Rep.num .i64) (Aq852) ((x46.Rules).length) (cq852) (x46.Rules)) hq852
              refine g_yes hS rfl rfl rfl rfl (l_quiet hS rfl rfl (y_ldp1 hS rfl hlq85 hmq85 (hcq85 1 _ rfl) Try.underlying30 rfl) ?_); clear hS a; intro a hS
              refine g_yes hS rfl rfl rfl rfl (l_quiet hS rfl rfl (y_move hS rfl) ?_); clear hS a; intro a hS
              obtain ⟨p86, hep86, hpp86⟩ := SlR.elemX (hS.fact (k := 127) rfl) hx82
              refine g_yes hS rfl rfl rfl rfl (l_quiet hS rfl rfl (y_elem (sz := 1) (i := t_71) hS rfl rfl Try.underlying30 rfl hep86 rfl (lt_of_get hx82)) ?_); clear hS a; intro a hS
              obtain ⟨hlq87, hmq87, csq87, hdq87, hcq87⟩ := hpp86
              obtain rfl := hdq87
              refine g_yes hS rfl rfl rfl rfl (l_quiet hS rfl rfl (y_ldp1 hS rfl hlq87 hmq87 (hcq87 0 _ rfl) Try.underlying3 rfl) ?_); clear hS a; intro a hS
              refine g_yes hS rfl rfl rfl rfl (l_quiet hS rfl rfl (y_move hS rfl) ?_); clear hS a; intro a hS
              refine g_yes hS rfl rfl rfl rfl (l_quiet hS rfl rfl (y_lenSlice hS rfl Try.underlying33) ?_); clear hS a; intro a hS
              have hmx88 := SlR.mx (hS.fact (k := 102) rfl)
              refine g_yes hS rfl rfl rfl rfl (l_quiet hS rfl rfl (y_sub hS rfl rfl (in64.2 (by omega))) ?_); clear hS a; intro a hS
              refine g_yes hS rfl rfl rfl rfl (l_quiet hS rfl rfl (y_eql hS rfl rfl) ?_); clear hS a; intro a hS
              refine q_seq hS rfl rfl rfl (y_pick_f hS rfl rfl) ?_; clear hS a; intro a hS
              refine q_seq hS rfl rfl rfl (y_assign hS rfl) ?_; clear hS a; intro a hS
              apply wpList_nil
              refine p_inN ?_
              refine p_norm ?_
              apply wp_region_lit
              refine q_seq hS rfl rfl rfl (y_move hS rfl) ?_; clear hS a; intro a hS
              refine q_seq hS rfl rfl rfl (y_addN (i := t_71) (j := 1) hS rfl rfl (in64.2 (by omega))) ?_; clear hS a; intro a hS
              refine q_seq hS rfl rfl rfl (y_assign hS rfl) ?_; clear hS a; intro a hS
              apply wpList_nil
              refine p_norm ?_
              exact ⟨m2, Nat.lt_succ_self _, ⟨(decide (x82 = ((((t_').length : Nat) : Int) - 1))), (t_71 + 1), hg, (hS.sub ⟨rfl, rfl, rfl, rfl, rfl, rfl, rfl, rfl, rfl, trivial⟩ ⟨rfl, rfl, trivial⟩ ⟨rfl, rfl, rfl, rfl, rfl, rfl, trivial⟩)⟩⟩
          · replace hg := br_f hg hc76
            apply wp_exit
            refine p_then ?_
            refine p_then ?_
            refine p_in ?_
            refine p_norm ?_
            exact ⟨(t_70), hg, (hS.sub ⟨rfl, rfl, rfl, rfl, rfl, rfl, rfl, rfl, trivial⟩ ⟨rfl, rfl, trivial⟩ ⟨rfl, rfl, rfl, rfl, rfl, rfl, trivial⟩)⟩
        clear hS a; rintro a w ⟨t_69, hg, hS⟩
        subst hk68
        apply wp_seq
        apply wp_region_lit
        refine q_seq hS rfl rfl rfl (y_move hS rfl) ?_; clear hS a; intro a hS
        refine q_seq hS rfl rfl rfl (y_not hS rfl) ?_; clear hS a; intro a hS
        apply wpList_nil
        refine p_norm ?_
        refine c_cond hS rfl (fun hc89 => ?_) (fun hc89 => ?_)
        · replace hg := br_t hg hc89
          replace hg := chk_some hg; obtain ⟨hk93, hg⟩ := hg
          apply wp_region_lit
          refine q_seq hS rfl rfl rfl (y_move hS rfl) ?_; clear hS a; intro a hS
          refine q_seq hS rfl rfl rfl (y_move hS rfl) ?_; clear hS a; intro a hS
          refine q_seq hS rfl rfl rfl (y_move hS rfl) ?_; clear hS a; intro a hS
          obtain ⟨p96, hep96, hpp96⟩ := SlR.elemX (hS.fact (k := 105) rfl) hx46
          refine q_seq hS rfl rfl rfl (y_elem (sz := 2) (i := t_42) hS rfl rfl Try.underlying41 rfl hep96 rfl (lt_of_get hx46)) ?_; clear hS a; intro a hS
          obtain ⟨hlq97, hmq97, csq97, hdq97, hcq97⟩ := hpp96
          obtain ⟨Aq972, cq972, rfl, hq972⟩ := RAnalysis.open hdq97
          replace hS := hS.add 131 (slF (Rep.num .i64) (Aq972) ((x46.Rules).length) (cq972) (x46.Rules)) hq972
          refine q_seq hS rfl rfl rfl (y_ldp hS rfl hlq97 hmq97 (by simpa using hcq97) Try.underlying35 rfl rfl) ?_; clear hS a; intro a hS
          refine l_seq rfl (l_buildDense (sz := 2) hS 2605 rfl rfl rfl Try.underlying41 rfl rfl rfl rfl rfl rfl rfl ?_); clear hS a; intro b98 a w hbb98 hK hS
          clear hbb98
          clear hK
          replace hS := hS.add 132 (rdF RAnalysis (cellsOfL [.agg #[.int .i64 (x46.Entry), .slice (Aq972) ((x46.Rules).length) (cq972)]]) ([x46])) (RdAll.cons (by exact (RAnalysis.mk' (x := x46) (hS.fact (k := 131) rfl))) (RdAll.nil _ _ _))
          have hs100 := row_src (hS.wd.holds 2605 _ rfl) (RdAll.one (hS.fact (k := 132) rfl))
          refine l_seq rfl (l_append (sz := 2) (by_ := 32) (N := (t_38 ++ [x46]).length) (ys := cs41 ++ (cellsOfL [.agg #[.int .i64 (x46.Entry), .slice (Aq972) ((x46.Rules).length) (cq972)]])) hS 700112 rfl rfl rfl Try.underlying41 rfl rfl rfl rfl rfl hs100 (by simp) rfl (by have hr := hk93; clear hg; first | omega | (simp only [List.length_append, List.length_cons, List.length_nil] at hr ⊢; omega) | (simp at hr ⊢; omega)) (by have hr := hk93; clear hg; first | omega | (simp only [List.length_append, List.length_cons, List.length_nil] at hr ⊢; omega) | (simp at hr ⊢; omega)) rfl ?_); clear hS a; intro Aq99 cq99 a w hA hK hS
          clear hK hA
          replace hS := hS.add 133 (rdF RAnalysis (cs41 ++ (cellsOfL [.agg #[.int .i64 (x46.Entry), .slice (Aq972) ((x46.Rules).length) (cq972)]])) (t_38 ++ [x46])) (RdAll.append (hS.fact (k := 113) rfl) (hS.fact (k := 132) rfl))
          refine q_seq hS rfl rfl rfl (y_assign hS rfl) ?_; clear hS a; intro a hS
          apply wpList_nil
          refine p_inN ?_
          refine p_norm ?_
          apply wp_region_lit
          refine q_seq hS rfl rfl rfl (y_move hS rfl) ?_; clear hS a; intro a hS
          refine q_seq hS rfl rfl rfl (y_addN (i := t_42) (j := 1) hS rfl rfl (in64.2 (by omega))) ?_; clear hS a; intro a hS
          refine q_seq hS rfl rfl rfl (y_assign hS rfl) ?_; clear hS a; intro a hS
          apply wpList_nil
          refine p_norm ?_
          replace hS := hS.add 111 (rdF RAnalysis (cs55) (t_52)) (hS.fact (k := 117) rfl)
          replace hS := hS.ren [(2605, Ob.row (some ⟨b98, 0, none⟩) (1) (1) 35 2 (cellsOfL [.agg #[.int .i64 (x46.Entry), .slice (Aq972) ((x46.Rules).length) (cq972)]])), (700110, Ob.row (A53) ((t_52).length) (c54) 35 2 (cs55)), (700112, Ob.row (Aq99) ((t_38 ++ [x46]).length) (cq99) 35 2 (cs41 ++ (cellsOfL [.agg #[.int .i64 (x46.Entry), .slice (Aq972) ((x46.Rules).length) (cq972)]])))] [2605, 700116, 700112] ⟨rfl, rfl, rfl, trivial⟩ (by decide)
          replace hS := hS.add 113 (rdF RAnalysis (cs41 ++ (cellsOfL [.agg #[.int .i64 (x46.Entry), .slice (Aq972) ((x46.Rules).length) (cq972)]])) (t_38 ++ [x46])) (hS.fact (k := 133) rfl)
          exact ⟨m1, Nat.lt_succ_self _, ⟨(t_52), (t_38 ++ [x46]), (t_42 + 1), (A53), (c54), (cs55), (Aq99), (cq99), (cs41 ++ (cellsOfL [.agg #[.int .i64 (x46.Entry), .slice (Aq972) ((x46.Rules).length) (cq972)]])), hg, (hS.sub ⟨rfl, rfl, rfl, rfl, rfl, rfl, rfl, trivial⟩ ⟨rfl, rfl, trivial⟩ ⟨rfl, rfl, rfl, rfl, rfl, rfl, trivial⟩)⟩⟩
        · replace hg := br_f hg (by rw [hc89]; exact Bool.false_ne_true)
          apply wp_skip
          refine p_inN ?_
          refine p_norm ?_
          apply wp_region_lit
          refine q_seq hS rfl rfl rfl (y_move hS rfl) ?_; clear hS a; intro a hS
          refine q_seq hS rfl rfl rfl (y_addN (i := t_42) (j := 1) hS rfl rfl (in64.2 (by omega))) ?_; clear hS a; intro a hS
          refine q_seq hS rfl rfl rfl (y_assign hS rfl) ?_; clear hS a; intro a hS
          apply wpList_nil
          refine p_norm ?_
          replace hS := hS.add 111 (rdF RAnalysis (cs55) (t_52)) (hS.fact (k := 117) rfl)
          replace hS := hS.ren [(700110, Ob.row (A53) ((t_52).length) (c54) 35 2 (cs55)), (700112, Ob.row (A39) ((t_38).length) (c40) 35 2 (cs41))] [700116, 700112] ⟨rfl, rfl, trivial⟩ (by decide)
          replace hS := hS.add 113 (rdF RAnalysis (cs41) (t_38)) (hS.fact (k := 113) rfl)
          exact ⟨m1, Nat.lt_succ_self _, ⟨(t_52), (t_38), (t_42 + 1), (A53), (c54), (cs55), (A39), (c40), (cs41), hg, (hS.sub ⟨rfl, rfl, rfl, rfl, rfl, rfl, rfl, trivial⟩ ⟨rfl, rfl, trivial⟩ ⟨rfl, rfl, rfl, rfl, rfl, rfl, trivial⟩)⟩⟩
      · replace hg := br_f hg hc43
        apply wp_exit
        refine p_then ?_
        refine p_then ?_
        refine p_in ?_
        refine p_norm ?_
        replace hS := hS.add 107 (rdF RAnalysis (cs37) (t_34)) (hS.fact (k := 111) rfl)
        replace hS := hS.ren [(700106, Ob.row (A35) ((t_34).length) (c36) 35 2 (cs37)), (700112, Ob.row (A39) ((t_38).length) (c40) 35 2 (cs41))] [700110, 700112] ⟨rfl, rfl, trivial⟩ (by decide)
        replace hS := hS.add 109 (rdF RAnalysis (cs41) (t_38)) (hS.fact (k := 113) rfl)
        replace hS := hS.ren [(700106, Ob.row (A35) ((t_34).length) (c36) 35 2 (cs37)), (700108, Ob.row (A39) ((t_38).length) (c40) 35 2 (cs41))] [700106, 700112] ⟨rfl, rfl, trivial⟩ (by decide)
        exact ⟨(t_34), (t_38), (A35), (c36), (cs37), (A39), (c40), (cs41), hg, (hS.sub ⟨rfl, rfl, rfl, rfl, rfl, trivial⟩ ⟨rfl, rfl, trivial⟩ ⟨rfl, rfl, rfl, rfl, rfl, trivial⟩)⟩
    clear hS a; rintro a w ⟨t_26, t_30, A27, c28, cs29, A31, c32, cs33, hg, hS⟩
    subst hk25
    apply wp_seq
    replace hg := chk_some hg; obtain ⟨hk101, hg⟩ := hg
    replace hg := chk_some hg; obtain ⟨hk102, hg⟩ := hg
    replace hg := bind_some hg; obtain ⟨r103, hr103, hg⟩ := hg
    replace hg := bind_some hg; obtain ⟨r106, hr106, hg⟩ := hg
    rcases Bool.eq_false_or_eq_true (r106) with hs109 | hs109
    · replace hg := br_t hg hs109
      replace hg := chk_some hg; obtain ⟨hk110, hg⟩ := hg
      replace hg := chk_some hg; obtain ⟨hk111, hg⟩ := hg
      replace hg := bind_some hg; obtain ⟨r112, hr112, hg⟩ := hg
      replace hg := bind_some hg; obtain ⟨r115, hr115, hg⟩ := hg
      rcases Bool.eq_false_or_eq_true (r115) with hs118 | hs118
      · replace hg := br_t hg hs118
        replace hg := bind_some hg; obtain ⟨r119, hr119, hg⟩ := hg
        apply wp_region_lit
        refine q_seq hS rfl rfl rfl (y_move hS rfl) ?_; clear hS a; intro a hS
        refine q_seq hS rfl rfl rfl (y_move hS rfl) ?_; clear hS a; intro a hS
        refine q_seq hS rfl rfl rfl (y_lenSlice hS rfl Try.underlying22) ?_; clear hS a; intro a hS
        have hmx122 := SlR.mx (hS.fact (k := 101) rfl)
        refine q_seq hS rfl rfl rfl (y_sub hS rfl rfl (in64.2 (by omega))) ?_; clear hS a; intro a hS
        have hcap140 := (hS.fact (k := 101) rfl).cap
        refine q_seq hS rfl rfl rfl (y_cutH (xs := t_) (sz := 3) (i := (((((t_).length : Nat) : Int) - 1).toNat)) hS rfl rfl Try.underlying22 rfl (by omega) hk102 hcap140) ?_; clear hS a; intro a hS
        replace hS := hS.add 140 (slF REntry (Ap01) (((t_).take (((((t_).length : Nat) : Int) - 1).toNat)).length) (cp01) ((t_).take (((((t_).length : Nat) : Int) - 1).toNat))) (SlR.cutH (hS.fact (k := 101) rfl) (((((t_).length : Nat) : Int) - 1).toNat) hk102)
        refine q_seq hS rfl rfl rfl (y_move hS rfl) ?_; clear hS a; intro a hS
        refine q_seq hS rfl rfl rfl (y_move hS rfl) ?_; clear hS a; intro a hS
        refine l_seq rfl (l_call (cap := []) hS rfl Try.func22 rfl (by kernel_rfl) rfl rfl (c_lexicon_Analyses n _ _ hS.lt ((t_).take (((((t_).length : Nat) : Int) - 1).toNat)) (Ap01) (cp01) (hS.fact (k := 140) rfl) t_' (Ap11) (cp11) (hS.fact (k := 102) rfl) t_'' (Ap21) (cp21) (hS.fact (k := 103) rfl) r103 hr103) ?_); clear hS a; intro v123 a w hK hp hS
        clear hK
        obtain ⟨Au124a1, cu124a1, rfl, hu124a1⟩ := hp
        replace hS := hS.add 141 (slF RAnalysis (Au124a1) ((r103).length) (cu124a1) (r103)) hu124a1
        refine q_seq hS rfl rfl rfl (y_move hS rfl) ?_; clear hS a; intro a hS
        have hT := hS
        replace hT := hT.freeze (R := RAnalysis) (kk := 700106) (L' := [(700108, Ob.row (A31) ((t_30).length) (c32) 35 2 (cs33))]) 142 rfl rfl (hT.fact (k := 107) rfl) ⟨rfl, trivial⟩ rfl
        refine l_seq rfl (l_call (cap := []) hS rfl Try.func21 rfl (by kernel_rfl) rfl rfl (c_r24_SameAnalyses n _ _ hT.lt r103 (Au124a1) (cu124a1) (hT.fact (k := 141) rfl) t_26 (A27) (c28) (hT.fact (k := 142) rfl) r106 hr106) ?_); clear hS hT a; intro v125 a w hK hp hS
        clear hK
        obtain rfl := hp.trans (congrArg Value.bool hs109)
        refine q_seq hS rfl rfl rfl (y_move hS rfl) ?_; clear hS a; intro a hS
        refine g_yes hS rfl rfl rfl rfl (l_quiet hS rfl rfl (y_move hS rfl) ?_); clear hS a; intro a hS
        refine g_yes hS rfl rfl rfl rfl (l_quiet hS rfl rfl (y_move hS rfl) ?_); clear hS a; intro a hS
        refine g_yes hS rfl rfl rfl rfl (l_quiet hS rfl rfl (y_move hS rfl) ?_); clear hS a; intro a hS
        refine g_yes hS rfl rfl rfl rfl (l_quiet hS rfl rfl (y_lenSlice hS rfl Try.underlying33) ?_); clear hS a; intro a hS
        have hmx127 := SlR.mx (hS.fact (k := 102) rfl)
        refine g_yes hS rfl rfl rfl rfl (l_quiet hS rfl rfl (y_sub hS rfl rfl (in64.2 (by omega))) ?_); clear hS a; intro a hS
        have hcap143 := (hS.fact (k := 102) rfl).cap
        refine g_yes hS rfl rfl rfl rfl (l_quiet hS rfl rfl (y_cutH (xs := t_') (sz := 4) (i := (((((t_').length : Nat) : Int) - 1).toNat)) hS rfl rfl Try.underlying33 rfl (by omega) hk111 hcap143) ?_); clear hS a; intro a hS
        replace hS := hS.add 143 (slF RLexRule (Ap11) (((t_').take (((((t_').length : Nat) : Int) - 1).toNat)).length) (cp11) ((t_').take (((((t_').length : Nat) : Int) - 1).toNat))) (SlR.cutH (hS.fact (k := 102) rfl) (((((t_').length : Nat) : Int) - 1).toNat) hk111)
        refine g_yes hS rfl rfl rfl rfl (l_quiet hS rfl rfl (y_move hS rfl) ?_); clear hS a; intro a hS
        refine g_yes hS rfl rfl rfl rfl (l_call (cap := []) hS rfl Try.func22 rfl (by kernel_rfl) rfl rfl (c_lexicon_Analyses n _ _ hS.lt t_ (Ap01) (cp01) (hS.fact (k := 101) rfl) ((t_').take (((((t_').length : Nat) : Int) - 1).toNat)) (Ap11) (cp11) (hS.fact (k := 143) rfl) t_'' (Ap21) (cp21) (hS.fact (k := 103) rfl) r112 hr112) ?_); clear hS a; intro v128 a w hK hp hS
        clear hK
        obtain ⟨Au129a1, cu129a1, rfl, hu129a1⟩ := hp
        replace hS := hS.add 144 (slF RAnalysis (Au129a1) ((r112).length) (cu129a1) (r112)) hu129a1
        refine g_yes hS rfl rfl rfl rfl (l_quiet hS rfl rfl (y_move hS rfl) ?_); clear hS a; intro a hS
        have hT := hS
        replace hT := hT.freeze (R := RAnalysis) (kk := 700108) (L' := [(700106, Ob.row (A27) ((t_26).length) (c28) 35 2 (cs29))]) 145 rfl rfl (hT.fact (k := 109) rfl) ⟨rfl, trivial⟩ rfl
        refine g_yes hS rfl rfl rfl rfl (l_call (cap := []) hS rfl Try.func21 rfl (by kernel_rfl) rfl rfl (c_r24_SameAnalyses n _ _ hT.lt r112 (Au129a1) (cu129a1) (hT.fact (k := 144) rfl) t_30 (A31) (c32) (hT.fact (k := 145) rfl) r115 hr115) ?_); clear hS hT a; intro v130 a w hK hp hS
        clear hK
        obtain rfl := hp.trans (congrArg Value.bool hs118)
        refine q_seq hS rfl rfl rfl (y_pick_t hS rfl rfl) ?_; clear hS a; intro a hS
        refine q_seq hS rfl rfl rfl (y_move hS rfl) ?_; clear hS a; intro a hS
        refine g_yes hS rfl rfl rfl rfl (l_call (cap := []) hS rfl Try.func11 rfl (by kernel_rfl) rfl rfl (c_law24_exampleHolds n _ _ hS.lt  r119 hr119) ?_); clear hS a; intro v132 a w hK hp hS
        clear hK
        obtain rfl := hp
        refine q_seq hS rfl rfl rfl (y_pick_t hS rfl rfl) ?_; clear hS a; intro a hS
        refine q_seq hS rfl rfl rfl (y_assign hS rfl) ?_; clear hS a; intro a hS
        apply wpList_nil
        refine p_norm ?_
        apply wp_ret
        obtain rfl := Option.some.inj hg
        refine fin1 (fn := Try.f9) hS rfl (r_tmp hS rfl) ?_
        exact rfl
      · replace hg := br_f hg (by rw [hs118]; exact Bool.false_ne_true)
        apply wp_region_lit
        refine q_seq hS rfl rfl rfl (y_move hS rfl) ?_; clear hS a; intro a hS
        refine q_seq hS rfl rfl rfl (y_move hS rfl) ?_; clear hS a; intro a hS
        refine q_seq hS rfl rfl rfl (y_lenSlice hS rfl Try.underlying22) ?_; clear hS a; intro a hS
        have hmx134 := SlR.mx (hS.fact (k := 101) rfl)
        refine q_seq hS rfl rfl rfl (y_sub hS rfl rfl (in64.2 (by omega))) ?_; clear hS a; intro a hS
        have hcap146 := (hS.fact (k := 101) rfl).cap
        refine q_seq hS rfl rfl rfl (y_cutH (xs := t_) (sz := 3) (i := (((((t_).length : Nat) : Int) - 1).toNat)) hS rfl rfl Try.underlying22 rfl (by omega) hk102 hcap146) ?_; clear hS a; intro a hS
        replace hS := hS.add 146 (slF REntry (Ap01) (((t_).take (((((t_).length : Nat) : Int) - 1).toNat)).length) (cp01) ((t_).take (((((t_).length : Nat) : Int) - 1).toNat))) (SlR.cutH (hS.fact (k := 101) rfl) (((((t_).length : Nat) : Int) - 1).toNat) hk102)
        refine q_seq hS rfl rfl rfl (y_move hS rfl) ?_; clear hS a; intro a hS
        refine q_seq hS rfl rfl rfl (y_move hS rfl) ?_; clear hS a; intro a hS
        refine l_seq rfl (l_call (cap := []) hS rfl Try.func22 rfl (by kernel_rfl) rfl rfl (c_lexicon_Analyses n _ _ hS.lt ((t_).take (((((t_).length : Nat) : Int) - 1).toNat)) (Ap01) (cp01) (hS.fact (k := 146) rfl) t_' (Ap11) (cp11) (hS.fact (k := 102) rfl) t_'' (Ap21) (cp21) (hS.fact (k := 103) rfl) r103 hr103) ?_); clear hS a; intro v135 a w hK hp hS
        clear hK
        obtain ⟨Au136a1, cu136a1, rfl, hu136a1⟩ := hp
        replace hS := hS.add 147 (slF RAnalysis (Au136a1) ((r103).length) (cu136a1) (r103)) hu136a1
        refine q_seq hS rfl rfl rfl (y_move hS rfl) ?_; clear hS a; intro a hS
        have hT := hS
        replace hT := hT.freeze (R := RAnalysis) (kk := 700106) (L' := [(700108, Ob.row (A31) ((t_30).length) (c32) 35 2 (cs33))]) 148 rfl rfl (hT.fact (k := 107) rfl) ⟨rfl, trivial⟩ rfl
        refine l_seq rfl (l_call (cap := []) hS rfl Try.func21 rfl (by kernel_rfl) rfl rfl (c_r24_SameAnalyses n _ _ hT.lt r103 (Au136a1) (cu136a1) (hT.fact (k := 147) rfl) t_26 (A27) (c28) (hT.fact (k := 148) rfl) r106 hr106) ?_); clear hS hT a; intro v137 a w hK hp hS
        clear hK
        obtain rfl := hp.trans (congrArg Value.bool hs109)
        refine q_seq hS rfl rfl rfl (y_move hS rfl) ?_; clear hS a; intro a hS
        refine g_yes hS rfl rfl rfl rfl (l_quiet hS rfl rfl (y_move hS rfl) ?_); clear hS a; intro a hS
        refine g_yes hS rfl rfl rfl rfl (l_quiet hS rfl rfl (y_move hS rfl) ?_); clear hS a; intro a hS
        refine g_yes hS rfl rfl rfl rfl (l_quiet hS rfl rfl (y_move hS rfl) ?_); clear hS a; intro a hS
        refine g_yes hS rfl rfl rfl rfl (l_quiet hS rfl rfl (y_lenSlice hS rfl Try.underlying33) ?_); clear hS a; intro a hS
        have hmx139 := SlR.mx (hS.fact (k := 102) rfl)
        refine g_yes hS rfl rfl rfl rfl (l_quiet hS rfl rfl (y_sub hS rfl rfl (in64.2 (by omega))) ?_); clear hS a; intro a hS
        have hcap149 := (hS.fact (k := 102) rfl).cap
        refine g_yes hS rfl rfl rfl rfl (l_quiet hS rfl rfl (y_cutH (xs := t_') (sz := 4) (i := (((((t_').length : Nat) : Int) - 1).toNat)) hS rfl rfl Try.underlying33 rfl (by omega) hk111 hcap149) ?_); clear hS a; intro a hS
        replace hS := hS.add 149 (slF RLexRule (Ap11) (((t_').take (((((t_').length : Nat) : Int) - 1).toNat)).length) (cp11) ((t_').take (((((t_').length : Nat) : Int) - 1).toNat))) (SlR.cutH (hS.fact (k := 102) rfl) (((((t_').length : Nat) : Int) - 1).toNat) hk111)
        refine g_yes hS rfl rfl rfl rfl (l_quiet hS rfl rfl (y_move hS rfl) ?_); clear hS a; intro a hS
        refine g_yes hS rfl rfl rfl rfl (l_call (cap := []) hS rfl Try.func22 rfl (by kernel_rfl) rfl rfl (c_lexicon_Analyses n _ _ hS.lt t_ (Ap01) (cp01) (hS.fact (k := 101) rfl) ((t_').take (((((t_').length : Nat) : Int) - 1).toNat)) (Ap11) (cp11) (hS.fact (k := 149) rfl) t_'' (Ap21) (cp21) (hS.fact (k := 103) rfl) r112 hr112) ?_); clear hS a; intro v140 a w hK hp hS
        clear hK
        obtain ⟨Au141a1, cu141a1, rfl, hu141a1⟩ := hp
        replace hS := hS.add 150 (slF RAnalysis (Au141a1) ((r112).length) (cu141a1) (r112)) hu141a1
        refine g_yes hS rfl rfl rfl rfl (l_quiet hS rfl rfl (y_move hS rfl) ?_); clear hS a; intro a hS
        have hT := hS
        replace hT := hT.freeze (R := RAnalysis) (kk := 700108) (L' := [(700106, Ob.row (A27) ((t_26).length) (c28) 35 2 (cs29))]) 151 rfl rfl (hT.fact (k := 109) rfl) ⟨rfl, trivial⟩ rfl
        refine g_yes hS rfl rfl rfl rfl (l_call (cap := []) hS rfl Try.func21 rfl (by kernel_rfl) rfl rfl (c_r24_SameAnalyses n _ _ hT.lt r112 (Au141a1) (cu141a1) (hT.fact (k := 150) rfl) t_30 (A31) (c32) (hT.fact (k := 151) rfl) r115 hr115) ?_); clear hS hT a; intro v142 a w hK hp hS
        clear hK
        obtain rfl := hp.trans (congrArg Value.bool hs118)
        refine q_seq hS rfl rfl rfl (y_pick_t hS rfl rfl) ?_; clear hS a; intro a hS
        refine q_seq hS rfl rfl rfl (y_move hS rfl) ?_; clear hS a; intro a hS
        refine g_no hS rfl rfl rfl rfl rfl rfl rfl ?_; clear hS a; intro a hS
        refine q_seq hS rfl rfl rfl (y_pick_f hS rfl rfl) ?_; clear hS a; intro a hS
        refine q_seq hS rfl rfl rfl (y_assign hS rfl) ?_; clear hS a; intro a hS
        apply wpList_nil
        refine p_norm ?_
        apply wp_ret
        obtain rfl := Option.some.inj hg
        refine fin1 (fn := Try.f9) hS rfl (r_tmp hS rfl) ?_
        exact rfl
    · replace hg := br_f hg (by rw [hs109]; exact Bool.false_ne_true)
      apply wp_region_lit
      refine q_seq hS rfl rfl rfl (y_move hS rfl) ?_; clear hS a; intro a hS
      refine q_seq hS rfl rfl rfl (y_move hS rfl) ?_; clear hS a; intro a hS
      refine q_seq hS rfl rfl rfl (y_lenSlice hS rfl Try.underlying22) ?_; clear hS a; intro a hS
      have hmx144 := SlR.mx (hS.fact (k := 101) rfl)
      refine q_seq hS rfl rfl rfl (y_sub hS rfl rfl (in64.2 (by omega))) ?_; clear hS a; intro a hS
      have hcap152 := (hS.fact (k := 101) rfl).cap
      refine q_seq hS rfl rfl rfl (y_cutH (xs := t_) (sz := 3) (i := (((((t_).length : Nat) : Int) - 1).toNat)) hS rfl rfl Try.underlying22 rfl (by omega) hk102 hcap152) ?_; clear hS a; intro a hS
      replace hS := hS.add 152 (slF REntry (Ap01) (((t_).take (((((t_).length : Nat) : Int) - 1).toNat)).length) (cp01) ((t_).take (((((t_).length : Nat) : Int) - 1).toNat))) (SlR.cutH (hS.fact (k := 101) rfl) (((((t_).length : Nat) : Int) - 1).toNat) hk102)
      refine q_seq hS rfl rfl rfl (y_move hS rfl) ?_; clear hS a; intro a hS
      refine q_seq hS rfl rfl rfl (y_move hS rfl) ?_; clear hS a; intro a hS
      refine l_seq rfl (l_call (cap := []) hS rfl Try.func22 rfl (by kernel_rfl) rfl rfl (c_lexicon_Analyses n _ _ hS.lt ((t_).take (((((t_).length : Nat) : Int) - 1).toNat)) (Ap01) (cp01) (hS.fact (k := 152) rfl) t_' (Ap11) (cp11) (hS.fact (k := 102) rfl) t_'' (Ap21) (cp21) (hS.fact (k := 103) rfl) r103 hr103) ?_); clear hS a; intro v145 a w hK hp hS
      clear hK
      obtain ⟨Au146a1, cu146a1, rfl, hu146a1⟩ := hp
      replace hS := hS.add 153 (slF RAnalysis (Au146a1) ((r103).length) (cu146a1) (r103)) hu146a1
      refine q_seq hS rfl rfl rfl (y_move hS rfl) ?_; clear hS a; intro a hS
      have hT := hS
      replace hT := hT.freeze (R := RAnalysis) (kk := 700106) (L' := [(700108, Ob.row (A31) ((t_30).length) (c32) 35 2 (cs33))]) 154 rfl rfl (hT.fact (k := 107) rfl) ⟨rfl, trivial⟩ rfl
      refine l_seq rfl (l_call (cap := []) hS rfl Try.func21 rfl (by kernel_rfl) rfl rfl (c_r24_SameAnalyses n _ _ hT.lt r103 (Au146a1) (cu146a1) (hT.fact (k := 153) rfl) t_26 (A27) (c28) (hT.fact (k := 154) rfl) r106 hr106) ?_); clear hS hT a; intro v147 a w hK hp hS
      clear hK
      obtain rfl := hp.trans (congrArg Value.bool hs109)
      refine q_seq hS rfl rfl rfl (y_move hS rfl) ?_; clear hS a; intro a hS
      refine g_no hS rfl rfl rfl rfl rfl rfl rfl ?_; clear hS a; intro a hS
      refine g_no hS rfl rfl rfl rfl rfl rfl rfl ?_; clear hS a; intro a hS
      refine g_no hS rfl rfl rfl rfl rfl rfl rfl ?_; clear hS a; intro a hS
      refine g_no hS rfl rfl rfl rfl rfl rfl rfl ?_; clear hS a; intro a hS
      refine g_no hS rfl rfl rfl rfl rfl rfl rfl ?_; clear hS a; intro a hS
      refine g_no hS rfl rfl rfl rfl rfl rfl rfl ?_; clear hS a; intro a hS
      refine g_no hS rfl rfl rfl rfl rfl rfl rfl ?_; clear hS a; intro a hS
      refine g_no hS rfl rfl rfl rfl rfl rfl rfl ?_; clear hS a; intro a hS
      refine g_no hS rfl rfl rfl rfl rfl rfl rfl ?_; clear hS a; intro a hS
      refine g_no hS rfl rfl rfl rfl rfl rfl rfl ?_; clear hS a; intro a hS
      refine q_seq hS rfl rfl rfl (y_pick_f hS rfl rfl) ?_; clear hS a; intro a hS
      refine q_seq hS rfl rfl rfl (y_move hS rfl) ?_; clear hS a; intro a hS
      refine g_no hS rfl rfl rfl rfl rfl rfl rfl ?_; clear hS a; intro a hS
      refine q_seq hS rfl rfl rfl (y_pick_f hS rfl rfl) ?_; clear hS a; intro a hS
      refine q_seq hS rfl rfl rfl (y_assign hS rfl) ?_; clear hS a; intro a hS
      apply wpList_nil
      refine p_norm ?_
      apply wp_ret
      obtain rfl := Option.some.inj hg
      refine fin1 (fn := Try.f9) hS rfl (r_tmp hS rfl) ?_
      exact rfl
end Go.Proofs.Ytgmghembhenonaa

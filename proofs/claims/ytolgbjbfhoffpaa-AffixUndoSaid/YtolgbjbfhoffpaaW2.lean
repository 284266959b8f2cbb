/- Chapter 23: the walks, part 2 -/
import Derived.Test.YtolgbjbfhoffpaaW1
namespace Go.Proofs.Ytolgbjbfhoffpaa
open Go.Gl Go.RowKit
set_option linter.unusedVariables false
set_option linter.unusedSimpArgs false

set_option maxHeartbeats 400000 in
theorem c_law23_exampleHolds (n : Nat) (M : Bs) (w0 : World) (hM : ∀ b, M b → b < w0.heap.size)  (r : Bool) (hg : law23_exampleHolds n = some r) :
    Calls Try.prog 10 [].toArray w0 (Ret noB w0 fun v w => v = .bool (r)) := by
  unfold law23_exampleHolds at hg
  refine enter M noB Try.func10 rfl rfl hM ?_
  intro a hS
  apply wp_seq
  apply wp_region_lit
  refine q_seq hS rfl rfl rfl (y_assign hS rfl) ?_; clear hS a; intro a hS
  apply wpList_nil
  refine p_norm ?_
  apply wp_seq
  apply wp_region_lit
  refine q_seq hS rfl rfl rfl (y_build (parts := [(0, .const (.string (bs ([121])))), (1, .const (.string (bs ([105, 101, 115]))))]) (ps := [(0, .string (bs ([121]))), (1, .string (bs ([105, 101, 115])))]) (cells := #[.string (bs ([121])), .string (bs ([105, 101, 115]))]) hS rfl (by kernel_rfl)) ?_; clear hS a; intro a hS
  refine q_seq hS rfl rfl rfl (y_build (parts := [(0, .const (.string (bs ([])))), (1, .const (.string (bs ([115]))))]) (ps := [(0, .string (bs ([]))), (1, .string (bs ([115])))]) (cells := #[.string (bs ([])), .string (bs ([115]))]) hS rfl (by kernel_rfl)) ?_; clear hS a; intro a hS
  refine l_seq rfl (l_buildDense (sz := 2) hS 1102 rfl rfl rfl Try.underlying22 rfl rfl rfl rfl rfl rfl rfl ?_); clear hS a; intro b3 a w hbb3 hK hS
  clear hbb3
  clear hK
  replace hS := hS.add 103 (rdF RChange (cellsOfL [.agg #[.string (bs ([121])), .string (bs ([105, 101, 115]))], .agg #[.string (bs ([])), .string (bs ([115]))]]) ([(Change.mk [121] [105, 101, 115]), (Change.mk [] [115])])) (RdAll.cons (by exact (RChange.mk' (x := (Change.mk [121] [105, 101, 115])) (by first | omega | (rw [List.length_append]; omega) | (simp only [List.length_append]; omega) | (simp only [List.length_append, List.length_take, List.length_drop, List.length_cons, List.length_nil]; omega)) (by first | omega | (rw [List.length_append]; omega) | (simp only [List.length_append]; omega) | (simp only [List.length_append, List.length_take, List.length_drop, List.length_cons, List.length_nil]; omega)))) (RdAll.cons (by exact (RChange.mk' (x := (Change.mk [] [115])) (by first | omega | (rw [List.length_append]; omega) | (simp only [List.length_append]; omega) | (simp only [List.length_append, List.length_take, List.length_drop, List.length_cons, List.length_nil]; omega)) (by first | omega | (rw [List.length_append]; omega) | (simp only [List.length_append]; omega) | (simp only [List.length_append, List.length_take, List.length_drop, List.length_cons, List.length_nil]; omega)))) (RdAll.nil _ _ _)))
  replace hS := hS.freeze (R := RChange) (kk := 1102) (L' := []) 104 rfl rfl (hS.fact (k := 103) rfl) trivial rfl
  refine q_seq hS rfl rfl rfl (y_build (parts := [(0, .const (.int .i64 (1))), (1, .tmp 12)]) (ps := [(0, .int .i64 (1)), (1, .slice (some ⟨b3, 0, none⟩) (2) (2))]) (cells := #[.int .i64 (1), .slice (some ⟨b3, 0, none⟩) (2) (2)]) hS rfl (by kernel_rfl)) ?_; clear hS a; intro a hS
  refine l_seq rfl (l_alloc (zs := [.int .i64 (0), .slice (none) (0) (0)]) hS 1104 rfl rfl rfl rfl ?_); clear hS a; intro b4 a w hb hK hS
  clear hb
  clear hK
  refine l_seq rfl (l_store (n := 2) (cs' := [.int .i64 (1), .slice (some ⟨b3, 0, none⟩) (2) (2)]) hS 1104 rfl rfl rfl rfl rfl rfl rfl rfl ?_); clear hS; intro w hK hS; clear hK
  apply wpList_nil
  refine p_norm ?_
  apply wp_seq
  replace hg := bind_some hg; obtain ⟨r5, hr5, hg⟩ := hg
  apply wp_region_lit
  refine q_seq hS rfl rfl rfl (y_loadBox (kk := 1104) (n := 2) (vs := [.int .i64 (1), .slice (some ⟨b3, 0, none⟩) (2) (2)]) hS rfl rfl Try.underlying24 rfl rfl rfl rfl) ?_; clear hS a; intro a hS
  refine l_seq rfl (l_call (cap := []) hS rfl Try.func14 rfl (by kernel_rfl) rfl rfl (c_affix_Apply n _ _ hS.lt (Affix.mk 1 [(Change.mk [121] [105, 101, 115]), (Change.mk [] [115])]) (some ⟨b3, 0, none⟩) (2) (hS.fact (k := 104) rfl) [102, 108, 121] (by first | omega | (rw [List.length_append]; omega) | (simp only [List.length_append]; omega) | (simp only [List.length_append, List.length_take, List.length_drop, List.length_cons, List.length_nil]; omega)) r5 hr5) ?_); clear hS a; intro v8 a w hK hp hS
  clear hK
  obtain ⟨rfl, lu9a1⟩ := hp
  refine q_seq hS rfl rfl rfl (y_move hS rfl) ?_; clear hS a; intro a hS
  refine q_seq hS rfl rfl rfl (y_extract hS rfl rfl) ?_; clear hS a; intro a hS
  refine q_seq hS rfl rfl rfl (y_extract hS rfl rfl) ?_; clear hS a; intro a hS
  refine q_seq hS rfl rfl rfl (y_assign hS rfl) ?_; clear hS a; intro a hS
  refine q_seq hS rfl rfl rfl (y_assign hS rfl) ?_; clear hS a; intro a hS
  apply wpList_nil
  refine p_norm ?_
  apply wp_seq
  replace hg := bind_some hg; obtain ⟨r10, hr10, hg⟩ := hg
  apply wp_region_lit
  refine q_seq hS rfl rfl rfl (y_loadBox (kk := 1104) (n := 2) (vs := [.int .i64 (1), .slice (some ⟨b3, 0, none⟩) (2) (2)]) hS rfl rfl Try.underlying24 rfl rfl rfl rfl) ?_; clear hS a; intro a hS
  refine l_seq rfl (l_call (cap := []) hS rfl Try.func14 rfl (by kernel_rfl) rfl rfl (c_affix_Apply n _ _ hS.lt (Affix.mk 1 [(Change.mk [121] [105, 101, 115]), (Change.mk [] [115])]) (some ⟨b3, 0, none⟩) (2) (hS.fact (k := 104) rfl) [121] (by first | omega | (rw [List.length_append]; omega) | (simp only [List.length_append]; omega) | (simp only [List.length_append, List.length_take, List.length_drop, List.length_cons, List.length_nil]; omega)) r10 hr10) ?_); clear hS a; intro v13 a w hK hp hS
  clear hK
  obtain ⟨rfl, lu14a1⟩ := hp
  refine q_seq hS rfl rfl rfl (y_move hS rfl) ?_; clear hS a; intro a hS
  refine q_seq hS rfl rfl rfl (y_extract hS rfl rfl) ?_; clear hS a; intro a hS
  refine q_seq hS rfl rfl rfl (y_extract hS rfl rfl) ?_; clear hS a; intro a hS
  refine q_seq hS rfl rfl rfl (y_assign hS rfl) ?_; clear hS a; intro a hS
  refine q_seq hS rfl rfl rfl (y_assign hS rfl) ?_; clear hS a; intro a hS
  apply wpList_nil
  refine p_norm ?_
  apply wp_seq
  replace hg := bind_some hg; obtain ⟨r16, hr16, hg⟩ := hg
  apply wp_region_lit
  refine q_seq hS rfl rfl rfl (y_loadBox (kk := 1104) (n := 2) (vs := [.int .i64 (1), .slice (some ⟨b3, 0, none⟩) (2) (2)]) hS rfl rfl Try.underlying24 rfl rfl rfl rfl) ?_; clear hS a; intro a hS
  refine l_seq rfl (l_buildDense (sz := 1) hS 1401 rfl rfl rfl Try.underlying34 rfl rfl rfl rfl rfl rfl rfl ?_); clear hS a; intro b19 a w hbb19 hK hS
  clear hbb19
  clear hK
  replace hS := hS.add 108 (rdF Rep.str (cellsOfL [.string (bs ([112, 105, 99, 107])), .string (bs ([116, 111, 121]))]) ([[112, 105, 99, 107], [116, 111, 121]])) (RdAll.cons (by exact ⟨rfl, (by first | omega | (rw [List.length_append]; omega) | (simp only [List.length_append]; omega) | (simp only [List.length_append, List.length_take, List.length_drop, List.length_cons, List.length_nil]; omega))⟩) (RdAll.cons (by exact ⟨rfl, (by first | omega | (rw [List.length_append]; omega) | (simp only [List.length_append]; omega) | (simp only [List.length_append, List.length_take, List.length_drop, List.length_cons, List.length_nil]; omega))⟩) (RdAll.nil _ _ _)))
  replace hS := hS.freeze (R := Rep.str) (kk := 1401) (L' := [(1104, Ob.box b4 [.int .i64 (1), .slice (some ⟨b3, 0, none⟩) (2) (2)] 24)]) 109 rfl rfl (hS.fact (k := 108) rfl) ⟨rfl, trivial⟩ rfl
  refine l_seq rfl (l_call (cap := []) hS rfl Try.func20 rfl (by kernel_rfl) rfl rfl (c_affix_Words n _ _ hS.lt (Affix.mk 1 [(Change.mk [121] [105, 101, 115]), (Change.mk [] [115])]) (some ⟨b3, 0, none⟩) (2) (hS.fact (k := 104) rfl) [[112, 105, 99, 107], [116, 111, 121]] (some ⟨b19, 0, none⟩) (2) (hS.fact (k := 109) rfl) r16 hr16) ?_); clear hS a; intro v20 a w hK hp hS
  clear hK
  obtain ⟨Au21a1, cu21a1, rfl, hu21a1⟩ := hp
  replace hS := hS.add 110 (slF Rep.str (Au21a1) ((r16.1).length) (cu21a1) (r16.1)) hu21a1
  refine q_seq hS rfl rfl rfl (y_move hS rfl) ?_; clear hS a; intro a hS
  refine q_seq hS rfl rfl rfl (y_extract hS rfl rfl) ?_; clear hS a; intro a hS
  refine q_seq hS rfl rfl rfl (y_extract hS rfl rfl) ?_; clear hS a; intro a hS
  refine q_seq hS rfl rfl rfl (y_assign hS rfl) ?_; clear hS a; intro a hS
  refine q_seq hS rfl rfl rfl (y_assign hS rfl) ?_; clear hS a; intro a hS
  apply wpList_nil
  refine p_norm ?_
  apply wp_seq
  replace hg := bind_some hg; obtain ⟨r23, hr23, hg⟩ := hg
  apply wp_region_lit
  refine q_seq hS rfl rfl rfl (y_build (parts := [(0, .const (.string (bs ([101])))), (1, .const (.string (bs ([101, 100]))))]) (ps := [(0, .string (bs ([101]))), (1, .string (bs ([101, 100])))]) (cells := #[.string (bs ([101])), .string (bs ([101, 100]))]) hS rfl (by kernel_rfl)) ?_; clear hS a; intro a hS
  refine l_seq rfl (l_buildDense (sz := 2) hS 1501 rfl rfl rfl Try.underlying22 rfl rfl rfl rfl rfl rfl rfl ?_); clear hS a; intro b26 a w hbb26 hK hS
  clear hbb26
  clear hK
  replace hS := hS.add 113 (rdF RChange (cellsOfL [.agg #[.string (bs ([101])), .string (bs ([101, 100]))]]) ([(Change.mk [101] [101, 100])])) (RdAll.cons (by exact (RChange.mk' (x := (Change.mk [101] [101, 100])) (by first | omega | (rw [List.length_append]; omega) | (simp only [List.length_append]; omega) | (simp only [List.length_append, List.length_take, List.length_drop, List.length_cons, List.length_nil]; omega)) (by first | omega | (rw [List.length_append]; omega) | (simp only [List.length_append]; omega) | (simp only [List.length_append, List.length_take, List.length_drop, List.length_cons, List.length_nil]; omega)))) (RdAll.nil _ _ _))
  replace hS := hS.freeze (R := RChange) (kk := 1501) (L' := [(1104, Ob.box b4 [.int .i64 (1), .slice (some ⟨b3, 0, none⟩) (2) (2)] 24)]) 114 rfl rfl (hS.fact (k := 113) rfl) ⟨rfl, trivial⟩ rfl
  refine q_seq hS rfl rfl rfl (y_build (parts := [(0, .const (.int .i64 (1))), (1, .tmp 32)]) (ps := [(0, .int .i64 (1)), (1, .slice (some ⟨b26, 0, none⟩) (1) (1))]) (cells := #[.int .i64 (1), .slice (some ⟨b26, 0, none⟩) (1) (1)]) hS rfl (by kernel_rfl)) ?_; clear hS a; intro a hS
  refine l_seq rfl (l_call (cap := []) hS rfl Try.func14 rfl (by kernel_rfl) rfl rfl (c_affix_Apply n _ _ hS.lt (Affix.mk 1 [(Change.mk [101] [101, 100])]) (some ⟨b26, 0, none⟩) (1) (hS.fact (k := 114) rfl) [101] (by first | omega | (rw [List.length_append]; omega) | (simp only [List.length_append]; omega) | (simp only [List.length_append, List.length_take, List.length_drop, List.length_cons, List.length_nil]; omega)) r23 hr23) ?_); clear hS a; intro v27 a w hK hp hS
  clear hK
  obtain ⟨rfl, lu28a1⟩ := hp
  refine q_seq hS rfl rfl rfl (y_move hS rfl) ?_; clear hS a; intro a hS
  refine q_seq hS rfl rfl rfl (y_extract hS rfl rfl) ?_; clear hS a; intro a hS
  refine q_seq hS rfl rfl rfl (y_extract hS rfl rfl) ?_; clear hS a; intro a hS
  refine q_seq hS rfl rfl rfl (y_assign hS rfl) ?_; clear hS a; intro a hS
  refine q_seq hS rfl rfl rfl (y_assign hS rfl) ?_; clear hS a; intro a hS
  apply wpList_nil
  refine p_norm ?_
  apply wp_seq
  rcases Bool.eq_false_or_eq_true (r5.2) with hs29 | hs29
  · replace hg := br_t hg hs29
    rcases Decidable.em ((r5.1 : List UInt8) = [102, 108, 105, 101, 115]) with hs30 | hs30
    · have hs30e : decide ((r5.1 : List UInt8) = [102, 108, 105, 101, 115]) = true := decide_eq_true hs30
      replace hg := br_t hg hs30
      rcases Bool.eq_false_or_eq_true (r10.2) with hs31 | hs31
      · replace hg := br_t hg hs31
        rcases Decidable.em ((r10.1 : List UInt8) = [121, 115]) with hs32 | hs32
        · have hs32e : decide ((r10.1 : List UInt8) = [121, 115]) = true := decide_eq_true hs32
          replace hg := br_t hg hs32
          rcases Bool.eq_false_or_eq_true (r16.2) with hs33 | hs33
          · replace hg := br_t hg hs33
            replace hg := bind_some hg; obtain ⟨r35, hr35, hg⟩ := hg
            rcases Bool.eq_false_or_eq_true (r35) with hs38 | hs38
            · replace hg := br_t hg hs38
              rcases Bool.eq_false_or_eq_true (!(r23.2)) with hs39 | hs39
              · replace hg := br_t hg hs39
                replace hg := bind_some hg; obtain ⟨r40, hr40, hg⟩ := hg
                replace hg := bind_some hg; obtain ⟨r44, hr44, hg⟩ := hg
                rcases Bool.eq_false_or_eq_true (r44) with hs47 | hs47
                · replace hg := br_t hg hs47
                  replace hg := bind_some hg; obtain ⟨r48, hr48, hg⟩ := hg
                  rcases Decidable.em (r48 = 0) with hs51 | hs51
                  · have hs51e : decide (r48 = 0) = true := decide_eq_true hs51
                    replace hg := br_t hg hs51
                    replace hg := bind_some hg; obtain ⟨r52, hr52, hg⟩ := hg
                    rcases Decidable.em (r52 = 14) with hs55 | hs55
                    · have hs55e : decide (r52 = 14) = true := decide_eq_true hs55
                      replace hg := br_t hg hs55
                      replace hg := bind_some hg; obtain ⟨r56, hr56, hg⟩ := hg
                      apply wp_region_lit
                      refine q_seq hS rfl rfl rfl (yl_b (y_move hS rfl) hs29) ?_; clear hS a; intro a hS
                      refine q_seq hS rfl rfl rfl (y_move hS rfl) ?_; clear hS a; intro a hS
                      refine g_yes hS rfl rfl rfl rfl (l_quiet hS rfl rfl (y_move hS rfl) ?_); clear hS a; intro a hS
                      refine g_yes hS rfl rfl rfl rfl (l_quiet hS rfl rfl (yl_b (y_seq hS rfl rfl) hs30e) ?_); clear hS a; intro a hS
                      refine q_seq hS rfl rfl rfl (y_pick_t hS rfl rfl) ?_; clear hS a; intro a hS
                      refine q_seq hS rfl rfl rfl (y_move hS rfl) ?_; clear hS a; intro a hS
                      refine g_yes hS rfl rfl rfl rfl (l_quiet hS rfl rfl (yl_b (y_move hS rfl) hs31) ?_); clear hS a; intro a hS
                      refine q_seq hS rfl rfl rfl (y_pick_t hS rfl rfl) ?_; clear hS a; intro a hS
                      refine q_seq hS rfl rfl rfl (y_move hS rfl) ?_; clear hS a; intro a hS
                      refine g_yes hS rfl rfl rfl rfl (l_quiet hS rfl rfl (y_move hS rfl) ?_); clear hS a; intro a hS
                      refine g_yes hS rfl rfl rfl rfl (l_quiet hS rfl rfl (yl_b (y_seq hS rfl rfl) hs32e) ?_); clear hS a; intro a hS
                      refine q_seq hS rfl rfl rfl (y_pick_t hS rfl rfl) ?_; clear hS a; intro a hS
                      refine q_seq hS rfl rfl rfl (y_move hS rfl) ?_; clear hS a; intro a hS
                      refine g_yes hS rfl rfl rfl rfl (l_quiet hS rfl rfl (yl_b (y_move hS rfl) hs33) ?_); clear hS a; intro a hS
                      refine q_seq hS rfl rfl rfl (y_pick_t hS rfl rfl) ?_; clear hS a; intro a hS
                      refine q_seq hS rfl rfl rfl (y_move hS rfl) ?_; clear hS a; intro a hS
                      refine g_yes hS rfl rfl rfl rfl (l_quiet hS rfl rfl (y_move hS rfl) ?_); clear hS a; intro a hS
                      refine g_yes hS rfl rfl rfl rfl (l_buildDense (sz := 1) hS 1617 rfl rfl rfl Try.underlying34 rfl rfl rfl rfl rfl rfl rfl ?_); clear hS a; intro b59 a w hbb59 hK hS
                      clear hbb59
                      clear hK
                      replace hS := hS.add 120 (rdF Rep.str (cellsOfL [.string (bs ([112, 105, 99, 107])), .string (bs ([116, 111, 105, 101, 115]))]) ([[112, 105, 99, 107], [116, 111, 105, 101, 115]])) (RdAll.cons (by exact ⟨rfl, (by first | omega | (rw [List.length_append]; omega) | (simp only [List.length_append]; omega) | (simp only [List.length_append, List.length_take, List.length_drop, List.length_cons, List.length_nil]; omega))⟩) (RdAll.cons (by exact ⟨rfl, (by first | omega | (rw [List.length_append]; omega) | (simp only [List.length_append]; omega) | (simp only [List.length_append, List.length_take, List.length_drop, List.length_cons, List.length_nil]; omega))⟩) (RdAll.nil _ _ _)))
                      have hT := hS
                      replace hT := hT.freeze (R := Rep.str) (kk := 1617) (L' := [(1104, Ob.box b4 [.int .i64 (1), .slice (some ⟨b3, 0, none⟩) (2) (2)] 24)]) 121 rfl rfl (hT.fact (k := 120) rfl) ⟨rfl, trivial⟩ rfl
                      refine g_yes hS rfl rfl rfl rfl (l_call (cap := []) hS rfl Try.func16 rfl (by kernel_rfl) rfl rfl (c_r01_Same n _ _ hT.lt r16.1 (Au21a1) (cu21a1) (hT.fact (k := 110) rfl) [[112, 105, 99, 107], [116, 111, 105, 101, 115]] (some ⟨b59, 0, none⟩) (2) (hT.fact (k := 121) rfl) r35 hr35) ?_); clear hS hT a; intro v60 a w hK hp hS
                      clear hK
                      obtain rfl := hp.trans (congrArg Value.bool hs38)
                      refine q_seq hS rfl rfl rfl (y_pick_t hS rfl rfl) ?_; clear hS a; intro a hS
                      refine q_seq hS rfl rfl rfl (y_move hS rfl) ?_; clear hS a; intro a hS
                      refine g_yes hS rfl rfl rfl rfl (l_quiet hS rfl rfl (y_move hS rfl) ?_); clear hS a; intro a hS
                      refine g_yes hS rfl rfl rfl rfl (l_quiet hS rfl rfl (yl_b (y_not hS rfl) hs39) ?_); clear hS a; intro a hS
                      refine q_seq hS rfl rfl rfl (y_pick_t hS rfl rfl) ?_; clear hS a; intro a hS
                      refine q_seq hS rfl rfl rfl (y_move hS rfl) ?_; clear hS a; intro a hS
                      refine g_yes hS rfl rfl rfl rfl (l_quiet hS rfl rfl (y_loadBox (kk := 1104) (n := 2) (vs := [.int .i64 (1), .slice (some ⟨b3, 0, none⟩) (2) (2)]) hS rfl rfl Try.underlying24 rfl rfl rfl rfl) ?_); clear hS a; intro a hS
                      refine g_yes hS rfl rfl rfl rfl (l_call (cap := []) hS rfl Try.func17 rfl (by kernel_rfl) rfl rfl (c_affix_Undo n _ _ hS.lt (Affix.mk 1 [(Change.mk [121] [105, 101, 115]), (Change.mk [] [115])]) (some ⟨b3, 0, none⟩) (2) (hS.fact (k := 104) rfl) [102, 108, 105, 101, 115] (by first | omega | (rw [List.length_append]; omega) | (simp only [List.length_append]; omega) | (simp only [List.length_append, List.length_take, List.length_drop, List.length_cons, List.length_nil]; omega)) r40 hr40) ?_); clear hS a; intro v62 a w hK hp hS
                      clear hK
                      obtain ⟨Au63a1, cu63a1, rfl, hu63a1⟩ := hp
                      replace hS := hS.add 122 (slF Rep.str (Au63a1) ((r40).length) (cu63a1) (r40)) hu63a1
                      refine g_yes hS rfl rfl rfl rfl (l_buildDense (sz := 1) hS 1627 rfl rfl rfl Try.underlying34 rfl rfl rfl rfl rfl rfl rfl ?_); clear hS a; intro b64 a w hbb64 hK hS
                      clear hbb64
                      clear hK
                      replace hS := hS.add 123 (rdF Rep.str (cellsOfL [.string (bs ([102, 108, 105, 101])), .string (bs ([102, 108, 121]))]) ([[102, 108, 105, 101], [102, 108, 121]])) (RdAll.cons (by exact ⟨rfl, (by first | omega | (rw [List.length_append]; omega) | (simp only [List.length_append]; omega) | (simp only [List.length_append, List.length_take, List.length_drop, List.length_cons, List.length_nil]; omega))⟩) (RdAll.cons (by exact ⟨rfl, (by first | omega | (rw [List.length_append]; omega) | (simp only [List.length_append]; omega) | (simp only [List.length_append, List.length_take, List.length_drop, List.length_cons, List.length_nil]; omega))⟩) (RdAll.nil _ _ _)))
                      have hT := hS
                      replace hT := hT.freeze (R := Rep.str) (kk := 1627) (L' := [(1104, Ob.box b4 [.int .i64 (1), .slice (some ⟨b3, 0, none⟩) (2) (2)] 24), (1617, Ob.row (some ⟨b59, 0, none⟩) (2) (2) 9 1 (cellsOfL [.string (bs ([112, 105, 99, 107])), .string (bs ([116, 111, 105, 101, 115]))]))]) 124 rfl rfl (hT.fact (k := 123) rfl) ⟨rfl, rfl, trivial⟩ rfl
                      refine g_yes hS rfl rfl rfl rfl (l_call (cap := []) hS rfl Try.func16 rfl (by kernel_rfl) rfl rfl (c_r01_Same n _ _ hT.lt r40 (Au63a1) (cu63a1) (hT.fact (k := 122) rfl) [[102, 108, 105, 101], [102, 108, 121]] (some ⟨b64, 0, none⟩) (2) (hT.fact (k := 124) rfl) r44 hr44) ?_); clear hS hT a; intro v65 a w hK hp hS
                      clear hK
                      obtain rfl := hp.trans (congrArg Value.bool hs47)
                      refine q_seq hS rfl rfl rfl (y_pick_t hS rfl rfl) ?_; clear hS a; intro a hS
                      refine q_seq hS rfl rfl rfl (y_move hS rfl) ?_; clear hS a; intro a hS
                      refine g_yes hS rfl rfl rfl rfl (l_quiet hS rfl rfl (y_loadBox (kk := 1104) (n := 2) (vs := [.int .i64 (1), .slice (some ⟨b3, 0, none⟩) (2) (2)]) hS rfl rfl Try.underlying24 rfl rfl rfl rfl) ?_); clear hS a; intro a hS
                      refine g_yes hS rfl rfl rfl rfl (l_call (cap := []) hS rfl Try.func11 rfl (by kernel_rfl) rfl rfl (c_affix_Check n _ _ hS.lt (Affix.mk 1 [(Change.mk [121] [105, 101, 115]), (Change.mk [] [115])]) (some ⟨b3, 0, none⟩) (2) (hS.fact (k := 104) rfl) r48 hr48) ?_); clear hS a; intro v67 a w hK hp hS
                      clear hK
                      obtain rfl := hp
                      refine g_yes hS rfl rfl rfl rfl (l_quiet hS rfl rfl (yl_b (y_eql hS rfl rfl) hs51e) ?_); clear hS a; intro a hS
                      refine q_seq hS rfl rfl rfl (y_pick_t hS rfl rfl) ?_; clear hS a; intro a hS
                      refine q_seq hS rfl rfl rfl (y_move hS rfl) ?_; clear hS a; intro a hS
                      refine g_yes hS rfl rfl rfl rfl (l_quiet hS rfl rfl (y_build (parts := [(0, .const (.int .i64 (3)))]) (ps := [(0, .int .i64 (3))]) (cells := #[.int .i64 (3), .slice (none) (0) (0)]) hS rfl (by kernel_rfl)) ?_); clear hS a; intro a hS
                      refine g_yes hS rfl rfl rfl rfl (l_call (cap := []) hS rfl Try.func11 rfl (by kernel_rfl) rfl rfl (c_affix_Check n _ _ hS.lt (Affix.mk 3 []) (none) (0) (SlR.nil_ _ _ _) r52 hr52) ?_); clear hS a; intro v69 a w hK hp hS
                      clear hK
                      obtain rfl := hp
                      refine g_yes hS rfl rfl rfl rfl (l_quiet hS rfl rfl (yl_b (y_eql hS rfl rfl) hs55e) ?_); clear hS a; intro a hS
                      refine q_seq hS rfl rfl rfl (y_pick_t hS rfl rfl) ?_; clear hS a; intro a hS
                      refine q_seq hS rfl rfl rfl (y_move hS rfl) ?_; clear hS a; intro a hS
                      refine g_yes hS rfl rfl rfl rfl (l_quiet hS rfl rfl (y_build (parts := [(0, .const (.int .i64 (2)))]) (ps := [(0, .int .i64 (2))]) (cells := #[.int .i64 (2), .slice (none) (0) (0)]) hS rfl (by kernel_rfl)) ?_); clear hS a; intro a hS
                      refine g_yes hS rfl rfl rfl rfl (l_call (cap := []) hS rfl Try.func11 rfl (by kernel_rfl) rfl rfl (c_affix_Check n _ _ hS.lt (Affix.mk 2 []) (none) (0) (SlR.nil_ _ _ _) r56 hr56) ?_); clear hS a; intro v71 a w hK hp hS
                      clear hK
                      obtain rfl := hp
                      refine g_yes hS rfl rfl rfl rfl (l_quiet hS rfl rfl (y_eql hS rfl rfl) ?_); clear hS a; intro a hS
                      refine q_seq hS rfl rfl rfl (y_pick_t hS rfl rfl) ?_; clear hS a; intro a hS
                      refine q_seq hS rfl rfl rfl (y_assign hS rfl) ?_; clear hS a; intro a hS
                      apply wpList_nil
                      refine p_norm ?_
                      apply wp_ret
                      obtain rfl := Option.some.inj hg
                      refine fin1 (fn := Try.f10) hS rfl (r_tmp hS rfl) ?_
                      exact rfl
                    · have hs55e : decide (r52 = 14) = false := decide_eq_false hs55
                      replace hg := br_f hg hs55
                      apply wp_region_lit
                      refine q_seq hS rfl rfl rfl (yl_b (y_move hS rfl) hs29) ?_; clear hS a; intro a hS
                      refine q_seq hS rfl rfl rfl (y_move hS rfl) ?_; clear hS a; intro a hS
                      refine g_yes hS rfl rfl rfl rfl (l_quiet hS rfl rfl (y_move hS rfl) ?_); clear hS a; intro a hS
                      refine g_yes hS rfl rfl rfl rfl (l_quiet hS rfl rfl (yl_b (y_seq hS rfl rfl) hs30e) ?_); clear hS a; intro a hS
                      refine q_seq hS rfl rfl rfl (y_pick_t hS rfl rfl) ?_; clear hS a; intro a hS
                      refine q_seq hS rfl rfl rfl (y_move hS rfl) ?_; clear hS a; intro a hS
                      refine g_yes hS rfl rfl rfl rfl (l_quiet hS rfl rfl (yl_b (y_move hS rfl) hs31) ?_); clear hS a; intro a hS
                      refine q_seq hS rfl rfl rfl (y_pick_t hS rfl rfl) ?_; clear hS a; intro a hS
                      refine q_seq hS rfl rfl rfl (y_move hS rfl) ?_; clear hS a; intro a hS
                      refine g_yes hS rfl rfl rfl rfl (l_quiet hS rfl rfl (y_move hS rfl) ?_); clear hS a; intro a hS
                      refine g_yes hS rfl rfl rfl rfl (l_quiet hS rfl rfl (yl_b (y_seq hS rfl rfl) hs32e) ?_); clear hS a; intro a hS
                      refine q_seq hS rfl rfl rfl (y_pick_t hS rfl rfl) ?_; clear hS a; intro a hS
                      refine q_seq hS rfl rfl rfl (y_move hS rfl) ?_; clear hS a; intro a hS
                      refine g_yes hS rfl rfl rfl rfl (l_quiet hS rfl rfl (yl_b (y_move hS rfl) hs33) ?_); clear hS a; intro a hS
                      refine q_seq hS rfl rfl rfl (y_pick_t hS rfl rfl) ?_; clear hS a; intro a hS
                      refine q_seq hS rfl rfl rfl (y_move hS rfl) ?_; clear hS a; intro a hS
                      refine g_yes hS rfl rfl rfl rfl (l_quiet hS rfl rfl (y_move hS rfl) ?_); clear hS a; intro a hS
                      refine g_yes hS rfl rfl rfl rfl (l_buildDense (sz := 1) hS 1617 rfl rfl rfl Try.underlying34 rfl rfl rfl rfl rfl rfl rfl ?_); clear hS a; intro b73 a w hbb73 hK hS
                      clear hbb73
                      clear hK
                      replace hS := hS.add 125 (rdF Rep.str (cellsOfL [.string (bs ([112, 105, 99, 107])), .string (bs ([116, 111, 105, 101, 115]))]) ([[112, 105, 99, 107], [116, 111, 105, 101, 115]])) (RdAll.cons (by exact ⟨rfl, (by first | omega | (rw [List.length_append]; omega) | (simp only [List.length_append]; omega) | (simp only [List.length_append, List.length_take, List.length_drop, List.length_cons, List.length_nil]; omega))⟩) (RdAll.cons (by exact ⟨rfl, (by first | omega | (rw [List.length_append]; omega) | (simp only [List.length_append]; omega) | (simp only [List.length_append, List.length_take, List.length_drop, List.length_cons, List.length_nil]; omega))⟩) (RdAll.nil _ _ _)))
                      have hT := hS
                      replace hT := hT.freeze (R := Rep.str) (kk := 1617) (L' := [(1104, Ob.box b4 [.int .i64 (1), .slice (some ⟨b3, 0, none⟩) (2) (2)] 24)]) 126 rfl rfl (hT.fact (k := 125) rfl) ⟨rfl, trivial⟩ rfl
                      refine g_yes hS rfl rfl rfl rfl (l_call (cap := []) hS rfl Try.func16 rfl (by kernel_rfl) rfl rfl (c_r01_Same n _ _ hT.lt r16.1 (Au21a1) (cu21a1) (hT.fact (k := 110) rfl) [[112, 105, 99, 107], [116, 111, 105, 101, 115]] (some ⟨b73, 0, none⟩) (2) (hT.fact (k := 126) rfl) r35 hr35) ?_); clear hS hT a; intro v74 a w hK hp hS
                      clear hK
                      obtain rfl := hp.trans (congrArg Value.bool hs38)
                      refine q_seq hS rfl rfl rfl (y_pick_t hS rfl rfl) ?_; clear hS a; intro a hS
                      refine q_seq hS rfl rfl rfl (y_move hS rfl) ?_; clear hS a; intro a hS
                      refine g_yes hS rfl rfl rfl rfl (l_quiet hS rfl rfl (y_move hS rfl) ?_); clear hS a; intro a hS
                      refine g_yes hS rfl rfl rfl rfl (l_quiet hS rfl rfl (yl_b (y_not hS rfl) hs39) ?_); clear hS a; intro a hS
                      refine q_seq hS rfl rfl rfl (y_pick_t hS rfl rfl) ?_; clear hS a; intro a hS
                      refine q_seq hS rfl rfl rfl (y_move hS rfl) ?_; clear hS a; intro a hS
                      refine g_yes hS rfl rfl rfl rfl (l_quiet hS rfl rfl (y_loadBox (kk := 1104) (n := 2) (vs := [.int .i64 (1), .slice (some ⟨b3, 0, none⟩) (2) (2)]) hS rfl rfl Try.underlying24 rfl rfl rfl rfl) ?_); clear hS a; intro a hS
                      refine g_yes hS rfl rfl rfl rfl (l_call (cap := []) hS rfl Try.func17 rfl (by kernel_rfl) rfl rfl (c_affix_Undo n _ _ hS.lt (Affix.mk 1 [(Change.mk [121] [105, 101, 115]), (Change.mk [] [115])]) (some ⟨b3, 0, none⟩) (2) (hS.fact (k := 104) rfl) [102, 108, 105, 101, 115] (by first | omega | (rw [List.length_append]; omega) | (simp only [List.length_append]; omega) | (simp only [List.length_append, List.length_take, List.length_drop, List.length_cons, List.length_nil]; omega)) r40 hr40) ?_); clear hS a; intro v76 a w hK hp hS
                      clear hK
                      obtain ⟨Au77a1, cu77a1, rfl, hu77a1⟩ := hp
                      replace hS := hS.add 127 (slF Rep.str (Au77a1) ((r40).length) (cu77a1) (r40)) hu77a1
                      refine g_yes hS rfl rfl rfl rfl (l_buildDense (sz := 1) hS 1627 rfl rfl rfl Try.underlying34 rfl rfl rfl rfl rfl rfl rfl ?_); clear hS a; intro b78 a w hbb78 hK hS
                      clear hbb78
                      clear hK
                      replace hS := hS.add 128 (rdF Rep.str (cellsOfL [.string (bs ([102, 108, 105, 101])), .string (bs ([102, 108, 121]))]) ([[102, 108, 105, 101], [102, 108, 121]])) (RdAll.cons (by exact ⟨rfl, (by first | omega | (rw [List.length_append]; omega) | (simp only [List.length_append]; omega) | (simp only [List.length_append, List.length_take, List.length_drop, List.length_cons, List.length_nil]; omega))⟩) (RdAll.cons (by exact ⟨rfl, (by first | omega | (rw [List.length_append]; omega) | (simp only [List.length_append]; omega) | (simp only [List.length_append, List.length_take, List.length_drop, List.length_cons, List.length_nil]; omega))⟩) (RdAll.nil _ _ _)))
                      have hT := hS
                      replace hT := hT.freeze (R := Rep.str) (kk := 1627) (L' := [(1104, Ob.box b4 [.int .i64 (1), .slice (some ⟨b3, 0, none⟩) (2) (2)] 24), (1617, Ob.row (some ⟨b73, 0, none⟩) (2) (2) 9 1 (cellsOfL [.string (bs ([112, 105, 99, 107])), .string (bs ([116, 111, 105, 101, 115]))]))]) 129 rfl rfl (hT.fact (k := 128) rfl) ⟨rfl, rfl, trivial⟩ rfl
                      refine g_yes hS rfl rfl rfl rfl (l_call (cap := []) hS rfl Try.func16 rfl (by kernel_rfl) rfl rfl (c_r01_Same n _ _ hT.lt r40 (Au77a1) (cu77a1) (hT.fact (k := 127) rfl) [[102, 108, 105, 101], [102, 108, 121]] (some ⟨b78, 0, none⟩) (2) (hT.fact (k := 129) rfl) r44 hr44) ?_); clear hS hT a; intro v79 a w hK hp hS
                      clear hK
                      obtain rfl := hp.trans (congrArg Value.bool hs47)
                      refine q_seq hS rfl rfl rfl (y_pick_t hS rfl rfl) ?_; clear hS a; intro a hS
                      refine q_seq hS rfl rfl rfl (y_move hS rfl) ?_; clear hS a; intro a hS
                      refine g_yes hS rfl rfl rfl rfl (l_quiet hS rfl rfl (y_loadBox (kk := 1104) (n := 2) (vs := [.int .i64 (1), .slice (some ⟨b3, 0, none⟩) (2) (2)]) hS rfl rfl Try.underlying24 rfl rfl rfl rfl) ?_); clear hS a; intro a hS
                      refine g_yes hS rfl rfl rfl rfl (l_call (cap := []) hS rfl Try.func11 rfl (by kernel_rfl) rfl rfl (c_affix_Check n _ _ hS.lt (Affix.mk 1 [(Change.mk [121] [105, 101, 115]), (Change.mk [] [115])]) (some ⟨b3, 0, none⟩) (2) (hS.fact (k := 104) rfl) r48 hr48) ?_); clear hS a; intro v81 a w hK hp hS
                      clear hK
                      obtain rfl := hp
                      refine g_yes hS rfl rfl rfl rfl (l_quiet hS rfl rfl (yl_b (y_eql hS rfl rfl) hs51e) ?_); clear hS a; intro a hS
                      refine q_seq hS rfl rfl rfl (y_pick_t hS rfl rfl) ?_; clear hS a; intro a hS
                      refine q_seq hS rfl rfl rfl (y_move hS rfl) ?_; clear hS a; intro a hS
                      refine g_yes hS rfl rfl rfl rfl (l_quiet hS rfl rfl (y_build (parts := [(0, .const (.int .i64 (3)))]) (ps := [(0, .int .i64 (3))]) (cells := #[.int .i64 (3), .slice (none) (0) (0)]) hS rfl (by kernel_rfl)) ?_); clear hS a; intro a hS
                      refine g_yes hS rfl rfl rfl rfl (l_call (cap := []) hS rfl Try.func11 rfl (by kernel_rfl) rfl rfl (c_affix_Check n _ _ hS.lt (Affix.mk 3 []) (none) (0) (SlR.nil_ _ _ _) r52 hr52) ?_); clear hS a; intro v83 a w hK hp hS
                      clear hK
                      obtain rfl := hp
                      refine g_yes hS rfl rfl rfl rfl (l_quiet hS rfl rfl (yl_b (y_eql hS rfl rfl) hs55e) ?_); clear hS a; intro a hS
                      refine q_seq hS rfl rfl rfl (y_pick_t hS rfl rfl) ?_; clear hS a; intro a hS
                      refine q_seq hS rfl rfl rfl (y_move hS rfl) ?_; clear hS a; intro a hS
                      refine g_no hS rfl rfl rfl rfl rfl rfl rfl ?_; clear hS a; intro a hS
                      refine g_no hS rfl rfl rfl rfl rfl rfl rfl ?_; clear hS a; intro a hS
                      refine g_no hS rfl rfl rfl rfl rfl rfl rfl ?_; clear hS a; intro a hS
                      refine q_seq hS rfl rfl rfl (y_pick_f hS rfl rfl) ?_; clear hS a; intro a hS
                      refine q_seq hS rfl rfl rfl (y_assign hS rfl) ?_; clear hS a; intro a hS
                      apply wpList_nil
                      refine p_norm ?_
                      apply wp_ret
                      obtain rfl := Option.some.inj hg
                      refine fin1 (fn := Try.f10) hS rfl (r_tmp hS rfl) ?_
                      exact rfl
                  · have hs51e : decide (r48 = 0) = false := decide_eq_false hs51
                    replace hg := br_f hg hs51
                    apply wp_region_lit
                    refine q_seq hS rfl rfl rfl (yl_b (y_move hS rfl) hs29) ?_; clear hS a; intro a hS
                    refine q_seq hS rfl rfl rfl (y_move hS rfl) ?_; clear hS a; intro a hS
                    refine g_yes hS rfl rfl rfl rfl (l_quiet hS rfl rfl (y_move hS rfl) ?_); clear hS a; intro a hS
                    refine g_yes hS rfl rfl rfl rfl (l_quiet hS rfl rfl (yl_b (y_seq hS rfl rfl) hs30e) ?_); clear hS a; intro a hS
                    refine q_seq hS rfl rfl rfl (y_pick_t hS rfl rfl) ?_; clear hS a; intro a hS
                    refine q_seq hS rfl rfl rfl (y_move hS rfl) ?_; clear hS a; intro a hS
                    refine g_yes hS rfl rfl rfl rfl (l_quiet hS rfl rfl (yl_b (y_move hS rfl) hs31) ?_); clear hS a; intro a hS
                    refine q_seq hS rfl rfl rfl (y_pick_t hS rfl rfl) ?_; clear hS a; intro a hS
                    refine q_seq hS rfl rfl rfl (y_move hS rfl) ?_; clear hS a; intro a hS
                    refine g_yes hS rfl rfl rfl rfl (l_quiet hS rfl rfl (y_move hS rfl) ?_); clear hS a; intro a hS
                    refine g_yes hS rfl rfl rfl rfl (l_quiet hS rfl rfl (yl_b (y_seq hS rfl rfl) hs32e) ?_); clear hS a; intro a hS
                    refine q_seq hS rfl rfl rfl (y_pick_t hS rfl rfl) ?_; clear hS a; intro a hS
                    refine q_seq hS rfl rfl rfl (y_move hS rfl) ?_; clear hS a; intro a hS
                    refine g_yes hS rfl rfl rfl rfl (l_quiet hS rfl rfl (yl_b (y_move hS rfl) hs33) ?_); clear hS a; intro a hS
                    refine q_seq hS rfl rfl rfl (y_pick_t hS rfl rfl) ?_; clear hS a; intro a hS
                    refine q_seq hS rfl rfl rfl (y_move hS rfl) ?_; clear hS a; intro a hS
                    refine g_yes hS rfl rfl rfl rfl (l_quiet hS rfl rfl (y_move hS rfl) ?_); clear hS a; intro a hS
                    refine g_yes hS rfl rfl rfl rfl (l_buildDense (sz := 1) hS 1617 rfl rfl rfl Try.underlying34 rfl rfl rfl rfl rfl rfl rfl ?_); clear hS a; intro b85 a w hbb85 hK hS
                    clear hbb85
                    clear hK
                    replace hS := hS.add 130 (rdF Rep.str (cellsOfL [.string (bs ([112, 105, 99, 107])), .string (bs ([116, 111, 105, 101, 115]))]) ([[112, 105, 99, 107], [116, 111, 105, 101, 115]])) (RdAll.cons (by exact ⟨rfl, (by first | omega | (rw [List.length_append]; omega) | (simp only [List.length_append]; omega) | (simp only [List.length_append, List.length_take, List.length_drop, List.length_cons, List.length_nil]; omega))⟩) (RdAll.cons (by exact ⟨rfl, (by first | omega | (rw [List.length_append]; omega) | (simp only [List.length_append]; omega) | (simp only [List.length_append, List.length_take, List.length_drop, List.length_cons, List.length_nil]; omega))⟩) (RdAll.nil _ _ _)))
                    have hT := hS
                    replace hT := hT.freeze (R := Rep.str) (kk := 1617) (L' := [(1104, Ob.box b4 [.int .i64 (1), .slice (some ⟨b3, 0, none⟩) (2) (2)] 24)]) 131 rfl rfl (hT.fact (k := 130) rfl) ⟨rfl, trivial⟩ rfl
                    refine g_yes hS rfl rfl rfl rfl (l_call (cap := []) hS rfl Try.func16 rfl (by kernel_rfl) rfl rfl (c_r01_Same n _ _ hT.lt r16.1 (Au21a1) (cu21a1) (hT.fact (k := 110) rfl) [[112, 105, 99, 107], [116, 111, 105, 101, 115]] (some ⟨b85, 0, none⟩) (2) (hT.fact (k := 131) rfl) r35 hr35) ?_); clear hS hT a; intro v86 a w hK hp hS
                    clear hK
                    obtain rfl := hp.trans (congrArg Value.bool hs38)
                    refine q_seq hS rfl rfl rfl (y_pick_t hS rfl rfl) ?_; clear hS a; intro a hS
                    refine q_seq hS rfl rfl rfl (y_move hS rfl) ?_; clear hS a; intro a hS
                    refine g_yes hS rfl rfl rfl rfl (l_quiet hS rfl rfl (y_move hS rfl) ?_); clear hS a; intro a hS
                    refine g_yes hS rfl rfl rfl rfl (l_quiet hS rfl rfl (yl_b (y_not hS rfl) hs39) ?_); clear hS a; intro a hS
                    refine q_seq hS rfl rfl rfl (y_pick_t hS rfl rfl) ?_; clear hS a; intro a hS
                    refine q_seq hS rfl rfl rfl (y_move hS rfl) ?_; clear hS a; intro a hS
                    refine g_yes hS rfl rfl rfl rfl (l_quiet hS rfl rfl (y_loadBox (kk := 1104) (n := 2) (vs := [.int .i64 (1), .slice (some ⟨b3, 0, none⟩) (2) (2)]) hS rfl rfl Try.underlying24 rfl rfl rfl rfl) ?_); clear hS a; intro a hS
                    refine g_yes hS rfl rfl rfl rfl (l_call (cap := []) hS rfl Try.func17 rfl (by kernel_rfl) rfl rfl (c_affix_Undo n _ _ hS.lt (Affix.mk 1 [(Change.mk [121] [105, 101, 115]), (Change.mk [] [115])]) (some ⟨b3, 0, none⟩) (2) (hS.fact (k := 104) rfl) [102, 108, 105, 101, 115] (by first | omega | (rw [List.length_append]; omega) | (simp only [List.length_append]; omega) | (simp only [List.length_append, List.length_take, List.length_drop, List.length_cons, List.length_nil]; omega)) r40 hr40) ?_); clear hS a; intro v88 a w hK hp hS
                    clear hK
                    obtain ⟨Au89a1, cu89a1, rfl, hu89a1⟩ := hp
                    replace hS := hS.add 132 (slF Rep.str (Au89a1) ((r40).length) (cu89a1) (r40)) hu89a1
                    refine g_yes hS rfl rfl rfl rfl (l_buildDense (sz := 1) hS 1627 rfl rfl rfl Try.underlying34 rfl rfl rfl rfl rfl rfl rfl ?_); clear hS a; intro b90 a w hbb90 hK hS
                    clear hbb90
                    clear hK
                    replace hS := hS.add 133 (rdF Rep.str (cellsOfL [.string (bs ([102, 108, 105, 101])), .string (bs ([102, 108, 121]))]) ([[102, 108, 105, 101], [102, 108, 121]])) (RdAll.cons (by exact ⟨rfl, (by first | omega | (rw [List.length_append]; omega) | (simp only [List.length_append]; omega) | (simp only [List.length_append, List.length_take, List.length_drop, List.length_cons, List.length_nil]; omega))⟩) (RdAll.cons (by exact ⟨rfl, (by first | omega | (rw [List.length_append]; omega) | (simp only [List.length_append]; omega) | (simp only [List.length_append, List.length_take, List.length_drop, List.length_cons, List.length_nil]; omega))⟩) (RdAll.nil _ _ _)))
                    have hT := hS
                    replace hT := hT.freeze (R := Rep.str) (kk := 1627) (L' := [(1104, Ob.box b4 [.int .i64 (1), .slice (some ⟨b3, 0, none⟩) (2) (2)] 24), (1617, Ob.row (some ⟨b85, 0, none⟩) (2) (2) 9 1 (cellsOfL [.string (bs ([112, 105, 99, 107])), .string (bs ([116, 111, 105, 101, 115]))]))]) 134 rfl rfl (hT.fact (k := 133) rfl) ⟨rfl, rfl, trivial⟩ rfl
                    refine g_yes hS rfl rfl rfl rfl (l_call (cap := []) hS rfl Try.func16 rfl (by kernel_rfl) rfl rfl (c_r01_Same n _ _ hT.lt r40 (Au89a1) (cu89a1) (hT.fact (k := 132) rfl) [[102, 108, 105, 101], [102, 108, 121]] (some ⟨b90, 0, none⟩) (2) (hT.fact (k := 134) rfl) r44 hr44) ?_); clear hS hT a; intro v91 a w hK hp hS
                    clear hK
                    obtain rfl := hp.trans (congrArg Value.bool hs47)
                    refine q_seq hS rfl rfl rfl (y_pick_t hS rfl rfl) ?_; clear hS a; intro a hS
                    refine q_seq hS rfl rfl rfl (y_move hS rfl) ?_; clear hS a; intro a hS
                    refine g_yes hS rfl rfl rfl rfl (l_quiet hS rfl rfl (y_loadBox (kk := 1104) (n := 2) (vs := [.int .i64 (1), .slice (some ⟨b3, 0, none⟩) (2) (2)]) hS rfl rfl Try.underlying24 rfl rfl rfl rfl) ?_); clear hS a; intro a hS
                    refine g_yes hS rfl rfl rfl rfl (l_call (cap := []) hS rfl Try.func11 rfl (by kernel_rfl) rfl rfl (c_affix_Check n _ _ hS.lt (Affix.mk 1 [(Change.mk [121] [105, 101, 115]), (Change.mk [] [115])]) (some ⟨b3, 0, none⟩) (2) (hS.fact (k := 104) rfl) r48 hr48) ?_); clear hS a; intro v93 a w hK hp hS
                    clear hK
                    obtain rfl := hp
                    refine g_yes hS rfl rfl rfl rfl (l_quiet hS rfl rfl (yl_b (y_eql hS rfl rfl) hs51e) ?_); clear hS a; intro a hS
                    refine q_seq hS rfl rfl rfl (y_pick_t hS rfl rfl) ?_; clear hS a; intro a hS
                    refine q_seq hS rfl rfl rfl (y_move hS rfl) ?_; clear hS a; intro a hS
                    refine g_no hS rfl rfl rfl rfl rfl rfl rfl ?_; clear hS a; intro a hS
                    refine g_no hS rfl rfl rfl rfl rfl rfl rfl ?_; clear hS a; intro a hS
                    refine g_no hS rfl rfl rfl rfl rfl rfl rfl ?_; clear hS a; intro a hS
                    refine q_seq hS rfl rfl rfl (y_pick_f hS rfl rfl) ?_; clear hS a; intro a hS
                    refine q_seq hS rfl rfl rfl (y_move hS rfl) ?_; clear hS a; intro a hS
                    refine g_no hS rfl rfl rfl rfl rfl rfl rfl ?_; clear hS a; intro a hS
                    refine g_no hS rfl rfl rfl rfl rfl rfl rfl ?_; clear hS a; intro a hS
                    refine g_no hS rfl rfl rfl rfl rfl rfl rfl ?_; clear hS a; intro a hS
                    refine q_seq hS rfl rfl rfl (y_pick_f hS rfl rfl) ?_; clear hS a; intro a hS
                    refine q_seq hS rfl rfl rfl (y_assign hS rfl) ?_; clear hS a; intro a hS
                    apply wpList_nil
                    refine p_norm ?_
                    apply wp_ret
                    obtain rfl := Option.some.inj hg
                    refine fin1 (fn := Try.f10) hS rfl (r_tmp hS rfl) ?_
                    exact rfl
                · replace hg := br_f hg (by rw [hs47]; exact Bool.false_ne_true)
                  apply wp_region_lit
                  refine q_seq hS rfl rfl rfl (yl_b (y_move hS rfl) hs29) ?_; clear hS a; intro a hS
                  refine q_seq hS rfl rfl rfl (y_move hS rfl) ?_; clear hS a; intro a hS
                  refine g_yes hS rfl rfl rfl rfl (l_quiet hS rfl rfl (y_move hS rfl) ?_); clear hS a; intro a hS
                  refine g_yes hS rfl rfl rfl rfl (l_quiet hS rfl rfl (yl_b (y_seq hS rfl rfl) hs30e) ?_); clear hS a; intro a hS
                  refine q_seq hS rfl rfl rfl (y_pick_t hS rfl rfl) ?_; clear hS a; intro a hS
                  refine q_seq hS rfl rfl rfl (y_move hS rfl) ?_; clear hS a; intro a hS
                  refine g_yes hS rfl rfl rfl rfl (l_quiet hS rfl rfl (yl_b (y_move hS rfl) hs31) ?_); clear hS a; intro a hS
                  refine q_seq hS rfl rfl rfl (y_pick_t hS rfl rfl) ?_; clear hS a; intro a hS
                  refine q_seq hS rfl rfl rfl (y_move hS rfl) ?_; clear hS a; intro a hS
                  refine g_yes hS rfl rfl rfl rfl (l_quiet hS rfl rfl (y_move hS rfl) ?_); clear hS a; intro a hS
                  refine g_yes hS rfl rfl rfl rfl (l_quiet hS rfl rfl (yl_b (y_seq hS rfl rfl) hs32e) ?_); clear hS a; intro a hS
                  refine q_seq hS rfl rfl rfl (y_pick_t hS rfl rfl) ?_; clear hS a; intro a hS
                  refine q_seq hS rfl rfl rfl (y_move hS rfl) ?_; clear hS a; intro a hS
                  refine g_yes hS rfl rfl rfl rfl (l_quiet hS rfl rfl (yl_b (y_move hS rfl) hs33) ?_); clear hS a; intro a hS
                  refine q_seq hS rfl rfl rfl (y_pick_t hS rfl rfl) ?_; clear hS a; intro a hS
                  refine q_seq hS rfl rfl rfl (y_move hS rfl) ?_; clear hS a; intro a hS
                  refine g_yes hS rfl rfl rfl rfl (l_quiet hS rfl rfl (y_move hS rfl) ?_); clear hS a; intro a hS
                  refine g_yes hS rfl rfl rfl rfl (l_buildDense (sz := 1) hS 1617 rfl rfl rfl Try.underlying34 rfl rfl rfl rfl rfl rfl rfl ?_); clear hS a; intro b95 a w hbb95 hK hS
                  clear hbb95
                  clear hK
                  replace hS := hS.add 135 (rdF Rep.str (cellsOfL [.string (bs ([112, 105, 99, 107])), .string (bs ([116, 111, 105, 101, 115]))]) ([[112, 105, 99, 107], [116, 111, 105, 101, 115]])) (RdAll.cons (by exact ⟨rfl, (by first | omega | (rw [List.length_append]; omega) | (simp only [List.length_append]; omega) | (simp only [List.length_append, List.length_take, List.length_drop, List.length_cons, List.length_nil]; omega))⟩) (RdAll.cons (by exact ⟨rfl, (by first | omega | (rw [List.length_append]; omega) | (simp only [List.length_append]; omega) | (simp only [List.length_append, List.length_take, List.length_drop, List.length_cons, List.length_nil]; omega))⟩) (RdAll.nil _ _ _)))
                  have hT := hS
                  replace hT := hT.freeze (R := Rep.str) (kk := 1617) (L' := [(1104, Ob.box b4 [.int .i64 (1), .slice (some ⟨b3, 0, none⟩) (2) (2)] 24)]) 136 rfl rfl (hT.fact (k := 135) rfl) ⟨rfl, trivial⟩ rfl
                  refine g_yes hS rfl rfl rfl rfl (l_call (cap := []) hS rfl Try.func16 rfl (by kernel_rfl) rfl rfl (c_r01_Same n _ _ hT.lt r16.1 (Au21a1) (cu21a1) (hT.fact (k := 110) rfl) [[112, 105, 99, 107], [116, 111, 105, 101, 115]] (some ⟨b95, 0, none⟩) (2) (hT.fact (k := 136) rfl) r35 hr35) ?_); clear hS hT a; intro v96 a w hK hp hS
                  clear hK
                  obtain rfl := hp.trans (congrArg Value.bool hs38)
                  refine q_seq hS rfl rfl rfl (y_pick_t hS rfl rfl) ?_; clear hS a; intro a hS
                  refine q_seq hS rfl rfl rfl (y_move hS rfl) ?_; clear hS a; intro a hS
                  refine g_yes hS rfl rfl rfl rfl (l_quiet hS rfl rfl (y_move hS rfl) ?_); clear hS a; intro a hS
                  refine g_yes hS rfl rfl rfl rfl (l_quiet hS rfl rfl (yl_b (y_not hS rfl) hs39) ?_); clear hS a; intro a hS
                  refine q_seq hS rfl rfl rfl (y_pick_t hS rfl rfl) ?_; clear hS a; intro a hS
                  refine q_seq hS rfl rfl rfl (y_move hS rfl) ?_; clear hS a; intro a hS
                  refine g_yes hS rfl rfl rfl rfl (l_quiet hS rfl rfl (y_loadBox (kk := 1104) (n := 2) (vs := [.int .i64 (1), .slice (some ⟨b3, 0, none⟩) (2) (2)]) hS rfl rfl Try.underlying24 rfl rfl rfl rfl) ?_); clear hS a; intro a hS
                  refine g_yes hS rfl rfl rfl rfl (l_call (cap := []) hS rfl Try.func17 rfl (by kernel_rfl) rfl rfl (c_affix_Undo n _ _ hS.lt (Affix.mk 1 [(Change.mk [121] [105, 101, 115]), (Change.mk [] [115])]) (some ⟨b3, 0, none⟩) (2) (hS.fact (k := 104) rfl) [102, 108, 105, 101, 115] (by first | omega | (rw [List.length_append]; omega) | (simp only [List.length_append]; omega) | (simp only [List.length_append, List.length_take, List.length_drop, List.length_cons, List.length_nil]; omega)) r40 hr40) ?_); clear hS a; intro v98 a w hK hp hS
                  clear hK
                  obtain ⟨Au99a1, cu99a1, rfl, hu99a1⟩ := hp
                  replace hS := hS.add 137 (slF Rep.str (Au99a1) ((r40).length) (cu99a1) (r40)) hu99a1
                  refine g_yes hS rfl rfl rfl rfl (l_buildDense (sz := 1) hS 1627 rfl rfl rfl Try.underlying34 rfl rfl rfl rfl rfl rfl rfl ?_); clear hS a; intro b100 a w hbb100 hK hS
                  clear hbb100
                  clear hK
                  replace hS := hS.add 138 (rdF Rep.str (cellsOfL [.string (bs ([102, 108, 105, 101])), .string (bs ([102, 108, 121]))]) ([[102, 108, 105, 101], [102, 108, 121]])) (RdAll.cons (by exact ⟨rfl, (by first | omega | (rw [List.length_append]; omega) | (simp only [List.length_append]; omega) | (simp only [List.length_append, List.length_take, List.length_drop, List.length_cons, List.length_nil]; omega))⟩) (RdAll.cons (by exact ⟨rfl, (by first | omega | (rw [List.length_append]; omega) | (simp only [List.length_append]; omega) | (simp only [List.length_append, List.length_take, List.length_drop, List.length_cons, List.length_nil]; omega))⟩) (RdAll.nil _ _ _)))
                  have hT := hS
                  replace hT := hT.freeze (R := Rep.str) (kk := 1627) (L' := [(1104, Ob.box b4 [.int .i64 (1), .slice (some ⟨b3, 0, none⟩) (2) (2)] 24), (1617, Ob.row (some ⟨b95, 0, none⟩) (2) (2) 9 1 (cellsOfL [.string (bs ([112, 105, 99, 107])), .string (bs ([116, 111, 105, 101, 115]))]))]) 139 rfl rfl (hT.fact (k := 138) rfl) ⟨rfl, rfl, trivial⟩ rfl
                  refine g_yes hS rfl rfl rfl rfl (l_call (cap := []) hS rfl Try.func16 rfl (by kernel_rfl) rfl rfl (c_r01_Same n _ _ hT.lt r40 (Au99a1) (cu99a1) (hT.fact (k := 137) rfl) [[102, 108, 105, 101], [102, 108, 121]] (some ⟨b100, 0, none⟩) (2) (hT.fact (k := 139) rfl) r44 hr44) ?_); clear hS hT a; intro v101 a w hK hp hS
                  clear hK
                  obtain rfl := hp.trans (congrArg Value.bool hs47)
                  refine q_seq hS rfl rfl rfl (y_pick_t hS rfl rfl) ?_; clear hS a; intro a hS
                  refine q_seq hS rfl rfl rfl (y_move hS rfl) ?_; clear hS a; intro a hS
                  refine g_no hS rfl rfl rfl rfl rfl rfl rfl ?_; clear hS a; intro a hS
                  refine g_no hS rfl rfl rfl rfl rfl rfl rfl ?_; clear hS a; intro a hS
                  refine g_no hS rfl rfl rfl rfl rfl rfl rfl ?_; clear hS a; intro a hS
                  refine q_seq hS rfl rfl rfl (y_pick_f hS rfl rfl) ?_; clear hS a; intro a hS
                  refine q_seq hS rfl rfl rfl (y_move hS rfl) ?_; clear hS a; intro a hS
                  refine g_no hS rfl rfl rfl rfl rfl rfl rfl ?_; clear hS a; intro a hS
                  refine g_no hS rfl rfl rfl rfl rfl rfl rfl ?_; clear hS a; intro a hS
                  refine g_no hS rfl rfl rfl rfl rfl rfl rfl ?_; clear hS a; intro a hS
                  refine q_seq hS rfl rfl rfl (y_pick_f hS rfl rfl) ?_; clear hS a; intro a hS
                  refine q_seq hS rfl rfl rfl (y_move hS rfl) ?_; clear hS a; intro a hS
                  refine g_no hS rfl rfl rfl rfl rfl rfl rfl ?_; clear hS a; intro a hS
                  refine g_no hS rfl rfl rfl rfl rfl rfl rfl ?_; clear hS a; intro a hS
                  refine g_no hS rfl rfl rfl rfl rfl rfl rfl ?_; clear hS a; intro a hS
                  refine q_seq hS rfl rfl rfl (y_pick_f hS rfl rfl) ?_; clear hS a; intro a hS
                  refine q_seq hS rfl rfl rfl (y_assign hS rfl) ?_; clear hS a; intro a hS
                  apply wpList_nil
                  refine p_norm ?_
                  apply wp_ret
                  obtain rfl := Option.some.inj hg
                  refine fin1 (fn := Try.f10) hS rfl (r_tmp hS rfl) ?_
                  exact rfl
              · replace hg := br_f hg (by rw [hs39]; exact Bool.false_ne_true)
                apply wp_region_lit
                refine q_seq hS rfl rfl rfl (yl_b (y_move hS rfl) hs29) ?_; clear hS a; intro a hS
                refine q_seq hS rfl rfl rfl (y_move hS rfl) ?_; clear hS a; intro a hS
                refine g_yes hS rfl rfl rfl rfl (l_quiet hS rfl rfl (y_move hS rfl) ?_); clear hS a; intro a hS
                refine g_yes hS rfl rfl rfl rfl (l_quiet hS rfl rfl (yl_b (y_seq hS rfl rfl) hs30e) ?_); clear hS a; intro a hS
                refine q_seq hS rfl rfl rfl (y_pick_t hS rfl rfl) ?_; clear hS a; intro a hS
                refine q_seq hS rfl rfl rfl (y_move hS rfl) ?_; clear hS a; intro a hS
                refine g_yes hS rfl rfl rfl rfl (l_quiet hS rfl rfl (yl_b (y_move hS rfl) hs31) ?_); clear hS a; intro a hS
                refine q_seq hS rfl rfl rfl (y_pick_t hS rfl rfl) ?_; clear hS a; intro a hS
                refine q_seq hS rfl rfl rfl (y_move hS rfl) ?_; clear hS a; intro a hS
                refine g_yes hS rfl rfl rfl rfl (l_quiet hS rfl rfl (y_move hS rfl) ?_); clear hS a; intro a hS
                refine g_yes hS rfl rfl rfl rfl (l_quiet hS rfl rfl (yl_b (y_seq hS rfl rfl) hs32e) ?_); clear hS a; intro a hS
                refine q_seq hS rfl rfl rfl (y_pick_t hS rfl rfl) ?_; clear hS a; intro a hS
                refine q_seq hS rfl rfl rfl (y_move hS rfl) ?_; clear hS a; intro a hS
                refine g_yes hS rfl rfl rfl rfl (l_quiet hS rfl rfl (yl_b (y_move hS rfl) hs33) ?_); clear hS a; intro a hS
                refine q_seq hS rfl rfl rfl (y_pick_t hS rfl rfl) ?_; clear hS a; intro a hS
                refine q_seq hS rfl rfl rfl (y_move hS rfl) ?_; clear hS a; intro a hS
                refine g_yes hS rfl rfl rfl rfl (l_quiet hS rfl rfl (y_move hS rfl) ?_); clear hS a; intro a hS
                refine g_yes hS rfl rfl rfl rfl (l_buildDense (sz := 1) hS 1617 rfl rfl rfl Try.underlying34 rfl rfl rfl rfl rfl rfl rfl ?_); clear hS a; intro b103 a w hbb103 hK hS
                clear hbb103
                clear hK
                replace hS := hS.add 140 (rdF Rep.str (cellsOfL [.string (bs ([112, 105, 99, 107])), .string (bs ([116, 111, 105, 101, 115]))]) ([[112, 105, 99, 107], [116, 111, 105, 101, 115]])) (RdAll.cons (by exact ⟨rfl, (by first | omega | (rw [List.length_append]; omega) | (simp only [List.length_append]; omega) | (simp only [List.length_append, List.length_take, List.length_drop, List.length_cons, List.length_nil]; omega))⟩) (RdAll.cons (by exact ⟨rfl, (by first | omega | (rw [List.length_append]; omega) | (simp only [List.length_append]; omega) | (simp only [List.length_append, List.length_take, List.length_drop, List.length_cons, List.length_nil]; omega))⟩) (RdAll.nil _ _ _)))
                have hT := hS
                replace hT := hT.freeze (R := Rep.str) (kk := 1617) (L' := [(1104, Ob.box b4 [.int .i64 (1), .slice (some ⟨b3, 0, none⟩) (2) (2)] 24)]) 141 rfl rfl (hT.fact (k := 140) rfl) ⟨rfl, trivial⟩ rfl
                refine g_yes hS rfl rfl rfl rfl (l_call (cap := []) hS rfl Try.func16 rfl (by kernel_rfl) rfl rfl (c_r01_Same n _ _ hT.lt r16.1 (Au21a1) (cu21a1) (hT.fact (k := 110) rfl) [[112, 105, 99, 107], [116, 111, 105, 101, 115]] (some ⟨b103, 0, none⟩) (2) (hT.fact (k := 141) rfl) r35 hr35) ?_); clear hS hT a; intro v104 a w hK hp hS
                clear hK
                obtain rfl := hp.trans (congrArg Value.bool hs38)
                refine q_seq hS rfl rfl rfl (y_pick_t hS rfl rfl) ?_; clear hS a; intro a hS
                refine q_seq hS rfl rfl rfl (y_move hS rfl) ?_; clear hS a; intro a hS
                refine g_yes hS rfl rfl rfl rfl (l_quiet hS rfl rfl (y_move hS rfl) ?_); clear hS a; intro a hS
                refine g_yes hS rfl rfl rfl rfl (l_quiet hS rfl rfl (yl_b (y_not hS rfl) hs39) ?_); clear hS a; intro a hS
                refine q_seq hS rfl rfl rfl (y_pick_t hS rfl rfl) ?_; clear hS a; intro a hS
                refine q_seq hS rfl rfl rfl (y_move hS rfl) ?_; clear hS a; intro a hS
                refine g_no hS rfl rfl rfl rfl rfl rfl rfl ?_; clear hS a; intro a hS
                refine g_no hS rfl rfl rfl rfl rfl rfl rfl ?_; clear hS a; intro a hS
                refine g_no hS rfl rfl rfl rfl rfl rfl rfl ?_; clear hS a; intro a hS
                refine g_no hS rfl rfl rfl rfl rfl rfl rfl ?_; clear hS a; intro a hS
                refine q_seq hS rfl rfl rfl (y_pick_f hS rfl rfl) ?_; clear hS a; intro a hS
                refine q_seq hS rfl rfl rfl (y_move hS rfl) ?_; clear hS a; intro a hS
                refine g_no hS rfl rfl rfl rfl rfl rfl rfl ?_; clear hS a; intro a hS
                refine g_no hS rfl rfl rfl rfl rfl rfl rfl ?_; clear hS a; intro a hS
                refine g_no hS rfl rfl rfl rfl rfl rfl rfl ?_; clear hS a; intro a hS
                refine q_seq hS rfl rfl rfl (y_pick_f hS rfl rfl) ?_; clear hS a; intro a hS
                refine q_seq hS rfl rfl rfl (y_move hS rfl) ?_; clear hS a; intro a hS
                refine g_no hS rfl rfl rfl rfl rfl rfl rfl ?_; clear hS a; intro a hS
                refine g_no hS rfl rfl rfl rfl rfl rfl rfl ?_; clear hS a; intro a hS
                refine g_no hS rfl rfl rfl rfl rfl rfl rfl ?_; clear hS a; intro a hS
                refine q_seq hS rfl rfl rfl (y_pick_f hS rfl rfl) ?_; clear hS a; intro a hS
                refine q_seq hS rfl rfl rfl (y_move hS rfl) ?_; clear hS a; intro a hS
                refine g_no hS rfl rfl rfl rfl rfl rfl rfl ?_; clear hS a; intro a hS
                refine g_no hS rfl rfl rfl rfl rfl rfl rfl ?_; clear hS a; intro a hS
                refine g_no hS rfl rfl rfl rfl rfl rfl rfl ?_; clear hS a; intro a hS
                refine q_seq hS rfl rfl rfl (y_pick_f hS rfl rfl) ?_; clear hS a; intro a hS
                refine q_seq hS rfl rfl rfl (y_assign hS rfl) ?_; clear hS a; intro a hS
                apply wpList_nil
                refine p_norm ?_
                apply wp_ret
                obtain rfl := Option.some.inj hg
                refine fin1 (fn := Try.f10) hS rfl (r_tmp hS rfl) ?_
                exact rfl
            · replace hg := br_f hg (by rw [hs38]; exact Bool.false_ne_true)
              apply wp_region_lit
              refine q_seq hS rfl rfl rfl (yl_b (y_move hS rfl) hs29) ?_; clear hS a; intro a hS
              refine q_seq hS rfl rfl rfl (y_move hS rfl) ?_; clear hS a; intro a hS
              refine g_yes hS rfl rfl rfl rfl (l_quiet hS rfl rfl (y_move hS rfl) ?_); clear hS a; intro a hS
              refine g_yes hS rfl rfl rfl rfl (l_quiet hS rfl rfl (yl_b (y_seq hS rfl rfl) hs30e) ?_); clear hS a; intro a hS
              refine q_seq hS rfl rfl rfl (y_pick_t hS rfl rfl) ?_; clear hS a; intro a hS
              refine q_seq hS rfl rfl rfl (y_move hS rfl) ?_; clear hS a; intro a hS
              refine g_yes hS rfl rfl rfl rfl (l_quiet hS rfl rfl (yl_b (y_move hS rfl) hs31) ?_); clear hS a; intro a hS
              refine q_seq hS rfl rfl rfl (y_pick_t hS rfl rfl) ?_; clear hS a; intro a hS
              refine q_seq hS rfl rfl rfl (y_move hS rfl) ?_; clear hS a; intro a hS
              refine g_yes hS rfl rfl rfl rfl (l_quiet hS rfl rfl (y_move hS rfl) ?_); clear hS a; intro a hS
              refine g_yes hS rfl rfl rfl rfl (l_quiet hS rfl rfl (yl_b (y_seq hS rfl rfl) hs32e) ?_); clear hS a; intro a hS
              refine q_seq hS rfl rfl rfl (y_pick_t hS rfl rfl) ?_; clear hS a; intro a hS
              refine q_seq hS rfl rfl rfl (y_move hS rfl) ?_; clear hS a; intro a hS
              refine g_yes hS rfl rfl rfl rfl (l_quiet hS rfl rfl (yl_b (y_move hS rfl) hs33) ?_); clear hS a; intro a hS
              refine q_seq hS rfl rfl rfl (y_pick_t hS rfl rfl) ?_; clear hS a; intro a hS
              refine q_seq hS rfl rfl rfl (y_move hS rfl) ?_; clear hS a; intro a hS
              refine g_yes hS rfl rfl rfl rfl (l_quiet hS rfl rfl (y_move hS rfl) ?_); clear hS a; intro a hS
              refine g_yes hS rfl rfl rfl rfl (l_buildDense (sz := 1) hS 1617 rfl rfl rfl Try.underlying34 rfl rfl rfl rfl rfl rfl rfl ?_); clear hS a; intro b106 a w hbb106 hK hS
              clear hbb106
              clear hK
              replace hS := hS.add 142 (rdF Rep.str (cellsOfL [.string (bs ([112, 105, 99, 107])), .string (bs ([116, 111, 105, 101, 115]))]) ([[112, 105, 99, 107], [116, 111, 105, 101, 115]])) (RdAll.cons (by exact ⟨rfl, (by first | omega | (rw [List.length_append]; omega) | (simp only [List.length_append]; omega) | (simp only [List.length_append, List.length_take, List.length_drop, List.length_cons, List.length_nil]; omega))⟩) (RdAll.cons (by exact ⟨rfl, (by first | omega | (rw [List.length_append]; omega) | (simp only [List.length_append]; omega) | (simp only [List.length_append, List.length_take, List.length_drop, List.length_cons, List.length_nil]; omega))⟩) (RdAll.nil _ _ _)))
              have hT := hS
              replace hT := hT.freeze (R := Rep.str) (kk := 1617) (L' := [(1104, Ob.box b4 [.int .i64 (1), .slice (some ⟨b3, 0, none⟩) (2) (2)] 24)]) 143 rfl rfl (hT.fact (k := 142) rfl) ⟨rfl, trivial⟩ rfl
              refine g_yes hS rfl rfl rfl rfl (l_call (cap := []) hS rfl Try.func16 rfl (by kernel_rfl) rfl rfl (c_r01_Same n _ _ hT.lt r16.1 (Au21a1) (cu21a1) (hT.fact (k := 110) rfl) [[112, 105, 99, 107], [116, 111, 105, 101, 115]] (some ⟨b106, 0, none⟩) (2) (hT.fact (k := 143) rfl) r35 hr35) ?_); clear hS hT a; intro v107 a w hK hp hS
              clear hK
              obtain rfl := hp.trans (congrArg Value.bool hs38)
              refine q_seq hS rfl rfl rfl (y_pick_t hS rfl rfl) ?_; clear hS a; intro a hS
              refine q_seq hS rfl rfl rfl (y_move hS rfl) ?_; clear hS a; intro a hS
              refine g_no hS rfl rfl rfl rfl rfl rfl rfl ?_; clear hS a; intro a hS
              refine g_no hS rfl rfl rfl rfl rfl rfl rfl ?_; clear hS a; intro a hS
              refine q_seq hS rfl rfl rfl (y_pick_f hS rfl rfl) ?_; clear hS a; intro a hS
              refine q_seq hS rfl rfl rfl (y_move hS rfl) ?_; clear hS a; intro a hS
              refine g_no hS rfl rfl rfl rfl rfl rfl rfl ?_; clear hS a; intro a hS
              refine g_no hS rfl rfl rfl rfl rfl rfl rfl ?_; clear hS a; intro a hS
              refine g_no hS rfl rfl rfl rfl rfl rfl rfl ?_; clear hS a; intro a hS
              refine g_no hS rfl rfl rfl rfl rfl rfl rfl ?_; clear hS a; intro a hS
              refine q_seq hS rfl rfl rfl (y_pick_f hS rfl rfl) ?_; clear hS a; intro a hS
              refine q_seq hS rfl rfl rfl (y_move hS rfl) ?_; clear hS a; intro a hS
              refine g_no hS rfl rfl rfl rfl rfl rfl rfl ?_; clear hS a; intro a hS
              refine g_no hS rfl rfl rfl rfl rfl rfl rfl ?_; clear hS a; intro a hS
              refine g_no hS rfl rfl rfl rfl rfl rfl rfl ?_; clear hS a; intro a hS
              refine q_seq hS rfl rfl rfl (y_pick_f hS rfl rfl) ?_; clear hS a; intro a hS
              refine q_seq hS rfl rfl rfl (y_move hS rfl) ?_; clear hS a; intro a hS
              refine g_no hS rfl rfl rfl rfl rfl rfl rfl ?_; clear hS a; intro a hS
              refine g_no hS rfl rfl rfl rfl rfl rfl rfl ?_; clear hS a; intro a hS
              refine g_no hS rfl rfl rfl rfl rfl rfl rfl ?_; clear hS a; intro a hS
              refine q_seq hS rfl rfl rfl (y_pick_f hS rfl rfl) ?_; clear hS a; intro a hS
              refine q_seq hS rfl rfl rfl (y_move hS rfl) ?_; clear hS a; intro a hS
              refine g_no hS rfl rfl rfl rfl rfl rfl rfl ?_; clear hS a; intro a hS
              refine g_no hS rfl rfl rfl rfl rfl rfl rfl ?_; clear hS a; intro a hS
              refine g_no hS rfl rfl rfl rfl rfl rfl rfl ?_; clear hS a; intro a hS
              refine q_seq hS rfl rfl rfl (y_pick_f hS rfl rfl) ?_; clear hS a; intro a hS
              refine q_seq hS rfl rfl rfl (y_assign hS rfl) ?_; clear hS a; intro a hS
              apply wpList_nil
              refine p_norm ?_
              apply wp_ret
              obtain rfl := Option.some.inj hg
              refine fin1 (fn := Try.f10) hS rfl (r_tmp hS rfl) ?_
              exact rfl
          · replace hg := br_f hg (by rw [hs33]; exact Bool.false_ne_true)
            apply wp_region_lit
            refine q_seq hS rfl rfl rfl (yl_b (y_move hS rfl) hs29) ?_; clear hS a; intro a hS
            refine q_seq hS rfl rfl rfl (y_move hS rfl) ?_; clear hS a; intro a hS
            refine g_yes hS rfl rfl rfl rfl (l_quiet hS rfl rfl (y_move hS rfl) ?_); clear hS a; intro a hS
            refine g_yes hS rfl rfl rfl rfl (l_quiet hS rfl rfl (yl_b (y_seq hS rfl rfl) hs30e) ?_); clear hS a; intro a hS
            refine q_seq hS rfl rfl rfl (y_pick_t hS rfl rfl) ?_; clear hS a; intro a hS
            refine q_seq hS rfl rfl rfl (y_move hS rfl) ?_; clear hS a; intro a hS
            refine g_yes hS rfl rfl rfl rfl (l_quiet hS rfl rfl (yl_b (y_move hS rfl) hs31) ?_); clear hS a; intro a hS
            refine q_seq hS rfl rfl rfl (y_pick_t hS rfl rfl) ?_; clear hS a; intro a hS
            refine q_seq hS rfl rfl rfl (y_move hS rfl) ?_; clear hS a; intro a hS
            refine g_yes hS rfl rfl rfl rfl (l_quiet hS rfl rfl (y_move hS rfl) ?_); clear hS a; intro a hS
            refine g_yes hS rfl rfl rfl rfl (l_quiet hS rfl rfl (yl_b (y_seq hS rfl rfl) hs32e) ?_); clear hS a; intro a hS
            refine q_seq hS rfl rfl rfl (y_pick_t hS rfl rfl) ?_; clear hS a; intro a hS
            refine q_seq hS rfl rfl rfl (y_move hS rfl) ?_; clear hS a; intro a hS
            refine g_yes hS rfl rfl rfl rfl (l_quiet hS rfl rfl (yl_b (y_move hS rfl) hs33) ?_); clear hS a; intro a hS
            refine q_seq hS rfl rfl rfl (y_pick_t hS rfl rfl) ?_; clear hS a; intro a hS
            refine q_seq hS rfl rfl rfl (y_move hS rfl) ?_; clear hS a; intro a hS
            refine g_no hS rfl rfl rfl rfl rfl rfl rfl ?_; clear hS a; intro a hS
            refine g_no hS rfl rfl rfl rfl rfl rfl rfl ?_; clear hS a; intro a hS
            refine g_no hS rfl rfl rfl rfl rfl rfl rfl ?_; clear hS a; intro a hS
            refine q_seq hS rfl rfl rfl (y_pick_f hS rfl rfl) ?_; clear hS a; intro a hS
            refine q_seq hS rfl rfl rfl (y_move hS rfl) ?_; clear hS a; intro a hS
            refine g_no hS rfl rfl rfl rfl rfl rfl rfl ?_; clear hS a; intro a hS
            refine g_no hS rfl rfl rfl rfl rfl rfl rfl ?_; clear hS a; intro a hS
            refine q_seq hS rfl rfl rfl (y_pick_f hS rfl rfl) ?_; clear hS a; intro a hS
            refine q_seq hS rfl rfl rfl (y_move hS rfl) ?_; clear hS a; intro a hS
            refine g_no hS rfl rfl rfl rfl rfl rfl rfl ?_; clear hS a; intro a hS
            refine g_no hS rfl rfl rfl rfl rfl rfl rfl ?_; clear hS a; intro a hS
            refine g_no hS rfl rfl rfl rfl rfl rfl rfl ?_; clear hS a; intro a hS
            refine g_no hS rfl rfl rfl rfl rfl rfl rfl ?_; clear hS a; intro a hS
            refine q_seq hS rfl rfl rfl (y_pick_f hS rfl rfl) ?_; clear hS a; intro a hS
            refine q_seq hS rfl rfl rfl (y_move hS rfl) ?_; clear hS a; intro a hS
            refine g_no hS rfl rfl rfl rfl rfl rfl rfl ?_; clear hS a; intro a hS
            refine g_no hS rfl rfl rfl rfl rfl rfl rfl ?_; clear hS a; intro a hS
            refine g_no hS rfl rfl rfl rfl rfl rfl rfl ?_; clear hS a; intro a hS
            refine q_seq hS rfl rfl rfl (y_pick_f hS rfl rfl) ?_; clear hS a; intro a hS
            refine q_seq hS rfl rfl rfl (y_move hS rfl) ?_; clear hS a; intro a hS
            refine g_no hS rfl rfl rfl rfl rfl rfl rfl ?_; clear hS a; intro a hS
            refine g_no hS rfl rfl rfl rfl rfl rfl rfl ?_; clear hS a; intro a hS
            refine g_no hS rfl rfl rfl rfl rfl rfl rfl ?_; clear hS a; intro a hS
            refine q_seq hS rfl rfl rfl (y_pick_f hS rfl rfl) ?_; clear hS a; intro a hS
            refine q_seq hS rfl rfl rfl (y_move hS rfl) ?_; clear hS a; intro a hS
            refine g_no hS rfl rfl rfl rfl rfl rfl rfl ?_; clear hS a; intro a hS
            refine g_no hS rfl rfl rfl rfl rfl rfl rfl ?_; clear hS a; intro a hS
            refine g_no hS rfl rfl rfl rfl rfl rfl rfl ?_; clear hS a; intro a hS
            refine q_seq hS rfl rfl rfl (y_pick_f hS rfl rfl) ?_; clear hS a; intro a hS
            refine q_seq hS rfl rfl rfl (y_assign hS rfl) ?_; clear hS a; intro a hS
            apply wpList_nil
            refine p_norm ?_
            apply wp_ret
            obtain rfl := Option.some.inj hg
            refine fin1 (fn := Try.f10) hS rfl (r_tmp hS rfl) ?_
            exact rfl
        · have hs32e : decide ((r10.1 : List UInt8) = [121, 115]) = false := decide_eq_false hs32
          replace hg := br_f hg hs32
          apply wp_region_lit
          refine q_seq hS rfl rfl rfl (yl_b (y_move hS rfl) hs29) ?_; clear hS a; intro a hS
          refine q_seq hS rfl rfl rfl (y_move hS rfl) ?_; clear hS a; intro a hS
          refine g_yes hS rfl rfl rfl rfl (l_quiet hS rfl rfl (y_move hS rfl) ?_); clear hS a; intro a hS
          refine g_yes hS rfl rfl rfl rfl (l_quiet hS rfl rfl (yl_b (y_seq hS rfl rfl) hs30e) ?_); clear hS a; intro a hS
          refine q_seq hS rfl rfl rfl (y_pick_t hS rfl rfl) ?_; clear hS a; intro a hS
          refine q_seq hS rfl rfl rfl (y_move hS rfl) ?_; clear hS a; intro a hS
          refine g_yes hS rfl rfl rfl rfl (l_quiet hS rfl rfl (yl_b (y_move hS rfl) hs31) ?_); clear hS a; intro a hS
          refine q_seq hS rfl rfl rfl (y_pick_t hS rfl rfl) ?_; clear hS a; intro a hS
          refine q_seq hS rfl rfl rfl (y_move hS rfl) ?_; clear hS a; intro a hS
          refine g_yes hS rfl rfl rfl rfl (l_quiet hS rfl rfl (y_move hS rfl) ?_); clear hS a; intro a hS
          refine g_yes hS rfl rfl rfl rfl (l_quiet hS rfl rfl (yl_b (y_seq hS rfl rfl) hs32e) ?_); clear hS a; intro a hS
          refine q_seq hS rfl rfl rfl (y_pick_t hS rfl rfl) ?_; clear hS a; intro a hS
          refine q_seq hS rfl rfl rfl (y_move hS rfl) ?_; clear hS a; intro a hS
          refine g_no hS rfl rfl rfl rfl rfl rfl rfl ?_; clear hS a; intro a hS
          refine q_seq hS rfl rfl rfl (y_pick_f hS rfl rfl) ?_; clear hS a; intro a hS
          refine q_seq hS rfl rfl rfl (y_move hS rfl) ?_; clear hS a; intro a hS
          refine g_no hS rfl rfl rfl rfl rfl rfl rfl ?_; clear hS a; intro a hS
          refine g_no hS rfl rfl rfl rfl rfl rfl rfl ?_; clear hS a; intro a hS
          refine g_no hS rfl rfl rfl rfl rfl rfl rfl ?_; clear hS a; intro a hS
          refine q_seq hS rfl rfl rfl (y_pick_f hS rfl rfl) ?_; clear hS a; intro a hS
          refine q_seq hS rfl rfl rfl (y_move hS rfl) ?_; clear hS a; intro a hS
          refine g_no hS rfl rfl rfl rfl rfl rfl rfl ?_; clear hS a; intro a hS
          refine g_no hS rfl rfl rfl rfl rfl rfl rfl ?_; clear hS a; intro a hS
          refine q_seq hS rfl rfl rfl (y_pick_f hS rfl rfl) ?_; clear hS a; intro a hS
          refine q_seq hS rfl rfl rfl (y_move hS rfl) ?_; clear hS a; intro a hS
          refine g_no hS rfl rfl rfl rfl rfl rfl rfl ?_; clear hS a; intro a hS
          refine g_no hS rfl rfl rfl rfl rfl rfl rfl ?_; clear hS a; intro a hS
          refine g_no hS rfl rfl rfl rfl rfl rfl rfl ?_; clear hS a; intro a hS
          refine g_no hS rfl rfl rfl rfl rfl rfl rfl ?_; clear hS a; intro a hS
          refine q_seq hS rfl rfl rfl (y_pick_f hS rfl rfl) ?_; clear hS a; intro a hS
          refine q_seq hS rfl rfl rfl (y_move hS rfl) ?_; clear hS a; intro a hS
          refine g_no hS rfl rfl rfl rfl rfl rfl rfl ?_; clear hS a; intro a hS
          refine g_no hS rfl rfl rfl rfl rfl rfl rfl ?_; clear hS a; intro a hS
          refine g_no hS rfl rfl rfl rfl rfl rfl rfl ?_; clear hS a; intro a hS
          refine q_seq hS rfl rfl rfl (y_pick_f hS rfl rfl) ?_; clear hS a; intro a hS
          refine q_seq hS rfl rfl rfl (y_move hS rfl) ?_; clear hS a; intro a hS
          refine g_no hS rfl rfl rfl rfl rfl rfl rfl ?_; clear hS a; intro a hS
          refine g_no hS rfl rfl rfl rfl rfl rfl rfl ?_; clear hS a; intro a hS
          refine g_no hS rfl rfl rfl rfl rfl rfl rfl ?_; clear hS a; intro a hS
          refine q_seq hS rfl rfl rfl (y_pick_f hS rfl rfl) ?_; clear hS a; intro a hS
          refine q_seq hS rfl rfl rfl (y_move hS rfl) ?_; clear hS a; intro a hS
          refine g_no hS rfl rfl rfl rfl rfl rfl rfl ?_; clear hS a; intro a hS
          refine g_no hS rfl rfl rfl rfl rfl rfl rfl ?_; clear hS a; intro a hS
          refine g_no hS rfl rfl rfl rfl rfl rfl rfl ?_; clear hS a; intro a hS
          refine q_seq hS rfl rfl rfl (y_pick_f hS rfl rfl) ?_; clear hS a; intro a hS
          refine q_seq hS rfl rfl rfl (y_assign hS rfl) ?_; clear hS a; intro a hS
          apply wpList_nil
          refine p_norm ?_
          apply wp_ret
          obtain rfl := Option.some.inj hg
          refine fin1 (fn := Try.f10) hS rfl (r_tmp hS rfl) ?_
          exact rfl
      · replace hg := br_f hg (by rw [hs31]; exact Bool.false_ne_true)
        apply wp_region_lit
        refine q_seq hS rfl rfl rfl (yl_b (y_move hS rfl) hs29) ?_; clear hS a; intro a hS
        refine q_seq hS rfl rfl rfl (y_move hS rfl) ?_; clear hS a; intro a hS
        refine g_yes hS rfl rfl rfl rfl (l_quiet hS rfl rfl (y_move hS rfl) ?_); clear hS a; intro a hS
        refine g_yes hS rfl rfl rfl rfl (l_quiet hS rfl rfl (yl_b (y_seq hS rfl rfl) hs30e) ?_); clear hS a; intro a hS
        refine q_seq hS rfl rfl rfl (y_pick_t hS rfl rfl) ?_; clear hS a; intro a hS
        refine q_seq hS rfl rfl rfl (y_move hS rfl) ?_; clear hS a; intro a hS
        refine g_yes hS rfl rfl rfl rfl (l_quiet hS rfl rfl (yl_b (y_move hS rfl) hs31) ?_); clear hS a; intro a hS
        refine q_seq hS rfl rfl rfl (y_pick_t hS rfl rfl) ?_; clear hS a; intro a hS
        refine q_seq hS rfl rfl rfl (y_move hS rfl) ?_; clear hS a; intro a hS
        refine g_no hS rfl rfl rfl rfl rfl rfl rfl ?_; clear hS a; intro a hS
        refine g_no hS rfl rfl rfl rfl rfl rfl rfl ?_; clear hS a; intro a hS
        refine q_seq hS rfl rfl rfl (y_pick_f hS rfl rfl) ?_; clear hS a; intro a hS
        refine q_seq hS rfl rfl rfl (y_move hS rfl) ?_; clear hS a; intro a hS
        refine g_no hS rfl rfl rfl rfl rfl rfl rfl ?_; clear hS a; intro a hS
        refine q_seq hS rfl rfl rfl (y_pick_f hS rfl rfl) ?_; clear hS a; intro a hS
        refine q_seq hS rfl rfl rfl (y_move hS rfl) ?_; clear hS a; intro a hS
        refine g_no hS rfl rfl rfl rfl rfl rfl rfl ?_; clear hS a; intro a hS
        refine g_no hS rfl rfl rfl rfl rfl rfl rfl ?_; clear hS a; intro a hS
        refine g_no hS rfl rfl rfl rfl rfl rfl rfl ?_; clear hS a; intro a hS
        refine q_seq hS rfl rfl rfl (y_pick_f hS rfl rfl) ?_; clear hS a; intro a hS
        refine q_seq hS rfl rfl rfl (y_move hS rfl) ?_; clear hS a; intro a hS
        refine g_no hS rfl rfl rfl rfl rfl rfl rfl ?_; clear hS a; intro a hS
        refine g_no hS rfl rfl rfl rfl rfl rfl rfl ?_; clear hS a; intro a hS
        refine q_seq hS rfl rfl rfl (y_pick_f hS rfl rfl) ?_; clear hS a; intro a hS
        refine q_seq hS rfl rfl rfl (y_move hS rfl) ?_; clear hS a; intro a hS
        refine g_no hS rfl rfl rfl rfl rfl rfl rfl ?_; clear hS a; intro a hS
        refine g_no hS rfl rfl rfl rfl rfl rfl rfl ?_; clear hS a; intro a hS
        refine g_no hS rfl rfl rfl rfl rfl rfl rfl ?_; clear hS a; intro a hS
        refine g_no hS rfl rfl rfl rfl rfl rfl rfl ?_; clear hS a; intro a hS
        refine q_seq hS rfl rfl rfl (y_pick_f hS rfl rfl) ?_; clear hS a; intro a hS
        refine q_seq hS rfl rfl rfl (y_move hS rfl) ?_; clear hS a; intro a hS
        refine g_no hS rfl rfl rfl rfl rfl rfl rfl ?_; clear hS a; intro a hS
        refine g_no hS rfl rfl rfl rfl rfl rfl rfl ?_; clear hS a; intro a hS
        refine g_no hS rfl rfl rfl rfl rfl rfl rfl ?_; clear hS a; intro a hS
        refine q_seq hS rfl rfl rfl (y_pick_f hS rfl rfl) ?_; clear hS a; intro a hS
        refine q_seq hS rfl rfl rfl (y_move hS rfl) ?_; clear hS a; intro a hS
        refine g_no hS rfl rfl rfl rfl rfl rfl rfl ?_; clear hS a; intro a hS
        refine g_no hS rfl rfl rfl rfl rfl rfl rfl ?_; clear hS a; intro a hS
        refine g_no hS rfl rfl rfl rfl rfl rfl rfl ?_; clear hS a; intro a hS
        refine q_seq hS rfl rfl rfl (y_pick_f hS rfl rfl) ?_; clear hS a; intro a hS
        refine q_seq hS rfl rfl rfl (y_move hS rfl) ?_; clear hS a; intro a hS
        refine g_no hS rfl rfl rfl rfl rfl rfl rfl ?_; clear hS a; intro a hS
        refine g_no hS rfl rfl rfl rfl rfl rfl rfl ?_; clear hS a; intro a hS
        refine g_no hS rfl rfl rfl rfl rfl rfl rfl ?_; clear hS a; intro a hS
        refine q_seq hS rfl rfl rfl (y_pick_f hS rfl rfl) ?_; clear hS a; intro a hS
        refine q_seq hS rfl rfl rfl (y_assign hS rfl) ?_; clear hS a; intro a hS
        apply wpList_nil
        refine p_norm ?_
        apply wp_ret
        obtain rfl := Option.some.inj hg
        refine fin1 (fn := Try.f10) hS rfl (r_tmp hS rfl) ?_
        exact rfl
    · have hs30e : decide ((r5.1 : List UInt8) = [102, 108, 105, 101, 115]) = false := decide_eq_false hs30
      replace hg := br_f hg hs30
      apply wp_region_lit
      refine q_seq hS rfl rfl rfl (yl_b (y_move hS rfl) hs29) ?_; clear hS a; intro a hS
      refine q_seq hS rfl rfl rfl (y_move hS rfl) ?_; clear hS a; intro a hS
      refine g_yes hS rfl rfl rfl rfl (l_quiet hS rfl rfl (y_move hS rfl) ?_); clear hS a; intro a hS
      refine g_yes hS rfl rfl rfl rfl (l_quiet hS rfl rfl (yl_b (y_seq hS rfl rfl) hs30e) ?_); clear hS a; intro a hS
      refine q_seq hS rfl rfl rfl (y_pick_t hS rfl rfl) ?_; clear hS a; intro a hS
      refine q_seq hS rfl rfl rfl (y_move hS rfl) ?_; clear hS a; intro a hS
      refine g_no hS rfl rfl rfl rfl rfl rfl rfl ?_; clear hS a; intro a hS
      refine q_seq hS rfl rfl rfl (y_pick_f hS rfl rfl) ?_; clear hS a; intro a hS
      refine q_seq hS rfl rfl rfl (y_move hS rfl) ?_; clear hS a; intro a hS
      refine g_no hS rfl rfl rfl rfl rfl rfl rfl ?_; clear hS a; intro a hS
      refine g_no hS rfl rfl rfl rfl rfl rfl rfl ?_; clear hS a; intro a hS
      refine q_seq hS rfl rfl rfl (y_pick_f hS rfl rfl) ?_; clear hS a; intro a hS
      refine q_seq hS rfl rfl rfl (y_move hS rfl) ?_; clear hS a; intro a hS
      refine g_no hS rfl rfl rfl rfl rfl rfl rfl ?_; clear hS a; intro a hS
      refine q_seq hS rfl rfl rfl (y_pick_f hS rfl rfl) ?_; clear hS a; intro a hS
      refine q_seq hS rfl rfl rfl (y_move hS rfl) ?_; clear hS a; intro a hS
      refine g_no hS rfl rfl rfl rfl rfl rfl rfl ?_; clear hS a; intro a hS
      refine g_no hS rfl rfl rfl rfl rfl rfl rfl ?_; clear hS a; intro a hS
      refine g_no hS rfl rfl rfl rfl rfl rfl rfl ?_; clear hS a; intro a hS
      refine q_seq hS rfl rfl rfl (y_pick_f hS rfl rfl) ?_; clear hS a; intro a hS
      refine q_seq hS rfl rfl rfl (y_move hS rfl) ?_; clear hS a; intro a hS
      refine g_no hS rfl rfl rfl rfl rfl rfl rfl ?_; clear hS a; intro a hS
      refine g_no hS rfl rfl rfl rfl rfl rfl rfl ?_; clear hS a; intro a hS
      refine q_seq hS rfl rfl rfl (y_pick_f hS rfl rfl) ?_; clear hS a; intro a hS
      refine q_seq hS rfl rfl rfl (y_move hS rfl) ?_; clear hS a; intro a hS
      refine g_no hS rfl rfl rfl rfl rfl rfl rfl ?_; clear hS a; intro a hS
      refine g_no hS rfl rfl rfl rfl rfl rfl rfl ?_; clear hS a; intro a hS
      refine g_no hS rfl rfl rfl rfl rfl rfl rfl ?_; clear hS a; intro a hS
      refine g_no hS rfl rfl rfl rfl rfl rfl rfl ?_; clear hS a; intro a hS
      refine q_seq hS rfl rfl rfl (y_pick_f hS rfl rfl) ?_; clear hS a; intro a hS
      refine q_seq hS rfl rfl rfl (y_move hS rfl) ?_; clear hS a; intro a hS
      refine g_no hS rfl rfl rfl rfl rfl rfl rfl ?_; clear hS a; intro a hS
      refine g_no hS rfl rfl rfl rfl rfl rfl rfl ?_; clear hS a; intro a hS
      refine g_no hS rfl rfl rfl rfl rfl rfl rfl ?_; clear hS a; intro a hS
      refine q_seq hS rfl rfl rfl (y_pick_f hS rfl rfl) ?_; clear hS a; intro a hS
      refine q_seq hS rfl rfl rfl (y_move hS rfl) ?_; clear hS a; intro a hS
      refine g_no hS rfl rfl rfl rfl rfl rfl rfl ?_; clear hS a; intro a hS
      refine g_no hS rfl rfl rfl rfl rfl rfl rfl ?_; clear hS a; intro a hS
      refine g_no hS rfl rfl rfl rfl rfl rfl rfl ?_; clear hS a; intro a hS
      refine q_seq hS rfl rfl rfl (y_pick_f hS rfl rfl) ?_; clear hS a; intro a hS
      refine q_seq hS rfl rfl rfl (y_move hS rfl) ?_; clear hS a; intro a hS
      refine g_no hS rfl rfl rfl rfl rfl rfl rfl ?_; clear hS a; intro a hS
      refine g_no hS rfl rfl rfl rfl rfl rfl rfl ?_; clear hS a; intro a hS
      refine g_no hS rfl rfl rfl rfl rfl rfl rfl ?_; clear hS a; intro a hS
      refine q_seq hS rfl rfl rfl (y_pick_f hS rfl rfl) ?_; clear hS a; intro a hS
      refine q_seq hS rfl rfl rfl (y_assign hS rfl) ?_; clear hS a; intro a hS
      apply wpList_nil
      refine p_norm ?_
      apply wp_ret
      obtain rfl := Option.some.inj hg
      refine fin1 (fn := Try.f10) hS rfl (r_tmp hS rfl) ?_
      exact rfl
  · replace hg := br_f hg (by rw [hs29]; exact Bool.false_ne_true)
    apply wp_region_lit
    refine q_seq hS rfl rfl rfl (yl_b (y_move hS rfl) hs29) ?_; clear hS a; intro a hS
    refine q_seq hS rfl rfl rfl (y_move hS rfl) ?_; clear hS a; intro a hS
    refine g_no hS rfl rfl rfl rfl rfl rfl rfl ?_; clear hS a; intro a hS
    refine g_no hS rfl rfl rfl rfl rfl rfl rfl ?_; clear hS a; intro a hS
    refine q_seq hS rfl rfl rfl (y_pick_f hS rfl rfl) ?_; clear hS a; intro a hS
    refine q_seq hS rfl rfl rfl (y_move hS rfl) ?_; clear hS a; intro a hS
    refine g_no hS rfl rfl rfl rfl rfl rfl rfl ?_; clear hS a; intro a hS
    refine q_seq hS rfl rfl rfl (y_pick_f hS rfl rfl) ?_; clear hS a; intro a hS
    refine q_seq hS rfl rfl rfl (y_move hS rfl) ?_; clear hS a; intro a hS
    refine g_no hS rfl rfl rfl rfl rfl rfl rfl ?_; clear hS a; intro a hS
    refine g_no hS rfl rfl rfl rfl rfl rfl rfl ?_; clear hS a; intro a hS
    refine q_seq hS rfl rfl rfl (y_pick_f hS rfl rfl) ?_; clear hS a; intro a hS
    refine q_seq hS rfl rfl rfl (y_move hS rfl) ?_; clear hS a; intro a hS
    refine g_no hS rfl rfl rfl rfl rfl rfl rfl ?_; clear hS a; intro a hS
    refine q_seq hS rfl rfl rfl (y_pick_f hS rfl rfl) ?_; clear hS a; intro a hS
    refine q_seq hS rfl rfl rfl (y_move hS rfl) ?_; clear hS a; intro a hS
    refine g_no hS rfl rfl rfl rfl rfl rfl rfl ?_; clear hS a; intro a hS
    refine g_no hS rfl rfl rfl rfl rfl rfl rfl ?_; clear hS a; intro a hS
    refine g_no hS rfl rfl rfl rfl rfl rfl rfl ?_; clear hS a; intro a hS
    refine q_seq hS rfl rfl rfl (y_pick_f hS rfl rfl) ?_; clear hS a; intro a hS
    refine q_seq hS rfl rfl rfl (y_move hS rfl) ?_; clear hS a; intro a hS
    refine g_no hS rfl rfl rfl rfl rfl rfl rfl ?_; clear hS a; intro a hS
    refine g_no hS rfl rfl rfl rfl rfl rfl rfl ?_; clear hS a; intro a hS
    refine q_seq hS rfl rfl rfl (y_pick_f hS rfl rfl) ?_; clear hS a; intro a hS
    refine q_seq hS rfl rfl rfl (y_move hS rfl) ?_; clear hS a; intro a hS
    refine g_no hS rfl rfl rfl rfl rfl rfl rfl ?_; clear hS a; intro a hS
    refine g_no hS rfl rfl rfl rfl rfl rfl rfl ?_; clear hS a; intro a hS
    refine g_no hS rfl rfl rfl rfl rfl rfl rfl ?_; clear hS a; intro a hS
    refine g_no hS rfl rfl rfl rfl rfl rfl rfl ?_; clear hS a; intro a hS
    refine q_seq hS rfl rfl rfl (y_pick_f hS rfl rfl) ?_; clear hS a; intro a hS
    refine q_seq hS rfl rfl rfl (y_move hS rfl) ?_; clear hS a; intro a hS
    refine g_no hS rfl rfl rfl rfl rfl rfl rfl ?_; clear hS a; intro a hS
    refine g_no hS rfl rfl rfl rfl rfl rfl rfl ?_; clear hS a; intro a hS
    refine g_no hS rfl rfl rfl rfl rfl rfl rfl ?_; clear hS a; intro a hS
    refine q_seq hS rfl rfl rfl (y_pick_f hS rfl rfl) ?_; clear hS a; intro a hS
    refine q_seq hS rfl rfl rfl (y_move hS rfl) ?_; clear hS a; intro a hS
    refine g_no hS rfl rfl rfl rfl rfl rfl rfl ?_; clear hS a; intro a hS
    refine g_no hS rfl rfl rfl rfl rfl rfl rfl ?_; clear hS a; intro a hS
    refine g_no hS rfl rfl rfl rfl rfl rfl rfl ?_; clear hS a; intro a hS
    refine q_seq hS rfl rfl rfl (y_pick_f hS rfl rfl) ?_; clear hS a; intro a hS
    refine q_seq hS rfl rfl rfl (y_move hS rfl) ?_; clear hS a; intro a hS
    refine g_no hS rfl rfl rfl rfl rfl rfl rfl ?_; clear hS a; intro a hS
    refine g_no hS rfl rfl rfl rfl rfl rfl rfl ?_; clear hS a; intro a hS
    refine g_no hS rfl rfl rfl rfl rfl rfl rfl ?_; clear hS a; intro a hS
    refine q_seq hS rfl rfl rfl (y_pick_f hS rfl rfl) ?_; clear hS a; intro a hS
    refine q_seq hS rfl rfl rfl (y_assign hS rfl) ?_; clear hS a; intro a hS
    apply wpList_nil
    refine p_norm ?_
    apply wp_ret
    obtain rfl := Option.some.inj hg
    refine fin1 (fn := Try.f10) hS rfl (r_tmp hS rfl) ?_
    exact rfl
set_option maxHeartbeats 400000 in
theorem c_r23_plain (n : Nat) (M : Bs) (w0 : World) (hM : ∀ b, M b → b < w0.heap.size) (s_ : (List UInt8)) (lp01 : (s_).length ≤ 9223372036854775807) (r : Bool) (hg : r23_plain n s_ = some r) :
    Calls Try.prog 25 [.string (bs (s_))].toArray w0 (Ret noB w0 fun v w => v = .bool (r)) := by
  unfold r23_plain at hg
  refine enter M noB Try.func25 rfl rfl hM ?_
  intro a hS
  apply wp_seq
  apply wp_region_lit
  refine q_seq hS rfl rfl rfl (y_assign hS rfl) ?_; clear hS a; intro a hS
  apply wpList_nil
  refine p_norm ?_
  apply wp_seq
  apply wp_seq
  apply wp_region_lit
  refine q_seq hS rfl rfl rfl (y_assign hS rfl) ?_; clear hS a; intro a hS
  apply wpList_nil
  refine p_norm ?_
  apply wp_block
  refine c_loop (σ := Nat) (fun m1 a w => ∃ (i_1 : Nat), r23_plain_L0 n s_ m1 i_1 = some r ∧ St (⟨Try.f25.ntmps, M, noB, w0⟩ : Ctx) [(0, .string (bs (s_))), (3, .int .i64 (((i_1 : Nat) : Int)))] [] [] a w) (fun m1 => m1) n ⟨(0), hg, (hS.sub ⟨rfl, rfl, trivial⟩ trivial trivial)⟩ ?_
  clear hS a; rintro m1 a w ⟨i_1, hg, hS⟩
  rcases m1 with _ | m1
  · rw [r23_plain_L0] at hg; cases hg
  rw [r23_plain_L0] at hg
  apply wp_seq
  apply wp_seq
  apply wp_region_lit
  refine q_seq hS rfl rfl rfl (y_move hS rfl) ?_; clear hS a; intro a hS
  refine q_seq hS rfl rfl rfl (y_move hS rfl) ?_; clear hS a; intro a hS
  refine q_seq hS rfl rfl rfl (y_lenStrN hS rfl Try.underlying9) ?_; clear hS a; intro a hS
  refine q_seq hS rfl rfl rfl (y_lssN (i := i_1) (j := ((s_).length)) hS rfl rfl) ?_; clear hS a; intro a hS
  apply wpList_nil
  refine p_norm ?_
  refine c_dec hS rfl (fun hc2 => ?_) (fun hc2 => ?_)
  · replace hg := br_t hg hc2
    have hmx3 : (s_).length ≤ 9223372036854775807 := (by first | omega | (rw [List.length_append]; omega) | (simp only [List.length_append]; omega) | (simp only [List.length_append, List.length_take, List.length_drop, List.length_cons, List.length_nil]; omega))
    apply wp_skip
    refine p_norm ?_
    apply wp_seq
    apply wp_block
    apply wp_seq
    replace hg := bind_some hg; obtain ⟨c4, hc4, hg⟩ := hg
    apply wp_region_lit
    refine q_seq hS rfl rfl rfl (y_move hS rfl) ?_; clear hS a; intro a hS
    refine q_seq hS rfl rfl rfl (y_move hS rfl) ?_; clear hS a; intro a hS
    refine q_seq hS rfl rfl rfl (y_indexN (i := i_1) hS rfl rfl Try.underlying9 rfl hc4) ?_; clear hS a; intro a hS
    refine q_seq hS rfl rfl rfl (y_assign hS rfl) ?_; clear hS a; intro a hS
    apply wpList_nil
    refine p_norm ?_
    apply wp_seq
    replace hg := jn_some hg; obtain ⟨k5, hg, hk5⟩ := hg
    refine c_post (fun a w => ∃ (t_6 : Bool), k5 t_6 = some r ∧ St (⟨Try.f25.ntmps, M, noB, w0⟩ : Ctx) [(0, .string (bs (s_))), (3, .int .i64 (((i_1 : Nat) : Int))), (35, .bool (t_6))] [] [] a w) ?_ ?_
    · rcases Decidable.em (c4.toNat < 33) with hs7 | hs7
      · have hs7e : decide (c4.toNat < 33) = true := decide_eq_true hs7
        replace hg := br_t hg hs7
        apply wp_region_lit
        refine q_seq hS rfl rfl rfl (y_move hS rfl) ?_; clear hS a; intro a hS
        refine q_seq hS rfl rfl rfl (yl_b (y_lssN (i := c4.toNat) (j := 33) hS rfl rfl) hs7e) ?_; clear hS a; intro a hS
        refine q_seq hS rfl rfl rfl (y_move hS rfl) ?_; clear hS a; intro a hS
        refine g_no hS rfl rfl rfl rfl rfl rfl rfl ?_; clear hS a; intro a hS
        refine g_no hS rfl rfl rfl rfl rfl rfl rfl ?_; clear hS a; intro a hS
        refine q_seq hS rfl rfl rfl (y_pick_t hS rfl rfl) ?_; clear hS a; intro a hS
        refine q_seq hS rfl rfl rfl (y_move hS rfl) ?_; clear hS a; intro a hS
        refine g_no hS rfl rfl rfl rfl rfl rfl rfl ?_; clear hS a; intro a hS
        refine g_no hS rfl rfl rfl rfl rfl rfl rfl ?_; clear hS a; intro a hS
        refine g_no hS rfl rfl rfl rfl rfl rfl rfl ?_; clear hS a; intro a hS
        refine g_no hS rfl rfl rfl rfl rfl rfl rfl ?_; clear hS a; intro a hS
        refine g_no hS rfl rfl rfl rfl rfl rfl rfl ?_; clear hS a; intro a hS
        refine g_no hS rfl rfl rfl rfl rfl rfl rfl ?_; clear hS a; intro a hS
        refine q_seq hS rfl rfl rfl (y_pick_t hS rfl rfl) ?_; clear hS a; intro a hS
        refine q_seq hS rfl rfl rfl (y_move hS rfl) ?_; clear hS a; intro a hS
        refine g_no hS rfl rfl rfl rfl rfl rfl rfl ?_; clear hS a; intro a hS
        refine g_no hS rfl rfl rfl rfl rfl rfl rfl ?_; clear hS a; intro a hS
        refine q_seq hS rfl rfl rfl (y_pick_t hS rfl rfl) ?_; clear hS a; intro a hS
        refine q_seq hS rfl rfl rfl (y_move hS rfl) ?_; clear hS a; intro a hS
        refine g_no hS rfl rfl rfl rfl rfl rfl rfl ?_; clear hS a; intro a hS
        refine g_no hS rfl rfl rfl rfl rfl rfl rfl ?_; clear hS a; intro a hS
        refine q_seq hS rfl rfl rfl (y_pick_t hS rfl rfl) ?_; clear hS a; intro a hS
        apply wpList_nil
        refine p_norm ?_
        exact ⟨(true), hg, (hS.sub ⟨rfl, rfl, rfl, trivial⟩ trivial trivial)⟩
      · have hs7e : decide (c4.toNat < 33) = false := decide_eq_false hs7
        replace hg := br_f hg hs7
        rcases Decidable.em ((126 : Nat) < c4.toNat) with hs8 | hs8
        · have hs8e : decide ((126 : Nat) < c4.toNat) = true := decide_eq_true hs8
          replace hg := br_t hg hs8
          apply wp_region_lit
          refine q_seq hS rfl rfl rfl (y_move hS rfl) ?_; clear hS a; intro a hS
          refine q_seq hS rfl rfl rfl (yl_b (y_lssN (i := c4.toNat) (j := 33) hS rfl rfl) hs7e) ?_; clear hS a; intro a hS
          refine q_seq hS rfl rfl rfl (y_move hS rfl) ?_; clear hS a; intro a hS
          refine g_yes hS rfl rfl rfl rfl (l_quiet hS rfl rfl (y_move hS rfl) ?_); clear hS a; intro a hS
          refine g_yes hS rfl rfl rfl rfl (l_quiet hS rfl rfl (yl_b (y_gtrN (i := c4.toNat) (j := 126) hS rfl rfl) hs8e) ?_); clear hS a; intro a hS
          refine q_seq hS rfl rfl rfl (y_pick_f hS rfl rfl) ?_; clear hS a; intro a hS
          refine q_seq hS rfl rfl rfl (y_move hS rfl) ?_; clear hS a; intro a hS
          refine g_no hS rfl rfl rfl rfl rfl rfl rfl ?_; clear hS a; intro a hS
          refine g_no hS rfl rfl rfl rfl rfl rfl rfl ?_; clear hS a; intro a hS
          refine g_no hS rfl rfl rfl rfl rfl rfl rfl ?_; clear hS a; intro a hS
          refine g_no hS rfl rfl rfl rfl rfl rfl rfl ?_; clear hS a; intro a hS
          refine g_no hS rfl rfl rfl rfl rfl rfl rfl ?_; clear hS a; intro a hS
          refine g_no hS rfl rfl rfl rfl rfl rfl rfl ?_; clear hS a; intro a hS
          refine q_seq hS rfl rfl rfl (y_pick_t hS rfl rfl) ?_; clear hS a; intro a hS
          refine q_seq hS rfl rfl rfl (y_move hS rfl) ?_; clear hS a; intro a hS
          refine g_no hS rfl rfl rfl rfl rfl rfl rfl ?_; clear hS a; intro a hS
          refine g_no hS rfl rfl rfl rfl rfl rfl rfl ?_; clear hS a; intro a hS
          refine q_seq hS rfl rfl rfl (y_pick_t hS rfl rfl) ?_; clear hS a; intro a hS
          refine q_seq hS rfl rfl rfl (y_move hS rfl) ?_; clear hS a; intro a hS
          refine g_no hS rfl rfl rfl rfl rfl rfl rfl ?_; clear hS a; intro a hS
          refine g_no hS rfl rfl rfl rfl rfl rfl rfl ?_; clear hS a; intro a hS
          refine q_seq hS rfl rfl rfl (y_pick_t hS rfl rfl) ?_; clear hS a; intro a hS
          apply wpList_nil
          refine p_norm ?_
          exact ⟨(true), hg, (hS.sub ⟨rfl, rfl, rfl, trivial⟩ trivial trivial)⟩
        · have hs8e : decide ((126 : Nat) < c4.toNat) = false := decide_eq_false hs8
          replace hg := br_f hg hs8
          rcases Decidable.em ((65 : Nat) ≤ c4.toNat) with hs9 | hs9
          · have hs9e : decide ((65 : Nat) ≤ c4.toNat) = true := decide_eq_true hs9
            replace hg := br_t hg hs9
            rcases Decidable.em (c4.toNat ≤ 90) with hs10 | hs10
            · have hs10e : decide (c4.toNat ≤ 90) = true := decide_eq_true hs10
              replace hg := br_t hg hs10
              apply wp_region_lit
              refine q_seq hS rfl rfl rfl (y_move hS rfl) ?_; clear hS a; intro a hS
              refine q_seq hS rfl rfl rfl (yl_b (y_lssN (i := c4.toNat) (j := 33) hS rfl rfl) hs7e) ?_; clear hS a; intro a hS
              refine q_seq hS rfl rfl rfl (y_move hS rfl) ?_; clear hS a; intro a hS
              refine g_yes hS rfl rfl rfl rfl (l_quiet hS rfl rfl (y_move hS rfl) ?_); clear hS a; intro a hS
              refine g_yes hS rfl rfl rfl rfl (l_quiet hS rfl rfl (yl_b (y_gtrN (i := c4.toNat) (j := 126) hS rfl rfl) hs8e) ?_); clear hS a; intro a hS
              refine q_seq hS rfl rfl rfl (y_pick_f hS rfl rfl) ?_; clear hS a; intro a hS
              refine q_seq hS rfl rfl rfl (y_move hS rfl) ?_; clear hS a; intro a hS
              refine g_yes hS rfl rfl rfl rfl (l_quiet hS rfl rfl (y_move hS rfl) ?_); clear hS a; intro a hS
              refine g_yes hS rfl rfl rfl rfl (l_quiet hS rfl rfl (yl_b (y_geqN (i := c4.toNat) (j := 65) hS rfl rfl) hs9e) ?_); clear hS a; intro a hS
              refine g_yes hS rfl rfl rfl rfl (l_quiet hS rfl rfl (y_move hS rfl) ?_); clear hS a; intro a hS
              refine g_yes hS rfl rfl rfl rfl (l_quiet hS rfl rfl (y_move hS rfl) ?_); clear hS a; intro a hS
              refine g_yes hS rfl rfl rfl rfl (l_quiet hS rfl rfl (yl_b (y_leqN (i := c4.toNat) (j := 90) hS rfl rfl) hs10e) ?_); clear hS a; intro a hS
              refine g_yes hS rfl rfl rfl rfl (l_quiet hS rfl rfl (y_pick_t hS rfl rfl) ?_); clear hS a; intro a hS
              refine q_seq hS rfl rfl rfl (y_pick_f hS rfl rfl) ?_; clear hS a; intro a hS
              refine q_seq hS rfl rfl rfl (y_move hS rfl) ?_; clear hS a; intro a hS
              refine g_no hS rfl rfl rfl rfl rfl rfl rfl ?_; clear hS a; intro a hS
              refine g_no hS rfl rfl rfl rfl rfl rfl rfl ?_; clear hS a; intro a hS
              refine q_seq hS rfl rfl rfl (y_pick_t hS rfl rfl) ?_; clear hS a; intro a hS
              refine q_seq hS rfl rfl rfl (y_move hS rfl) ?_; clear hS a; intro a hS
              refine g_no hS rfl rfl rfl rfl rfl rfl rfl ?_; clear hS a; intro a hS
              refine g_no hS rfl rfl rfl rfl rfl rfl rfl ?_; clear hS a; intro a hS
              refine q_seq hS rfl rfl rfl (y_pick_t hS rfl rfl) ?_; clear hS a; intro a hS
              apply wpList_nil
              refine p_norm ?_
              exact ⟨(true), hg, (hS.sub ⟨rfl, rfl, rfl, trivial⟩ trivial trivial)⟩
            · have hs10e : decide (c4.toNat ≤ 90) = false := decide_eq_false hs10
              replace hg := br_f hg hs10
              rcases Decidable.em (c4.toNat = 34) with hs11 | hs11
              · have hs11e : decide (c4.toNat = 34) = true := decide_eq_true hs11
                replace hg := br_t hg hs11
                apply wp_region_lit
                refine q_seq hS rfl rfl rfl (y_move hS rfl) ?_; clear hS a; intro a hS
                refine q_seq hS rfl rfl rfl (yl_b (y_lssN (i := c4.toNat) (j := 33) hS rfl rfl) hs7e) ?_; clear hS a; intro a hS
                refine q_seq hS rfl rfl rfl (y_move hS rfl) ?_; clear hS a; intro a hS
                refine g_yes hS rfl rfl rfl rfl (l_quiet hS rfl rfl (y_move hS rfl) ?_); clear hS a; intro a hS
                refine g_yes hS rfl rfl rfl rfl (l_quiet hS rfl rfl (yl_b (y_gtrN (i := c4.toNat) (j := 126) hS rfl rfl) hs8e) ?_); clear hS a; intro a hS
                refine q_seq hS rfl rfl rfl (y_pick_f hS rfl rfl) ?_; clear hS a; intro a hS
                refine q_seq hS rfl rfl rfl (y_move hS rfl) ?_; clear hS a; intro a hS
                refine g_yes hS rfl rfl rfl rfl (l_quiet hS rfl rfl (y_move hS rfl) ?_); clear hS a; intro a hS
                refine g_yes hS rfl rfl rfl rfl (l_quiet hS rfl rfl (yl_b (y_geqN (i := c4.toNat) (j := 65) hS rfl rfl) hs9e) ?_); clear hS a; intro a hS
                refine g_yes hS rfl rfl rfl rfl (l_quiet hS rfl rfl (y_move hS rfl) ?_); clear hS a; intro a hS
                refine g_yes hS rfl rfl rfl rfl (l_quiet hS rfl rfl (y_move hS rfl) ?_); clear hS a; intro a hS
                refine g_yes hS rfl rfl rfl rfl (l_quiet hS rfl rfl (yl_b (y_leqN (i := c4.toNat) (j := 90) hS rfl rfl) hs10e) ?_); clear hS a; intro a hS
                refine g_yes hS rfl rfl rfl rfl (l_quiet hS rfl rfl (y_pick_t hS rfl rfl) ?_); clear hS a; intro a hS
                refine q_seq hS rfl rfl rfl (y_pick_f hS rfl rfl) ?_; clear hS a; intro a hS
                refine q_seq hS rfl rfl rfl (y_move hS rfl) ?_; clear hS a; intro a hS
                refine g_yes hS rfl rfl rfl rfl (l_quiet hS rfl rfl (y_move hS rfl) ?_); clear hS a; intro a hS
                refine g_yes hS rfl rfl rfl rfl (l_quiet hS rfl rfl (yl_b (y_eqlN (i := c4.toNat) (j := 34) hS rfl rfl) hs11e) ?_); clear hS a; intro a hS
                refine q_seq hS rfl rfl rfl (y_pick_f hS rfl rfl) ?_; clear hS a; intro a hS
                refine q_seq hS rfl rfl rfl (y_move hS rfl) ?_; clear hS a; intro a hS
                refine g_no hS rfl rfl rfl rfl rfl rfl rfl ?_; clear hS a; intro a hS
                refine g_no hS rfl rfl rfl rfl rfl rfl rfl ?_; clear hS a; intro a hS
                refine q_seq hS rfl rfl rfl (y_pick_t hS rfl rfl) ?_; clear hS a; intro a hS
                apply wpList_nil
                refine p_norm ?_
                exact ⟨(true), hg, (hS.sub ⟨rfl, rfl, rfl, trivial⟩ trivial trivial)⟩
              · have hs11e : decide (c4.toNat = 34) = false := decide_eq_false hs11
                replace hg := br_f hg hs11
                apply wp_region_lit
                refine q_seq hS rfl rfl rfl (y_move hS rfl) ?_; clear hS a; intro a hS
                refine q_seq hS rfl rfl rfl (yl_b (y_lssN (i := c4.toNat) (j := 33) hS rfl rfl) hs7e) ?_; clear hS a; intro a hS
                refine q_seq hS rfl rfl rfl (y_move hS rfl) ?_; clear hS a; intro a hS
                refine g_yes hS rfl rfl rfl rfl (l_quiet hS rfl rfl (y_move hS rfl) ?_); clear hS a; intro a hS
                refine g_yes hS rfl rfl rfl rfl (l_quiet hS rfl rfl (yl_b (y_gtrN (i := c4.toNat) (j := 126) hS rfl rfl) hs8e) ?_); clear hS a; intro a hS
                refine q_seq hS rfl rfl rfl (y_pick_f hS rfl rfl) ?_; clear hS a; intro a hS
                refine q_seq hS rfl rfl rfl (y_move hS rfl) ?_; clear hS a; intro a hS
                refine g_yes hS rfl rfl rfl rfl (l_quiet hS rfl rfl (y_move hS rfl) ?_); clear hS a; intro a hS
                refine g_yes hS rfl rfl rfl rfl (l_quiet hS rfl rfl (yl_b (y_geqN (i := c4.toNat) (j := 65) hS rfl rfl) hs9e) ?_); clear hS a; intro a hS
                refine g_yes hS rfl rfl rfl rfl (l_quiet hS rfl rfl (y_move hS rfl) ?_); clear hS a; intro a hS
                refine g_yes hS rfl rfl rfl rfl (l_quiet hS rfl rfl (y_move hS rfl) ?_); clear hS a; intro a hS
                refine g_yes hS rfl rfl rfl rfl (l_quiet hS rfl rfl (yl_b (y_leqN (i := c4.toNat) (j := 90) hS rfl rfl) hs10e) ?_); clear hS a; intro a hS
                refine g_yes hS rfl rfl rfl rfl (l_quiet hS rfl rfl (y_pick_t hS rfl rfl) ?_); clear hS a; intro a hS
                refine q_seq hS rfl rfl rfl (y_pick_f hS rfl rfl) ?_; clear hS a; intro a hS
                refine q_seq hS rfl rfl rfl (y_move hS rfl) ?_; clear hS a; intro a hS
                refine g_yes hS rfl rfl rfl rfl (l_quiet hS rfl rfl (y_move hS rfl) ?_); clear hS a; intro a hS
                refine g_yes hS rfl rfl rfl rfl (l_quiet hS rfl rfl (yl_b (y_eqlN (i := c4.toNat) (j := 34) hS rfl rfl) hs11e) ?_); clear hS a; intro a hS
                refine q_seq hS rfl rfl rfl (y_pick_f hS rfl rfl) ?_; clear hS a; intro a hS
                refine q_seq hS rfl rfl rfl (y_move hS rfl) ?_; clear hS a; intro a hS
                refine g_yes hS rfl rfl rfl rfl (l_quiet hS rfl rfl (y_move hS rfl) ?_); clear hS a; intro a hS
                refine g_yes hS rfl rfl rfl rfl (l_quiet hS rfl rfl (y_eqlN (i := c4.toNat) (j := 92) hS rfl rfl) ?_); clear hS a; intro a hS
                refine q_seq hS rfl rfl rfl (y_pick_f hS rfl rfl) ?_; clear hS a; intro a hS
                apply wpList_nil
                refine p_norm ?_
                exact ⟨(decide (c4.toNat = 92)), hg, (hS.sub ⟨rfl, rfl, rfl, trivial⟩ trivial trivial)⟩
          · have hs9e : decide ((65 : Nat) ≤ c4.toNat) = false := decide_eq_false hs9
            replace hg := br_f hg hs9
            rcases Decidable.em (c4.toNat = 34) with hs12 | hs12
            · have hs12e : decide (c4.toNat = 34) = true := decide_eq_true hs12
              replace hg := br_t hg hs12
              apply wp_region_lit
              refine q_seq hS rfl rfl rfl (y_move hS rfl) ?_; clear hS a; intro a hS
              refine q_seq hS rfl rfl rfl (yl_b (y_lssN (i := c4.toNat) (j := 33) hS rfl rfl) hs7e) ?_; clear hS a; intro a hS
              refine q_seq hS rfl rfl rfl (y_move hS rfl) ?_; clear hS a; intro a hS
              refine g_yes hS rfl rfl rfl rfl (l_quiet hS rfl rfl (y_move hS rfl) ?_); clear hS a; intro a hS
              refine g_yes hS rfl rfl rfl rfl (l_quiet hS rfl rfl (yl_b (y_gtrN (i := c4.toNat) (j := 126) hS rfl rfl) hs8e) ?_); clear hS a; intro a hS
              refine q_seq hS rfl rfl rfl (y_pick_f hS rfl rfl) ?_; clear hS a; intro a hS
              refine q_seq hS rfl rfl rfl (y_move hS rfl) ?_; clear hS a; intro a hS
              refine g_yes hS rfl rfl rfl rfl (l_quiet hS rfl rfl (y_move hS rfl) ?_); clear hS a; intro a hS
              refine g_yes hS rfl rfl rfl rfl (l_quiet hS rfl rfl (yl_b (y_geqN (i := c4.toNat) (j := 65) hS rfl rfl) hs9e) ?_); clear hS a; intro a hS
              refine g_yes hS rfl rfl rfl rfl (l_quiet hS rfl rfl (y_move hS rfl) ?_); clear hS a; intro a hS
              refine g_no hS rfl rfl rfl rfl rfl rfl rfl ?_; clear hS a; intro a hS
              refine g_no hS rfl rfl rfl rfl rfl rfl rfl ?_; clear hS a; intro a hS
              refine g_yes hS rfl rfl rfl rfl (l_quiet hS rfl rfl (y_pick_f hS rfl rfl) ?_); clear hS a; intro a hS
              refine q_seq hS rfl rfl rfl (y_pick_f hS rfl rfl) ?_; clear hS a; intro a hS
              refine q_seq hS rfl rfl rfl (y_move hS rfl) ?_; clear hS a; intro a hS
              refine g_yes hS rfl rfl rfl rfl (l_quiet hS rfl rfl (y_move hS rfl) ?_); clear hS a; intro a hS
              refine g_yes hS rfl rfl rfl rfl (l_quiet hS rfl rfl (yl_b (y_eqlN (i := c4.toNat) (j := 34) hS rfl rfl) hs12e) ?_); clear hS a; intro a hS
              refine q_seq hS rfl rfl rfl (y_pick_f hS rfl rfl) ?_; clear hS a; intro a hS
              refine q_seq hS rfl rfl rfl (y_move hS rfl) ?_; clear hS a; intro a hS
              refine g_no hS rfl rfl rfl rfl rfl rfl rfl ?_; clear hS a; intro a hS
              refine g_no hS rfl rfl rfl rfl rfl rfl rfl ?_; clear hS a; intro a hS
              refine q_seq hS rfl rfl rfl (y_pick_t hS rfl rfl) ?_; clear hS a; intro a hS
              apply wpList_nil
              refine p_norm ?_
              exact ⟨(true), hg, (hS.sub ⟨rfl, rfl, rfl, trivial⟩ trivial trivial)⟩
            · have hs12e : decide (c4.toNat = 34) = false := decide_eq_false hs12
              replace hg := br_f hg hs12
              apply wp_region_lit
              refine q_seq hS rfl rfl rfl (y_move hS rfl) ?_; clear hS a; intro a hS
              refine q_seq hS rfl rfl rfl (yl_b (y_lssN (i := c4.toNat) (j := 33) hS rfl rfl) hs7e) ?_; clear hS a; intro a hS
              refine q_seq hS rfl rfl rfl (y_move hS rfl) ?_; clear hS a; intro a hS
              refine g_yes hS rfl rfl rfl rfl (l_quiet hS rfl rfl (y_move hS rfl) ?_); clear hS a; intro a hS
              refine g_yes hS rfl rfl rfl rfl (l_quiet hS rfl rfl (yl_b (y_gtrN (i := c4.toNat) (j := 126) hS rfl rfl) hs8e) ?_); clear hS a; intro a hS
              refine q_seq hS rfl rfl rfl (y_pick_f hS rfl rfl) ?_; clear hS a; intro a hS
              refine q_seq hS rfl rfl rfl (y_move hS rfl) ?_; clear hS a; intro a hS
              refine g_yes hS rfl rfl rfl rfl (l_quiet hS rfl rfl (y_move hS rfl) ?_); clear hS a; intro a hS
              refine g_yes hS rfl rfl rfl rfl (l_quiet hS rfl rfl (yl_b (y_geqN (i := c4.toNat) (j := 65) hS rfl rfl) hs9e) ?_); clear hS a; intro a hS
              refine g_yes hS rfl rfl rfl rfl (l_quiet hS rfl rfl (y_move hS rfl) ?_); clear hS a; intro a hS
              refine g_no hS rfl rfl rfl rfl rfl rfl rfl ?_; clear hS a; intro a hS
              refine g_no hS rfl rfl rfl rfl rfl rfl rfl ?_; clear hS a; intro a hS
              refine g_yes hS rfl rfl rfl rfl (l_quiet hS rfl rfl (y_pick_f hS rfl rfl) ?_); clear hS a; intro a hS
              refine q_seq hS rfl rfl rfl (y_pick_f hS rfl rfl) ?_; clear hS a; intro a hS
              refine q_seq hS rfl rfl rfl (y_move hS rfl) ?_; clear hS a; intro a hS
              refine g_yes hS rfl rfl rfl rfl (l_quiet hS rfl rfl (y_move hS rfl) ?_); clear hS a; intro a hS
              refine g_yes hS rfl rfl rfl rfl (l_quiet hS rfl rfl (yl_b (y_eqlN (i := c4.toNat) (j := 34) hS rfl rfl) hs12e) ?_); clear hS a; intro a hS
              refine q_seq hS rfl rfl rfl (y_pick_f hS rfl rfl) ?_; clear hS a; intro a hS
              refine q_seq hS rfl rfl rfl (y_move hS rfl) ?_; clear hS a; intro a hS
              refine g_yes hS rfl rfl rfl rfl (l_quiet hS rfl rfl (y_move hS rfl) ?_); clear hS a; intro a hS
              refine g_yes hS rfl rfl rfl rfl (l_quiet hS rfl rfl (y_eqlN (i := c4.toNat) (j := 92) hS rfl rfl) ?_); clear hS a; intro a hS
              refine q_seq hS rfl rfl rfl (y_pick_f hS rfl rfl) ?_; clear hS a; intro a hS
              apply wpList_nil
              refine p_norm ?_
              exact ⟨(decide (c4.toNat = 92)), hg, (hS.sub ⟨rfl, rfl, rfl, trivial⟩ trivial trivial)⟩
    clear hS a; rintro a w ⟨t_6, hg, hS⟩
    subst hk5
    refine c_cond hS rfl (fun hc13 => ?_) (fun hc13 => ?_)
    · replace hg := br_t hg hc13
      apply wp_seq
      apply wp_region_lit
      refine q_seq hS rfl rfl rfl (y_assign hS rfl) ?_; clear hS a; intro a hS
      apply wpList_nil
      refine p_norm ?_
      apply wp_ret
      refine p_inR ?_
      refine p_thenR ?_
      refine p_thenR ?_
      refine p_inR ?_
      refine p_thenR ?_
      obtain rfl := Option.some.inj hg
      refine fin1 (fn := Try.f25) hS rfl (r_tmp hS rfl) ?_
      exact rfl
    · replace hg := br_f hg (by rw [hc13]; exact Bool.false_ne_true)
      apply wp_skip
      refine p_inN ?_
      refine p_norm ?_
      apply wp_region_lit
      refine q_seq hS rfl rfl rfl (y_move hS rfl) ?_; clear hS a; intro a hS
      refine q_seq hS rfl rfl rfl (y_addN (i := i_1) (j := 1) hS rfl rfl (in64.2 (by omega))) ?_; clear hS a; intro a hS
      refine q_seq hS rfl rfl rfl (y_assign hS rfl) ?_; clear hS a; intro a hS
      apply wpList_nil
      refine p_norm ?_
      exact ⟨m1, Nat.lt_succ_self _, ⟨(i_1 + 1), hg, (hS.sub ⟨rfl, rfl, trivial⟩ trivial trivial)⟩⟩
  · replace hg := br_f hg hc2
    apply wp_exit
    refine p_then ?_
    refine p_then ?_
    refine p_in ?_
    refine p_norm ?_
    apply wp_seq
    apply wp_region_lit
    refine q_seq hS rfl rfl rfl (y_assign hS rfl) ?_; clear hS a; intro a hS
    apply wpList_nil
    refine p_norm ?_
    apply wp_ret
    obtain rfl := Option.some.inj hg
    refine fin1 (fn := Try.f25) hS rfl (r_tmp hS rfl) ?_
    exact rfl
set_option maxHeartbeats 400000 in
theorem c_r23_Check (n : Nat) (M : Bs) (w0 : World) (hM : ∀ b, M b → b < w0.heap.size) (t_ : Affix) (Ap02 : Option Addr) (cp02 : Nat) (hp02 : SlR RChange M w0 Ap02 (t_.Pairs).length cp02 (t_.Pairs)) (r : Int) (hg : r23_Check n t_ = some r) :
    Calls Try.prog 12 [.agg #[.int .i64 (t_.Kind), .slice (Ap02) ((t_.Pairs).length) (cp02)]].toArray w0 (Ret noB w0 fun v w => v = .int .i64 (r)) := by
  unfold r23_Check at hg
  refine enter M noB Try.func12 rfl rfl hM ?_
  intro a hS
  replace hS := hS.add 101 (slF RChange (Ap02) ((t_.Pairs).length) (cp02) (t_.Pairs)) (by exact Fact.change _ enterM hp02)
  apply wp_seq
  apply wp_region_lit
  refine l_seq rfl (l_box (zs := [.int .i64 (t_.Kind), .slice (Ap02) ((t_.Pairs).length) (cp02)]) hS 1000 rfl rfl rfl rfl ?_); clear hS a; intro b2 a w hb hK hS
  clear hb
  clear hK
  refine q_seq hS rfl rfl rfl (y_assign hS rfl) ?_; clear hS a; intro a hS
  apply wpList_nil
  refine p_norm ?_
  apply wp_seq
  apply wp_seq
  replace hg := jn_some hg; obtain ⟨k3, hg, hk3⟩ := hg
  refine c_post (fun a w => ∃ (t_4 : Bool), k3 t_4 = some r ∧ St (⟨Try.f12.ntmps, M, noB, w0⟩ : Ctx) [(1, .pointer (some ⟨b2, 0, none⟩)), (18, .bool (t_4))] [(1000, Ob.box b2 [.int .i64 (t_.Kind), .slice (Ap02) ((t_.Pairs).length) (cp02)] 24)] [(101, slF RChange (Ap02) ((t_.Pairs).length) (cp02) (t_.Pairs))] a w) ?_ ?_
  · rcases Decidable.em (t_.Kind ≠ 0) with hs5 | hs5
    · have hs5e : decide (t_.Kind ≠ 0) = true := decide_eq_true hs5
      replace hg := br_t hg hs5
      rcases Decidable.em (t_.Kind ≠ 1) with hs6 | hs6
      · have hs6e : decide (t_.Kind ≠ 1) = true := decide_eq_true hs6
        replace hg := br_t hg hs6
        apply wp_region_lit
        refine q_seq hS rfl rfl rfl (y_boxField (o' := 0) hS rfl Try.underlying24 rfl rfl rfl) ?_; clear hS a; intro a hS
        refine q_seq hS rfl rfl rfl (y_loadBox1 (kk := 1000) hS rfl rfl rfl Try.underlying3 rfl) ?_; clear hS a; intro a hS
        refine q_seq hS rfl rfl rfl (yl_b (y_neq hS rfl rfl) hs5e) ?_; clear hS a; intro a hS
        refine q_seq hS rfl rfl rfl (y_move hS rfl) ?_; clear hS a; intro a hS
        refine g_yes hS rfl rfl rfl rfl (l_quiet hS rfl rfl (y_boxField (o' := 0) hS rfl Try.underlying24 rfl rfl rfl) ?_); clear hS a; intro a hS
        refine g_yes hS rfl rfl rfl rfl (l_quiet hS rfl rfl (y_loadBox1 (kk := 1000) hS rfl rfl rfl Try.underlying3 rfl) ?_); clear hS a; intro a hS
        refine g_yes hS rfl rfl rfl rfl (l_quiet hS rfl rfl (yl_b (y_neq hS rfl rfl) hs6e) ?_); clear hS a; intro a hS
        refine q_seq hS rfl rfl rfl (y_pick_t hS rfl rfl) ?_; clear hS a; intro a hS
        refine q_seq hS rfl rfl rfl (y_move hS rfl) ?_; clear hS a; intro a hS
        refine g_yes hS rfl rfl rfl rfl (l_quiet hS rfl rfl (y_boxField (o' := 0) hS rfl Try.underlying24 rfl rfl rfl) ?_); clear hS a; intro a hS
        refine g_yes hS rfl rfl rfl rfl (l_quiet hS rfl rfl (y_loadBox1 (kk := 1000) hS rfl rfl rfl Try.underlying3 rfl) ?_); clear hS a; intro a hS
        refine g_yes hS rfl rfl rfl rfl (l_quiet hS rfl rfl (y_neq hS rfl rfl) ?_); clear hS a; intro a hS
        refine q_seq hS rfl rfl rfl (y_pick_t hS rfl rfl) ?_; clear hS a; intro a hS
        apply wpList_nil
        refine p_norm ?_
        exact ⟨(decide (t_.Kind ≠ 2)), hg, (hS.sub ⟨rfl, rfl, trivial⟩ ⟨rfl, trivial⟩ ⟨rfl, trivial⟩)⟩
      · have hs6e : decide (t_.Kind ≠ 1) = false := decide_eq_false hs6
        replace hg := br_f hg hs6
        apply wp_region_lit
        refine q_seq hS rfl rfl rfl (y_boxField (o' := 0) hS rfl Try.underlying24 rfl rfl rfl) ?_; clear hS a; intro a hS
        refine q_seq hS rfl rfl rfl (y_loadBox1 (kk := 1000) hS rfl rfl rfl Try.underlying3 rfl) ?_; clear hS a; intro a hS
        refine q_seq hS rfl rfl rfl (yl_b (y_neq hS rfl rfl) hs5e) ?_; clear hS a; intro a hS
        refine q_seq hS rfl rfl rfl (y_move hS rfl) ?_; clear hS a; intro a hS
        refine g_yes hS rfl rfl rfl rfl (l_quiet hS rfl rfl (y_boxField (o' := 0) hS rfl Try.underlying24 rfl rfl rfl) ?_); clear hS a; intro a hS
        refine g_yes hS rfl rfl rfl rfl (l_quiet hS rfl rfl (y_loadBox1 (kk := 1000) hS rfl rfl rfl Try.underlying3 rfl) ?_); clear hS a; intro a hS
        refine g_yes hS rfl rfl rfl rfl (l_quiet hS rfl rfl (yl_b (y_neq hS rfl rfl) hs6e) ?_); clear hS a; intro a hS
        refine q_seq hS rfl rfl rfl (y_pick_t hS rfl rfl) ?_; clear hS a; intro a hS
        refine q_seq hS rfl rfl rfl (y_move hS rfl) ?_; clear hS a; intro a hS
        refine g_no hS rfl rfl rfl rfl rfl rfl rfl ?_; clear hS a; intro a hS
        refine g_no hS rfl rfl rfl rfl rfl rfl rfl ?_; clear hS a; intro a hS
        refine g_no hS rfl rfl rfl rfl rfl rfl rfl ?_; clear hS a; intro a hS
        refine q_seq hS rfl rfl rfl (y_pick_f hS rfl rfl) ?_; clear hS a; intro a hS
        apply wpList_nil
        refine p_norm ?_
        exact ⟨(false), hg, (hS.sub ⟨rfl, rfl, trivial⟩ ⟨rfl, trivial⟩ ⟨rfl, trivial⟩)⟩
    · have hs5e : decide (t_.Kind ≠ 0) = false := decide_eq_false hs5
      replace hg := br_f hg hs5
      apply wp_region_lit
      refine q_seq hS rfl rfl rfl (y_boxField (o' := 0) hS rfl Try.underlying24 rfl rfl rfl) ?_; clear hS a; intro a hS
      refine q_seq hS rfl rfl rfl (y_loadBox1 (kk := 1000) hS rfl rfl rfl Try.underlying3 rfl) ?_; clear hS a; intro a hS
      refine q_seq hS rfl rfl rfl (yl_b (y_neq hS rfl rfl) hs5e) ?_; clear hS a; intro a hS
      refine q_seq hS rfl rfl rfl (y_move hS rfl) ?_; clear hS a; intro a hS
      refine g_no hS rfl rfl rfl rfl rfl rfl rfl ?_; clear hS a; intro a hS
      refine g_no hS rfl rfl rfl rfl rfl rfl rfl ?_; clear hS a; intro a hS
      refine g_no hS rfl rfl rfl rfl rfl rfl rfl ?_; clear hS a; intro a hS
      refine q_seq hS rfl rfl rfl (y_pick_f hS rfl rfl) ?_; clear hS a; intro a hS
      refine q_seq hS rfl rfl rfl (y_move hS rfl) ?_; clear hS a; intro a hS
      refine g_no hS rfl rfl rfl rfl rfl rfl rfl ?_; clear hS a; intro a hS
      refine g_no hS rfl rfl rfl rfl rfl rfl rfl ?_; clear hS a; intro a hS
      refine g_no hS rfl rfl rfl rfl rfl rfl rfl ?_; clear hS a; intro a hS
      refine q_seq hS rfl rfl rfl (y_pick_f hS rfl rfl) ?_; clear hS a; intro a hS
      apply wpList_nil
      refine p_norm ?_
      exact ⟨(false), hg, (hS.sub ⟨rfl, rfl, trivial⟩ ⟨rfl, trivial⟩ ⟨rfl, trivial⟩)⟩
  clear hS a; rintro a w ⟨t_4, hg, hS⟩
  subst hk3
  refine c_cond hS rfl (fun hc7 => ?_) (fun hc7 => ?_)
  · replace hg := br_t hg hc7
    apply wp_seq
    apply wp_region_lit
    refine q_seq hS rfl rfl rfl (y_assign hS rfl) ?_; clear hS a; intro a hS
    apply wpList_nil
    refine p_norm ?_
    apply wp_ret
    refine p_thenR ?_
    obtain rfl := Option.some.inj hg
    refine fin1 (fn := Try.f12) hS rfl (r_tmp hS rfl) ?_
    exact rfl
  · replace hg := br_f hg (by rw [hc7]; exact Bool.false_ne_true)
    apply wp_skip
    refine p_norm ?_
    apply wp_seq
    apply wp_seq
    apply wp_region_lit
    refine q_seq hS rfl rfl rfl (y_boxField (o' := 0) hS rfl Try.underlying24 rfl rfl rfl) ?_; clear hS a; intro a hS
    refine q_seq hS rfl rfl rfl (y_loadBox1 (kk := 1000) hS rfl rfl rfl Try.underlying3 rfl) ?_; clear hS a; intro a hS
    refine q_seq hS rfl rfl rfl (y_eql hS rfl rfl) ?_; clear hS a; intro a hS
    refine q_seq hS rfl rfl rfl (y_boxField (o' := 1) hS rfl Try.underlying24 rfl rfl rfl) ?_; clear hS a; intro a hS
    refine q_seq hS rfl rfl rfl (y_loadBox1 (kk := 1000) hS rfl rfl rfl Try.underlying22 rfl) ?_; clear hS a; intro a hS
    refine q_seq hS rfl rfl rfl (y_lenSlice hS rfl Try.underlying22) ?_; clear hS a; intro a hS
    refine q_seq hS rfl rfl rfl (y_eqlN (i := ((t_.Pairs).length)) (j := 0) hS rfl rfl) ?_; clear hS a; intro a hS
    refine q_seq hS rfl rfl rfl (y_bne hS rfl rfl Try.underlying4) ?_; clear hS a; intro a hS
    apply wpList_nil
    refine p_norm ?_
    refine c_cond hS rfl (fun hc8 => ?_) (fun hc8 => ?_)
    · replace hg := br_t hg hc8
      apply wp_seq
      apply wp_region_lit
      refine q_seq hS rfl rfl rfl (y_assign hS rfl) ?_; clear hS a; intro a hS
      apply wpList_nil
      refine p_norm ?_
      apply wp_ret
      refine p_thenR ?_
      obtain rfl := Option.some.inj hg
      refine fin1 (fn := Try.f12) hS rfl (r_tmp hS rfl) ?_
      exact rfl
    · replace hg := br_f hg (by rw [hc8]; exact Bool.false_ne_true)
      apply wp_skip
      refine p_norm ?_
      apply wp_seq
      apply wp_seq
      apply wp_region_lit
      refine q_seq hS rfl rfl rfl (y_boxField (o' := 1) hS rfl Try.underlying24 rfl rfl rfl) ?_; clear hS a; intro a hS
      refine q_seq hS rfl rfl rfl (y_loadBox1 (kk := 1000) hS rfl rfl rfl Try.underlying22 rfl) ?_; clear hS a; intro a hS
      refine q_seq hS rfl rfl rfl (y_lenSlice hS rfl Try.underlying22) ?_; clear hS a; intro a hS
      refine q_seq hS rfl rfl rfl (y_gtrN (i := ((t_.Pairs).length)) (j := 16) hS rfl rfl) ?_; clear hS a; intro a hS
      apply wpList_nil
      refine p_norm ?_
      refine c_dec hS rfl (fun hc9 => ?_) (fun hc9 => ?_)
      · replace hg := br_t hg hc9
        have hmx10 := SlR.mx (hS.fact (k := 101) rfl)
        apply wp_seq
        apply wp_region_lit
        refine q_seq hS rfl rfl rfl (y_assign hS rfl) ?_; clear hS a; intro a hS
        apply wpList_nil
        refine p_norm ?_
        apply wp_ret
        refine p_thenR ?_
        obtain rfl := Option.some.inj hg
        refine fin1 (fn := Try.f12) hS rfl (r_tmp hS rfl) ?_
        exact rfl
      · replace hg := br_f hg hc9
        apply wp_skip
        refine p_norm ?_
        apply wp_seq
        apply wp_seq
        apply wp_region_lit
        refine q_seq hS rfl rfl rfl (y_assign hS rfl) ?_; clear hS a; intro a hS
        apply wpList_nil
        refine p_norm ?_
        apply wp_block
        refine c_loop (σ := Nat) (fun m1 a w => ∃ (t_11 : Nat), r23_Check_L0 n t_ m1 t_11 = some r ∧ St (⟨Try.f12.ntmps, M, noB, w0⟩ : Ctx) [(1, .pointer (some ⟨b2, 0, none⟩)), (3, .int .i64 (((t_11 : Nat) : Int)))] [(1000, Ob.box b2 [.int .i64 (t_.Kind), .slice (Ap02) ((t_.Pairs).length) (cp02)] 24)] [(101, slF RChange (Ap02) ((t_.Pairs).length) (cp02) (t_.Pairs))] a w) (fun m1 => m1) n ⟨(0), hg, (hS.sub ⟨rfl, rfl, trivial⟩ ⟨rfl, trivial⟩ ⟨rfl, trivial⟩)⟩ ?_
        clear hS a; rintro m1 a w ⟨t_11, hg, hS⟩
        rcases m1 with _ | m1
        · rw [r23_Check_L0] at hg; cases hg
        rw [r23_Check_L0] at hg
        apply wp_seq
        apply wp_seq
        apply wp_region_lit
        refine q_seq hS rfl rfl rfl (y_move hS rfl) ?_; clear hS a; intro a hS
        refine q_seq hS rfl rfl rfl (y_boxField (o' := 1) hS rfl Try.underlying24 rfl rfl rfl) ?_; clear hS a; intro a hS
        refine q_seq hS rfl rfl rfl (y_loadBox1 (kk := 1000) hS rfl rfl rfl Try.underlying22 rfl) ?_; clear hS a; intro a hS
        refine q_seq hS rfl rfl rfl (y_lenSlice hS rfl Try.underlying22) ?_; clear hS a; intro a hS
        refine q_seq hS rfl rfl rfl (y_lssN (i := t_11) (j := ((t_.Pairs).length)) hS rfl rfl) ?_; clear hS a; intro a hS
        apply wpList_nil
        refine p_norm ?_
        refine c_dec hS rfl (fun hc12 => ?_) (fun hc12 => ?_)
        · replace hg := br_t hg hc12
          have hmx13 := SlR.mx (hS.fact (k := 101) rfl)
          apply wp_skip
          refine p_norm ?_
          apply wp_seq
          replace hg := jn_some hg; obtain ⟨k14, hg, hk14⟩ := hg
          refine c_post (fun a w => k14 = some r ∧ St (⟨Try.f12.ntmps, M, noB, w0⟩ : Ctx) [(1, .pointer (some ⟨b2, 0, none⟩)), (3, .int .i64 (((t_11 : Nat) : Int)))] [(1000, Ob.box b2 [.int .i64 (t_.Kind), .slice (Ap02) ((t_.Pairs).length) (cp02)] 24)] [(101, slF RChange (Ap02) ((t_.Pairs).length) (cp02) (t_.Pairs))] a w) ?_ ?_
          · apply wp_block
            apply wp_seq
            replace hg := bind_some hg; obtain ⟨x16, hx16, hg⟩ := hg
            apply wp_region_lit
            refine q_seq hS rfl rfl rfl (y_boxField (o' := 1) hS rfl Try.underlying24 rfl rfl rfl) ?_; clear hS a; intro a hS
            refine q_seq hS rfl rfl rfl (y_loadBox1 (kk := 1000) hS rfl rfl rfl Try.underlying22 rfl) ?_; clear hS a; intro a hS
            refine q_seq hS rfl rfl rfl (y_move hS rfl) ?_; clear hS a; intro a hS
            obtain ⟨p19, hep19, hpp19⟩ := SlR.elemX (hS.fact (k := 101) rfl) hx16
            refine q_seq hS rfl rfl rfl (y_elem (sz := 2) (i := t_11) hS rfl rfl Try.underlying22 rfl hep19 rfl (lt_of_get hx16)) ?_; clear hS a; intro a hS
            obtain ⟨hlq20, hmq20, csq20, hdq20, hcq20⟩ := hpp19
            obtain ⟨rfl, lq201, lq202⟩ := RChange.open hdq20
            refine q_seq hS rfl rfl rfl (y_ldp hS rfl hlq20 hmq20 (by simpa using hcq20) Try.underlying42 rfl rfl) ?_; clear hS a; intro a hS
            refine l_seq rfl (l_alloc (zs := [.string (bs ([])), .string (bs ([]))]) hS 2005 rfl rfl rfl rfl ?_); clear hS a; intro b21 a w hb hK hS
            clear hb
            clear hK
            refine l_seq rfl (l_store (n := 2) (cs' := [.string (bs (x16.Old)), .string (bs (x16.New))]) hS 2005 rfl rfl rfl rfl rfl rfl rfl rfl ?_); clear hS; intro w hK hS; clear hK
            apply wpList_nil
            refine p_norm ?_
            apply wp_seq
            apply wp_seq
            replace hg := jn_some hg; obtain ⟨k22, hg, hk22⟩ := hg
            refine c_post (fun a w => ∃ (t_23 : Bool), k22 t_23 = some r ∧ St (⟨Try.f12.ntmps, M, noB, w0⟩ : Ctx) [(1, .pointer (some ⟨b2, 0, none⟩)), (3, .int .i64 (((t_11 : Nat) : Int))), (4, .pointer (some ⟨b21, 0, none⟩)), (52, .bool (t_23))] [(1000, Ob.box b2 [.int .i64 (t_.Kind), .slice (Ap02) ((t_.Pairs).length) (cp02)] 24), (2005, Ob.box b21 [.string (bs (x16.Old)), .string (bs (x16.New))] 42)] [(101, slF RChange (Ap02) ((t_.Pairs).length) (cp02) (t_.Pairs))] a w) ?_ ?_
            · replace hg := bind_some hg; obtain ⟨r24, hr24, hg⟩ := hg
              rcases Bool.eq_false_or_eq_true (!(r24)) with hs27 | hs27
              · replace hg := br_t hg hs27
                apply wp_region_lit
                refine q_seq hS rfl rfl rfl (y_boxField (o' := 0) hS rfl Try.underlying42 rfl rfl rfl) ?_; clear hS a; intro a hS
                refine q_seq hS rfl rfl rfl (y_loadBox1 (kk := 2005) hS rfl rfl rfl Try.underlying9 rfl) ?_; clear hS a; intro a hS
                refine l_seq rfl (l_call (cap := []) hS rfl Try.func25 rfl (by kernel_rfl) rfl rfl (c_r23_plain n _ _ hS.lt x16.Old (by first | omega | (rw [List.length_append]; omega) | (simp only [List.length_append]; omega) | (simp only [List.length_append, List.length_take, List.length_drop, List.length_cons, List.length_nil]; omega)) r24 hr24) ?_); clear hS a; intro v28 a w hK hp hS
                clear hK
                obtain rfl := hp
                refine q_seq hS rfl rfl rfl (yl_b (y_not hS rfl) hs27) ?_; clear hS a; intro a hS
                refine q_seq hS rfl rfl rfl (y_move hS rfl) ?_; clear hS a; intro a hS
                refine g_no hS rfl rfl rfl rfl rfl rfl rfl ?_; clear hS a; intro a hS
                refine g_no hS rfl rfl rfl rfl rfl rfl rfl ?_; clear hS a; intro a hS
                refine g_no hS rfl rfl rfl rfl rfl rfl rfl ?_; clear hS a; intro a hS
                refine g_no hS rfl rfl rfl rfl rfl rfl rfl ?_; clear hS a; intro a hS
                refine q_seq hS rfl rfl rfl (y_pick_t hS rfl rfl) ?_; clear hS a; intro a hS
                apply wpList_nil
                refine p_norm ?_
                exact ⟨(true), hg, (hS.sub ⟨rfl, rfl, rfl, rfl, trivial⟩ ⟨rfl, rfl, trivial⟩ ⟨rfl, trivial⟩)⟩
              · replace hg := br_f hg (by rw [hs27]; exact Bool.false_ne_true)
                replace hg := bind_some hg; obtain ⟨r30, hr30, hg⟩ := hg
                apply wp_region_lit
                refine q_seq hS rfl rfl rfl (y_boxField (o' := 0) hS rfl Try.underlying42 rfl rfl rfl) ?_; clear hS a; intro a hS
                refine q_seq hS rfl rfl rfl (y_loadBox1 (kk := 2005) hS rfl rfl rfl Try.underlying9 rfl) ?_; clear hS a; intro a hS
                refine l_seq rfl (l_call (cap := []) hS rfl Try.func25 rfl (by kernel_rfl) rfl rfl (c_r23_plain n _ _ hS.lt x16.Old (by first | omega | (rw [List.length_append]; omega) | (simp only [List.length_append]; omega) | (simp only [List.length_append, List.length_take, List.length_drop, List.length_cons, List.length_nil]; omega)) r24 hr24) ?_); clear hS a; intro v33 a w hK hp hS
                clear hK
                obtain rfl := hp
                refine q_seq hS rfl rfl rfl (yl_b (y_not hS rfl) hs27) ?_; clear hS a; intro a hS
                refine q_seq hS rfl rfl rfl (y_move hS rfl) ?_; clear hS a; intro a hS
                refine g_yes hS rfl rfl rfl rfl (l_quiet hS rfl rfl (y_boxField (o' := 1) hS rfl Try.underlying42 rfl rfl rfl) ?_); clear hS a; intro a hS
                refine g_yes hS rfl rfl rfl rfl (l_quiet hS rfl rfl (y_loadBox1 (kk := 2005) hS rfl rfl rfl Try.underlying9 rfl) ?_); clear hS a; intro a hS
                refine g_yes hS rfl rfl rfl rfl (l_call (cap := []) hS rfl Try.func25 rfl (by kernel_rfl) rfl rfl (c_r23_plain n _ _ hS.lt x16.New (by first | omega | (rw [List.length_append]; omega) | (simp only [List.length_append]; omega) | (simp only [List.length_append, List.length_take, List.length_drop, List.length_cons, List.length_nil]; omega)) r30 hr30) ?_); clear hS a; intro v35 a w hK hp hS
                clear hK
                obtain rfl := hp
                refine g_yes hS rfl rfl rfl rfl (l_quiet hS rfl rfl (y_not hS rfl) ?_); clear hS a; intro a hS
                refine q_seq hS rfl rfl rfl (y_pick_f hS rfl rfl) ?_; clear hS a; intro a hS
                apply wpList_nil
                refine p_norm ?_
                exact ⟨(!(r30)), hg, (hS.sub ⟨rfl, rfl, rfl, rfl, trivial⟩ ⟨rfl, rfl, trivial⟩ ⟨rfl, trivial⟩)⟩
            clear hS a; rintro a w ⟨t_23, hg, hS⟩
            subst hk22
            refine c_cond hS rfl (fun hc37 => ?_) (fun hc37 => ?_)
            · replace hg := br_t hg hc37
              apply wp_seq
              apply wp_region_lit
              refine q_seq hS rfl rfl rfl (y_assign hS rfl) ?_; clear hS a; intro a hS
              apply wpList_nil
              refine p_norm ?_
              apply wp_ret
              refine p_thenR ?_
              refine p_inR ?_
              refine p_thenR ?_
              refine p_thenR ?_
              refine p_inR ?_
              refine p_thenR ?_
              obtain rfl := Option.some.inj hg
              refine fin1 (fn := Try.f12) hS rfl (r_tmp hS rfl) ?_
              exact rfl
            · replace hg := br_f hg (by rw [hc37]; exact Bool.false_ne_true)
              apply wp_skip
              refine p_norm ?_
              apply wp_seq
              apply wp_seq
              replace hg := jn_some hg; obtain ⟨k38, hg, hk38⟩ := hg
              refine c_post (fun a w => ∃ (t_39 : Bool), k38 t_39 = some r ∧ St (⟨Try.f12.ntmps, M, noB, w0⟩ : Ctx) [(1, .pointer (some ⟨b2, 0, none⟩)), (3, .int .i64 (((t_11 : Nat) : Int))), (4, .pointer (some ⟨b21, 0, none⟩)), (62, .bool (t_39))] [(1000, Ob.box b2 [.int .i64 (t_.Kind), .slice (Ap02) ((t_.Pairs).length) (cp02)] 24), (2005, Ob.box b21 [.string (bs (x16.Old)), .string (bs (x16.New))] 42)] [(101, slF RChange (Ap02) ((t_.Pairs).length) (cp02) (t_.Pairs))] a w) ?_ ?_
              · rcases Decidable.em ((32 : Nat) < ((x16.Old).length)) with hs40 | hs40
                · have hs40e : decide ((32 : Nat) < ((x16.Old).length)) = true := decide_eq_true hs40
                  replace hg := br_t hg hs40
                  apply wp_region_lit
                  refine q_seq hS rfl rfl rfl (y_boxField (o' := 0) hS rfl Try.underlying42 rfl rfl rfl) ?_; clear hS a; intro a hS
                  refine q_seq hS rfl rfl rfl (y_loadBox1 (kk := 2005) hS rfl rfl rfl Try.underlying9 rfl) ?_; clear hS a; intro a hS
                  refine q_seq hS rfl rfl rfl (y_lenStrN hS rfl Try.underlying9) ?_; clear hS a; intro a hS
                  refine q_seq hS rfl rfl rfl (yl_b (y_gtrN (i := ((x16.Old).length)) (j := 32) hS rfl rfl) hs40e) ?_; clear hS a; intro a hS
                  refine q_seq hS rfl rfl rfl (y_move hS rfl) ?_; clear hS a; intro a hS
                  refine g_no hS rfl rfl rfl rfl rfl rfl rfl ?_; clear hS a; intro a hS
                  refine g_no hS rfl rfl rfl rfl rfl rfl rfl ?_; clear hS a; intro a hS
                  refine g_no hS rfl rfl rfl rfl rfl rfl rfl ?_; clear hS a; intro a hS
                  refine g_no hS rfl rfl rfl rfl rfl rfl rfl ?_; clear hS a; intro a hS
                  refine q_seq hS rfl rfl rfl (y_pick_t hS rfl rfl) ?_; clear hS a; intro a hS
                  apply wpList_nil
                  refine p_norm ?_
                  exact ⟨(true), hg, (hS.sub ⟨rfl, rfl, rfl, rfl, trivial⟩ ⟨rfl, rfl, trivial⟩ ⟨rfl, trivial⟩)⟩
                · have hs40e : decide ((32 : Nat) < ((x16.Old).length)) = false := decide_eq_false hs40
                  replace hg := br_f hg hs40
                  apply wp_region_lit
                  refine q_seq hS rfl rfl rfl (y_boxField (o' := 0) hS rfl Try.underlying42 rfl rfl rfl) ?_; clear hS a; intro a hS
                  refine q_seq hS rfl rfl rfl (y_loadBox1 (kk := 2005) hS rfl rfl rfl Try.underlying9 rfl) ?_; clear hS a; intro a hS
                  refine q_seq hS rfl rfl rfl (y_lenStrN hS rfl Try.underlying9) ?_; clear hS a; intro a hS
                  refine q_seq hS rfl rfl rfl (yl_b (y_gtrN (i := ((x16.Old).length)) (j := 32) hS rfl rfl) hs40e) ?_; clear hS a; intro a hS
                  refine q_seq hS rfl rfl rfl (y_move hS rfl) ?_; clear hS a; intro a hS
                  refine g_yes hS rfl rfl rfl rfl (l_quiet hS rfl rfl (y_boxField (o' := 1) hS rfl Try.underlying42 rfl rfl rfl) ?_); clear hS a; intro a hS
                  refine g_yes hS rfl rfl rfl rfl (l_quiet hS rfl rfl (y_loadBox1 (kk := 2005) hS rfl rfl rfl Try.underlying9 rfl) ?_); clear hS a; intro a hS
                  refine g_yes hS rfl rfl rfl rfl (l_quiet hS rfl rfl (y_lenStrN hS rfl Try.underlying9) ?_); clear hS a; intro a hS
                  refine g_yes hS rfl rfl rfl rfl (l_quiet hS rfl rfl (y_gtrN (i := ((x16.New).length)) (j := 32) hS rfl rfl) ?_); clear hS a; intro a hS
                  refine q_seq hS rfl rfl rfl (y_pick_f hS rfl rfl) ?_; clear hS a; intro a hS
                  apply wpList_nil
                  refine p_norm ?_
                  exact ⟨(decide ((32 : Nat) < ((x16.New).length))), hg, (hS.sub ⟨rfl, rfl, rfl, rfl, trivial⟩ ⟨rfl, rfl, trivial⟩ ⟨rfl, trivial⟩)⟩
              clear hS a; rintro a w ⟨t_39, hg, hS⟩
              subst hk38
              refine c_cond hS rfl (fun hc41 => ?_) (fun hc41 => ?_)
              · replace hg := br_t hg hc41
                apply wp_seq
                apply wp_region_lit
                refine q_seq hS rfl rfl rfl (y_assign hS rfl) ?_; clear hS a; intro a hS
                apply wpList_nil
                refine p_norm ?_
                apply wp_ret
                refine p_thenR ?_
                refine p_inR ?_
                refine p_thenR ?_
                refine p_thenR ?_
                refine p_inR ?_
                refine p_thenR ?_
                obtain rfl := Option.some.inj hg
                refine fin1 (fn := Try.f12) hS rfl (r_tmp hS rfl) ?_
                exact rfl
              · replace hg := br_f hg (by rw [hc41]; exact Bool.false_ne_true)
                apply wp_skip
                refine p_norm ?_
                apply wp_seq
                apply wp_region_lit
                refine q_seq hS rfl rfl rfl (y_assign hS rfl) ?_; clear hS a; intro a hS
                apply wpList_nil
                refine p_norm ?_
                apply wp_block
                refine c_loop (σ := Nat) (fun m2 a w => ∃ (t_42 : Nat), r23_Check_L1 n t_ t_11 k14 x16 m2 t_42 = some r ∧ St (⟨Try.f12.ntmps, M, noB, w0⟩ : Ctx) [(1, .pointer (some ⟨b2, 0, none⟩)), (3, .int .i64 (((t_11 : Nat) : Int))), (4, .pointer (some ⟨b21, 0, none⟩)), (5, .int .i64 (((t_42 : Nat) : Int)))] [(1000, Ob.box b2 [.int .i64 (t_.Kind), .slice (Ap02) ((t_.Pairs).length) (cp02)] 24), (2005, Ob.box b21 [.string (bs (x16.Old)), .string (bs (x16.New))] 42)] [(101, slF RChange (Ap02) ((t_.Pairs).length) (cp02) (t_.Pairs))] a w) (fun m2 => m2) n ⟨(0), hg, (hS.sub ⟨rfl, rfl, rfl, rfl, trivial⟩ ⟨rfl, rfl, trivial⟩ ⟨rfl, trivial⟩)⟩ ?_
                clear hS a; rintro m2 a w ⟨t_42, hg, hS⟩
                rcases m2 with _ | m2
                · rw [r23_Check_L1] at hg; cases hg
                rw [r23_Check_L1] at hg
                apply wp_seq
                apply wp_seq
                apply wp_region_lit
                refine q_seq hS rfl rfl rfl (y_move hS rfl) ?_; clear hS a; intro a hS
                refine q_seq hS rfl rfl rfl (y_move hS rfl) ?_; clear hS a; intro a hS
                refine q_seq hS rfl rfl rfl (y_lssN (i := t_42) (j := t_11) hS rfl rfl) ?_; clear hS a; intro a hS
                apply wpList_nil
                refine p_norm ?_
                refine c_dec hS rfl (fun hc43 => ?_) (fun hc43 => ?_)
                · replace hg := br_t hg hc43
                  apply wp_skip
                  refine p_norm ?_
                  apply wp_seq
                  apply wp_block
                  apply wp_seq
                  replace hg := bind_some hg; obtain ⟨x45, hx45, hg⟩ := hg
                  refine d_plan hS [] [(0, some 0), (1, some 1000), (2, some 0), (3, some 0), (4, some 0), (5, some 0), (6, some 0), (7, some 2005), (8, some 0)] rfl (by kernel_rfl) (by kernel_rfl) rfl ?_; clear hS; intro wr hZ hS; have hR := hS.wd
                  refine q_take hS hR rfl rfl rfl rfl (y_boxField (o' := 1) hS rfl Try.underlying24 rfl rfl rfl) ?_; clear hS a; intro a hS
                  refine q_take hS hR rfl rfl rfl rfl (y_loadBox1 (kk := 1000) hS rfl rfl rfl Try.underlying22 rfl) ?_; clear hS a; intro a hS
                  refine q_take hS hR rfl rfl rfl rfl (y_move hS rfl) ?_; clear hS a; intro a hS
                  obtain ⟨p47, hep47, hpp47⟩ := SlR.elemX (hS.fact (k := 101) rfl) hx45
                  refine q_take hS hR rfl rfl rfl rfl (y_elem (sz := 2) (i := t_42) hS rfl rfl Try.underlying22 rfl hep47 rfl (lt_of_get hx45)) ?_; clear hS a; intro a hS
                  refine q_take hS hR rfl rfl rfl rfl (y_ptrField (o' := 0) hS rfl Try.underlying42 rfl rfl rfl) ?_; clear hS a; intro a hS
                  obtain ⟨hlq48, hmq48, csq48, hdq48, hcq48⟩ := hpp47
                  obtain ⟨rfl, lq481, lq482⟩ := RChange.open hdq48
                  refine q_take hS hR rfl rfl rfl rfl (y_ldp1 hS rfl hlq48 hmq48 (hcq48 0 _ rfl) Try.underlying9 rfl) ?_; clear hS a; intro a hS
                  refine q_take hS hR rfl rfl rfl rfl (y_boxField (o' := 0) hS rfl Try.underlying42 rfl rfl rfl) ?_; clear hS a; intro a hS
                  refine q_take hS hR rfl rfl rfl rfl (y_loadBox1 (kk := 2005) hS rfl rfl rfl Try.underlying9 rfl) ?_; clear hS a; intro a hS
                  refine q_take hS hR rfl rfl rfl rfl (y_seq hS rfl rfl) ?_; clear hS a; intro a hS
                  clear hR hZ
                  refine p_norm ?_
                  refine c_dec hS rfl (fun hc49 => ?_) (fun hc49 => ?_)
                  · replace hg := br_t hg hc49
                    apply wp_seq
                    apply wp_region_lit
                    refine q_seq hS rfl rfl rfl (y_assign hS rfl) ?_; clear hS a; intro a hS
                    apply wpList_nil
                    refine p_norm ?_
                    apply wp_ret
                    refine p_inR ?_
                    refine p_thenR ?_
                    refine p_thenR ?_
                    refine p_inR ?_
                    refine p_inR ?_
                    refine p_thenR ?_
                    refine p_thenR ?_
                    refine p_inR ?_
                    refine p_thenR ?_
                    obtain rfl := Option.some.inj hg
                    refine fin1 (fn := Try.f12) hS rfl (r_tmp hS rfl) ?_
                    exact rfl
                  · replace hg := br_f hg hc49
                    apply wp_skip
                    refine p_inN ?_
                    refine p_norm ?_
                    replace hg := chk_some hg; obtain ⟨hk50, hg⟩ := hg
                    apply wp_region_lit
                    refine q_seq hS rfl rfl rfl (y_move hS rfl) ?_; clear hS a; intro a hS
                    refine q_seq hS rfl rfl rfl (y_addN (i := t_42) (j := 1) hS rfl rfl (in64.2 (by omega))) ?_; clear hS a; intro a hS
                    refine q_seq hS rfl rfl rfl (y_assign hS rfl) ?_; clear hS a; intro a hS
                    apply wpList_nil
                    refine p_norm ?_
                    exact ⟨m2, Nat.lt_succ_self _, ⟨(t_42 + 1), hg, (hS.sub ⟨rfl, rfl, rfl, rfl, trivial⟩ ⟨rfl, rfl, trivial⟩ ⟨rfl, trivial⟩)⟩⟩
                · replace hg := br_f hg hc43
                  apply wp_exit
                  refine p_then ?_
                  refine p_then ?_
                  refine p_in ?_
                  refine p_inN ?_
                  refine p_norm ?_
                  exact ⟨hg, (hS.sub ⟨rfl, rfl, trivial⟩ ⟨rfl, trivial⟩ ⟨rfl, trivial⟩)⟩
          clear hS a; rintro a w ⟨hg, hS⟩
          subst hk14
          apply wp_region_lit
          refine q_seq hS rfl rfl rfl (y_move hS rfl) ?_; clear hS a; intro a hS
          refine q_seq hS rfl rfl rfl (y_addN (i := t_11) (j := 1) hS rfl rfl (in64.2 (by omega))) ?_; clear hS a; intro a hS
          refine q_seq hS rfl rfl rfl (y_assign hS rfl) ?_; clear hS a; intro a hS
          apply wpList_nil
          refine p_norm ?_
          exact ⟨m1, Nat.lt_succ_self _, ⟨(t_11 + 1), hg, (hS.sub ⟨rfl, rfl, trivial⟩ ⟨rfl, trivial⟩ ⟨rfl, trivial⟩)⟩⟩
        · replace hg := br_f hg hc12
          apply wp_exit
          refine p_then ?_
          refine p_then ?_
          refine p_in ?_
          refine p_norm ?_
          apply wp_seq
          apply wp_region_lit
          refine q_seq hS rfl rfl rfl (y_assign hS rfl) ?_; clear hS a; intro a hS
          apply wpList_nil
          refine p_norm ?_
          apply wp_ret
          obtain rfl := Option.some.inj hg
          refine fin1 (fn := Try.f12) hS rfl (r_tmp hS rfl) ?_
          exact rfl
set_option maxHeartbeats 400000 in
theorem c_law23_AffixChecks (n : Nat) (M : Bs) (w0 : World) (hM : ∀ b, M b → b < w0.heap.size) (a_ : Affix) (Ap02 : Option Addr) (cp02 : Nat) (hp02 : SlR RChange M w0 Ap02 (a_.Pairs).length cp02 (a_.Pairs)) (r : Bool) (hg : law23_AffixChecks n a_ = some r) :
    Calls Try.prog 3 [.agg #[.int .i64 (a_.Kind), .slice (Ap02) ((a_.Pairs).length) (cp02)]].toArray w0 (Ret noB w0 fun v w => v = .bool (r)) := by
  unfold law23_AffixChecks at hg
  refine enter M noB Try.func3 rfl rfl hM ?_
  intro a hS
  replace hS := hS.add 101 (slF RChange (Ap02) ((a_.Pairs).length) (cp02) (a_.Pairs)) (by exact Fact.change _ enterM hp02)
  apply wp_seq
  apply wp_region_lit
  refine l_seq rfl (l_box (zs := [.int .i64 (a_.Kind), .slice (Ap02) ((a_.Pairs).length) (cp02)]) hS 1000 rfl rfl rfl rfl ?_); clear hS a; intro b2 a w hb hK hS
  clear hb
  clear hK
  refine q_seq hS rfl rfl rfl (y_assign hS rfl) ?_; clear hS a; intro a hS
  apply wpList_nil
  refine p_norm ?_
  apply wp_seq
  apply wp_seq
  replace hg := bind_some hg; obtain ⟨r3, hr3, hg⟩ := hg
  apply wp_region_lit
  refine q_seq hS rfl rfl rfl (y_loadBox (kk := 1000) (n := 2) (vs := [.int .i64 (a_.Kind), .slice (Ap02) ((a_.Pairs).length) (cp02)]) hS rfl rfl Try.underlying24 rfl rfl rfl rfl) ?_; clear hS a; intro a hS
  refine l_seq rfl (l_call (cap := []) hS rfl Try.func9 rfl (by kernel_rfl) rfl rfl (c_r23_Light n _ _ hS.lt a_ (Ap02) (cp02) (hS.fact (k := 101) rfl) r3 hr3) ?_); clear hS a; intro v6 a w hK hp hS
  clear hK
  obtain rfl := hp
  refine q_seq hS rfl rfl rfl (y_not hS rfl) ?_; clear hS a; intro a hS
  apply wpList_nil
  refine p_norm ?_
  refine c_cond hS rfl (fun hc8 => ?_) (fun hc8 => ?_)
  · replace hg := br_t hg hc8
    apply wp_seq
    replace hg := bind_some hg; obtain ⟨r9, hr9, hg⟩ := hg
    apply wp_region_lit
    refine l_seq rfl (l_call (cap := []) hS rfl Try.func10 rfl (by kernel_rfl) rfl rfl (c_law23_exampleHolds n _ _ hS.lt  r9 hr9) ?_); clear hS a; intro v12 a w hK hp hS
    clear hK
    obtain rfl := hp
    refine q_seq hS rfl rfl rfl (y_assign hS rfl) ?_; clear hS a; intro a hS
    apply wpList_nil
    refine p_norm ?_
    apply wp_ret
    refine p_thenR ?_
    obtain rfl := Option.some.inj hg
    refine fin1 (fn := Try.f3) hS rfl (r_tmp hS rfl) ?_
    exact rfl
  · replace hg := br_f hg (by rw [hc8]; exact Bool.false_ne_true)
    apply wp_skip
    refine p_norm ?_
    apply wp_seq
    replace hg := bind_some hg; obtain ⟨r14, hr14, hg⟩ := hg
    replace hg := bind_some hg; obtain ⟨r17, hr17, hg⟩ := hg
    rcases Decidable.em (r14 = r17) with hs20 | hs20
    · have hs20e : decide (r14 = r17) = true := decide_eq_true hs20
      replace hg := br_t hg hs20
      replace hg := bind_some hg; obtain ⟨r21, hr21, hg⟩ := hg
      refine d_plan hS [] [(0, some 1000), (2, some 1000), (1, none), (3, none), (4, none), (5, none), (6, none), (7, none), (8, none)] rfl (by kernel_rfl) (by kernel_rfl) rfl ?_; clear hS; intro wr hZ hS; have hR := hS.wd
      refine q_take hS hR rfl rfl rfl rfl (y_loadBox (kk := 1000) (n := 2) (vs := [.int .i64 (a_.Kind), .slice (Ap02) ((a_.Pairs).length) (cp02)]) hS rfl rfl Try.underlying24 rfl rfl rfl rfl) ?_; clear hS a; intro a hS
      refine q_take hS hR rfl rfl rfl rfl (y_loadBox (kk := 1000) (n := 2) (vs := [.int .i64 (a_.Kind), .slice (Ap02) ((a_.Pairs).length) (cp02)]) hS rfl rfl Try.underlying24 rfl rfl rfl rfl) ?_; clear hS a; intro a hS
      refine l_take hS rfl rfl (l_call (cap := []) hS rfl Try.func11 rfl (by kernel_rfl) rfl rfl (c_affix_Check n _ _ hS.lt a_ (Ap02) (cp02) (hS.fact (k := 101) rfl) r14 hr14) ?_); clear hS a; intro v24 a w hK hp hS
      replace hZ := Nat.le_trans hZ hK.size; refine ⟨fun g _ h => h.grow hK, ?_⟩; clear hK
      obtain rfl := hp
      refine l_take hS rfl rfl (l_call (cap := []) hS rfl Try.func12 rfl (by kernel_rfl) rfl rfl (c_r23_Check n _ _ hS.lt a_ (Ap02) (cp02) (hS.fact (k := 101) rfl) r17 hr17) ?_); clear hS a; intro v26 a w hK hp hS
      replace hZ := Nat.le_trans hZ hK.size; refine ⟨fun g _ h => h.grow hK, ?_⟩; clear hK
      obtain rfl := hp
      refine l_take hS rfl rfl (l_quiet hS rfl rfl (yl_b (y_eql hS rfl rfl) hs20e) ?_); clear hS a; intro a hS; refine ⟨fun g _ h => h, ?_⟩
      refine l_take hS rfl rfl (l_quiet hS rfl rfl (y_move hS rfl) ?_); clear hS a; intro a hS; refine ⟨fun g _ h => h, ?_⟩
      refine l_take hS rfl ⟨_, _, _, rfl, rfl, rfl, rfl⟩ (l_call (cap := []) hS rfl Try.func10 rfl (by kernel_rfl) rfl rfl (c_law23_exampleHolds n _ _ hS.lt  r21 hr21) ?_); clear hS a; intro v28 a w hK hp hS
      replace hZ := Nat.le_trans hZ hK.size; refine ⟨fun g _ h => h.grow hK, ?_⟩; clear hK
      obtain rfl := hp
      refine l_take hS rfl rfl (l_quiet hS rfl rfl (y_pick_t hS rfl rfl) ?_); clear hS a; intro a hS; refine ⟨fun g _ h => h, ?_⟩
      refine l_take hS rfl rfl (l_quiet hS rfl rfl (y_assign hS rfl) ?_); clear hS a; intro a hS; refine ⟨fun g _ h => h, ?_⟩
      clear hR hZ
      refine p_norm ?_
      apply wp_ret
      obtain rfl := Option.some.inj hg
      refine fin1 (fn := Try.f3) hS rfl (r_tmp hS rfl) ?_
      exact rfl
    · have hs20e : decide (r14 = r17) = false := decide_eq_false hs20
      replace hg := br_f hg hs20
      refine d_plan hS [] [(0, some 1000), (2, some 1000), (1, none), (3, none), (4, none), (5, none), (6, none), (7, none), (8, none)] rfl (by kernel_rfl) (by kernel_rfl) rfl ?_; clear hS; intro wr hZ hS; have hR := hS.wd
      refine q_take hS hR rfl rfl rfl rfl (y_loadBox (kk := 1000) (n := 2) (vs := [.int .i64 (a_.Kind), .slice (Ap02) ((a_.Pairs).length) (cp02)]) hS rfl rfl Try.underlying24 rfl rfl rfl rfl) ?_; clear hS a; intro a hS
      refine q_take hS hR rfl rfl rfl rfl (y_loadBox (kk := 1000) (n := 2) (vs := [.int .i64 (a_.Kind), .slice (Ap02) ((a_.Pairs).length) (cp02)]) hS rfl rfl Try.underlying24 rfl rfl rfl rfl) ?_; clear hS a; intro a hS
      refine l_take hS rfl rfl (l_call (cap := []) hS rfl Try.func11 rfl (by kernel_rfl) rfl rfl (c_affix_Check n _ _ hS.lt a_ (Ap02) (cp02) (hS.fact (k := 101) rfl) r14 hr14) ?_); clear hS a; intro v30 a w hK hp hS
      replace hZ := Nat.le_trans hZ hK.size; refine ⟨fun g _ h => h.grow hK, ?_⟩; clear hK
      obtain rfl := hp
      refine l_take hS rfl rfl (l_call (cap := []) hS rfl Try.func12 rfl (by kernel_rfl) rfl rfl (c_r23_Check n _ _ hS.lt a_ (Ap02) (cp02) (hS.fact (k := 101) rfl) r17 hr17) ?_); clear hS a; intro v32 a w hK hp hS
      replace hZ := Nat.le_trans hZ hK.size; refine ⟨fun g _ h => h.grow hK, ?_⟩; clear hK
      obtain rfl := hp
      refine l_take hS rfl rfl (l_quiet hS rfl rfl (yl_b (y_eql hS rfl rfl) hs20e) ?_); clear hS a; intro a hS; refine ⟨fun g _ h => h, ?_⟩
      refine l_take hS rfl rfl (l_quiet hS rfl rfl (y_move hS rfl) ?_); clear hS a; intro a hS; refine ⟨fun g _ h => h, ?_⟩
      refine l_pass hS rfl ⟨_, _, _, rfl, rfl, rfl, rfl⟩ rfl rfl ?_; clear hS a; intro a hS
      refine l_take hS rfl rfl (l_quiet hS rfl rfl (y_pick_f hS rfl rfl) ?_); clear hS a; intro a hS; refine ⟨fun g _ h => h, ?_⟩
      refine l_take hS rfl rfl (l_quiet hS rfl rfl (y_assign hS rfl) ?_); clear hS a; intro a hS; refine ⟨fun g _ h => h, ?_⟩
      clear hR hZ
      refine p_norm ?_
      apply wp_ret
      obtain rfl := Option.some.inj hg
      refine fin1 (fn := Try.f3) hS rfl (r_tmp hS rfl) ?_
      exact rfl
set_option maxHeartbeats 400000 in
theorem c_r01_upper (n : Nat) (M : Bs) (w0 : World) (hM : ∀ b, M b → b < w0.heap.size) (c_ : UInt8) (r : Bool) (hg : r01_upper n c_ = some r) :
    Calls Try.prog 26 [.int .u8 (((c_.toNat : Nat) : Int))].toArray w0 (Ret noB w0 fun v w => v = .bool (r)) := by
  unfold r01_upper at hg
  refine enter M noB Try.func26 rfl rfl hM ?_
  intro a hS
  apply wp_seq
  apply wp_region_lit
  refine q_seq hS rfl rfl rfl (y_assign hS rfl) ?_; clear hS a; intro a hS
  apply wpList_nil
  refine p_norm ?_
  apply wp_seq
  rcases Decidable.em ((65 : Nat) ≤ c_.toNat) with hs1 | hs1
  · have hs1e : decide ((65 : Nat) ≤ c_.toNat) = true := decide_eq_true hs1
    replace hg := br_t hg hs1
    apply wp_region_lit
    refine q_seq hS rfl rfl rfl (y_move hS rfl) ?_; clear hS a; intro a hS
    refine q_seq hS rfl rfl rfl (yl_b (y_geqN (i := c_.toNat) (j := 65) hS rfl rfl) hs1e) ?_; clear hS a; intro a hS
    refine q_seq hS rfl rfl rfl (y_move hS rfl) ?_; clear hS a; intro a hS
    refine g_yes hS rfl rfl rfl rfl (l_quiet hS rfl rfl (y_move hS rfl) ?_); clear hS a; intro a hS
    refine g_yes hS rfl rfl rfl rfl (l_quiet hS rfl rfl (y_leqN (i := c_.toNat) (j := 90) hS rfl rfl) ?_); clear hS a; intro a hS
    refine q_seq hS rfl rfl rfl (y_pick_t hS rfl rfl) ?_; clear hS a; intro a hS
    refine q_seq hS rfl rfl rfl (y_assign hS rfl) ?_; clear hS a; intro a hS
    apply wpList_nil
    refine p_norm ?_
    apply wp_ret
    obtain rfl := Option.some.inj hg
    refine fin1 (fn := Try.f26) hS rfl (r_tmp hS rfl) ?_
    exact rfl
  · have hs1e : decide ((65 : Nat) ≤ c_.toNat) = false := decide_eq_false hs1
    replace hg := br_f hg hs1
    apply wp_region_lit
    refine q_seq hS rfl rfl rfl (y_move hS rfl) ?_; clear hS a; intro a hS
    refine q_seq hS rfl rfl rfl (yl_b (y_geqN (i := c_.toNat) (j := 65) hS rfl rfl) hs1e) ?_; clear hS a; intro a hS
    refine q_seq hS rfl rfl rfl (y_move hS rfl) ?_; clear hS a; intro a hS
    refine g_no hS rfl rfl rfl rfl rfl rfl rfl ?_; clear hS a; intro a hS
    refine g_no hS rfl rfl rfl rfl rfl rfl rfl ?_; clear hS a; intro a hS
    refine q_seq hS rfl rfl rfl (y_pick_f hS rfl rfl) ?_; clear hS a; intro a hS
    refine q_seq hS rfl rfl rfl (y_assign hS rfl) ?_; clear hS a; intro a hS
    apply wpList_nil
    refine p_norm ?_
    apply wp_ret
    obtain rfl := Option.some.inj hg
    refine fin1 (fn := Try.f26) hS rfl (r_tmp hS rfl) ?_
    exact rfl
set_option maxHeartbeats 400000 in
theorem c_r01_Word (n : Nat) (M : Bs) (w0 : World) (hM : ∀ b, M b → b < w0.heap.size) (s_ : (List UInt8)) (lp01 : (s_).length ≤ 9223372036854775807) (r : Bool) (hg : r01_Word n s_ = some r) :
    Calls Try.prog 13 [.string (bs (s_))].toArray w0 (Ret noB w0 fun v w => v = .bool (r)) := by
  unfold r01_Word at hg
  refine enter M noB Try.func13 rfl rfl hM ?_
  intro a hS
  apply wp_seq
  apply wp_region_lit
  refine q_seq hS rfl rfl rfl (y_assign hS rfl) ?_; clear hS a; intro a hS
  apply wpList_nil
  refine p_norm ?_
  apply wp_seq
  apply wp_seq
  replace hg := jn_some hg; obtain ⟨k1, hg, hk1⟩ := hg
  refine c_post (fun a w => ∃ (t_2 : Bool), k1 t_2 = some r ∧ St (⟨Try.f13.ntmps, M, noB, w0⟩ : Ctx) [(0, .string (bs (s_))), (11, .bool (t_2))] [] [] a w) ?_ ?_
  · rcases Decidable.em (((s_).length) < 1) with hs3 | hs3
    · have hs3e : decide (((s_).length) < 1) = true := decide_eq_true hs3
      replace hg := br_t hg hs3
      apply wp_region_lit
      refine q_seq hS rfl rfl rfl (y_move hS rfl) ?_; clear hS a; intro a hS
      refine q_seq hS rfl rfl rfl (y_lenStrN hS rfl Try.underlying9) ?_; clear hS a; intro a hS
      refine q_seq hS rfl rfl rfl (yl_b (y_lssN (i := ((s_).length)) (j := 1) hS rfl rfl) hs3e) ?_; clear hS a; intro a hS
      refine q_seq hS rfl rfl rfl (y_move hS rfl) ?_; clear hS a; intro a hS
      refine g_no hS rfl rfl rfl rfl rfl rfl rfl ?_; clear hS a; intro a hS
      refine g_no hS rfl rfl rfl rfl rfl rfl rfl ?_; clear hS a; intro a hS
      refine g_no hS rfl rfl rfl rfl rfl rfl rfl ?_; clear hS a; intro a hS
      refine q_seq hS rfl rfl rfl (y_pick_t hS rfl rfl) ?_; clear hS a; intro a hS
      apply wpList_nil
      refine p_norm ?_
      exact ⟨(true), hg, (hS.sub ⟨rfl, rfl, trivial⟩ trivial trivial)⟩
    · have hs3e : decide (((s_).length) < 1) = false := decide_eq_false hs3
      replace hg := br_f hg hs3
      apply wp_region_lit
      refine q_seq hS rfl rfl rfl (y_move hS rfl) ?_; clear hS a; intro a hS
      refine q_seq hS rfl rfl rfl (y_lenStrN hS rfl Try.underlying9) ?_; clear hS a; intro a hS
      refine q_seq hS rfl rfl rfl (yl_b (y_lssN (i := ((s_).length)) (j := 1) hS rfl rfl) hs3e) ?_; clear hS a; intro a hS
      refine q_seq hS rfl rfl rfl (y_move hS rfl) ?_; clear hS a; intro a hS
      refine g_yes hS rfl rfl rfl rfl (l_quiet hS rfl rfl (y_move hS rfl) ?_); clear hS a; intro a hS
      refine g_yes hS rfl rfl rfl rfl (l_quiet hS rfl rfl (y_lenStrN hS rfl Try.underlying9) ?_); clear hS a; intro a hS
      refine g_yes hS rfl rfl rfl rfl (l_quiet hS rfl rfl (y_gtrN (i := ((s_).length)) (j := 32) hS rfl rfl) ?_); clear hS a; intro a hS
      refine q_seq hS rfl rfl rfl (y_pick_f hS rfl rfl) ?_; clear hS a; intro a hS
      apply wpList_nil
      refine p_norm ?_
      exact ⟨(decide ((32 : Nat) < ((s_).length))), hg, (hS.sub ⟨rfl, rfl, trivial⟩ trivial trivial)⟩
  clear hS a; rintro a w ⟨t_2, hg, hS⟩
  subst hk1
  refine c_cond hS rfl (fun hc4 => ?_) (fun hc4 => ?_)
  · replace hg := br_t hg hc4
    apply wp_seq
    apply wp_region_lit
    refine q_seq hS rfl rfl rfl (y_assign hS rfl) ?_; clear hS a; intro a hS
    apply wpList_nil
    refine p_norm ?_
    apply wp_ret
    refine p_thenR ?_
    obtain rfl := Option.some.inj hg
    refine fin1 (fn := Try.f13) hS rfl (r_tmp hS rfl) ?_
    exact rfl
  · replace hg := br_f hg (by rw [hc4]; exact Bool.false_ne_true)
    apply wp_skip
    refine p_norm ?_
    apply wp_seq
    apply wp_seq
    apply wp_region_lit
    refine q_seq hS rfl rfl rfl (y_assign hS rfl) ?_; clear hS a; intro a hS
    apply wpList_nil
    refine p_norm ?_
    apply wp_block
    refine c_loop (σ := Nat) (fun m1 a w => ∃ (i_5 : Nat), r01_Word_L0 n s_ m1 i_5 = some r ∧ St (⟨Try.f13.ntmps, M, noB, w0⟩ : Ctx) [(0, .string (bs (s_))), (3, .int .i64 (((i_5 : Nat) : Int)))] [] [] a w) (fun m1 => m1) n ⟨(0), hg, (hS.sub ⟨rfl, rfl, trivial⟩ trivial trivial)⟩ ?_
    clear hS a; rintro m1 a w ⟨i_5, hg, hS⟩
    rcases m1 with _ | m1
    · rw [r01_Word_L0] at hg; cases hg
    rw [r01_Word_L0] at hg
    apply wp_seq
    apply wp_seq
    apply wp_region_lit
    refine q_seq hS rfl rfl rfl (y_move hS rfl) ?_; clear hS a; intro a hS
    refine q_seq hS rfl rfl rfl (y_move hS rfl) ?_; clear hS a; intro a hS
    refine q_seq hS rfl rfl rfl (y_lenStrN hS rfl Try.underlying9) ?_; clear hS a; intro a hS
    refine q_seq hS rfl rfl rfl (y_lssN (i := i_5) (j := ((s_).length)) hS rfl rfl) ?_; clear hS a; intro a hS
    apply wpList_nil
    refine p_norm ?_
    refine c_dec hS rfl (fun hc6 => ?_) (fun hc6 => ?_)
    · replace hg := br_t hg hc6
      have hmx7 : (s_).length ≤ 9223372036854775807 := (by first | omega | (rw [List.length_append]; omega) | (simp only [List.length_append]; omega) | (simp only [List.length_append, List.length_take, List.length_drop, List.length_cons, List.length_nil]; omega))
      apply wp_skip
      refine p_norm ?_
      apply wp_seq
      apply wp_block
      apply wp_seq
      replace hg := jn_some hg; obtain ⟨k8, hg, hk8⟩ := hg
      refine c_post (fun a w => ∃ (t_9 : Bool), k8 t_9 = some r ∧ St (⟨Try.f13.ntmps, M, noB, w0⟩ : Ctx) [(0, .string (bs (s_))), (3, .int .i64 (((i_5 : Nat) : Int))), (45, .bool (t_9))] [] [] a w) ?_ ?_
      · replace hg := bind_some hg; obtain ⟨c10, hc10, hg⟩ := hg
        rcases Decidable.em (c10.toNat < 33) with hs11 | hs11
        · have hs11e : decide (c10.toNat < 33) = true := decide_eq_true hs11
          replace hg := br_t hg hs11
          apply wp_region_lit
          refine q_seq hS rfl rfl rfl (y_move hS rfl) ?_; clear hS a; intro a hS
          refine q_seq hS rfl rfl rfl (y_move hS rfl) ?_; clear hS a; intro a hS
          refine q_seq hS rfl rfl rfl (y_indexN (i := i_5) hS rfl rfl Try.underlying9 rfl hc10) ?_; clear hS a; intro a hS
          refine q_seq hS rfl rfl rfl (yl_b (y_lssN (i := c10.toNat) (j := 33) hS rfl rfl) hs11e) ?_; clear hS a; intro a hS
          refine q_seq hS rfl rfl rfl (y_move hS rfl) ?_; clear hS a; intro a hS
          refine g_no hS rfl rfl rfl rfl rfl rfl rfl ?_; clear hS a; intro a hS
          refine g_no hS rfl rfl rfl rfl rfl rfl rfl ?_; clear hS a; intro a hS
          refine g_no hS rfl rfl rfl rfl rfl rfl rfl ?_; clear hS a; intro a hS
          refine g_no hS rfl rfl rfl rfl rfl rfl rfl ?_; clear hS a; intro a hS
          refine q_seq hS rfl rfl rfl (y_pick_t hS rfl rfl) ?_; clear hS a; intro a hS
          refine q_seq hS rfl rfl rfl (y_move hS rfl) ?_; clear hS a; intro a hS
          refine g_no hS rfl rfl rfl rfl rfl rfl rfl ?_; clear hS a; intro a hS
          refine g_no hS rfl rfl rfl rfl rfl rfl rfl ?_; clear hS a; intro a hS
          refine g_no hS rfl rfl rfl rfl rfl rfl rfl ?_; clear hS a; intro a hS
          refine g_no hS rfl rfl rfl rfl rfl rfl rfl ?_; clear hS a; intro a hS
          refine q_seq hS rfl rfl rfl (y_pick_t hS rfl rfl) ?_; clear hS a; intro a hS
          refine q_seq hS rfl rfl rfl (y_move hS rfl) ?_; clear hS a; intro a hS
          refine g_no hS rfl rfl rfl rfl rfl rfl rfl ?_; clear hS a; intro a hS
          refine g_no hS rfl rfl rfl rfl rfl rfl rfl ?_; clear hS a; intro a hS
          refine g_no hS rfl rfl rfl rfl rfl rfl rfl ?_; clear hS a; intro a hS
          refine g_no hS rfl rfl rfl rfl rfl rfl rfl ?_; clear hS a; intro a hS
          refine q_seq hS rfl rfl rfl (y_pick_t hS rfl rfl) ?_; clear hS a; intro a hS
          refine q_seq hS rfl rfl rfl (y_move hS rfl) ?_; clear hS a; intro a hS
          refine g_no hS rfl rfl rfl rfl rfl rfl rfl ?_; clear hS a; intro a hS
          refine g_no hS rfl rfl rfl rfl rfl rfl rfl ?_; clear hS a; intro a hS
          refine g_no hS rfl rfl rfl rfl rfl rfl rfl ?_; clear hS a; intro a hS
          refine g_no hS rfl rfl rfl rfl rfl rfl rfl ?_; clear hS a; intro a hS
          refine q_seq hS rfl rfl rfl (y_pick_t hS rfl rfl) ?_; clear hS a; intro a hS
          apply wpList_nil
          refine p_norm ?_
          exact ⟨(true), hg, (hS.sub ⟨rfl, rfl, rfl, trivial⟩ trivial trivial)⟩
        · have hs11e : decide (c10.toNat < 33) = false := decide_eq_false hs11
          replace hg := br_f hg hs11
          rcases Decidable.em ((126 : Nat) < c10.toNat) with hs12 | hs12
          · have hs12e : decide ((126 : Nat) < c10.toNat) = true := decide_eq_true hs12
            replace hg := br_t hg hs12
            apply wp_region_lit
            refine q_seq hS rfl rfl rfl (y_move hS rfl) ?_; clear hS a; intro a hS
            refine q_seq hS rfl rfl rfl (y_move hS rfl) ?_; clear hS a; intro a hS
            refine q_seq hS rfl rfl rfl (y_indexN (i := i_5) hS rfl rfl Try.underlying9 rfl hc10) ?_; clear hS a; intro a hS
            refine q_seq hS rfl rfl rfl (yl_b (y_lssN (i := c10.toNat) (j := 33) hS rfl rfl) hs11e) ?_; clear hS a; intro a hS
            refine q_seq hS rfl rfl rfl (y_move hS rfl) ?_; clear hS a; intro a hS
            refine g_yes hS rfl rfl rfl rfl (l_quiet hS rfl rfl (y_move hS rfl) ?_); clear hS a; intro a hS
            refine g_yes hS rfl rfl rfl rfl (l_quiet hS rfl rfl (y_move hS rfl) ?_); clear hS a; intro a hS
            refine g_yes hS rfl rfl rfl rfl (l_quiet hS rfl rfl (y_indexN (i := i_5) hS rfl rfl Try.underlying9 rfl hc10) ?_); clear hS a; intro a hS
            refine g_yes hS rfl rfl rfl rfl (l_quiet hS rfl rfl (yl_b (y_gtrN (i := c10.toNat) (j := 126) hS rfl rfl) hs12e) ?_); clear hS a; intro a hS
            refine q_seq hS rfl rfl rfl (y_pick_f hS rfl rfl) ?_; clear hS a; intro a hS
            refine q_seq hS rfl rfl rfl (y_move hS rfl) ?_; clear hS a; intro a hS
            refine g_no hS rfl rfl rfl rfl rfl rfl rfl ?_; clear hS a; intro a hS
            refine g_no hS rfl rfl rfl rfl rfl rfl rfl ?_; clear hS a; intro a hS
            refine g_no hS rfl rfl rfl rfl rfl rfl rfl ?_; clear hS a; intro a hS
            refine g_no hS rfl rfl rfl rfl rfl rfl rfl ?_; clear hS a; intro a hS
            refine q_seq hS rfl rfl rfl (y_pick_t hS rfl rfl) ?_; clear hS a; intro a hS
            refine q_seq hS rfl rfl rfl (y_move hS rfl) ?_; clear hS a; intro a hS
            refine g_no hS rfl rfl rfl rfl rfl rfl rfl ?_; clear hS a; intro a hS
            refine g_no hS rfl rfl rfl rfl rfl rfl rfl ?_; clear hS a; intro a hS
            refine g_no hS rfl rfl rfl rfl rfl rfl rfl ?_; clear hS a; intro a hS
            refine g_no hS rfl rfl rfl rfl rfl rfl rfl ?_; clear hS a; intro a hS
            refine q_seq hS rfl rfl rfl (y_pick_t hS rfl rfl) ?_; clear hS a; intro a hS
            refine q_seq hS rfl rfl rfl (y_move hS rfl) ?_; clear hS a; intro a hS
            refine g_no hS rfl rfl rfl rfl rfl rfl rfl ?_; clear hS a; intro a hS
            refine g_no hS rfl rfl rfl rfl rfl rfl rfl ?_; clear hS a; intro a hS
            refine g_no hS rfl rfl rfl rfl rfl rfl rfl ?_; clear hS a; intro a hS
            refine g_no hS rfl rfl rfl rfl rfl rfl rfl ?_; clear hS a; intro a hS
            refine q_seq hS rfl rfl rfl (y_pick_t hS rfl rfl) ?_; clear hS a; intro a hS
            apply wpList_nil
            refine p_norm ?_
            exact ⟨(true), hg, (hS.sub ⟨rfl, rfl, rfl, trivial⟩ trivial trivial)⟩
          · have hs12e : decide ((126 : Nat) < c10.toNat) = false := decide_eq_false hs12
            replace hg := br_f hg hs12
            replace hg := bind_some hg; obtain ⟨r13, hr13, hg⟩ := hg
            rcases Bool.eq_false_or_eq_true (r13) with hs16 | hs16
            · replace hg := br_t hg hs16
              apply wp_region_lit
              refine q_seq hS rfl rfl rfl (y_move hS rfl) ?_; clear hS a; intro a hS
              refine q_seq hS rfl rfl rfl (y_move hS rfl) ?_; clear hS a; intro a hS
              refine q_seq hS rfl rfl rfl (y_indexN (i := i_5) hS rfl rfl Try.underlying9 rfl hc10) ?_; clear hS a; intro a hS
              refine q_seq hS rfl rfl rfl (yl_b (y_lssN (i := c10.toNat) (j := 33) hS rfl rfl) hs11e) ?_; clear hS a; intro a hS
              refine q_seq hS rfl rfl rfl (y_move hS rfl) ?_; clear hS a; intro a hS
              refine g_yes hS rfl rfl rfl rfl (l_quiet hS rfl rfl (y_move hS rfl) ?_); clear hS a; intro a hS
              refine g_yes hS rfl rfl rfl rfl (l_quiet hS rfl rfl (y_move hS rfl) ?_); clear hS a; intro a hS
              refine g_yes hS rfl rfl rfl rfl (l_quiet hS rfl rfl (y_indexN (i := i_5) hS rfl rfl Try.underlying9 rfl hc10) ?_); clear hS a; intro a hS
              refine g_yes hS rfl rfl rfl rfl (l_quiet hS rfl rfl (yl_b (y_gtrN (i := c10.toNat) (j := 126) hS rfl rfl) hs12e) ?_); clear hS a; intro a hS
              refine q_seq hS rfl rfl rfl (y_pick_f hS rfl rfl) ?_; clear hS a; intro a hS
              refine q_seq hS rfl rfl rfl (y_move hS rfl) ?_; clear hS a; intro a hS
              refine g_yes hS rfl rfl rfl rfl (l_quiet hS rfl rfl (y_move hS rfl) ?_); clear hS a; intro a hS
              refine g_yes hS rfl rfl rfl rfl (l_quiet hS rfl rfl (y_move hS rfl) ?_); clear hS a; intro a hS
              refine g_yes hS rfl rfl rfl rfl (l_quiet hS rfl rfl (y_indexN (i := i_5) hS rfl rfl Try.underlying9 rfl hc10) ?_); clear hS a; intro a hS
              refine g_yes hS rfl rfl rfl rfl (l_call (cap := []) hS rfl Try.func26 rfl (by kernel_rfl) rfl rfl (c_r01_upper n _ _ hS.lt c10 r13 hr13) ?_); clear hS a; intro v17 a w hK hp hS
              clear hK
              obtain rfl := hp.trans (congrArg Value.bool hs16)
              refine q_seq hS rfl rfl rfl (y_pick_f hS rfl rfl) ?_; clear hS a; intro a hS
              refine q_seq hS rfl rfl rfl (y_move hS rfl) ?_; clear hS a; intro a hS
              refine g_no hS rfl rfl rfl rfl rfl rfl rfl ?_; clear hS a; intro a hS
              refine g_no hS rfl rfl rfl rfl rfl rfl rfl ?_; clear hS a; intro a hS
              refine g_no hS rfl rfl rfl rfl rfl rfl rfl ?_; clear hS a; intro a hS
              refine g_no hS rfl rfl rfl rfl rfl rfl rfl ?_; clear hS a; intro a hS
              refine q_seq hS rfl rfl rfl (y_pick_t hS rfl rfl) ?_; clear hS a; intro a hS
              refine q_seq hS rfl rfl rfl (y_move hS rfl) ?_; clear hS a; intro a hS
              refine g_no hS rfl rfl rfl rfl rfl rfl rfl ?_; clear hS a; intro a hS
              refine g_no hS rfl rfl rfl rfl rfl rfl rfl ?_; clear hS a; intro a hS
              refine g_no hS rfl rfl rfl rfl rfl rfl rfl ?_; clear hS a; intro a hS
              refine g_no hS rfl rfl rfl rfl rfl rfl rfl ?_; clear hS a; intro a hS
              refine q_seq hS rfl rfl rfl (y_pick_t hS rfl rfl) ?_; clear hS a; intro a hS
              apply wpList_nil
              refine p_norm ?_
              exact ⟨(true), hg, (hS.sub ⟨rfl, rfl, rfl, trivial⟩ trivial trivial)⟩
            · replace hg := br_f hg (by rw [hs16]; exact Bool.false_ne_true)
              rcases Decidable.em (c10.toNat = 34) with hs19 | hs19
              · have hs19e : decide (c10.toNat = 34) = true := decide_eq_true hs19
                replace hg := br_t hg hs19
                apply wp_region_lit
                refine q_seq hS rfl rfl rfl (y_move hS rfl) ?_; clear hS a; intro a hS
                refine q_seq hS rfl rfl rfl (y_move hS rfl) ?_; clear hS a; intro a hS
                refine q_seq hS rfl rfl rfl (y_indexN (i := i_5) hS rfl rfl Try.underlying9 rfl hc10) ?_; clear hS a; intro a hS
                refine q_seq hS rfl rfl rfl (yl_b (y_lssN (i := c10.toNat) (j := 33) hS rfl rfl) hs11e) ?_; clear hS a; intro a hS
                refine q_seq hS rfl rfl rfl (y_move hS rfl) ?_; clear hS a; intro a hS
                refine g_yes hS rfl rfl rfl rfl (l_quiet hS rfl rfl (y_move hS rfl) ?_); clear hS a; intro a hS
                refine g_yes hS rfl rfl rfl rfl (l_quiet hS rfl rfl (y_move hS rfl) ?_); clear hS a; intro a hS
                refine g_yes hS rfl rfl rfl rfl (l_quiet hS rfl rfl (y_indexN (i := i_5) hS rfl rfl Try.underlying9 rfl hc10) ?_); clear hS a; intro a hS
                refine g_yes hS rfl rfl rfl rfl (l_quiet hS rfl rfl (yl_b (y_gtrN (i := c10.toNat) (j := 126) hS rfl rfl) hs12e) ?_); clear hS a; intro a hS
                refine q_seq hS rfl rfl rfl (y_pick_f hS rfl rfl) ?_; clear hS a; intro a hS
                refine q_seq hS rfl rfl rfl (y_move hS rfl) ?_; clear hS a; intro a hS
                refine g_yes hS rfl rfl rfl rfl (l_quiet hS rfl rfl (y_move hS rfl) ?_); clear hS a; intro a hS
                refine g_yes hS rfl rfl rfl rfl (l_quiet hS rfl rfl (y_move hS rfl) ?_); clear hS a; intro a hS
                refine g_yes hS rfl rfl rfl rfl (l_quiet hS rfl rfl (y_indexN (i := i_5) hS rfl rfl Try.underlying9 rfl hc10) ?_); clear hS a; intro a hS
                refine g_yes hS rfl rfl rfl rfl (l_call (cap := []) hS rfl Try.func26 rfl (by kernel_rfl) rfl rfl (c_r01_upper n _ _ hS.lt c10 r13 hr13) ?_); clear hS a; intro v20 a w hK hp hS
                clear hK
                obtain rfl := hp.trans (congrArg Value.bool hs16)
                refine q_seq hS rfl rfl rfl (y_pick_f hS rfl rfl) ?_; clear hS a; intro a hS
                refine q_seq hS rfl rfl rfl (y_move hS rfl) ?_; clear hS a; intro a hS
                refine g_yes hS rfl rfl rfl rfl (l_quiet hS rfl rfl (y_move hS rfl) ?_); clear hS a; intro a hS
                refine g_yes hS rfl rfl rfl rfl (l_quiet hS rfl rfl (y_move hS rfl) ?_); clear hS a; intro a hS
                refine g_yes hS rfl rfl rfl rfl (l_quiet hS rfl rfl (y_indexN (i := i_5) hS rfl rfl Try.underlying9 rfl hc10) ?_); clear hS a; intro a hS
                refine g_yes hS rfl rfl rfl rfl (l_quiet hS rfl rfl (yl_b (y_eqlN (i := c10.toNat) (j := 34) hS rfl rfl) hs19e) ?_); clear hS a; intro a hS
                refine q_seq hS rfl rfl rfl (y_pick_f hS rfl rfl) ?_; clear hS a; intro a hS
                refine q_seq hS rfl rfl rfl (y_move hS rfl) ?_; clear hS a; intro a hS
                refine g_no hS rfl rfl rfl rfl rfl rfl rfl ?_; clear hS a; intro a hS
                refine g_no hS rfl rfl rfl rfl rfl rfl rfl ?_; clear hS a; intro a hS
                refine g_no hS rfl rfl rfl rfl rfl rfl rfl ?_; clear hS a; intro a hS
                refine g_no hS rfl rfl rfl rfl rfl rfl rfl ?_; clear hS a; intro a hS
                refine q_seq hS rfl rfl rfl (y_pick_t hS rfl rfl) ?_; clear hS a; intro a hS
                apply wpList_nil
                refine p_norm ?_
                exact ⟨(true), hg, (hS.sub ⟨rfl, rfl, rfl, trivial⟩ trivial trivial)⟩
              · have hs19e : decide (c10.toNat = 34) = false := decide_eq_false hs19
                replace hg := br_f hg hs19
                apply wp_region_lit
                refine q_seq hS rfl rfl rfl (y_move hS rfl) ?_; clear hS a; intro a hS
                refine q_seq hS rfl rfl rfl (y_move hS rfl) ?_; clear hS a; intro a hS
                refine q_seq hS rfl rfl rfl (y_indexN (i := i_5) hS rfl rfl Try.underlying9 rfl hc10) ?_; clear hS a; intro a hS
                refine q_seq hS rfl rfl rfl (yl_b (y_lssN (i := c10.toNat) (j := 33) hS rfl rfl) hs11e) ?_; clear hS a; intro a hS
                refine q_seq hS rfl rfl rfl (y_move hS rfl) ?_; clear hS a; intro a hS
                refine g_yes hS rfl rfl rfl rfl (l_quiet hS rfl rfl (y_move hS rfl) ?_); clear hS a; intro a hS
                refine g_yes hS rfl rfl rfl rfl (l_quiet hS rfl rfl (y_move hS rfl) ?_); clear hS a; intro a hS
                refine g_yes hS rfl rfl rfl rfl (l_quiet hS rfl rfl (y_indexN (i := i_5) hS rfl rfl Try.underlying9 rfl hc10) ?_); clear hS a; intro a hS
                refine g_yes hS rfl rfl rfl rfl (l_quiet hS rfl rfl (yl_b (y_gtrN (i := c10.toNat) (j := 126) hS rfl rfl) hs12e) ?_); clear hS a; intro a hS
                refine q_seq hS rfl rfl rfl (y_pick_f hS rfl rfl) ?_; clear hS a; intro a hS
                refine q_seq hS rfl rfl rfl (y_move hS rfl) ?_; clear hS a; intro a hS
                refine g_yes hS rfl rfl rfl rfl (l_quiet hS rfl rfl (y_move hS rfl) ?_); clear hS a; intro a hS
                refine g_yes hS rfl rfl rfl rfl (l_quiet hS rfl rfl (y_move hS rfl) ?_); clear hS a; intro a hS
                refine g_yes hS rfl rfl rfl rfl (l_quiet hS rfl rfl (y_indexN (i := i_5) hS rfl rfl Try.underlying9 rfl hc10) ?_); clear hS a; intro a hS
                refine g_yes hS rfl rfl rfl rfl (l_call (cap := []) hS rfl Try.func26 rfl (by kernel_rfl) rfl rfl (c_r01_upper n _ _ hS.lt c10 r13 hr13) ?_); clear hS a; intro v22 a w hK hp hS
                clear hK
                obtain rfl := hp.trans (congrArg Value.bool hs16)
                refine q_seq hS rfl rfl rfl (y_pick_f hS rfl rfl) ?_; clear hS a; intro a hS
                refine q_seq hS rfl rfl rfl (y_move hS rfl) ?_; clear hS a; intro a hS
                refine g_yes hS rfl rfl rfl rfl (l_quiet hS rfl rfl (y_move hS rfl) ?_); clear hS a; intro a hS
                refine g_yes hS rfl rfl rfl rfl (l_quiet hS rfl rfl (y_move hS rfl) ?_); clear hS a; intro a hS
                refine g_yes hS rfl rfl rfl rfl (l_quiet hS rfl rfl (y_indexN (i := i_5) hS rfl rfl Try.underlying9 rfl hc10) ?_); clear hS a; intro a hS
                refine g_yes hS rfl rfl rfl rfl (l_quiet hS rfl rfl (yl_b (y_eqlN (i := c10.toNat) (j := 34) hS rfl rfl) hs19e) ?_); clear hS a; intro a hS
                refine q_seq hS rfl rfl rfl (y_pick_f hS rfl rfl) ?_; clear hS a; intro a hS
                refine q_seq hS rfl rfl rfl (y_move hS rfl) ?_; clear hS a; intro a hS
                refine g_yes hS rfl rfl rfl rfl (l_quiet hS rfl rfl (y_move hS rfl) ?_); clear hS a; intro a hS
                refine g_yes hS rfl rfl rfl rfl (l_quiet hS rfl rfl (y_move hS rfl) ?_); clear hS a; intro a hS
                refine g_yes hS rfl rfl rfl rfl (l_quiet hS rfl rfl (y_indexN (i := i_5) hS rfl rfl Try.underlying9 rfl hc10) ?_); clear hS a; intro a hS
                refine g_yes hS rfl rfl rfl rfl (l_quiet hS rfl rfl (y_eqlN (i := c10.toNat) (j := 92) hS rfl rfl) ?_); clear hS a; intro a hS
                refine q_seq hS rfl rfl rfl (y_pick_f hS rfl rfl) ?_; clear hS a; intro a hS
                apply wpList_nil
                refine p_norm ?_
                exact ⟨(decide (c10.toNat = 92)), hg, (hS.sub ⟨rfl, rfl, rfl, trivial⟩ trivial trivial)⟩
      clear hS a; rintro a w ⟨t_9, hg, hS⟩
      subst hk8
      refine c_cond hS rfl (fun hc24 => ?_) (fun hc24 => ?_)
      · replace hg := br_t hg hc24
        apply wp_seq
        apply wp_region_lit
        refine q_seq hS rfl rfl rfl (y_assign hS rfl) ?_; clear hS a; intro a hS
        apply wpList_nil
        refine p_norm ?_
        apply wp_ret
        refine p_inR ?_
        refine p_thenR ?_
        refine p_thenR ?_
        refine p_inR ?_
        refine p_thenR ?_
        obtain rfl := Option.some.inj hg
        refine fin1 (fn := Try.f13) hS rfl (r_tmp hS rfl) ?_
        exact rfl
      · replace hg := br_f hg (by rw [hc24]; exact Bool.false_ne_true)
        apply wp_skip
        refine p_inN ?_
        refine p_norm ?_
        apply wp_region_lit
        refine q_seq hS rfl rfl rfl (y_move hS rfl) ?_; clear hS a; intro a hS
        refine q_seq hS rfl rfl rfl (y_addN (i := i_5) (j := 1) hS rfl rfl (in64.2 (by omega))) ?_; clear hS a; intro a hS
        refine q_seq hS rfl rfl rfl (y_assign hS rfl) ?_; clear hS a; intro a hS
        apply wpList_nil
        refine p_norm ?_
        exact ⟨m1, Nat.lt_succ_self _, ⟨(i_5 + 1), hg, (hS.sub ⟨rfl, rfl, trivial⟩ trivial trivial)⟩⟩
    · replace hg := br_f hg hc6
      apply wp_exit
      refine p_then ?_
      refine p_then ?_
      refine p_in ?_
      refine p_norm ?_
      apply wp_seq
      apply wp_region_lit
      refine q_seq hS rfl rfl rfl (y_assign hS rfl) ?_; clear hS a; intro a hS
      apply wpList_nil
      refine p_norm ?_
      apply wp_ret
      obtain rfl := Option.some.inj hg
      refine fin1 (fn := Try.f13) hS rfl (r_tmp hS rfl) ?_
      exact rfl
set_option maxHeartbeats 400000 in
theorem c_r23_fits (n : Nat) (M : Bs) (w0 : World) (hM : ∀ b, M b → b < w0.heap.size) (kind_ : Int) (part_ : (List UInt8)) (lp11 : (part_).length ≤ 9223372036854775807) (w_ : (List UInt8)) (lp21 : (w_).length ≤ 9223372036854775807) (r : Bool) (hg : r23_fits n kind_ part_ w_ = some r) :
    Calls Try.prog 29 [.int .i64 (kind_), .string (bs (part_)), .string (bs (w_))].toArray w0 (Ret noB w0 fun v w => v = .bool (r)) := by
  unfold r23_fits at hg
  refine enter M noB Try.func29 rfl rfl hM ?_
  intro a hS
  apply wp_seq
  apply wp_region_lit
  refine q_seq hS rfl rfl rfl (y_assign hS rfl) ?_; clear hS a; intro a hS
  apply wpList_nil
  refine p_norm ?_
  apply wp_seq
  apply wp_seq
  apply wp_region_lit
  refine q_seq hS rfl rfl rfl (y_move hS rfl) ?_; clear hS a; intro a hS
  refine q_seq hS rfl rfl rfl (y_lenStrN hS rfl Try.underlying9) ?_; clear hS a; intro a hS
  refine q_seq hS rfl rfl rfl (y_move hS rfl) ?_; clear hS a; intro a hS
  refine q_seq hS rfl rfl rfl (y_lenStrN hS rfl Try.underlying9) ?_; clear hS a; intro a hS
  refine q_seq hS rfl rfl rfl (y_leqN (i := ((w_).length)) (j := ((part_).length)) hS rfl rfl) ?_; clear hS a; intro a hS
  apply wpList_nil
  refine p_norm ?_
  refine c_dec hS rfl (fun hc1 => ?_) (fun hc1 => ?_)
  · replace hg := br_t hg hc1
    apply wp_seq
    apply wp_region_lit
    refine q_seq hS rfl rfl rfl (y_assign hS rfl) ?_; clear hS a; intro a hS
    apply wpList_nil
    refine p_norm ?_
    apply wp_ret
    refine p_thenR ?_
    obtain rfl := Option.some.inj hg
    refine fin1 (fn := Try.f29) hS rfl (r_tmp hS rfl) ?_
    exact rfl
  · replace hg := br_f hg hc1
    apply wp_skip
    refine p_norm ?_
    apply wp_seq
    apply wp_seq
    apply wp_region_lit
    refine q_seq hS rfl rfl rfl (y_move hS rfl) ?_; clear hS a; intro a hS
    refine q_seq hS rfl rfl rfl (y_eql hS rfl rfl) ?_; clear hS a; intro a hS
    apply wpList_nil
    refine p_norm ?_
    refine c_dec hS rfl (fun hc2 => ?_) (fun hc2 => ?_)
    · replace hg := br_t hg hc2
      apply wp_seq
      replace hg := chk_some hg; obtain ⟨hk3, hg⟩ := hg
      apply wp_region_lit
      refine q_seq hS rfl rfl rfl (y_move hS rfl) ?_; clear hS a; intro a hS
      refine q_seq hS rfl rfl rfl (y_move hS rfl) ?_; clear hS a; intro a hS
      refine q_seq hS rfl rfl rfl (y_lenStrN hS rfl Try.underlying9) ?_; clear hS a; intro a hS
      refine q_seq hS rfl rfl rfl (y_strH (i := ((part_).length)) hS rfl rfl Try.underlying9 rfl hk3) ?_; clear hS a; intro a hS
      refine q_seq hS rfl rfl rfl (y_move hS rfl) ?_; clear hS a; intro a hS
      refine q_seq hS rfl rfl rfl (y_seq hS rfl rfl) ?_; clear hS a; intro a hS
      refine q_seq hS rfl rfl rfl (y_assign hS rfl) ?_; clear hS a; intro a hS
      apply wpList_nil
      refine p_norm ?_
      apply wp_ret
      refine p_thenR ?_
      obtain rfl := Option.some.inj hg
      refine fin1 (fn := Try.f29) hS rfl (r_tmp hS rfl) ?_
      exact rfl
    · replace hg := br_f hg hc2
      apply wp_skip
      refine p_norm ?_
      apply wp_seq
      replace hg := chk_some hg; obtain ⟨hk4, hg⟩ := hg
      replace hg := chk_some hg; obtain ⟨hk5, hg⟩ := hg
      apply wp_region_lit
      refine q_seq hS rfl rfl rfl (y_move hS rfl) ?_; clear hS a; intro a hS
      refine q_seq hS rfl rfl rfl (y_move hS rfl) ?_; clear hS a; intro a hS
      refine q_seq hS rfl rfl rfl (y_lenStrN hS rfl Try.underlying9) ?_; clear hS a; intro a hS
      refine q_seq hS rfl rfl rfl (y_move hS rfl) ?_; clear hS a; intro a hS
      refine q_seq hS rfl rfl rfl (y_lenStrN hS rfl Try.underlying9) ?_; clear hS a; intro a hS
      have hmx6 : (w_).length ≤ 9223372036854775807 := (by first | omega | (rw [List.length_append]; omega) | (simp only [List.length_append]; omega) | (simp only [List.length_append, List.length_take, List.length_drop, List.length_cons, List.length_nil]; omega))
      have hmx7 : (part_).length ≤ 9223372036854775807 := (by first | omega | (rw [List.length_append]; omega) | (simp only [List.length_append]; omega) | (simp only [List.length_append, List.length_take, List.length_drop, List.length_cons, List.length_nil]; omega))
      refine q_seq hS rfl rfl rfl (y_sub hS rfl rfl (in64.2 (by omega))) ?_; clear hS a; intro a hS
      refine q_seq hS rfl rfl rfl (y_strL (i := (((((w_).length : Nat) : Int) - (((part_).length : Nat) : Int)).toNat)) hS rfl rfl Try.underlying9 (by omega) hk5) ?_; clear hS a; intro a hS
      refine q_seq hS rfl rfl rfl (y_move hS rfl) ?_; clear hS a; intro a hS
      refine q_seq hS rfl rfl rfl (y_seq hS rfl rfl) ?_; clear hS a; intro a hS
      refine q_seq hS rfl rfl rfl (y_assign hS rfl) ?_; clear hS a; intro a hS
      apply wpList_nil
      refine p_norm ?_
      apply wp_ret
      obtain rfl := Option.some.inj hg
      refine fin1 (fn := Try.f29) hS rfl (r_tmp hS rfl) ?_
      exact rfl
set_option maxHeartbeats 400000 in
theorem c_r23_replaced (n : Nat) (M : Bs) (w0 : World) (hM : ∀ b, M b → b < w0.heap.size) (kind_ : Int) (w_ : (List UInt8)) (lp11 : (w_).length ≤ 9223372036854775807) (from_ : (List UInt8)) (lp21 : (from_).length ≤ 9223372036854775807) (to_ : (List UInt8)) (lp31 : (to_).length ≤ 9223372036854775807) (r : (List UInt8)) (hg : r23_replaced n kind_ w_ from_ to_ = some r) :
    Calls Try.prog 30 [.int .i64 (kind_), .string (bs (w_)), .string (bs (from_)), .string (bs (to_))].toArray w0 (Ret noB w0 fun v w => v = .string (bs (r)) ∧ ((r).length ≤ 9223372036854775807)) := by
  unfold r23_replaced at hg
  refine enter M noB Try.func30 rfl rfl hM ?_
  intro a hS
  apply wp_seq
  apply wp_region_lit
  refine q_seq hS rfl rfl rfl (y_assign hS rfl) ?_; clear hS a; intro a hS
  apply wpList_nil
  refine p_norm ?_
  apply wp_seq
  apply wp_seq
  apply wp_region_lit
  refine q_seq hS rfl rfl rfl (y_move hS rfl) ?_; clear hS a; intro a hS
  refine q_seq hS rfl rfl rfl (y_eql hS rfl rfl) ?_; clear hS a; intro a hS
  apply wpList_nil
  refine p_norm ?_
  refine c_dec hS rfl (fun hc1 => ?_) (fun hc1 => ?_)
  · replace hg := br_t hg hc1
    apply wp_seq
    replace hg := chk_some hg; obtain ⟨hk2, hg⟩ := hg
    replace hg := chk_some hg; obtain ⟨hk3, hg⟩ := hg
    apply wp_region_lit
    refine q_seq hS rfl rfl rfl (y_move hS rfl) ?_; clear hS a; intro a hS
    refine q_seq hS rfl rfl rfl (y_move hS rfl) ?_; clear hS a; intro a hS
    refine q_seq hS rfl rfl rfl (y_move hS rfl) ?_; clear hS a; intro a hS
    refine q_seq hS rfl rfl rfl (y_lenStrN hS rfl Try.underlying9) ?_; clear hS a; intro a hS
    refine q_seq hS rfl rfl rfl (y_strL (i := ((from_).length)) hS rfl rfl Try.underlying9 rfl hk2) ?_; clear hS a; intro a hS
    refine q_seq hS rfl rfl rfl (y_concat hS rfl rfl hk3) ?_; clear hS a; intro a hS
    refine q_seq hS rfl rfl rfl (y_assign hS rfl) ?_; clear hS a; intro a hS
    apply wpList_nil
    refine p_norm ?_
    apply wp_ret
    refine p_thenR ?_
    obtain rfl := Option.some.inj hg
    refine fin1 (fn := Try.f30) hS rfl (r_tmp hS rfl) ?_
    exact ⟨rfl, (by first | omega | (rw [List.length_append]; omega) | (simp only [List.length_append]; omega) | (simp only [List.length_append, List.length_take, List.length_drop, List.length_cons, List.length_nil]; omega))⟩
  · replace hg := br_f hg hc1
    apply wp_skip
    refine p_norm ?_
    apply wp_seq
    replace hg := chk_some hg; obtain ⟨hk4, hg⟩ := hg
    replace hg := chk_some hg; obtain ⟨hk5, hg⟩ := hg
    replace hg := chk_some hg; obtain ⟨hk6, hg⟩ := hg
    apply wp_region_lit
    refine q_seq hS rfl rfl rfl (y_move hS rfl) ?_; clear hS a; intro a hS
    refine q_seq hS rfl rfl rfl (y_move hS rfl) ?_; clear hS a; intro a hS
    refine q_seq hS rfl rfl rfl (y_lenStrN hS rfl Try.underlying9) ?_; clear hS a; intro a hS
    refine q_seq hS rfl rfl rfl (y_move hS rfl) ?_; clear hS a; intro a hS
    refine q_seq hS rfl rfl rfl (y_lenStrN hS rfl Try.underlying9) ?_; clear hS a; intro a hS
    have hmx7 : (w_).length ≤ 9223372036854775807 := (by first | omega | (rw [List.length_append]; omega) | (simp only [List.length_append]; omega) | (simp only [List.length_append, List.length_take, List.length_drop, List.length_cons, List.length_nil]; omega))
    have hmx8 : (from_).length ≤ 9223372036854775807 := (by first | omega | (rw [List.length_append]; omega) | (simp only [List.length_append]; omega) | (simp only [List.length_append, List.length_take, List.length_drop, List.length_cons, List.length_nil]; omega))
    refine q_seq hS rfl rfl rfl (y_sub hS rfl rfl (in64.2 (by omega))) ?_; clear hS a; intro a hS
    refine q_seq hS rfl rfl rfl (y_strH (i := (((((w_).length : Nat) : Int) - (((from_).length : Nat) : Int)).toNat)) hS rfl rfl Try.underlying9 (by omega) hk5) ?_; clear hS a; intro a hS
    refine q_seq hS rfl rfl rfl (y_move hS rfl) ?_; clear hS a; intro a hS
    refine q_seq hS rfl rfl rfl (y_concat hS rfl rfl hk6) ?_; clear hS a; intro a hS
    refine q_seq hS rfl rfl rfl (y_assign hS rfl) ?_; clear hS a; intro a hS
    apply wpList_nil
    refine p_norm ?_
    apply wp_ret
    obtain rfl := Option.some.inj hg
    refine fin1 (fn := Try.f30) hS rfl (r_tmp hS rfl) ?_
    exact ⟨rfl, (by first | omega | (rw [List.length_append]; omega) | (simp only [List.length_append]; omega) | (simp only [List.length_append, List.length_take, List.length_drop, List.length_cons, List.length_nil]; omega))⟩
set_option maxHeartbeats 400000 in
theorem c_r23_Apply (n : Nat) (M : Bs) (w0 : World) (hM : ∀ b, M b → b < w0.heap.size) (a_ : Affix) (Ap02 : Option Addr) (cp02 : Nat) (hp02 : SlR RChange M w0 Ap02 (a_.Pairs).length cp02 (a_.Pairs)) (w_ : (List UInt8)) (lp11 : (w_).length ≤ 9223372036854775807) (r : ((List UInt8) × Bool)) (hg : r23_Apply n a_ w_ = some r) :
    Calls Try.prog 15 [.agg #[.int .i64 (a_.Kind), .slice (Ap02) ((a_.Pairs).length) (cp02)], .string (bs (w_))].toArray w0 (Ret noB w0 fun v w => v = .tuple #[.string (bs (r.1)), .bool (r.2)] ∧ ((r.1).length ≤ 9223372036854775807)) := by
  unfold r23_Apply at hg
  refine enter M noB Try.func15 rfl rfl hM ?_
  intro a hS
  replace hS := hS.add 101 (slF RChange (Ap02) ((a_.Pairs).length) (cp02) (a_.Pairs)) (by exact Fact.change _ enterM hp02)
  apply wp_seq
  apply wp_region_lit
  refine l_seq rfl (l_box (zs := [.int .i64 (a_.Kind), .slice (Ap02) ((a_.Pairs).length) (cp02)]) hS 1000 rfl rfl rfl rfl ?_); clear hS a; intro b2 a w hb hK hS
  clear hb
  clear hK
  refine q_seq hS rfl rfl rfl (y_assign hS rfl) ?_; clear hS a; intro a hS
  refine q_seq hS rfl rfl rfl (y_assign hS rfl) ?_; clear hS a; intro a hS
  apply wpList_nil
  refine p_norm ?_
  apply wp_seq
  apply wp_seq
  apply wp_region_lit
  refine q_seq hS rfl rfl rfl (y_boxField (o' := 0) hS rfl Try.underlying24 rfl rfl rfl) ?_; clear hS a; intro a hS
  refine q_seq hS rfl rfl rfl (y_loadBox1 (kk := 1000) hS rfl rfl rfl Try.underlying3 rfl) ?_; clear hS a; intro a hS
  refine q_seq hS rfl rfl rfl (y_eql hS rfl rfl) ?_; clear hS a; intro a hS
  apply wpList_nil
  refine p_norm ?_
  refine c_dec hS rfl (fun hc3 => ?_) (fun hc3 => ?_)
  · replace hg := br_t hg hc3
    apply wp_seq
    apply wp_region_lit
    refine q_seq hS rfl rfl rfl (y_move hS rfl) ?_; clear hS a; intro a hS
    refine q_seq hS rfl rfl rfl (y_assign hS rfl) ?_; clear hS a; intro a hS
    refine q_seq hS rfl rfl rfl (y_assign hS rfl) ?_; clear hS a; intro a hS
    apply wpList_nil
    refine p_norm ?_
    apply wp_ret
    refine p_thenR ?_
    obtain rfl := Option.some.inj hg
    refine fin2 (fn := Try.f15) hS rfl (r_tmp hS rfl) (r_tmp hS rfl) ?_
    exact ⟨rfl, (by first | omega | (rw [List.length_append]; omega) | (simp only [List.length_append]; omega) | (simp only [List.length_append, List.length_take, List.length_drop, List.length_cons, List.length_nil]; omega))⟩
  · replace hg := br_f hg hc3
    apply wp_skip
    refine p_norm ?_
    apply wp_seq
    apply wp_seq
    apply wp_region_lit
    refine q_seq hS rfl rfl rfl (y_assign hS rfl) ?_; clear hS a; intro a hS
    apply wpList_nil
    refine p_norm ?_
    apply wp_block
    refine c_loop (σ := Nat) (fun m1 a w => ∃ (i_4 : Nat), r23_Apply_L0 n a_ w_ m1 i_4 = some r ∧ St (⟨Try.f15.ntmps, M, noB, w0⟩ : Ctx) [(1, .string (bs (w_))), (2, .pointer (some ⟨b2, 0, none⟩)), (6, .int .i64 (((i_4 : Nat) : Int)))] [(1000, Ob.box b2 [.int .i64 (a_.Kind), .slice (Ap02) ((a_.Pairs).length) (cp02)] 24)] [(101, slF RChange (Ap02) ((a_.Pairs).length) (cp02) (a_.Pairs))] a w) (fun m1 => m1) n ⟨(0), hg, (hS.sub ⟨rfl, rfl, rfl, trivial⟩ ⟨rfl, trivial⟩ ⟨rfl, trivial⟩)⟩ ?_
    clear hS a; rintro m1 a w ⟨i_4, hg, hS⟩
    rcases m1 with _ | m1
    · rw [r23_Apply_L0] at hg; cases hg
    rw [r23_Apply_L0] at hg
    apply wp_seq
    apply wp_seq
    apply wp_region_lit
    refine q_seq hS rfl rfl rfl (y_move hS rfl) ?_; clear hS a; intro a hS
    refine q_seq hS rfl rfl rfl (y_boxField (o' := 1) hS rfl Try.underlying24 rfl rfl rfl) ?_; clear hS a; intro a hS
    refine q_seq hS rfl rfl rfl (y_loadBox1 (kk := 1000) hS rfl rfl rfl Try.underlying22 rfl) ?_; clear hS a; intro a hS
    refine q_seq hS rfl rfl rfl (y_lenSlice hS rfl Try.underlying22) ?_; clear hS a; intro a hS
    refine q_seq hS rfl rfl rfl (y_lssN (i := i_4) (j := ((a_.Pairs).length)) hS rfl rfl) ?_; clear hS a; intro a hS
    apply wpList_nil
    refine p_norm ?_
    refine c_dec hS rfl (fun hc5 => ?_) (fun hc5 => ?_)
    · replace hg := br_t hg hc5
      have hmx6 := SlR.mx (hS.fact (k := 101) rfl)
      apply wp_skip
      refine p_norm ?_
      apply wp_seq
      apply wp_block
      apply wp_seq
      replace hg := bind_some hg; obtain ⟨x8, hx8, hg⟩ := hg
      replace hg := bind_some hg; obtain ⟨r10, hr10, hg⟩ := hg
      refine d_plan hS [] [(0, some 0), (1, some 1000), (2, some 0), (3, some 1000), (4, some 0), (5, some 0), (6, some 0), (7, some 0), (8, some 0), (9, none)] rfl (by kernel_rfl) (by kernel_rfl) rfl ?_; clear hS; intro wr hZ hS; have hR := hS.wd
      refine q_take hS hR rfl rfl rfl rfl (y_boxField (o' := 0) hS rfl Try.underlying24 rfl rfl rfl) ?_; clear hS a; intro a hS
      refine q_take hS hR rfl rfl rfl rfl (y_loadBox1 (kk := 1000) hS rfl rfl rfl Try.underlying3 rfl) ?_; clear hS a; intro a hS
      refine q_take hS hR rfl rfl rfl rfl (y_boxField (o' := 1) hS rfl Try.underlying24 rfl rfl rfl) ?_; clear hS a; intro a hS
      refine q_take hS hR rfl rfl rfl rfl (y_loadBox1 (kk := 1000) hS rfl rfl rfl Try.underlying22 rfl) ?_; clear hS a; intro a hS
      refine q_take hS hR rfl rfl rfl rfl (y_move hS rfl) ?_; clear hS a; intro a hS
      obtain ⟨p13, hep13, hpp13⟩ := SlR.elemX (hS.fact (k := 101) rfl) hx8
      refine q_take hS hR rfl rfl rfl rfl (y_elem (sz := 2) (i := i_4) hS rfl rfl Try.underlying22 rfl hep13 rfl (lt_of_get hx8)) ?_; clear hS a; intro a hS
      refine q_take hS hR rfl rfl rfl rfl (y_ptrField (o' := 0) hS rfl Try.underlying42 rfl rfl rfl) ?_; clear hS a; intro a hS
      obtain ⟨hlq14, hmq14, csq14, hdq14, hcq14⟩ := hpp13
      obtain ⟨rfl, lq141, lq142⟩ := RChange.open hdq14
      refine q_take hS hR rfl rfl rfl rfl (y_ldp1 hS rfl hlq14 hmq14 (hcq14 0 _ rfl) Try.underlying9 rfl) ?_; clear hS a; intro a hS
      refine q_take hS hR rfl rfl rfl rfl (y_move hS rfl) ?_; clear hS a; intro a hS
      refine l_take hS rfl rfl (l_call (cap := []) hS rfl Try.func29 rfl (by kernel_rfl) rfl rfl (c_r23_fits n _ _ hS.lt a_.Kind x8.Old (by first | omega | (rw [List.length_append]; omega) | (simp only [List.length_append]; omega) | (simp only [List.length_append, List.length_take, List.length_drop, List.length_cons, List.length_nil]; omega)) w_ (by first | omega | (rw [List.length_append]; omega) | (simp only [List.length_append]; omega) | (simp only [List.length_append, List.length_take, List.length_drop, List.length_cons, List.length_nil]; omega)) r10 hr10) ?_); clear hS a; intro v15 a w hK hp hS
      replace hZ := Nat.le_trans hZ hK.size; refine ⟨fun g _ h => h.grow hK, ?_⟩; clear hK
      obtain rfl := hp
      clear hR hZ
      refine p_norm ?_
      refine c_cond hS rfl (fun hc17 => ?_) (fun hc17 => ?_)
      · replace hg := br_t hg hc17
        apply wp_seq
        replace hg := bind_some hg; obtain ⟨r22, hr22, hg⟩ := hg
        refine d_plan hS [] [(0, some 0), (1, some 1000), (2, some 0), (3, some 0), (4, some 1000), (5, some 0), (6, some 0), (7, some 0), (8, some 0), (9, some 0), (10, some 1000), (11, some 0), (12, some 0), (13, some 0), (14, some 0), (15, none), (16, none)] rfl (by kernel_rfl) (by kernel_rfl) rfl ?_; clear hS; intro wr hZ hS; have hR := hS.wd
        refine q_take hS hR rfl rfl rfl rfl (y_boxField (o' := 0) hS rfl Try.underlying24 rfl rfl rfl) ?_; clear hS a; intro a hS
        refine q_take hS hR rfl rfl rfl rfl (y_loadBox1 (kk := 1000) hS rfl rfl rfl Try.underlying3 rfl) ?_; clear hS a; intro a hS
        refine q_take hS hR rfl rfl rfl rfl (y_move hS rfl) ?_; clear hS a; intro a hS
        refine q_take hS hR rfl rfl rfl rfl (y_boxField (o' := 1) hS rfl Try.underlying24 rfl rfl rfl) ?_; clear hS a; intro a hS
        refine q_take hS hR rfl rfl rfl rfl (y_loadBox1 (kk := 1000) hS rfl rfl rfl Try.underlying22 rfl) ?_; clear hS a; intro a hS
        refine q_take hS hR rfl rfl rfl rfl (y_move hS rfl) ?_; clear hS a; intro a hS
        obtain ⟨p25, hep25, hpp25⟩ := SlR.elemX (hS.fact (k := 101) rfl) hx8
        refine q_take hS hR rfl rfl rfl rfl (y_elem (sz := 2) (i := i_4) hS rfl rfl Try.underlying22 rfl hep25 rfl (lt_of_get hx8)) ?_; clear hS a; intro a hS
        refine q_take hS hR rfl rfl rfl rfl (y_ptrField (o' := 0) hS rfl Try.underlying42 rfl rfl rfl) ?_; clear hS a; intro a hS
        obtain ⟨hlq26, hmq26, csq26, hdq26, hcq26⟩ := hpp25
        obtain ⟨rfl, lq261, lq262⟩ := RChange.open hdq26
        refine q_take hS hR rfl rfl rfl rfl (y_ldp1 hS rfl hlq26 hmq26 (hcq26 0 _ rfl) Try.underlying9 rfl) ?_; clear hS a; intro a hS
        refine q_take hS hR rfl rfl rfl rfl (y_boxField (o' := 1) hS rfl Try.underlying24 rfl rfl rfl) ?_; clear hS a; intro a hS
        refine q_take hS hR rfl rfl rfl rfl (y_loadBox1 (kk := 1000) hS rfl rfl rfl Try.underlying22 rfl) ?_; clear hS a; intro a hS
        refine q_take hS hR rfl rfl rfl rfl (y_move hS rfl) ?_; clear hS a; intro a hS
        obtain ⟨p27, hep27, hpp27⟩ := SlR.elemX (hS.fact (k := 101) rfl) hx8
        refine q_take hS hR rfl rfl rfl rfl (y_elem (sz := 2) (i := i_4) hS rfl rfl Try.underlying22 rfl hep27 rfl (lt_of_get hx8)) ?_; clear hS a; intro a hS
        refine q_take hS hR rfl rfl rfl rfl (y_ptrField (o' := 1) hS rfl Try.underlying42 rfl rfl rfl) ?_; clear hS a; intro a hS
        obtain ⟨hlq28, hmq28, csq28, hdq28, hcq28⟩ := hpp27
        obtain ⟨rfl, lq281, lq282⟩ := RChange.open hdq28
        refine q_take hS hR rfl rfl rfl rfl (y_ldp1 hS rfl hlq28 hmq28 (hcq28 1 _ rfl) Try.underlying9 rfl) ?_; clear hS a; intro a hS
        refine l_take hS rfl rfl (l_call (cap := []) hS rfl Try.func30 rfl (by kernel_rfl) rfl rfl (c_r23_replaced n _ _ hS.lt a_.Kind w_ (by first | omega | (rw [List.length_append]; omega) | (simp only [List.length_append]; omega) | (simp only [List.length_append, List.length_take, List.length_drop, List.length_cons, List.length_nil]; omega)) x8.Old (by first | omega | (rw [List.length_append]; omega) | (simp only [List.length_append]; omega) | (simp only [List.length_append, List.length_take, List.length_drop, List.length_cons, List.length_nil]; omega)) x8.New (by first | omega | (rw [List.length_append]; omega) | (simp only [List.length_append]; omega) | (simp only [List.length_append, List.length_take, List.length_drop, List.length_cons, List.length_nil]; omega)) r22 hr22) ?_); clear hS a; intro v29 a w hK hp hS
        replace hZ := Nat.le_trans hZ hK.size; refine ⟨fun g _ h => h.grow hK, ?_⟩; clear hK
        obtain ⟨rfl, lu30a1⟩ := hp
        refine l_take hS rfl rfl (l_quiet hS rfl rfl (y_assign hS rfl) ?_); clear hS a; intro a hS; refine ⟨fun g _ h => h, ?_⟩
        clear hR hZ
        refine p_norm ?_
        apply wp_seq
        apply wp_seq
        replace hg := bind_some hg; obtain ⟨r31, hr31, hg⟩ := hg
        apply wp_region_lit
        refine q_seq hS rfl rfl rfl (y_move hS rfl) ?_; clear hS a; intro a hS
        refine l_seq rfl (l_call (cap := []) hS rfl Try.func13 rfl (by kernel_rfl) rfl rfl (c_r01_Word n _ _ hS.lt r22 (by first | omega | (rw [List.length_append]; omega) | (simp only [List.length_append]; omega) | (simp only [List.length_append, List.length_take, List.length_drop, List.length_cons, List.length_nil]; omega)) r31 hr31) ?_); clear hS a; intro v34 a w hK hp hS
        clear hK
        obtain rfl := hp
        refine q_seq hS rfl rfl rfl (y_not hS rfl) ?_; clear hS a; intro a hS
        apply wpList_nil
        refine p_norm ?_
        refine c_cond hS rfl (fun hc36 => ?_) (fun hc36 => ?_)
        · replace hg := br_t hg hc36
          apply wp_seq
          apply wp_region_lit
          refine q_seq hS rfl rfl rfl (y_assign hS rfl) ?_; clear hS a; intro a hS
          refine q_seq hS rfl rfl rfl (y_assign hS rfl) ?_; clear hS a; intro a hS
          apply wpList_nil
          refine p_norm ?_
          apply wp_ret
          refine p_thenR ?_
          refine p_inR ?_
          refine p_thenR ?_
          refine p_thenR ?_
          refine p_inR ?_
          refine p_thenR ?_
          obtain rfl := Option.some.inj hg
          refine fin2 (fn := Try.f15) hS rfl (r_tmp hS rfl) (r_tmp hS rfl) ?_
          exact ⟨rfl, (by first | omega | (rw [List.length_append]; omega) | (simp only [List.length_append]; omega) | (simp only [List.length_append, List.length_take, List.length_drop, List.length_cons, List.length_nil]; omega))⟩
        · replace hg := br_f hg (by rw [hc36]; exact Bool.false_ne_true)
          apply wp_skip
          refine p_norm ?_
          apply wp_seq
          apply wp_region_lit
          refine q_seq hS rfl rfl rfl (y_move hS rfl) ?_; clear hS a; intro a hS
          refine q_seq hS rfl rfl rfl (y_assign hS rfl) ?_; clear hS a; intro a hS
          refine q_seq hS rfl rfl rfl (y_assign hS rfl) ?_; clear hS a; intro a hS
          apply wpList_nil
          refine p_norm ?_
          apply wp_ret
          refine p_inR ?_
          refine p_thenR ?_
          refine p_thenR ?_
          refine p_inR ?_
          refine p_thenR ?_
          obtain rfl := Option.some.inj hg
          refine fin2 (fn := Try.f15) hS rfl (r_tmp hS rfl) (r_tmp hS rfl) ?_
          exact ⟨rfl, (by first | omega | (rw [List.length_append]; omega) | (simp only [List.length_append]; omega) | (simp only [List.length_append, List.length_take, List.length_drop, List.length_cons, List.length_nil]; omega))⟩
      · replace hg := br_f hg (by rw [hc17]; exact Bool.false_ne_true)
        apply wp_skip
        refine p_inN ?_
        refine p_norm ?_
        apply wp_region_lit
        refine q_seq hS rfl rfl rfl (y_move hS rfl) ?_; clear hS a; intro a hS
        refine q_seq hS rfl rfl rfl (y_addN (i := i_4) (j := 1) hS rfl rfl (in64.2 (by omega))) ?_; clear hS a; intro a hS
        refine q_seq hS rfl rfl rfl (y_assign hS rfl) ?_; clear hS a; intro a hS
        apply wpList_nil
        refine p_norm ?_
        exact ⟨m1, Nat.lt_succ_self _, ⟨(i_4 + 1), hg, (hS.sub ⟨rfl, rfl, rfl, trivial⟩ ⟨rfl, trivial⟩ ⟨rfl, trivial⟩)⟩⟩
    · replace hg := br_f hg hc5
      apply wp_exit
      refine p_then ?_
      refine p_then ?_
      refine p_in ?_
      refine p_norm ?_
      apply wp_seq
      apply wp_region_lit
      refine q_seq hS rfl rfl rfl (y_assign hS rfl) ?_; clear hS a; intro a hS
      refine q_seq hS rfl rfl rfl (y_assign hS rfl) ?_; clear hS a; intro a hS
      apply wpList_nil
      refine p_norm ?_
      apply wp_ret
      obtain rfl := Option.some.inj hg
      refine fin2 (fn := Try.f15) hS rfl (r_tmp hS rfl) (r_tmp hS rfl) ?_
      exact ⟨rfl, (by first | omega | (rw [List.length_append]; omega) | (simp only [List.length_append]; omega) | (simp only [List.length_append, List.length_take, List.length_drop, List.length_cons, List.length_nil]; omega))⟩
set_option maxHeartbeats 400000 in
theorem c_law23_AffixApplies (n : Nat) (M : Bs) (w0 : World) (hM : ∀ b, M b → b < w0.heap.size) (a_ : Affix) (Ap02 : Option Addr) (cp02 : Nat) (hp02 : SlR RChange M w0 Ap02 (a_.Pairs).length cp02 (a_.Pairs)) (w_ : (List UInt8)) (lp11 : (w_).length ≤ 9223372036854775807) (r : Bool) (hg : law23_AffixApplies n a_ w_ = some r) :
    Calls Try.prog 4 [.agg #[.int .i64 (a_.Kind), .slice (Ap02) ((a_.Pairs).length) (cp02)], .string (bs (w_))].toArray w0 (Ret noB w0 fun v w => v = .bool (r)) := by
  unfold law23_AffixApplies at hg
  refine enter M noB Try.func4 rfl rfl hM ?_
  intro a hS
  replace hS := hS.add 101 (slF RChange (Ap02) ((a_.Pairs).length) (cp02) (a_.Pairs)) (by exact Fact.change _ enterM hp02)
  apply wp_seq
  apply wp_region_lit
  refine l_seq rfl (l_box (zs := [.int .i64 (a_.Kind), .slice (Ap02) ((a_.Pairs).length) (cp02)]) hS 1000 rfl rfl rfl rfl ?_); clear hS a; intro b2 a w hb hK hS
  clear hb
  clear hK
  refine q_seq hS rfl rfl rfl (y_assign hS rfl) ?_; clear hS a; intro a hS
  apply wpList_nil
  refine p_norm ?_
  apply wp_seq
  apply wp_seq
  replace hg := jn_some hg; obtain ⟨k3, hg, hk3⟩ := hg
  refine c_post (fun a w => ∃ (t_4 : Bool), k3 t_4 = some r ∧ St (⟨Try.f4.ntmps, M, noB, w0⟩ : Ctx) [(1, .string (bs (w_))), (2, .pointer (some ⟨b2, 0, none⟩)), (21, .bool (t_4))] [(1000, Ob.box b2 [.int .i64 (a_.Kind), .slice (Ap02) ((a_.Pairs).length) (cp02)] 24)] [(101, slF RChange (Ap02) ((a_.Pairs).length) (cp02) (a_.Pairs))] a w) ?_ ?_
  · replace hg := bind_some hg; obtain ⟨r5, hr5, hg⟩ := hg
    rcases Bool.eq_false_or_eq_true (!(r5)) with hs8 | hs8
    · replace hg := br_t hg hs8
      apply wp_region_lit
      refine q_seq hS rfl rfl rfl (y_loadBox (kk := 1000) (n := 2) (vs := [.int .i64 (a_.Kind), .slice (Ap02) ((a_.Pairs).length) (cp02)]) hS rfl rfl Try.underlying24 rfl rfl rfl rfl) ?_; clear hS a; intro a hS
      refine l_seq rfl (l_call (cap := []) hS rfl Try.func9 rfl (by kernel_rfl) rfl rfl (c_r23_Light n _ _ hS.lt a_ (Ap02) (cp02) (hS.fact (k := 101) rfl) r5 hr5) ?_); clear hS a; intro v9 a w hK hp hS
      clear hK
      obtain rfl := hp
      refine q_seq hS rfl rfl rfl (yl_b (y_not hS rfl) hs8) ?_; clear hS a; intro a hS
      refine q_seq hS rfl rfl rfl (y_move hS rfl) ?_; clear hS a; intro a hS
      refine g_no hS rfl rfl rfl rfl rfl rfl rfl ?_; clear hS a; intro a hS
      refine g_no hS rfl rfl rfl rfl rfl rfl rfl ?_; clear hS a; intro a hS
      refine g_no hS rfl rfl rfl rfl rfl rfl rfl ?_; clear hS a; intro a hS
      refine q_seq hS rfl rfl rfl (y_pick_t hS rfl rfl) ?_; clear hS a; intro a hS
      refine q_seq hS rfl rfl rfl (y_move hS rfl) ?_; clear hS a; intro a hS
      refine g_no hS rfl rfl rfl rfl rfl rfl rfl ?_; clear hS a; intro a hS
      refine g_no hS rfl rfl rfl rfl rfl rfl rfl ?_; clear hS a; intro a hS
      refine g_no hS rfl rfl rfl rfl rfl rfl rfl ?_; clear hS a; intro a hS
      refine q_seq hS rfl rfl rfl (y_pick_t hS rfl rfl) ?_; clear hS a; intro a hS
      apply wpList_nil
      refine p_norm ?_
      exact ⟨(true), hg, (hS.sub ⟨rfl, rfl, rfl, trivial⟩ ⟨rfl, trivial⟩ ⟨rfl, trivial⟩)⟩
    · replace hg := br_f hg (by rw [hs8]; exact Bool.false_ne_true)
      replace hg := bind_some hg; obtain ⟨r11, hr11, hg⟩ := hg
      rcases Decidable.em (r11 ≠ 0) with hs14 | hs14
      · have hs14e : decide (r11 ≠ 0) = true := decide_eq_true hs14
        replace hg := br_t hg hs14
        apply wp_region_lit
        refine q_seq hS rfl rfl rfl (y_loadBox (kk := 1000) (n := 2) (vs := [.int .i64 (a_.Kind), .slice (Ap02) ((a_.Pairs).length) (cp02)]) hS rfl rfl Try.underlying24 rfl rfl rfl rfl) ?_; clear hS a; intro a hS
        refine l_seq rfl (l_call (cap := []) hS rfl Try.func9 rfl (by kernel_rfl) rfl rfl (c_r23_Light n _ _ hS.lt a_ (Ap02) (cp02) (hS.fact (k := 101) rfl) r5 hr5) ?_); clear hS a; intro v15 a w hK hp hS
        clear hK
        obtain rfl := hp
        refine q_seq hS rfl rfl rfl (yl_b (y_not hS rfl) hs8) ?_; clear hS a; intro a hS
        refine q_seq hS rfl rfl rfl (y_move hS rfl) ?_; clear hS a; intro a hS
        refine g_yes hS rfl rfl rfl rfl (l_quiet hS rfl rfl (y_loadBox (kk := 1000) (n := 2) (vs := [.int .i64 (a_.Kind), .slice (Ap02) ((a_.Pairs).length) (cp02)]) hS rfl rfl Try.underlying24 rfl rfl rfl rfl) ?_); clear hS a; intro a hS
        refine g_yes hS rfl rfl rfl rfl (l_call (cap := []) hS rfl Try.func12 rfl (by kernel_rfl) rfl rfl (c_r23_Check n _ _ hS.lt a_ (Ap02) (cp02) (hS.fact (k := 101) rfl) r11 hr11) ?_); clear hS a; intro v17 a w hK hp hS
        clear hK
        obtain rfl := hp
        refine g_yes hS rfl rfl rfl rfl (l_quiet hS rfl rfl (yl_b (y_neq hS rfl rfl) hs14e) ?_); clear hS a; intro a hS
        refine q_seq hS rfl rfl rfl (y_pick_f hS rfl rfl) ?_; clear hS a; intro a hS
        refine q_seq hS rfl rfl rfl (y_move hS rfl) ?_; clear hS a; intro a hS
        refine g_no hS rfl rfl rfl rfl rfl rfl rfl ?_; clear hS a; intro a hS
        refine g_no hS rfl rfl rfl rfl rfl rfl rfl ?_; clear hS a; intro a hS
        refine g_no hS rfl rfl rfl rfl rfl rfl rfl ?_; clear hS a; intro a hS
        refine q_seq hS rfl rfl rfl (y_pick_t hS rfl rfl) ?_; clear hS a; intro a hS
        apply wpList_nil
        refine p_norm ?_
        exact ⟨(true), hg, (hS.sub ⟨rfl, rfl, rfl, trivial⟩ ⟨rfl, trivial⟩ ⟨rfl, trivial⟩)⟩
      · have hs14e : decide (r11 ≠ 0) = false := decide_eq_false hs14
        replace hg := br_f hg hs14
        replace hg := bind_some hg; obtain ⟨r19, hr19, hg⟩ := hg
        apply wp_region_lit
        refine q_seq hS rfl rfl rfl (y_loadBox (kk := 1000) (n := 2) (vs := [.int .i64 (a_.Kind), .slice (Ap02) ((a_.Pairs).length) (cp02)]) hS rfl rfl Try.underlying24 rfl rfl rfl rfl) ?_; clear hS a; intro a hS
        refine l_seq rfl (l_call (cap := []) hS rfl Try.func9 rfl (by kernel_rfl) rfl rfl (c_r23_Light n _ _ hS.lt a_ (Ap02) (cp02) (hS.fact (k := 101) rfl) r5 hr5) ?_); clear hS a; intro v22 a w hK hp hS
        clear hK
        obtain rfl := hp
        refine q_seq hS rfl rfl rfl (yl_b (y_not hS rfl) hs8) ?_; clear hS a; intro a hS
        refine q_seq hS rfl rfl rfl (y_move hS rfl) ?_; clear hS a; intro a hS
        refine g_yes hS rfl rfl rfl rfl (l_quiet hS rfl rfl (y_loadBox (kk := 1000) (n := 2) (vs := [.int .i64 (a_.Kind), .slice (Ap02) ((a_.Pairs).length) (cp02)]) hS rfl rfl Try.underlying24 rfl rfl rfl rfl) ?_); clear hS a; intro a hS
        refine g_yes hS rfl rfl rfl rfl (l_call (cap := []) hS rfl Try.func12 rfl (by kernel_rfl) rfl rfl (c_r23_Check n _ _ hS.lt a_ (Ap02) (cp02) (hS.fact (k := 101) rfl) r11 hr11) ?_); clear hS a; intro v24 a w hK hp hS
        clear hK
        obtain rfl := hp
        refine g_yes hS rfl rfl rfl rfl (l_quiet hS rfl rfl (yl_b (y_neq hS rfl rfl) hs14e) ?_); clear hS a; intro a hS
        refine q_seq hS rfl rfl rfl (y_pick_f hS rfl rfl) ?_; clear hS a; intro a hS
        refine q_seq hS rfl rfl rfl (y_move hS rfl) ?_; clear hS a; intro a hS
        refine g_yes hS rfl rfl rfl rfl (l_quiet hS rfl rfl (y_move hS rfl) ?_); clear hS a; intro a hS
        refine g_yes hS rfl rfl rfl rfl (l_call (cap := []) hS rfl Try.func13 rfl (by kernel_rfl) rfl rfl (c_r01_Word n _ _ hS.lt w_ (by first | omega | (rw [List.length_append]; omega) | (simp only [List.length_append]; omega) | (simp only [List.length_append, List.length_take, List.length_drop, List.length_cons, List.length_nil]; omega)) r19 hr19) ?_); clear hS a; intro v26 a w hK hp hS
        clear hK
        obtain rfl := hp
        refine g_yes hS rfl rfl rfl rfl (l_quiet hS rfl rfl (y_not hS rfl) ?_); clear hS a; intro a hS
        refine q_seq hS rfl rfl rfl (y_pick_f hS rfl rfl) ?_; clear hS a; intro a hS
        apply wpList_nil
        refine p_norm ?_
        exact ⟨(!(r19)), hg, (hS.sub ⟨rfl, rfl, rfl, trivial⟩ ⟨rfl, trivial⟩ ⟨rfl, trivial⟩)⟩
  clear hS a; rintro a w ⟨t_4, hg, hS⟩
  subst hk3
  refine c_cond hS rfl (fun hc28 => ?_) (fun hc28 => ?_)
  · replace hg := br_t hg hc28
    apply wp_seq
    replace hg := bind_some hg; obtain ⟨r29, hr29, hg⟩ := hg
    apply wp_region_lit
    refine l_seq rfl (l_call (cap := []) hS rfl Try.func10 rfl (by kernel_rfl) rfl rfl (c_law23_exampleHolds n _ _ hS.lt  r29 hr29) ?_); clear hS a; intro v32 a w hK hp hS
    clear hK
    obtain rfl := hp
    refine q_seq hS rfl rfl rfl (y_assign hS rfl) ?_; clear hS a; intro a hS
    apply wpList_nil
    refine p_norm ?_
    apply wp_ret
    refine p_thenR ?_
    obtain rfl := Option.some.inj hg
    refine fin1 (fn := Try.f4) hS rfl (r_tmp hS rfl) ?_
    exact rfl
  · replace hg := br_f hg (by rw [hc28]; exact Bool.false_ne_true)
    apply wp_skip
    refine p_norm ?_
    apply wp_seq
    replace hg := bind_some hg; obtain ⟨r34, hr34, hg⟩ := hg
    apply wp_region_lit
    refine q_seq hS rfl rfl rfl (y_loadBox (kk := 1000) (n := 2) (vs := [.int .i64 (a_.Kind), .slice (Ap02) ((a_.Pairs).length) (cp02)]) hS rfl rfl Try.underlying24 rfl rfl rfl rfl) ?_; clear hS a; intro a hS
    refine q_seq hS rfl rfl rfl (y_move hS rfl) ?_; clear hS a; intro a hS
    refine l_seq rfl (l_call (cap := []) hS rfl Try.func14 rfl (by kernel_rfl) rfl rfl (c_affix_Apply n _ _ hS.lt a_ (Ap02) (cp02) (hS.fact (k := 101) rfl) w_ (by first | omega | (rw [List.length_append]; omega) | (simp only [List.length_append]; omega) | (simp only [List.length_append, List.length_take, List.length_drop, List.length_cons, List.length_nil]; omega)) r34 hr34) ?_); clear hS a; intro v37 a w hK hp hS
    clear hK
    obtain ⟨rfl, lu38a1⟩ := hp
    refine q_seq hS rfl rfl rfl (y_move hS rfl) ?_; clear hS a; intro a hS
    refine q_seq hS rfl rfl rfl (y_extract hS rfl rfl) ?_; clear hS a; intro a hS
    refine q_seq hS rfl rfl rfl (y_extract hS rfl rfl) ?_; clear hS a; intro a hS
    refine q_seq hS rfl rfl rfl (y_assign hS rfl) ?_; clear hS a; intro a hS
    refine q_seq hS rfl rfl rfl (y_assign hS rfl) ?_; clear hS a; intro a hS
    apply wpList_nil
    refine p_norm ?_
    apply wp_seq
    replace hg := bind_some hg; obtain ⟨r39, hr39, hg⟩ := hg
    apply wp_region_lit
    refine q_seq hS rfl rfl rfl (y_loadBox (kk := 1000) (n := 2) (vs := [.int .i64 (a_.Kind), .slice (Ap02) ((a_.Pairs).length) (cp02)]) hS rfl rfl Try.underlying24 rfl rfl rfl rfl) ?_; clear hS a; intro a hS
    refine q_seq hS rfl rfl rfl (y_move hS rfl) ?_; clear hS a; intro a hS
    refine l_seq rfl (l_call (cap := []) hS rfl Try.func15 rfl (by kernel_rfl) rfl rfl (c_r23_Apply n _ _ hS.lt a_ (Ap02) (cp02) (hS.fact (k := 101) rfl) w_ (by first | omega | (rw [List.length_append]; omega) | (simp only [List.length_append]; omega) | (simp only [List.length_append, List.length_take, List.length_drop, List.length_cons, List.length_nil]; omega)) r39 hr39) ?_); clear hS a; intro v42 a w hK hp hS
    clear hK
    obtain ⟨rfl, lu43a1⟩ := hp
    refine q_seq hS rfl rfl rfl (y_move hS rfl) ?_; clear hS a; intro a hS
    refine q_seq hS rfl rfl rfl (y_extract hS rfl rfl) ?_; clear hS a; intro a hS
    refine q_seq hS rfl rfl rfl (y_extract hS rfl rfl) ?_; clear hS a; intro a hS
    refine q_seq hS rfl rfl rfl (y_assign hS rfl) ?_; clear hS a; intro a hS
    refine q_seq hS rfl rfl rfl (y_assign hS rfl) ?_; clear hS a; intro a hS
    apply wpList_nil
    refine p_norm ?_
    apply wp_seq
    rcases Decidable.em ((r34.1 : List UInt8) = r39.1) with hs44 | hs44
    · have hs44e : decide ((r34.1 : List UInt8) = r39.1) = true := decide_eq_true hs44
      replace hg := br_t hg hs44
      rcases Bool.eq_false_or_eq_true (r34.2 == r39.2) with hs45 | hs45
      · replace hg := br_t hg hs45
        replace hg := bind_some hg; obtain ⟨r46, hr46, hg⟩ := hg
        apply wp_region_lit
        refine q_seq hS rfl rfl rfl (y_move hS rfl) ?_; clear hS a; intro a hS
        refine q_seq hS rfl rfl rfl (y_move hS rfl) ?_; clear hS a; intro a hS
        refine q_seq hS rfl rfl rfl (yl_b (y_seq hS rfl rfl) hs44e) ?_; clear hS a; intro a hS
        refine q_seq hS rfl rfl rfl (y_move hS rfl) ?_; clear hS a; intro a hS
        refine g_yes hS rfl rfl rfl rfl (l_quiet hS rfl rfl (y_move hS rfl) ?_); clear hS a; intro a hS
        refine g_yes hS rfl rfl rfl rfl (l_quiet hS rfl rfl (y_move hS rfl) ?_); clear hS a; intro a hS
        refine g_yes hS rfl rfl rfl rfl (l_quiet hS rfl rfl (yl_b (y_beq hS rfl rfl Try.underlying4) hs45) ?_); clear hS a; intro a hS
        refine q_seq hS rfl rfl rfl (y_pick_t hS rfl rfl) ?_; clear hS a; intro a hS
        refine q_seq hS rfl rfl rfl (y_move hS rfl) ?_; clear hS a; intro a hS
        refine g_yes hS rfl rfl rfl rfl (l_call (cap := []) hS rfl Try.func10 rfl (by kernel_rfl) rfl rfl (c_law23_exampleHolds n _ _ hS.lt  r46 hr46) ?_); clear hS a; intro v49 a w hK hp hS
        clear hK
        obtain rfl := hp
        refine q_seq hS rfl rfl rfl (y_pick_t hS rfl rfl) ?_; clear hS a; intro a hS
        refine q_seq hS rfl rfl rfl (y_assign hS rfl) ?_; clear hS a; intro a hS
        apply wpList_nil
        refine p_norm ?_
        apply wp_ret
        obtain rfl := Option.some.inj hg
        refine fin1 (fn := Try.f4) hS rfl (r_tmp hS rfl) ?_
        exact rfl
      · replace hg := br_f hg (by rw [hs45]; exact Bool.false_ne_true)
        apply wp_region_lit
        refine q_seq hS rfl rfl rfl (y_move hS rfl) ?_; clear hS a; intro a hS
        refine q_seq hS rfl rfl rfl (y_move hS rfl) ?_; clear hS a; intro a hS
        refine q_seq hS rfl rfl rfl (yl_b (y_seq hS rfl rfl) hs44e) ?_; clear hS a; intro a hS
        refine q_seq hS rfl rfl rfl (y_move hS rfl) ?_; clear hS a; intro a hS
        refine g_yes hS rfl rfl rfl rfl (l_quiet hS rfl rfl (y_move hS rfl) ?_); clear hS a; intro a hS
        refine g_yes hS rfl rfl rfl rfl (l_quiet hS rfl rfl (y_move hS rfl) ?_); clear hS a; intro a hS
        refine g_yes hS rfl rfl rfl rfl (l_quiet hS rfl rfl (yl_b (y_beq hS rfl rfl Try.underlying4) hs45) ?_); clear hS a; intro a hS
        refine q_seq hS rfl rfl rfl (y_pick_t hS rfl rfl) ?_; clear hS a; intro a hS
        refine q_seq hS rfl rfl rfl (y_move hS rfl) ?_; clear hS a; intro a hS
        refine g_no hS rfl rfl rfl rfl rfl rfl rfl ?_; clear hS a; intro a hS
        refine q_seq hS rfl rfl rfl (y_pick_f hS rfl rfl) ?_; clear hS a; intro a hS
        refine q_seq hS rfl rfl rfl (y_assign hS rfl) ?_; clear hS a; intro a hS
        apply wpList_nil
        refine p_norm ?_
        apply wp_ret
        obtain rfl := Option.some.inj hg
        refine fin1 (fn := Try.f4) hS rfl (r_tmp hS rfl) ?_
        exact rfl
    · have hs44e : decide ((r34.1 : List UInt8) = r39.1) = false := decide_eq_false hs44
      replace hg := br_f hg hs44
      apply wp_region_lit
      refine q_seq hS rfl rfl rfl (y_move hS rfl) ?_; clear hS a; intro a hS
      refine q_seq hS rfl rfl rfl (y_move hS rfl) ?_; clear hS a; intro a hS
      refine q_seq hS rfl rfl rfl (yl_b (y_seq hS rfl rfl) hs44e) ?_; clear hS a; intro a hS
      refine q_seq hS rfl rfl rfl (y_move hS rfl) ?_; clear hS a; intro a hS
      refine g_no hS rfl rfl rfl rfl rfl rfl rfl ?_; clear hS a; intro a hS
      refine g_no hS rfl rfl rfl rfl rfl rfl rfl ?_; clear hS a; intro a hS
      refine g_no hS rfl rfl rfl rfl rfl rfl rfl ?_; clear hS a; intro a hS
      refine q_seq hS rfl rfl rfl (y_pick_f hS rfl rfl) ?_; clear hS a; intro a hS
      refine q_seq hS rfl rfl rfl (y_move hS rfl) ?_; clear hS a; intro a hS
      refine g_no hS rfl rfl rfl rfl rfl rfl rfl ?_; clear hS a; intro a hS
      refine q_seq hS rfl rfl rfl (y_pick_f hS rfl rfl) ?_; clear hS a; intro a hS
      refine q_seq hS rfl rfl rfl (y_assign hS rfl) ?_; clear hS a; intro a hS
      apply wpList_nil
      refine p_norm ?_
      apply wp_ret
      obtain rfl := Option.some.inj hg
      refine fin1 (fn := Try.f4) hS rfl (r_tmp hS rfl) ?_
      exact rfl
set_option maxHeartbeats 400000 in
theorem c_r23_with (n : Nat) (M : Bs) (w0 : World) (hM : ∀ b, M b → b < w0.heap.size) (l_ : (List (List UInt8))) (Ap01 : Option Addr) (cp01 : Nat) (hp01 : SlR Rep.str M w0 Ap01 (l_).length cp01 (l_)) (s_ : (List UInt8)) (lp11 : (s_).length ≤ 9223372036854775807) (r : (List (List UInt8))) (hg : r23_with n l_ s_ = some r) :
    Calls Try.prog 33 [.slice (Ap01) ((l_).length) (cp01), .string (bs (s_))].toArray w0 (Ret noB w0 fun v w => ∃ (Aa1 : Option Addr), ∃ (ca1 : Nat), v = .slice (Aa1) ((r).length) (ca1) ∧ (SlR Rep.str M w Aa1 (r).length ca1 (r))) := by
  unfold r23_with at hg
  refine enter M noB Try.func33 rfl rfl hM ?_
  intro a hS
  replace hS := hS.add 101 (slF Rep.str (Ap01) ((l_).length) (cp01) (l_)) (by exact Fact.change _ enterM hp01)
  apply wp_seq
  apply wp_region_lit
  refine q_seq hS rfl rfl rfl (y_assign hS rfl) ?_; clear hS a; intro a hS
  apply wpList_nil
  refine p_norm ?_
  apply wp_seq
  apply wp_region_lit
  refine q_seq hS rfl rfl rfl (y_assign hS rfl) ?_; clear hS a; intro a hS
  apply wpList_nil
  refine p_norm ?_
  apply wp_seq
  apply wp_region_lit
  refine q_seq hS rfl rfl rfl (y_assign hS rfl) ?_; clear hS a; intro a hS
  apply wpList_nil
  refine p_norm ?_
  apply wp_seq
  apply wp_seq
  apply wp_region_lit
  refine q_seq hS rfl rfl rfl (y_assign hS rfl) ?_; clear hS a; intro a hS
  apply wpList_nil
  refine p_norm ?_
  replace hg := jn_some hg; obtain ⟨k1, hg, hk1⟩ := hg
  refine c_post (fun a w => ∃ (out_2 : (List (List UInt8))), ∃ (done_6 : Bool), ∃ (A3 : Option Addr), ∃ (c4 : Nat), ∃ (cs5 : List Value), k1 out_2 done_6 = some r ∧ St (⟨Try.f33.ntmps, M, noB, w0⟩ : Ctx) [(1, .string (bs (s_))), (5, .slice (A3) ((out_2).length) (c4)), (6, .bool (done_6))] [(700102, Ob.row (A3) ((out_2).length) (c4) 9 1 (cs5))] [(103, rdF Rep.str (cs5) (out_2))] a w) ?_ ?_
  · apply wp_block
    replace hS := hS.nilRow 700104 9 1 rfl
    replace hS := hS.add 105 (rdF Rep.str [] []) (RdAll.nil _ _ _)
    refine c_loop (σ := Nat) (fun m1 a w => ∃ (out_7 : (List (List UInt8))), ∃ (done_11 : Bool), ∃ (i_12 : Nat), ∃ (A8 : Option Addr), ∃ (c9 : Nat), ∃ (cs10 : List Value), r23_with_L0 n l_ s_ k1 m1 out_7 done_11 i_12 = some r ∧ St (⟨Try.f33.ntmps, M, noB, w0⟩ : Ctx) [(0, .slice (Ap01) ((l_).length) (cp01)), (1, .string (bs (s_))), (5, .slice (A8) ((out_7).length) (c9)), (6, .bool (done_11)), (7, .int .i64 (((i_12 : Nat) : Int)))] [(700104, Ob.row (A8) ((out_7).length) (c9) 9 1 (cs10))] [(101, slF Rep.str (Ap01) ((l_).length) (cp01) (l_)), (105, rdF Rep.str (cs10) (out_7))] a w) (fun m1 => m1) n ⟨([]), (false), (0), (none), (0), ([]), hg, (hS.sub ⟨rfl, rfl, rfl, rfl, rfl, trivial⟩ ⟨rfl, trivial⟩ ⟨rfl, rfl, trivial⟩)⟩ ?_
    clear hS a; rintro m1 a w ⟨out_7, done_11, i_12, A8, c9, cs10, hg, hS⟩
    rcases m1 with _ | m1
    · rw [r23_with_L0] at hg; cases hg
    rw [r23_with_L0] at hg
    apply wp_seq
    apply wp_seq
    apply wp_region_lit
    refine q_seq hS rfl rfl rfl (y_move hS rfl) ?_; clear hS a; intro a hS
    refine q_seq hS rfl rfl rfl (y_move hS rfl) ?_; clear hS a; intro a hS
    refine q_seq hS rfl rfl rfl (y_lenSlice hS rfl Try.underlying34) ?_; clear hS a; intro a hS
    refine q_seq hS rfl rfl rfl (y_lssN (i := i_12) (j := ((l_).length)) hS rfl rfl) ?_; clear hS a; intro a hS
    apply wpList_nil
    refine p_norm ?_
    refine c_dec hS rfl (fun hc13 => ?_) (fun hc13 => ?_)
    · replace hg := br_t hg hc13
      have hmx14 := SlR.mx (hS.fact (k := 101) rfl)
      apply wp_skip
      refine p_norm ?_
      apply wp_seq
      apply wp_block
      apply wp_seq
      apply wp_seq
      replace hg := jn_some hg; obtain ⟨k15, hg, hk15⟩ := hg
      refine c_post (fun a w => ∃ (t_16 : Bool), k15 t_16 = some r ∧ St (⟨Try.f33.ntmps, M, noB, w0⟩ : Ctx) [(0, .slice (Ap01) ((l_).length) (cp01)), (1, .string (bs (s_))), (5, .slice (A8) ((out_7).length) (c9)), (6, .bool (done_11)), (7, .int .i64 (((i_12 : Nat) : Int))), (23, .bool (t_16))] [(700104, Ob.row (A8) ((out_7).length) (c9) 9 1 (cs10))] [(101, slF Rep.str (Ap01) ((l_).length) (cp01) (l_)), (105, rdF Rep.str (cs10) (out_7))] a w) ?_ ?_
      · rcases Bool.eq_false_or_eq_true (!(done_11)) with hs17 | hs17
        · replace hg := br_t hg hs17
          replace hg := bind_some hg; obtain ⟨x19, hx19, hg⟩ := hg
          apply wp_region_lit
          refine q_seq hS rfl rfl rfl (y_move hS rfl) ?_; clear hS a; intro a hS
          refine q_seq hS rfl rfl rfl (yl_b (y_not hS rfl) hs17) ?_; clear hS a; intro a hS
          refine q_seq hS rfl rfl rfl (y_move hS rfl) ?_; clear hS a; intro a hS
          refine g_yes hS rfl rfl rfl rfl (l_quiet hS rfl rfl (y_move hS rfl) ?_); clear hS a; intro a hS
          refine g_yes hS rfl rfl rfl rfl (l_quiet hS rfl rfl (y_move hS rfl) ?_); clear hS a; intro a hS
          obtain ⟨p21, hep21, hpp21⟩ := SlR.elemX (hS.fact (k := 101) rfl) hx19
          refine g_yes hS rfl rfl rfl rfl (l_quiet hS rfl rfl (y_elem (sz := 1) (i := i_12) hS rfl rfl Try.underlying34 rfl hep21 rfl (lt_of_get hx19)) ?_); clear hS a; intro a hS
          obtain ⟨hlq22, hmq22, csq22, hdq22, hcq22⟩ := hpp21
          obtain ⟨rfl, lq221⟩ := hdq22
          refine g_yes hS rfl rfl rfl rfl (l_quiet hS rfl rfl (y_ldp1 hS rfl hlq22 hmq22 (hcq22 0 _ rfl) Try.underlying9 rfl) ?_); clear hS a; intro a hS
          refine g_yes hS rfl rfl rfl rfl (l_quiet hS rfl rfl (y_move hS rfl) ?_); clear hS a; intro a hS
          refine g_yes hS rfl rfl rfl rfl (l_quiet hS rfl rfl (y_sgeq hS rfl rfl) ?_); clear hS a; intro a hS
          refine q_seq hS rfl rfl rfl (y_pick_t hS rfl rfl) ?_; clear hS a; intro a hS
          apply wpList_nil
          refine p_norm ?_
          exact ⟨(!(Op.bytesLess x19 s_)), hg, (hS.sub ⟨rfl, rfl, rfl, rfl, rfl, rfl, trivial⟩ ⟨rfl, trivial⟩ ⟨rfl, rfl, trivial⟩)⟩
        · replace hg := br_f hg (by rw [hs17]; exact Bool.false_ne_true)
          apply wp_region_lit
          refine q_seq hS rfl rfl rfl (y_move hS rfl) ?_; clear hS a; intro a hS
          refine q_seq hS rfl rfl rfl (yl_b (y_not hS rfl) hs17) ?_; clear hS a; intro a hS
          refine q_seq hS rfl rfl rfl (y_move hS rfl) ?_; clear hS a; intro a hS
          refine g_no hS rfl rfl rfl rfl rfl rfl rfl ?_; clear hS a; intro a hS
          refine g_no hS rfl rfl rfl rfl rfl rfl rfl ?_; clear hS a; intro a hS
          refine g_no hS rfl rfl rfl rfl rfl rfl rfl ?_; clear hS a; intro a hS
          refine g_no hS rfl rfl rfl rfl rfl rfl rfl ?_; clear hS a; intro a hS
          refine g_no hS rfl rfl rfl rfl rfl rfl rfl ?_; clear hS a; intro a hS
          refine g_no hS rfl rfl rfl rfl rfl rfl rfl ?_; clear hS a; intro a hS
          refine q_seq hS rfl rfl rfl (y_pick_f hS rfl rfl) ?_; clear hS a; intro a hS
          apply wpList_nil
          refine p_norm ?_
          exact ⟨(false), hg, (hS.sub ⟨rfl, rfl, rfl, rfl, rfl, rfl, trivial⟩ ⟨rfl, trivial⟩ ⟨rfl, rfl, trivial⟩)⟩
      clear hS a; rintro a w ⟨t_16, hg, hS⟩
      subst hk15
      replace hg := jn_some hg; obtain ⟨k23, hg, hk23⟩ := hg
      refine c_post (fun a w => ∃ (out_24 : (List (List UInt8))), ∃ (done_28 : Bool), ∃ (A25 : Option Addr), ∃ (c26 : Nat), ∃ (cs27 : List Value), k23 out_24 done_28 = some r ∧ St (⟨Try.f33.ntmps, M, noB, w0⟩ : Ctx) [(0, .slice (Ap01) ((l_).length) (cp01)), (1, .string (bs (s_))), (5, .slice (A25) ((out_24).length) (c26)), (6, .bool (done_28)), (7, .int .i64 (((i_12 : Nat) : Int)))] [(700106, Ob.row (A25) ((out_24).length) (c26) 9 1 (cs27))] [(101, slF Rep.str (Ap01) ((l_).length) (cp01) (l_)), (107, rdF Rep.str (cs27) (out_24))] a w) ?_ ?_
      · refine c_cond hS rfl (fun hc29 => ?_) (fun hc29 => ?_)
        · replace hg := br_t hg hc29
          apply wp_seq
          replace hg := chk_some hg; obtain ⟨hk31, hg⟩ := hg
          apply wp_region_lit
          refine q_seq hS rfl rfl rfl (y_move hS rfl) ?_; clear hS a; intro a hS
          refine q_seq hS rfl rfl rfl (y_move hS rfl) ?_; clear hS a; intro a hS
          refine l_seq rfl (l_buildDense (sz := 1) hS 1702 rfl rfl rfl Try.underlying34 rfl rfl rfl rfl rfl rfl rfl ?_); clear hS a; intro b34 a w hbb34 hK hS
          clear hbb34
          clear hK
          replace hS := hS.add 110 (rdF Rep.str (cellsOfL [.string (bs (s_))]) ([s_])) (RdAll.cons (by exact ⟨rfl, (by first | omega | (rw [List.length_append]; omega) | (simp only [List.length_append]; omega) | (simp only [List.length_append, List.length_take, List.length_drop, List.length_cons, List.length_nil]; omega))⟩) (RdAll.nil _ _ _))
          have hs36 := row_src (hS.wd.holds 1702 _ rfl) (RdAll.one (hS.fact (k := 110) rfl))
          refine l_seq rfl (l_append (sz := 1) (by_ := 16) (N := (out_7 ++ [s_]).length) (ys := cs10 ++ (cellsOfL [.string (bs (s_))])) hS 700104 rfl rfl rfl Try.underlying34 rfl rfl rfl rfl rfl hs36 (by simp) rfl (by have hr := hk31; clear hg; first | omega | (simp only [List.length_append, List.length_cons, List.length_nil] at hr ⊢; omega) | (simp at hr ⊢; omega)) (by have hr := hk31; clear hg; first | omega | (simp only [List.length_append, List.length_cons, List.length_nil] at hr ⊢; omega) | (simp at hr ⊢; omega)) rfl ?_); clear hS a; intro Aq35 cq35 a w hA hK hS
          clear hK hA
          replace hS := hS.add 111 (rdF Rep.str (cs10 ++ (cellsOfL [.string (bs (s_))])) (out_7 ++ [s_])) (RdAll.append (hS.fact (k := 105) rfl) (hS.fact (k := 110) rfl))
          refine q_seq hS rfl rfl rfl (y_assign hS rfl) ?_; clear hS a; intro a hS
          apply wpList_nil
          refine p_norm ?_
          apply wp_region_lit
          refine q_seq hS rfl rfl rfl (y_assign hS rfl) ?_; clear hS a; intro a hS
          apply wpList_nil
          refine p_norm ?_
          replace hS := hS.add 107 (rdF Rep.str (cs10 ++ (cellsOfL [.string (bs (s_))])) (out_7 ++ [s_])) (hS.fact (k := 111) rfl)
          replace hS := hS.ren [(1702, Ob.row (some ⟨b34, 0, none⟩) (1) (1) 9 1 (cellsOfL [.string (bs (s_))])), (700106, Ob.row (Aq35) ((out_7 ++ [s_]).length) (cq35) 9 1 (cs10 ++ (cellsOfL [.string (bs (s_))])))] [1702, 700104] ⟨rfl, rfl, trivial⟩ (by decide)
          exact ⟨(out_7 ++ [s_]), (true), (Aq35), (cq35), (cs10 ++ (cellsOfL [.string (bs (s_))])), hg, (hS.sub ⟨rfl, rfl, rfl, rfl, rfl, trivial⟩ ⟨rfl, trivial⟩ ⟨rfl, rfl, trivial⟩)⟩
        · replace hg := br_f hg (by rw [hc29]; exact Bool.false_ne_true)
          apply wp_skip
          refine p_norm ?_
          replace hS := hS.add 107 (rdF Rep.str (cs10) (out_7)) (hS.fact (k := 105) rfl)
          replace hS := hS.ren [(700106, Ob.row (A8) ((out_7).length) (c9) 9 1 (cs10))] [700104] ⟨rfl, trivial⟩ (by decide)
          exact ⟨(out_7), (done_11), (A8), (c9), (cs10), hg, (hS.sub ⟨rfl, rfl, rfl, rfl, rfl, trivial⟩ ⟨rfl, trivial⟩ ⟨rfl, rfl, trivial⟩)⟩
      clear hS a; rintro a w ⟨out_24, done_28, A25, c26, cs27, hg, hS⟩
      subst hk23
      apply wp_seq
      replace hg := bind_some hg; obtain ⟨x38, hx38, hg⟩ := hg
      apply wp_region_lit
      refine q_seq hS rfl rfl rfl (y_move hS rfl) ?_; clear hS a; intro a hS
      refine q_seq hS rfl rfl rfl (y_move hS rfl) ?_; clear hS a; intro a hS
      obtain ⟨p40, hep40, hpp40⟩ := SlR.elemX (hS.fact (k := 101) rfl) hx38
      refine q_seq hS rfl rfl rfl (y_elem (sz := 1) (i := i_12) hS rfl rfl Try.underlying34 rfl hep40 rfl (lt_of_get hx38)) ?_; clear hS a; intro a hS
      obtain ⟨hlq41, hmq41, csq41, hdq41, hcq41⟩ := hpp40
      obtain ⟨rfl, lq411⟩ := hdq41
      refine q_seq hS rfl rfl rfl (y_ldp1 hS rfl hlq41 hmq41 (hcq41 0 _ rfl) Try.underlying9 rfl) ?_; clear hS a; intro a hS
      refine q_seq hS rfl rfl rfl (y_move hS rfl) ?_; clear hS a; intro a hS
      refine q_seq hS rfl rfl rfl (y_sne hS rfl rfl) ?_; clear hS a; intro a hS
      apply wpList_nil
      refine p_norm ?_
      refine c_dec hS rfl (fun hc42 => ?_) (fun hc42 => ?_)
      · replace hg := br_t hg hc42
        replace hg := chk_some hg; obtain ⟨hk46, hg⟩ := hg
        apply wp_region_lit
        refine q_seq hS rfl rfl rfl (y_move hS rfl) ?_; clear hS a; intro a hS
        refine q_seq hS rfl rfl rfl (y_move hS rfl) ?_; clear hS a; intro a hS
        refine q_seq hS rfl rfl rfl (y_move hS rfl) ?_; clear hS a; intro a hS
        obtain ⟨p49, hep49, hpp49⟩ := SlR.elemX (hS.fact (k := 101) rfl) hx38
        refine q_seq hS rfl rfl rfl (y_elem (sz := 1) (i := i_12) hS rfl rfl Try.underlying34 rfl hep49 rfl (lt_of_get hx38)) ?_; clear hS a; intro a hS
        obtain ⟨hlq50, hmq50, csq50, hdq50, hcq50⟩ := hpp49
        obtain ⟨rfl, lq501⟩ := hdq50
        refine q_seq hS rfl rfl rfl (y_ldp1 hS rfl hlq50 hmq50 (hcq50 0 _ rfl) Try.underlying9 rfl) ?_; clear hS a; intro a hS
        refine l_seq rfl (l_buildDense (sz := 1) hS 2005 rfl rfl rfl Try.underlying34 rfl rfl rfl rfl rfl rfl rfl ?_); clear hS a; intro b51 a w hbb51 hK hS
        clear hbb51
        clear hK
        replace hS := hS.add 114 (rdF Rep.str (cellsOfL [.string (bs (x38))]) ([x38])) (RdAll.cons (by exact ⟨rfl, (by first | omega | (rw [List.length_append]; omega) | (simp only [List.length_append]; omega) | (simp only [List.length_append, List.length_take, List.length_drop, List.length_cons, List.length_nil]; omega))⟩) (RdAll.nil _ _ _))
        have hs53 := row_src (hS.wd.holds 2005 _ rfl) (RdAll.one (hS.fact (k := 114) rfl))
        refine l_seq rfl (l_append (sz := 1) (by_ := 16) (N := (out_24 ++ [x38]).length) (ys := cs27 ++ (cellsOfL [.string (bs (x38))])) hS 700106 rfl rfl rfl Try.underlying34 rfl rfl rfl rfl rfl hs53 (by simp) rfl (by have hr := hk46; clear hg; first | omega | (simp only [List.length_append, List.length_cons, List.length_nil] at hr ⊢; omega) | (simp at hr ⊢; omega)) (by have hr := hk46; clear hg; first | omega | (simp only [List.length_append, List.length_cons, List.length_nil] at hr ⊢; omega) | (simp at hr ⊢; omega)) rfl ?_); clear hS a; intro Aq52 cq52 a w hA hK hS
        clear hK hA
        replace hS := hS.add 115 (rdF Rep.str (cs27 ++ (cellsOfL [.string (bs (x38))])) (out_24 ++ [x38])) (RdAll.append (hS.fact (k := 107) rfl) (hS.fact (k := 114) rfl))
        refine q_seq hS rfl rfl rfl (y_assign hS rfl) ?_; clear hS a; intro a hS
        apply wpList_nil
        refine p_inN ?_
        refine p_norm ?_
        apply wp_region_lit
        refine q_seq hS rfl rfl rfl (y_move hS rfl) ?_; clear hS a; intro a hS
        refine q_seq hS rfl rfl rfl (y_addN (i := i_12) (j := 1) hS rfl rfl (in64.2 (by omega))) ?_; clear hS a; intro a hS
        refine q_seq hS rfl rfl rfl (y_assign hS rfl) ?_; clear hS a; intro a hS
        apply wpList_nil
        refine p_norm ?_
        replace hS := hS.add 105 (rdF Rep.str (cs27 ++ (cellsOfL [.string (bs (x38))])) (out_24 ++ [x38])) (hS.fact (k := 115) rfl)
        replace hS := hS.ren [(2005, Ob.row (some ⟨b51, 0, none⟩) (1) (1) 9 1 (cellsOfL [.string (bs (x38))])), (700104, Ob.row (Aq52) ((out_24 ++ [x38]).length) (cq52) 9 1 (cs27 ++ (cellsOfL [.string (bs (x38))])))] [2005, 700106] ⟨rfl, rfl, trivial⟩ (by decide)
        exact ⟨m1, Nat.lt_succ_self _, ⟨(out_24 ++ [x38]), (done_28), (i_12 + 1), (Aq52), (cq52), (cs27 ++ (cellsOfL [.string (bs (x38))])), hg, (hS.sub ⟨rfl, rfl, rfl, rfl, rfl, trivial⟩ ⟨rfl, trivial⟩ ⟨rfl, rfl, trivial⟩)⟩⟩
      · replace hg := br_f hg hc42
        apply wp_skip
        refine p_inN ?_
        refine p_norm ?_
        apply wp_region_lit
        refine q_seq hS rfl rfl rfl (y_move hS rfl) ?_; clear hS a; intro a hS
        refine q_seq hS rfl rfl rfl (y_addN (i := i_12) (j := 1) hS rfl rfl (in64.2 (by omega))) ?_; clear hS a; intro a hS
        refine q_seq hS rfl rfl rfl (y_assign hS rfl) ?_; clear hS a; intro a hS
        apply wpList_nil
        refine p_norm ?_
        replace hS := hS.add 105 (rdF Rep.str (cs27) (out_24)) (hS.fact (k := 107) rfl)
        replace hS := hS.ren [(700104, Ob.row (A25) ((out_24).length) (c26) 9 1 (cs27))] [700106] ⟨rfl, trivial⟩ (by decide)
        exact ⟨m1, Nat.lt_succ_self _, ⟨(out_24), (done_28), (i_12 + 1), (A25), (c26), (cs27), hg, (hS.sub ⟨rfl, rfl, rfl, rfl, rfl, trivial⟩ ⟨rfl, trivial⟩ ⟨rfl, rfl, trivial⟩)⟩⟩
    · replace hg := br_f hg hc13
      apply wp_exit
      refine p_then ?_
      refine p_then ?_
      refine p_in ?_
      refine p_norm ?_
      replace hS := hS.add 103 (rdF Rep.str (cs10) (out_7)) (hS.fact (k := 105) rfl)
      replace hS := hS.ren [(700102, Ob.row (A8) ((out_7).length) (c9) 9 1 (cs10))] [700104] ⟨rfl, trivial⟩ (by decide)
      exact ⟨(out_7), (done_11), (A8), (c9), (cs10), hg, (hS.sub ⟨rfl, rfl, rfl, trivial⟩ ⟨rfl, trivial⟩ ⟨rfl, trivial⟩)⟩
  clear hS a; rintro a w ⟨out_2, done_6, A3, c4, cs5, hg, hS⟩
  subst hk1
  apply wp_seq
  apply wp_seq
  apply wp_region_lit
  refine q_seq hS rfl rfl rfl (y_move hS rfl) ?_; clear hS a; intro a hS
  refine q_seq hS rfl rfl rfl (y_not hS rfl) ?_; clear hS a; intro a hS
  apply wpList_nil
  refine p_norm ?_
  refine c_cond hS rfl (fun hc54 => ?_) (fun hc54 => ?_)
  · replace hg := br_t hg hc54
    replace hg := chk_some hg; obtain ⟨hk56, hg⟩ := hg
    apply wp_region_lit
    refine q_seq hS rfl rfl rfl (y_move hS rfl) ?_; clear hS a; intro a hS
    refine q_seq hS rfl rfl rfl (y_move hS rfl) ?_; clear hS a; intro a hS
    refine l_seq rfl (l_buildDense (sz := 1) hS 2202 rfl rfl rfl Try.underlying34 rfl rfl rfl rfl rfl rfl rfl ?_); clear hS a; intro b59 a w hbb59 hK hS
    clear hbb59
    clear hK
    replace hS := hS.add 118 (rdF Rep.str (cellsOfL [.string (bs (s_))]) ([s_])) (RdAll.cons (by exact ⟨rfl, (by first | omega | (rw [List.length_append]; omega) | (simp only [List.length_append]; omega) | (simp only [List.length_append, List.length_take, List.length_drop, List.length_cons, List.length_nil]; omega))⟩) (RdAll.nil _ _ _))
    have hs61 := row_src (hS.wd.holds 2202 _ rfl) (RdAll.one (hS.fact (k := 118) rfl))
    refine l_seq rfl (l_append (sz := 1) (by_ := 16) (N := (out_2 ++ [s_]).length) (ys := cs5 ++ (cellsOfL [.string (bs (s_))])) hS 700102 rfl rfl rfl Try.underlying34 rfl rfl rfl rfl rfl hs61 (by simp) rfl (by have hr := hk56; clear hg; first | omega | (simp only [List.length_append, List.length_cons, List.length_nil] at hr ⊢; omega) | (simp at hr ⊢; omega)) (by have hr := hk56; clear hg; first | omega | (simp only [List.length_append, List.length_cons, List.length_nil] at hr ⊢; omega) | (simp at hr ⊢; omega)) rfl ?_); clear hS a; intro Aq60 cq60 a w hA hK hS
    clear hK hA
    replace hS := hS.add 119 (rdF Rep.str (cs5 ++ (cellsOfL [.string (bs (s_))])) (out_2 ++ [s_])) (RdAll.append (hS.fact (k := 103) rfl) (hS.fact (k := 118) rfl))
    refine q_seq hS rfl rfl rfl (y_assign hS rfl) ?_; clear hS a; intro a hS
    apply wpList_nil
    refine p_norm ?_
    apply wp_seq
    apply wp_region_lit
    refine q_seq hS rfl rfl rfl (y_move hS rfl) ?_; clear hS a; intro a hS
    refine q_seq hS rfl rfl rfl (y_assign hS rfl) ?_; clear hS a; intro a hS
    apply wpList_nil
    refine p_norm ?_
    apply wp_ret
    obtain rfl := Option.some.inj hg
    refine fin1 (fn := Try.f33) hS rfl (r_tmp hS rfl) ?_
    exact ⟨(Aq60), (cq60), rfl, (hS.rowOut (R := Rep.str) (kk := 700102) rfl rfl (hS.fact (k := 119) rfl))⟩
  · replace hg := br_f hg (by rw [hc54]; exact Bool.false_ne_true)
    apply wp_skip
    refine p_norm ?_
    apply wp_seq
    apply wp_region_lit
    refine q_seq hS rfl rfl rfl (y_move hS rfl) ?_; clear hS a; intro a hS
    refine q_seq hS rfl rfl rfl (y_assign hS rfl) ?_; clear hS a; intro a hS
    apply wpList_nil
    refine p_norm ?_
    apply wp_ret
    obtain rfl := Option.some.inj hg
    refine fin1 (fn := Try.f33) hS rfl (r_tmp hS rfl) ?_
    exact ⟨(A3), (c4), rfl, (hS.rowOut (R := Rep.str) (kk := 700102) rfl rfl (hS.fact (k := 103) rfl))⟩
end Go.Proofs.Ytolgbjbfhoffpaa

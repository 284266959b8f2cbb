/- Chapter 27: plain programs and walks of the laws -/
import Derived.Test.YthblmjbmnfebdaaA1
namespace Go.Proofs.Ythblmjbmnfebdaa
open Go.Gl Go.RowKit
set_option linter.unusedVariables false
set_option linter.unusedSimpArgs false

/-- grammarlab/grammarlablaw27.exampleHolds -/
def law27_exampleHolds (n : Nat)  : Option Bool :=
  (token_Split n [84, 104, 101, 32, 100, 111, 103, 44, 32, 105, 116, 32, 98, 97, 114, 107, 115, 46]).bind fun r1 =>
  (token_Split n [97, 32, 34, 98]).bind fun r6 =>
  (token_Split n [32]).bind fun r11 =>
  if r1.2 = 0 then
    (r01_Same n r1.1 [[116, 104, 101], [100, 111, 103], [44], [105, 116], [98, 97, 114, 107, 115], [46]]).bind fun r18 =>
    if r18 = true then
      if r6.2 = 8 then
        if r11.2 = 1 then
          (token_Join n r1.1).bind fun r24 =>
          if (r24 : List UInt8) = [116, 104, 101, 32, 100, 111, 103, 32, 44, 32, 105, 116, 32, 98, 97, 114, 107, 115, 32, 46] then
            (token_Check n [[97, 46, 98]]).bind fun r29 =>
            if r29 = 0 then
              (token_Check n []).bind fun r33 =>
              some (decide (r33 = 1))
            else
              some false
          else
            some false
        else
          some false
      else
        some false
    else
      some false
  else
    some false
/-- grammarlab/grammarlablaw27.TokenSplits -/
def law27_TokenSplits (n : Nat) (s_ : (List UInt8)) : Option Bool :=
  jn (fun (t_2 : Bool) =>
    if t_2 = true then
      (law27_exampleHolds n).bind fun r6 =>
      some r6
    else
      (token_Split n s_).bind fun r11 =>
      (r27_Split n s_).bind fun r16 =>
      if r11.2 = r16.2 then
        (r01_Same n r11.1 r16.1).bind fun r22 =>
        if r22 = true then
          (law27_exampleHolds n).bind fun r26 =>
          some r26
        else
          some false
      else
        some false)
    (fun k1 =>
      if (2000 : Nat) < ((s_).length) then
        k1 (decide (((s_).length) ≤ 65536))
      else
        k1 false)
/-- grammarlab/grammarlablaw27.TokenJoins -/
def law27_TokenJoins (n : Nat) (words_ : (List (List UInt8))) : Option Bool :=
  (r27_Light n words_).bind fun r1 =>
  if (!(r1)) = true then
    (law27_exampleHolds n).bind fun r7 =>
    some r7
  else
    (token_Join n words_).bind fun r12 =>
    (r27_Join n words_).bind fun r15 =>
    if (r12 : List UInt8) = r15 then
      (law27_exampleHolds n).bind fun r19 =>
      some r19
    else
      some false
/-- grammarlab/grammarlablaw27.TokenChecks -/
def law27_TokenChecks (n : Nat) (words_ : (List (List UInt8))) : Option Bool :=
  (r27_Light n words_).bind fun r1 =>
  if (!(r1)) = true then
    (law27_exampleHolds n).bind fun r7 =>
    some r7
  else
    (token_Check n words_).bind fun r12 =>
    (r27_Check n words_).bind fun r15 =>
    if r12 = r15 then
      (law27_exampleHolds n).bind fun r19 =>
      some r19
    else
      some false
/-- grammarlab/grammarlablaw27.TokenBack -/
def law27_TokenBack (n : Nat) (t_ : (List UInt8)) (t_' : (List (List UInt8))) : Option Bool :=
  jn (fun (t_2 : Bool) =>
    if t_2 = true then
      (law27_exampleHolds n).bind fun r11 =>
      some r11
    else
      (token_Split n t_).bind fun r16 =>
      jn (
        jn (fun (t_51 : Bool) =>
          if t_51 = true then
            (law27_exampleHolds n).bind fun r66 =>
            some r66
          else
            (token_Join n t_').bind fun r71 =>
            (token_Split n r71).bind fun r74 =>
            if r74.2 = 0 then
              (r01_Same n r74.1 t_').bind fun r82 =>
              if r82 = true then
                (law27_exampleHolds n).bind fun r86 =>
                some r86
              else
                some false
            else
              some false)
          (fun k50 =>
            (token_Check n t_').bind fun r52 =>
            if r52 ≠ 0 then
              k50 true
            else
              (r27_Simple n t_').bind fun r58 =>
              k50 (!(r58))))
        (fun k21 =>
          if r16.2 = 0 then
            (token_Join n r16.1).bind fun r23 =>
            (token_Split n r23).bind fun r26 =>
            jn (fun (t_34 : Bool) =>
              if t_34 = true then
                some false
              else
                k21)
              (fun k33 =>
                if r26.2 ≠ 0 then
                  k33 true
                else
                  (r01_Same n r26.1 r16.1).bind fun r36 =>
                  if (!(r36)) = true then
                    k33 true
                  else
                    (token_Check n r16.1).bind fun r42 =>
                    k33 (decide (r42 ≠ 0)))
          else
            k21))
    (fun k1 =>
      if (2000 : Nat) < ((t_).length) then
        k1 true
      else
        (r27_Light n t_').bind fun r5 =>
        k1 (!(r5)))
/-- grammarlab/grammarlablaw27.TokenCase -/
def law27_TokenCase (n : Nat) (s_ : (List UInt8)) : Option Bool :=
  if (1000 : Nat) < ((s_).length) then
    (law27_exampleHolds n).bind fun r3 =>
    some r3
  else
    (token_Split n s_).bind fun r8 =>
    (law27_raised n s_).bind fun r13 =>
    (token_Split n r13).bind fun r16 =>
    chk (([10, 32]).length + (s_).length ≤ 9223372036854775807) (
    chk (([10, 32] ++ s_).length + ([9, 13]).length ≤ 9223372036854775807) (
    (token_Split n (([10, 32] ++ s_) ++ [9, 13])).bind fun r25 =>
    if r8.2 = r16.2 then
      if r8.2 = r25.2 then
        (r01_Same n r8.1 r16.1).bind fun r32 =>
        if r32 = true then
          (r01_Same n r8.1 r25.1).bind fun r36 =>
          if r36 = true then
            (law27_exampleHolds n).bind fun r40 =>
            some r40
          else
            some false
        else
          some false
      else
        some false
    else
      some false))
/-- grammarlab/grammarlablaw27.TokenConcat -/
def law27_TokenConcat (n : Nat) (t_ : (List UInt8)) (t_' : (List UInt8)) : Option Bool :=
  jn (fun (t_2 : Bool) =>
    if t_2 = true then
      (law27_exampleHolds n).bind fun r6 =>
      some r6
    else
      (token_Split n t_).bind fun r11 =>
      (token_Split n t_').bind fun r16 =>
      jn (fun (t_22 : Bool) =>
        if t_22 = true then
          if r11.2 = 0 then
            if r16.2 = 0 then
              (law27_exampleHolds n).bind fun r27 =>
              some r27
            else
              if ((r16.1).length) = 0 then
                (law27_exampleHolds n).bind fun r33 =>
                some r33
              else
                some false
          else
            if ((r11.1).length) = 0 then
              if r16.2 = 0 then
                (law27_exampleHolds n).bind fun r40 =>
                some r40
              else
                if ((r16.1).length) = 0 then
                  (law27_exampleHolds n).bind fun r46 =>
                  some r46
                else
                  some false
            else
              some false
        else
          chk ((t_).length + ([32]).length ≤ 9223372036854775807) (
          chk ((t_ ++ [32]).length + (t_').length ≤ 9223372036854775807) (
          (token_Split n ((t_ ++ [32]) ++ t_')).bind fun r53 =>
          chk ((r11.1).length + (r16.1).length ≤ 9223372036854775807) (
          if (32 : Nat) < ((r11.1).length + (r16.1).length) then
            if r53.2 = 7 then
              (law27_exampleHolds n).bind fun r61 =>
              some r61
            else
              some false
          else
            if r53.2 = 0 then
              chk ((r11.1).length ≤ 137438953472) (
              chk ((r11.1).length + (r16.1).length ≤ 137438953472) (
              (r01_Same n r53.1 (r11.1 ++ r16.1)).bind fun r74 =>
              if r74 = true then
                (law27_exampleHolds n).bind fun r78 =>
                some r78
              else
                some false))
            else
              some false))))
        (fun k21 =>
          if r11.2 ≠ 0 then
            k21 true
          else
            k21 (decide (r16.2 ≠ 0))))
    (fun k1 =>
      if (1000 : Nat) < ((t_).length) then
        k1 true
      else
        k1 (decide ((1000 : Nat) < ((t_').length))))
set_option maxHeartbeats 400000 in
theorem c_law27_exampleHolds (n : Nat) (M : Bs) (w0 : World) (hM : ∀ b, M b → b < w0.heap.size)  (r : Bool) (hg : law27_exampleHolds n = some r) :
    Calls Try.prog 9 [].toArray w0 (Ret noB w0 fun v w => v = .bool (r)) := by
  unfold law27_exampleHolds at hg
  refine enter M noB Try.func9 rfl rfl hM ?_
  intro a hS
  apply wp_seq
  apply wp_region_lit
  refine q_seq hS rfl rfl rfl (y_assign hS rfl) ?_; clear hS a; intro a hS
  apply wpList_nil
  refine p_norm ?_
  apply wp_seq
  replace hg := bind_some hg; obtain ⟨r1, hr1, hg⟩ := hg
  apply wp_region_lit
  refine l_seq rfl (l_call (cap := []) hS rfl Try.func10 rfl (by kernel_rfl) rfl rfl (c_token_Split n _ _ hS.lt [84, 104, 101, 32, 100, 111, 103, 44, 32, 105, 116, 32, 98, 97, 114, 107, 115, 46] (by first | omega | (rw [List.length_append]; omega) | (simp only [List.length_append]; omega) | (simp only [List.length_append, List.length_take, List.length_drop, List.length_cons, List.length_nil]; omega)) r1 hr1) ?_); clear hS a; intro v4 a w hK hp hS
  clear hK
  obtain ⟨Au5a1, cu5a1, rfl, hu5a1⟩ := hp
  replace hS := hS.add 102 (slF Rep.str (Au5a1) ((r1.1).length) (cu5a1) (r1.1)) hu5a1
  refine q_seq hS rfl rfl rfl (y_move hS rfl) ?_; clear hS a; intro a hS
  refine q_seq hS rfl rfl rfl (y_extract hS rfl rfl) ?_; clear hS a; intro a hS
  refine q_seq hS rfl rfl rfl (y_extract hS rfl rfl) ?_; clear hS a; intro a hS
  refine q_seq hS rfl rfl rfl (y_assign hS rfl) ?_; clear hS a; intro a hS
  refine q_seq hS rfl rfl rfl (y_assign hS rfl) ?_; clear hS a; intro a hS
  apply wpList_nil
  refine p_norm ?_
  apply wp_seq
  replace hg := bind_some hg; obtain ⟨r6, hr6, hg⟩ := hg
  apply wp_region_lit
  refine l_seq rfl (l_call (cap := []) hS rfl Try.func10 rfl (by kernel_rfl) rfl rfl (c_token_Split n _ _ hS.lt [97, 32, 34, 98] (by first | omega | (rw [List.length_append]; omega) | (simp only [List.length_append]; omega) | (simp only [List.length_append, List.length_take, List.length_drop, List.length_cons, List.length_nil]; omega)) r6 hr6) ?_); clear hS a; intro v9 a w hK hp hS
  clear hK
  obtain ⟨Au10a1, cu10a1, rfl, hu10a1⟩ := hp
  replace hS := hS.add 104 (slF Rep.str (Au10a1) ((r6.1).length) (cu10a1) (r6.1)) hu10a1
  refine q_seq hS rfl rfl rfl (y_move hS rfl) ?_; clear hS a; intro a hS
  refine q_seq hS rfl rfl rfl (y_extract hS rfl rfl) ?_; clear hS a; intro a hS
  refine q_seq hS rfl rfl rfl (y_extract hS rfl rfl) ?_; clear hS a; intro a hS
  refine q_seq hS rfl rfl rfl (y_assign hS rfl) ?_; clear hS a; intro a hS
  refine q_seq hS rfl rfl rfl (y_assign hS rfl) ?_; clear hS a; intro a hS
  apply wpList_nil
  refine p_norm ?_
  apply wp_seq
  replace hg := bind_some hg; obtain ⟨r11, hr11, hg⟩ := hg
  apply wp_region_lit
  refine l_seq rfl (l_call (cap := []) hS rfl Try.func10 rfl (by kernel_rfl) rfl rfl (c_token_Split n _ _ hS.lt [32] (by first | omega | (rw [List.length_append]; omega) | (simp only [List.length_append]; omega) | (simp only [List.length_append, List.length_take, List.length_drop, List.length_cons, List.length_nil]; omega)) r11 hr11) ?_); clear hS a; intro v14 a w hK hp hS
  clear hK
  obtain ⟨Au15a1, cu15a1, rfl, hu15a1⟩ := hp
  replace hS := hS.add 106 (slF Rep.str (Au15a1) ((r11.1).length) (cu15a1) (r11.1)) hu15a1
  refine q_seq hS rfl rfl rfl (y_move hS rfl) ?_; clear hS a; intro a hS
  refine q_seq hS rfl rfl rfl (y_extract hS rfl rfl) ?_; clear hS a; intro a hS
  refine q_seq hS rfl rfl rfl (y_extract hS rfl rfl) ?_; clear hS a; intro a hS
  refine q_seq hS rfl rfl rfl (y_assign hS rfl) ?_; clear hS a; intro a hS
  refine q_seq hS rfl rfl rfl (y_assign hS rfl) ?_; clear hS a; intro a hS
  apply wpList_nil
  refine p_norm ?_
  apply wp_seq
  rcases Decidable.em (r1.2 = 0) with hs16 | hs16
  · have hs16e : decide (r1.2 = 0) = true := decide_eq_true hs16
    replace hg := br_t hg hs16
    replace hg := bind_some hg; obtain ⟨r18, hr18, hg⟩ := hg
    rcases Bool.eq_false_or_eq_true (r18) with hs21 | hs21
    · replace hg := br_t hg hs21
      rcases Decidable.em (r6.2 = 8) with hs22 | hs22
      · have hs22e : decide (r6.2 = 8) = true := decide_eq_true hs22
        replace hg := br_t hg hs22
        rcases Decidable.em (r11.2 = 1) with hs23 | hs23
        · have hs23e : decide (r11.2 = 1) = true := decide_eq_true hs23
          replace hg := br_t hg hs23
          replace hg := bind_some hg; obtain ⟨r24, hr24, hg⟩ := hg
          rcases Decidable.em ((r24 : List UInt8) = [116, 104, 101, 32, 100, 111, 103, 32, 44, 32, 105, 116, 32, 98, 97, 114, 107, 115, 32, 46]) with hs27 | hs27
          · have hs27e : decide ((r24 : List UInt8) = [116, 104, 101, 32, 100, 111, 103, 32, 44, 32, 105, 116, 32, 98, 97, 114, 107, 115, 32, 46]) = true := decide_eq_true hs27
            replace hg := br_t hg hs27
            replace hg := bind_some hg; obtain ⟨r29, hr29, hg⟩ := hg
            rcases Decidable.em (r29 = 0) with hs32 | hs32
            · have hs32e : decide (r29 = 0) = true := decide_eq_true hs32
              replace hg := br_t hg hs32
              replace hg := bind_some hg; obtain ⟨r33, hr33, hg⟩ := hg
              apply wp_region_lit
              refine q_seq hS rfl rfl rfl (y_move hS rfl) ?_; clear hS a; intro a hS
              refine q_seq hS rfl rfl rfl (yl_b (y_eql hS rfl rfl) hs16e) ?_; clear hS a; intro a hS
              refine q_seq hS rfl rfl rfl (y_move hS rfl) ?_; clear hS a; intro a hS
              refine g_yes hS rfl rfl rfl rfl (l_quiet hS rfl rfl (y_move hS rfl) ?_); clear hS a; intro a hS
              refine g_yes hS rfl rfl rfl rfl (l_buildDense (sz := 1) hS 1404 rfl rfl rfl Try.underlying23 rfl rfl rfl rfl rfl rfl rfl ?_); clear hS a; intro b36 a w hbb36 hK hS
              clear hbb36
              clear hK
              replace hS := hS.add 111 (rdF Rep.str (cellsOfL [.string (bs ([116, 104, 101])), .string (bs ([100, 111, 103])), .string (bs ([44])), .string (bs ([105, 116])), .string (bs ([98, 97, 114, 107, 115])), .string (bs ([46]))]) ([[116, 104, 101], [100, 111, 103], [44], [105, 116], [98, 97, 114, 107, 115], [46]])) (RdAll.cons (by exact ⟨rfl, (by first | omega | (rw [List.length_append]; omega) | (simp only [List.length_append]; omega) | (simp only [List.length_append, List.length_take, List.length_drop, List.length_cons, List.length_nil]; omega))⟩) (RdAll.cons (by exact ⟨rfl, (by first | omega | (rw [List.length_append]; omega) | (simp only [List.length_append]; omega) | (simp only [List.length_append, List.length_take, List.length_drop, List.length_cons, List.length_nil]; omega))⟩) (RdAll.cons (by exact ⟨rfl, (by first | omega | (rw [List.length_append]; omega) | (simp only [List.length_append]; omega) | (simp only [List.length_append, List.length_take, List.length_drop, List.length_cons, List.length_nil]; omega))⟩) (RdAll.cons (by exact ⟨rfl, (by first | omega | (rw [List.length_append]; omega) | (simp only [List.length_append]; omega) | (simp only [List.length_append, List.length_take, List.length_drop, List.length_cons, List.length_nil]; omega))⟩) (RdAll.cons (by exact ⟨rfl, (by first | omega | (rw [List.length_append]; omega) | (simp only [List.length_append]; omega) | (simp only [List.length_append, List.length_take, List.length_drop, List.length_cons, List.length_nil]; omega))⟩) (RdAll.cons (by exact ⟨rfl, (by first | omega | (rw [List.length_append]; omega) | (simp only [List.length_append]; omega) | (simp only [List.length_append, List.length_take, List.length_drop, List.length_cons, List.length_nil]; omega))⟩) (RdAll.nil _ _ _)))))))
              have hT := hS
              replace hT := hT.freeze (R := Rep.str) (kk := 1404) (L' := []) 112 rfl rfl (hT.fact (k := 111) rfl) trivial rfl
              refine g_yes hS rfl rfl rfl rfl (l_call (cap := []) hS rfl Try.func12 rfl (by kernel_rfl) rfl rfl (c_r01_Same n _ _ hT.lt r1.1 (Au5a1) (cu5a1) (hT.fact (k := 102) rfl) [[116, 104, 101], [100, 111, 103], [44], [105, 116], [98, 97, 114, 107, 115], [46]] (some ⟨b36, 0, none⟩) (6) (hT.fact (k := 112) rfl) r18 hr18) ?_); clear hS hT a; intro v37 a w hK hp hS
              clear hK
              obtain rfl := hp.trans (congrArg Value.bool hs21)
              refine q_seq hS rfl rfl rfl (y_pick_t hS rfl rfl) ?_; clear hS a; intro a hS
              refine q_seq hS rfl rfl rfl (y_move hS rfl) ?_; clear hS a; intro a hS
              refine g_yes hS rfl rfl rfl rfl (l_quiet hS rfl rfl (y_move hS rfl) ?_); clear hS a; intro a hS
              refine g_yes hS rfl rfl rfl rfl (l_quiet hS rfl rfl (yl_b (y_eql hS rfl rfl) hs22e) ?_); clear hS a; intro a hS
              refine q_seq hS rfl rfl rfl (y_pick_t hS rfl rfl) ?_; clear hS a; intro a hS
              refine q_seq hS rfl rfl rfl (y_move hS rfl) ?_; clear hS a; intro a hS
              refine g_yes hS rfl rfl rfl rfl (l_quiet hS rfl rfl (y_move hS rfl) ?_); clear hS a; intro a hS
              refine g_yes hS rfl rfl rfl rfl (l_quiet hS rfl rfl (yl_b (y_eql hS rfl rfl) hs23e) ?_); clear hS a; intro a hS
              refine q_seq hS rfl rfl rfl (y_pick_t hS rfl rfl) ?_; clear hS a; intro a hS
              refine q_seq hS rfl rfl rfl (y_move hS rfl) ?_; clear hS a; intro a hS
              refine g_yes hS rfl rfl rfl rfl (l_quiet hS rfl rfl (y_move hS rfl) ?_); clear hS a; intro a hS
              refine g_yes hS rfl rfl rfl rfl (l_call (cap := []) hS rfl Try.func14 rfl (by kernel_rfl) rfl rfl (c_token_Join n _ _ hS.lt r1.1 (Au5a1) (cu5a1) (hS.fact (k := 102) rfl) r24 hr24) ?_); clear hS a; intro v39 a w hK hp hS
              clear hK
              obtain ⟨rfl, lu40a1⟩ := hp
              refine g_yes hS rfl rfl rfl rfl (l_quiet hS rfl rfl (yl_b (y_seq hS rfl rfl) hs27e) ?_); clear hS a; intro a hS
              refine q_seq hS rfl rfl rfl (y_pick_t hS rfl rfl) ?_; clear hS a; intro a hS
              refine q_seq hS rfl rfl rfl (y_move hS rfl) ?_; clear hS a; intro a hS
              refine g_yes hS rfl rfl rfl rfl (l_buildDense (sz := 1) hS 1421 rfl rfl rfl Try.underlying23 rfl rfl rfl rfl rfl rfl rfl ?_); clear hS a; intro b41 a w hbb41 hK hS
              clear hbb41
              clear hK
              replace hS := hS.add 113 (rdF Rep.str (cellsOfL [.string (bs ([97, 46, 98]))]) ([[97, 46, 98]])) (RdAll.cons (by exact ⟨rfl, (by first | omega | (rw [List.length_append]; omega) | (simp only [List.length_append]; omega) | (simp only [List.length_append, List.length_take, List.length_drop, List.length_cons, List.length_nil]; omega))⟩) (RdAll.nil _ _ _))
              have hT := hS
              replace hT := hT.freeze (R := Rep.str) (kk := 1421) (L' := [(1404, Ob.row (some ⟨b36, 0, none⟩) (6) (6) 9 1 (cellsOfL [.string (bs ([116, 104, 101])), .string (bs ([100, 111, 103])), .string (bs ([44])), .string (bs ([105, 116])), .string (bs ([98, 97, 114, 107, 115])), .string (bs ([46]))]))]) 114 rfl rfl (hT.fact (k := 113) rfl) ⟨rfl, trivial⟩ rfl
              refine g_yes hS rfl rfl rfl rfl (l_call (cap := []) hS rfl Try.func16 rfl (by kernel_rfl) rfl rfl (c_token_Check n _ _ hT.lt [[97, 46, 98]] (some ⟨b41, 0, none⟩) (1) (hT.fact (k := 114) rfl) r29 hr29) ?_); clear hS hT a; intro v42 a w hK hp hS
              clear hK
              obtain rfl := hp
              refine g_yes hS rfl rfl rfl rfl (l_quiet hS rfl rfl (yl_b (y_eql hS rfl rfl) hs32e) ?_); clear hS a; intro a hS
              refine q_seq hS rfl rfl rfl (y_pick_t hS rfl rfl) ?_; clear hS a; intro a hS
              refine q_seq hS rfl rfl rfl (y_move hS rfl) ?_; clear hS a; intro a hS
              refine g_yes hS rfl rfl rfl rfl (l_call (cap := []) hS rfl Try.func16 rfl (by kernel_rfl) rfl rfl (c_token_Check n _ _ hS.lt [] (none) (0) (SlR.nil_ _ _ _) r33 hr33) ?_); clear hS a; intro v44 a w hK hp hS
              clear hK
              obtain rfl := hp
              refine g_yes hS rfl rfl rfl rfl (l_quiet hS rfl rfl (y_eql hS rfl rfl) ?_); clear hS a; intro a hS
              refine q_seq hS rfl rfl rfl (y_pick_t hS rfl rfl) ?_; clear hS a; intro a hS
              refine q_seq hS rfl rfl rfl (y_assign hS rfl) ?_; clear hS a; intro a hS
              apply wpList_nil
              refine p_norm ?_
              apply wp_ret
              obtain rfl := Option.some.inj hg
              refine fin1 (fn := Try.f9) hS rfl (r_tmp hS rfl) ?_
              exact rfl
            · have hs32e : decide (r29 = 0) = false := decide_eq_false hs32
              replace hg := br_f hg hs32
              apply wp_region_lit
              refine q_seq hS rfl rfl rfl (y_move hS rfl) ?_; clear hS a; intro a hS
              refine q_seq hS rfl rfl rfl (yl_b (y_eql hS rfl rfl) hs16e) ?_; clear hS a; intro a hS
              refine q_seq hS rfl rfl rfl (y_move hS rfl) ?_; clear hS a; intro a hS
              refine g_yes hS rfl rfl rfl rfl (l_quiet hS rfl rfl (y_move hS rfl) ?_); clear hS a; intro a hS
              refine g_yes hS rfl rfl rfl rfl (l_buildDense (sz := 1) hS 1404 rfl rfl rfl Try.underlying23 rfl rfl rfl rfl rfl rfl rfl ?_); clear hS a; intro b46 a w hbb46 hK hS
              clear hbb46
              clear hK
              replace hS := hS.add 115 (rdF Rep.str (cellsOfL [.string (bs ([116, 104, 101])), .string (bs ([100, 111, 103])), .string (bs ([44])), .string (bs ([105, 116])), .string (bs ([98, 97, 114, 107, 115])), .string (bs ([46]))]) ([[116, 104, 101], [100, 111, 103], [44], [105, 116], [98, 97, 114, 107, 115], [46]])) (RdAll.cons (by exact ⟨rfl, (by first | omega | (rw [List.length_append]; omega) | (simp only [List.length_append]; omega) | (simp only [List.length_append, List.length_take, List.length_drop, List.length_cons, List.length_nil]; omega))⟩) (RdAll.cons (by exact ⟨rfl, (by first | omega | (rw [List.length_append]; omega) | (simp only [List.length_append]; omega) | (simp only [List.length_append, List.length_take, List.length_drop, List.length_cons, List.length_nil]; omega))⟩) (RdAll.cons (by exact ⟨rfl, (by first | omega | (rw [List.length_append]; omega) | (simp only [List.length_append]; omega) | (simp only [List.length_append, List.length_take, List.length_drop, List.length_cons, List.length_nil]; omega))⟩) (RdAll.cons (by exact ⟨rfl, (by first | omega | (rw [List.length_append]; omega) | (simp only [List.length_append]; omega) | (simp only [List.length_append, List.length_take, List.length_drop, List.length_cons, List.length_nil]; omega))⟩) (RdAll.cons (by exact ⟨rfl, (by first | omega | (rw [List.length_append]; omega) | (simp only [List.length_append]; omega) | (simp only [List.length_append, List.length_take, List.length_drop, List.length_cons, List.length_nil]; omega))⟩) (RdAll.cons (by exact ⟨rfl, (by first | omega | (rw [List.length_append]; omega) | (simp only [List.length_append]; omega) | (simp only [List.length_append, List.length_take, List.length_drop, List.length_cons, List.length_nil]; omega))⟩) (RdAll.nil _ _ _)))))))
              have hT := hS
              replace hT := hT.freeze (R := Rep.str) (kk := 1404) (L' := []) 116 rfl rfl (hT.fact (k := 115) rfl) trivial rfl
              refine g_yes hS rfl rfl rfl rfl (l_call (cap := []) hS rfl Try.func12 rfl (by kernel_rfl) rfl rfl (c_r01_Same n _ _ hT.lt r1.1 (Au5a1) (cu5a1) (hT.fact (k := 102) rfl) [[116, 104, 101], [100, 111, 103], [44], [105, 116], [98, 97, 114, 107, 115], [46]] (some ⟨b46, 0, none⟩) (6) (hT.fact (k := 116) rfl) r18 hr18) ?_); clear hS hT a; intro v47 a w hK hp hS
              clear hK
              obtain rfl := hp.trans (congrArg Value.bool hs21)
              refine q_seq hS rfl rfl rfl (y_pick_t hS rfl rfl) ?_; clear hS a; intro a hS
              refine q_seq hS rfl rfl rfl (y_move hS rfl) ?_; clear hS a; intro a hS
              refine g_yes hS rfl rfl rfl rfl (l_quiet hS rfl rfl (y_move hS rfl) ?_); clear hS a; intro a hS
              refine g_yes hS rfl rfl rfl rfl (l_quiet hS rfl rfl (yl_b (y_eql hS rfl rfl) hs22e) ?_); clear hS a; intro a hS
              refine q_seq hS rfl rfl rfl (y_pick_t hS rfl rfl) ?_; clear hS a; intro a hS
              refine q_seq hS rfl rfl rfl (y_move hS rfl) ?_; clear hS a; intro a hS
              refine g_yes hS rfl rfl rfl rfl (l_quiet hS rfl rfl (y_move hS rfl) ?_); clear hS a; intro a hS
              refine g_yes hS rfl rfl rfl rfl (l_quiet hS rfl rfl (yl_b (y_eql hS rfl rfl) hs23e) ?_); clear hS a; intro a hS
              refine q_seq hS rfl rfl rfl (y_pick_t hS rfl rfl) ?_; clear hS a; intro a hS
              refine q_seq hS rfl rfl rfl (y_move hS rfl) ?_; clear hS a; intro a hS
              refine g_yes hS rfl rfl rfl rfl (l_quiet hS rfl rfl (y_move hS rfl) ?_); clear hS a; intro a hS
              refine g_yes hS rfl rfl rfl rfl (l_call (cap := []) hS rfl Try.func14 rfl (by kernel_rfl) rfl rfl (c_token_Join n _ _ hS.lt r1.1 (Au5a1) (cu5a1) (hS.fact (k := 102) rfl) r24 hr24) ?_); clear hS a; intro v49 a w hK hp hS
              clear hK
              obtain ⟨rfl, lu50a1⟩ := hp
              refine g_yes hS rfl rfl rfl rfl (l_quiet hS rfl rfl (yl_b (y_seq hS rfl rfl) hs27e) ?_); clear hS a; intro a hS
              refine q_seq hS rfl rfl rfl (y_pick_t hS rfl rfl) ?_; clear hS a; intro a hS
              refine q_seq hS rfl rfl rfl (y_move hS rfl) ?_; clear hS a; intro a hS
              refine g_yes hS rfl rfl rfl rfl (l_buildDense (sz := 1) hS 1421 rfl rfl rfl Try.underlying23 rfl rfl rfl rfl rfl rfl rfl ?_); clear hS a; intro b51 a w hbb51 hK hS
              clear hbb51
              clear hK
              replace hS := hS.add 117 (rdF Rep.str (cellsOfL [.string (bs ([97, 46, 98]))]) ([[97, 46, 98]])) (RdAll.cons (by exact ⟨rfl, (by first | omega | (rw [List.length_append]; omega) | (simp only [List.length_append]; omega) | (simp only [List.length_append, List.length_take, List.length_drop, List.length_cons, List.length_nil]; omega))⟩) (RdAll.nil _ _ _))
              have hT := hS
              replace hT := hT.freeze (R := Rep.str) (kk := 1421) (L' := [(1404, Ob.row (some ⟨b46, 0, none⟩) (6) (6) 9 1 (cellsOfL [.string (bs ([116, 104, 101])), .string (bs ([100, 111, 103])), .string (bs ([44])), .string (bs ([105, 116])), .string (bs ([98, 97, 114, 107, 115])), .string (bs ([46]))]))]) 118 rfl rfl (hT.fact (k := 117) rfl) ⟨rfl, trivial⟩ rfl
              refine g_yes hS rfl rfl rfl rfl (l_call (cap := []) hS rfl Try.func16 rfl (by kernel_rfl) rfl rfl (c_token_Check n _ _ hT.lt [[97, 46, 98]] (some ⟨b51, 0, none⟩) (1) (hT.fact (k := 118) rfl) r29 hr29) ?_); clear hS hT a; intro v52 a w hK hp hS
              clear hK
              obtain rfl := hp
              refine g_yes hS rfl rfl rfl rfl (l_quiet hS rfl rfl (yl_b (y_eql hS rfl rfl) hs32e) ?_); clear hS a; intro a hS
              refine q_seq hS rfl rfl rfl (y_pick_t hS rfl rfl) ?_; clear hS a; intro a hS
              refine q_seq hS rfl rfl rfl (y_move hS rfl) ?_; clear hS a; intro a hS
              refine g_no hS rfl rfl rfl rfl rfl rfl rfl ?_; clear hS a; intro a hS
              refine g_no hS rfl rfl rfl rfl rfl rfl rfl ?_; clear hS a; intro a hS
              refine q_seq hS rfl rfl rfl (y_pick_f hS rfl rfl) ?_; clear hS a; intro a hS
              refine q_seq hS rfl rfl rfl (y_assign hS rfl) ?_; clear hS a; intro a hS
              apply wpList_nil
              refine p_norm ?_
              apply wp_ret
              obtain rfl := Option.some.inj hg
              refine fin1 (fn := Try.f9) hS rfl (r_tmp hS rfl) ?_
              exact rfl
          · have hs27e : decide ((r24 : List UInt8) = [116, 104, 101, 32, 100, 111, 103, 32, 44, 32, 105, 116, 32, 98, 97, 114, 107, 115, 32, 46]) = false := decide_eq_false hs27
            replace hg := br_f hg hs27
            apply wp_region_lit
            refine q_seq hS rfl rfl rfl (y_move hS rfl) ?_; clear hS a; intro a hS
            refine q_seq hS rfl rfl rfl (yl_b (y_eql hS rfl rfl) hs16e) ?_; clear hS a; intro a hS
            refine q_seq hS rfl rfl rfl (y_move hS rfl) ?_; clear hS a; intro a hS
            refine g_yes hS rfl rfl rfl rfl (l_quiet hS rfl rfl (y_move hS rfl) ?_); clear hS a; intro a hS
            refine g_yes hS rfl rfl rfl rfl (l_buildDense (sz := 1) hS 1404 rfl rfl rfl Try.underlying23 rfl rfl rfl rfl rfl rfl rfl ?_); clear hS a; intro b54 a w hbb54 hK hS
            clear hbb54
            clear hK
            replace hS := hS.add 119 (rdF Rep.str (cellsOfL [.string (bs ([116, 104, 101])), .string (bs ([100, 111, 103])), .string (bs ([44])), .string (bs ([105, 116])), .string (bs ([98, 97, 114, 107, 115])), .string (bs ([46]))]) ([[116, 104, 101], [100, 111, 103], [44], [105, 116], [98, 97, 114, 107, 115], [46]])) (RdAll.cons (by exact ⟨rfl, (by first | omega | (rw [List.length_append]; omega) | (simp only [List.length_append]; omega) | (simp only [List.length_append, List.length_take, List.length_drop, List.length_cons, List.length_nil]; omega))⟩) (RdAll.cons (by exact ⟨rfl, (by first | omega | (rw [List.length_append]; omega) | (simp only [List.length_append]; omega) | (simp only [List.length_append, List.length_take, List.length_drop, List.length_cons, List.length_nil]; omega))⟩) (RdAll.cons (by exact ⟨rfl, (by first | omega | (rw [List.length_append]; omega) | (simp only [List.length_append]; omega) | (simp only [List.length_append, List.length_take, List.length_drop, List.length_cons, List.length_nil]; omega))⟩) (RdAll.cons (by exact ⟨rfl, (by first | omega | (rw [List.length_append]; omega) | (simp only [List.length_append]; omega) | (simp only [List.length_append, List.length_take, List.length_drop, List.length_cons, List.length_nil]; omega))⟩) (RdAll.cons (by exact ⟨rfl, (by first | omega | (rw [List.length_append]; omega) | (simp only [List.length_append]; omega) | (simp only [List.length_append, List.length_take, List.length_drop, List.length_cons, List.length_nil]; omega))⟩) (RdAll.cons (by exact ⟨rfl, (by first | omega | (rw [List.length_append]; omega) | (simp only [List.length_append]; omega) | (simp only [List.length_append, List.length_take, List.length_drop, List.length_cons, List.length_nil]; omega))⟩) (RdAll.nil _ _ _)))))))
            have hT := hS
            replace hT := hT.freeze (R := Rep.str) (kk := 1404) (L' := []) 120 rfl rfl (hT.fact (k := 119) rfl) trivial rfl
            refine g_yes hS rfl rfl rfl rfl (l_call (cap := []) hS rfl Try.func12 rfl (by kernel_rfl) rfl rfl (c_r01_Same n _ _ hT.lt r1.1 (Au5a1) (cu5a1) (hT.fact (k := 102) rfl) [[116, 104, 101], [100, 111, 103], [44], [105, 116], [98, 97, 114, 107, 115], [46]] (some ⟨b54, 0, none⟩) (6) (hT.fact (k := 120) rfl) r18 hr18) ?_); clear hS hT a; intro v55 a w hK hp hS
            clear hK
            obtain rfl := hp.trans (congrArg Value.bool hs21)
            refine q_seq hS rfl rfl rfl (y_pick_t hS rfl rfl) ?_; clear hS a; intro a hS
            refine q_seq hS rfl rfl rfl (y_move hS rfl) ?_; clear hS a; intro a hS
            refine g_yes hS rfl rfl rfl rfl (l_quiet hS rfl rfl (y_move hS rfl) ?_); clear hS a; intro a hS
            refine g_yes hS rfl rfl rfl rfl (l_quiet hS rfl rfl (yl_b (y_eql hS rfl rfl) hs22e) ?_); clear hS a; intro a hS
            refine q_seq hS rfl rfl rfl (y_pick_t hS rfl rfl) ?_; clear hS a; intro a hS
            refine q_seq hS rfl rfl rfl (y_move hS rfl) ?_; clear hS a; intro a hS
            refine g_yes hS rfl rfl rfl rfl (l_quiet hS rfl rfl (y_move hS rfl) ?_); clear hS a; intro a hS
            refine g_yes hS rfl rfl rfl rfl (l_quiet hS rfl rfl (yl_b (y_eql hS rfl rfl) hs23e) ?_); clear hS a; intro a hS
            refine q_seq hS rfl rfl rfl (y_pick_t hS rfl rfl) ?_; clear hS a; intro a hS
            refine q_seq hS rfl rfl rfl (y_move hS rfl) ?_; clear hS a; intro a hS
            refine g_yes hS rfl rfl rfl rfl (l_quiet hS rfl rfl (y_move hS rfl) ?_); clear hS a; intro a hS
            refine g_yes hS rfl rfl rfl rfl (l_call (cap := []) hS rfl Try.func14 rfl (by kernel_rfl) rfl rfl (c_token_Join n _ _ hS.lt r1.1 (Au5a1) (cu5a1) (hS.fact (k := 102) rfl) r24 hr24) ?_); clear hS a; intro v57 a w hK hp hS
            clear hK
            obtain ⟨rfl, lu58a1⟩ := hp
            refine g_yes hS rfl rfl rfl rfl (l_quiet hS rfl rfl (yl_b (y_seq hS rfl rfl) hs27e) ?_); clear hS a; intro a hS
            refine q_seq hS rfl rfl rfl (y_pick_t hS rfl rfl) ?_; clear hS a; intro a hS
            refine q_seq hS rfl rfl rfl (y_move hS rfl) ?_; clear hS a; intro a hS
            refine g_no hS rfl rfl rfl rfl rfl rfl rfl ?_; clear hS a; intro a hS
            refine g_no hS rfl rfl rfl rfl rfl rfl rfl ?_; clear hS a; intro a hS
            refine g_no hS rfl rfl rfl rfl rfl rfl rfl ?_; clear hS a; intro a hS
            refine q_seq hS rfl rfl rfl (y_pick_f hS rfl rfl) ?_; clear hS a; intro a hS
            refine q_seq hS rfl rfl rfl (y_move hS rfl) ?_; clear hS a; intro a hS
            refine g_no hS rfl rfl rfl rfl rfl rfl rfl ?_; clear hS a; intro a hS
            refine g_no hS rfl rfl rfl rfl rfl rfl rfl ?_; clear hS a; intro a hS
            refine q_seq hS rfl rfl rfl (y_pick_f hS rfl rfl) ?_; clear hS a; intro a hS
            refine q_seq hS rfl rfl rfl (y_assign hS rfl) ?_; clear hS a; intro a hS
            apply wpList_nil
            refine p_norm ?_
            apply wp_ret
            obtain rfl := Option.some.inj hg
            refine fin1 (fn := Try.f9) hS rfl (r_tmp hS rfl) ?_
            exact rfl
        · have hs23e : decide (r11.2 = 1) = false := decide_eq_false hs23
          replace hg := br_f hg hs23
          apply wp_region_lit
          refine q_seq hS rfl rfl rfl (y_move hS rfl) ?_; clear hS a; intro a hS
          refine q_seq hS rfl rfl rfl (yl_b (y_eql hS rfl rfl) hs16e) ?_; clear hS a; intro a hS
          refine q_seq hS rfl rfl rfl (y_move hS rfl) ?_; clear hS a; intro a hS
          refine g_yes hS rfl rfl rfl rfl (l_quiet hS rfl rfl (y_move hS rfl) ?_); clear hS a; intro a hS
          refine g_yes hS rfl rfl rfl rfl (l_buildDense (sz := 1) hS 1404 rfl rfl rfl Try.underlying23 rfl rfl rfl rfl rfl rfl rfl ?_); clear hS a; intro b59 a w hbb59 hK hS
          clear hbb59
          clear hK
          replace hS := hS.add 121 (rdF Rep.str (cellsOfL [.string (bs ([116, 104, 101])), .string (bs ([100, 111, 103])), .string (bs ([44])), .string (bs ([105, 116])), .string (bs ([98, 97, 114, 107, 115])), .string (bs ([46]))]) ([[116, 104, 101], [100, 111, 103], [44], [105, 116], [98, 97, 114, 107, 115], [46]])) (RdAll.cons (by exact ⟨rfl, (by first | omega | (rw [List.length_append]; omega) | (simp only [List.length_append]; omega) | (simp only [List.length_append, List.length_take, List.length_drop, List.length_cons, List.length_nil]; omega))⟩) (RdAll.cons (by exact ⟨rfl, (by first | omega | (rw [List.length_append]; omega) | (simp only [List.length_append]; omega) | (simp only [List.length_append, List.length_take, List.length_drop, List.length_cons, List.length_nil]; omega))⟩) (RdAll.cons (by exact ⟨rfl, (by first | omega | (rw [List.length_append]; omega) | (simp only [List.length_append]; omega) | (simp only [List.length_append, List.length_take, List.length_drop, List.length_cons, List.length_nil]; omega))⟩) (RdAll.cons (by exact ⟨rfl, (by first | omega | (rw [List.length_append]; omega) | (simp only [List.length_append]; omega) | (simp only [List.length_append, List.length_take, List.length_drop, List.length_cons, List.length_nil]; omega))⟩) (RdAll.cons (by exact ⟨rfl, (by first | omega | (rw [List.length_append]; omega) | (simp only [List.length_append]; omega) | (simp only [List.length_append, List.length_take, List.length_drop, List.length_cons, List.length_nil]; omega))⟩) (RdAll.cons (by exact ⟨rfl, (by first | omega | (rw [List.length_append]; omega) | (simp only [List.length_append]; omega) | (simp only [List.length_append, List.length_take, List.length_drop, List.length_cons, List.length_nil]; omega))⟩) (RdAll.nil _ _ _)))))))
          have hT := hS
          replace hT := hT.freeze (R := Rep.str) (kk := 1404) (L' := []) 122 rfl rfl (hT.fact (k := 121) rfl) trivial rfl
          refine g_yes hS rfl rfl rfl rfl (l_call (cap := []) hS rfl Try.func12 rfl (by kernel_rfl) rfl rfl (c_r01_Same n _ _ hT.lt r1.1 (Au5a1) (cu5a1) (hT.fact (k := 102) rfl) [[116, 104, 101], [100, 111, 103], [44], [105, 116], [98, 97, 114, 107, 115], [46]] (some ⟨b59, 0, none⟩) (6) (hT.fact (k := 122) rfl) r18 hr18) ?_); clear hS hT a; intro v60 a w hK hp hS
          clear hK
          obtain rfl := hp.trans (congrArg Value.bool hs21)
          refine q_seq hS rfl rfl rfl (y_pick_t hS rfl rfl) ?_; clear hS a; intro a hS
          refine q_seq hS rfl rfl rfl (y_move hS rfl) ?_; clear hS a; intro a hS
          refine g_yes hS rfl rfl rfl rfl (l_quiet hS rfl rfl (y_move hS rfl) ?_); clear hS a; intro a hS
          refine g_yes hS rfl rfl rfl rfl (l_quiet hS rfl rfl (yl_b (y_eql hS rfl rfl) hs22e) ?_); clear hS a; intro a hS
          refine q_seq hS rfl rfl rfl (y_pick_t hS rfl rfl) ?_; clear hS a; intro a hS
          refine q_seq hS rfl rfl rfl (y_move hS rfl) ?_; clear hS a; intro a hS
          refine g_yes hS rfl rfl rfl rfl (l_quiet hS rfl rfl (y_move hS rfl) ?_); clear hS a; intro a hS
          refine g_yes hS rfl rfl rfl rfl (l_quiet hS rfl rfl (yl_b (y_eql hS rfl rfl) hs23e) ?_); clear hS a; intro a hS
          refine q_seq hS rfl rfl rfl (y_pick_t hS rfl rfl) ?_; clear hS a; intro a hS
          refine q_seq hS rfl rfl rfl (y_move hS rfl) ?_; clear hS a; intro a hS
          refine g_no hS rfl rfl rfl rfl rfl rfl rfl ?_; clear hS a; intro a hS
          refine g_no hS rfl rfl rfl rfl rfl rfl rfl ?_; clear hS a; intro a hS
          refine g_no hS rfl rfl rfl rfl rfl rfl rfl ?_; clear hS a; intro a hS
          refine q_seq hS rfl rfl rfl (y_pick_f hS rfl rfl) ?_; clear hS a; intro a hS
          refine q_seq hS rfl rfl rfl (y_move hS rfl) ?_; clear hS a; intro a hS
          refine g_no hS rfl rfl rfl rfl rfl rfl rfl ?_; clear hS a; intro a hS
          refine g_no hS rfl rfl rfl rfl rfl rfl rfl ?_; clear hS a; intro a hS
          refine g_no hS rfl rfl rfl rfl rfl rfl rfl ?_; clear hS a; intro a hS
          refine q_seq hS rfl rfl rfl (y_pick_f hS rfl rfl) ?_; clear hS a; intro a hS
          refine q_seq hS rfl rfl rfl (y_move hS rfl) ?_; clear hS a; intro a hS
          refine g_no hS rfl rfl rfl rfl rfl rfl rfl ?_; clear hS a; intro a hS
          refine g_no hS rfl rfl rfl rfl rfl rfl rfl ?_; clear hS a; intro a hS
          refine q_seq hS rfl rfl rfl (y_pick_f hS rfl rfl) ?_; clear hS a; intro a hS
          refine q_seq hS rfl rfl rfl (y_assign hS rfl) ?_; clear hS a; intro a hS
          apply wpList_nil
          refine p_norm ?_
          apply wp_ret
          obtain rfl := Option.some.inj hg
          refine fin1 (fn := Try.f9) hS rfl (r_tmp hS rfl) ?_
          exact rfl
      · have hs22e : decide (r6.2 = 8) = false := decide_eq_false hs22
        replace hg := br_f hg hs22
        apply wp_region_lit
        refine q_seq hS rfl rfl rfl (y_move hS rfl) ?_; clear hS a; intro a hS
        refine q_seq hS rfl rfl rfl (yl_b (y_eql hS rfl rfl) hs16e) ?_; clear hS a; intro a hS
        refine q_seq hS rfl rfl rfl (y_move hS rfl) ?_; clear hS a; intro a hS
        refine g_yes hS rfl rfl rfl rfl (l_quiet hS rfl rfl (y_move hS rfl) ?_); clear hS a; intro a hS
        refine g_yes hS rfl rfl rfl rfl (l_buildDense (sz := 1) hS 1404 rfl rfl rfl Try.underlying23 rfl rfl rfl rfl rfl rfl rfl ?_); clear hS a; intro b62 a w hbb62 hK hS
        clear hbb62
        clear hK
        replace hS := hS.add 123 (rdF Rep.str (cellsOfL [.string (bs ([116, 104, 101])), .string (bs ([100, 111, 103])), .string (bs ([44])), .string (bs ([105, 116])), .string (bs ([98, 97, 114, 107, 115])), .string (bs ([46]))]) ([[116, 104, 101], [100, 111, 103], [44], [105, 116], [98, 97, 114, 107, 115], [46]])) (RdAll.cons (by exact ⟨rfl, (by first | omega | (rw [List.length_append]; omega) | (simp only [List.length_append]; omega) | (simp only [List.length_append, List.length_take, List.length_drop, List.length_cons, List.length_nil]; omega))⟩) (RdAll.cons (by exact ⟨rfl, (by first | omega | (rw [List.length_append]; omega) | (simp only [List.length_append]; omega) | (simp only [List.length_append, List.length_take, List.length_drop, List.length_cons, List.length_nil]; omega))⟩) (RdAll.cons (by exact ⟨rfl, (by first | omega | (rw [List.length_append]; omega) | (simp only [List.length_append]; omega) | (simp only [List.length_append, List.length_take, List.length_drop, List.length_cons, List.length_nil]; omega))⟩) (RdAll.cons (by exact ⟨rfl, (by first | omega | (rw [List.length_append]; omega) | (simp only [List.length_append]; omega) | (simp only [List.length_append, List.length_take, List.length_drop, List.length_cons, List.length_nil]; omega))⟩) (RdAll.cons (by exact ⟨rfl, (by first | omega | (rw [List.length_append]; omega) | (simp only [List.length_append]; omega) | (simp only [List.length_append, List.length_take, List.length_drop, List.length_cons, List.length_nil]; omega))⟩) (RdAll.cons (by exact ⟨rfl, (by first | omega | (rw [List.length_append]; omega) | (simp only [List.length_append]; omega) | (simp only [List.length_append, List.length_take, List.length_drop, List.length_cons, List.length_nil]; omega))⟩) (RdAll.nil _ _ _)))))))
        have hT := hS
        replace hT := hT.freeze (R := Rep.str) (kk := 1404) (L' := []) 124 rfl rfl (hT.fact (k := 123) rfl) trivial rfl
        refine g_yes hS rfl rfl rfl rfl (l_call (cap := []) hS rfl Try.func12 rfl (by kernel_rfl) rfl rfl (c_r01_Same n _ _ hT.lt r1.1 (Au5a1) (cu5a1) (hT.fact (k := 102) rfl) [[116, 104, 101], [100, 111, 103], [44], [105, 116], [98, 97, 114, 107, 115], [46]] (some ⟨b62, 0, none⟩) (6) (hT.fact (k := 124) rfl) r18 hr18) ?_); clear hS hT a; intro v63 a w hK hp hS
        clear hK
        obtain rfl := hp.trans (congrArg Value.bool hs21)
        refine q_seq hS rfl rfl rfl (y_pick_t hS rfl rfl) ?_; clear hS a; intro a hS
        refine q_seq hS rfl rfl rfl (y_move hS rfl) ?_; clear hS a; intro a hS
        refine g_yes hS rfl rfl rfl rfl (l_quiet hS rfl rfl (y_move hS rfl) ?_); clear hS a; intro a hS
        refine g_yes hS rfl rfl rfl rfl (l_quiet hS rfl rfl (yl_b (y_eql hS rfl rfl) hs22e) ?_); clear hS a; intro a hS
        refine q_seq hS rfl rfl rfl (y_pick_t hS rfl rfl) ?_; clear hS a; intro a hS
        refine q_seq hS rfl rfl rfl (y_move hS rfl) ?_; clear hS a; intro a hS
        refine g_no hS rfl rfl rfl rfl rfl rfl rfl ?_; clear hS a; intro a hS
        refine g_no hS rfl rfl rfl rfl rfl rfl rfl ?_; clear hS a; intro a hS
        refine q_seq hS rfl rfl rfl (y_pick_f hS rfl rfl) ?_; clear hS a; intro a hS
        refine q_seq hS rfl rfl rfl (y_move hS rfl) ?_; clear hS a; intro a hS
        refine g_no hS rfl rfl rfl rfl rfl rfl rfl ?_; clear hS a; intro a hS
        refine g_no hS rfl rfl rfl rfl rfl rfl rfl ?_; clear hS a; intro a hS
        refine g_no hS rfl rfl rfl rfl rfl rfl rfl ?_; clear hS a; intro a hS
        refine q_seq hS rfl rfl rfl (y_pick_f hS rfl rfl) ?_; clear hS a; intro a hS
        refine q_seq hS rfl rfl rfl (y_move hS rfl) ?_; clear hS a; intro a hS
        refine g_no hS rfl rfl rfl rfl rfl rfl rfl ?_; clear hS a; intro a hS
        refine g_no hS rfl rfl rfl rfl rfl rfl rfl ?_; clear hS a; intro a hS
        refine g_no hS rfl rfl rfl rfl rfl rfl rfl ?_; clear hS a; intro a hS
        refine q_seq hS rfl rfl rfl (y_pick_f hS rfl rfl) ?_; clear hS a; intro a hS
        refine q_seq hS rfl rfl rfl (y_move hS rfl) ?_; clear hS a; intro a hS
        refine g_no hS rfl rfl rfl rfl rfl rfl rfl ?_; clear hS a; intro a hS
        refine g_no hS rfl rfl rfl rfl rfl rfl rfl ?_; clear hS a; intro a hS
        refine q_seq hS rfl rfl rfl (y_pick_f hS rfl rfl) ?_; clear hS a; intro a hS
        refine q_seq hS rfl rfl rfl (y_assign hS rfl) ?_; clear hS a; intro a hS
        apply wpList_nil
        refine p_norm ?_
        apply wp_ret
        obtain rfl := Option.some.inj hg
        refine fin1 (fn := Try.f9) hS rfl (r_tmp hS rfl) ?_
        exact rfl
    · replace hg := br_f hg (by rw [hs21]; exact Bool.false_ne_true)
      apply wp_region_lit
      refine q_seq hS rfl rfl rfl (y_move hS rfl) ?_; clear hS a; intro a hS
      refine q_seq hS rfl rfl rfl (yl_b (y_eql hS rfl rfl) hs16e) ?_; clear hS a; intro a hS
      refine q_seq hS rfl rfl rfl (y_move hS rfl) ?_; clear hS a; intro a hS
      refine g_yes hS rfl rfl rfl rfl (l_quiet hS rfl rfl (y_move hS rfl) ?_); clear hS a; intro a hS
      refine g_yes hS rfl rfl rfl rfl (l_buildDense (sz := 1) hS 1404 rfl rfl rfl Try.underlying23 rfl rfl rfl rfl rfl rfl rfl ?_); clear hS a; intro b65 a w hbb65 hK hS
      clear hbb65
      clear hK
      replace hS := hS.add 125 (rdF Rep.str (cellsOfL [.string (bs ([116, 104, 101])), .string (bs ([100, 111, 103])), .string (bs ([44])), .string (bs ([105, 116])), .string (bs ([98, 97, 114, 107, 115])), .string (bs ([46]))]) ([[116, 104, 101], [100, 111, 103], [44], [105, 116], [98, 97, 114, 107, 115], [46]])) (RdAll.cons (by exact ⟨rfl, (by first | omega | (rw [List.length_append]; omega) | (simp only [List.length_append]; omega) | (simp only [List.length_append, List.length_take, List.length_drop, List.length_cons, List.length_nil]; omega))⟩) (RdAll.cons (by exact ⟨rfl, (by first | omega | (rw [List.length_append]; omega) | (simp only [List.length_append]; omega) | (simp only [List.length_append, List.length_take, List.length_drop, List.length_cons, List.length_nil]; omega))⟩) (RdAll.cons (by exact ⟨rfl, (by first | omega | (rw [List.length_append]; omega) | (simp only [List.length_append]; omega) | (simp only [List.length_append, List.length_take, List.length_drop, List.length_cons, List.length_nil]; omega))⟩) (RdAll.cons (by exact ⟨rfl, (by first | omega | (rw [List.length_append]; omega) | (simp only [List.length_append]; omega) | (simp only [List.length_append, List.length_take, List.length_drop, List.length_cons, List.length_nil]; omega))⟩) (RdAll.cons (by exact ⟨rfl, (by first | omega | (rw [List.length_append]; omega) | (simp only [List.length_append]; omega) | (simp only [List.length_append, List.length_take, List.length_drop, List.length_cons, List.length_nil]; omega))⟩) (RdAll.cons (by exact ⟨rfl, (by first | omega | (rw [List.length_append]; omega) | (simp only [List.length_append]; omega) | (simp only [List.length_append, List.length_take, List.length_drop, List.length_cons, List.length_nil]; omega))⟩) (RdAll.nil _ _ _)))))))
      have hT := hS
      replace hT := hT.freeze (R := Rep.str) (kk := 1404) (L' := []) 126 rfl rfl (hT.fact (k := 125) rfl) trivial rfl
      refine g_yes hS rfl rfl rfl rfl (l_call (cap := []) hS rfl Try.func12 rfl (by kernel_rfl) rfl rfl (c_r01_Same n _ _ hT.lt r1.1 (Au5a1) (cu5a1) (hT.fact (k := 102) rfl) [[116, 104, 101], [100, 111, 103], [44], [105, 116], [98, 97, 114, 107, 115], [46]] (some ⟨b65, 0, none⟩) (6) (hT.fact (k := 126) rfl) r18 hr18) ?_); clear hS hT a; intro v66 a w hK hp hS
      clear hK
      obtain rfl := hp.trans (congrArg Value.bool hs21)
      refine q_seq hS rfl rfl rfl (y_pick_t hS rfl rfl) ?_; clear hS a; intro a hS
      refine q_seq hS rfl rfl rfl (y_move hS rfl) ?_; clear hS a; intro a hS
      refine g_no hS rfl rfl rfl rfl rfl rfl rfl ?_; clear hS a; intro a hS
      refine g_no hS rfl rfl rfl rfl rfl rfl rfl ?_; clear hS a; intro a hS
      refine q_seq hS rfl rfl rfl (y_pick_f hS rfl rfl) ?_; clear hS a; intro a hS
      refine q_seq hS rfl rfl rfl (y_move hS rfl) ?_; clear hS a; intro a hS
      refine g_no hS rfl rfl rfl rfl rfl rfl rfl ?_; clear hS a; intro a hS
      refine g_no hS rfl rfl rfl rfl rfl rfl rfl ?_; clear hS a; intro a hS
      refine q_seq hS rfl rfl rfl (y_pick_f hS rfl rfl) ?_; clear hS a; intro a hS
      refine q_seq hS rfl rfl rfl (y_move hS rfl) ?_; clear hS a; intro a hS
      refine g_no hS rfl rfl rfl rfl rfl rfl rfl ?_; clear hS a; intro a hS
      refine g_no hS rfl rfl rfl rfl rfl rfl rfl ?_; clear hS a; intro a hS
      refine g_no hS rfl rfl rfl rfl rfl rfl rfl ?_; clear hS a; intro a hS
      refine q_seq hS rfl rfl rfl (y_pick_f hS rfl rfl) ?_; clear hS a; intro a hS
      refine q_seq hS rfl rfl rfl (y_move hS rfl) ?_; clear hS a; intro a hS
      refine g_no hS rfl rfl rfl rfl rfl rfl rfl ?_; clear hS a; intro a hS
      refine g_no hS rfl rfl rfl rfl rfl rfl rfl ?_; clear hS a; intro a hS
      refine g_no hS rfl rfl rfl rfl rfl rfl rfl ?_; clear hS a; intro a hS
      refine q_seq hS rfl rfl rfl (y_pick_f hS rfl rfl) ?_; clear hS a; intro a hS
      refine q_seq hS rfl rfl rfl (y_move hS rfl) ?_; clear hS a; intro a hS
      refine g_no hS rfl rfl rfl rfl rfl rfl rfl ?_; clear hS a; intro a hS
      refine g_no hS rfl rfl rfl rfl rfl rfl rfl ?_; clear hS a; intro a hS
      refine q_seq hS rfl rfl rfl (y_pick_f hS rfl rfl) ?_; clear hS a; intro a hS
      refine q_seq hS rfl rfl rfl (y_assign hS rfl) ?_; clear hS a; intro a hS
      apply wpList_nil
      refine p_norm ?_
      apply wp_ret
      obtain rfl := Option.some.inj hg
      refine fin1 (fn := Try.f9) hS rfl (r_tmp hS rfl) ?_
      exact rfl
  · have hs16e : decide (r1.2 = 0) = false := decide_eq_false hs16
    replace hg := br_f hg hs16
    apply wp_region_lit
    refine q_seq hS rfl rfl rfl (y_move hS rfl) ?_; clear hS a; intro a hS
    refine q_seq hS rfl rfl rfl (yl_b (y_eql hS rfl rfl) hs16e) ?_; clear hS a; intro a hS
    refine q_seq hS rfl rfl rfl (y_move hS rfl) ?_; clear hS a; intro a hS
    refine g_no hS rfl rfl rfl rfl rfl rfl rfl ?_; clear hS a; intro a hS
    refine g_no hS rfl rfl rfl rfl rfl rfl rfl ?_; clear hS a; intro a hS
    refine g_no hS rfl rfl rfl rfl rfl rfl rfl ?_; clear hS a; intro a hS
    refine q_seq hS rfl rfl rfl (y_pick_f hS rfl rfl) ?_; clear hS a; intro a hS
    refine q_seq hS rfl rfl rfl (y_move hS rfl) ?_; clear hS a; intro a hS
    refine g_no hS rfl rfl rfl rfl rfl rfl rfl ?_; clear hS a; intro a hS
    refine g_no hS rfl rfl rfl rfl rfl rfl rfl ?_; clear hS a; intro a hS
    refine q_seq hS rfl rfl rfl (y_pick_f hS rfl rfl) ?_; clear hS a; intro a hS
    refine q_seq hS rfl rfl rfl (y_move hS rfl) ?_; clear hS a; intro a hS
    refine g_no hS rfl rfl rfl rfl rfl rfl rfl ?_; clear hS a; intro a hS
    refine g_no hS rfl rfl rfl rfl rfl rfl rfl ?_; clear hS a; intro a hS
    refine q_seq hS rfl rfl rfl (y_pick_f hS rfl rfl) ?_; clear hS a; intro a hS
    refine q_seq hS rfl rfl rfl (y_move hS rfl) ?_; clear hS a; intro a hS
    refine g_no hS rfl rfl rfl rfl rfl rfl rfl ?_; clear hS a; intro a hS
    refine g_no hS rfl rfl rfl rfl rfl rfl rfl ?_; clear hS a; intro a hS
    refine g_no hS rfl rfl rfl rfl rfl rfl rfl ?_; clear hS a; intro a hS
    refine q_seq hS rfl rfl rfl (y_pick_f hS rfl rfl) ?_; clear hS a; intro a hS
    refine q_seq hS rfl rfl rfl (y_move hS rfl) ?_; clear hS a; intro a hS
    refine g_no hS rfl rfl rfl rfl rfl rfl rfl ?_; clear hS a; intro a hS
    refine g_no hS rfl rfl rfl rfl rfl rfl rfl ?_; clear hS a; intro a hS
    refine g_no hS rfl rfl rfl rfl rfl rfl rfl ?_; clear hS a; intro a hS
    refine q_seq hS rfl rfl rfl (y_pick_f hS rfl rfl) ?_; clear hS a; intro a hS
    refine q_seq hS rfl rfl rfl (y_move hS rfl) ?_; clear hS a; intro a hS
    refine g_no hS rfl rfl rfl rfl rfl rfl rfl ?_; clear hS a; intro a hS
    refine g_no hS rfl rfl rfl rfl rfl rfl rfl ?_; clear hS a; intro a hS
    refine q_seq hS rfl rfl rfl (y_pick_f hS rfl rfl) ?_; clear hS a; intro a hS
    refine q_seq hS rfl rfl rfl (y_assign hS rfl) ?_; clear hS a; intro a hS
    apply wpList_nil
    refine p_norm ?_
    apply wp_ret
    obtain rfl := Option.some.inj hg
    refine fin1 (fn := Try.f9) hS rfl (r_tmp hS rfl) ?_
    exact rfl
set_option maxHeartbeats 400000 in
theorem c_law27_TokenSplits (n : Nat) (M : Bs) (w0 : World) (hM : ∀ b, M b → b < w0.heap.size) (s_ : (List UInt8)) (lp01 : (s_).length ≤ 9223372036854775807) (r : Bool) (hg : law27_TokenSplits n s_ = some r) :
    Calls Try.prog 3 [.string (bs (s_))].toArray w0 (Ret noB w0 fun v w => v = .bool (r)) := by
  unfold law27_TokenSplits at hg
  refine enter M noB Try.func3 rfl rfl hM ?_
  intro a hS
  apply wp_seq
  apply wp_region_lit
  refine q_seq hS rfl rfl rfl (y_assign hS rfl) ?_; clear hS a; intro a hS
  apply wpList_nil
  refine p_norm ?_
  apply wp_seq
  apply wp_seq
  replace hg := jn_some hg; obtain ⟨k1, hg, hk1⟩ := hg
  refine c_post (fun a w => ∃ (t_2 : Bool), k1 t_2 = some r ∧ St (⟨Try.f3.ntmps, M, noB, w0⟩ : Ctx) [(0, .string (bs (s_))), (14, .bool (t_2))] [] [] a w) ?_ ?_
  · rcases Decidable.em ((2000 : Nat) < ((s_).length)) with hs3 | hs3
    · have hs3e : decide ((2000 : Nat) < ((s_).length)) = true := decide_eq_true hs3
      replace hg := br_t hg hs3
      have hmx4 : (s_).length ≤ 9223372036854775807 := (by first | omega | (rw [List.length_append]; omega) | (simp only [List.length_append]; omega) | (simp only [List.length_append, List.length_take, List.length_drop, List.length_cons, List.length_nil]; omega))
      apply wp_region_lit
      refine q_seq hS rfl rfl rfl (y_move hS rfl) ?_; clear hS a; intro a hS
      refine q_seq hS rfl rfl rfl (y_lenStrN hS rfl Try.underlying9) ?_; clear hS a; intro a hS
      refine q_seq hS rfl rfl rfl (yl_b (y_gtrN (i := ((s_).length)) (j := 2000) hS rfl rfl) hs3e) ?_; clear hS a; intro a hS
      refine q_seq hS rfl rfl rfl (y_move hS rfl) ?_; clear hS a; intro a hS
      refine g_yes hS rfl rfl rfl rfl (l_quiet hS rfl rfl (y_move hS rfl) ?_); clear hS a; intro a hS
      refine g_yes hS rfl rfl rfl rfl (l_quiet hS rfl rfl (y_lenStrN hS rfl Try.underlying9) ?_); clear hS a; intro a hS
      refine g_yes hS rfl rfl rfl rfl (l_quiet hS rfl rfl (y_leqN (i := ((s_).length)) (j := 65536) hS rfl rfl) ?_); clear hS a; intro a hS
      refine q_seq hS rfl rfl rfl (y_pick_t hS rfl rfl) ?_; clear hS a; intro a hS
      apply wpList_nil
      refine p_norm ?_
      exact ⟨(decide (((s_).length) ≤ 65536)), hg, (hS.sub ⟨rfl, rfl, trivial⟩ trivial trivial)⟩
    · have hs3e : decide ((2000 : Nat) < ((s_).length)) = false := decide_eq_false hs3
      replace hg := br_f hg hs3
      apply wp_region_lit
      refine q_seq hS rfl rfl rfl (y_move hS rfl) ?_; clear hS a; intro a hS
      refine q_seq hS rfl rfl rfl (y_lenStrN hS rfl Try.underlying9) ?_; clear hS a; intro a hS
      refine q_seq hS rfl rfl rfl (yl_b (y_gtrN (i := ((s_).length)) (j := 2000) hS rfl rfl) hs3e) ?_; clear hS a; intro a hS
      refine q_seq hS rfl rfl rfl (y_move hS rfl) ?_; clear hS a; intro a hS
      refine g_no hS rfl rfl rfl rfl rfl rfl rfl ?_; clear hS a; intro a hS
      refine g_no hS rfl rfl rfl rfl rfl rfl rfl ?_; clear hS a; intro a hS
      refine g_no hS rfl rfl rfl rfl rfl rfl rfl ?_; clear hS a; intro a hS
      refine q_seq hS rfl rfl rfl (y_pick_f hS rfl rfl) ?_; clear hS a; intro a hS
      apply wpList_nil
      refine p_norm ?_
      exact ⟨(false), hg, (hS.sub ⟨rfl, rfl, trivial⟩ trivial trivial)⟩
  clear hS a; rintro a w ⟨t_2, hg, hS⟩
  subst hk1
  refine c_cond hS rfl (fun hc5 => ?_) (fun hc5 => ?_)
  · replace hg := br_t hg hc5
    apply wp_seq
    replace hg := bind_some hg; obtain ⟨r6, hr6, hg⟩ := hg
    apply wp_region_lit
    refine l_seq rfl (l_call (cap := []) hS rfl Try.func9 rfl (by kernel_rfl) rfl rfl (c_law27_exampleHolds n _ _ hS.lt  r6 hr6) ?_); clear hS a; intro v9 a w hK hp hS
    clear hK
    obtain rfl := hp
    refine q_seq hS rfl rfl rfl (y_assign hS rfl) ?_; clear hS a; intro a hS
    apply wpList_nil
    refine p_norm ?_
    apply wp_ret
    refine p_thenR ?_
    obtain rfl := Option.some.inj hg
    refine fin1 (fn := Try.f3) hS rfl (r_tmp hS rfl) ?_
    exact rfl
  · replace hg := br_f hg (by rw [hc5]; exact Bool.false_ne_true)
    apply wp_skip
    refine p_norm ?_
    apply wp_seq
    replace hg := bind_some hg; obtain ⟨r11, hr11, hg⟩ := hg
    apply wp_region_lit
    refine q_seq hS rfl rfl rfl (y_move hS rfl) ?_; clear hS a; intro a hS
    refine l_seq rfl (l_call (cap := []) hS rfl Try.func10 rfl (by kernel_rfl) rfl rfl (c_token_Split n _ _ hS.lt s_ (by first | omega | (rw [List.length_append]; omega) | (simp only [List.length_append]; omega) | (simp only [List.length_append, List.length_take, List.length_drop, List.length_cons, List.length_nil]; omega)) r11 hr11) ?_); clear hS a; intro v14 a w hK hp hS
    clear hK
    obtain ⟨Au15a1, cu15a1, rfl, hu15a1⟩ := hp
    replace hS := hS.add 102 (slF Rep.str (Au15a1) ((r11.1).length) (cu15a1) (r11.1)) hu15a1
    refine q_seq hS rfl rfl rfl (y_move hS rfl) ?_; clear hS a; intro a hS
    refine q_seq hS rfl rfl rfl (y_extract hS rfl rfl) ?_; clear hS a; intro a hS
    refine q_seq hS rfl rfl rfl (y_extract hS rfl rfl) ?_; clear hS a; intro a hS
    refine q_seq hS rfl rfl rfl (y_assign hS rfl) ?_; clear hS a; intro a hS
    refine q_seq hS rfl rfl rfl (y_assign hS rfl) ?_; clear hS a; intro a hS
    apply wpList_nil
    refine p_norm ?_
    apply wp_seq
    replace hg := bind_some hg; obtain ⟨r16, hr16, hg⟩ := hg
    apply wp_region_lit
    refine q_seq hS rfl rfl rfl (y_move hS rfl) ?_; clear hS a; intro a hS
    refine l_seq rfl (l_call (cap := []) hS rfl Try.func11 rfl (by kernel_rfl) rfl rfl (c_r27_Split n _ _ hS.lt s_ (by first | omega | (rw [List.length_append]; omega) | (simp only [List.length_append]; omega) | (simp only [List.length_append, List.length_take, List.length_drop, List.length_cons, List.length_nil]; omega)) r16 hr16) ?_); clear hS a; intro v19 a w hK hp hS
    clear hK
    obtain ⟨Au20a1, cu20a1, rfl, hu20a1⟩ := hp
    replace hS := hS.add 104 (slF Rep.str (Au20a1) ((r16.1).length) (cu20a1) (r16.1)) hu20a1
    refine q_seq hS rfl rfl rfl (y_move hS rfl) ?_; clear hS a; intro a hS
    refine q_seq hS rfl rfl rfl (y_extract hS rfl rfl) ?_; clear hS a; intro a hS
    refine q_seq hS rfl rfl rfl (y_extract hS rfl rfl) ?_; clear hS a; intro a hS
    refine q_seq hS rfl rfl rfl (y_assign hS rfl) ?_; clear hS a; intro a hS
    refine q_seq hS rfl rfl rfl (y_assign hS rfl) ?_; clear hS a; intro a hS
    apply wpList_nil
    refine p_norm ?_
    apply wp_seq
    rcases Decidable.em (r11.2 = r16.2) with hs21 | hs21
    · have hs21e : decide (r11.2 = r16.2) = true := decide_eq_true hs21
      replace hg := br_t hg hs21
      replace hg := bind_some hg; obtain ⟨r22, hr22, hg⟩ := hg
      rcases Bool.eq_false_or_eq_true (r22) with hs25 | hs25
      · replace hg := br_t hg hs25
        replace hg := bind_some hg; obtain ⟨r26, hr26, hg⟩ := hg
        apply wp_region_lit
        refine q_seq hS rfl rfl rfl (y_move hS rfl) ?_; clear hS a; intro a hS
        refine q_seq hS rfl rfl rfl (y_move hS rfl) ?_; clear hS a; intro a hS
        refine q_seq hS rfl rfl rfl (yl_b (y_eql hS rfl rfl) hs21e) ?_; clear hS a; intro a hS
        refine q_seq hS rfl rfl rfl (y_move hS rfl) ?_; clear hS a; intro a hS
        refine g_yes hS rfl rfl rfl rfl (l_quiet hS rfl rfl (y_move hS rfl) ?_); clear hS a; intro a hS
        refine g_yes hS rfl rfl rfl rfl (l_quiet hS rfl rfl (y_move hS rfl) ?_); clear hS a; intro a hS
        refine g_yes hS rfl rfl rfl rfl (l_call (cap := []) hS rfl Try.func12 rfl (by kernel_rfl) rfl rfl (c_r01_Same n _ _ hS.lt r11.1 (Au15a1) (cu15a1) (hS.fact (k := 102) rfl) r16.1 (Au20a1) (cu20a1) (hS.fact (k := 104) rfl) r22 hr22) ?_); clear hS a; intro v29 a w hK hp hS
        clear hK
        obtain rfl := hp.trans (congrArg Value.bool hs25)
        refine q_seq hS rfl rfl rfl (y_pick_t hS rfl rfl) ?_; clear hS a; intro a hS
        refine q_seq hS rfl rfl rfl (y_move hS rfl) ?_; clear hS a; intro a hS
        refine g_yes hS rfl rfl rfl rfl (l_call (cap := []) hS rfl Try.func9 rfl (by kernel_rfl) rfl rfl (c_law27_exampleHolds n _ _ hS.lt  r26 hr26) ?_); clear hS a; intro v31 a w hK hp hS
        clear hK
        obtain rfl := hp
        refine q_seq hS rfl rfl rfl (y_pick_t hS rfl rfl) ?_; clear hS a; intro a hS
        refine q_seq hS rfl rfl rfl (y_assign hS rfl) ?_; clear hS a; intro a hS
        apply wpList_nil
        refine p_norm ?_
        apply wp_ret
        obtain rfl := Option.some.inj hg
        refine fin1 (fn := Try.f3) hS rfl (r_tmp hS rfl) ?_
        exact rfl
      · replace hg := br_f hg (by rw [hs25]; exact Bool.false_ne_true)
        apply wp_region_lit
        refine q_seq hS rfl rfl rfl (y_move hS rfl) ?_; clear hS a; intro a hS
        refine q_seq hS rfl rfl rfl (y_move hS rfl) ?_; clear hS a; intro a hS
        refine q_seq hS rfl rfl rfl (yl_b (y_eql hS rfl rfl) hs21e) ?_; clear hS a; intro a hS
        refine q_seq hS rfl rfl rfl (y_move hS rfl) ?_; clear hS a; intro a hS
        refine g_yes hS rfl rfl rfl rfl (l_quiet hS rfl rfl (y_move hS rfl) ?_); clear hS a; intro a hS
        refine g_yes hS rfl rfl rfl rfl (l_quiet hS rfl rfl (y_move hS rfl) ?_); clear hS a; intro a hS
        refine g_yes hS rfl rfl rfl rfl (l_call (cap := []) hS rfl Try.func12 rfl (by kernel_rfl) rfl rfl (c_r01_Same n _ _ hS.lt r11.1 (Au15a1) (cu15a1) (hS.fact (k := 102) rfl) r16.1 (Au20a1) (cu20a1) (hS.fact (k := 104) rfl) r22 hr22) ?_); clear hS a; intro v33 a w hK hp hS
        clear hK
        obtain rfl := hp.trans (congrArg Value.bool hs25)
        refine q_seq hS rfl rfl rfl (y_pick_t hS rfl rfl) ?_; clear hS a; intro a hS
        refine q_seq hS rfl rfl rfl (y_move hS rfl) ?_; clear hS a; intro a hS
        refine g_no hS rfl rfl rfl rfl rfl rfl rfl ?_; clear hS a; intro a hS
        refine q_seq hS rfl rfl rfl (y_pick_f hS rfl rfl) ?_; clear hS a; intro a hS
        refine q_seq hS rfl rfl rfl (y_assign hS rfl) ?_; clear hS a; intro a hS
        apply wpList_nil
        refine p_norm ?_
        apply wp_ret
        obtain rfl := Option.some.inj hg
        refine fin1 (fn := Try.f3) hS rfl (r_tmp hS rfl) ?_
        exact rfl
    · have hs21e : decide (r11.2 = r16.2) = false := decide_eq_false hs21
      replace hg := br_f hg hs21
      apply wp_region_lit
      refine q_seq hS rfl rfl rfl (y_move hS rfl) ?_; clear hS a; intro a hS
      refine q_seq hS rfl rfl rfl (y_move hS rfl) ?_; clear hS a; intro a hS
      refine q_seq hS rfl rfl rfl (yl_b (y_eql hS rfl rfl) hs21e) ?_; clear hS a; intro a hS
      refine q_seq hS rfl rfl rfl (y_move hS rfl) ?_; clear hS a; intro a hS
      refine g_no hS rfl rfl rfl rfl rfl rfl rfl ?_; clear hS a; intro a hS
      refine g_no hS rfl rfl rfl rfl rfl rfl rfl ?_; clear hS a; intro a hS
      refine g_no hS rfl rfl rfl rfl rfl rfl rfl ?_; clear hS a; intro a hS
      refine q_seq hS rfl rfl rfl (y_pick_f hS rfl rfl) ?_; clear hS a; intro a hS
      refine q_seq hS rfl rfl rfl (y_move hS rfl) ?_; clear hS a; intro a hS
      refine g_no hS rfl rfl rfl rfl rfl rfl rfl ?_; clear hS a; intro a hS
      refine q_seq hS rfl rfl rfl (y_pick_f hS rfl rfl) ?_; clear hS a; intro a hS
      refine q_seq hS rfl rfl rfl (y_assign hS rfl) ?_; clear hS a; intro a hS
      apply wpList_nil
      refine p_norm ?_
      apply wp_ret
      obtain rfl := Option.some.inj hg
      refine fin1 (fn := Try.f3) hS rfl (r_tmp hS rfl) ?_
      exact rfl
set_option maxHeartbeats 400000 in
theorem c_law27_TokenJoins (n : Nat) (M : Bs) (w0 : World) (hM : ∀ b, M b → b < w0.heap.size) (words_ : (List (List UInt8))) (Ap01 : Option Addr) (cp01 : Nat) (hp01 : SlR Rep.str M w0 Ap01 (words_).length cp01 (words_)) (r : Bool) (hg : law27_TokenJoins n words_ = some r) :
    Calls Try.prog 4 [.slice (Ap01) ((words_).length) (cp01)].toArray w0 (Ret noB w0 fun v w => v = .bool (r)) := by
  unfold law27_TokenJoins at hg
  refine enter M noB Try.func4 rfl rfl hM ?_
  intro a hS
  replace hS := hS.add 101 (slF Rep.str (Ap01) ((words_).length) (cp01) (words_)) (by exact Fact.change _ enterM hp01)
  apply wp_seq
  apply wp_region_lit
  refine q_seq hS rfl rfl rfl (y_assign hS rfl) ?_; clear hS a; intro a hS
  apply wpList_nil
  refine p_norm ?_
  apply wp_seq
  apply wp_seq
  replace hg := bind_some hg; obtain ⟨r1, hr1, hg⟩ := hg
  apply wp_region_lit
  refine q_seq hS rfl rfl rfl (y_move hS rfl) ?_; clear hS a; intro a hS
  refine l_seq rfl (l_call (cap := []) hS rfl Try.func13 rfl (by kernel_rfl) rfl rfl (c_r27_Light n _ _ hS.lt words_ (Ap01) (cp01) (hS.fact (k := 101) rfl) r1 hr1) ?_); clear hS a; intro v4 a w hK hp hS
  clear hK
  obtain rfl := hp
  refine q_seq hS rfl rfl rfl (y_not hS rfl) ?_; clear hS a; intro a hS
  apply wpList_nil
  refine p_norm ?_
  refine c_cond hS rfl (fun hc6 => ?_) (fun hc6 => ?_)
  · replace hg := br_t hg hc6
    apply wp_seq
    replace hg := bind_some hg; obtain ⟨r7, hr7, hg⟩ := hg
    apply wp_region_lit
    refine l_seq rfl (l_call (cap := []) hS rfl Try.func9 rfl (by kernel_rfl) rfl rfl (c_law27_exampleHolds n _ _ hS.lt  r7 hr7) ?_); clear hS a; intro v10 a w hK hp hS
    clear hK
    obtain rfl := hp
    refine q_seq hS rfl rfl rfl (y_assign hS rfl) ?_; clear hS a; intro a hS
    apply wpList_nil
    refine p_norm ?_
    apply wp_ret
    refine p_thenR ?_
    obtain rfl := Option.some.inj hg
    refine fin1 (fn := Try.f4) hS rfl (r_tmp hS rfl) ?_
    exact rfl
  · replace hg := br_f hg (by rw [hc6]; exact Bool.false_ne_true)
    apply wp_skip
    refine p_norm ?_
    apply wp_seq
    replace hg := bind_some hg; obtain ⟨r12, hr12, hg⟩ := hg
    replace hg := bind_some hg; obtain ⟨r15, hr15, hg⟩ := hg
    rcases Decidable.em ((r12 : List UInt8) = r15) with hs18 | hs18
    · have hs18e : decide ((r12 : List UInt8) = r15) = true := decide_eq_true hs18
      replace hg := br_t hg hs18
      replace hg := bind_some hg; obtain ⟨r19, hr19, hg⟩ := hg
      apply wp_region_lit
      refine q_seq hS rfl rfl rfl (y_move hS rfl) ?_; clear hS a; intro a hS
      refine l_seq rfl (l_call (cap := []) hS rfl Try.func14 rfl (by kernel_rfl) rfl rfl (c_token_Join n _ _ hS.lt words_ (Ap01) (cp01) (hS.fact (k := 101) rfl) r12 hr12) ?_); clear hS a; intro v22 a w hK hp hS
      clear hK
      obtain ⟨rfl, lu23a1⟩ := hp
      refine q_seq hS rfl rfl rfl (y_move hS rfl) ?_; clear hS a; intro a hS
      refine l_seq rfl (l_call (cap := []) hS rfl Try.func15 rfl (by kernel_rfl) rfl rfl (c_r27_Join n _ _ hS.lt words_ (Ap01) (cp01) (hS.fact (k := 101) rfl) r15 hr15) ?_); clear hS a; intro v24 a w hK hp hS
      clear hK
      obtain ⟨rfl, lu25a1⟩ := hp
      refine q_seq hS rfl rfl rfl (yl_b (y_seq hS rfl rfl) hs18e) ?_; clear hS a; intro a hS
      refine q_seq hS rfl rfl rfl (y_move hS rfl) ?_; clear hS a; intro a hS
      refine g_yes hS rfl rfl rfl rfl (l_call (cap := []) hS rfl Try.func9 rfl (by kernel_rfl) rfl rfl (c_law27_exampleHolds n _ _ hS.lt  r19 hr19) ?_); clear hS a; intro v26 a w hK hp hS
      clear hK
      obtain rfl := hp
      refine q_seq hS rfl rfl rfl (y_pick_t hS rfl rfl) ?_; clear hS a; intro a hS
      refine q_seq hS rfl rfl rfl (y_assign hS rfl) ?_; clear hS a; intro a hS
      apply wpList_nil
      refine p_norm ?_
      apply wp_ret
      obtain rfl := Option.some.inj hg
      refine fin1 (fn := Try.f4) hS rfl (r_tmp hS rfl) ?_
      exact rfl
    · have hs18e : decide ((r12 : List UInt8) = r15) = false := decide_eq_false hs18
      replace hg := br_f hg hs18
      apply wp_region_lit
      refine q_seq hS rfl rfl rfl (y_move hS rfl) ?_; clear hS a; intro a hS
      refine l_seq rfl (l_call (cap := []) hS rfl Try.func14 rfl (by kernel_rfl) rfl rfl (c_token_Join n _ _ hS.lt words_ (Ap01) (cp01) (hS.fact (k := 101) rfl) r12 hr12) ?_); clear hS a; intro v28 a w hK hp hS
      clear hK
      obtain ⟨rfl, lu29a1⟩ := hp
      refine q_seq hS rfl rfl rfl (y_move hS rfl) ?_; clear hS a; intro a hS
      refine l_seq rfl (l_call (cap := []) hS rfl Try.func15 rfl (by kernel_rfl) rfl rfl (c_r27_Join n _ _ hS.lt words_ (Ap01) (cp01) (hS.fact (k := 101) rfl) r15 hr15) ?_); clear hS a; intro v30 a w hK hp hS
      clear hK
      obtain ⟨rfl, lu31a1⟩ := hp
      refine q_seq hS rfl rfl rfl (yl_b (y_seq hS rfl rfl) hs18e) ?_; clear hS a; intro a hS
      refine q_seq hS rfl rfl rfl (y_move hS rfl) ?_; clear hS a; intro a hS
      refine g_no hS rfl rfl rfl rfl rfl rfl rfl ?_; clear hS a; intro a hS
      refine q_seq hS rfl rfl rfl (y_pick_f hS rfl rfl) ?_; clear hS a; intro a hS
      refine q_seq hS rfl rfl rfl (y_assign hS rfl) ?_; clear hS a; intro a hS
      apply wpList_nil
      refine p_norm ?_
      apply wp_ret
      obtain rfl := Option.some.inj hg
      refine fin1 (fn := Try.f4) hS rfl (r_tmp hS rfl) ?_
      exact rfl
set_option maxHeartbeats 400000 in
theorem c_law27_TokenChecks (n : Nat) (M : Bs) (w0 : World) (hM : ∀ b, M b → b < w0.heap.size) (words_ : (List (List UInt8))) (Ap01 : Option Addr) (cp01 : Nat) (hp01 : SlR Rep.str M w0 Ap01 (words_).length cp01 (words_)) (r : Bool) (hg : law27_TokenChecks n words_ = some r) :
    Calls Try.prog 5 [.slice (Ap01) ((words_).length) (cp01)].toArray w0 (Ret noB w0 fun v w => v = .bool (r)) := by
  unfold law27_TokenChecks at hg
  refine enter M noB Try.func5 rfl rfl hM ?_
  intro a hS
  replace hS := hS.add 101 (slF Rep.str (Ap01) ((words_).length) (cp01) (words_)) (by exact Fact.change _ enterM hp01)
  apply wp_seq
  apply wp_region_lit
  refine q_seq hS rfl rfl rfl (y_assign hS rfl) ?_; clear hS a; intro a hS
  apply wpList_nil
  refine p_norm ?_
  apply wp_seq
  apply wp_seq
  replace hg := bind_some hg; obtain ⟨r1, hr1, hg⟩ := hg
  apply wp_region_lit
  refine q_seq hS rfl rfl rfl (y_move hS rfl) ?_; clear hS a; intro a hS
  refine l_seq rfl (l_call (cap := []) hS rfl Try.func13 rfl (by kernel_rfl) rfl rfl (c_r27_Light n _ _ hS.lt words_ (Ap01) (cp01) (hS.fact (k := 101) rfl) r1 hr1) ?_); clear hS a; intro v4 a w hK hp hS
  clear hK
  obtain rfl := hp
  refine q_seq hS rfl rfl rfl (y_not hS rfl) ?_; clear hS a; intro a hS
  apply wpList_nil
  refine p_norm ?_
  refine c_cond hS rfl (fun hc6 => ?_) (fun hc6 => ?_)
  · replace hg := br_t hg hc6
    apply wp_seq
    replace hg := bind_some hg; obtain ⟨r7, hr7, hg⟩ := hg
    apply wp_region_lit
    refine l_seq rfl (l_call (cap := []) hS rfl Try.func9 rfl (by kernel_rfl) rfl rfl (c_law27_exampleHolds n _ _ hS.lt  r7 hr7) ?_); clear hS a; intro v10 a w hK hp hS
    clear hK
    obtain rfl := hp
    refine q_seq hS rfl rfl rfl (y_assign hS rfl) ?_; clear hS a; intro a hS
    apply wpList_nil
    refine p_norm ?_
    apply wp_ret
    refine p_thenR ?_
    obtain rfl := Option.some.inj hg
    refine fin1 (fn := Try.f5) hS rfl (r_tmp hS rfl) ?_
    exact rfl
  · replace hg := br_f hg (by rw [hc6]; exact Bool.false_ne_true)
    apply wp_skip
    refine p_norm ?_
    apply wp_seq
    replace hg := bind_some hg; obtain ⟨r12, hr12, hg⟩ := hg
    replace hg := bind_some hg; obtain ⟨r15, hr15, hg⟩ := hg
    rcases Decidable.em (r12 = r15) with hs18 | hs18
    · have hs18e : decide (r12 = r15) = true := decide_eq_true hs18
      replace hg := br_t hg hs18
      replace hg := bind_some hg; obtain ⟨r19, hr19, hg⟩ := hg
      apply wp_region_lit
      refine q_seq hS rfl rfl rfl (y_move hS rfl) ?_; clear hS a; intro a hS
      refine l_seq rfl (l_call (cap := []) hS rfl Try.func16 rfl (by kernel_rfl) rfl rfl (c_token_Check n _ _ hS.lt words_ (Ap01) (cp01) (hS.fact (k := 101) rfl) r12 hr12) ?_); clear hS a; intro v22 a w hK hp hS
      clear hK
      obtain rfl := hp
      refine q_seq hS rfl rfl rfl (y_move hS rfl) ?_; clear hS a; intro a hS
      refine l_seq rfl (l_call (cap := []) hS rfl Try.func17 rfl (by kernel_rfl) rfl rfl (c_r27_Check n _ _ hS.lt words_ (Ap01) (cp01) (hS.fact (k := 101) rfl) r15 hr15) ?_); clear hS a; intro v24 a w hK hp hS
      clear hK
      obtain rfl := hp
      refine q_seq hS rfl rfl rfl (yl_b (y_eql hS rfl rfl) hs18e) ?_; clear hS a; intro a hS
      refine q_seq hS rfl rfl rfl (y_move hS rfl) ?_; clear hS a; intro a hS
      refine g_yes hS rfl rfl rfl rfl (l_call (cap := []) hS rfl Try.func9 rfl (by kernel_rfl) rfl rfl (c_law27_exampleHolds n _ _ hS.lt  r19 hr19) ?_); clear hS a; intro v26 a w hK hp hS
      clear hK
      obtain rfl := hp
      refine q_seq hS rfl rfl rfl (y_pick_t hS rfl rfl) ?_; clear hS a; intro a hS
      refine q_seq hS rfl rfl rfl (y_assign hS rfl) ?_; clear hS a; intro a hS
      apply wpList_nil
      refine p_norm ?_
      apply wp_ret
      obtain rfl := Option.some.inj hg
      refine fin1 (fn := Try.f5) hS rfl (r_tmp hS rfl) ?_
      exact rfl
    · have hs18e : decide (r12 = r15) = false := decide_eq_false hs18
      replace hg := br_f hg hs18
      apply wp_region_lit
      refine q_seq hS rfl rfl rfl (y_move hS rfl) ?_; clear hS a; intro a hS
      refine l_seq rfl (l_call (cap := []) hS rfl Try.func16 rfl (by kernel_rfl) rfl rfl (c_token_Check n _ _ hS.lt words_ (Ap01) (cp01) (hS.fact (k := 101) rfl) r12 hr12) ?_); clear hS a; intro v28 a w hK hp hS
      clear hK
      obtain rfl := hp
      refine q_seq hS rfl rfl rfl (y_move hS rfl) ?_; clear hS a; intro a hS
      refine l_seq rfl (l_call (cap := []) hS rfl Try.func17 rfl (by kernel_rfl) rfl rfl (c_r27_Check n _ _ hS.lt words_ (Ap01) (cp01) (hS.fact (k := 101) rfl) r15 hr15) ?_); clear hS a; intro v30 a w hK hp hS
      clear hK
      obtain rfl := hp
      refine q_seq hS rfl rfl rfl (yl_b (y_eql hS rfl rfl) hs18e) ?_; clear hS a; intro a hS
      refine q_seq hS rfl rfl rfl (y_move hS rfl) ?_; clear hS a; intro a hS
      refine g_no hS rfl rfl rfl rfl rfl rfl rfl ?_; clear hS a; intro a hS
      refine q_seq hS rfl rfl rfl (y_pick_f hS rfl rfl) ?_; clear hS a; intro a hS
      refine q_seq hS rfl rfl rfl (y_assign hS rfl) ?_; clear hS a; intro a hS
      apply wpList_nil
      refine p_norm ?_
      apply wp_ret
      obtain rfl := Option.some.inj hg
      refine fin1 (fn := Try.f5) hS rfl (r_tmp hS rfl) ?_
      exact rfl
set_option maxHeartbeats 400000 in
theorem c_law27_TokenBack (n : Nat) (M : Bs) (w0 : World) (hM : ∀ b, M b → b < w0.heap.size) (t_ : (List UInt8)) (lp01 : (t_).length ≤ 9223372036854775807) (t_' : (List (List UInt8))) (Ap11 : Option Addr) (cp11 : Nat) (hp11 : SlR Rep.str M w0 Ap11 (t_').length cp11 (t_')) (r : Bool) (hg : law27_TokenBack n t_ t_' = some r) :
    Calls Try.prog 6 [.string (bs (t_)), .slice (Ap11) ((t_').length) (cp11)].toArray w0 (Ret noB w0 fun v w => v = .bool (r)) := by
  unfold law27_TokenBack at hg
  refine enter M noB Try.func6 rfl rfl hM ?_
  intro a hS
  replace hS := hS.add 101 (slF Rep.str (Ap11) ((t_').length) (cp11) (t_')) (by exact Fact.change _ enterM hp11)
  apply wp_seq
  apply wp_region_lit
  refine q_seq hS rfl rfl rfl (y_assign hS rfl) ?_; clear hS a; intro a hS
  apply wpList_nil
  refine p_norm ?_
  apply wp_seq
  apply wp_seq
  replace hg := jn_some hg; obtain ⟨k1, hg, hk1⟩ := hg
  refine c_post (fun a w => ∃ (t_2 : Bool), k1 t_2 = some r ∧ St (⟨Try.f6.ntmps, M, noB, w0⟩ : Ctx) [(0, .string (bs (t_))), (1, .slice (Ap11) ((t_').length) (cp11)), (18, .bool (t_2))] [] [(101, slF Rep.str (Ap11) ((t_').length) (cp11) (t_'))] a w) ?_ ?_
  · rcases Decidable.em ((2000 : Nat) < ((t_).length)) with hs3 | hs3
    · have hs3e : decide ((2000 : Nat) < ((t_).length)) = true := decide_eq_true hs3
      replace hg := br_t hg hs3
      have hmx4 : (t_).length ≤ 9223372036854775807 := (by first | omega | (rw [List.length_append]; omega) | (simp only [List.length_append]; omega) | (simp only [List.length_append, List.length_take, List.length_drop, List.length_cons, List.length_nil]; omega))
      apply wp_region_lit
      refine q_seq hS rfl rfl rfl (y_move hS rfl) ?_; clear hS a; intro a hS
      refine q_seq hS rfl rfl rfl (y_lenStrN hS rfl Try.underlying9) ?_; clear hS a; intro a hS
      refine q_seq hS rfl rfl rfl (yl_b (y_gtrN (i := ((t_).length)) (j := 2000) hS rfl rfl) hs3e) ?_; clear hS a; intro a hS
      refine q_seq hS rfl rfl rfl (y_move hS rfl) ?_; clear hS a; intro a hS
      refine g_no hS rfl rfl rfl rfl rfl rfl rfl ?_; clear hS a; intro a hS
      refine g_no hS rfl rfl rfl rfl rfl rfl rfl ?_; clear hS a; intro a hS
      refine g_no hS rfl rfl rfl rfl rfl rfl rfl ?_; clear hS a; intro a hS
      refine q_seq hS rfl rfl rfl (y_pick_t hS rfl rfl) ?_; clear hS a; intro a hS
      apply wpList_nil
      refine p_norm ?_
      exact ⟨(true), hg, (hS.sub ⟨rfl, rfl, rfl, trivial⟩ trivial ⟨rfl, trivial⟩)⟩
    · have hs3e : decide ((2000 : Nat) < ((t_).length)) = false := decide_eq_false hs3
      replace hg := br_f hg hs3
      replace hg := bind_some hg; obtain ⟨r5, hr5, hg⟩ := hg
      apply wp_region_lit
      refine q_seq hS rfl rfl rfl (y_move hS rfl) ?_; clear hS a; intro a hS
      refine q_seq hS rfl rfl rfl (y_lenStrN hS rfl Try.underlying9) ?_; clear hS a; intro a hS
      refine q_seq hS rfl rfl rfl (yl_b (y_gtrN (i := ((t_).length)) (j := 2000) hS rfl rfl) hs3e) ?_; clear hS a; intro a hS
      refine q_seq hS rfl rfl rfl (y_move hS rfl) ?_; clear hS a; intro a hS
      refine g_yes hS rfl rfl rfl rfl (l_quiet hS rfl rfl (y_move hS rfl) ?_); clear hS a; intro a hS
      refine g_yes hS rfl rfl rfl rfl (l_call (cap := []) hS rfl Try.func13 rfl (by kernel_rfl) rfl rfl (c_r27_Light n _ _ hS.lt t_' (Ap11) (cp11) (hS.fact (k := 101) rfl) r5 hr5) ?_); clear hS a; intro v8 a w hK hp hS
      clear hK
      obtain rfl := hp
      refine g_yes hS rfl rfl rfl rfl (l_quiet hS rfl rfl (y_not hS rfl) ?_); clear hS a; intro a hS
      refine q_seq hS rfl rfl rfl (y_pick_f hS rfl rfl) ?_; clear hS a; intro a hS
      apply wpList_nil
      refine p_norm ?_
      exact ⟨(!(r5)), hg, (hS.sub ⟨rfl, rfl, rfl, trivial⟩ trivial ⟨rfl, trivial⟩)⟩
  clear hS a; rintro a w ⟨t_2, hg, hS⟩
  subst hk1
  refine c_cond hS rfl (fun hc10 => ?_) (fun hc10 => ?_)
  · replace hg := br_t hg hc10
    apply wp_seq
    replace hg := bind_some hg; obtain ⟨r11, hr11, hg⟩ := hg
    apply wp_region_lit
    refine l_seq rfl (l_call (cap := []) hS rfl Try.func9 rfl (by kernel_rfl) rfl rfl (c_law27_exampleHolds n _ _ hS.lt  r11 hr11) ?_); clear hS a; intro v14 a w hK hp hS
    clear hK
    obtain rfl := hp
    refine q_seq hS rfl rfl rfl (y_assign hS rfl) ?_; clear hS a; intro a hS
    apply wpList_nil
    refine p_norm ?_
    apply wp_ret
    refine p_thenR ?_
    obtain rfl := Option.some.inj hg
    refine fin1 (fn := Try.f6) hS rfl (r_tmp hS rfl) ?_
    exact rfl
  · replace hg := br_f hg (by rw [hc10]; exact Bool.false_ne_true)
    apply wp_skip
    refine p_norm ?_
    apply wp_seq
    replace hg := bind_some hg; obtain ⟨r16, hr16, hg⟩ := hg
    apply wp_region_lit
    refine q_seq hS rfl rfl rfl (y_move hS rfl) ?_; clear hS a; intro a hS
    refine l_seq rfl (l_call (cap := []) hS rfl Try.func10 rfl (by kernel_rfl) rfl rfl (c_token_Split n _ _ hS.lt t_ (by first | omega | (rw [List.length_append]; omega) | (simp only [List.length_append]; omega) | (simp only [List.length_append, List.length_take, List.length_drop, List.length_cons, List.length_nil]; omega)) r16 hr16) ?_); clear hS a; intro v19 a w hK hp hS
    clear hK
    obtain ⟨Au20a1, cu20a1, rfl, hu20a1⟩ := hp
    replace hS := hS.add 103 (slF Rep.str (Au20a1) ((r16.1).length) (cu20a1) (r16.1)) hu20a1
    refine q_seq hS rfl rfl rfl (y_move hS rfl) ?_; clear hS a; intro a hS
    refine q_seq hS rfl rfl rfl (y_extract hS rfl rfl) ?_; clear hS a; intro a hS
    refine q_seq hS rfl rfl rfl (y_extract hS rfl rfl) ?_; clear hS a; intro a hS
    refine q_seq hS rfl rfl rfl (y_assign hS rfl) ?_; clear hS a; intro a hS
    refine q_seq hS rfl rfl rfl (y_assign hS rfl) ?_; clear hS a; intro a hS
    apply wpList_nil
    refine p_norm ?_
    apply wp_seq
    apply wp_seq
    apply wp_region_lit
    refine q_seq hS rfl rfl rfl (y_move hS rfl) ?_; clear hS a; intro a hS
    refine q_seq hS rfl rfl rfl (y_eql hS rfl rfl) ?_; clear hS a; intro a hS
    apply wpList_nil
    refine p_norm ?_
    replace hg := jn_some hg; obtain ⟨k21, hg, hk21⟩ := hg
    refine c_post (fun a w => k21 = some r ∧ St (⟨Try.f6.ntmps, M, noB, w0⟩ : Ctx) [(1, .slice (Ap11) ((t_').length) (cp11))] [] [(101, slF Rep.str (Ap11) ((t_').length) (cp11) (t_'))] a w) ?_ ?_
    · refine c_dec hS rfl (fun hc22 => ?_) (fun hc22 => ?_)
      · replace hg := br_t hg hc22
        apply wp_seq
        replace hg := bind_some hg; obtain ⟨r23, hr23, hg⟩ := hg
        replace hg := bind_some hg; obtain ⟨r26, hr26, hg⟩ := hg
        apply wp_region_lit
        refine q_seq hS rfl rfl rfl (y_move hS rfl) ?_; clear hS a; intro a hS
        refine l_seq rfl (l_call (cap := []) hS rfl Try.func14 rfl (by kernel_rfl) rfl rfl (c_token_Join n _ _ hS.lt r16.1 (Au20a1) (cu20a1) (hS.fact (k := 103) rfl) r23 hr23) ?_); clear hS a; intro v29 a w hK hp hS
        clear hK
        obtain ⟨rfl, lu30a1⟩ := hp
        refine l_seq rfl (l_call (cap := []) hS rfl Try.func10 rfl (by kernel_rfl) rfl rfl (c_token_Split n _ _ hS.lt r23 (by first | omega | (rw [List.length_append]; omega) | (simp only [List.length_append]; omega) | (simp only [List.length_append, List.length_take, List.length_drop, List.length_cons, List.length_nil]; omega)) r26 hr26) ?_); clear hS a; intro v31 a w hK hp hS
        clear hK
        obtain ⟨Au32a1, cu32a1, rfl, hu32a1⟩ := hp
        replace hS := hS.add 105 (slF Rep.str (Au32a1) ((r26.1).length) (cu32a1) (r26.1)) hu32a1
        refine q_seq hS rfl rfl rfl (y_move hS rfl) ?_; clear hS a; intro a hS
        refine q_seq hS rfl rfl rfl (y_extract hS rfl rfl) ?_; clear hS a; intro a hS
        refine q_seq hS rfl rfl rfl (y_extract hS rfl rfl) ?_; clear hS a; intro a hS
        refine q_seq hS rfl rfl rfl (y_assign hS rfl) ?_; clear hS a; intro a hS
        refine q_seq hS rfl rfl rfl (y_assign hS rfl) ?_; clear hS a; intro a hS
        apply wpList_nil
        refine p_norm ?_
        apply wp_seq
        replace hg := jn_some hg; obtain ⟨k33, hg, hk33⟩ := hg
        refine c_post (fun a w => ∃ (t_34 : Bool), k33 t_34 = some r ∧ St (⟨Try.f6.ntmps, M, noB, w0⟩ : Ctx) [(1, .slice (Ap11) ((t_').length) (cp11)), (45, .bool (t_34))] [] [(101, slF Rep.str (Ap11) ((t_').length) (cp11) (t_'))] a w) ?_ ?_
        · rcases Decidable.em (r26.2 ≠ 0) with hs35 | hs35
          · have hs35e : decide (r26.2 ≠ 0) = true := decide_eq_true hs35
            replace hg := br_t hg hs35
            apply wp_region_lit
            refine q_seq hS rfl rfl rfl (y_move hS rfl) ?_; clear hS a; intro a hS
            refine q_seq hS rfl rfl rfl (yl_b (y_neq hS rfl rfl) hs35e) ?_; clear hS a; intro a hS
            refine q_seq hS rfl rfl rfl (y_move hS rfl) ?_; clear hS a; intro a hS
            refine g_no hS rfl rfl rfl rfl rfl rfl rfl ?_; clear hS a; intro a hS
            refine g_no hS rfl rfl rfl rfl rfl rfl rfl ?_; clear hS a; intro a hS
            refine g_no hS rfl rfl rfl rfl rfl rfl rfl ?_; clear hS a; intro a hS
            refine g_no hS rfl rfl rfl rfl rfl rfl rfl ?_; clear hS a; intro a hS
            refine q_seq hS rfl rfl rfl (y_pick_t hS rfl rfl) ?_; clear hS a; intro a hS
            refine q_seq hS rfl rfl rfl (y_move hS rfl) ?_; clear hS a; intro a hS
            refine g_no hS rfl rfl rfl rfl rfl rfl rfl ?_; clear hS a; intro a hS
            refine g_no hS rfl rfl rfl rfl rfl rfl rfl ?_; clear hS a; intro a hS
            refine g_no hS rfl rfl rfl rfl rfl rfl rfl ?_; clear hS a; intro a hS
            refine q_seq hS rfl rfl rfl (y_pick_t hS rfl rfl) ?_; clear hS a; intro a hS
            apply wpList_nil
            refine p_norm ?_
            exact ⟨(true), hg, (hS.sub ⟨rfl, rfl, trivial⟩ trivial ⟨rfl, trivial⟩)⟩
          · have hs35e : decide (r26.2 ≠ 0) = false := decide_eq_false hs35
            replace hg := br_f hg hs35
            replace hg := bind_some hg; obtain ⟨r36, hr36, hg⟩ := hg
            rcases Bool.eq_false_or_eq_true (!(r36)) with hs39 | hs39
            · replace hg := br_t hg hs39
              apply wp_region_lit
              refine q_seq hS rfl rfl rfl (y_move hS rfl) ?_; clear hS a; intro a hS
              refine q_seq hS rfl rfl rfl (yl_b (y_neq hS rfl rfl) hs35e) ?_; clear hS a; intro a hS
              refine q_seq hS rfl rfl rfl (y_move hS rfl) ?_; clear hS a; intro a hS
              refine g_yes hS rfl rfl rfl rfl (l_quiet hS rfl rfl (y_move hS rfl) ?_); clear hS a; intro a hS
              refine g_yes hS rfl rfl rfl rfl (l_quiet hS rfl rfl (y_move hS rfl) ?_); clear hS a; intro a hS
              refine g_yes hS rfl rfl rfl rfl (l_call (cap := []) hS rfl Try.func12 rfl (by kernel_rfl) rfl rfl (c_r01_Same n _ _ hS.lt r26.1 (Au32a1) (cu32a1) (hS.fact (k := 105) rfl) r16.1 (Au20a1) (cu20a1) (hS.fact (k := 103) rfl) r36 hr36) ?_); clear hS a; intro v40 a w hK hp hS
              clear hK
              obtain rfl := hp
              refine g_yes hS rfl rfl rfl rfl (l_quiet hS rfl rfl (yl_b (y_not hS rfl) hs39) ?_); clear hS a; intro a hS
              refine q_seq hS rfl rfl rfl (y_pick_f hS rfl rfl) ?_; clear hS a; intro a hS
              refine q_seq hS rfl rfl rfl (y_move hS rfl) ?_; clear hS a; intro a hS
              refine g_no hS rfl rfl rfl rfl rfl rfl rfl ?_; clear hS a; intro a hS
              refine g_no hS rfl rfl rfl rfl rfl rfl rfl ?_; clear hS a; intro a hS
              refine g_no hS rfl rfl rfl rfl rfl rfl rfl ?_; clear hS a; intro a hS
              refine q_seq hS rfl rfl rfl (y_pick_t hS rfl rfl) ?_; clear hS a; intro a hS
              apply wpList_nil
              refine p_norm ?_
              exact ⟨(true), hg, (hS.sub ⟨rfl, rfl, trivial⟩ trivial ⟨rfl, trivial⟩)⟩
            · replace hg := br_f hg (by rw [hs39]; exact Bool.false_ne_true)
              replace hg := bind_some hg; obtain ⟨r42, hr42, hg⟩ := hg
              apply wp_region_lit
              refine q_seq hS rfl rfl rfl (y_move hS rfl) ?_; clear hS a; intro a hS
              refine q_seq hS rfl rfl rfl (yl_b (y_neq hS rfl rfl) hs35e) ?_; clear hS a; intro a hS
              refine q_seq hS rfl rfl rfl (y_move hS rfl) ?_; clear hS a; intro a hS
              refine g_yes hS rfl rfl rfl rfl (l_quiet hS rfl rfl (y_move hS rfl) ?_); clear hS a; intro a hS
              refine g_yes hS rfl rfl rfl rfl (l_quiet hS rfl rfl (y_move hS rfl) ?_); clear hS a; intro a hS
              refine g_yes hS rfl rfl rfl rfl (l_call (cap := []) hS rfl Try.func12 rfl (by kernel_rfl) rfl rfl (c_r01_Same n _ _ hS.lt r26.1 (Au32a1) (cu32a1) (hS.fact (k := 105) rfl) r16.1 (Au20a1) (cu20a1) (hS.fact (k := 103) rfl) r36 hr36) ?_); clear hS a; intro v45 a w hK hp hS
              clear hK
              obtain rfl := hp
              refine g_yes hS rfl rfl rfl rfl (l_quiet hS rfl rfl (yl_b (y_not hS rfl) hs39) ?_); clear hS a; intro a hS
              refine q_seq hS rfl rfl rfl (y_pick_f hS rfl rfl) ?_; clear hS a; intro a hS
              refine q_seq hS rfl rfl rfl (y_move hS rfl) ?_; clear hS a; intro a hS
              refine g_yes hS rfl rfl rfl rfl (l_quiet hS rfl rfl (y_move hS rfl) ?_); clear hS a; intro a hS
              refine g_yes hS rfl rfl rfl rfl (l_call (cap := []) hS rfl Try.func16 rfl (by kernel_rfl) rfl rfl (c_token_Check n _ _ hS.lt r16.1 (Au20a1) (cu20a1) (hS.fact (k := 103) rfl) r42 hr42) ?_); clear hS a; intro v47 a w hK hp hS
              clear hK
              obtain rfl := hp
              refine g_yes hS rfl rfl rfl rfl (l_quiet hS rfl rfl (y_neq hS rfl rfl) ?_); clear hS a; intro a hS
              refine q_seq hS rfl rfl rfl (y_pick_f hS rfl rfl) ?_; clear hS a; intro a hS
              apply wpList_nil
              refine p_norm ?_
              exact ⟨(decide (r42 ≠ 0)), hg, (hS.sub ⟨rfl, rfl, trivial⟩ trivial ⟨rfl, trivial⟩)⟩
        clear hS a; rintro a w ⟨t_34, hg, hS⟩
        subst hk33
        refine c_cond hS rfl (fun hc49 => ?_) (fun hc49 => ?_)
        · replace hg := br_t hg hc49
          apply wp_seq
          apply wp_region_lit
          refine q_seq hS rfl rfl rfl (y_assign hS rfl) ?_; clear hS a; intro a hS
          apply wpList_nil
          refine p_norm ?_
          apply wp_ret
          refine p_thenR ?_
          obtain rfl := Option.some.inj hg
          refine fin1 (fn := Try.f6) hS rfl (r_tmp hS rfl) ?_
          exact rfl
        · replace hg := br_f hg (by rw [hc49]; exact Bool.false_ne_true)
          apply wp_skip
          refine p_norm ?_
          exact ⟨hg, (hS.sub ⟨rfl, trivial⟩ trivial ⟨rfl, trivial⟩)⟩
      · replace hg := br_f hg hc22
        apply wp_skip
        refine p_norm ?_
        exact ⟨hg, (hS.sub ⟨rfl, trivial⟩ trivial ⟨rfl, trivial⟩)⟩
    clear hS a; rintro a w ⟨hg, hS⟩
    subst hk21
    apply wp_seq
    apply wp_seq
    replace hg := jn_some hg; obtain ⟨k50, hg, hk50⟩ := hg
    refine c_post (fun a w => ∃ (t_51 : Bool), k50 t_51 = some r ∧ St (⟨Try.f6.ntmps, M, noB, w0⟩ : Ctx) [(1, .slice (Ap11) ((t_').length) (cp11)), (53, .bool (t_51))] [] [(101, slF Rep.str (Ap11) ((t_').length) (cp11) (t_'))] a w) ?_ ?_
    · replace hg := bind_some hg; obtain ⟨r52, hr52, hg⟩ := hg
      rcases Decidable.em (r52 ≠ 0) with hs55 | hs55
      · have hs55e : decide (r52 ≠ 0) = true := decide_eq_true hs55
        replace hg := br_t hg hs55
        apply wp_region_lit
        refine q_seq hS rfl rfl rfl (y_move hS rfl) ?_; clear hS a; intro a hS
        refine l_seq rfl (l_call (cap := []) hS rfl Try.func16 rfl (by kernel_rfl) rfl rfl (c_token_Check n _ _ hS.lt t_' (Ap11) (cp11) (hS.fact (k := 101) rfl) r52 hr52) ?_); clear hS a; intro v56 a w hK hp hS
        clear hK
        obtain rfl := hp
        refine q_seq hS rfl rfl rfl (yl_b (y_neq hS rfl rfl) hs55e) ?_; clear hS a; intro a hS
        refine q_seq hS rfl rfl rfl (y_move hS rfl) ?_; clear hS a; intro a hS
        refine g_no hS rfl rfl rfl rfl rfl rfl rfl ?_; clear hS a; intro a hS
        refine g_no hS rfl rfl rfl rfl rfl rfl rfl ?_; clear hS a; intro a hS
        refine g_no hS rfl rfl rfl rfl rfl rfl rfl ?_; clear hS a; intro a hS
        refine q_seq hS rfl rfl rfl (y_pick_t hS rfl rfl) ?_; clear hS a; intro a hS
        apply wpList_nil
        refine p_norm ?_
        exact ⟨(true), hg, (hS.sub ⟨rfl, rfl, trivial⟩ trivial ⟨rfl, trivial⟩)⟩
      · have hs55e : decide (r52 ≠ 0) = false := decide_eq_false hs55
        replace hg := br_f hg hs55
        replace hg := bind_some hg; obtain ⟨r58, hr58, hg⟩ := hg
        apply wp_region_lit
        refine q_seq hS rfl rfl rfl (y_move hS rfl) ?_; clear hS a; intro a hS
        refine l_seq rfl (l_call (cap := []) hS rfl Try.func16 rfl (by kernel_rfl) rfl rfl (c_token_Check n _ _ hS.lt t_' (Ap11) (cp11) (hS.fact (k := 101) rfl) r52 hr52) ?_); clear hS a; intro v61 a w hK hp hS
        clear hK
        obtain rfl := hp
        refine q_seq hS rfl rfl rfl (yl_b (y_neq hS rfl rfl) hs55e) ?_; clear hS a; intro a hS
        refine q_seq hS rfl rfl rfl (y_move hS rfl) ?_; clear hS a; intro a hS
        refine g_yes hS rfl rfl rfl rfl (l_quiet hS rfl rfl (y_move hS rfl) ?_); clear hS a; intro a hS
        refine g_yes hS rfl rfl rfl rfl (l_call (cap := []) hS rfl Try.func18 rfl (by kernel_rfl) rfl rfl (c_r27_Simple n _ _ hS.lt t_' (Ap11) (cp11) (hS.fact (k := 101) rfl) r58 hr58) ?_); clear hS a; intro v63 a w hK hp hS
        clear hK
        obtain rfl := hp
        refine g_yes hS rfl rfl rfl rfl (l_quiet hS rfl rfl (y_not hS rfl) ?_); clear hS a; intro a hS
        refine q_seq hS rfl rfl rfl (y_pick_f hS rfl rfl) ?_; clear hS a; intro a hS
        apply wpList_nil
        refine p_norm ?_
        exact ⟨(!(r58)), hg, (hS.sub ⟨rfl, rfl, trivial⟩ trivial ⟨rfl, trivial⟩)⟩
    clear hS a; rintro a w ⟨t_51, hg, hS⟩
    subst hk50
    refine c_cond hS rfl (fun hc65 => ?_) (fun hc65 => ?_)
    · replace hg := br_t hg hc65
      apply wp_seq
      replace hg := bind_some hg; obtain ⟨r66, hr66, hg⟩ := hg
      apply wp_region_lit
      refine l_seq rfl (l_call (cap := []) hS rfl Try.func9 rfl (by kernel_rfl) rfl rfl (c_law27_exampleHolds n _ _ hS.lt  r66 hr66) ?_); clear hS a; intro v69 a w hK hp hS
      clear hK
      obtain rfl := hp
      refine q_seq hS rfl rfl rfl (y_assign hS rfl) ?_; clear hS a; intro a hS
      apply wpList_nil
      refine p_norm ?_
      apply wp_ret
      refine p_thenR ?_
      obtain rfl := Option.some.inj hg
      refine fin1 (fn := Try.f6) hS rfl (r_tmp hS rfl) ?_
      exact rfl
    · replace hg := br_f hg (by rw [hc65]; exact Bool.false_ne_true)
      apply wp_skip
      refine p_norm ?_
      apply wp_seq
      replace hg := bind_some hg; obtain ⟨r71, hr71, hg⟩ := hg
      replace hg := bind_some hg; obtain ⟨r74, hr74, hg⟩ := hg
      apply wp_region_lit
      refine q_seq hS rfl rfl rfl (y_move hS rfl) ?_; clear hS a; intro a hS
      refine l_seq rfl (l_call (cap := []) hS rfl Try.func14 rfl (by kernel_rfl) rfl rfl (c_token_Join n _ _ hS.lt t_' (Ap11) (cp11) (hS.fact (k := 101) rfl) r71 hr71) ?_); clear hS a; intro v77 a w hK hp hS
      clear hK
      obtain ⟨rfl, lu78a1⟩ := hp
      refine l_seq rfl (l_call (cap := []) hS rfl Try.func10 rfl (by kernel_rfl) rfl rfl (c_token_Split n _ _ hS.lt r71 (by first | omega | (rw [List.length_append]; omega) | (simp only [List.length_append]; omega) | (simp only [List.length_append, List.length_take, List.length_drop, List.length_cons, List.length_nil]; omega)) r74 hr74) ?_); clear hS a; intro v79 a w hK hp hS
      clear hK
      obtain ⟨Au80a1, cu80a1, rfl, hu80a1⟩ := hp
      replace hS := hS.add 107 (slF Rep.str (Au80a1) ((r74.1).length) (cu80a1) (r74.1)) hu80a1
      refine q_seq hS rfl rfl rfl (y_move hS rfl) ?_; clear hS a; intro a hS
      refine q_seq hS rfl rfl rfl (y_extract hS rfl rfl) ?_; clear hS a; intro a hS
      refine q_seq hS rfl rfl rfl (y_extract hS rfl rfl) ?_; clear hS a; intro a hS
      refine q_seq hS rfl rfl rfl (y_assign hS rfl) ?_; clear hS a; intro a hS
      refine q_seq hS rfl rfl rfl (y_assign hS rfl) ?_; clear hS a; intro a hS
      apply wpList_nil
      refine p_norm ?_
      apply wp_seq
      rcases Decidable.em (r74.2 = 0) with hs81 | hs81
      · have hs81e : decide (r74.2 = 0) = true := decide_eq_true hs81
        replace hg := br_t hg hs81
        replace hg := bind_some hg; obtain ⟨r82, hr82, hg⟩ := hg
        rcases Bool.eq_false_or_eq_true (r82) with hs85 | hs85
        · replace hg := br_t hg hs85
          replace hg := bind_some hg; obtain ⟨r86, hr86, hg⟩ := hg
          apply wp_region_lit
          refine q_seq hS rfl rfl rfl (y_move hS rfl) ?_; clear hS a; intro a hS
          refine q_seq hS rfl rfl rfl (yl_b (y_eql hS rfl rfl) hs81e) ?_; clear hS a; intro a hS
          refine q_seq hS rfl rfl rfl (y_move hS rfl) ?_; clear hS a; intro a hS
          refine g_yes hS rfl rfl rfl rfl (l_quiet hS rfl rfl (y_move hS rfl) ?_); clear hS a; intro a hS
          refine g_yes hS rfl rfl rfl rfl (l_quiet hS rfl rfl (y_move hS rfl) ?_); clear hS a; intro a hS
          refine g_yes hS rfl rfl rfl rfl (l_call (cap := []) hS rfl Try.func12 rfl (by kernel_rfl) rfl rfl (c_r01_Same n _ _ hS.lt r74.1 (Au80a1) (cu80a1) (hS.fact (k := 107) rfl) t_' (Ap11) (cp11) (hS.fact (k := 101) rfl) r82 hr82) ?_); clear hS a; intro v89 a w hK hp hS
          clear hK
          obtain rfl := hp.trans (congrArg Value.bool hs85)
          refine q_seq hS rfl rfl rfl (y_pick_t hS rfl rfl) ?_; clear hS a; intro a hS
          refine q_seq hS rfl rfl rfl (y_move hS rfl) ?_; clear hS a; intro a hS
          refine g_yes hS rfl rfl rfl rfl (l_call (cap := []) hS rfl Try.func9 rfl (by kernel_rfl) rfl rfl (c_law27_exampleHolds n _ _ hS.lt  r86 hr86) ?_); clear hS a; intro v91 a w hK hp hS
          clear hK
          obtain rfl := hp
          refine q_seq hS rfl rfl rfl (y_pick_t hS rfl rfl) ?_; clear hS a; intro a hS
          refine q_seq hS rfl rfl rfl (y_assign hS rfl) ?_; clear hS a; intro a hS
          apply wpList_nil
          refine p_norm ?_
          apply wp_ret
          obtain rfl := Option.some.inj hg
          refine fin1 (fn := Try.f6) hS rfl (r_tmp hS rfl) ?_
          exact rfl
        · replace hg := br_f hg (by rw [hs85]; exact Bool.false_ne_true)
          apply wp_region_lit
          refine q_seq hS rfl rfl rfl (y_move hS rfl) ?_; clear hS a; intro a hS
          refine q_seq hS rfl rfl rfl (yl_b (y_eql hS rfl rfl) hs81e) ?_; clear hS a; intro a hS
          refine q_seq hS rfl rfl rfl (y_move hS rfl) ?_; clear hS a; intro a hS
          refine g_yes hS rfl rfl rfl rfl (l_quiet hS rfl rfl (y_move hS rfl) ?_); clear hS a; intro a hS
          refine g_yes hS rfl rfl rfl rfl (l_quiet hS rfl rfl (y_move hS rfl) ?_); clear hS a; intro a hS
          refine g_yes hS rfl rfl rfl rfl (l_call (cap := []) hS rfl Try.func12 rfl (by kernel_rfl) rfl rfl (c_r01_Same n _ _ hS.lt r74.1 (Au80a1) (cu80a1) (hS.fact (k := 107) rfl) t_' (Ap11) (cp11) (hS.fact (k := 101) rfl) r82 hr82) ?_); clear hS a; intro v93 a w hK hp hS
          clear hK
          obtain rfl := hp.trans (congrArg Value.bool hs85)
          refine q_seq hS rfl rfl rfl (y_pick_t hS rfl rfl) ?_; clear hS a; intro a hS
          refine q_seq hS rfl rfl rfl (y_move hS rfl) ?_; clear hS a; intro a hS
          refine g_no hS rfl rfl rfl rfl rfl rfl rfl ?_; clear hS a; intro a hS
          refine q_seq hS rfl rfl rfl (y_pick_f hS rfl rfl) ?_; clear hS a; intro a hS
          refine q_seq hS rfl rfl rfl (y_assign hS rfl) ?_; clear hS a; intro a hS
          apply wpList_nil
          refine p_norm ?_
          apply wp_ret
          obtain rfl := Option.some.inj hg
          refine fin1 (fn := Try.f6) hS rfl (r_tmp hS rfl) ?_
          exact rfl
      · have hs81e : decide (r74.2 = 0) = false := decide_eq_false hs81
        replace hg := br_f hg hs81
        apply wp_region_lit
        refine q_seq hS rfl rfl rfl (y_move hS rfl) ?_; clear hS a; intro a hS
        refine q_seq hS rfl rfl rfl (yl_b (y_eql hS rfl rfl) hs81e) ?_; clear hS a; intro a hS
        refine q_seq hS rfl rfl rfl (y_move hS rfl) ?_; clear hS a; intro a hS
        refine g_no hS rfl rfl rfl rfl rfl rfl rfl ?_; clear hS a; intro a hS
        refine g_no hS rfl rfl rfl rfl rfl rfl rfl ?_; clear hS a; intro a hS
        refine g_no hS rfl rfl rfl rfl rfl rfl rfl ?_; clear hS a; intro a hS
        refine q_seq hS rfl rfl rfl (y_pick_f hS rfl rfl) ?_; clear hS a; intro a hS
        refine q_seq hS rfl rfl rfl (y_move hS rfl) ?_; clear hS a; intro a hS
        refine g_no hS rfl rfl rfl rfl rfl rfl rfl ?_; clear hS a; intro a hS
        refine q_seq hS rfl rfl rfl (y_pick_f hS rfl rfl) ?_; clear hS a; intro a hS
        refine q_seq hS rfl rfl rfl (y_assign hS rfl) ?_; clear hS a; intro a hS
        apply wpList_nil
        refine p_norm ?_
        apply wp_ret
        obtain rfl := Option.some.inj hg
        refine fin1 (fn := Try.f6) hS rfl (r_tmp hS rfl) ?_
        exact rfl
set_option maxHeartbeats 400000 in
theorem c_law27_TokenCase (n : Nat) (M : Bs) (w0 : World) (hM : ∀ b, M b → b < w0.heap.size) (s_ : (List UInt8)) (lp01 : (s_).length ≤ 9223372036854775807) (r : Bool) (hg : law27_TokenCase n s_ = some r) :
    Calls Try.prog 7 [.string (bs (s_))].toArray w0 (Ret noB w0 fun v w => v = .bool (r)) := by
  unfold law27_TokenCase at hg
  refine enter M noB Try.func7 rfl rfl hM ?_
  intro a hS
  apply wp_seq
  apply wp_region_lit
  refine q_seq hS rfl rfl rfl (y_assign hS rfl) ?_; clear hS a; intro a hS
  apply wpList_nil
  refine p_norm ?_
  apply wp_seq
  apply wp_seq
  apply wp_region_lit
  refine q_seq hS rfl rfl rfl (y_move hS rfl) ?_; clear hS a; intro a hS
  refine q_seq hS rfl rfl rfl (y_lenStrN hS rfl Try.underlying9) ?_; clear hS a; intro a hS
  refine q_seq hS rfl rfl rfl (y_gtrN (i := ((s_).length)) (j := 1000) hS rfl rfl) ?_; clear hS a; intro a hS
  apply wpList_nil
  refine p_norm ?_
  refine c_dec hS rfl (fun hc1 => ?_) (fun hc1 => ?_)
  · replace hg := br_t hg hc1
    have hmx2 : (s_).length ≤ 9223372036854775807 := (by first | omega | (rw [List.length_append]; omega) | (simp only [List.length_append]; omega) | (simp only [List.length_append, List.length_take, List.length_drop, List.length_cons, List.length_nil]; omega))
    apply wp_seq
    replace hg := bind_some hg; obtain ⟨r3, hr3, hg⟩ := hg
    apply wp_region_lit
    refine l_seq rfl (l_call (cap := []) hS rfl Try.func9 rfl (by kernel_rfl) rfl rfl (c_law27_exampleHolds n _ _ hS.lt  r3 hr3) ?_); clear hS a; intro v6 a w hK hp hS
    clear hK
    obtain rfl := hp
    refine q_seq hS rfl rfl rfl (y_assign hS rfl) ?_; clear hS a; intro a hS
    apply wpList_nil
    refine p_norm ?_
    apply wp_ret
    refine p_thenR ?_
    obtain rfl := Option.some.inj hg
    refine fin1 (fn := Try.f7) hS rfl (r_tmp hS rfl) ?_
    exact rfl
  · replace hg := br_f hg hc1
    apply wp_skip
    refine p_norm ?_
    apply wp_seq
    replace hg := bind_some hg; obtain ⟨r8, hr8, hg⟩ := hg
    apply wp_region_lit
    refine q_seq hS rfl rfl rfl (y_move hS rfl) ?_; clear hS a; intro a hS
    refine l_seq rfl (l_call (cap := []) hS rfl Try.func10 rfl (by kernel_rfl) rfl rfl (c_token_Split n _ _ hS.lt s_ (by first | omega | (rw [List.length_append]; omega) | (simp only [List.length_append]; omega) | (simp only [List.length_append, List.length_take, List.length_drop, List.length_cons, List.length_nil]; omega)) r8 hr8) ?_); clear hS a; intro v11 a w hK hp hS
    clear hK
    obtain ⟨Au12a1, cu12a1, rfl, hu12a1⟩ := hp
    replace hS := hS.add 102 (slF Rep.str (Au12a1) ((r8.1).length) (cu12a1) (r8.1)) hu12a1
    refine q_seq hS rfl rfl rfl (y_move hS rfl) ?_; clear hS a; intro a hS
    refine q_seq hS rfl rfl rfl (y_extract hS rfl rfl) ?_; clear hS a; intro a hS
    refine q_seq hS rfl rfl rfl (y_extract hS rfl rfl) ?_; clear hS a; intro a hS
    refine q_seq hS rfl rfl rfl (y_assign hS rfl) ?_; clear hS a; intro a hS
    refine q_seq hS rfl rfl rfl (y_assign hS rfl) ?_; clear hS a; intro a hS
    apply wpList_nil
    refine p_norm ?_
    apply wp_seq
    replace hg := bind_some hg; obtain ⟨r13, hr13, hg⟩ := hg
    replace hg := bind_some hg; obtain ⟨r16, hr16, hg⟩ := hg
    apply wp_region_lit
    refine q_seq hS rfl rfl rfl (y_move hS rfl) ?_; clear hS a; intro a hS
    refine l_seq rfl (l_call (cap := []) hS rfl Try.func19 rfl (by kernel_rfl) rfl rfl (c_law27_raised n _ _ hS.lt s_ (by first | omega | (rw [List.length_append]; omega) | (simp only [List.length_append]; omega) | (simp only [List.length_append, List.length_take, List.length_drop, List.length_cons, List.length_nil]; omega)) r13 hr13) ?_); clear hS a; intro v19 a w hK hp hS
    clear hK
    obtain ⟨rfl, lu20a1⟩ := hp
    refine l_seq rfl (l_call (cap := []) hS rfl Try.func10 rfl (by kernel_rfl) rfl rfl (c_token_Split n _ _ hS.lt r13 (by first | omega | (rw [List.length_append]; omega) | (simp only [List.length_append]; omega) | (simp only [List.length_append, List.length_take, List.length_drop, List.length_cons, List.length_nil]; omega)) r16 hr16) ?_); clear hS a; intro v21 a w hK hp hS
    clear hK
    obtain ⟨Au22a1, cu22a1, rfl, hu22a1⟩ := hp
    replace hS := hS.add 104 (slF Rep.str (Au22a1) ((r16.1).length) (cu22a1) (r16.1)) hu22a1
    refine q_seq hS rfl rfl rfl (y_move hS rfl) ?_; clear hS a; intro a hS
    refine q_seq hS rfl rfl rfl (y_extract hS rfl rfl) ?_; clear hS a; intro a hS
    refine q_seq hS rfl rfl rfl (y_extract hS rfl rfl) ?_; clear hS a; intro a hS
    refine q_seq hS rfl rfl rfl (y_assign hS rfl) ?_; clear hS a; intro a hS
    refine q_seq hS rfl rfl rfl (y_assign hS rfl) ?_; clear hS a; intro a hS
    apply wpList_nil
    refine p_norm ?_
    apply wp_seq
    replace hg := chk_some hg; obtain ⟨hk23, hg⟩ := hg
    replace hg := chk_some hg; obtain ⟨hk24, hg⟩ := hg
    replace hg := bind_some hg; obtain ⟨r25, hr25, hg⟩ := hg
    apply wp_region_lit
    refine q_seq hS rfl rfl rfl (y_move hS rfl) ?_; clear hS a; intro a hS
    refine q_seq hS rfl rfl rfl (y_concat hS rfl rfl hk23) ?_; clear hS a; intro a hS
    refine q_seq hS rfl rfl rfl (y_concat hS rfl rfl hk24) ?_; clear hS a; intro a hS
    refine l_seq rfl (l_call (cap := []) hS rfl Try.func10 rfl (by kernel_rfl) rfl rfl (c_token_Split n _ _ hS.lt (([10, 32] ++ s_) ++ [9, 13]) (by first | omega | (rw [List.length_append]; omega) | (simp only [List.length_append]; omega) | (simp only [List.length_append, List.length_take, List.length_drop, List.length_cons, List.length_nil]; omega)) r25 hr25) ?_); clear hS a; intro v28 a w hK hp hS
    clear hK
    obtain ⟨Au29a1, cu29a1, rfl, hu29a1⟩ := hp
    replace hS := hS.add 106 (slF Rep.str (Au29a1) ((r25.1).length) (cu29a1) (r25.1)) hu29a1
    refine q_seq hS rfl rfl rfl (y_move hS rfl) ?_; clear hS a; intro a hS
    refine q_seq hS rfl rfl rfl (y_extract hS rfl rfl) ?_; clear hS a; intro a hS
    refine q_seq hS rfl rfl rfl (y_extract hS rfl rfl) ?_; clear hS a; intro a hS
    refine q_seq hS rfl rfl rfl (y_assign hS rfl) ?_; clear hS a; intro a hS
    refine q_seq hS rfl rfl rfl (y_assign hS rfl) ?_; clear hS a; intro a hS
    apply wpList_nil
    refine p_norm ?_
    apply wp_seq
    rcases Decidable.em (r8.2 = r16.2) with hs30 | hs30
    · have hs30e : decide (r8.2 = r16.2) = true := decide_eq_true hs30
      replace hg := br_t hg hs30
      rcases Decidable.em (r8.2 = r25.2) with hs31 | hs31
      · have hs31e : decide (r8.2 = r25.2) = true := decide_eq_true hs31
        replace hg := br_t hg hs31
        replace hg := bind_some hg; obtain ⟨r32, hr32, hg⟩ := hg
        rcases Bool.eq_false_or_eq_true (r32) with hs35 | hs35
        · replace hg := br_t hg hs35
          replace hg := bind_some hg; obtain ⟨r36, hr36, hg⟩ := hg
          rcases Bool.eq_false_or_eq_true (r36) with hs39 | hs39
          · replace hg := br_t hg hs39
            replace hg := bind_some hg; obtain ⟨r40, hr40, hg⟩ := hg
            apply wp_region_lit
            refine q_seq hS rfl rfl rfl (y_move hS rfl) ?_; clear hS a; intro a hS
            refine q_seq hS rfl rfl rfl (y_move hS rfl) ?_; clear hS a; intro a hS
            refine q_seq hS rfl rfl rfl (yl_b (y_eql hS rfl rfl) hs30e) ?_; clear hS a; intro a hS
            refine q_seq hS rfl rfl rfl (y_move hS rfl) ?_; clear hS a; intro a hS
            refine g_yes hS rfl rfl rfl rfl (l_quiet hS rfl rfl (y_move hS rfl) ?_); clear hS a; intro a hS
            refine g_yes hS rfl rfl rfl rfl (l_quiet hS rfl rfl (y_move hS rfl) ?_); clear hS a; intro a hS
            refine g_yes hS rfl rfl rfl rfl (l_quiet hS rfl rfl (yl_b (y_eql hS rfl rfl) hs31e) ?_); clear hS a; intro a hS
            refine q_seq hS rfl rfl rfl (y_pick_t hS rfl rfl) ?_; clear hS a; intro a hS
            refine q_seq hS rfl rfl rfl (y_move hS rfl) ?_; clear hS a; intro a hS
            refine g_yes hS rfl rfl rfl rfl (l_quiet hS rfl rfl (y_move hS rfl) ?_); clear hS a; intro a hS
            refine g_yes hS rfl rfl rfl rfl (l_quiet hS rfl rfl (y_move hS rfl) ?_); clear hS a; intro a hS
            refine g_yes hS rfl rfl rfl rfl (l_call (cap := []) hS rfl Try.func12 rfl (by kernel_rfl) rfl rfl (c_r01_Same n _ _ hS.lt r8.1 (Au12a1) (cu12a1) (hS.fact (k := 102) rfl) r16.1 (Au22a1) (cu22a1) (hS.fact (k := 104) rfl) r32 hr32) ?_); clear hS a; intro v43 a w hK hp hS
            clear hK
            obtain rfl := hp.trans (congrArg Value.bool hs35)
            refine q_seq hS rfl rfl rfl (y_pick_t hS rfl rfl) ?_; clear hS a; intro a hS
            refine q_seq hS rfl rfl rfl (y_move hS rfl) ?_; clear hS a; intro a hS
            refine g_yes hS rfl rfl rfl rfl (l_quiet hS rfl rfl (y_move hS rfl) ?_); clear hS a; intro a hS
            refine g_yes hS rfl rfl rfl rfl (l_quiet hS rfl rfl (y_move hS rfl) ?_); clear hS a; intro a hS
            refine g_yes hS rfl rfl rfl rfl (l_call (cap := []) hS rfl Try.func12 rfl (by kernel_rfl) rfl rfl (c_r01_Same n _ _ hS.lt r8.1 (Au12a1) (cu12a1) (hS.fact (k := 102) rfl) r25.1 (Au29a1) (cu29a1) (hS.fact (k := 106) rfl) r36 hr36) ?_); clear hS a; intro v45 a w hK hp hS
            clear hK
            obtain rfl := hp.trans (congrArg Value.bool hs39)
            refine q_seq hS rfl rfl rfl (y_pick_t hS rfl rfl) ?_; clear hS a; intro a hS
            refine q_seq hS rfl rfl rfl (y_move hS rfl) ?_; clear hS a; intro a hS
            refine g_yes hS rfl rfl rfl rfl (l_call (cap := []) hS rfl Try.func9 rfl (by kernel_rfl) rfl rfl (c_law27_exampleHolds n _ _ hS.lt  r40 hr40) ?_); clear hS a; intro v47 a w hK hp hS
            clear hK
            obtain rfl := hp
            refine q_seq hS rfl rfl rfl (y_pick_t hS rfl rfl) ?_; clear hS a; intro a hS
            refine q_seq hS rfl rfl rfl (y_assign hS rfl) ?_; clear hS a; intro a hS
            apply wpList_nil
            refine p_norm ?_
            apply wp_ret
            obtain rfl := Option.some.inj hg
            refine fin1 (fn := Try.f7) hS rfl (r_tmp hS rfl) ?_
            exact rfl
          · replace hg := br_f hg (by rw [hs39]; exact Bool.false_ne_true)
            apply wp_region_lit
            refine q_seq hS rfl rfl rfl (y_move hS rfl) ?_; clear hS a; intro a hS
            refine q_seq hS rfl rfl rfl (y_move hS rfl) ?_; clear hS a; intro a hS
            refine q_seq hS rfl rfl rfl (yl_b (y_eql hS rfl rfl) hs30e) ?_; clear hS a; intro a hS
            refine q_seq hS rfl rfl rfl (y_move hS rfl) ?_; clear hS a; intro a hS
            refine g_yes hS rfl rfl rfl rfl (l_quiet hS rfl rfl (y_move hS rfl) ?_); clear hS a; intro a hS
            refine g_yes hS rfl rfl rfl rfl (l_quiet hS rfl rfl (y_move hS rfl) ?_); clear hS a; intro a hS
            refine g_yes hS rfl rfl rfl rfl (l_quiet hS rfl rfl (yl_b (y_eql hS rfl rfl) hs31e) ?_); clear hS a; intro a hS
            refine q_seq hS rfl rfl rfl (y_pick_t hS rfl rfl) ?_; clear hS a; intro a hS
            refine q_seq hS rfl rfl rfl (y_move hS rfl) ?_; clear hS a; intro a hS
            refine g_yes hS rfl rfl rfl rfl (l_quiet hS rfl rfl (y_move hS rfl) ?_); clear hS a; intro a hS
            refine g_yes hS rfl rfl rfl rfl (l_quiet hS rfl rfl (y_move hS rfl) ?_); clear hS a; intro a hS
            refine g_yes hS rfl rfl rfl rfl (l_call (cap := []) hS rfl Try.func12 rfl (by kernel_rfl) rfl rfl (c_r01_Same n _ _ hS.lt r8.1 (Au12a1) (cu12a1) (hS.fact (k := 102) rfl) r16.1 (Au22a1) (cu22a1) (hS.fact (k := 104) rfl) r32 hr32) ?_); clear hS a; intro v49 a w hK hp hS
            clear hK
            obtain rfl := hp.trans (congrArg Value.bool hs35)
            refine q_seq hS rfl rfl rfl (y_pick_t hS rfl rfl) ?_; clear hS a; intro a hS
            refine q_seq hS rfl rfl rfl (y_move hS rfl) ?_; clear hS a; intro a hS
            refine g_yes hS rfl rfl rfl rfl (l_quiet hS rfl rfl (y_move hS rfl) ?_); clear hS a; intro a hS
            refine g_yes hS rfl rfl rfl rfl (l_quiet hS rfl rfl (y_move hS rfl) ?_); clear hS a; intro a hS
            refine g_yes hS rfl rfl rfl rfl (l_call (cap := []) hS rfl Try.func12 rfl (by kernel_rfl) rfl rfl (c_r01_Same n _ _ hS.lt r8.1 (Au12a1) (cu12a1) (hS.fact (k := 102) rfl) r25.1 (Au29a1) (cu29a1) (hS.fact (k := 106) rfl) r36 hr36) ?_); clear hS a; intro v51 a w hK hp hS
            clear hK
            obtain rfl := hp.trans (congrArg Value.bool hs39)
            refine q_seq hS rfl rfl rfl (y_pick_t hS rfl rfl) ?_; clear hS a; intro a hS
            refine q_seq hS rfl rfl rfl (y_move hS rfl) ?_; clear hS a; intro a hS
            refine g_no hS rfl rfl rfl rfl rfl rfl rfl ?_; clear hS a; intro a hS
            refine q_seq hS rfl rfl rfl (y_pick_f hS rfl rfl) ?_; clear hS a; intro a hS
            refine q_seq hS rfl rfl rfl (y_assign hS rfl) ?_; clear hS a; intro a hS
            apply wpList_nil
            refine p_norm ?_
            apply wp_ret
            obtain rfl := Option.some.inj hg
            refine fin1 (fn := Try.f7) hS rfl (r_tmp hS rfl) ?_
            exact rfl
        · replace hg := br_f hg (by rw [hs35]; exact Bool.false_ne_true)
          apply wp_region_lit
          refine q_seq hS rfl rfl rfl (y_move hS rfl) ?_; clear hS a; intro a hS
          refine q_seq hS rfl rfl rfl (y_move hS rfl) ?_; clear hS a; intro a hS
          refine q_seq hS rfl rfl rfl (yl_b (y_eql hS rfl rfl) hs30e) ?_; clear hS a; intro a hS
          refine q_seq hS rfl rfl rfl (y_move hS rfl) ?_; clear hS a; intro a hS
          refine g_yes hS rfl rfl rfl rfl (l_quiet hS rfl rfl (y_move hS rfl) ?_); clear hS a; intro a hS
          refine g_yes hS rfl rfl rfl rfl (l_quiet hS rfl rfl (y_move hS rfl) ?_); clear hS a; intro a hS
          refine g_yes hS rfl rfl rfl rfl (l_quiet hS rfl rfl (yl_b (y_eql hS rfl rfl) hs31e) ?_); clear hS a; intro a hS
          refine q_seq hS rfl rfl rfl (y_pick_t hS rfl rfl) ?_; clear hS a; intro a hS
          refine q_seq hS rfl rfl rfl (y_move hS rfl) ?_; clear hS a; intro a hS
          refine g_yes hS rfl rfl rfl rfl (l_quiet hS rfl rfl (y_move hS rfl) ?_); clear hS a; intro a hS
          refine g_yes hS rfl rfl rfl rfl (l_quiet hS rfl rfl (y_move hS rfl) ?_); clear hS a; intro a hS
          refine g_yes hS rfl rfl rfl rfl (l_call (cap := []) hS rfl Try.func12 rfl (by kernel_rfl) rfl rfl (c_r01_Same n _ _ hS.lt r8.1 (Au12a1) (cu12a1) (hS.fact (k := 102) rfl) r16.1 (Au22a1) (cu22a1) (hS.fact (k := 104) rfl) r32 hr32) ?_); clear hS a; intro v53 a w hK hp hS
          clear hK
          obtain rfl := hp.trans (congrArg Value.bool hs35)
          refine q_seq hS rfl rfl rfl (y_pick_t hS rfl rfl) ?_; clear hS a; intro a hS
          refine q_seq hS rfl rfl rfl (y_move hS rfl) ?_; clear hS a; intro a hS
          refine g_no hS rfl rfl rfl rfl rfl rfl rfl ?_; clear hS a; intro a hS
          refine g_no hS rfl rfl rfl rfl rfl rfl rfl ?_; clear hS a; intro a hS
          refine g_no hS rfl rfl rfl rfl rfl rfl rfl ?_; clear hS a; intro a hS
          refine q_seq hS rfl rfl rfl (y_pick_f hS rfl rfl) ?_; clear hS a; intro a hS
          refine q_seq hS rfl rfl rfl (y_move hS rfl) ?_; clear hS a; intro a hS
          refine g_no hS rfl rfl rfl rfl rfl rfl rfl ?_; clear hS a; intro a hS
          refine q_seq hS rfl rfl rfl (y_pick_f hS rfl rfl) ?_; clear hS a; intro a hS
          refine q_seq hS rfl rfl rfl (y_assign hS rfl) ?_; clear hS a; intro a hS
          apply wpList_nil
          refine p_norm ?_
          apply wp_ret
          obtain rfl := Option.some.inj hg
          refine fin1 (fn := Try.f7) hS rfl (r_tmp hS rfl) ?_
          exact rfl
      · have hs31e : decide (r8.2 = r25.2) = false := decide_eq_false hs31
        replace hg := br_f hg hs31
        apply wp_region_lit
        refine q_seq hS rfl rfl rfl (y_move hS rfl) ?_; clear hS a; intro a hS
        refine q_seq hS rfl rfl rfl (y_move hS rfl) ?_; clear hS a; intro a hS
        refine q_seq hS rfl rfl rfl (yl_b (y_eql hS rfl rfl) hs30e) ?_; clear hS a; intro a hS
        refine q_seq hS rfl rfl rfl (y_move hS rfl) ?_; clear hS a; intro a hS
        refine g_yes hS rfl rfl rfl rfl (l_quiet hS rfl rfl (y_move hS rfl) ?_); clear hS a; intro a hS
        refine g_yes hS rfl rfl rfl rfl (l_quiet hS rfl rfl (y_move hS rfl) ?_); clear hS a; intro a hS
        refine g_yes hS rfl rfl rfl rfl (l_quiet hS rfl rfl (yl_b (y_eql hS rfl rfl) hs31e) ?_); clear hS a; intro a hS
        refine q_seq hS rfl rfl rfl (y_pick_t hS rfl rfl) ?_; clear hS a; intro a hS
        refine q_seq hS rfl rfl rfl (y_move hS rfl) ?_; clear hS a; intro a hS
        refine g_no hS rfl rfl rfl rfl rfl rfl rfl ?_; clear hS a; intro a hS
        refine g_no hS rfl rfl rfl rfl rfl rfl rfl ?_; clear hS a; intro a hS
        refine g_no hS rfl rfl rfl rfl rfl rfl rfl ?_; clear hS a; intro a hS
        refine q_seq hS rfl rfl rfl (y_pick_f hS rfl rfl) ?_; clear hS a; intro a hS
        refine q_seq hS rfl rfl rfl (y_move hS rfl) ?_; clear hS a; intro a hS
        refine g_no hS rfl rfl rfl rfl rfl rfl rfl ?_; clear hS a; intro a hS
        refine g_no hS rfl rfl rfl rfl rfl rfl rfl ?_; clear hS a; intro a hS
        refine g_no hS rfl rfl rfl rfl rfl rfl rfl ?_; clear hS a; intro a hS
        refine q_seq hS rfl rfl rfl (y_pick_f hS rfl rfl) ?_; clear hS a; intro a hS
        refine q_seq hS rfl rfl rfl (y_move hS rfl) ?_; clear hS a; intro a hS
        refine g_no hS rfl rfl rfl rfl rfl rfl rfl ?_; clear hS a; intro a hS
        refine q_seq hS rfl rfl rfl (y_pick_f hS rfl rfl) ?_; clear hS a; intro a hS
        refine q_seq hS rfl rfl rfl (y_assign hS rfl) ?_; clear hS a; intro a hS
        apply wpList_nil
        refine p_norm ?_
        apply wp_ret
        obtain rfl := Option.some.inj hg
        refine fin1 (fn := Try.f7) hS rfl (r_tmp hS rfl) ?_
        exact rfl
    · have hs30e : decide (r8.2 = r16.2) = false := decide_eq_false hs30
      replace hg := br_f hg hs30
      apply wp_region_lit
      refine q_seq hS rfl rfl rfl (y_move hS rfl) ?_; clear hS a; intro a hS
      refine q_seq hS rfl rfl rfl (y_move hS rfl) ?_; clear hS a; intro a hS
      refine q_seq hS rfl rfl rfl (yl_b (y_eql hS rfl rfl) hs30e) ?_; clear hS a; intro a hS
      refine q_seq hS rfl rfl rfl (y_move hS rfl) ?_; clear hS a; intro a hS
      refine g_no hS rfl rfl rfl rfl rfl rfl rfl ?_; clear hS a; intro a hS
      refine g_no hS rfl rfl rfl rfl rfl rfl rfl ?_; clear hS a; intro a hS
      refine g_no hS rfl rfl rfl rfl rfl rfl rfl ?_; clear hS a; intro a hS
      refine q_seq hS rfl rfl rfl (y_pick_f hS rfl rfl) ?_; clear hS a; intro a hS
      refine q_seq hS rfl rfl rfl (y_move hS rfl) ?_; clear hS a; intro a hS
      refine g_no hS rfl rfl rfl rfl rfl rfl rfl ?_; clear hS a; intro a hS
      refine g_no hS rfl rfl rfl rfl rfl rfl rfl ?_; clear hS a; intro a hS
      refine g_no hS rfl rfl rfl rfl rfl rfl rfl ?_; clear hS a; intro a hS
      refine q_seq hS rfl rfl rfl (y_pick_f hS rfl rfl) ?_; clear hS a; intro a hS
      refine q_seq hS rfl rfl rfl (y_move hS rfl) ?_; clear hS a; intro a hS
      refine g_no hS rfl rfl rfl rfl rfl rfl rfl ?_; clear hS a; intro a hS
      refine g_no hS rfl rfl rfl rfl rfl rfl rfl ?_; clear hS a; intro a hS
      refine g_no hS rfl rfl rfl rfl rfl rfl rfl ?_; clear hS a; intro a hS
      refine q_seq hS rfl rfl rfl (y_pick_f hS rfl rfl) ?_; clear hS a; intro a hS
      refine q_seq hS rfl rfl rfl (y_move hS rfl) ?_; clear hS a; intro a hS
      refine g_no hS rfl rfl rfl rfl rfl rfl rfl ?_; clear hS a; intro a hS
      refine q_seq hS rfl rfl rfl (y_pick_f hS rfl rfl) ?_; clear hS a; intro a hS
      refine q_seq hS rfl rfl rfl (y_assign hS rfl) ?_; clear hS a; intro a hS
      apply wpList_nil
      refine p_norm ?_
      apply wp_ret
      obtain rfl := Option.some.inj hg
      refine fin1 (fn := Try.f7) hS rfl (r_tmp hS rfl) ?_
      exact rfl
set_option maxHeartbeats 400000 in
theorem c_law27_TokenConcat (n : Nat) (M : Bs) (w0 : World) (hM : ∀ b, M b → b < w0.heap.size) (t_ : (List UInt8)) (lp01 : (t_).length ≤ 9223372036854775807) (t_' : (List UInt8)) (lp11 : (t_').length ≤ 9223372036854775807) (r : Bool) (hg : law27_TokenConcat n t_ t_' = some r) :
    Calls Try.prog 8 [.string (bs (t_)), .string (bs (t_'))].toArray w0 (Ret noB w0 fun v w => v = .bool (r)) := by
  unfold law27_TokenConcat at hg
  refine enter M noB Try.func8 rfl rfl hM ?_
  intro a hS
  apply wp_seq
  apply wp_region_lit
  refine q_seq hS rfl rfl rfl (y_assign hS rfl) ?_; clear hS a; intro a hS
  apply wpList_nil
  refine p_norm ?_
  apply wp_seq
  apply wp_seq
  replace hg := jn_some hg; obtain ⟨k1, hg, hk1⟩ := hg
  refine c_post (fun a w => ∃ (t_2 : Bool), k1 t_2 = some r ∧ St (⟨Try.f8.ntmps, M, noB, w0⟩ : Ctx) [(0, .string (bs (t_))), (1, .string (bs (t_'))), (18, .bool (t_2))] [] [] a w) ?_ ?_
  · rcases Decidable.em ((1000 : Nat) < ((t_).length)) with hs3 | hs3
    · have hs3e : decide ((1000 : Nat) < ((t_).length)) = true := decide_eq_true hs3
      replace hg := br_t hg hs3
      have hmx4 : (t_).length ≤ 9223372036854775807 := (by first | omega | (rw [List.length_append]; omega) | (simp only [List.length_append]; omega) | (simp only [List.length_append, List.length_take, List.length_drop, List.length_cons, List.length_nil]; omega))
      apply wp_region_lit
      refine q_seq hS rfl rfl rfl (y_move hS rfl) ?_; clear hS a; intro a hS
      refine q_seq hS rfl rfl rfl (y_lenStrN hS rfl Try.underlying9) ?_; clear hS a; intro a hS
      refine q_seq hS rfl rfl rfl (yl_b (y_gtrN (i := ((t_).length)) (j := 1000) hS rfl rfl) hs3e) ?_; clear hS a; intro a hS
      refine q_seq hS rfl rfl rfl (y_move hS rfl) ?_; clear hS a; intro a hS
      refine g_no hS rfl rfl rfl rfl rfl rfl rfl ?_; clear hS a; intro a hS
      refine g_no hS rfl rfl rfl rfl rfl rfl rfl ?_; clear hS a; intro a hS
      refine g_no hS rfl rfl rfl rfl rfl rfl rfl ?_; clear hS a; intro a hS
      refine q_seq hS rfl rfl rfl (y_pick_t hS rfl rfl) ?_; clear hS a; intro a hS
      apply wpList_nil
      refine p_norm ?_
      exact ⟨(true), hg, (hS.sub ⟨rfl, rfl, rfl, trivial⟩ trivial trivial)⟩
    · have hs3e : decide ((1000 : Nat) < ((t_).length)) = false := decide_eq_false hs3
      replace hg := br_f hg hs3
      apply wp_region_lit
      refine q_seq hS rfl rfl rfl (y_move hS rfl) ?_; clear hS a; intro a hS
      refine q_seq hS rfl rfl rfl (y_lenStrN hS rfl Try.underlying9) ?_; clear hS a; intro a hS
      refine q_seq hS rfl rfl rfl (yl_b (y_gtrN (i := ((t_).length)) (j := 1000) hS rfl rfl) hs3e) ?_; clear hS a; intro a hS
      refine q_seq hS rfl rfl rfl (y_move hS rfl) ?_; clear hS a; intro a hS
      refine g_yes hS rfl rfl rfl rfl (l_quiet hS rfl rfl (y_move hS rfl) ?_); clear hS a; intro a hS
      refine g_yes hS rfl rfl rfl rfl (l_quiet hS rfl rfl (y_lenStrN hS rfl Try.underlying9) ?_); clear hS a; intro a hS
      refine g_yes hS rfl rfl rfl rfl (l_quiet hS rfl rfl (y_gtrN (i := ((t_').length)) (j := 1000) hS rfl rfl) ?_); clear hS a; intro a hS
      refine q_seq hS rfl rfl rfl (y_pick_f hS rfl rfl) ?_; clear hS a; intro a hS
      apply wpList_nil
      refine p_norm ?_
      exact ⟨(decide ((1000 : Nat) < ((t_').length))), hg, (hS.sub ⟨rfl, rfl, rfl, trivial⟩ trivial trivial)⟩
  clear hS a; rintro a w ⟨t_2, hg, hS⟩
  subst hk1
  refine c_cond hS rfl (fun hc5 => ?_) (fun hc5 => ?_)
  · replace hg := br_t hg hc5
    apply wp_seq
    replace hg := bind_some hg; obtain ⟨r6, hr6, hg⟩ := hg
    apply wp_region_lit
    refine l_seq rfl (l_call (cap := []) hS rfl Try.func9 rfl (by kernel_rfl) rfl rfl (c_law27_exampleHolds n _ _ hS.lt  r6 hr6) ?_); clear hS a; intro v9 a w hK hp hS
    clear hK
    obtain rfl := hp
    refine q_seq hS rfl rfl rfl (y_assign hS rfl) ?_; clear hS a; intro a hS
    apply wpList_nil
    refine p_norm ?_
    apply wp_ret
    refine p_thenR ?_
    obtain rfl := Option.some.inj hg
    refine fin1 (fn := Try.f8) hS rfl (r_tmp hS rfl) ?_
    exact rfl
  · replace hg := br_f hg (by rw [hc5]; exact Bool.false_ne_true)
    apply wp_skip
    refine p_norm ?_
    apply wp_seq
    replace hg := bind_some hg; obtain ⟨r11, hr11, hg⟩ := hg
    apply wp_region_lit
    refine q_seq hS rfl rfl rfl (y_move hS rfl) ?_; clear hS a; intro a hS
    refine l_seq rfl (l_call (cap := []) hS rfl Try.func10 rfl (by kernel_rfl) rfl rfl (c_token_Split n _ _ hS.lt t_ (by first | omega | (rw [List.length_append]; omega) | (simp only [List.length_append]; omega) | (simp only [List.length_append, List.length_take, List.length_drop, List.length_cons, List.length_nil]; omega)) r11 hr11) ?_); clear hS a; intro v14 a w hK hp hS
    clear hK
    obtain ⟨Au15a1, cu15a1, rfl, hu15a1⟩ := hp
    replace hS := hS.add 102 (slF Rep.str (Au15a1) ((r11.1).length) (cu15a1) (r11.1)) hu15a1
    refine q_seq hS rfl rfl rfl (y_move hS rfl) ?_; clear hS a; intro a hS
    refine q_seq hS rfl rfl rfl (y_extract hS rfl rfl) ?_; clear hS a; intro a hS
    refine q_seq hS rfl rfl rfl (y_extract hS rfl rfl) ?_; clear hS a; intro a hS
    refine q_seq hS rfl rfl rfl (y_assign hS rfl) ?_; clear hS a; intro a hS
    refine q_seq hS rfl rfl rfl (y_assign hS rfl) ?_; clear hS a; intro a hS
    apply wpList_nil
    refine p_norm ?_
    apply wp_seq
    replace hg := bind_some hg; obtain ⟨r16, hr16, hg⟩ := hg
    apply wp_region_lit
    refine q_seq hS rfl rfl rfl (y_move hS rfl) ?_; clear hS a; intro a hS
    refine l_seq rfl (l_call (cap := []) hS rfl Try.func10 rfl (by kernel_rfl) rfl rfl (c_token_Split n _ _ hS.lt t_' (by first | omega | (rw [List.length_append]; omega) | (simp only [List.length_append]; omega) | (simp only [List.length_append, List.length_take, List.length_drop, List.length_cons, List.length_nil]; omega)) r16 hr16) ?_); clear hS a; intro v19 a w hK hp hS
    clear hK
    obtain ⟨Au20a1, cu20a1, rfl, hu20a1⟩ := hp
    replace hS := hS.add 104 (slF Rep.str (Au20a1) ((r16.1).length) (cu20a1) (r16.1)) hu20a1
    refine q_seq hS rfl rfl rfl (y_move hS rfl) ?_; clear hS a; intro a hS
    refine q_seq hS rfl rfl rfl (y_extract hS rfl rfl) ?_; clear hS a; intro a hS
    refine q_seq hS rfl rfl rfl (y_extract hS rfl rfl) ?_; clear hS a; intro a hS
    refine q_seq hS rfl rfl rfl (y_assign hS rfl) ?_; clear hS a; intro a hS
    refine q_seq hS rfl rfl rfl (y_assign hS rfl) ?_; clear hS a; intro a hS
    apply wpList_nil
    refine p_norm ?_
    apply wp_seq
    apply wp_seq
    replace hg := jn_some hg; obtain ⟨k21, hg, hk21⟩ := hg
    refine c_post (fun a w => ∃ (t_22 : Bool), k21 t_22 = some r ∧ St (⟨Try.f8.ntmps, M, noB, w0⟩ : Ctx) [(0, .string (bs (t_))), (1, .string (bs (t_'))), (5, .slice (Au15a1) ((r11.1).length) (cu15a1)), (6, .int .i64 (r11.2)), (7, .slice (Au20a1) ((r16.1).length) (cu20a1)), (8, .int .i64 (r16.2)), (35, .bool (t_22))] [] [(102, slF Rep.str (Au15a1) ((r11.1).length) (cu15a1) (r11.1)), (104, slF Rep.str (Au20a1) ((r16.1).length) (cu20a1) (r16.1))] a w) ?_ ?_
    · rcases Decidable.em (r11.2 ≠ 0) with hs23 | hs23
      · have hs23e : decide (r11.2 ≠ 0) = true := decide_eq_true hs23
        replace hg := br_t hg hs23
        apply wp_region_lit
        refine q_seq hS rfl rfl rfl (y_move hS rfl) ?_; clear hS a; intro a hS
        refine q_seq hS rfl rfl rfl (yl_b (y_neq hS rfl rfl) hs23e) ?_; clear hS a; intro a hS
        refine q_seq hS rfl rfl rfl (y_move hS rfl) ?_; clear hS a; intro a hS
        refine g_no hS rfl rfl rfl rfl rfl rfl rfl ?_; clear hS a; intro a hS
        refine g_no hS rfl rfl rfl rfl rfl rfl rfl ?_; clear hS a; intro a hS
        refine q_seq hS rfl rfl rfl (y_pick_t hS rfl rfl) ?_; clear hS a; intro a hS
        apply wpList_nil
        refine p_norm ?_
        exact ⟨(true), hg, (hS.sub ⟨rfl, rfl, rfl, rfl, rfl, rfl, rfl, trivial⟩ trivial ⟨rfl, rfl, trivial⟩)⟩
      · have hs23e : decide (r11.2 ≠ 0) = false := decide_eq_false hs23
        replace hg := br_f hg hs23
        apply wp_region_lit
        refine q_seq hS rfl rfl rfl (y_move hS rfl) ?_; clear hS a; intro a hS
        refine q_seq hS rfl rfl rfl (yl_b (y_neq hS rfl rfl) hs23e) ?_; clear hS a; intro a hS
        refine q_seq hS rfl rfl rfl (y_move hS rfl) ?_; clear hS a; intro a hS
        refine g_yes hS rfl rfl rfl rfl (l_quiet hS rfl rfl (y_move hS rfl) ?_); clear hS a; intro a hS
        refine g_yes hS rfl rfl rfl rfl (l_quiet hS rfl rfl (y_neq hS rfl rfl) ?_); clear hS a; intro a hS
        refine q_seq hS rfl rfl rfl (y_pick_f hS rfl rfl) ?_; clear hS a; intro a hS
        apply wpList_nil
        refine p_norm ?_
        exact ⟨(decide (r16.2 ≠ 0)), hg, (hS.sub ⟨rfl, rfl, rfl, rfl, rfl, rfl, rfl, trivial⟩ trivial ⟨rfl, rfl, trivial⟩)⟩
    clear hS a; rintro a w ⟨t_22, hg, hS⟩
    subst hk21
    refine c_cond hS rfl (fun hc24 => ?_) (fun hc24 => ?_)
    · replace hg := br_t hg hc24
      apply wp_seq
      rcases Decidable.em (r11.2 = 0) with hs25 | hs25
      · have hs25e : decide (r11.2 = 0) = true := decide_eq_true hs25
        replace hg := br_t hg hs25
        rcases Decidable.em (r16.2 = 0) with hs26 | hs26
        · have hs26e : decide (r16.2 = 0) = true := decide_eq_true hs26
          replace hg := br_t hg hs26
          replace hg := bind_some hg; obtain ⟨r27, hr27, hg⟩ := hg
          apply wp_region_lit
          refine q_seq hS rfl rfl rfl (y_move hS rfl) ?_; clear hS a; intro a hS
          refine q_seq hS rfl rfl rfl (yl_b (y_eql hS rfl rfl) hs25e) ?_; clear hS a; intro a hS
          refine q_seq hS rfl rfl rfl (y_move hS rfl) ?_; clear hS a; intro a hS
          refine g_no hS rfl rfl rfl rfl rfl rfl rfl ?_; clear hS a; intro a hS
          refine g_no hS rfl rfl rfl rfl rfl rfl rfl ?_; clear hS a; intro a hS
          refine g_no hS rfl rfl rfl rfl rfl rfl rfl ?_; clear hS a; intro a hS
          refine q_seq hS rfl rfl rfl (y_pick_t hS rfl rfl) ?_; clear hS a; intro a hS
          refine q_seq hS rfl rfl rfl (y_move hS rfl) ?_; clear hS a; intro a hS
          refine g_yes hS rfl rfl rfl rfl (l_quiet hS rfl rfl (y_move hS rfl) ?_); clear hS a; intro a hS
          refine g_yes hS rfl rfl rfl rfl (l_quiet hS rfl rfl (yl_b (y_eql hS rfl rfl) hs26e) ?_); clear hS a; intro a hS
          refine g_yes hS rfl rfl rfl rfl (l_quiet hS rfl rfl (y_move hS rfl) ?_); clear hS a; intro a hS
          refine g_no hS rfl rfl rfl rfl rfl rfl rfl ?_; clear hS a; intro a hS
          refine g_no hS rfl rfl rfl rfl rfl rfl rfl ?_; clear hS a; intro a hS
          refine g_no hS rfl rfl rfl rfl rfl rfl rfl ?_; clear hS a; intro a hS
          refine g_yes hS rfl rfl rfl rfl (l_quiet hS rfl rfl (y_pick_t hS rfl rfl) ?_); clear hS a; intro a hS
          refine q_seq hS rfl rfl rfl (y_pick_t hS rfl rfl) ?_; clear hS a; intro a hS
          refine q_seq hS rfl rfl rfl (y_move hS rfl) ?_; clear hS a; intro a hS
          refine g_yes hS rfl rfl rfl rfl (l_call (cap := []) hS rfl Try.func9 rfl (by kernel_rfl) rfl rfl (c_law27_exampleHolds n _ _ hS.lt  r27 hr27) ?_); clear hS a; intro v30 a w hK hp hS
          clear hK
          obtain rfl := hp
          refine q_seq hS rfl rfl rfl (y_pick_t hS rfl rfl) ?_; clear hS a; intro a hS
          refine q_seq hS rfl rfl rfl (y_assign hS rfl) ?_; clear hS a; intro a hS
          apply wpList_nil
          refine p_norm ?_
          apply wp_ret
          refine p_thenR ?_
          obtain rfl := Option.some.inj hg
          refine fin1 (fn := Try.f8) hS rfl (r_tmp hS rfl) ?_
          exact rfl
        · have hs26e : decide (r16.2 = 0) = false := decide_eq_false hs26
          replace hg := br_f hg hs26
          rcases Decidable.em (((r16.1).length) = 0) with hs32 | hs32
          · have hs32e : decide (((r16.1).length) = 0) = true := decide_eq_true hs32
            replace hg := br_t hg hs32
            replace hg := bind_some hg; obtain ⟨r33, hr33, hg⟩ := hg
            apply wp_region_lit
            refine q_seq hS rfl rfl rfl (y_move hS rfl) ?_; clear hS a; intro a hS
            refine q_seq hS rfl rfl rfl (yl_b (y_eql hS rfl rfl) hs25e) ?_; clear hS a; intro a hS
            refine q_seq hS rfl rfl rfl (y_move hS rfl) ?_; clear hS a; intro a hS
            refine g_no hS rfl rfl rfl rfl rfl rfl rfl ?_; clear hS a; intro a hS
            refine g_no hS rfl rfl rfl rfl rfl rfl rfl ?_; clear hS a; intro a hS
            refine g_no hS rfl rfl rfl rfl rfl rfl rfl ?_; clear hS a; intro a hS
            refine q_seq hS rfl rfl rfl (y_pick_t hS rfl rfl) ?_; clear hS a; intro a hS
            refine q_seq hS rfl rfl rfl (y_move hS rfl) ?_; clear hS a; intro a hS
            refine g_yes hS rfl rfl rfl rfl (l_quiet hS rfl rfl (y_move hS rfl) ?_); clear hS a; intro a hS
            refine g_yes hS rfl rfl rfl rfl (l_quiet hS rfl rfl (yl_b (y_eql hS rfl rfl) hs26e) ?_); clear hS a; intro a hS
            refine g_yes hS rfl rfl rfl rfl (l_quiet hS rfl rfl (y_move hS rfl) ?_); clear hS a; intro a hS
            refine g_yes hS rfl rfl rfl rfl (l_quiet hS rfl rfl (y_move hS rfl) ?_); clear hS a; intro a hS
            refine g_yes hS rfl rfl rfl rfl (l_quiet hS rfl rfl (y_lenSlice hS rfl Try.underlying23) ?_); clear hS a; intro a hS
            refine g_yes hS rfl rfl rfl rfl (l_quiet hS rfl rfl (yl_b (y_eqlN (i := ((r16.1).length)) (j := 0) hS rfl rfl) hs32e) ?_); clear hS a; intro a hS
            refine g_yes hS rfl rfl rfl rfl (l_quiet hS rfl rfl (y_pick_f hS rfl rfl) ?_); clear hS a; intro a hS
            refine q_seq hS rfl rfl rfl (y_pick_t hS rfl rfl) ?_; clear hS a; intro a hS
            refine q_seq hS rfl rfl rfl (y_move hS rfl) ?_; clear hS a; intro a hS
            refine g_yes hS rfl rfl rfl rfl (l_call (cap := []) hS rfl Try.func9 rfl (by kernel_rfl) rfl rfl (c_law27_exampleHolds n _ _ hS.lt  r33 hr33) ?_); clear hS a; intro v36 a w hK hp hS
            clear hK
            obtain rfl := hp
            refine q_seq hS rfl rfl rfl (y_pick_t hS rfl rfl) ?_; clear hS a; intro a hS
            refine q_seq hS rfl rfl rfl (y_assign hS rfl) ?_; clear hS a; intro a hS
            apply wpList_nil
            refine p_norm ?_
            apply wp_ret
            refine p_thenR ?_
            obtain rfl := Option.some.inj hg
            refine fin1 (fn := Try.f8) hS rfl (r_tmp hS rfl) ?_
            exact rfl
          · have hs32e : decide (((r16.1).length) = 0) = false := decide_eq_false hs32
            replace hg := br_f hg hs32
            apply wp_region_lit
            refine q_seq hS rfl rfl rfl (y_move hS rfl) ?_; clear hS a; intro a hS
            refine q_seq hS rfl rfl rfl (yl_b (y_eql hS rfl rfl) hs25e) ?_; clear hS a; intro a hS
            refine q_seq hS rfl rfl rfl (y_move hS rfl) ?_; clear hS a; intro a hS
            refine g_no hS rfl rfl rfl rfl rfl rfl rfl ?_; clear hS a; intro a hS
            refine g_no hS rfl rfl rfl rfl rfl rfl rfl ?_; clear hS a; intro a hS
            refine g_no hS rfl rfl rfl rfl rfl rfl rfl ?_; clear hS a; intro a hS
            refine q_seq hS rfl rfl rfl (y_pick_t hS rfl rfl) ?_; clear hS a; intro a hS
            refine q_seq hS rfl rfl rfl (y_move hS rfl) ?_; clear hS a; intro a hS
            refine g_yes hS rfl rfl rfl rfl (l_quiet hS rfl rfl (y_move hS rfl) ?_); clear hS a; intro a hS
            refine g_yes hS rfl rfl rfl rfl (l_quiet hS rfl rfl (yl_b (y_eql hS rfl rfl) hs26e) ?_); clear hS a; intro a hS
            refine g_yes hS rfl rfl rfl rfl (l_quiet hS rfl rfl (y_move hS rfl) ?_); clear hS a; intro a hS
            refine g_yes hS rfl rfl rfl rfl (l_quiet hS rfl rfl (y_move hS rfl) ?_); clear hS a; intro a hS
            refine g_yes hS rfl rfl rfl rfl (l_quiet hS rfl rfl (y_lenSlice hS rfl Try.underlying23) ?_); clear hS a; intro a hS
            refine g_yes hS rfl rfl rfl rfl (l_quiet hS rfl rfl (yl_b (y_eqlN (i := ((r16.1).length)) (j := 0) hS rfl rfl) hs32e) ?_); clear hS a; intro a hS
            refine g_yes hS rfl rfl rfl rfl (l_quiet hS rfl rfl (y_pick_f hS rfl rfl) ?_); clear hS a; intro a hS
            refine q_seq hS rfl rfl rfl (y_pick_t hS rfl rfl) ?_; clear hS a; intro a hS
            refine q_seq hS rfl rfl rfl (y_move hS rfl) ?_; clear hS a; intro a hS
            refine g_no hS rfl rfl rfl rfl rfl rfl rfl ?_; clear hS a; intro a hS
            refine q_seq hS rfl rfl rfl (y_pick_f hS rfl rfl) ?_; clear hS a; intro a hS
            refine q_seq hS rfl rfl rfl (y_assign hS rfl) ?_; clear hS a; intro a hS
            apply wpList_nil
            refine p_norm ?_
            apply wp_ret
            refine p_thenR ?_
            obtain rfl := Option.some.inj hg
            refine fin1 (fn := Try.f8) hS rfl (r_tmp hS rfl) ?_
            exact rfl
      · have hs25e : decide (r11.2 = 0) = false := decide_eq_false hs25
        replace hg := br_f hg hs25
        rcases Decidable.em (((r11.1).length) = 0) with hs38 | hs38
        · have hs38e : decide (((r11.1).length) = 0) = true := decide_eq_true hs38
          replace hg := br_t hg hs38
          rcases Decidable.em (r16.2 = 0) with hs39 | hs39
          · have hs39e : decide (r16.2 = 0) = true := decide_eq_true hs39
            replace hg := br_t hg hs39
            replace hg := bind_some hg; obtain ⟨r40, hr40, hg⟩ := hg
            apply wp_region_lit
            refine q_seq hS rfl rfl rfl (y_move hS rfl) ?_; clear hS a; intro a hS
            refine q_seq hS rfl rfl rfl (yl_b (y_eql hS rfl rfl) hs25e) ?_; clear hS a; intro a hS
            refine q_seq hS rfl rfl rfl (y_move hS rfl) ?_; clear hS a; intro a hS
            refine g_yes hS rfl rfl rfl rfl (l_quiet hS rfl rfl (y_move hS rfl) ?_); clear hS a; intro a hS
            refine g_yes hS rfl rfl rfl rfl (l_quiet hS rfl rfl (y_lenSlice hS rfl Try.underlying23) ?_); clear hS a; intro a hS
            refine g_yes hS rfl rfl rfl rfl (l_quiet hS rfl rfl (yl_b (y_eqlN (i := ((r11.1).length)) (j := 0) hS rfl rfl) hs38e) ?_); clear hS a; intro a hS
            refine q_seq hS rfl rfl rfl (y_pick_f hS rfl rfl) ?_; clear hS a; intro a hS
            refine q_seq hS rfl rfl rfl (y_move hS rfl) ?_; clear hS a; intro a hS
            refine g_yes hS rfl rfl rfl rfl (l_quiet hS rfl rfl (y_move hS rfl) ?_); clear hS a; intro a hS
            refine g_yes hS rfl rfl rfl rfl (l_quiet hS rfl rfl (yl_b (y_eql hS rfl rfl) hs39e) ?_); clear hS a; intro a hS
            refine g_yes hS rfl rfl rfl rfl (l_quiet hS rfl rfl (y_move hS rfl) ?_); clear hS a; intro a hS
            refine g_no hS rfl rfl rfl rfl rfl rfl rfl ?_; clear hS a; intro a hS
            refine g_no hS rfl rfl rfl rfl rfl rfl rfl ?_; clear hS a; intro a hS
            refine g_no hS rfl rfl rfl rfl rfl rfl rfl ?_; clear hS a; intro a hS
            refine g_yes hS rfl rfl rfl rfl (l_quiet hS rfl rfl (y_pick_t hS rfl rfl) ?_); clear hS a; intro a hS
            refine q_seq hS rfl rfl rfl (y_pick_t hS rfl rfl) ?_; clear hS a; intro a hS
            refine q_seq hS rfl rfl rfl (y_move hS rfl) ?_; clear hS a; intro a hS
            refine g_yes hS rfl rfl rfl rfl (l_call (cap := []) hS rfl Try.func9 rfl (by kernel_rfl) rfl rfl (c_law27_exampleHolds n _ _ hS.lt  r40 hr40) ?_); clear hS a; intro v43 a w hK hp hS
            clear hK
            obtain rfl := hp
            refine q_seq hS rfl rfl rfl (y_pick_t hS rfl rfl) ?_; clear hS a; intro a hS
            refine q_seq hS rfl rfl rfl (y_assign hS rfl) ?_; clear hS a; intro a hS
            apply wpList_nil
            refine p_norm ?_
            apply wp_ret
            refine p_thenR ?_
            obtain rfl := Option.some.inj hg
            refine fin1 (fn := Try.f8) hS rfl (r_tmp hS rfl) ?_
            exact rfl
          · have hs39e : decide (r16.2 = 0) = false := decide_eq_false hs39
            replace hg := br_f hg hs39
            rcases Decidable.em (((r16.1).length) = 0) with hs45 | hs45
            · have hs45e : decide (((r16.1).length) = 0) = true := decide_eq_true hs45
              replace hg := br_t hg hs45
              replace hg := bind_some hg; obtain ⟨r46, hr46, hg⟩ := hg
              apply wp_region_lit
              refine q_seq hS rfl rfl rfl (y_move hS rfl) ?_; clear hS a; intro a hS
              refine q_seq hS rfl rfl rfl (yl_b (y_eql hS rfl rfl) hs25e) ?_; clear hS a; intro a hS
              refine q_seq hS rfl rfl rfl (y_move hS rfl) ?_; clear hS a; intro a hS
              refine g_yes hS rfl rfl rfl rfl (l_quiet hS rfl rfl (y_move hS rfl) ?_); clear hS a; intro a hS
              refine g_yes hS rfl rfl rfl rfl (l_quiet hS rfl rfl (y_lenSlice hS rfl Try.underlying23) ?_); clear hS a; intro a hS
              refine g_yes hS rfl rfl rfl rfl (l_quiet hS rfl rfl (yl_b (y_eqlN (i := ((r11.1).length)) (j := 0) hS rfl rfl) hs38e) ?_); clear hS a; intro a hS
              refine q_seq hS rfl rfl rfl (y_pick_f hS rfl rfl) ?_; clear hS a; intro a hS
              refine q_seq hS rfl rfl rfl (y_move hS rfl) ?_; clear hS a; intro a hS
              refine g_yes hS rfl rfl rfl rfl (l_quiet hS rfl rfl (y_move hS rfl) ?_); clear hS a; intro a hS
              refine g_yes hS rfl rfl rfl rfl (l_quiet hS rfl rfl (yl_b (y_eql hS rfl rfl) hs39e) ?_); clear hS a; intro a hS
              refine g_yes hS rfl rfl rfl rfl (l_quiet hS rfl rfl (y_move hS rfl) ?_); clear hS a; intro a hS
              refine g_yes hS rfl rfl rfl rfl (l_quiet hS rfl rfl (y_move hS rfl) ?_); clear hS a; intro a hS
              refine g_yes hS rfl rfl rfl rfl (l_quiet hS rfl rfl (y_lenSlice hS rfl Try.underlying23) ?_); clear hS a; intro a hS
              refine g_yes hS rfl rfl rfl rfl (l_quiet hS rfl rfl (yl_b (y_eqlN (i := ((r16.1).length)) (j := 0) hS rfl rfl) hs45e) ?_); clear hS a; intro a hS
              refine g_yes hS rfl rfl rfl rfl (l_quiet hS rfl rfl (y_pick_f hS rfl rfl) ?_); clear hS a; intro a hS
              refine q_seq hS rfl rfl rfl (y_pick_t hS rfl rfl) ?_; clear hS a; intro a hS
              refine q_seq hS rfl rfl rfl (y_move hS rfl) ?_; clear hS a; intro a hS
              refine g_yes hS rfl rfl rfl rfl (l_call (cap := []) hS rfl Try.func9 rfl (by kernel_rfl) rfl rfl (c_law27_exampleHolds n _ _ hS.lt  r46 hr46) ?_); clear hS a; intro v49 a w hK hp hS
              clear hK
              obtain rfl := hp
              refine q_seq hS rfl rfl rfl (y_pick_t hS rfl rfl) ?_; clear hS a; intro a hS
              refine q_seq hS rfl rfl rfl (y_assign hS rfl) ?_; clear hS a; intro a hS
              apply wpList_nil
              refine p_norm ?_
              apply wp_ret
              refine p_thenR ?_
              obtain rfl := Option.some.inj hg
              refine fin1 (fn := Try.f8) hS rfl (r_tmp hS rfl) ?_
              exact rfl
            · have hs45e : decide (((r16.1).length) = 0) = false := decide_eq_false hs45
              replace hg := br_f hg hs45
              apply wp_region_lit
              refine q_seq hS rfl rfl rfl (y_move hS rfl) ?_; clear hS a; intro a hS
              refine q_seq hS rfl rfl rfl (yl_b (y_eql hS rfl rfl) hs25e) ?_; clear hS a; intro a hS
              refine q_seq hS rfl rfl rfl (y_move hS rfl) ?_; clear hS a; intro a hS
              refine g_yes hS rfl rfl rfl rfl (l_quiet hS rfl rfl (y_move hS rfl) ?_); clear hS a; intro a hS
              refine g_yes hS rfl rfl rfl rfl (l_quiet hS rfl rfl (y_lenSlice hS rfl Try.underlying23) ?_); clear hS a; intro a hS
              refine g_yes hS rfl rfl rfl rfl (l_quiet hS rfl rfl (yl_b (y_eqlN (i := ((r11.1).length)) (j := 0) hS rfl rfl) hs38e) ?_); clear hS a; intro a hS
              refine q_seq hS rfl rfl rfl (y_pick_f hS rfl rfl) ?_; clear hS a; intro a hS
              refine q_seq hS rfl rfl rfl (y_move hS rfl) ?_; clear hS a; intro a hS
              refine g_yes hS rfl rfl rfl rfl (l_quiet hS rfl rfl (y_move hS rfl) ?_); clear hS a; intro a hS
              refine g_yes hS rfl rfl rfl rfl (l_quiet hS rfl rfl (yl_b (y_eql hS rfl rfl) hs39e) ?_); clear hS a; intro a hS
              refine g_yes hS rfl rfl rfl rfl (l_quiet hS rfl rfl (y_move hS rfl) ?_); clear hS a; intro a hS
              refine g_yes hS rfl rfl rfl rfl (l_quiet hS rfl rfl (y_move hS rfl) ?_); clear hS a; intro a hS
              refine g_yes hS rfl rfl rfl rfl (l_quiet hS rfl rfl (y_lenSlice hS rfl Try.underlying23) ?_); clear hS a; intro a hS
              refine g_yes hS rfl rfl rfl rfl (l_quiet hS rfl rfl (yl_b (y_eqlN (i := ((r16.1).length)) (j := 0) hS rfl rfl) hs45e) ?_); clear hS a; intro a hS
              refine g_yes hS rfl rfl rfl rfl (l_quiet hS rfl rfl (y_pick_f hS rfl rfl) ?_); clear hS a; intro a hS
              refine q_seq hS rfl rfl rfl (y_pick_t hS rfl rfl) ?_; clear hS a; intro a hS
              refine q_seq hS rfl rfl rfl (y_move hS rfl) ?_; clear hS a; intro a hS
              refine g_no hS rfl rfl rfl rfl rfl rfl rfl ?_; clear hS a; intro a hS
              refine q_seq hS rfl rfl rfl (y_pick_f hS rfl rfl) ?_; clear hS a; intro a hS
              refine q_seq hS rfl rfl rfl (y_assign hS rfl) ?_; clear hS a; intro a hS
              apply wpList_nil
              refine p_norm ?_
              apply wp_ret
              refine p_thenR ?_
              obtain rfl := Option.some.inj hg
              refine fin1 (fn := Try.f8) hS rfl (r_tmp hS rfl) ?_
              exact rfl
        · have hs38e : decide (((r11.1).length) = 0) = false := decide_eq_false hs38
          replace hg := br_f hg hs38
          apply wp_region_lit
          refine q_seq hS rfl rfl rfl (y_move hS rfl) ?_; clear hS a; intro a hS
          refine q_seq hS rfl rfl rfl (yl_b (y_eql hS rfl rfl) hs25e) ?_; clear hS a; intro a hS
          refine q_seq hS rfl rfl rfl (y_move hS rfl) ?_; clear hS a; intro a hS
          refine g_yes hS rfl rfl rfl rfl (l_quiet hS rfl rfl (y_move hS rfl) ?_); clear hS a; intro a hS
          refine g_yes hS rfl rfl rfl rfl (l_quiet hS rfl rfl (y_lenSlice hS rfl Try.underlying23) ?_); clear hS a; intro a hS
          refine g_yes hS rfl rfl rfl rfl (l_quiet hS rfl rfl (yl_b (y_eqlN (i := ((r11.1).length)) (j := 0) hS rfl rfl) hs38e) ?_); clear hS a; intro a hS
          refine q_seq hS rfl rfl rfl (y_pick_f hS rfl rfl) ?_; clear hS a; intro a hS
          refine q_seq hS rfl rfl rfl (y_move hS rfl) ?_; clear hS a; intro a hS
          refine g_no hS rfl rfl rfl rfl rfl rfl rfl ?_; clear hS a; intro a hS
          refine g_no hS rfl rfl rfl rfl rfl rfl rfl ?_; clear hS a; intro a hS
          refine g_no hS rfl rfl rfl rfl rfl rfl rfl ?_; clear hS a; intro a hS
          refine g_no hS rfl rfl rfl rfl rfl rfl rfl ?_; clear hS a; intro a hS
          refine g_no hS rfl rfl rfl rfl rfl rfl rfl ?_; clear hS a; intro a hS
          refine g_no hS rfl rfl rfl rfl rfl rfl rfl ?_; clear hS a; intro a hS
          refine g_no hS rfl rfl rfl rfl rfl rfl rfl ?_; clear hS a; intro a hS
          refine q_seq hS rfl rfl rfl (y_pick_f hS rfl rfl) ?_; clear hS a; intro a hS
          refine q_seq hS rfl rfl rfl (y_move hS rfl) ?_; clear hS a; intro a hS
          refine g_no hS rfl rfl rfl rfl rfl rfl rfl ?_; clear hS a; intro a hS
          refine q_seq hS rfl rfl rfl (y_pick_f hS rfl rfl) ?_; clear hS a; intro a hS
          refine q_seq hS rfl rfl rfl (y_assign hS rfl) ?_; clear hS a; intro a hS
          apply wpList_nil
          refine p_norm ?_
          apply wp_ret
          refine p_thenR ?_
          obtain rfl := Option.some.inj hg
          refine fin1 (fn := Try.f8) hS rfl (r_tmp hS rfl) ?_
          exact rfl
    · replace hg := br_f hg (by rw [hc24]; exact Bool.false_ne_true)
      apply wp_skip
      refine p_norm ?_
      apply wp_seq
      replace hg := chk_some hg; obtain ⟨hk51, hg⟩ := hg
      replace hg := chk_some hg; obtain ⟨hk52, hg⟩ := hg
      replace hg := bind_some hg; obtain ⟨r53, hr53, hg⟩ := hg
      apply wp_region_lit
      refine q_seq hS rfl rfl rfl (y_move hS rfl) ?_; clear hS a; intro a hS
      refine q_seq hS rfl rfl rfl (y_concat hS rfl rfl hk51) ?_; clear hS a; intro a hS
      refine q_seq hS rfl rfl rfl (y_move hS rfl) ?_; clear hS a; intro a hS
      refine q_seq hS rfl rfl rfl (y_concat hS rfl rfl hk52) ?_; clear hS a; intro a hS
      refine l_seq rfl (l_call (cap := []) hS rfl Try.func10 rfl (by kernel_rfl) rfl rfl (c_token_Split n _ _ hS.lt ((t_ ++ [32]) ++ t_') (by first | omega | (rw [List.length_append]; omega) | (simp only [List.length_append]; omega) | (simp only [List.length_append, List.length_take, List.length_drop, List.length_cons, List.length_nil]; omega)) r53 hr53) ?_); clear hS a; intro v56 a w hK hp hS
      clear hK
      obtain ⟨Au57a1, cu57a1, rfl, hu57a1⟩ := hp
      replace hS := hS.add 106 (slF Rep.str (Au57a1) ((r53.1).length) (cu57a1) (r53.1)) hu57a1
      refine q_seq hS rfl rfl rfl (y_move hS rfl) ?_; clear hS a; intro a hS
      refine q_seq hS rfl rfl rfl (y_extract hS rfl rfl) ?_; clear hS a; intro a hS
      refine q_seq hS rfl rfl rfl (y_extract hS rfl rfl) ?_; clear hS a; intro a hS
      refine q_seq hS rfl rfl rfl (y_assign hS rfl) ?_; clear hS a; intro a hS
      refine q_seq hS rfl rfl rfl (y_assign hS rfl) ?_; clear hS a; intro a hS
      apply wpList_nil
      refine p_norm ?_
      apply wp_seq
      apply wp_seq
      replace hg := chk_some hg; obtain ⟨hk58, hg⟩ := hg
      apply wp_region_lit
      refine q_seq hS rfl rfl rfl (y_move hS rfl) ?_; clear hS a; intro a hS
      refine q_seq hS rfl rfl rfl (y_lenSlice hS rfl Try.underlying23) ?_; clear hS a; intro a hS
      refine q_seq hS rfl rfl rfl (y_move hS rfl) ?_; clear hS a; intro a hS
      refine q_seq hS rfl rfl rfl (y_lenSlice hS rfl Try.underlying23) ?_; clear hS a; intro a hS
      refine q_seq hS rfl rfl rfl (y_addN (i := ((r11.1).length)) (j := ((r16.1).length)) hS rfl rfl (in64.2 (by omega))) ?_; clear hS a; intro a hS
      refine q_seq hS rfl rfl rfl (y_gtrN (i := ((r11.1).length + (r16.1).length)) (j := 32) hS rfl rfl) ?_; clear hS a; intro a hS
      apply wpList_nil
      refine p_norm ?_
      refine c_dec hS rfl (fun hc59 => ?_) (fun hc59 => ?_)
      · replace hg := br_t hg hc59
        apply wp_seq
        rcases Decidable.em (r53.2 = 7) with hs60 | hs60
        · have hs60e : decide (r53.2 = 7) = true := decide_eq_true hs60
          replace hg := br_t hg hs60
          replace hg := bind_some hg; obtain ⟨r61, hr61, hg⟩ := hg
          apply wp_region_lit
          refine q_seq hS rfl rfl rfl (y_move hS rfl) ?_; clear hS a; intro a hS
          refine q_seq hS rfl rfl rfl (yl_b (y_eql hS rfl rfl) hs60e) ?_; clear hS a; intro a hS
          refine q_seq hS rfl rfl rfl (y_move hS rfl) ?_; clear hS a; intro a hS
          refine g_yes hS rfl rfl rfl rfl (l_call (cap := []) hS rfl Try.func9 rfl (by kernel_rfl) rfl rfl (c_law27_exampleHolds n _ _ hS.lt  r61 hr61) ?_); clear hS a; intro v64 a w hK hp hS
          clear hK
          obtain rfl := hp
          refine q_seq hS rfl rfl rfl (y_pick_t hS rfl rfl) ?_; clear hS a; intro a hS
          refine q_seq hS rfl rfl rfl (y_assign hS rfl) ?_; clear hS a; intro a hS
          apply wpList_nil
          refine p_norm ?_
          apply wp_ret
          refine p_thenR ?_
          obtain rfl := Option.some.inj hg
          refine fin1 (fn := Try.f8) hS rfl (r_tmp hS rfl) ?_
          exact rfl
        · have hs60e : decide (r53.2 = 7) = false := decide_eq_false hs60
          replace hg := br_f hg hs60
          apply wp_region_lit
          refine q_seq hS rfl rfl rfl (y_move hS rfl) ?_; clear hS a; intro a hS
          refine q_seq hS rfl rfl rfl (yl_b (y_eql hS rfl rfl) hs60e) ?_; clear hS a; intro a hS
          refine q_seq hS rfl rfl rfl (y_move hS rfl) ?_; clear hS a; intro a hS
          refine g_no hS rfl rfl rfl rfl rfl rfl rfl ?_; clear hS a; intro a hS
          refine q_seq hS rfl rfl rfl (y_pick_f hS rfl rfl) ?_; clear hS a; intro a hS
          refine q_seq hS rfl rfl rfl (y_assign hS rfl) ?_; clear hS a; intro a hS
          apply wpList_nil
          refine p_norm ?_
          apply wp_ret
          refine p_thenR ?_
          obtain rfl := Option.some.inj hg
          refine fin1 (fn := Try.f8) hS rfl (r_tmp hS rfl) ?_
          exact rfl
      · replace hg := br_f hg hc59
        apply wp_skip
        refine p_norm ?_
        apply wp_seq
        rcases Decidable.em (r53.2 = 0) with hs66 | hs66
        · have hs66e : decide (r53.2 = 0) = true := decide_eq_true hs66
          replace hg := br_t hg hs66
          replace hg := chk_some hg; obtain ⟨hk68, hg⟩ := hg
          replace hg := chk_some hg; obtain ⟨hk71, hg⟩ := hg
          replace hg := bind_some hg; obtain ⟨r74, hr74, hg⟩ := hg
          rcases Bool.eq_false_or_eq_true (r74) with hs77 | hs77
          · replace hg := br_t hg hs77
            replace hg := bind_some hg; obtain ⟨r78, hr78, hg⟩ := hg
            apply wp_region_lit
            refine q_seq hS rfl rfl rfl (y_move hS rfl) ?_; clear hS a; intro a hS
            refine q_seq hS rfl rfl rfl (yl_b (y_eql hS rfl rfl) hs66e) ?_; clear hS a; intro a hS
            refine q_seq hS rfl rfl rfl (y_move hS rfl) ?_; clear hS a; intro a hS
            refine g_yes hS rfl rfl rfl rfl (l_quiet hS rfl rfl (y_move hS rfl) ?_); clear hS a; intro a hS
            refine g_yes hS rfl rfl rfl rfl (l_buildEmpty (sz := 1) hS 2004 Try.underlying23 rfl rfl rfl ?_); clear hS a; intro b81 a w hbb81 hK hS
            clear hbb81
            clear hK
            refine g_yes hS rfl rfl rfl rfl (l_quiet hS rfl rfl (y_move hS rfl) ?_); clear hS a; intro a hS
            replace hS := hS.add 113 (rdF Rep.str ([]) ([])) (RdAll.nil _ _ _)
            obtain ⟨ns83, hs83, hns83⟩ := SlR.src (hS.fact (k := 102) rfl)
            replace hS := hS.add 114 (rdF Rep.str ns83 (r11.1)) hns83
            refine g_yes hS rfl rfl rfl rfl (l_append (sz := 1) (by_ := 16) (N := (r11.1).length) (ys := ns83) hS 2004 rfl rfl rfl Try.underlying23 rfl rfl rfl rfl rfl hs83 (by simp) rfl (by have hr := hk68; clear hg; first | omega | (simp only [List.length_append, List.length_cons, List.length_nil] at hr ⊢; omega) | (simp at hr ⊢; omega)) (by have hr := hk68; clear hg; first | omega | (simp only [List.length_append, List.length_cons, List.length_nil] at hr ⊢; omega) | (simp at hr ⊢; omega)) rfl ?_); clear hS a; intro Aq82 cq82 a w hA hK hS
            clear hK hA
            replace hS := hS.add 115 (rdF Rep.str (ns83) (r11.1)) (hS.fact (k := 114) rfl)
            refine g_yes hS rfl rfl rfl rfl (l_quiet hS rfl rfl (y_move hS rfl) ?_); clear hS a; intro a hS
            obtain ⟨ns85, hs85, hns85⟩ := SlR.src (hS.fact (k := 104) rfl)
            replace hS := hS.add 116 (rdF Rep.str ns85 (r16.1)) hns85
            refine g_yes hS rfl rfl rfl rfl (l_append (sz := 1) (by_ := 16) (N := (r11.1 ++ r16.1).length) (ys := ns83 ++ ns85) hS 2004 rfl rfl rfl Try.underlying23 rfl rfl rfl rfl rfl hs85 (by simp) rfl (by have hr := hk71; clear hg; first | omega | (simp only [List.length_append, List.length_cons, List.length_nil] at hr ⊢; omega) | (simp at hr ⊢; omega)) (by have hr := hk71; clear hg; first | omega | (simp only [List.length_append, List.length_cons, List.length_nil] at hr ⊢; omega) | (simp at hr ⊢; omega)) rfl ?_); clear hS a; intro Aq84 cq84 a w hA hK hS
            clear hK hA
            replace hS := hS.add 117 (rdF Rep.str (ns83 ++ ns85) (r11.1 ++ r16.1)) (RdAll.append (hS.fact (k := 115) rfl) (hS.fact (k := 116) rfl))
            have hT := hS
            replace hT := hT.freeze (R := Rep.str) (kk := 2004) (L' := []) 118 rfl rfl (hT.fact (k := 117) rfl) trivial rfl
            refine g_yes hS rfl rfl rfl rfl (l_call (cap := []) hS rfl Try.func12 rfl (by kernel_rfl) rfl rfl (c_r01_Same n _ _ hT.lt r53.1 (Au57a1) (cu57a1) (hT.fact (k := 106) rfl) (r11.1 ++ r16.1) (Aq84) (cq84) (hT.fact (k := 118) rfl) r74 hr74) ?_); clear hS hT a; intro v86 a w hK hp hS
            clear hK
            obtain rfl := hp.trans (congrArg Value.bool hs77)
            refine q_seq hS rfl rfl rfl (y_pick_t hS rfl rfl) ?_; clear hS a; intro a hS
            refine q_seq hS rfl rfl rfl (y_move hS rfl) ?_; clear hS a; intro a hS
            refine g_yes hS rfl rfl rfl rfl (l_call (cap := []) hS rfl Try.func9 rfl (by kernel_rfl) rfl rfl (c_law27_exampleHolds n _ _ hS.lt  r78 hr78) ?_); clear hS a; intro v88 a w hK hp hS
            clear hK
            obtain rfl := hp
            refine q_seq hS rfl rfl rfl (y_pick_t hS rfl rfl) ?_; clear hS a; intro a hS
            refine q_seq hS rfl rfl rfl (y_assign hS rfl) ?_; clear hS a; intro a hS
            apply wpList_nil
            refine p_norm ?_
            apply wp_ret
            obtain rfl := Option.some.inj hg
            refine fin1 (fn := Try.f8) hS rfl (r_tmp hS rfl) ?_
            exact rfl
          · replace hg := br_f hg (by rw [hs77]; exact Bool.false_ne_true)
            apply wp_region_lit
            refine q_seq hS rfl rfl rfl (y_move hS rfl) ?_; clear hS a; intro a hS
            refine q_seq hS rfl rfl rfl (yl_b (y_eql hS rfl rfl) hs66e) ?_; clear hS a; intro a hS
            refine q_seq hS rfl rfl rfl (y_move hS rfl) ?_; clear hS a; intro a hS
            refine g_yes hS rfl rfl rfl rfl (l_quiet hS rfl rfl (y_move hS rfl) ?_); clear hS a; intro a hS
            refine g_yes hS rfl rfl rfl rfl (l_buildEmpty (sz := 1) hS 2004 Try.underlying23 rfl rfl rfl ?_); clear hS a; intro b90 a w hbb90 hK hS
            clear hbb90
            clear hK
            refine g_yes hS rfl rfl rfl rfl (l_quiet hS rfl rfl (y_move hS rfl) ?_); clear hS a; intro a hS
            replace hS := hS.add 119 (rdF Rep.str ([]) ([])) (RdAll.nil _ _ _)
            obtain ⟨ns92, hs92, hns92⟩ := SlR.src (hS.fact (k := 102) rfl)
            replace hS := hS.add 120 (rdF Rep.str ns92 (r11.1)) hns92
            refine g_yes hS rfl rfl rfl rfl (l_append (sz := 1) (by_ := 16) (N := (r11.1).length) (ys := ns92) hS 2004 rfl rfl rfl Try.underlying23 rfl rfl rfl rfl rfl hs92 (by simp) rfl (by have hr := hk68; clear hg; first | omega | (simp only [List.length_append, List.length_cons, List.length_nil] at hr ⊢; omega) | (simp at hr ⊢; omega)) (by have hr := hk68; clear hg; first | omega | (simp only [List.length_append, List.length_cons, List.length_nil] at hr ⊢; omega) | (simp at hr ⊢; omega)) rfl ?_); clear hS a; intro Aq91 cq91 a w hA hK hS
            clear hK hA
            replace hS := hS.add 121 (rdF Rep.str (ns92) (r11.1)) (hS.fact (k := 120) rfl)
            refine g_yes hS rfl rfl rfl rfl (l_quiet hS rfl rfl (y_move hS rfl) ?_); clear hS a; intro a hS
            obtain ⟨ns94, hs94, hns94⟩ := SlR.src (hS.fact (k := 104) rfl)
            replace hS := hS.add 122 (rdF Rep.str ns94 (r16.1)) hns94
            refine g_yes hS rfl rfl rfl rfl (l_append (sz := 1) (by_ := 16) (N := (r11.1 ++ r16.1).length) (ys := ns92 ++ ns94) hS 2004 rfl rfl rfl Try.underlying23 rfl rfl rfl rfl rfl hs94 (by simp) rfl (by have hr := hk71; clear hg; first | omega | (simp only [List.length_append, List.length_cons, List.length_nil] at hr ⊢; omega) | (simp at hr ⊢; omega)) (by have hr := hk71; clear hg; first | omega | (simp only [List.length_append, List.length_cons, List.length_nil] at hr ⊢; omega) | (simp at hr ⊢; omega)) rfl ?_); clear hS a; intro Aq93 cq93 a w hA hK hS
            clear hK hA
            replace hS := hS.add 123 (rdF Rep.str (ns92 ++ ns94) (r11.1 ++ r16.1)) (RdAll.append (hS.fact (k := 121) rfl) (hS.fact (k := 122) rfl))
            have hT := hS
            replace hT := hT.freeze (R := Rep.str) (kk := 2004) (L' := []) 124 rfl rfl (hT.fact (k := 123) rfl) trivial rfl
            refine g_yes hS rfl rfl rfl rfl (l_call (cap := []) hS rfl Try.func12 rfl (by kernel_rfl) rfl rfl (c_r01_Same n _ _ hT.lt r53.1 (Au57a1) (cu57a1) (hT.fact (k := 106) rfl) (r11.1 ++ r16.1) (Aq93) (cq93) (hT.fact (k := 124) rfl) r74 hr74) ?_); clear hS hT a; intro v95 a w hK hp hS
            clear hK
            obtain rfl := hp.trans (congrArg Value.bool hs77)
            refine q_seq hS rfl rfl rfl (y_pick_t hS rfl rfl) ?_; clear hS a; intro a hS
            refine q_seq hS rfl rfl rfl (y_move hS rfl) ?_; clear hS a; intro a hS
            refine g_no hS rfl rfl rfl rfl rfl rfl rfl ?_; clear hS a; intro a hS
            refine q_seq hS rfl rfl rfl (y_pick_f hS rfl rfl) ?_; clear hS a; intro a hS
            refine q_seq hS rfl rfl rfl (y_assign hS rfl) ?_; clear hS a; intro a hS
            apply wpList_nil
            refine p_norm ?_
            apply wp_ret
            obtain rfl := Option.some.inj hg
            refine fin1 (fn := Try.f8) hS rfl (r_tmp hS rfl) ?_
            exact rfl
        · have hs66e : decide (r53.2 = 0) = false := decide_eq_false hs66
          replace hg := br_f hg hs66
          apply wp_region_lit
          refine q_seq hS rfl rfl rfl (y_move hS rfl) ?_; clear hS a; intro a hS
          refine q_seq hS rfl rfl rfl (yl_b (y_eql hS rfl rfl) hs66e) ?_; clear hS a; intro a hS
          refine q_seq hS rfl rfl rfl (y_move hS rfl) ?_; clear hS a; intro a hS
          refine g_no hS rfl rfl rfl rfl rfl rfl rfl ?_; clear hS a; intro a hS
          refine g_no hS rfl rfl rfl rfl rfl rfl rfl ?_; clear hS a; intro a hS
          refine g_no hS rfl rfl rfl rfl rfl rfl rfl ?_; clear hS a; intro a hS
          refine g_no hS rfl rfl rfl rfl rfl rfl rfl ?_; clear hS a; intro a hS
          refine g_no hS rfl rfl rfl rfl rfl rfl rfl ?_; clear hS a; intro a hS
          refine g_no hS rfl rfl rfl rfl rfl rfl rfl ?_; clear hS a; intro a hS
          refine g_no hS rfl rfl rfl rfl rfl rfl rfl ?_; clear hS a; intro a hS
          refine q_seq hS rfl rfl rfl (y_pick_f hS rfl rfl) ?_; clear hS a; intro a hS
          refine q_seq hS rfl rfl rfl (y_move hS rfl) ?_; clear hS a; intro a hS
          refine g_no hS rfl rfl rfl rfl rfl rfl rfl ?_; clear hS a; intro a hS
          refine q_seq hS rfl rfl rfl (y_pick_f hS rfl rfl) ?_; clear hS a; intro a hS
          refine q_seq hS rfl rfl rfl (y_assign hS rfl) ?_; clear hS a; intro a hS
          apply wpList_nil
          refine p_norm ?_
          apply wp_ret
          obtain rfl := Option.some.inj hg
          refine fin1 (fn := Try.f8) hS rfl (r_tmp hS rfl) ?_
          exact rfl
end Go.Proofs.Ythblmjbmnfebdaa

/- Chapter 31: contracts of slices.Grow and slices.Concat -/
import Derived.Test.YtjklnbjblncgeaaW2
namespace Go.Proofs.Ytjklnbjblncgeaa
open Go.Gl Go.RowKit
set_option linter.unusedVariables false
set_option linter.unusedSimpArgs false

set_option maxHeartbeats 400000 in
theorem grow_spec (M : Bs) (w0 : World) (hM : ∀ b, M b → b < w0.heap.size) (n : Nat) (hn : n ≤ 2000) :
    Calls Try.prog 29 [.slice (none) (0) (0), .int .i64 (((n : Nat) : Int))].toArray w0 (Ret noB w0 fun v w => ∃ ob : Ob, ob.holds w ∧ (∀ b, ob.ids b → w0.heap.size ≤ b) ∧ ∃ A c, ob = Ob.row A 0 c 45 5 [] ∧ v = .slice A 0 c) := by
  refine enter M noB Try.func29 rfl rfl hM ?_
  intro a hS
  apply wp_seq
  apply wp_region_lit
  refine q_seq hS rfl rfl rfl (y_assign hS rfl) ?_; clear hS a; intro a hS
  apply wpList_nil
  refine p_norm ?_
  apply wp_seq
  apply wp_seq
  apply wp_region_lit
  refine q_seq hS rfl rfl rfl (y_move hS rfl) ?_; clear hS a; intro a hS
  refine q_seq hS rfl rfl rfl (y_lss hS rfl rfl) ?_; clear hS a; intro a hS
  apply wpList_nil
  refine p_norm ?_
  refine c_dec hS rfl (fun hc0 => ?_) (fun hc0 => ?_)
  · exfalso; omega
  · apply wp_skip
    refine p_norm ?_
    apply wp_seq
    apply wp_seq
    apply wp_region_lit
    refine q_seq hS rfl rfl rfl (y_move hS rfl) ?_; clear hS a; intro a hS
    refine q_seq hS rfl rfl rfl (y_move hS rfl) ?_; clear hS a; intro a hS
    refine q_seq hS rfl rfl rfl (y_capSlice hS rfl Try.underlying23) ?_; clear hS a; intro a hS
    refine q_seq hS rfl rfl rfl (y_move hS rfl) ?_; clear hS a; intro a hS
    refine q_seq hS rfl rfl rfl (y_lenSlice hS rfl Try.underlying23) ?_; clear hS a; intro a hS
    refine q_seq hS rfl rfl rfl (y_sub hS rfl rfl (in64.2 (by omega))) ?_; clear hS a; intro a hS
    refine q_seq hS rfl rfl rfl (y_sub hS rfl rfl (in64.2 (by omega))) ?_; clear hS a; intro a hS
    refine q_seq hS rfl rfl rfl (y_assign hS rfl) ?_; clear hS a; intro a hS
    apply wpList_nil
    refine p_norm ?_
    apply wp_seq
    apply wp_region_lit
    refine q_seq hS rfl rfl rfl (y_move hS rfl) ?_; clear hS a; intro a hS
    refine q_seq hS rfl rfl rfl (y_gtr hS rfl rfl) ?_; clear hS a; intro a hS
    apply wpList_nil
    refine p_norm ?_
    refine c_dec hS rfl (fun hc1 => ?_) (fun hc1 => ?_)
    · apply wp_region_lit
      refine q_seq hS rfl rfl rfl (y_move hS rfl) ?_; clear hS a; intro a hS
      refine q_seq hS rfl rfl rfl (y_move hS rfl) ?_; clear hS a; intro a hS
      refine q_seq hS rfl rfl rfl (y_capSlice hS rfl Try.underlying23) ?_; clear hS a; intro a hS
      refine q_seq hS rfl rfl rfl (y_sliceHN (sz := 5) (i := 0) hS rfl rfl Try.underlying23 rfl (by omega) (by omega)) ?_; clear hS a; intro a hS
      refine q_seq hS rfl rfl rfl (y_move hS rfl) ?_; clear hS a; intro a hS
      refine l_seq rfl (l_appendZeros (sz := 5) (by_ := 40) (n := n) hS 1505 rfl rfl (by omega) (by omega) rfl Try.underlying23 Try.underlying3 rfl rfl rfl rfl rfl (by omega) (by omega) rfl ?_); clear hS a; intro b1 c2 a w hb hK hS
      clear hb
      clear hK
      refine q_seq hS rfl rfl rfl (y_move hS rfl) ?_; clear hS a; intro a hS
      refine q_seq hS rfl rfl rfl (y_lenSlice hS rfl Try.underlying23) ?_; clear hS a; intro a hS
      have hcap1505 := row_cap (hS.wd.holds 1505 _ rfl)
      refine q_seq hS rfl rfl rfl (y_sliceHN (sz := 5) (i := 0) hS rfl rfl Try.underlying23 rfl (by omega) (by omega)) ?_; clear hS a; intro a hS
      clear hcap1505
      replace hS := hS.rowCut (kk := 1505) (i := 0) rfl (by omega)
      refine q_seq hS rfl rfl rfl (y_assign hS rfl) ?_; clear hS a; intro a hS
      apply wpList_nil
      refine p_norm ?_
      apply wp_seq
      apply wp_region_lit
      refine q_seq hS rfl rfl rfl (y_move hS rfl) ?_; clear hS a; intro a hS
      refine q_seq hS rfl rfl rfl (y_assign hS rfl) ?_; clear hS a; intro a hS
      apply wpList_nil
      refine p_norm ?_
      apply wp_ret
      refine fin1 (fn := Try.f29) hS rfl (r_tmp hS rfl) ?_
      exact ⟨_, hS.wd.holds 1505 _ rfl, (fun b hb => (hS.wd.mine b ⟨1505, _, rfl, hb⟩).resolve_right id), _, _, rfl, rfl⟩
    · apply wp_skip
      refine p_norm ?_
      apply wp_seq
      apply wp_region_lit
      refine q_seq hS rfl rfl rfl (y_move hS rfl) ?_; clear hS a; intro a hS
      refine q_seq hS rfl rfl rfl (y_assign hS rfl) ?_; clear hS a; intro a hS
      apply wpList_nil
      refine p_norm ?_
      apply wp_ret
      refine fin1 (fn := Try.f29) hS rfl (r_tmp hS rfl) ?_
      exact ⟨Ob.row none 0 0 45 5 [], World.ownsRow_nil _ _ _ _, (fun b hb => by obtain ⟨p, hp, _⟩ := hb; cases hp), none, 0, rfl, rfl⟩

set_option maxHeartbeats 400000 in
theorem concat_spec (M : Bs) (w0 : World) (hM : ∀ b, M b → b < w0.heap.size) (A : Option Addr) (n c : Nat) (xss : List (List Queued)) (hsl : SlR (Rep.list RQ) M w0 A n c xss) (hn : n ≤ 1000) (ht : lens xss ≤ 2000) :
    Calls Try.prog 22 [.slice (A) (n) (c)].toArray w0 (Ret noB w0 fun v w => ∃ A' n' c', v = .slice A' n' c' ∧ SlR RQ M w A' n' c' xss.flatten) := by
  refine enter M noB Try.func22 rfl rfl hM ?_
  intro a hS
  replace hS := hS.add 0 (slF (Rep.list RQ) (A) (n) (c) (xss)) (by exact Fact.change _ enterM hsl)
  apply wp_seq
  apply wp_region_lit
  refine q_seq hS rfl rfl rfl (y_assign hS rfl) ?_; clear hS a; intro a hS
  apply wpList_nil
  refine p_norm ?_
  apply wp_seq
  apply wp_region_lit
  refine q_seq hS rfl rfl rfl (y_assign hS rfl) ?_; clear hS a; intro a hS
  apply wpList_nil
  refine p_norm ?_
  apply wp_seq
  apply wp_seq
  apply wp_region_lit
  refine q_seq hS rfl rfl rfl (y_move hS rfl) ?_; clear hS a; intro a hS
  refine q_seq hS rfl rfl rfl (y_lenSlice hS rfl Try.underlying64) ?_; clear hS a; intro a hS
  refine q_seq hS rfl rfl rfl (y_move hS rfl) ?_; clear hS a; intro a hS
  apply wpList_nil
  refine p_norm ?_
  apply wp_block
  refine c_loop (σ := Nat) (fun k a w => ∃ (m : Nat), (k ≤ n) ∧ (m = lens (xss.take k)) ∧ St (⟨Try.f22.ntmps, M, noB, w0⟩ : Ctx) [(0, .slice (A) (n) (c)), (3, .int .i64 (((m : Nat) : Int))), (9, .slice (A) (n) (c)), (10, .int .i64 (((n : Nat) : Int))), (11, .int .i64 (((k : Nat) : Int)))] [] [(0, slF (Rep.list RQ) (A) (n) (c) (xss))] a w) (fun k => n - k) (0) ⟨0, Nat.zero_le _, rfl, (hS.sub ⟨rfl, rfl, rfl, rfl, rfl, trivial⟩ trivial ⟨rfl, trivial⟩)⟩ ?_
  clear hS a; rintro k a w ⟨m, hk, hm, hS⟩
  apply wp_seq
  apply wp_region_lit
  refine q_seq hS rfl rfl rfl (y_lss hS rfl rfl) ?_; clear hS a; intro a hS
  apply wpList_nil
  refine p_norm ?_
  apply wp_seq
  refine c_dec hS rfl (fun hc0 => ?_) (fun hc0 => ?_)
  · apply wp_skip
    refine p_norm ?_
    apply wp_seq
    apply wp_block
    apply wp_seq
    apply wp_region_lit
    obtain ⟨x1, hx1, p1, he1, hp1⟩ := SlR.elemAt (hS.fact (k := 0) rfl) (i := k) (by omega)
    refine q_seq hS rfl rfl rfl (y_elem (sz := 1) (i := k) hS rfl rfl Try.underlying64 rfl he1 (by omega) (by omega)) ?_; clear hS a; intro a hS
    obtain ⟨hl2, hm2, cs2, hd2, hq2⟩ := hp1
    obtain ⟨A3, n3, c3, rfl, hl3⟩ := hd2
    have hlen3 : x1.length = n3 := SlR.len hl3
    replace hS := hS.add 101 (slF RQ (A3) (n3) (c3) (x1)) hl3
    refine q_seq hS rfl rfl rfl (y_ldp1 hS rfl hl2 hm2 (hq2 0 _ rfl) Try.underlying23 rfl) ?_; clear hS a; intro a hS
    refine q_seq hS rfl rfl rfl (y_assign hS rfl) ?_; clear hS a; intro a hS
    apply wpList_nil
    refine p_norm ?_
    apply wp_seq
    apply wp_region_lit
    refine q_seq hS rfl rfl rfl (y_move hS rfl) ?_; clear hS a; intro a hS
    refine q_seq hS rfl rfl rfl (y_move hS rfl) ?_; clear hS a; intro a hS
    refine q_seq hS rfl rfl rfl (y_lenSlice hS rfl Try.underlying23) ?_; clear hS a; intro a hS
    have hb1 := lens_take_succ hx1; have hb2 := lens_take_le xss (k + 1)
    refine q_seq hS rfl rfl rfl (y_addN (i := m) (j := n3) hS rfl rfl (in64.2 (by omega))) ?_; clear hS a; intro a hS
    refine q_seq hS rfl rfl rfl (y_assign hS rfl) ?_; clear hS a; intro a hS
    apply wpList_nil
    refine p_norm ?_
    apply wp_seq
    apply wp_region_lit
    refine q_seq hS rfl rfl rfl (y_move hS rfl) ?_; clear hS a; intro a hS
    refine q_seq hS rfl rfl rfl (y_lss hS rfl rfl) ?_; clear hS a; intro a hS
    apply wpList_nil
    refine p_norm ?_
    refine c_dec hS rfl (fun hc1 => ?_) (fun hc1 => ?_)
    · exfalso; omega
    · apply wp_skip
      refine p_inN ?_
      refine p_norm ?_
      apply wp_region_lit
      refine q_seq hS rfl rfl rfl (y_addN (i := k) (j := 1) hS rfl rfl (in64.2 (by omega))) ?_; clear hS a; intro a hS
      refine q_seq hS rfl rfl rfl (y_move hS rfl) ?_; clear hS a; intro a hS
      apply wpList_nil
      refine p_norm ?_
      exact ⟨k + 1, by omega, ⟨m + n3, by omega, by rw [lens_take_succ hx1, ← hm, hlen3], (hS.sub ⟨rfl, rfl, rfl, rfl, rfl, trivial⟩ trivial ⟨rfl, trivial⟩)⟩⟩
  · apply wp_exit
    refine p_then ?_
    refine p_then ?_
    refine p_in ?_
    refine p_norm ?_
    apply wp_seq
    have hb := lens_take_le xss k
    apply wp_region_lit
    refine q_seq hS rfl rfl rfl (y_move hS rfl) ?_; clear hS a; intro a hS
    refine l_seq rfl (l_callOwn (cap := []) hS 1901 rfl rfl Try.func29 rfl (by kernel_rfl) rfl rfl (grow_spec _ _ hS.lt _ (by omega)) ?_); clear hS a; intro v4 ob a w hK hp hS
    clear hK
    obtain ⟨Ag, cg, rfl, rfl⟩ := hp
    refine q_seq hS rfl rfl rfl (y_assign hS rfl) ?_; clear hS a; intro a hS
    apply wpList_nil
    refine p_norm ?_
    apply wp_seq
    apply wp_seq
    apply wp_region_lit
    refine q_seq hS rfl rfl rfl (y_move hS rfl) ?_; clear hS a; intro a hS
    refine q_seq hS rfl rfl rfl (y_lenSlice hS rfl Try.underlying64) ?_; clear hS a; intro a hS
    refine q_seq hS rfl rfl rfl (y_move hS rfl) ?_; clear hS a; intro a hS
    apply wpList_nil
    refine p_norm ?_
    apply wp_block
    replace hS := hS.add 900 (rdF RQ [] ((xss.take 0).flatten)) (RdAll.nil _ _ _)
    refine c_loop (σ := Nat) (fun k2 a w => ∃ (A2 : Option Addr), ∃ (c2 : Nat), ∃ (cs : List Value), ∃ (m2 : Nat), (k2 ≤ n) ∧ (m2 = lens (xss.take k2)) ∧ St (⟨Try.f22.ntmps, M, noB, w0⟩ : Ctx) [(6, .slice (A2) (m2) (c2)), (25, .slice (A) (n) (c)), (26, .int .i64 (((n : Nat) : Int))), (27, .int .i64 (((k2 : Nat) : Int)))] [(1901, Ob.row (A2) (m2) (c2) 45 5 (cs))] [(0, slF (Rep.list RQ) (A) (n) (c) (xss)), (900, rdF RQ (cs) ((xss.take k2).flatten))] a w) (fun k2 => n - k2) (0) ⟨Ag, cg, [], 0, Nat.zero_le _, rfl, (hS.sub ⟨rfl, rfl, rfl, rfl, trivial⟩ ⟨rfl, trivial⟩ ⟨rfl, rfl, trivial⟩)⟩ ?_
    clear hS a; rintro k2 a w ⟨A2, c2, cs, m2, hk2, hm2, hS⟩
    apply wp_seq
    apply wp_region_lit
    refine q_seq hS rfl rfl rfl (y_lss hS rfl rfl) ?_; clear hS a; intro a hS
    apply wpList_nil
    refine p_norm ?_
    apply wp_seq
    refine c_dec hS rfl (fun hc2 => ?_) (fun hc2 => ?_)
    · apply wp_skip
      refine p_norm ?_
      apply wp_seq
      apply wp_block
      apply wp_seq
      apply wp_region_lit
      obtain ⟨x5, hx5, p5, he5, hp5⟩ := SlR.elemAt (hS.fact (k := 0) rfl) (i := k2) (by omega)
      refine q_seq hS rfl rfl rfl (y_elem (sz := 1) (i := k2) hS rfl rfl Try.underlying64 rfl he5 (by omega) (by omega)) ?_; clear hS a; intro a hS
      obtain ⟨hl6, hm6, cs6, hd6, hq6⟩ := hp5
      obtain ⟨A7, n7, c7, rfl, hl7⟩ := hd6
      have hlen7 : x5.length = n7 := SlR.len hl7
      replace hS := hS.add 102 (slF RQ (A7) (n7) (c7) (x5)) hl7
      refine q_seq hS rfl rfl rfl (y_ldp1 hS rfl hl6 hm6 (hq6 0 _ rfl) Try.underlying23 rfl) ?_; clear hS a; intro a hS
      refine q_seq hS rfl rfl rfl (y_assign hS rfl) ?_; clear hS a; intro a hS
      apply wpList_nil
      refine p_norm ?_
      apply wp_region_lit
      refine q_seq hS rfl rfl rfl (y_move hS rfl) ?_; clear hS a; intro a hS
      refine q_seq hS rfl rfl rfl (y_move hS rfl) ?_; clear hS a; intro a hS
      have hb1 := lens_take_succ hx5; have hb2 := lens_take_le xss (k2 + 1)
      obtain ⟨ns8, hs8, hn8⟩ := SlR.src (hS.fact (k := 102) rfl)
      replace hS := hS.add 103 (rdF RQ (ns8) (x5)) (hn8)
      refine l_seq rfl (l_append (sz := 5) (by_ := 40) (N := m2 + n7) (ys := cs ++ ns8) hS 1901 rfl rfl rfl Try.underlying23 rfl rfl rfl rfl rfl hs8 (by omega) rfl (by omega) (by omega) rfl ?_); clear hS a; intro A9 c9 a w hA hK hS
      clear hK hA
      replace hS := hS.add 104 (rdF RQ (cs ++ ns8) ((xss.take k2).flatten ++ x5)) (RdAll.append (hS.fact (k := 900) rfl) (hS.fact (k := 103) rfl))
      refine q_seq hS rfl rfl rfl (y_assign hS rfl) ?_; clear hS a; intro a hS
      apply wpList_nil
      refine p_inN ?_
      refine p_norm ?_
      apply wp_region_lit
      refine q_seq hS rfl rfl rfl (y_addN (i := k2) (j := 1) hS rfl rfl (in64.2 (by omega))) ?_; clear hS a; intro a hS
      refine q_seq hS rfl rfl rfl (y_move hS rfl) ?_; clear hS a; intro a hS
      apply wpList_nil
      refine p_norm ?_
      replace hS := hS.add 900 (rdF RQ (cs ++ ns8) ((xss.take (k2 + 1)).flatten)) (by rw [flatten_take_succ hx5]; exact hS.fact (k := 104) rfl)
      exact ⟨k2 + 1, by omega, ⟨A9, c9, cs ++ ns8, m2 + n7, by omega, by rw [lens_take_succ hx5, ← hm2, hlen7], (hS.sub ⟨rfl, rfl, rfl, rfl, trivial⟩ ⟨rfl, trivial⟩ ⟨rfl, rfl, trivial⟩)⟩⟩
    · apply wp_exit
      refine p_then ?_
      refine p_then ?_
      refine p_in ?_
      refine p_norm ?_
      apply wp_seq
      apply wp_region_lit
      refine q_seq hS rfl rfl rfl (y_move hS rfl) ?_; clear hS a; intro a hS
      refine q_seq hS rfl rfl rfl (y_assign hS rfl) ?_; clear hS a; intro a hS
      apply wpList_nil
      refine p_norm ?_
      apply wp_ret
      refine fin1 (fn := Try.f22) hS rfl (r_tmp hS rfl) ?_
      obtain rfl : k2 = n := by omega
      have hq := hS.rowOut (R := RQ) (kk := 1901) rfl rfl (hS.fact (k := 900) rfl)
      rw [List.take_of_length_le (by rw [hsl.len]; exact Nat.le_refl _)] at hq
      exact ⟨_, _, _, rfl, hq⟩

end Go.Proofs.Ytjklnbjblncgeaa

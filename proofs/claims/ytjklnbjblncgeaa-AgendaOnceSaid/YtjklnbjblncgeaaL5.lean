/- Chapter 31: the law AgendaOnce, walked -/
import Derived.Test.YtjklnbjblncgeaaC6
namespace Go.Proofs.Ytjklnbjblncgeaa
open Go.Gl Go.RowKit
set_option linter.unusedVariables false
set_option linter.unusedSimpArgs false

set_option maxHeartbeats 400000 in
theorem place_spec (M : Bs) (w0 : World) (hM : ∀ b, M b → b < w0.heap.size) (A : Option Addr) (n c : Nat) (ts : List Task) (x : Task) (hsl : SlR RT M w0 A n c ts) (hn : n ≤ 1000) (hm : x ∈ ts) :
    Calls Try.prog 19 [.slice (A) (n) (c), .agg #[.int .i64 (x.1), .int .i64 (x.2.1), .int .i64 (x.2.2.1), .int .i64 (x.2.2.2)]].toArray w0 (Ret noB w0 fun v w => ∃ i : Nat, v = .int .i64 ((i : Nat) : Int) ∧ ts[i]? = some x) := by
  refine enter M noB Try.func19 rfl rfl hM ?_
  intro a hS
  replace hS := hS.add 0 (slF RT (A) (n) (c) (ts)) (by exact Fact.change _ enterM hsl)
  apply wp_seq
  apply wp_region_lit
  refine l_seq rfl (l_box (zs := [.int .i64 (x.1), .int .i64 (x.2.1), .int .i64 (x.2.2.1), .int .i64 (x.2.2.2)]) hS 1000 rfl rfl rfl rfl ?_); clear hS a; intro b1 a w hb hK hS
  clear hb
  clear hK
  refine q_seq hS rfl rfl rfl (y_assign hS rfl) ?_; clear hS a; intro a hS
  apply wpList_nil
  refine p_norm ?_
  apply wp_seq
  apply wp_seq
  apply wp_region_lit
  refine q_seq hS rfl rfl rfl (y_move hS rfl) ?_; clear hS a; intro a hS
  refine q_seq hS rfl rfl rfl (y_lenSlice hS rfl Try.underlying42) ?_; clear hS a; intro a hS
  refine q_seq hS rfl rfl rfl (y_move hS rfl) ?_; clear hS a; intro a hS
  apply wpList_nil
  refine p_norm ?_
  apply wp_block
  refine c_loop (σ := Nat) (fun k a w => (k ≤ n) ∧ (∀ j, j < k → ts[j]? ≠ some x) ∧ St (⟨Try.f19.ntmps, M, noB, w0⟩ : Ctx) [(0, .slice (A) (n) (c)), (3, .pointer (some ⟨b1, 0, none⟩)), (7, .int .i64 (((n : Nat) : Int))), (8, .int .i64 (((k : Nat) : Int)))] [(1000, Ob.box b1 [.int .i64 (x.1), .int .i64 (x.2.1), .int .i64 (x.2.2.1), .int .i64 (x.2.2.2)] 32)] [(0, slF RT (A) (n) (c) (ts))] a w) (fun k => n - k) (0) ⟨Nat.zero_le _, (fun j h => absurd h (Nat.not_lt_zero j)), (hS.sub ⟨rfl, rfl, rfl, rfl, trivial⟩ ⟨rfl, trivial⟩ ⟨rfl, trivial⟩)⟩ ?_
  clear hS a; rintro k a w ⟨hk, hno, hS⟩
  apply wp_seq
  apply wp_region_lit
  refine q_seq hS rfl rfl rfl (y_lss hS rfl rfl) ?_; clear hS a; intro a hS
  apply wpList_nil
  refine p_norm ?_
  apply wp_seq
  refine c_dec hS rfl (fun hc0 => ?_) (fun hc0 => ?_)
  · apply wp_skip
    refine p_norm ?_
    apply wp_seq
    apply wp_block
    apply wp_seq
    apply wp_region_lit
    refine q_seq hS rfl rfl rfl (y_move hS rfl) ?_; clear hS a; intro a hS
    refine q_seq hS rfl rfl rfl (y_assign hS rfl) ?_; clear hS a; intro a hS
    apply wpList_nil
    refine p_norm ?_
    apply wp_seq
    refine d_plan hS [] [(0, some 0), (1, some 0), (2, some 0), (3, some 0), (4, some 1000), (5, some 0)] rfl (by kernel_rfl) (by kernel_rfl) rfl ?_; clear hS; intro wr hZ hS; have hR := hS.wd
    refine q_take hS hR rfl rfl rfl rfl (y_move hS rfl) ?_; clear hS a; intro a hS
    refine q_take hS hR rfl rfl rfl rfl (y_move hS rfl) ?_; clear hS a; intro a hS
    obtain ⟨x2, hx2, p2, he2, hp2⟩ := SlR.elemAt (hS.fact (k := 0) rfl) (i := k) (by omega)
    refine q_take hS hR rfl rfl rfl rfl (y_elem (sz := 4) (i := k) hS rfl rfl Try.underlying42 rfl he2 (by omega) (by omega)) ?_; clear hS a; intro a hS
    obtain ⟨hl3, hm3, cs3, hd3, hq3⟩ := hp2
    obtain ⟨rfl, -⟩ := hd3
    refine q_take hS hR rfl rfl rfl rfl (y_ldp hS rfl hl3 hm3 (by simpa using hq3) Try.underlying32 rfl rfl) ?_; clear hS a; intro a hS
    refine q_take hS hR rfl rfl rfl rfl (y_loadBox (kk := 1000) (n := 4) (vs := [.int .i64 (x.1), .int .i64 (x.2.1), .int .i64 (x.2.2.1), .int .i64 (x.2.2.2)]) hS rfl rfl Try.underlying32 rfl rfl rfl rfl) ?_; clear hS a; intro a hS
    refine q_take hS hR rfl rfl rfl rfl (y_eqlS hS rfl rfl (by kernel_rfl) (fun w' => eq32 9998 _ _ _ _ _ _ _ _ w')) ?_; clear hS a; intro a hS
    clear hR hZ
    refine p_norm ?_
    refine c_dec hS rfl (fun hc1 => ?_) (fun hc1 => ?_)
    · apply wp_seq
      apply wp_region_lit
      refine q_seq hS rfl rfl rfl (y_move hS rfl) ?_; clear hS a; intro a hS
      refine q_seq hS rfl rfl rfl (y_assign hS rfl) ?_; clear hS a; intro a hS
      apply wpList_nil
      refine p_norm ?_
      apply wp_ret
      refine p_inR ?_
      refine p_thenR ?_
      refine p_thenR ?_
      refine p_inR ?_
      refine p_thenR ?_
      refine fin1 (fn := Try.f19) hS rfl (r_tmp hS rfl) ?_
      exact ⟨k, rfl, by rw [hx2]; exact congrArg some hc1⟩
    · apply wp_skip
      refine p_inN ?_
      refine p_norm ?_
      apply wp_region_lit
      refine q_seq hS rfl rfl rfl (y_addN (i := k) (j := 1) hS rfl rfl (in64.2 (by omega))) ?_; clear hS a; intro a hS
      refine q_seq hS rfl rfl rfl (y_move hS rfl) ?_; clear hS a; intro a hS
      apply wpList_nil
      refine p_norm ?_
      exact ⟨k + 1, by omega, ⟨by omega, (fun j hj => by rcases (by omega : j < k ∨ j = k) with h | rfl; exact hno j h; intro e; rw [hx2] at e; exact hc1 (Option.some.inj e)), (hS.sub ⟨rfl, rfl, rfl, rfl, trivial⟩ ⟨rfl, trivial⟩ ⟨rfl, trivial⟩)⟩⟩
  · apply wp_exit
    refine p_then ?_
    refine p_then ?_
    refine p_in ?_
    refine p_norm ?_
    apply wp_seq
    apply wp_region_lit
    refine q_seq hS rfl rfl rfl (y_assign hS rfl) ?_; clear hS a; intro a hS
    apply wpList_nil
    refine p_norm ?_
    apply wp_ret
    refine fin1 (fn := Try.f19) hS rfl (r_tmp hS rfl) ?_
    exfalso; obtain ⟨j, hj⟩ := List.getElem?_of_mem hm; have hjl := (List.getElem?_eq_some_iff.1 hj).1; have hnl := hsl.len; exact hno j (by omega) hj

set_option maxHeartbeats 2000000 in
theorem onces (M : Bs) (w0 : World) (hM : ∀ b, M b → b < w0.heap.size) (q s p : Int) (A : Option Addr) (m c : Nat) (ops : List Oper) (hq : 0 ≤ q ∧ q ≤ 255) (hpe : q.tmod 4 = p) (hp : 0 ≤ p ∧ p ≤ 3) (hsl : SlR RO M w0 A m c ops) :
    Calls Try.prog 5 [.int .u8 (q), .int .u64 (s), .slice (A) (m) (c)].toArray w0 (Ret noB w0 fun v w => v = .bool true) := by
  refine enter M noB Try.func5 rfl rfl hM ?_
  intro a hS
  replace hS := hS.add 0 (slF RO (A) (m) (c) (ops)) (by exact Fact.change _ enterM hsl)
  apply wp_seq
  apply wp_region_lit
  refine q_seq hS rfl rfl rfl (y_assign hS rfl) ?_; clear hS a; intro a hS
  apply wpList_nil
  refine p_norm ?_
  apply wp_seq
  apply wp_seq
  apply wp_region_lit
  refine q_seq hS rfl rfl rfl (y_move hS rfl) ?_; clear hS a; intro a hS
  refine q_seq hS rfl rfl rfl (y_lenSlice hS rfl Try.underlying37) ?_; clear hS a; intro a hS
  refine q_seq hS rfl rfl rfl (y_gtr hS rfl rfl) ?_; clear hS a; intro a hS
  apply wpList_nil
  refine p_norm ?_
  refine c_dec hS rfl (fun hc0 => ?_) (fun hc0 => ?_)
  · apply wp_seq
    apply wp_region_lit
    refine l_seq rfl (l_call (cap := []) hS rfl Try.func12 rfl (by kernel_rfl) rfl rfl (example_spec _ _ hS.lt) ?_); clear hS a; intro v1 a w hK hp hS
    clear hK
    obtain rfl := hp
    refine q_seq hS rfl rfl rfl (y_assign hS rfl) ?_; clear hS a; intro a hS
    apply wpList_nil
    refine p_norm ?_
    apply wp_ret
    refine p_thenR ?_
    refine fin1 (fn := Try.f5) hS rfl (r_tmp hS rfl) ?_
    rfl
  · apply wp_skip
    refine p_norm ?_
    apply wp_seq
    apply wp_region_lit
    refine q_seq hS rfl rfl rfl (y_move hS rfl) ?_; clear hS a; intro a hS
    refine q_seq hS rfl rfl rfl (y_conv hS rfl Try.underlying5 Try.underlying3 (in64.2 (by omega))) ?_; clear hS a; intro a hS
    refine q_seq hS rfl rfl rfl (y_rem hS rfl rfl (by omega)) ?_; clear hS a; intro a hS
    rw [hpe] at hS
    refine q_seq hS rfl rfl rfl (y_move hS rfl) ?_; clear hS a; intro a hS
    refine l_seq rfl (l_call (cap := []) hS rfl Try.func9 rfl (by kernel_rfl) rfl rfl (new_all _ _ hS.lt _ _ hp) ?_); clear hS a; intro v2 a w hK hp hS
    clear hK
    obtain rfl := hp
    refine q_seq hS rfl rfl rfl (y_move hS rfl) ?_; clear hS a; intro a hS
    refine q_seq hS rfl rfl rfl (y_extract hS rfl rfl) ?_; clear hS a; intro a hS
    refine q_seq hS rfl rfl rfl (y_extract hS rfl rfl) ?_; clear hS a; intro a hS
    refine l_seq rfl (l_alloc (zs := [.int .i64 (0), .int .u64 (0), .int .i64 (0), .slice (none) (0) (0)]) hS 1308 rfl rfl rfl rfl ?_); clear hS a; intro b3 a w hb hK hS
    clear hb
    clear hK
    refine l_seq rfl (l_store (n := 4) (cs' := [.int .i64 (p), .int .u64 (s), .int .i64 (0), .slice (none) (0) (0)]) hS 1308 rfl rfl rfl rfl rfl rfl rfl rfl ?_); clear hS; intro w hK hS; clear hK
    refine q_seq hS rfl rfl rfl (y_assign hS rfl) ?_; clear hS a; intro a hS
    apply wpList_nil
    refine p_norm ?_
    apply wp_seq
    apply wp_seq
    apply wp_region_lit
    refine q_seq hS rfl rfl rfl (y_move hS rfl) ?_; clear hS a; intro a hS
    refine q_seq hS rfl rfl rfl (y_neq hS rfl rfl) ?_; clear hS a; intro a hS
    apply wpList_nil
    refine p_norm ?_
    refine c_f hS rfl ?_
    apply wp_skip
    refine p_norm ?_
    apply wp_seq
    apply wp_region_lit
    refine q_seq hS rfl rfl rfl (y_assign hS rfl) ?_; clear hS a; intro a hS
    apply wpList_nil
    refine p_norm ?_
    apply wp_seq
    apply wp_region_lit
    refine q_seq hS rfl rfl rfl (y_assign hS rfl) ?_; clear hS a; intro a hS
    refine q_seq hS rfl rfl rfl (y_assign hS rfl) ?_; clear hS a; intro a hS
    apply wpList_nil
    refine p_norm ?_
    apply wp_seq
    apply wp_seq
    apply wp_region_lit
    refine q_seq hS rfl rfl rfl (y_assign hS rfl) ?_; clear hS a; intro a hS
    apply wpList_nil
    refine p_norm ?_
    apply wp_block
    replace hS := hS.add 800 (slF RQ none 0 0 []) (SlR.nil_ _ _ _)
    replace hS := hS.nilRow 900002 32 4 rfl
    replace hS := hS.add 900 (rdF RT [] []) (RdAll.nil _ _ _)
    refine c_loop (σ := Nat) (fun k a w => ∃ (s2 : Int), ∃ (pu : Nat), ∃ (po : Nat), ∃ (A1 : Option Addr), ∃ (n : Nat), ∃ (c1 : Nat), ∃ (xs : List Queued), ∃ (Aw : Option Addr), ∃ (cw : Nat), ∃ (cs : List Value), ∃ (ws : List Task), (k ≤ m + 61) ∧ (po + n = pu ∧ pu ≤ k ∧ pu ≤ m) ∧ (m ≤ k → n + k ≤ 2 * m ∨ n = 0) ∧ (ws.Perm (xs.map (·.1))) ∧ (BAsc ((pu : Nat) : Int) xs) ∧ St (⟨Try.f5.ntmps, M, noB, w0⟩ : Ctx) [(2, .slice (A) (m) (c)), (7, .pointer (some ⟨b3, 0, none⟩)), (9, .slice (Aw) (n) (cw)), (10, .int .i64 (((pu : Nat) : Int))), (11, .int .i64 (((po : Nat) : Int))), (12, .int .i64 (((k : Nat) : Int)))] [(1308, Ob.box b3 [.int .i64 (p), .int .u64 (s2), .int .i64 (((pu : Nat) : Int)), .slice (A1) (n) (c1)] 25), (900002, Ob.row (Aw) (n) (cw) 32 4 (cs))] [(0, slF RO (A) (m) (c) (ops)), (800, slF RQ (A1) (n) (c1) (xs)), (900, rdF RT (cs) (ws))] a w) (fun k => m + 61 - k) (0) ⟨s, 0, 0, none, 0, 0, [], none, 0, [], [], by omega, by omega, (fun _ => .inr rfl), List.Perm.refl _, bAsc_nil, (hS.sub ⟨rfl, rfl, rfl, rfl, rfl, rfl, trivial⟩ ⟨rfl, rfl, trivial⟩ ⟨rfl, rfl, rfl, trivial⟩)⟩ ?_
    clear hS a; rintro k a w ⟨s2, pu, po, A1, n, c1, xs, Aw, cw, cs, ws, hk, hct, hlow, hperm, hasc, hS⟩
    apply wp_seq
    apply wp_seq
    apply wp_region_lit
    refine q_seq hS rfl rfl rfl (y_move hS rfl) ?_; clear hS a; intro a hS
    refine q_seq hS rfl rfl rfl (y_move hS rfl) ?_; clear hS a; intro a hS
    refine q_seq hS rfl rfl rfl (y_lenSlice hS rfl Try.underlying37) ?_; clear hS a; intro a hS
    refine q_seq hS rfl rfl rfl (y_addN (i := m) (j := 61) hS rfl rfl (in64.2 (by omega))) ?_; clear hS a; intro a hS
    refine q_seq hS rfl rfl rfl (y_lss hS rfl rfl) ?_; clear hS a; intro a hS
    apply wpList_nil
    refine p_norm ?_
    refine c_dec hS rfl (fun hc2 => ?_) (fun hc2 => ?_)
    · apply wp_skip
      refine p_norm ?_
      apply wp_seq
      apply wp_block
      apply wp_seq
      apply wp_seq
      apply wp_region_lit
      refine q_seq hS rfl rfl rfl (y_move hS rfl) ?_; clear hS a; intro a hS
      refine q_seq hS rfl rfl rfl (y_move hS rfl) ?_; clear hS a; intro a hS
      refine q_seq hS rfl rfl rfl (y_lenSlice hS rfl Try.underlying37) ?_; clear hS a; intro a hS
      refine q_seq hS rfl rfl rfl (y_lss hS rfl rfl) ?_; clear hS a; intro a hS
      refine q_seq hS rfl rfl rfl (y_move hS rfl) ?_; clear hS a; intro a hS
      rcases Decidable.em ((((k : Nat) : Int)) < (((m : Nat) : Int))) with hg4 | hg4
      · have hg4e : (decide ((((k : Nat) : Int)) < (((m : Nat) : Int)))) = true := decide_eq_true hg4
        rw [hg4e] at hS
        refine g_yes hS rfl rfl rfl rfl (l_quiet hS rfl rfl (y_move hS rfl) ?_); clear hS a; intro a hS
        refine g_yes hS rfl rfl rfl rfl (l_quiet hS rfl rfl (y_move hS rfl) ?_); clear hS a; intro a hS
        obtain ⟨x5, hx5, p5, he5, hp5⟩ := SlR.elemAt (hS.fact (k := 0) rfl) (i := k) (by omega)
        refine g_yes hS rfl rfl rfl rfl (l_quiet hS rfl rfl (y_elem (sz := 5) (i := k) hS rfl rfl Try.underlying37 rfl he5 (by omega) (by omega)) ?_); clear hS a; intro a hS
        refine g_yes hS rfl rfl rfl rfl (l_quiet hS rfl rfl (y_ptrField (o' := 0) hS rfl Try.underlying39 rfl rfl rfl) ?_); clear hS a; intro a hS
        obtain ⟨hl6, hm6, cs6, hd6, hq6⟩ := hp5
        obtain ⟨rfl, -⟩ := hd6
        refine g_yes hS rfl rfl rfl rfl (l_quiet hS rfl rfl (y_ldp1 hS rfl hl6 hm6 (hq6 0 _ rfl) Try.underlying4 rfl) ?_); clear hS a; intro a hS
        refine q_seq hS rfl rfl rfl (y_pick_t hS rfl rfl) ?_; clear hS a; intro a hS
        apply wpList_nil
        refine p_norm ?_
        refine c_cond hS rfl (fun hc3 => ?_) (fun hc3 => ?_)
        · apply wp_seq
          refine d_plan hS [(7, 1308)] [(0, some 1308), (1, some 0), (2, some 0), (3, some 0), (4, some 0), (5, some 0), (6, none), (7, none)] rfl (by kernel_rfl) (by kernel_rfl) rfl ?_; clear hS; intro wr hZ hS; have hR := hS.wd
          refine q_take hS hR rfl rfl rfl rfl (y_loadBox (kk := 1308) (n := 4) (vs := [.int .i64 (p), .int .u64 (s2), .int .i64 (((pu : Nat) : Int)), .slice (A1) (n) (c1)]) hS rfl rfl Try.underlying25 rfl rfl rfl rfl) ?_; clear hS a; intro a hS
          refine q_take hS hR rfl rfl rfl rfl (y_move hS rfl) ?_; clear hS a; intro a hS
          refine q_take hS hR rfl rfl rfl rfl (y_move hS rfl) ?_; clear hS a; intro a hS
          obtain ⟨x7, hx7, p7, he7, hp7⟩ := SlR.elemAt (hS.fact (k := 0) rfl) (i := k) (by omega)
          refine q_take hS hR rfl rfl rfl rfl (y_elem (sz := 5) (i := k) hS rfl rfl Try.underlying37 rfl he7 (by omega) (by omega)) ?_; clear hS a; intro a hS
          refine q_take hS hR rfl rfl rfl rfl (y_ptrField (o' := 1) hS rfl Try.underlying39 rfl rfl rfl) ?_; clear hS a; intro a hS
          obtain ⟨hl8, hm8, cs8, hd8, hq8⟩ := hp7
          obtain ⟨rfl, -⟩ := hd8
          refine q_take hS hR rfl rfl rfl rfl (y_ldp (cs := [.int .i64 (x7.2.1), .int .i64 (x7.2.2.1), .int .i64 (x7.2.2.2.1), .int .i64 (x7.2.2.2.2)]) hS rfl hl8 hm8 (fun j v hj => hq8 (1 + j) v (by rcases j with _ | (_ | (_ | (_ | _))) <;> first | exact hj | cases hj)) Try.underlying32 rfl rfl) ?_; clear hS a; intro a hS
          refine l_take hS rfl rfl (l_call (cap := []) hS rfl Try.func15 rfl (by kernel_rfl) rfl rfl (push_spec _ _ hS.lt _ _ (((pu : Nat) : Int)) _ (n) _ (xs) (x7.2.1, x7.2.2.1, x7.2.2.2.1, x7.2.2.2.2) (hS.fact (k := 800) rfl) (by omega) (by omega)) ?_); clear hS a; intro v10 a w hK hp hS
          replace hZ := Nat.le_trans hZ hK.size; refine ⟨fun g _ h => h.grow hK, ?_⟩; clear hK
          obtain ⟨A9, c9, rfl, h9⟩ := hp
          replace hS := hS.add 101 (slF RQ (A9) (n + 1) (c9) (xs ++ [((x7.2.1, x7.2.2.1, x7.2.2.2.1, x7.2.2.2.2), ((pu : Nat) : Int))])) h9
          refine l_take hS rfl rfl (l_store (n := 4) (cs' := [.int .i64 (p), .int .u64 (s2), .int .i64 (((pu : Nat) : Int) + 1), .slice (A9) (n + 1) (c9)]) hS 1308 rfl rfl rfl rfl rfl rfl rfl rfl ?_); clear hS; intro w hK hS; replace hZ := Nat.le_trans hZ hK.size
          refine ⟨fun g hg h => h.obj hR (kk := 1308) rfl hK (by rintro rfl; exact absurd hg (by decide)), ?_⟩; clear hK
          clear hR hZ
          refine p_norm ?_
          apply wp_seq
          apply wp_region_lit
          refine q_seq hS rfl rfl rfl (y_move hS rfl) ?_; clear hS a; intro a hS
          refine q_seq hS rfl rfl rfl (y_move hS rfl) ?_; clear hS a; intro a hS
          refine q_seq hS rfl rfl rfl (y_move hS rfl) ?_; clear hS a; intro a hS
          obtain ⟨x11, hx11, p11, he11, hp11⟩ := SlR.elemAt (hS.fact (k := 0) rfl) (i := k) (by omega)
          refine q_seq hS rfl rfl rfl (y_elem (sz := 5) (i := k) hS rfl rfl Try.underlying37 rfl he11 (by omega) (by omega)) ?_; clear hS a; intro a hS
          refine q_seq hS rfl rfl rfl (y_ptrField (o' := 1) hS rfl Try.underlying39 rfl rfl rfl) ?_; clear hS a; intro a hS
          obtain ⟨hl12, hm12, cs12, hd12, hq12⟩ := hp11
          obtain ⟨rfl, -⟩ := hd12
          refine q_seq hS rfl rfl rfl (y_ldp (cs := [.int .i64 (x11.2.1), .int .i64 (x11.2.2.1), .int .i64 (x11.2.2.2.1), .int .i64 (x11.2.2.2.2)]) hS rfl hl12 hm12 (fun j v hj => hq12 (1 + j) v (by rcases j with _ | (_ | (_ | (_ | _))) <;> first | exact hj | cases hj)) Try.underlying32 rfl rfl) ?_; clear hS a; intro a hS
          obtain rfl : x7 = x11 := Option.some.inj (hx7.symm.trans hx11)
          refine l_seq rfl (l_buildDense (sz := 4) hS 2306 rfl rfl rfl Try.underlying42 rfl rfl rfl rfl rfl rfl rfl ?_); clear hS a; intro b13 a w hbb13 hK hS
          clear hbb13
          clear hK
          have hs14 := row_src (hS.wd.holds 2306 _ rfl) (by simp [cellsOfL, Value.cells, Value.oneCell'])
          refine l_seq rfl (l_append (sz := 4) (by_ := 32) (N := n + 1) (ys := cs ++ cellsOfL [.agg #[.int .i64 (x7.2.1), .int .i64 (x7.2.2.1), .int .i64 (x7.2.2.2.1), .int .i64 (x7.2.2.2.2)]]) hS 900002 rfl rfl rfl Try.underlying42 rfl rfl rfl rfl rfl hs14 (by omega) rfl (by omega) (by omega) rfl ?_); clear hS a; intro A15 c15 a w hA hK hS
          clear hK hA
          replace hS := hS.add 102 (rdF RT (cs ++ cellsOfL [.agg #[.int .i64 (x7.2.1), .int .i64 (x7.2.2.1), .int .i64 (x7.2.2.2.1), .int .i64 (x7.2.2.2.2)]]) (ws ++ [(x7.2.1, x7.2.2.1, x7.2.2.2.1, x7.2.2.2.2)])) (RdAll.append (hS.fact (k := 900) rfl) (RdAll.single ⟨rfl, trivial⟩))
          refine q_seq hS rfl rfl rfl (y_assign hS rfl) ?_; clear hS a; intro a hS
          apply wpList_nil
          refine p_norm ?_
          apply wp_seq
          apply wp_region_lit
          refine q_seq hS rfl rfl rfl (y_move hS rfl) ?_; clear hS a; intro a hS
          refine q_seq hS rfl rfl rfl (y_addN (i := pu) (j := 1) hS rfl rfl (in64.2 (by omega))) ?_; clear hS a; intro a hS
          refine q_seq hS rfl rfl rfl (y_assign hS rfl) ?_; clear hS a; intro a hS
          apply wpList_nil
          refine p_norm ?_
          apply wp_exit
          refine p_then ?_
          refine p_in ?_
          refine p_norm ?_
          apply wp_region_lit
          refine q_seq hS rfl rfl rfl (y_move hS rfl) ?_; clear hS a; intro a hS
          refine q_seq hS rfl rfl rfl (y_addN (i := k) (j := 1) hS rfl rfl (in64.2 (by omega))) ?_; clear hS a; intro a hS
          refine q_seq hS rfl rfl rfl (y_assign hS rfl) ?_; clear hS a; intro a hS
          apply wpList_nil
          refine p_norm ?_
          replace hS := hS.add 800 (slF RQ (A9) (n + 1) (c9) (xs ++ [((x7.2.1, x7.2.2.1, x7.2.2.2.1, x7.2.2.2.2), ((pu : Nat) : Int))])) (hS.fact (k := 101) rfl)
          replace hS := hS.add 900 (rdF RT (cs ++ cellsOfL [.agg #[.int .i64 (x7.2.1), .int .i64 (x7.2.2.1), .int .i64 (x7.2.2.2.1), .int .i64 (x7.2.2.2.2)]]) (ws ++ [(x7.2.1, x7.2.2.1, x7.2.2.2.1, x7.2.2.2.2)])) (hS.fact (k := 102) rfl)
          rw [show ((pu : Nat) : Int) + 1 = ((pu + 1 : Nat) : Int) by omega] at hS
          exact ⟨k + 1, by omega, ⟨s2, pu + 1, po, A9, n + 1, c9, xs ++ [((x7.2.1, x7.2.2.1, x7.2.2.2.1, x7.2.2.2.2), ((pu : Nat) : Int))], A15, c15, cs ++ cellsOfL [.agg #[.int .i64 (x7.2.1), .int .i64 (x7.2.2.1), .int .i64 (x7.2.2.2.1), .int .i64 (x7.2.2.2.2)]], ws ++ [(x7.2.1, x7.2.2.1, x7.2.2.2.1, x7.2.2.2.2)], by omega, by omega, by omega, push_perm hperm _ _, hasc.pushN _, (hS.sub ⟨rfl, rfl, rfl, rfl, rfl, rfl, trivial⟩ ⟨rfl, rfl, trivial⟩ ⟨rfl, rfl, rfl, trivial⟩)⟩⟩
        · apply wp_skip
          refine p_norm ?_
          apply wp_seq
          rcases Nat.eq_zero_or_pos n with rfl | hn
          · apply wp_region_lit
            refine q_seq hS rfl rfl rfl (y_loadBox (kk := 1308) (n := 4) (vs := [.int .i64 (p), .int .u64 (s2), .int .i64 (((pu : Nat) : Int)), .slice (A1) (0) (c1)]) hS rfl rfl Try.underlying25 rfl rfl rfl rfl) ?_; clear hS a; intro a hS
            refine l_seq rfl (l_call (cap := []) hS rfl Try.func13 rfl (by kernel_rfl) rfl rfl (pop_nil _ _ hS.lt _ _ _ _ _ hp) ?_); clear hS a; intro v16 a w hK hp hS
            clear hK
            obtain rfl := hp
            refine q_seq hS rfl rfl rfl (y_move hS rfl) ?_; clear hS a; intro a hS
            refine q_seq hS rfl rfl rfl (y_extract hS rfl rfl) ?_; clear hS a; intro a hS
            refine q_seq hS rfl rfl rfl (y_extract hS rfl rfl) ?_; clear hS a; intro a hS
            refine q_seq hS rfl rfl rfl (y_extract hS rfl rfl) ?_; clear hS a; intro a hS
            refine l_seq rfl (l_alloc (zs := [.int .i64 (0), .int .u64 (0), .int .i64 (0), .slice (none) (0) (0)]) hS 2506 rfl rfl rfl rfl ?_); clear hS a; intro b17 a w hb hK hS
            clear hb
            clear hK
            refine l_seq rfl (l_alloc (zs := [.int .i64 (0), .int .i64 (0), .int .i64 (0), .int .i64 (0)]) hS 2507 rfl rfl rfl rfl ?_); clear hS a; intro b18 a w hb hK hS
            clear hb
            clear hK
            refine l_seq rfl (l_store (n := 4) (cs' := [.int .i64 (p), .int .u64 (s2), .int .i64 (((pu : Nat) : Int)), .slice (A1) (0) (c1)]) hS 2506 rfl rfl rfl rfl rfl rfl rfl rfl ?_); clear hS; intro w hK hS; clear hK
            refine l_seq rfl (l_store (n := 4) (cs' := [.int .i64 (0), .int .i64 (0), .int .i64 (0), .int .i64 (0)]) hS 2507 rfl rfl rfl rfl rfl rfl rfl rfl ?_); clear hS; intro w hK hS; clear hK
            refine q_seq hS rfl rfl rfl (y_assign hS rfl) ?_; clear hS a; intro a hS
            apply wpList_nil
            refine p_norm ?_
            apply wp_seq
            apply wp_seq
            apply wp_region_lit
            refine q_seq hS rfl rfl rfl (y_move hS rfl) ?_; clear hS a; intro a hS
            refine q_seq hS rfl rfl rfl (y_move hS rfl) ?_; clear hS a; intro a hS
            refine q_seq hS rfl rfl rfl (y_move hS rfl) ?_; clear hS a; intro a hS
            refine q_seq hS rfl rfl rfl (y_lss hS rfl rfl) ?_; clear hS a; intro a hS
            rw [show decide ((((po : Nat) : Int)) < (((pu : Nat) : Int))) = false from decide_eq_false (by omega)] at hS
            refine q_seq hS rfl rfl rfl (y_bne hS rfl rfl Try.underlying4) ?_; clear hS a; intro a hS
            apply wpList_nil
            refine p_norm ?_
            refine c_f hS rfl ?_
            apply wp_skip
            refine p_norm ?_
            apply wp_seq
            apply wp_region_lit
            refine q_seq hS rfl rfl rfl (y_loadBox (kk := 2506) (n := 4) (vs := [.int .i64 (p), .int .u64 (s2), .int .i64 (((pu : Nat) : Int)), .slice (A1) (0) (c1)]) hS rfl rfl Try.underlying25 rfl rfl rfl rfl) ?_; clear hS a; intro a hS
            refine l_seq rfl (l_store (n := 4) (cs' := [.int .i64 (p), .int .u64 (s2), .int .i64 (((pu : Nat) : Int)), .slice (A1) (0) (c1)]) hS 1308 rfl rfl rfl rfl rfl rfl rfl rfl ?_); clear hS; intro w hK hS; clear hK
            apply wpList_nil
            refine p_norm ?_
            apply wp_seq
            apply wp_seq
            apply wp_region_lit
            refine q_seq hS rfl rfl rfl (y_move hS rfl) ?_; clear hS a; intro a hS
            apply wpList_nil
            refine p_norm ?_
            refine c_f hS rfl ?_
            apply wp_skip
            refine p_norm ?_
            apply wp_seq
            apply wp_seq
            apply wp_region_lit
            refine q_seq hS rfl rfl rfl (y_loadBox (kk := 1308) (n := 4) (vs := [.int .i64 (p), .int .u64 (s2), .int .i64 (((pu : Nat) : Int)), .slice (A1) (0) (c1)]) hS rfl rfl Try.underlying25 rfl rfl rfl rfl) ?_; clear hS a; intro a hS
            refine l_seq rfl (l_call (cap := []) hS rfl Try.func14 rfl (by kernel_rfl) rfl rfl (len_spec _ _ hS.lt _ _ _ _ _ _) ?_); clear hS a; intro v19 a w hK hp hS
            clear hK
            obtain rfl := hp
            refine q_seq hS rfl rfl rfl (y_move hS rfl) ?_; clear hS a; intro a hS
            refine q_seq hS rfl rfl rfl (y_move hS rfl) ?_; clear hS a; intro a hS
            refine q_seq hS rfl rfl rfl (y_sub hS rfl rfl (in64.2 (by omega))) ?_; clear hS a; intro a hS
            refine q_seq hS rfl rfl rfl (y_neq hS rfl rfl) ?_; clear hS a; intro a hS
            rw [show decide ((((0 : Nat) : Int)) ≠ (((pu : Nat) : Int) - ((po : Nat) : Int))) = false from decide_eq_false (by omega)] at hS
            refine q_seq hS rfl rfl rfl (y_move hS rfl) ?_; clear hS a; intro a hS
            refine g_yes hS rfl rfl rfl rfl (l_quiet hS rfl rfl (y_boxField (o' := 2) hS rfl Try.underlying25 rfl rfl rfl) ?_); clear hS a; intro a hS
            refine g_yes hS rfl rfl rfl rfl (l_quiet hS rfl rfl (y_loadBox1 (kk := 1308) hS rfl rfl rfl Try.underlying3 rfl) ?_); clear hS a; intro a hS
            refine g_yes hS rfl rfl rfl rfl (l_quiet hS rfl rfl (y_move hS rfl) ?_); clear hS a; intro a hS
            refine g_yes hS rfl rfl rfl rfl (l_quiet hS rfl rfl (y_neq hS rfl rfl) ?_); clear hS a; intro a hS
            rw [show decide ((((pu : Nat) : Int)) ≠ (((pu : Nat) : Int))) = false from decide_eq_false (fun h => h rfl)] at hS
            refine q_seq hS rfl rfl rfl (y_pick_f hS rfl rfl) ?_; clear hS a; intro a hS
            refine q_seq hS rfl rfl rfl (y_move hS rfl) ?_; clear hS a; intro a hS
            refine g_yes hS rfl rfl rfl rfl (l_quiet hS rfl rfl (y_boxField (o' := 3) hS rfl Try.underlying25 rfl rfl rfl) ?_); clear hS a; intro a hS
            refine g_yes hS rfl rfl rfl rfl (l_quiet hS rfl rfl (y_loadBox1 (kk := 1308) hS rfl rfl rfl Try.underlying23 rfl) ?_); clear hS a; intro a hS
            refine g_yes hS rfl rfl rfl rfl (l_quiet hS rfl rfl (y_lenSlice hS rfl Try.underlying23) ?_); clear hS a; intro a hS
            refine g_yes hS rfl rfl rfl rfl (l_quiet hS rfl rfl (y_move hS rfl) ?_); clear hS a; intro a hS
            refine g_yes hS rfl rfl rfl rfl (l_quiet hS rfl rfl (y_move hS rfl) ?_); clear hS a; intro a hS
            refine g_yes hS rfl rfl rfl rfl (l_quiet hS rfl rfl (y_sub hS rfl rfl (in64.2 (by omega))) ?_); clear hS a; intro a hS
            refine g_yes hS rfl rfl rfl rfl (l_quiet hS rfl rfl (y_neq hS rfl rfl) ?_); clear hS a; intro a hS
            rw [show decide ((((0 : Nat) : Int)) ≠ (((pu : Nat) : Int) - ((po : Nat) : Int))) = false from decide_eq_false (by omega)] at hS
            refine q_seq hS rfl rfl rfl (y_pick_f hS rfl rfl) ?_; clear hS a; intro a hS
            apply wpList_nil
            refine p_norm ?_
            refine c_f hS rfl ?_
            apply wp_skip
            refine p_norm ?_
            apply wp_seq
            apply wp_region_lit
            refine q_seq hS rfl rfl rfl (y_assign hS rfl) ?_; clear hS a; intro a hS
            apply wpList_nil
            refine p_norm ?_
            apply wp_block
            refine c_loop (σ := Nat) (fun j a w => (1 ≤ j) ∧ St (⟨Try.f5.ntmps, M, noB, w0⟩ : Ctx) [(2, .slice (A) (m) (c)), (7, .pointer (some ⟨b3, 0, none⟩)), (9, .slice (Aw) (0) (cw)), (10, .int .i64 (((pu : Nat) : Int))), (11, .int .i64 (((po : Nat) : Int))), (12, .int .i64 (((k : Nat) : Int))), (17, .int .i64 (((j : Nat) : Int)))] [(1308, Ob.box b3 [.int .i64 (p), .int .u64 (s2), .int .i64 (((pu : Nat) : Int)), .slice (A1) (0) (c1)] 25), (2506, Ob.box b17 [.int .i64 (p), .int .u64 (s2), .int .i64 (((pu : Nat) : Int)), .slice (A1) (0) (c1)] 25), (2507, Ob.box b18 [.int .i64 (0), .int .i64 (0), .int .i64 (0), .int .i64 (0)] 32), (900002, Ob.row (Aw) (0) (cw) 32 4 (cs))] [(0, slF RO (A) (m) (c) (ops)), (800, slF RQ (A1) (0) (c1) (xs)), (900, rdF RT (cs) (ws))] a w) (fun j => 1000 - j) (1) ⟨Nat.le_refl _, (hS.sub ⟨rfl, rfl, rfl, rfl, rfl, rfl, rfl, trivial⟩ ⟨rfl, rfl, rfl, rfl, trivial⟩ ⟨rfl, rfl, rfl, trivial⟩)⟩ ?_
            clear hS a; rintro j a w ⟨hj, hS⟩
            apply wp_seq
            apply wp_seq
            apply wp_region_lit
            refine q_seq hS rfl rfl rfl (y_move hS rfl) ?_; clear hS a; intro a hS
            refine q_seq hS rfl rfl rfl (y_boxField (o' := 3) hS rfl Try.underlying25 rfl rfl rfl) ?_; clear hS a; intro a hS
            refine q_seq hS rfl rfl rfl (y_loadBox1 (kk := 1308) hS rfl rfl rfl Try.underlying23 rfl) ?_; clear hS a; intro a hS
            refine q_seq hS rfl rfl rfl (y_lenSlice hS rfl Try.underlying23) ?_; clear hS a; intro a hS
            refine q_seq hS rfl rfl rfl (y_lss hS rfl rfl) ?_; clear hS a; intro a hS
            apply wpList_nil
            refine p_norm ?_
            refine c_dec hS rfl (fun hc8 => ?_) (fun hc8 => ?_)
            · apply wp_skip
              refine p_norm ?_
              apply wp_seq
              apply wp_block
              apply wp_seq
              refine d_plan hS [] [(0, some 0), (1, some 1308), (2, some 0), (3, some 0), (4, some 0), (5, some 0), (6, some 0), (7, some 1308), (8, some 0), (9, some 0), (10, some 0), (11, some 0), (12, some 0), (13, some 0)] rfl (by kernel_rfl) (by kernel_rfl) rfl ?_; clear hS; intro wr hZ hS; have hR := hS.wd
              refine q_take hS hR rfl rfl rfl rfl (y_boxField (o' := 3) hS rfl Try.underlying25 rfl rfl rfl) ?_; clear hS a; intro a hS
              refine q_take hS hR rfl rfl rfl rfl (y_loadBox1 (kk := 1308) hS rfl rfl rfl Try.underlying23 rfl) ?_; clear hS a; intro a hS
              refine q_take hS hR rfl rfl rfl rfl (y_move hS rfl) ?_; clear hS a; intro a hS
              obtain ⟨x20, hx20, p20, he20, hp20⟩ := SlR.elemAt (hS.fact (k := 800) rfl) (i := j) (by omega)
              refine q_take hS hR rfl rfl rfl rfl (y_elem (sz := 5) (i := j) hS rfl rfl Try.underlying23 rfl he20 (by omega) (by omega)) ?_; clear hS a; intro a hS
              refine q_take hS hR rfl rfl rfl rfl (y_ptrField (o' := 4) hS rfl Try.underlying45 rfl rfl rfl) ?_; clear hS a; intro a hS
              obtain ⟨hl21, hm21, cs21, hd21, hq21⟩ := hp20
              obtain ⟨rfl, -⟩ := hd21
              refine q_take hS hR rfl rfl rfl rfl (y_ldp1 hS rfl hl21 hm21 (hq21 4 _ rfl) Try.underlying3 rfl) ?_; clear hS a; intro a hS
              refine q_take hS hR rfl rfl rfl rfl (y_boxField (o' := 3) hS rfl Try.underlying25 rfl rfl rfl) ?_; clear hS a; intro a hS
              refine q_take hS hR rfl rfl rfl rfl (y_loadBox1 (kk := 1308) hS rfl rfl rfl Try.underlying23 rfl) ?_; clear hS a; intro a hS
              refine q_take hS hR rfl rfl rfl rfl (y_move hS rfl) ?_; clear hS a; intro a hS
              refine q_take hS hR rfl rfl rfl rfl (y_sub hS rfl rfl (in64.2 (by omega))) ?_; clear hS a; intro a hS
              rw [show ((j : Nat) : Int) - 1 = ((j - 1 : Nat) : Int) by omega] at hS
              obtain ⟨x22, hx22, p22, he22, hp22⟩ := SlR.elemAt (hS.fact (k := 800) rfl) (i := j - 1) (by omega)
              refine q_take hS hR rfl rfl rfl rfl (y_elem (sz := 5) (i := j - 1) hS rfl rfl Try.underlying23 rfl he22 (by omega) (by omega)) ?_; clear hS a; intro a hS
              refine q_take hS hR rfl rfl rfl rfl (y_ptrField (o' := 4) hS rfl Try.underlying45 rfl rfl rfl) ?_; clear hS a; intro a hS
              obtain ⟨hl23, hm23, cs23, hd23, hq23⟩ := hp22
              obtain ⟨rfl, -⟩ := hd23
              refine q_take hS hR rfl rfl rfl rfl (y_ldp1 hS rfl hl23 hm23 (hq23 4 _ rfl) Try.underlying3 rfl) ?_; clear hS a; intro a hS
              refine q_take hS hR rfl rfl rfl rfl (y_leq hS rfl rfl) ?_; clear hS a; intro a hS
              rw [show decide ((x20.2) ≤ (x22.2)) = false from decide_eq_false (by have h := hasc.lt hx22 hx20 (by omega); omega)] at hS
              clear hR hZ
              refine p_norm ?_
              refine c_f hS rfl ?_
              apply wp_skip
              refine p_inN ?_
              refine p_norm ?_
              apply wp_region_lit
              refine q_seq hS rfl rfl rfl (y_move hS rfl) ?_; clear hS a; intro a hS
              refine q_seq hS rfl rfl rfl (y_addN (i := j) (j := 1) hS rfl rfl (in64.2 (by omega))) ?_; clear hS a; intro a hS
              refine q_seq hS rfl rfl rfl (y_assign hS rfl) ?_; clear hS a; intro a hS
              apply wpList_nil
              refine p_norm ?_
              exact ⟨j + 1, by omega, ⟨by omega, (hS.sub ⟨rfl, rfl, rfl, rfl, rfl, rfl, rfl, trivial⟩ ⟨rfl, rfl, rfl, rfl, trivial⟩ ⟨rfl, rfl, rfl, trivial⟩)⟩⟩
            · apply wp_exit
              refine p_then ?_
              refine p_then ?_
              refine p_in ?_
              refine p_inN ?_
              refine p_norm ?_
              apply wp_region_lit
              refine q_seq hS rfl rfl rfl (y_move hS rfl) ?_; clear hS a; intro a hS
              refine q_seq hS rfl rfl rfl (y_addN (i := k) (j := 1) hS rfl rfl (in64.2 (by omega))) ?_; clear hS a; intro a hS
              refine q_seq hS rfl rfl rfl (y_assign hS rfl) ?_; clear hS a; intro a hS
              apply wpList_nil
              refine p_norm ?_
              replace hS := hS.add 800 (slF RQ (A1) (0) (c1) (xs)) (hS.fact (k := 800) rfl)
              replace hS := hS.add 900 (rdF RT (cs) (ws)) (hS.fact (k := 900) rfl)
              exact ⟨k + 1, by omega, ⟨s2, pu, po, A1, 0, c1, xs, Aw, cw, cs, ws, by omega, by omega, by omega, hperm, hasc, (hS.sub ⟨rfl, rfl, rfl, rfl, rfl, rfl, trivial⟩ ⟨rfl, rfl, trivial⟩ ⟨rfl, rfl, rfl, trivial⟩)⟩⟩
          · apply wp_region_lit
            refine q_seq hS rfl rfl rfl (y_loadBox (kk := 1308) (n := 4) (vs := [.int .i64 (p), .int .u64 (s2), .int .i64 (((pu : Nat) : Int)), .slice (A1) (n) (c1)]) hS rfl rfl Try.underlying25 rfl rfl rfl rfl) ?_; clear hS a; intro a hS
            refine l_seq rfl (l_call (cap := []) hS rfl Try.func13 rfl (by kernel_rfl) rfl rfl (pop_all _ _ hS.lt _ _ _ _ _ _ (xs) hp (hS.fact (k := 800) rfl) (by omega)) ?_); clear hS a; intro v25 a w hK hp hS
            clear hK
            obtain ⟨A24, c24, x24, hx24, rfl, h24⟩ := hp
            replace hS := hS.add 103 (slF RQ (A24) (n - 1) (c24) (popRest (xs) (popIdx (p) (s2) (xs)))) h24
            refine q_seq hS rfl rfl rfl (y_move hS rfl) ?_; clear hS a; intro a hS
            refine q_seq hS rfl rfl rfl (y_extract hS rfl rfl) ?_; clear hS a; intro a hS
            refine q_seq hS rfl rfl rfl (y_extract hS rfl rfl) ?_; clear hS a; intro a hS
            refine q_seq hS rfl rfl rfl (y_extract hS rfl rfl) ?_; clear hS a; intro a hS
            refine l_seq rfl (l_alloc (zs := [.int .i64 (0), .int .u64 (0), .int .i64 (0), .slice (none) (0) (0)]) hS 2506 rfl rfl rfl rfl ?_); clear hS a; intro b26 a w hb hK hS
            clear hb
            clear hK
            refine l_seq rfl (l_alloc (zs := [.int .i64 (0), .int .i64 (0), .int .i64 (0), .int .i64 (0)]) hS 2507 rfl rfl rfl rfl ?_); clear hS a; intro b27 a w hb hK hS
            clear hb
            clear hK
            refine l_seq rfl (l_store (n := 4) (cs' := [.int .i64 (p), .int .u64 (popSeed (p) (s2)), .int .i64 (((pu : Nat) : Int)), .slice (A24) (n - 1) (c24)]) hS 2506 rfl rfl rfl rfl rfl rfl rfl rfl ?_); clear hS; intro w hK hS; clear hK
            refine l_seq rfl (l_store (n := 4) (cs' := [.int .i64 (x24.1.1), .int .i64 (x24.1.2.1), .int .i64 (x24.1.2.2.1), .int .i64 (x24.1.2.2.2)]) hS 2507 rfl rfl rfl rfl rfl rfl rfl rfl ?_); clear hS; intro w hK hS; clear hK
            refine q_seq hS rfl rfl rfl (y_assign hS rfl) ?_; clear hS a; intro a hS
            apply wpList_nil
            refine p_norm ?_
            apply wp_seq
            apply wp_seq
            apply wp_region_lit
            refine q_seq hS rfl rfl rfl (y_move hS rfl) ?_; clear hS a; intro a hS
            refine q_seq hS rfl rfl rfl (y_move hS rfl) ?_; clear hS a; intro a hS
            refine q_seq hS rfl rfl rfl (y_move hS rfl) ?_; clear hS a; intro a hS
            refine q_seq hS rfl rfl rfl (y_lss hS rfl rfl) ?_; clear hS a; intro a hS
            rw [show decide ((((po : Nat) : Int)) < (((pu : Nat) : Int))) = true from decide_eq_true (by omega)] at hS
            refine q_seq hS rfl rfl rfl (y_bne hS rfl rfl Try.underlying4) ?_; clear hS a; intro a hS
            apply wpList_nil
            refine p_norm ?_
            refine c_f hS rfl ?_
            apply wp_skip
            refine p_norm ?_
            apply wp_seq
            apply wp_region_lit
            refine q_seq hS rfl rfl rfl (y_loadBox (kk := 2506) (n := 4) (vs := [.int .i64 (p), .int .u64 (popSeed (p) (s2)), .int .i64 (((pu : Nat) : Int)), .slice (A24) (n - 1) (c24)]) hS rfl rfl Try.underlying25 rfl rfl rfl rfl) ?_; clear hS a; intro a hS
            refine l_seq rfl (l_store (n := 4) (cs' := [.int .i64 (p), .int .u64 (popSeed (p) (s2)), .int .i64 (((pu : Nat) : Int)), .slice (A24) (n - 1) (c24)]) hS 1308 rfl rfl rfl rfl rfl rfl rfl rfl ?_); clear hS; intro w hK hS; clear hK
            apply wpList_nil
            refine p_norm ?_
            apply wp_seq
            apply wp_seq
            apply wp_region_lit
            refine q_seq hS rfl rfl rfl (y_move hS rfl) ?_; clear hS a; intro a hS
            apply wpList_nil
            refine p_norm ?_
            refine c_t hS rfl ?_
            apply wp_seq
            apply wp_region_lit
            refine q_seq hS rfl rfl rfl (y_move hS rfl) ?_; clear hS a; intro a hS
            refine q_seq hS rfl rfl rfl (y_addN (i := po) (j := 1) hS rfl rfl (in64.2 (by omega))) ?_; clear hS a; intro a hS
            refine q_seq hS rfl rfl rfl (y_assign hS rfl) ?_; clear hS a; intro a hS
            apply wpList_nil
            refine p_norm ?_
            apply wp_seq
            apply wp_region_lit
            refine q_seq hS rfl rfl rfl (y_move hS rfl) ?_; clear hS a; intro a hS
            refine q_seq hS rfl rfl rfl (y_loadBox (kk := 2507) (n := 4) (vs := [.int .i64 (x24.1.1), .int .i64 (x24.1.2.1), .int .i64 (x24.1.2.2.1), .int .i64 (x24.1.2.2.2)]) hS rfl rfl Try.underlying32 rfl rfl rfl rfl) ?_; clear hS a; intro a hS
            refine l_seq rfl (l_call (cap := []) hS rfl Try.func19 rfl (by kernel_rfl) rfl rfl (place_spec _ _ (hS.lendLt (L' := [(1308, Ob.box b3 [.int .i64 (p), .int .u64 (popSeed (p) (s2)), .int .i64 (((pu : Nat) : Int)), .slice (A24) (n - 1) (c24)] 25), (2506, Ob.box b26 [.int .i64 (p), .int .u64 (popSeed (p) (s2)), .int .i64 (((pu : Nat) : Int)), .slice (A24) (n - 1) (c24)] 25), (2507, Ob.box b27 [.int .i64 (x24.1.1), .int .i64 (x24.1.2.1), .int .i64 (x24.1.2.2.1), .int .i64 (x24.1.2.2.2)] 32)]) ⟨rfl, rfl, rfl, trivial⟩) _ _ _ (ws) (x24.1.1, x24.1.2.1, x24.1.2.2.1, x24.1.2.2.2) (hS.lend (R := RT) (kk := 900002) (L' := [(1308, Ob.box b3 [.int .i64 (p), .int .u64 (popSeed (p) (s2)), .int .i64 (((pu : Nat) : Int)), .slice (A24) (n - 1) (c24)] 25), (2506, Ob.box b26 [.int .i64 (p), .int .u64 (popSeed (p) (s2)), .int .i64 (((pu : Nat) : Int)), .slice (A24) (n - 1) (c24)] 25), (2507, Ob.box b27 [.int .i64 (x24.1.1), .int .i64 (x24.1.2.1), .int .i64 (x24.1.2.2.1), .int .i64 (x24.1.2.2.2)] 32)]) rfl rfl (hS.fact (k := 900) rfl) ⟨rfl, rfl, rfl, trivial⟩ rfl) (by omega) (once_mem hperm hx24)) ?_); clear hS a; intro v29 a w hK hp hS
            clear hK
            obtain ⟨at28, rfl, hat28⟩ := hp
            have hatl := (List.getElem?_eq_some_iff.1 hat28).1
            have hwl := rowN (hS.wd.holds 900002 _ rfl) (hS.fact (k := 900) rfl) rfl rfl
            refine q_seq hS rfl rfl rfl (y_assign hS rfl) ?_; clear hS a; intro a hS
            apply wpList_nil
            refine p_norm ?_
            apply wp_seq
            apply wp_seq
            apply wp_region_lit
            refine q_seq hS rfl rfl rfl (y_move hS rfl) ?_; clear hS a; intro a hS
            refine q_seq hS rfl rfl rfl (y_lss hS rfl rfl) ?_; clear hS a; intro a hS
            rw [show decide ((((at28 : Nat) : Int)) < (0)) = false from decide_eq_false (by omega)] at hS
            apply wpList_nil
            refine p_norm ?_
            refine c_f hS rfl ?_
            apply wp_skip
            refine p_norm ?_
            apply wp_seq
            apply wp_region_lit
            refine q_seq hS rfl rfl rfl (y_move hS rfl) ?_; clear hS a; intro a hS
            refine q_seq hS rfl rfl rfl (y_move hS rfl) ?_; clear hS a; intro a hS
            refine q_seq hS rfl rfl rfl (y_move hS rfl) ?_; clear hS a; intro a hS
            refine q_seq hS rfl rfl rfl (y_move hS rfl) ?_; clear hS a; intro a hS
            refine q_seq hS rfl rfl rfl (y_lenSlice hS rfl Try.underlying42) ?_; clear hS a; intro a hS
            refine q_seq hS rfl rfl rfl (y_sub hS rfl rfl (in64.2 (by omega))) ?_; clear hS a; intro a hS
            rw [show ((n : Nat) : Int) - 1 = ((n - 1 : Nat) : Int) by omega] at hS
            obtain ⟨b30, hA30⟩ := row_form (hS.wd.holds 900002 _ rfl) (by omega)
            obtain ⟨x30, hx30⟩ := get_of_lt (i := n - 1) (rowN (hS.wd.holds 900002 _ rfl) (hS.fact (k := 900) rfl) rfl rfl) (by omega)
            refine q_seq hS rfl rfl rfl (y_rowIndex (sz := 4) (i := n - 1) hS rfl rfl Try.underlying42 rfl hA30 (by omega) (by omega)) ?_; clear hS a; intro a hS
            have hz31 := (hS.fact (k := 900) rfl).at_ _ _ hx30
            refine q_seq hS rfl rfl rfl (y_loadRow (kk := 900002) (vs := [.int .i64 (x30.1), .int .i64 (x30.2.1), .int .i64 (x30.2.2.1), .int .i64 (x30.2.2.2)]) hS rfl rfl hA30 hz31.1 Try.underlying32 rfl rfl) ?_; clear hS a; intro a hS
            obtain ⟨b32, hA32⟩ := row_form (hS.wd.holds 900002 _ rfl) (by omega)
            obtain ⟨x32, hx32⟩ := get_of_lt (i := at28) (rowN (hS.wd.holds 900002 _ rfl) (hS.fact (k := 900) rfl) rfl rfl) (by omega)
            refine q_seq hS rfl rfl rfl (y_rowIndex (sz := 4) (i := at28) hS rfl rfl Try.underlying42 rfl hA32 (by omega) (by omega)) ?_; clear hS a; intro a hS
            have hzi := (List.getElem?_eq_some_iff.1 hx32).1
            refine l_seq rfl (l_storeRow (N := 4) (cs' := splice (cs) (at28 * 4) [.int .i64 (x30.1), .int .i64 (x30.2.1), .int .i64 (x30.2.2.1), .int .i64 (x30.2.2.2)]) hS 900002 rfl rfl rfl hA32 rfl rfl (by omega) rfl rfl ?_); clear hS; intro w hK hS; clear hK
            replace hS := hS.add 104 (rdF RT (splice (cs) (at28 * 4) [.int .i64 (x30.1), .int .i64 (x30.2.1), .int .i64 (x30.2.2.1), .int .i64 (x30.2.2.2)]) ((ws).set (at28) (x30.1, x30.2.1, x30.2.2.1, x30.2.2.2))) (RdAll.put (hS.fact (k := 900) rfl) ⟨rfl, trivial⟩ hzi)
            apply wpList_nil
            refine p_norm ?_
            apply wp_region_lit
            refine q_seq hS rfl rfl rfl (y_move hS rfl) ?_; clear hS a; intro a hS
            refine q_seq hS rfl rfl rfl (y_move hS rfl) ?_; clear hS a; intro a hS
            refine q_seq hS rfl rfl rfl (y_lenSlice hS rfl Try.underlying42) ?_; clear hS a; intro a hS
            refine q_seq hS rfl rfl rfl (y_sub hS rfl rfl (in64.2 (by omega))) ?_; clear hS a; intro a hS
            rw [show ((n : Nat) : Int) - 1 = ((n - 1 : Nat) : Int) by omega] at hS
            have hcap900002 := row_cap (hS.wd.holds 900002 _ rfl)
            have hrl900002 := rowN (hS.wd.holds 900002 _ rfl) (hS.fact (k := 104) rfl) rfl rfl
            refine q_seq hS rfl rfl rfl (y_sliceHN (sz := 4) (i := n - 1) hS rfl rfl Try.underlying42 rfl (by omega) (by omega)) ?_; clear hS a; intro a hS
            clear hcap900002
            replace hS := hS.rowCut (kk := 900002) (i := n - 1) rfl (by omega)
            skip
            replace hS := hS.add 105 (rdF RT ((splice (cs) (at28 * 4) [.int .i64 (x30.1), .int .i64 (x30.2.1), .int .i64 (x30.2.2.1), .int .i64 (x30.2.2.2)]).take ((n - 1) * 4)) (((ws).set (at28) (x30.1, x30.2.1, x30.2.2.1, x30.2.2.2)).take (n - 1))) ((hS.fact (k := 104) rfl).take (n - 1) (by rw [hrl900002]; omega))
            refine q_seq hS rfl rfl rfl (y_assign hS rfl) ?_; clear hS a; intro a hS
            apply wpList_nil
            refine p_norm ?_
            apply wp_seq
            apply wp_seq
            apply wp_region_lit
            refine q_seq hS rfl rfl rfl (y_loadBox (kk := 1308) (n := 4) (vs := [.int .i64 (p), .int .u64 (popSeed (p) (s2)), .int .i64 (((pu : Nat) : Int)), .slice (A24) (n - 1) (c24)]) hS rfl rfl Try.underlying25 rfl rfl rfl rfl) ?_; clear hS a; intro a hS
            refine l_seq rfl (l_call (cap := []) hS rfl Try.func14 rfl (by kernel_rfl) rfl rfl (len_spec _ _ hS.lt _ _ _ _ _ _) ?_); clear hS a; intro v33 a w hK hp hS
            clear hK
            obtain rfl := hp
            refine q_seq hS rfl rfl rfl (y_move hS rfl) ?_; clear hS a; intro a hS
            refine q_seq hS rfl rfl rfl (y_move hS rfl) ?_; clear hS a; intro a hS
            refine q_seq hS rfl rfl rfl (y_sub hS rfl rfl (in64.2 (by omega))) ?_; clear hS a; intro a hS
            refine q_seq hS rfl rfl rfl (y_neq hS rfl rfl) ?_; clear hS a; intro a hS
            rw [show decide ((((n - 1 : Nat) : Int)) ≠ (((pu : Nat) : Int) - ((po + 1 : Nat) : Int))) = false from decide_eq_false (by omega)] at hS
            refine q_seq hS rfl rfl rfl (y_move hS rfl) ?_; clear hS a; intro a hS
            refine g_yes hS rfl rfl rfl rfl (l_quiet hS rfl rfl (y_boxField (o' := 2) hS rfl Try.underlying25 rfl rfl rfl) ?_); clear hS a; intro a hS
            refine g_yes hS rfl rfl rfl rfl (l_quiet hS rfl rfl (y_loadBox1 (kk := 1308) hS rfl rfl rfl Try.underlying3 rfl) ?_); clear hS a; intro a hS
            refine g_yes hS rfl rfl rfl rfl (l_quiet hS rfl rfl (y_move hS rfl) ?_); clear hS a; intro a hS
            refine g_yes hS rfl rfl rfl rfl (l_quiet hS rfl rfl (y_neq hS rfl rfl) ?_); clear hS a; intro a hS
            rw [show decide ((((pu : Nat) : Int)) ≠ (((pu : Nat) : Int))) = false from decide_eq_false (fun h => h rfl)] at hS
            refine q_seq hS rfl rfl rfl (y_pick_f hS rfl rfl) ?_; clear hS a; intro a hS
            refine q_seq hS rfl rfl rfl (y_move hS rfl) ?_; clear hS a; intro a hS
            refine g_yes hS rfl rfl rfl rfl (l_quiet hS rfl rfl (y_boxField (o' := 3) hS rfl Try.underlying25 rfl rfl rfl) ?_); clear hS a; intro a hS
            refine g_yes hS rfl rfl rfl rfl (l_quiet hS rfl rfl (y_loadBox1 (kk := 1308) hS rfl rfl rfl Try.underlying23 rfl) ?_); clear hS a; intro a hS
            refine g_yes hS rfl rfl rfl rfl (l_quiet hS rfl rfl (y_lenSlice hS rfl Try.underlying23) ?_); clear hS a; intro a hS
            refine g_yes hS rfl rfl rfl rfl (l_quiet hS rfl rfl (y_move hS rfl) ?_); clear hS a; intro a hS
            refine g_yes hS rfl rfl rfl rfl (l_quiet hS rfl rfl (y_move hS rfl) ?_); clear hS a; intro a hS
            refine g_yes hS rfl rfl rfl rfl (l_quiet hS rfl rfl (y_sub hS rfl rfl (in64.2 (by omega))) ?_); clear hS a; intro a hS
            refine g_yes hS rfl rfl rfl rfl (l_quiet hS rfl rfl (y_neq hS rfl rfl) ?_); clear hS a; intro a hS
            rw [show decide ((((n - 1 : Nat) : Int)) ≠ (((pu : Nat) : Int) - ((po + 1 : Nat) : Int))) = false from decide_eq_false (by omega)] at hS
            refine q_seq hS rfl rfl rfl (y_pick_f hS rfl rfl) ?_; clear hS a; intro a hS
            apply wpList_nil
            refine p_norm ?_
            refine c_f hS rfl ?_
            apply wp_skip
            refine p_norm ?_
            apply wp_seq
            apply wp_region_lit
            refine q_seq hS rfl rfl rfl (y_assign hS rfl) ?_; clear hS a; intro a hS
            apply wpList_nil
            refine p_norm ?_
            apply wp_block
            refine c_loop (σ := Nat) (fun j a w => (1 ≤ j) ∧ St (⟨Try.f5.ntmps, M, noB, w0⟩ : Ctx) [(2, .slice (A) (m) (c)), (7, .pointer (some ⟨b3, 0, none⟩)), (9, .slice (Aw) (n - 1) (cw)), (10, .int .i64 (((pu : Nat) : Int))), (11, .int .i64 (((po + 1 : Nat) : Int))), (12, .int .i64 (((k : Nat) : Int))), (17, .int .i64 (((j : Nat) : Int)))] [(1308, Ob.box b3 [.int .i64 (p), .int .u64 (popSeed (p) (s2)), .int .i64 (((pu : Nat) : Int)), .slice (A24) (n - 1) (c24)] 25), (2506, Ob.box b26 [.int .i64 (p), .int .u64 (popSeed (p) (s2)), .int .i64 (((pu : Nat) : Int)), .slice (A24) (n - 1) (c24)] 25), (2507, Ob.box b27 [.int .i64 (x24.1.1), .int .i64 (x24.1.2.1), .int .i64 (x24.1.2.2.1), .int .i64 (x24.1.2.2.2)] 32), (900002, Ob.row (Aw) (n - 1) (cw) 32 4 ((splice (cs) (at28 * 4) [.int .i64 (x30.1), .int .i64 (x30.2.1), .int .i64 (x30.2.2.1), .int .i64 (x30.2.2.2)]).take ((n - 1) * 4)))] [(0, slF RO (A) (m) (c) (ops)), (103, slF RQ (A24) (n - 1) (c24) (popRest (xs) (popIdx (p) (s2) (xs)))), (104, rdF RT (splice (cs) (at28 * 4) [.int .i64 (x30.1), .int .i64 (x30.2.1), .int .i64 (x30.2.2.1), .int .i64 (x30.2.2.2)]) ((ws).set (at28) (x30.1, x30.2.1, x30.2.2.1, x30.2.2.2))), (105, rdF RT ((splice (cs) (at28 * 4) [.int .i64 (x30.1), .int .i64 (x30.2.1), .int .i64 (x30.2.2.1), .int .i64 (x30.2.2.2)]).take ((n - 1) * 4)) (((ws).set (at28) (x30.1, x30.2.1, x30.2.2.1, x30.2.2.2)).take (n - 1))), (800, slF RQ (A1) (n) (c1) (xs)), (900, rdF RT (cs) (ws))] a w) (fun j => 1000 - j) (1) ⟨Nat.le_refl _, (hS.sub ⟨rfl, rfl, rfl, rfl, rfl, rfl, rfl, trivial⟩ ⟨rfl, rfl, rfl, rfl, trivial⟩ ⟨rfl, rfl, rfl, rfl, rfl, rfl, trivial⟩)⟩ ?_
            clear hS a; rintro j a w ⟨hj, hS⟩
            apply wp_seq
            apply wp_seq
            apply wp_region_lit
            refine q_seq hS rfl rfl rfl (y_move hS rfl) ?_; clear hS a; intro a hS
            refine q_seq hS rfl rfl rfl (y_boxField (o' := 3) hS rfl Try.underlying25 rfl rfl rfl) ?_; clear hS a; intro a hS
            refine q_seq hS rfl rfl rfl (y_loadBox1 (kk := 1308) hS rfl rfl rfl Try.underlying23 rfl) ?_; clear hS a; intro a hS
            refine q_seq hS rfl rfl rfl (y_lenSlice hS rfl Try.underlying23) ?_; clear hS a; intro a hS
            refine q_seq hS rfl rfl rfl (y_lss hS rfl rfl) ?_; clear hS a; intro a hS
            apply wpList_nil
            refine p_norm ?_
            refine c_dec hS rfl (fun hc8 => ?_) (fun hc8 => ?_)
            · apply wp_skip
              refine p_norm ?_
              apply wp_seq
              apply wp_block
              apply wp_seq
              refine d_plan hS [] [(0, some 0), (1, some 1308), (2, some 0), (3, some 0), (4, some 0), (5, some 0), (6, some 0), (7, some 1308), (8, some 0), (9, some 0), (10, some 0), (11, some 0), (12, some 0), (13, some 0)] rfl (by kernel_rfl) (by kernel_rfl) rfl ?_; clear hS; intro wr hZ hS; have hR := hS.wd
              refine q_take hS hR rfl rfl rfl rfl (y_boxField (o' := 3) hS rfl Try.underlying25 rfl rfl rfl) ?_; clear hS a; intro a hS
              refine q_take hS hR rfl rfl rfl rfl (y_loadBox1 (kk := 1308) hS rfl rfl rfl Try.underlying23 rfl) ?_; clear hS a; intro a hS
              refine q_take hS hR rfl rfl rfl rfl (y_move hS rfl) ?_; clear hS a; intro a hS
              obtain ⟨x34, hx34, p34, he34, hp34⟩ := SlR.elemAt (hS.fact (k := 103) rfl) (i := j) (by omega)
              refine q_take hS hR rfl rfl rfl rfl (y_elem (sz := 5) (i := j) hS rfl rfl Try.underlying23 rfl he34 (by omega) (by omega)) ?_; clear hS a; intro a hS
              refine q_take hS hR rfl rfl rfl rfl (y_ptrField (o' := 4) hS rfl Try.underlying45 rfl rfl rfl) ?_; clear hS a; intro a hS
              obtain ⟨hl35, hm35, cs35, hd35, hq35⟩ := hp34
              obtain ⟨rfl, -⟩ := hd35
              refine q_take hS hR rfl rfl rfl rfl (y_ldp1 hS rfl hl35 hm35 (hq35 4 _ rfl) Try.underlying3 rfl) ?_; clear hS a; intro a hS
              refine q_take hS hR rfl rfl rfl rfl (y_boxField (o' := 3) hS rfl Try.underlying25 rfl rfl rfl) ?_; clear hS a; intro a hS
              refine q_take hS hR rfl rfl rfl rfl (y_loadBox1 (kk := 1308) hS rfl rfl rfl Try.underlying23 rfl) ?_; clear hS a; intro a hS
              refine q_take hS hR rfl rfl rfl rfl (y_move hS rfl) ?_; clear hS a; intro a hS
              refine q_take hS hR rfl rfl rfl rfl (y_sub hS rfl rfl (in64.2 (by omega))) ?_; clear hS a; intro a hS
              rw [show ((j : Nat) : Int) - 1 = ((j - 1 : Nat) : Int) by omega] at hS
              obtain ⟨x36, hx36, p36, he36, hp36⟩ := SlR.elemAt (hS.fact (k := 103) rfl) (i := j - 1) (by omega)
              refine q_take hS hR rfl rfl rfl rfl (y_elem (sz := 5) (i := j - 1) hS rfl rfl Try.underlying23 rfl he36 (by omega) (by omega)) ?_; clear hS a; intro a hS
              refine q_take hS hR rfl rfl rfl rfl (y_ptrField (o' := 4) hS rfl Try.underlying45 rfl rfl rfl) ?_; clear hS a; intro a hS
              obtain ⟨hl37, hm37, cs37, hd37, hq37⟩ := hp36
              obtain ⟨rfl, -⟩ := hd37
              refine q_take hS hR rfl rfl rfl rfl (y_ldp1 hS rfl hl37 hm37 (hq37 4 _ rfl) Try.underlying3 rfl) ?_; clear hS a; intro a hS
              refine q_take hS hR rfl rfl rfl rfl (y_leq hS rfl rfl) ?_; clear hS a; intro a hS
              rw [show decide ((x34.2) ≤ (x36.2)) = false from decide_eq_false (by have h := (hasc.rest _).lt hx36 hx34 (by omega); omega)] at hS
              clear hR hZ
              refine p_norm ?_
              refine c_f hS rfl ?_
              apply wp_skip
              refine p_inN ?_
              refine p_norm ?_
              apply wp_region_lit
              refine q_seq hS rfl rfl rfl (y_move hS rfl) ?_; clear hS a; intro a hS
              refine q_seq hS rfl rfl rfl (y_addN (i := j) (j := 1) hS rfl rfl (in64.2 (by omega))) ?_; clear hS a; intro a hS
              refine q_seq hS rfl rfl rfl (y_assign hS rfl) ?_; clear hS a; intro a hS
              apply wpList_nil
              refine p_norm ?_
              exact ⟨j + 1, by omega, ⟨by omega, (hS.sub ⟨rfl, rfl, rfl, rfl, rfl, rfl, rfl, trivial⟩ ⟨rfl, rfl, rfl, rfl, trivial⟩ ⟨rfl, rfl, rfl, rfl, rfl, rfl, trivial⟩)⟩⟩
            · apply wp_exit
              refine p_then ?_
              refine p_then ?_
              refine p_in ?_
              refine p_inN ?_
              refine p_norm ?_
              apply wp_region_lit
              refine q_seq hS rfl rfl rfl (y_move hS rfl) ?_; clear hS a; intro a hS
              refine q_seq hS rfl rfl rfl (y_addN (i := k) (j := 1) hS rfl rfl (in64.2 (by omega))) ?_; clear hS a; intro a hS
              refine q_seq hS rfl rfl rfl (y_assign hS rfl) ?_; clear hS a; intro a hS
              apply wpList_nil
              refine p_norm ?_
              replace hS := hS.add 800 (slF RQ (A24) (n - 1) (c24) (popRest (xs) (popIdx (p) (s2) (xs)))) (hS.fact (k := 103) rfl)
              replace hS := hS.add 900 (rdF RT ((splice (cs) (at28 * 4) [.int .i64 (x30.1), .int .i64 (x30.2.1), .int .i64 (x30.2.2.1), .int .i64 (x30.2.2.2)]).take ((n - 1) * 4)) (((ws).set (at28) (x30.1, x30.2.1, x30.2.2.1, x30.2.2.2)).take (n - 1))) (hS.fact (k := 105) rfl)
              exact ⟨k + 1, by omega, ⟨popSeed (p) (s2), pu, po + 1, A24, n - 1, c24, popRest (xs) (popIdx (p) (s2) (xs)), Aw, cw, (splice (cs) (at28 * 4) [.int .i64 (x30.1), .int .i64 (x30.2.1), .int .i64 (x30.2.2.1), .int .i64 (x30.2.2.2)]).take ((n - 1) * 4), ((ws).set (at28) (x30.1, x30.2.1, x30.2.2.1, x30.2.2.2)).take (n - 1), by omega, by omega, by omega, once_perm hperm hwl hat28 hx30 hx24, hasc.rest _, (hS.sub ⟨rfl, rfl, rfl, rfl, rfl, rfl, trivial⟩ ⟨rfl, rfl, trivial⟩ ⟨rfl, rfl, rfl, trivial⟩)⟩⟩
      · have hg4e : (decide ((((k : Nat) : Int)) < (((m : Nat) : Int)))) = false := decide_eq_false hg4
        rw [hg4e] at hS
        refine g_no hS rfl rfl rfl rfl rfl rfl rfl ?_; clear hS a; intro a hS
        refine g_no hS rfl rfl rfl rfl rfl rfl rfl ?_; clear hS a; intro a hS
        refine g_no hS rfl rfl rfl rfl rfl rfl rfl ?_; clear hS a; intro a hS
        refine g_no hS rfl rfl rfl rfl rfl rfl rfl ?_; clear hS a; intro a hS
        refine g_no hS rfl rfl rfl rfl rfl rfl rfl ?_; clear hS a; intro a hS
        refine q_seq hS rfl rfl rfl (y_pick_f hS rfl rfl) ?_; clear hS a; intro a hS
        apply wpList_nil
        refine p_norm ?_
        refine c_f hS rfl ?_
        apply wp_skip
        refine p_norm ?_
        apply wp_seq
        rcases Nat.eq_zero_or_pos n with rfl | hn
        · apply wp_region_lit
          refine q_seq hS rfl rfl rfl (y_loadBox (kk := 1308) (n := 4) (vs := [.int .i64 (p), .int .u64 (s2), .int .i64 (((pu : Nat) : Int)), .slice (A1) (0) (c1)]) hS rfl rfl Try.underlying25 rfl rfl rfl rfl) ?_; clear hS a; intro a hS
          refine l_seq rfl (l_call (cap := []) hS rfl Try.func13 rfl (by kernel_rfl) rfl rfl (pop_nil _ _ hS.lt _ _ _ _ _ hp) ?_); clear hS a; intro v38 a w hK hp hS
          clear hK
          obtain rfl := hp
          refine q_seq hS rfl rfl rfl (y_move hS rfl) ?_; clear hS a; intro a hS
          refine q_seq hS rfl rfl rfl (y_extract hS rfl rfl) ?_; clear hS a; intro a hS
          refine q_seq hS rfl rfl rfl (y_extract hS rfl rfl) ?_; clear hS a; intro a hS
          refine q_seq hS rfl rfl rfl (y_extract hS rfl rfl) ?_; clear hS a; intro a hS
          refine l_seq rfl (l_alloc (zs := [.int .i64 (0), .int .u64 (0), .int .i64 (0), .slice (none) (0) (0)]) hS 2506 rfl rfl rfl rfl ?_); clear hS a; intro b39 a w hb hK hS
          clear hb
          clear hK
          refine l_seq rfl (l_alloc (zs := [.int .i64 (0), .int .i64 (0), .int .i64 (0), .int .i64 (0)]) hS 2507 rfl rfl rfl rfl ?_); clear hS a; intro b40 a w hb hK hS
          clear hb
          clear hK
          refine l_seq rfl (l_store (n := 4) (cs' := [.int .i64 (p), .int .u64 (s2), .int .i64 (((pu : Nat) : Int)), .slice (A1) (0) (c1)]) hS 2506 rfl rfl rfl rfl rfl rfl rfl rfl ?_); clear hS; intro w hK hS; clear hK
          refine l_seq rfl (l_store (n := 4) (cs' := [.int .i64 (0), .int .i64 (0), .int .i64 (0), .int .i64 (0)]) hS 2507 rfl rfl rfl rfl rfl rfl rfl rfl ?_); clear hS; intro w hK hS; clear hK
          refine q_seq hS rfl rfl rfl (y_assign hS rfl) ?_; clear hS a; intro a hS
          apply wpList_nil
          refine p_norm ?_
          apply wp_seq
          apply wp_seq
          apply wp_region_lit
          refine q_seq hS rfl rfl rfl (y_move hS rfl) ?_; clear hS a; intro a hS
          refine q_seq hS rfl rfl rfl (y_move hS rfl) ?_; clear hS a; intro a hS
          refine q_seq hS rfl rfl rfl (y_move hS rfl) ?_; clear hS a; intro a hS
          refine q_seq hS rfl rfl rfl (y_lss hS rfl rfl) ?_; clear hS a; intro a hS
          rw [show decide ((((po : Nat) : Int)) < (((pu : Nat) : Int))) = false from decide_eq_false (by omega)] at hS
          refine q_seq hS rfl rfl rfl (y_bne hS rfl rfl Try.underlying4) ?_; clear hS a; intro a hS
          apply wpList_nil
          refine p_norm ?_
          refine c_f hS rfl ?_
          apply wp_skip
          refine p_norm ?_
          apply wp_seq
          apply wp_region_lit
          refine q_seq hS rfl rfl rfl (y_loadBox (kk := 2506) (n := 4) (vs := [.int .i64 (p), .int .u64 (s2), .int .i64 (((pu : Nat) : Int)), .slice (A1) (0) (c1)]) hS rfl rfl Try.underlying25 rfl rfl rfl rfl) ?_; clear hS a; intro a hS
          refine l_seq rfl (l_store (n := 4) (cs' := [.int .i64 (p), .int .u64 (s2), .int .i64 (((pu : Nat) : Int)), .slice (A1) (0) (c1)]) hS 1308 rfl rfl rfl rfl rfl rfl rfl rfl ?_); clear hS; intro w hK hS; clear hK
          apply wpList_nil
          refine p_norm ?_
          apply wp_seq
          apply wp_seq
          apply wp_region_lit
          refine q_seq hS rfl rfl rfl (y_move hS rfl) ?_; clear hS a; intro a hS
          apply wpList_nil
          refine p_norm ?_
          refine c_f hS rfl ?_
          apply wp_skip
          refine p_norm ?_
          apply wp_seq
          apply wp_seq
          apply wp_region_lit
          refine q_seq hS rfl rfl rfl (y_loadBox (kk := 1308) (n := 4) (vs := [.int .i64 (p), .int .u64 (s2), .int .i64 (((pu : Nat) : Int)), .slice (A1) (0) (c1)]) hS rfl rfl Try.underlying25 rfl rfl rfl rfl) ?_; clear hS a; intro a hS
          refine l_seq rfl (l_call (cap := []) hS rfl Try.func14 rfl (by kernel_rfl) rfl rfl (len_spec _ _ hS.lt _ _ _ _ _ _) ?_); clear hS a; intro v41 a w hK hp hS
          clear hK
          obtain rfl := hp
          refine q_seq hS rfl rfl rfl (y_move hS rfl) ?_; clear hS a; intro a hS
          refine q_seq hS rfl rfl rfl (y_move hS rfl) ?_; clear hS a; intro a hS
          refine q_seq hS rfl rfl rfl (y_sub hS rfl rfl (in64.2 (by omega))) ?_; clear hS a; intro a hS
          refine q_seq hS rfl rfl rfl (y_neq hS rfl rfl) ?_; clear hS a; intro a hS
          rw [show decide ((((0 : Nat) : Int)) ≠ (((pu : Nat) : Int) - ((po : Nat) : Int))) = false from decide_eq_false (by omega)] at hS
          refine q_seq hS rfl rfl rfl (y_move hS rfl) ?_; clear hS a; intro a hS
          refine g_yes hS rfl rfl rfl rfl (l_quiet hS rfl rfl (y_boxField (o' := 2) hS rfl Try.underlying25 rfl rfl rfl) ?_); clear hS a; intro a hS
          refine g_yes hS rfl rfl rfl rfl (l_quiet hS rfl rfl (y_loadBox1 (kk := 1308) hS rfl rfl rfl Try.underlying3 rfl) ?_); clear hS a; intro a hS
          refine g_yes hS rfl rfl rfl rfl (l_quiet hS rfl rfl (y_move hS rfl) ?_); clear hS a; intro a hS
          refine g_yes hS rfl rfl rfl rfl (l_quiet hS rfl rfl (y_neq hS rfl rfl) ?_); clear hS a; intro a hS
          rw [show decide ((((pu : Nat) : Int)) ≠ (((pu : Nat) : Int))) = false from decide_eq_false (fun h => h rfl)] at hS
          refine q_seq hS rfl rfl rfl (y_pick_f hS rfl rfl) ?_; clear hS a; intro a hS
          refine q_seq hS rfl rfl rfl (y_move hS rfl) ?_; clear hS a; intro a hS
          refine g_yes hS rfl rfl rfl rfl (l_quiet hS rfl rfl (y_boxField (o' := 3) hS rfl Try.underlying25 rfl rfl rfl) ?_); clear hS a; intro a hS
          refine g_yes hS rfl rfl rfl rfl (l_quiet hS rfl rfl (y_loadBox1 (kk := 1308) hS rfl rfl rfl Try.underlying23 rfl) ?_); clear hS a; intro a hS
          refine g_yes hS rfl rfl rfl rfl (l_quiet hS rfl rfl (y_lenSlice hS rfl Try.underlying23) ?_); clear hS a; intro a hS
          refine g_yes hS rfl rfl rfl rfl (l_quiet hS rfl rfl (y_move hS rfl) ?_); clear hS a; intro a hS
          refine g_yes hS rfl rfl rfl rfl (l_quiet hS rfl rfl (y_move hS rfl) ?_); clear hS a; intro a hS
          refine g_yes hS rfl rfl rfl rfl (l_quiet hS rfl rfl (y_sub hS rfl rfl (in64.2 (by omega))) ?_); clear hS a; intro a hS
          refine g_yes hS rfl rfl rfl rfl (l_quiet hS rfl rfl (y_neq hS rfl rfl) ?_); clear hS a; intro a hS
          rw [show decide ((((0 : Nat) : Int)) ≠ (((pu : Nat) : Int) - ((po : Nat) : Int))) = false from decide_eq_false (by omega)] at hS
          refine q_seq hS rfl rfl rfl (y_pick_f hS rfl rfl) ?_; clear hS a; intro a hS
          apply wpList_nil
          refine p_norm ?_
          refine c_f hS rfl ?_
          apply wp_skip
          refine p_norm ?_
          apply wp_seq
          apply wp_region_lit
          refine q_seq hS rfl rfl rfl (y_assign hS rfl) ?_; clear hS a; intro a hS
          apply wpList_nil
          refine p_norm ?_
          apply wp_block
          refine c_loop (σ := Nat) (fun j a w => (1 ≤ j) ∧ St (⟨Try.f5.ntmps, M, noB, w0⟩ : Ctx) [(2, .slice (A) (m) (c)), (7, .pointer (some ⟨b3, 0, none⟩)), (9, .slice (Aw) (0) (cw)), (10, .int .i64 (((pu : Nat) : Int))), (11, .int .i64 (((po : Nat) : Int))), (12, .int .i64 (((k : Nat) : Int))), (17, .int .i64 (((j : Nat) : Int)))] [(1308, Ob.box b3 [.int .i64 (p), .int .u64 (s2), .int .i64 (((pu : Nat) : Int)), .slice (A1) (0) (c1)] 25), (2506, Ob.box b39 [.int .i64 (p), .int .u64 (s2), .int .i64 (((pu : Nat) : Int)), .slice (A1) (0) (c1)] 25), (2507, Ob.box b40 [.int .i64 (0), .int .i64 (0), .int .i64 (0), .int .i64 (0)] 32), (900002, Ob.row (Aw) (0) (cw) 32 4 (cs))] [(0, slF RO (A) (m) (c) (ops)), (800, slF RQ (A1) (0) (c1) (xs)), (900, rdF RT (cs) (ws))] a w) (fun j => 1000 - j) (1) ⟨Nat.le_refl _, (hS.sub ⟨rfl, rfl, rfl, rfl, rfl, rfl, rfl, trivial⟩ ⟨rfl, rfl, rfl, rfl, trivial⟩ ⟨rfl, rfl, rfl, trivial⟩)⟩ ?_
          clear hS a; rintro j a w ⟨hj, hS⟩
          apply wp_seq
          apply wp_seq
          apply wp_region_lit
          refine q_seq hS rfl rfl rfl (y_move hS rfl) ?_; clear hS a; intro a hS
          refine q_seq hS rfl rfl rfl (y_boxField (o' := 3) hS rfl Try.underlying25 rfl rfl rfl) ?_; clear hS a; intro a hS
          refine q_seq hS rfl rfl rfl (y_loadBox1 (kk := 1308) hS rfl rfl rfl Try.underlying23 rfl) ?_; clear hS a; intro a hS
          refine q_seq hS rfl rfl rfl (y_lenSlice hS rfl Try.underlying23) ?_; clear hS a; intro a hS
          refine q_seq hS rfl rfl rfl (y_lss hS rfl rfl) ?_; clear hS a; intro a hS
          apply wpList_nil
          refine p_norm ?_
          refine c_dec hS rfl (fun hc8 => ?_) (fun hc8 => ?_)
          · apply wp_skip
            refine p_norm ?_
            apply wp_seq
            apply wp_block
            apply wp_seq
            refine d_plan hS [] [(0, some 0), (1, some 1308), (2, some 0), (3, some 0), (4, some 0), (5, some 0), (6, some 0), (7, some 1308), (8, some 0), (9, some 0), (10, some 0), (11, some 0), (12, some 0), (13, some 0)] rfl (by kernel_rfl) (by kernel_rfl) rfl ?_; clear hS; intro wr hZ hS; have hR := hS.wd
            refine q_take hS hR rfl rfl rfl rfl (y_boxField (o' := 3) hS rfl Try.underlying25 rfl rfl rfl) ?_; clear hS a; intro a hS
            refine q_take hS hR rfl rfl rfl rfl (y_loadBox1 (kk := 1308) hS rfl rfl rfl Try.underlying23 rfl) ?_; clear hS a; intro a hS
            refine q_take hS hR rfl rfl rfl rfl (y_move hS rfl) ?_; clear hS a; intro a hS
            obtain ⟨x42, hx42, p42, he42, hp42⟩ := SlR.elemAt (hS.fact (k := 800) rfl) (i := j) (by omega)
            refine q_take hS hR rfl rfl rfl rfl (y_elem (sz := 5) (i := j) hS rfl rfl Try.underlying23 rfl he42 (by omega) (by omega)) ?_; clear hS a; intro a hS
            refine q_take hS hR rfl rfl rfl rfl (y_ptrField (o' := 4) hS rfl Try.underlying45 rfl rfl rfl) ?_; clear hS a; intro a hS
            obtain ⟨hl43, hm43, cs43, hd43, hq43⟩ := hp42
            obtain ⟨rfl, -⟩ := hd43
            refine q_take hS hR rfl rfl rfl rfl (y_ldp1 hS rfl hl43 hm43 (hq43 4 _ rfl) Try.underlying3 rfl) ?_; clear hS a; intro a hS
            refine q_take hS hR rfl rfl rfl rfl (y_boxField (o' := 3) hS rfl Try.underlying25 rfl rfl rfl) ?_; clear hS a; intro a hS
            refine q_take hS hR rfl rfl rfl rfl (y_loadBox1 (kk := 1308) hS rfl rfl rfl Try.underlying23 rfl) ?_; clear hS a; intro a hS
            refine q_take hS hR rfl rfl rfl rfl (y_move hS rfl) ?_; clear hS a; intro a hS
            refine q_take hS hR rfl rfl rfl rfl (y_sub hS rfl rfl (in64.2 (by omega))) ?_; clear hS a; intro a hS
            rw [show ((j : Nat) : Int) - 1 = ((j - 1 : Nat) : Int) by omega] at hS
            obtain ⟨x44, hx44, p44, he44, hp44⟩ := SlR.elemAt (hS.fact (k := 800) rfl) (i := j - 1) (by omega)
            refine q_take hS hR rfl rfl rfl rfl (y_elem (sz := 5) (i := j - 1) hS rfl rfl Try.underlying23 rfl he44 (by omega) (by omega)) ?_; clear hS a; intro a hS
            refine q_take hS hR rfl rfl rfl rfl (y_ptrField (o' := 4) hS rfl Try.underlying45 rfl rfl rfl) ?_; clear hS a; intro a hS
            obtain ⟨hl45, hm45, cs45, hd45, hq45⟩ := hp44
            obtain ⟨rfl, -⟩ := hd45
            refine q_take hS hR rfl rfl rfl rfl (y_ldp1 hS rfl hl45 hm45 (hq45 4 _ rfl) Try.underlying3 rfl) ?_; clear hS a; intro a hS
            refine q_take hS hR rfl rfl rfl rfl (y_leq hS rfl rfl) ?_; clear hS a; intro a hS
            rw [show decide ((x42.2) ≤ (x44.2)) = false from decide_eq_false (by have h := hasc.lt hx44 hx42 (by omega); omega)] at hS
            clear hR hZ
            refine p_norm ?_
            refine c_f hS rfl ?_
            apply wp_skip
            refine p_inN ?_
            refine p_norm ?_
            apply wp_region_lit
            refine q_seq hS rfl rfl rfl (y_move hS rfl) ?_; clear hS a; intro a hS
            refine q_seq hS rfl rfl rfl (y_addN (i := j) (j := 1) hS rfl rfl (in64.2 (by omega))) ?_; clear hS a; intro a hS
            refine q_seq hS rfl rfl rfl (y_assign hS rfl) ?_; clear hS a; intro a hS
            apply wpList_nil
            refine p_norm ?_
            exact ⟨j + 1, by omega, ⟨by omega, (hS.sub ⟨rfl, rfl, rfl, rfl, rfl, rfl, rfl, trivial⟩ ⟨rfl, rfl, rfl, rfl, trivial⟩ ⟨rfl, rfl, rfl, trivial⟩)⟩⟩
          · apply wp_exit
            refine p_then ?_
            refine p_then ?_
            refine p_in ?_
            refine p_inN ?_
            refine p_norm ?_
            apply wp_region_lit
            refine q_seq hS rfl rfl rfl (y_move hS rfl) ?_; clear hS a; intro a hS
            refine q_seq hS rfl rfl rfl (y_addN (i := k) (j := 1) hS rfl rfl (in64.2 (by omega))) ?_; clear hS a; intro a hS
            refine q_seq hS rfl rfl rfl (y_assign hS rfl) ?_; clear hS a; intro a hS
            apply wpList_nil
            refine p_norm ?_
            replace hS := hS.add 800 (slF RQ (A1) (0) (c1) (xs)) (hS.fact (k := 800) rfl)
            replace hS := hS.add 900 (rdF RT (cs) (ws)) (hS.fact (k := 900) rfl)
            exact ⟨k + 1, by omega, ⟨s2, pu, po, A1, 0, c1, xs, Aw, cw, cs, ws, by omega, by omega, by omega, hperm, hasc, (hS.sub ⟨rfl, rfl, rfl, rfl, rfl, rfl, trivial⟩ ⟨rfl, rfl, trivial⟩ ⟨rfl, rfl, rfl, trivial⟩)⟩⟩
        · apply wp_region_lit
          refine q_seq hS rfl rfl rfl (y_loadBox (kk := 1308) (n := 4) (vs := [.int .i64 (p), .int .u64 (s2), .int .i64 (((pu : Nat) : Int)), .slice (A1) (n) (c1)]) hS rfl rfl Try.underlying25 rfl rfl rfl rfl) ?_; clear hS a; intro a hS
          refine l_seq rfl (l_call (cap := []) hS rfl Try.func13 rfl (by kernel_rfl) rfl rfl (pop_all _ _ hS.lt _ _ _ _ _ _ (xs) hp (hS.fact (k := 800) rfl) (by omega)) ?_); clear hS a; intro v47 a w hK hp hS
          clear hK
          obtain ⟨A46, c46, x46, hx46, rfl, h46⟩ := hp
          replace hS := hS.add 106 (slF RQ (A46) (n - 1) (c46) (popRest (xs) (popIdx (p) (s2) (xs)))) h46
          refine q_seq hS rfl rfl rfl (y_move hS rfl) ?_; clear hS a; intro a hS
          refine q_seq hS rfl rfl rfl (y_extract hS rfl rfl) ?_; clear hS a; intro a hS
          refine q_seq hS rfl rfl rfl (y_extract hS rfl rfl) ?_; clear hS a; intro a hS
          refine q_seq hS rfl rfl rfl (y_extract hS rfl rfl) ?_; clear hS a; intro a hS
          refine l_seq rfl (l_alloc (zs := [.int .i64 (0), .int .u64 (0), .int .i64 (0), .slice (none) (0) (0)]) hS 2506 rfl rfl rfl rfl ?_); clear hS a; intro b48 a w hb hK hS
          clear hb
          clear hK
          refine l_seq rfl (l_alloc (zs := [.int .i64 (0), .int .i64 (0), .int .i64 (0), .int .i64 (0)]) hS 2507 rfl rfl rfl rfl ?_); clear hS a; intro b49 a w hb hK hS
          clear hb
          clear hK
          refine l_seq rfl (l_store (n := 4) (cs' := [.int .i64 (p), .int .u64 (popSeed (p) (s2)), .int .i64 (((pu : Nat) : Int)), .slice (A46) (n - 1) (c46)]) hS 2506 rfl rfl rfl rfl rfl rfl rfl rfl ?_); clear hS; intro w hK hS; clear hK
          refine l_seq rfl (l_store (n := 4) (cs' := [.int .i64 (x46.1.1), .int .i64 (x46.1.2.1), .int .i64 (x46.1.2.2.1), .int .i64 (x46.1.2.2.2)]) hS 2507 rfl rfl rfl rfl rfl rfl rfl rfl ?_); clear hS; intro w hK hS; clear hK
          refine q_seq hS rfl rfl rfl (y_assign hS rfl) ?_; clear hS a; intro a hS
          apply wpList_nil
          refine p_norm ?_
          apply wp_seq
          apply wp_seq
          apply wp_region_lit
          refine q_seq hS rfl rfl rfl (y_move hS rfl) ?_; clear hS a; intro a hS
          refine q_seq hS rfl rfl rfl (y_move hS rfl) ?_; clear hS a; intro a hS
          refine q_seq hS rfl rfl rfl (y_move hS rfl) ?_; clear hS a; intro a hS
          refine q_seq hS rfl rfl rfl (y_lss hS rfl rfl) ?_; clear hS a; intro a hS
          rw [show decide ((((po : Nat) : Int)) < (((pu : Nat) : Int))) = true from decide_eq_true (by omega)] at hS
          refine q_seq hS rfl rfl rfl (y_bne hS rfl rfl Try.underlying4) ?_; clear hS a; intro a hS
          apply wpList_nil
          refine p_norm ?_
          refine c_f hS rfl ?_
          apply wp_skip
          refine p_norm ?_
          apply wp_seq
          apply wp_region_lit
          refine q_seq hS rfl rfl rfl (y_loadBox (kk := 2506) (n := 4) (vs := [.int .i64 (p), .int .u64 (popSeed (p) (s2)), .int .i64 (((pu : Nat) : Int)), .slice (A46) (n - 1) (c46)]) hS rfl rfl Try.underlying25 rfl rfl rfl rfl) ?_; clear hS a; intro a hS
          refine l_seq rfl (l_store (n := 4) (cs' := [.int .i64 (p), .int .u64 (popSeed (p) (s2)), .int .i64 (((pu : Nat) : Int)), .slice (A46) (n - 1) (c46)]) hS 1308 rfl rfl rfl rfl rfl rfl rfl rfl ?_); clear hS; intro w hK hS; clear hK
          apply wpList_nil
          refine p_norm ?_
          apply wp_seq
          apply wp_seq
          apply wp_region_lit
          refine q_seq hS rfl rfl rfl (y_move hS rfl) ?_; clear hS a; intro a hS
          apply wpList_nil
          refine p_norm ?_
          refine c_t hS rfl ?_
          apply wp_seq
          apply wp_region_lit
          refine q_seq hS rfl rfl rfl (y_move hS rfl) ?_; clear hS a; intro a hS
          refine q_seq hS rfl rfl rfl (y_addN (i := po) (j := 1) hS rfl rfl (in64.2 (by omega))) ?_; clear hS a; intro a hS
          refine q_seq hS rfl rfl rfl (y_assign hS rfl) ?_; clear hS a; intro a hS
          apply wpList_nil
          refine p_norm ?_
          apply wp_seq
          apply wp_region_lit
          refine q_seq hS rfl rfl rfl (y_move hS rfl) ?_; clear hS a; intro a hS
          refine q_seq hS rfl rfl rfl (y_loadBox (kk := 2507) (n := 4) (vs := [.int .i64 (x46.1.1), .int .i64 (x46.1.2.1), .int .i64 (x46.1.2.2.1), .int .i64 (x46.1.2.2.2)]) hS rfl rfl Try.underlying32 rfl rfl rfl rfl) ?_; clear hS a; intro a hS
          refine l_seq rfl (l_call (cap := []) hS rfl Try.func19 rfl (by kernel_rfl) rfl rfl (place_spec _ _ (hS.lendLt (L' := [(1308, Ob.box b3 [.int .i64 (p), .int .u64 (popSeed (p) (s2)), .int .i64 (((pu : Nat) : Int)), .slice (A46) (n - 1) (c46)] 25), (2506, Ob.box b48 [.int .i64 (p), .int .u64 (popSeed (p) (s2)), .int .i64 (((pu : Nat) : Int)), .slice (A46) (n - 1) (c46)] 25), (2507, Ob.box b49 [.int .i64 (x46.1.1), .int .i64 (x46.1.2.1), .int .i64 (x46.1.2.2.1), .int .i64 (x46.1.2.2.2)] 32)]) ⟨rfl, rfl, rfl, trivial⟩) _ _ _ (ws) (x46.1.1, x46.1.2.1, x46.1.2.2.1, x46.1.2.2.2) (hS.lend (R := RT) (kk := 900002) (L' := [(1308, Ob.box b3 [.int .i64 (p), .int .u64 (popSeed (p) (s2)), .int .i64 (((pu : Nat) : Int)), .slice (A46) (n - 1) (c46)] 25), (2506, Ob.box b48 [.int .i64 (p), .int .u64 (popSeed (p) (s2)), .int .i64 (((pu : Nat) : Int)), .slice (A46) (n - 1) (c46)] 25), (2507, Ob.box b49 [.int .i64 (x46.1.1), .int .i64 (x46.1.2.1), .int .i64 (x46.1.2.2.1), .int .i64 (x46.1.2.2.2)] 32)]) rfl rfl (hS.fact (k := 900) rfl) ⟨rfl, rfl, rfl, trivial⟩ rfl) (by omega) (once_mem hperm hx46)) ?_); clear hS a; intro v51 a w hK hp hS
          clear hK
          obtain ⟨at50, rfl, hat50⟩ := hp
          have hatl := (List.getElem?_eq_some_iff.1 hat50).1
          have hwl := rowN (hS.wd.holds 900002 _ rfl) (hS.fact (k := 900) rfl) rfl rfl
          refine q_seq hS rfl rfl rfl (y_assign hS rfl) ?_; clear hS a; intro a hS
          apply wpList_nil
          refine p_norm ?_
          apply wp_seq
          apply wp_seq
          apply wp_region_lit
          refine q_seq hS rfl rfl rfl (y_move hS rfl) ?_; clear hS a; intro a hS
          refine q_seq hS rfl rfl rfl (y_lss hS rfl rfl) ?_; clear hS a; intro a hS
          rw [show decide ((((at50 : Nat) : Int)) < (0)) = false from decide_eq_false (by omega)] at hS
          apply wpList_nil
          refine p_norm ?_
          refine c_f hS rfl ?_
          apply wp_skip
          refine p_norm ?_
          apply wp_seq
          apply wp_region_lit
          refine q_seq hS rfl rfl rfl (y_move hS rfl) ?_; clear hS a; intro a hS
          refine q_seq hS rfl rfl rfl (y_move hS rfl) ?_; clear hS a; intro a hS
          refine q_seq hS rfl rfl rfl (y_move hS rfl) ?_; clear hS a; intro a hS
          refine q_seq hS rfl rfl rfl (y_move hS rfl) ?_; clear hS a; intro a hS
          refine q_seq hS rfl rfl rfl (y_lenSlice hS rfl Try.underlying42) ?_; clear hS a; intro a hS
          refine q_seq hS rfl rfl rfl (y_sub hS rfl rfl (in64.2 (by omega))) ?_; clear hS a; intro a hS
          rw [show ((n : Nat) : Int) - 1 = ((n - 1 : Nat) : Int) by omega] at hS
          obtain ⟨b52, hA52⟩ := row_form (hS.wd.holds 900002 _ rfl) (by omega)
          obtain ⟨x52, hx52⟩ := get_of_lt (i := n - 1) (rowN (hS.wd.holds 900002 _ rfl) (hS.fact (k := 900) rfl) rfl rfl) (by omega)
          refine q_seq hS rfl rfl rfl (y_rowIndex (sz := 4) (i := n - 1) hS rfl rfl Try.underlying42 rfl hA52 (by omega) (by omega)) ?_; clear hS a; intro a hS
          have hz53 := (hS.fact (k := 900) rfl).at_ _ _ hx52
          refine q_seq hS rfl rfl rfl (y_loadRow (kk := 900002) (vs := [.int .i64 (x52.1), .int .i64 (x52.2.1), .int .i64 (x52.2.2.1), .int .i64 (x52.2.2.2)]) hS rfl rfl hA52 hz53.1 Try.underlying32 rfl rfl) ?_; clear hS a; intro a hS
          obtain ⟨b54, hA54⟩ := row_form (hS.wd.holds 900002 _ rfl) (by omega)
          obtain ⟨x54, hx54⟩ := get_of_lt (i := at50) (rowN (hS.wd.holds 900002 _ rfl) (hS.fact (k := 900) rfl) rfl rfl) (by omega)
          refine q_seq hS rfl rfl rfl (y_rowIndex (sz := 4) (i := at50) hS rfl rfl Try.underlying42 rfl hA54 (by omega) (by omega)) ?_; clear hS a; intro a hS
          have hzi := (List.getElem?_eq_some_iff.1 hx54).1
          refine l_seq rfl (l_storeRow (N := 4) (cs' := splice (cs) (at50 * 4) [.int .i64 (x52.1), .int .i64 (x52.2.1), .int .i64 (x52.2.2.1), .int .i64 (x52.2.2.2)]) hS 900002 rfl rfl rfl hA54 rfl rfl (by omega) rfl rfl ?_); clear hS; intro w hK hS; clear hK
          replace hS := hS.add 107 (rdF RT (splice (cs) (at50 * 4) [.int .i64 (x52.1), .int .i64 (x52.2.1), .int .i64 (x52.2.2.1), .int .i64 (x52.2.2.2)]) ((ws).set (at50) (x52.1, x52.2.1, x52.2.2.1, x52.2.2.2))) (RdAll.put (hS.fact (k := 900) rfl) ⟨rfl, trivial⟩ hzi)
          apply wpList_nil
          refine p_norm ?_
          apply wp_region_lit
          refine q_seq hS rfl rfl rfl (y_move hS rfl) ?_; clear hS a; intro a hS
          refine q_seq hS rfl rfl rfl (y_move hS rfl) ?_; clear hS a; intro a hS
          refine q_seq hS rfl rfl rfl (y_lenSlice hS rfl Try.underlying42) ?_; clear hS a; intro a hS
          refine q_seq hS rfl rfl rfl (y_sub hS rfl rfl (in64.2 (by omega))) ?_; clear hS a; intro a hS
          rw [show ((n : Nat) : Int) - 1 = ((n - 1 : Nat) : Int) by omega] at hS
          have hcap900002 := row_cap (hS.wd.holds 900002 _ rfl)
          have hrl900002 := rowN (hS.wd.holds 900002 _ rfl) (hS.fact (k := 107) rfl) rfl rfl
          refine q_seq hS rfl rfl rfl (y_sliceHN (sz := 4) (i := n - 1) hS rfl rfl Try.underlying42 rfl (by omega) (by omega)) ?_; clear hS a; intro a hS
          clear hcap900002
          replace hS := hS.rowCut (kk := 900002) (i := n - 1) rfl (by omega)
          skip
          replace hS := hS.add 108 (rdF RT ((splice (cs) (at50 * 4) [.int .i64 (x52.1), .int .i64 (x52.2.1), .int .i64 (x52.2.2.1), .int .i64 (x52.2.2.2)]).take ((n - 1) * 4)) (((ws).set (at50) (x52.1, x52.2.1, x52.2.2.1, x52.2.2.2)).take (n - 1))) ((hS.fact (k := 107) rfl).take (n - 1) (by rw [hrl900002]; omega))
          refine q_seq hS rfl rfl rfl (y_assign hS rfl) ?_; clear hS a; intro a hS
          apply wpList_nil
          refine p_norm ?_
          apply wp_seq
          apply wp_seq
          apply wp_region_lit
          refine q_seq hS rfl rfl rfl (y_loadBox (kk := 1308) (n := 4) (vs := [.int .i64 (p), .int .u64 (popSeed (p) (s2)), .int .i64 (((pu : Nat) : Int)), .slice (A46) (n - 1) (c46)]) hS rfl rfl Try.underlying25 rfl rfl rfl rfl) ?_; clear hS a; intro a hS
          refine l_seq rfl (l_call (cap := []) hS rfl Try.func14 rfl (by kernel_rfl) rfl rfl (len_spec _ _ hS.lt _ _ _ _ _ _) ?_); clear hS a; intro v55 a w hK hp hS
          clear hK
          obtain rfl := hp
          refine q_seq hS rfl rfl rfl (y_move hS rfl) ?_; clear hS a; intro a hS
          refine q_seq hS rfl rfl rfl (y_move hS rfl) ?_; clear hS a; intro a hS
          refine q_seq hS rfl rfl rfl (y_sub hS rfl rfl (in64.2 (by omega))) ?_; clear hS a; intro a hS
          refine q_seq hS rfl rfl rfl (y_neq hS rfl rfl) ?_; clear hS a; intro a hS
          rw [show decide ((((n - 1 : Nat) : Int)) ≠ (((pu : Nat) : Int) - ((po + 1 : Nat) : Int))) = false from decide_eq_false (by omega)] at hS
          refine q_seq hS rfl rfl rfl (y_move hS rfl) ?_; clear hS a; intro a hS
          refine g_yes hS rfl rfl rfl rfl (l_quiet hS rfl rfl (y_boxField (o' := 2) hS rfl Try.underlying25 rfl rfl rfl) ?_); clear hS a; intro a hS
          refine g_yes hS rfl rfl rfl rfl (l_quiet hS rfl rfl (y_loadBox1 (kk := 1308) hS rfl rfl rfl Try.underlying3 rfl) ?_); clear hS a; intro a hS
          refine g_yes hS rfl rfl rfl rfl (l_quiet hS rfl rfl (y_move hS rfl) ?_); clear hS a; intro a hS
          refine g_yes hS rfl rfl rfl rfl (l_quiet hS rfl rfl (y_neq hS rfl rfl) ?_); clear hS a; intro a hS
          rw [show decide ((((pu : Nat) : Int)) ≠ (((pu : Nat) : Int))) = false from decide_eq_false (fun h => h rfl)] at hS
          refine q_seq hS rfl rfl rfl (y_pick_f hS rfl rfl) ?_; clear hS a; intro a hS
          refine q_seq hS rfl rfl rfl (y_move hS rfl) ?_; clear hS a; intro a hS
          refine g_yes hS rfl rfl rfl rfl (l_quiet hS rfl rfl (y_boxField (o' := 3) hS rfl Try.underlying25 rfl rfl rfl) ?_); clear hS a; intro a hS
          refine g_yes hS rfl rfl rfl rfl (l_quiet hS rfl rfl (y_loadBox1 (kk := 1308) hS rfl rfl rfl Try.underlying23 rfl) ?_); clear hS a; intro a hS
          refine g_yes hS rfl rfl rfl rfl (l_quiet hS rfl rfl (y_lenSlice hS rfl Try.underlying23) ?_); clear hS a; intro a hS
          refine g_yes hS rfl rfl rfl rfl (l_quiet hS rfl rfl (y_move hS rfl) ?_); clear hS a; intro a hS
          refine g_yes hS rfl rfl rfl rfl (l_quiet hS rfl rfl (y_move hS rfl) ?_); clear hS a; intro a hS
          refine g_yes hS rfl rfl rfl rfl (l_quiet hS rfl rfl (y_sub hS rfl rfl (in64.2 (by omega))) ?_); clear hS a; intro a hS
          refine g_yes hS rfl rfl rfl rfl (l_quiet hS rfl rfl (y_neq hS rfl rfl) ?_); clear hS a; intro a hS
          rw [show decide ((((n - 1 : Nat) : Int)) ≠ (((pu : Nat) : Int) - ((po + 1 : Nat) : Int))) = false from decide_eq_false (by omega)] at hS
          refine q_seq hS rfl rfl rfl (y_pick_f hS rfl rfl) ?_; clear hS a; intro a hS
          apply wpList_nil
          refine p_norm ?_
          refine c_f hS rfl ?_
          apply wp_skip
          refine p_norm ?_
          apply wp_seq
          apply wp_region_lit
          refine q_seq hS rfl rfl rfl (y_assign hS rfl) ?_; clear hS a; intro a hS
          apply wpList_nil
          refine p_norm ?_
          apply wp_block
          refine c_loop (σ := Nat) (fun j a w => (1 ≤ j) ∧ St (⟨Try.f5.ntmps, M, noB, w0⟩ : Ctx) [(2, .slice (A) (m) (c)), (7, .pointer (some ⟨b3, 0, none⟩)), (9, .slice (Aw) (n - 1) (cw)), (10, .int .i64 (((pu : Nat) : Int))), (11, .int .i64 (((po + 1 : Nat) : Int))), (12, .int .i64 (((k : Nat) : Int))), (17, .int .i64 (((j : Nat) : Int)))] [(1308, Ob.box b3 [.int .i64 (p), .int .u64 (popSeed (p) (s2)), .int .i64 (((pu : Nat) : Int)), .slice (A46) (n - 1) (c46)] 25), (2506, Ob.box b48 [.int .i64 (p), .int .u64 (popSeed (p) (s2)), .int .i64 (((pu : Nat) : Int)), .slice (A46) (n - 1) (c46)] 25), (2507, Ob.box b49 [.int .i64 (x46.1.1), .int .i64 (x46.1.2.1), .int .i64 (x46.1.2.2.1), .int .i64 (x46.1.2.2.2)] 32), (900002, Ob.row (Aw) (n - 1) (cw) 32 4 ((splice (cs) (at50 * 4) [.int .i64 (x52.1), .int .i64 (x52.2.1), .int .i64 (x52.2.2.1), .int .i64 (x52.2.2.2)]).take ((n - 1) * 4)))] [(0, slF RO (A) (m) (c) (ops)), (106, slF RQ (A46) (n - 1) (c46) (popRest (xs) (popIdx (p) (s2) (xs)))), (107, rdF RT (splice (cs) (at50 * 4) [.int .i64 (x52.1), .int .i64 (x52.2.1), .int .i64 (x52.2.2.1), .int .i64 (x52.2.2.2)]) ((ws).set (at50) (x52.1, x52.2.1, x52.2.2.1, x52.2.2.2))), (108, rdF RT ((splice (cs) (at50 * 4) [.int .i64 (x52.1), .int .i64 (x52.2.1), .int .i64 (x52.2.2.1), .int .i64 (x52.2.2.2)]).take ((n - 1) * 4)) (((ws).set (at50) (x52.1, x52.2.1, x52.2.2.1, x52.2.2.2)).take (n - 1))), (800, slF RQ (A1) (n) (c1) (xs)), (900, rdF RT (cs) (ws))] a w) (fun j => 1000 - j) (1) ⟨Nat.le_refl _, (hS.sub ⟨rfl, rfl, rfl, rfl, rfl, rfl, rfl, trivial⟩ ⟨rfl, rfl, rfl, rfl, trivial⟩ ⟨rfl, rfl, rfl, rfl, rfl, rfl, trivial⟩)⟩ ?_
          clear hS a; rintro j a w ⟨hj, hS⟩
          apply wp_seq
          apply wp_seq
          apply wp_region_lit
          refine q_seq hS rfl rfl rfl (y_move hS rfl) ?_; clear hS a; intro a hS
          refine q_seq hS rfl rfl rfl (y_boxField (o' := 3) hS rfl Try.underlying25 rfl rfl rfl) ?_; clear hS a; intro a hS
          refine q_seq hS rfl rfl rfl (y_loadBox1 (kk := 1308) hS rfl rfl rfl Try.underlying23 rfl) ?_; clear hS a; intro a hS
          refine q_seq hS rfl rfl rfl (y_lenSlice hS rfl Try.underlying23) ?_; clear hS a; intro a hS
          refine q_seq hS rfl rfl rfl (y_lss hS rfl rfl) ?_; clear hS a; intro a hS
          apply wpList_nil
          refine p_norm ?_
          refine c_dec hS rfl (fun hc8 => ?_) (fun hc8 => ?_)
          · apply wp_skip
            refine p_norm ?_
            apply wp_seq
            apply wp_block
            apply wp_seq
            refine d_plan hS [] [(0, some 0), (1, some 1308), (2, some 0), (3, some 0), (4, some 0), (5, some 0), (6, some 0), (7, some 1308), (8, some 0), (9, some 0), (10, some 0), (11, some 0), (12, some 0), (13, some 0)] rfl (by kernel_rfl) (by kernel_rfl) rfl ?_; clear hS; intro wr hZ hS; have hR := hS.wd
            refine q_take hS hR rfl rfl rfl rfl (y_boxField (o' := 3) hS rfl Try.underlying25 rfl rfl rfl) ?_; clear hS a; intro a hS
            refine q_take hS hR rfl rfl rfl rfl (y_loadBox1 (kk := 1308) hS rfl rfl rfl Try.underlying23 rfl) ?_; clear hS a; intro a hS
            refine q_take hS hR rfl rfl rfl rfl (y_move hS rfl) ?_; clear hS a; intro a hS
            obtain ⟨x56, hx56, p56, he56, hp56⟩ := SlR.elemAt (hS.fact (k := 106) rfl) (i := j) (by omega)
            refine q_take hS hR rfl rfl rfl rfl (y_elem (sz := 5) (i := j) hS rfl rfl Try.underlying23 rfl he56 (by omega) (by omega)) ?_; clear hS a; intro a hS
            refine q_take hS hR rfl rfl rfl rfl (y_ptrField (o' := 4) hS rfl Try.underlying45 rfl rfl rfl) ?_; clear hS a; intro a hS
            obtain ⟨hl57, hm57, cs57, hd57, hq57⟩ := hp56
            obtain ⟨rfl, -⟩ := hd57
            refine q_take hS hR rfl rfl rfl rfl (y_ldp1 hS rfl hl57 hm57 (hq57 4 _ rfl) Try.underlying3 rfl) ?_; clear hS a; intro a hS
            refine q_take hS hR rfl rfl rfl rfl (y_boxField (o' := 3) hS rfl Try.underlying25 rfl rfl rfl) ?_; clear hS a; intro a hS
            refine q_take hS hR rfl rfl rfl rfl (y_loadBox1 (kk := 1308) hS rfl rfl rfl Try.underlying23 rfl) ?_; clear hS a; intro a hS
            refine q_take hS hR rfl rfl rfl rfl (y_move hS rfl) ?_; clear hS a; intro a hS
            refine q_take hS hR rfl rfl rfl rfl (y_sub hS rfl rfl (in64.2 (by omega))) ?_; clear hS a; intro a hS
            rw [show ((j : Nat) : Int) - 1 = ((j - 1 : Nat) : Int) by omega] at hS
            obtain ⟨x58, hx58, p58, he58, hp58⟩ := SlR.elemAt (hS.fact (k := 106) rfl) (i := j - 1) (by omega)
            refine q_take hS hR rfl rfl rfl rfl (y_elem (sz := 5) (i := j - 1) hS rfl rfl Try.underlying23 rfl he58 (by omega) (by omega)) ?_; clear hS a; intro a hS
            refine q_take hS hR rfl rfl rfl rfl (y_ptrField (o' := 4) hS rfl Try.underlying45 rfl rfl rfl) ?_; clear hS a; intro a hS
            obtain ⟨hl59, hm59, cs59, hd59, hq59⟩ := hp58
            obtain ⟨rfl, -⟩ := hd59
            refine q_take hS hR rfl rfl rfl rfl (y_ldp1 hS rfl hl59 hm59 (hq59 4 _ rfl) Try.underlying3 rfl) ?_; clear hS a; intro a hS
            refine q_take hS hR rfl rfl rfl rfl (y_leq hS rfl rfl) ?_; clear hS a; intro a hS
            rw [show decide ((x56.2) ≤ (x58.2)) = false from decide_eq_false (by have h := (hasc.rest _).lt hx58 hx56 (by omega); omega)] at hS
            clear hR hZ
            refine p_norm ?_
            refine c_f hS rfl ?_
            apply wp_skip
            refine p_inN ?_
            refine p_norm ?_
            apply wp_region_lit
            refine q_seq hS rfl rfl rfl (y_move hS rfl) ?_; clear hS a; intro a hS
            refine q_seq hS rfl rfl rfl (y_addN (i := j) (j := 1) hS rfl rfl (in64.2 (by omega))) ?_; clear hS a; intro a hS
            refine q_seq hS rfl rfl rfl (y_assign hS rfl) ?_; clear hS a; intro a hS
            apply wpList_nil
            refine p_norm ?_
            exact ⟨j + 1, by omega, ⟨by omega, (hS.sub ⟨rfl, rfl, rfl, rfl, rfl, rfl, rfl, trivial⟩ ⟨rfl, rfl, rfl, rfl, trivial⟩ ⟨rfl, rfl, rfl, rfl, rfl, rfl, trivial⟩)⟩⟩
          · apply wp_exit
            refine p_then ?_
            refine p_then ?_
            refine p_in ?_
            refine p_inN ?_
            refine p_norm ?_
            apply wp_region_lit
            refine q_seq hS rfl rfl rfl (y_move hS rfl) ?_; clear hS a; intro a hS
            refine q_seq hS rfl rfl rfl (y_addN (i := k) (j := 1) hS rfl rfl (in64.2 (by omega))) ?_; clear hS a; intro a hS
            refine q_seq hS rfl rfl rfl (y_assign hS rfl) ?_; clear hS a; intro a hS
            apply wpList_nil
            refine p_norm ?_
            replace hS := hS.add 800 (slF RQ (A46) (n - 1) (c46) (popRest (xs) (popIdx (p) (s2) (xs)))) (hS.fact (k := 106) rfl)
            replace hS := hS.add 900 (rdF RT ((splice (cs) (at50 * 4) [.int .i64 (x52.1), .int .i64 (x52.2.1), .int .i64 (x52.2.2.1), .int .i64 (x52.2.2.2)]).take ((n - 1) * 4)) (((ws).set (at50) (x52.1, x52.2.1, x52.2.2.1, x52.2.2.2)).take (n - 1))) (hS.fact (k := 108) rfl)
            exact ⟨k + 1, by omega, ⟨popSeed (p) (s2), pu, po + 1, A46, n - 1, c46, popRest (xs) (popIdx (p) (s2) (xs)), Aw, cw, (splice (cs) (at50 * 4) [.int .i64 (x52.1), .int .i64 (x52.2.1), .int .i64 (x52.2.2.1), .int .i64 (x52.2.2.2)]).take ((n - 1) * 4), ((ws).set (at50) (x52.1, x52.2.1, x52.2.2.1, x52.2.2.2)).take (n - 1), by omega, by omega, by omega, once_perm hperm hwl hat50 hx52 hx46, hasc.rest _, (hS.sub ⟨rfl, rfl, rfl, rfl, rfl, rfl, trivial⟩ ⟨rfl, rfl, trivial⟩ ⟨rfl, rfl, rfl, trivial⟩)⟩⟩
    · apply wp_exit
      refine p_then ?_
      refine p_then ?_
      refine p_in ?_
      refine p_norm ?_
      apply wp_seq
      apply wp_region_lit
      refine q_seq hS rfl rfl rfl (y_move hS rfl) ?_; clear hS a; intro a hS
      refine q_seq hS rfl rfl rfl (y_move hS rfl) ?_; clear hS a; intro a hS
      refine q_seq hS rfl rfl rfl (y_eql hS rfl rfl) ?_; clear hS a; intro a hS
      rw [show decide ((((pu : Nat) : Int)) = (((po : Nat) : Int))) = true from decide_eq_true (by omega)] at hS
      refine q_seq hS rfl rfl rfl (y_move hS rfl) ?_; clear hS a; intro a hS
      refine g_yes hS rfl rfl rfl rfl (l_call (cap := []) hS rfl Try.func12 rfl (by kernel_rfl) rfl rfl (example_spec _ _ hS.lt) ?_); clear hS a; intro v60 a w hK hp hS
      clear hK
      obtain rfl := hp
      refine q_seq hS rfl rfl rfl (y_pick_t hS rfl rfl) ?_; clear hS a; intro a hS
      refine q_seq hS rfl rfl rfl (y_assign hS rfl) ?_; clear hS a; intro a hS
      apply wpList_nil
      refine p_norm ?_
      apply wp_ret
      refine fin1 (fn := Try.f5) hS rfl (r_tmp hS rfl) ?_
      rfl

end Go.Proofs.Ytjklnbjblncgeaa

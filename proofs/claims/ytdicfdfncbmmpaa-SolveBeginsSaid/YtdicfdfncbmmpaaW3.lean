/- Chapter 42: the walks, part 3 -/
import Derived.Test.YtdicfdfncbmmpaaW2
namespace Go.Proofs.Ytdicfdfncbmmpaa
open Go.Gl Go.RowKit
set_option linter.unusedVariables false
set_option linter.unusedSimpArgs false
set_option maxRecDepth 4000

set_option maxHeartbeats 400000 in
theorem c_r39_fail (n : Nat) (M : Bs) (w0 : World) (hM : ∀ b, M b → b < w0.heap.size) (C : Bs) (r_ : reader) (Ap04 : Option Addr) (cp04 : Nat) (Ap05 : Option Addr) (cp05 : Nat) (csp03 : List Value) (csp04 : List Value) (lp01 : (r_.s_).length ≤ 9223372036854775807) (hW : Wd ⟨0, M, C, w0⟩ [(9200003, Ob.row (Ap04) ((r_.sorts_).length) (cp04) 9 1 (csp03)), (9200004, Ob.row (Ap05) ((r_.texts_).length) (cp05) 9 1 (csp04))] [(9300003, rdF Rep.str (csp03) (r_.sorts_)), (9300004, rdF Rep.str (csp04) (r_.texts_))] w0) (r : reader) (hg : r39_fail n r_ = some r) :
    Calls Try.prog 39 [.agg #[.string (bs (r_.s_)), .int .i64 (r_.at_), .int .i64 (r_.e_), .slice (Ap04) ((r_.sorts_).length) (cp04), .slice (Ap05) ((r_.texts_).length) (cp05)]].toArray w0 (Ret C w0 fun v w => ∃ (Am04 : Option Addr), ∃ (cm04 : Nat), ∃ (csm0_3 : List Value), ∃ (Am05 : Option Addr), ∃ (cm05 : Nat), ∃ (csm0_4 : List Value), v = .agg #[.string (bs (r.s_)), .int .i64 (r.at_), .int .i64 (r.e_), .slice (Am04) ((r.sorts_).length) (cm04), .slice (Am05) ((r.texts_).length) (cm05)] ∧ ((r.s_).length ≤ 9223372036854775807) ∧ (Wd ⟨0, M, C, w0⟩ [(9200003, Ob.row (Am04) ((r.sorts_).length) (cm04) 9 1 (csm0_3)), (9200004, Ob.row (Am05) ((r.texts_).length) (cm05) 9 1 (csm0_4))] [(9300003, rdF Rep.str (csm0_3) (r.sorts_)), (9300004, rdF Rep.str (csm0_4) (r.texts_))] w)) := by
 unfold r39_fail at hg
 refine enterL M C Try.func39 rfl rfl hW ?_
 intro a hS
 apply wR
 refine l_seq rfl (l_box (zs := [.string (bs (r_.s_)), .int .i64 (r_.at_), .int .i64 (r_.e_), .slice (Ap04) ((r_.sorts_).length) (cp04), .slice (Ap05) ((r_.texts_).length) (cp05)]) hS 1000 rfl rfl rfl rfl ?_); clear hS a; intro b3 a w hb hK hS
 clear hb hK
 refine l_seq rfl (l_alloc (zs := [.string (bs ([])), .int .i64 (0), .int .i64 (0), .slice (none) (0) (0), .slice (none) (0) (0)]) hS 1001 rfl rfl rfl rfl ?_); clear hS a; intro b4 a w hb hK hS
 clear hb hK
 apply wN
 apply wp_seq
 apply wp_seq
 obtain ⟨k5, hg, hk5⟩ := jn_some hg
 refine c_post (fun a w => ∃ (t_6 : Bool), k5 t_6 = some r ∧ St (⟨Try.f39.ntmps, M, C, w0⟩ : Ctx) [(1, .pointer (some ⟨b3, 0, none⟩)), (2, .pointer (some ⟨b4, 0, none⟩)), (13, .bool (t_6))] [(1000, Ob.box b3 [.string (bs (r_.s_)), .int .i64 (r_.at_), .int .i64 (r_.e_), .slice (Ap04) ((r_.sorts_).length) (cp04), .slice (Ap05) ((r_.texts_).length) (cp05)] 64), (1001, Ob.box b4 [.string (bs ([])), .int .i64 (0), .int .i64 (0), .slice (none) (0) (0), .slice (none) (0) (0)] 64), (9200003, Ob.row (Ap04) ((r_.sorts_).length) (cp04) 9 1 (csp03)), (9200004, Ob.row (Ap05) ((r_.texts_).length) (cp05) 9 1 (csp04))] [(9300003, rdF Rep.str (csp03) (r_.sorts_)), (9300004, rdF Rep.str (csp04) (r_.texts_))] a w) ?_ ?_
 ·rcases Decidable.em (r_.e_ = 0) with hs7 | hs7
  ·have hs7e : decide (r_.e_ = 0) = true := decide_eq_true hs7
   replace hg := br_t hg hs7
   apply wp_region_lit
   refine qq hS rfl (y_boxField (o' := 2) hS rfl Try.underlying64 rfl rfl rfl) fun a hS => ?_
   refine qq hS rfl (y_loadBox1 (kk := 1000) hS rfl rfl rfl Try.underlying30 rfl) fun a hS => ?_
   refine qq hS rfl (yl_b (y_eql hS rfl rfl) hs7e) fun a hS => ?_
   refine qq hS rfl (y_move hS rfl) fun a hS => ?_
   refine gy hS rfl (y_boxField (o' := 1) hS rfl Try.underlying64 rfl rfl rfl) fun a hS => ?_
   refine gy hS rfl (y_loadBox1 (kk := 1000) hS rfl rfl rfl Try.underlying3 rfl) fun a hS => ?_
   refine gy hS rfl (y_boxField (o' := 0) hS rfl Try.underlying64 rfl rfl rfl) fun a hS => ?_
   refine gy hS rfl (y_loadBox1 (kk := 1000) hS rfl rfl rfl Try.underlying9 rfl) fun a hS => ?_
   refine gy hS rfl (y_lenStrN hS rfl Try.underlying9) fun a hS => ?_
   refine gy hS rfl (y_geq hS rfl rfl) fun a hS => ?_
   refine qq hS rfl (y_pick_t hS rfl rfl) fun a hS => ?_
   apply wN
   exact ⟨(decide ((((r_.s_).length : Nat) : Int) ≤ r_.at_)), hg, (hS.sb rfl rfl rfl)⟩
  ·have hs7e : decide (r_.e_ = 0) = false := decide_eq_false hs7
   replace hg := br_f hg hs7
   apply wp_region_lit
   refine qq hS rfl (y_boxField (o' := 2) hS rfl Try.underlying64 rfl rfl rfl) fun a hS => ?_
   refine qq hS rfl (y_loadBox1 (kk := 1000) hS rfl rfl rfl Try.underlying30 rfl) fun a hS => ?_
   refine qq hS rfl (yl_b (y_eql hS rfl rfl) hs7e) fun a hS => ?_
   refine qq hS rfl (y_move hS rfl) fun a hS => ?_
   refine gn hS rfl fun a hS => ?_
   refine gn hS rfl fun a hS => ?_
   refine gn hS rfl fun a hS => ?_
   refine gn hS rfl fun a hS => ?_
   refine gn hS rfl fun a hS => ?_
   refine gn hS rfl fun a hS => ?_
   refine qq hS rfl (y_pick_f hS rfl rfl) fun a hS => ?_
   apply wN
   exact ⟨(false), hg, (hS.sb rfl rfl rfl)⟩
 clear hS a; rintro a w ⟨t_6, hg, hS⟩
 subst hk5
 obtain ⟨k8, hg, hk8⟩ := jn_some hg
 refine c_post (fun a w => ∃ (r_9 : Int), k8 r_9 = some r ∧ St (⟨Try.f39.ntmps, M, C, w0⟩ : Ctx) [(1, .pointer (some ⟨b3, 0, none⟩)), (2, .pointer (some ⟨b4, 0, none⟩))] [(1000, Ob.box b3 [.string (bs (r_.s_)), .int .i64 (r_.at_), .int .i64 (r_9), .slice (Ap04) ((r_.sorts_).length) (cp04), .slice (Ap05) ((r_.texts_).length) (cp05)] 64), (1001, Ob.box b4 [.string (bs ([])), .int .i64 (0), .int .i64 (0), .slice (none) (0) (0), .slice (none) (0) (0)] 64), (9200003, Ob.row (Ap04) ((r_.sorts_).length) (cp04) 9 1 (csp03)), (9200004, Ob.row (Ap05) ((r_.texts_).length) (cp05) 9 1 (csp04))] [(9300003, rdF Rep.str (csp03) (r_.sorts_)), (9300004, rdF Rep.str (csp04) (r_.texts_))] a w) ?_ ?_
 ·refine c_cond hS rfl (fun hc10 => ?_) (fun hc10 => ?_)
  ·replace hg := br_t hg hc10
   apply wp_region_lit
   refine qq hS rfl (y_boxField (o' := 2) hS rfl Try.underlying64 rfl rfl rfl) fun a hS => ?_
   refine l_seq rfl (l_store (n := 1) (cs' := [.string (bs (r_.s_)), .int .i64 (r_.at_), .int .i64 (9), .slice (Ap04) ((r_.sorts_).length) (cp04), .slice (Ap05) ((r_.texts_).length) (cp05)]) hS 1000 rfl rfl rfl rfl rfl rfl rfl rfl ?_); clear hS; intro w hK hS; clear hK
   apply wN
   exact ⟨(9), hg, (hS.sb rfl rfl rfl)⟩
  ·replace hg := br_f hg (by rw [hc10]; exact Bool.false_ne_true)
   apply wR
   refine qq hS rfl (y_boxField (o' := 2) hS rfl Try.underlying64 rfl rfl rfl) fun a hS => ?_
   refine qq hS rfl (y_loadBox1 (kk := 1000) hS rfl rfl rfl Try.underlying30 rfl) fun a hS => ?_
   refine qq hS rfl (y_eql hS rfl rfl) fun a hS => ?_
   apply wN
   refine c_dec hS rfl (fun hc11 => ?_) (fun hc11 => ?_)
   ·replace hg := br_t hg hc11
    apply wp_region_lit
    refine qq hS rfl (y_boxField (o' := 2) hS rfl Try.underlying64 rfl rfl rfl) fun a hS => ?_
    refine l_seq rfl (l_store (n := 1) (cs' := [.string (bs (r_.s_)), .int .i64 (r_.at_), .int .i64 (8), .slice (Ap04) ((r_.sorts_).length) (cp04), .slice (Ap05) ((r_.texts_).length) (cp05)]) hS 1000 rfl rfl rfl rfl rfl rfl rfl rfl ?_); clear hS; intro w hK hS; clear hK
    apply wN
    exact ⟨(8), hg, (hS.sb rfl rfl rfl)⟩
   ·replace hg := br_f hg hc11
    apply wp_skip
    refine p_norm ?_
    exact ⟨(r_.e_), hg, (hS.sb rfl rfl rfl)⟩
 clear hS a; rintro a w ⟨r_9, hg, hS⟩
 subst hk8
 apply wR
 refine qq hS rfl (y_loadBox (kk := 1000) (n := 5) (vs := [.string (bs (r_.s_)), .int .i64 (r_.at_), .int .i64 (r_9), .slice (Ap04) ((r_.sorts_).length) (cp04), .slice (Ap05) ((r_.texts_).length) (cp05)]) hS rfl rfl Try.underlying64 rfl rfl rfl rfl) fun a hS => ?_
 refine l_seq rfl (l_store (n := 5) (cs' := [.string (bs (r_.s_)), .int .i64 (r_.at_), .int .i64 (r_9), .slice (Ap04) ((r_.sorts_).length) (cp04), .slice (Ap05) ((r_.texts_).length) (cp05)]) hS 1001 rfl rfl rfl rfl rfl rfl rfl rfl ?_); clear hS; intro w hK hS; clear hK
 apply wN
 apply wp_ret
 replace hS := hS.al 9300003 9300003 rfl
 replace hS := hS.al 9300004 9300004 rfl
 obtain rfl := Option.some.inj hg
 refine fin1 (fn := Try.f39) hS rfl (r_cell (kk := 1001) (n := 5) (vs := [.string (bs (r_.s_)), .int .i64 (r_.at_), .int .i64 (r_9), .slice (Ap04) ((r_.sorts_).length) (cp04), .slice (Ap05) ((r_.texts_).length) (cp05)]) hS rfl rfl Try.underlying64 rfl rfl rfl rfl) ?_
 exact ⟨(Ap04), (cp04), (csp03), (Ap05), (cp05), (csp04), rfl, (by omega), ((hS.ren [(9200003, Ob.row (Ap04) ((r_.sorts_).length) (cp04) 9 1 (csp03)), (9200004, Ob.row (Ap05) ((r_.texts_).length) (cp05) 9 1 (csp04))] [9200003, 9200004] ⟨rfl, rfl, trivial⟩ (by decide)).outL ⟨rfl, rfl, trivial⟩ ⟨rfl, rfl, trivial⟩)⟩
set_option maxHeartbeats 400000 in
theorem c_r39_between (n : Nat) (M : Bs) (w0 : World) (hM : ∀ b, M b → b < w0.heap.size) (c_ : UInt8) (a_ : UInt8) (b_ : UInt8) (r : Bool) (hg : r39_between n c_ a_ b_ = some r) :
    Calls Try.prog 57 [.int .u8 (((c_.toNat : Nat) : Int)), .int .u8 (((a_.toNat : Nat) : Int)), .int .u8 (((b_.toNat : Nat) : Int))].toArray w0 (Ret noB w0 fun v w => v = .bool (r)) := by
 unfold r39_between at hg
 refine enter M noB Try.func57 rfl rfl hM ?_
 intro a hS
 apply wR
 refine qq hS rfl (y_assign hS rfl) fun a hS => ?_
 apply wN
 apply wp_seq
 rcases Decidable.em (a_.toNat ≤ c_.toNat) with hs1 | hs1
 ·have hs1e : decide (a_.toNat ≤ c_.toNat) = true := decide_eq_true hs1
  replace hg := br_t hg hs1
  apply wp_region_lit
  refine qq hS rfl (y_move hS rfl) fun a hS => ?_
  refine qq hS rfl (y_move hS rfl) fun a hS => ?_
  refine qq hS rfl (yl_b (y_geqN (i := c_.toNat) (j := a_.toNat) hS rfl rfl) hs1e) fun a hS => ?_
  refine qq hS rfl (y_move hS rfl) fun a hS => ?_
  refine gy hS rfl (y_move hS rfl) fun a hS => ?_
  refine gy hS rfl (y_move hS rfl) fun a hS => ?_
  refine gy hS rfl (y_leqN (i := c_.toNat) (j := b_.toNat) hS rfl rfl) fun a hS => ?_
  refine qq hS rfl (y_pick_t hS rfl rfl) fun a hS => ?_
  refine qq hS rfl (y_assign hS rfl) fun a hS => ?_
  apply wN
  apply wp_ret
  obtain rfl := Option.some.inj hg
  refine fin1 (fn := Try.f57) hS rfl (r_tmp hS rfl) ?_
  exact rfl
 ·have hs1e : decide (a_.toNat ≤ c_.toNat) = false := decide_eq_false hs1
  replace hg := br_f hg hs1
  apply wp_region_lit
  refine qq hS rfl (y_move hS rfl) fun a hS => ?_
  refine qq hS rfl (y_move hS rfl) fun a hS => ?_
  refine qq hS rfl (yl_b (y_geqN (i := c_.toNat) (j := a_.toNat) hS rfl rfl) hs1e) fun a hS => ?_
  refine qq hS rfl (y_move hS rfl) fun a hS => ?_
  refine gn hS rfl fun a hS => ?_
  refine gn hS rfl fun a hS => ?_
  refine gn hS rfl fun a hS => ?_
  refine qq hS rfl (y_pick_f hS rfl rfl) fun a hS => ?_
  refine qq hS rfl (y_assign hS rfl) fun a hS => ?_
  apply wN
  apply wp_ret
  obtain rfl := Option.some.inj hg
  refine fin1 (fn := Try.f57) hS rfl (r_tmp hS rfl) ?_
  exact rfl
set_option maxHeartbeats 400000 in
theorem c_r39_variableOf (n : Nat) (M : Bs) (w0 : World) (hM : ∀ b, M b → b < w0.heap.size) (C : Bs) (t_ : reader) (Ap04 : Option Addr) (cp04 : Nat) (Ap05 : Option Addr) (cp05 : Nat) (csp03 : List Value) (csp04 : List Value) (lp01 : (t_.s_).length ≤ 9223372036854775807) (hW : Wd ⟨0, M, C, w0⟩ [(9200003, Ob.row (Ap04) ((t_.sorts_).length) (cp04) 9 1 (csp03)), (9200004, Ob.row (Ap05) ((t_.texts_).length) (cp05) 9 1 (csp04))] [(9300003, rdF Rep.str (csp03) (t_.sorts_)), (9300004, rdF Rep.str (csp04) (t_.texts_))] w0) (r : (reader × Int)) (hg : r39_variableOf n t_ = some r) :
    Calls Try.prog 35 [.agg #[.string (bs (t_.s_)), .int .i64 (t_.at_), .int .i64 (t_.e_), .slice (Ap04) ((t_.sorts_).length) (cp04), .slice (Ap05) ((t_.texts_).length) (cp05)]].toArray w0 (Ret C w0 fun v w => ∃ (Am04 : Option Addr), ∃ (cm04 : Nat), ∃ (csm0_3 : List Value), ∃ (Am05 : Option Addr), ∃ (cm05 : Nat), ∃ (csm0_4 : List Value), v = .tuple #[.agg #[.string (bs (r.1.s_)), .int .i64 (r.1.at_), .int .i64 (r.1.e_), .slice (Am04) ((r.1.sorts_).length) (cm04), .slice (Am05) ((r.1.texts_).length) (cm05)], .int .i64 (r.2)] ∧ ((r.1.s_).length ≤ 9223372036854775807) ∧ (Wd ⟨0, M, C, w0⟩ [(9200003, Ob.row (Am04) ((r.1.sorts_).length) (cm04) 9 1 (csm0_3)), (9200004, Ob.row (Am05) ((r.1.texts_).length) (cm05) 9 1 (csm0_4))] [(9300003, rdF Rep.str (csm0_3) (r.1.sorts_)), (9300004, rdF Rep.str (csm0_4) (r.1.texts_))] w)) := by
 unfold r39_variableOf at hg
 refine enterL M C Try.func35 rfl rfl hW ?_
 intro a hS
 apply wR
 refine l_seq rfl (l_box (zs := [.string (bs (t_.s_)), .int .i64 (t_.at_), .int .i64 (t_.e_), .slice (Ap04) ((t_.sorts_).length) (cp04), .slice (Ap05) ((t_.texts_).length) (cp05)]) hS 1000 rfl rfl rfl rfl ?_); clear hS a; intro b3 a w hb hK hS
 clear hb hK
 refine l_seq rfl (l_alloc (zs := [.string (bs ([])), .int .i64 (0), .int .i64 (0), .slice (none) (0) (0), .slice (none) (0) (0)]) hS 1001 rfl rfl rfl rfl ?_); clear hS a; intro b4 a w hb hK hS
 clear hb hK
 refine qq hS rfl (y_assign hS rfl) fun a hS => ?_
 apply wN
 apply wp_seq
 apply wR
 refine qq hS rfl (y_boxField (o' := 2) hS rfl Try.underlying64 rfl rfl rfl) fun a hS => ?_
 refine qq hS rfl (y_loadBox1 (kk := 1000) hS rfl rfl rfl Try.underlying30 rfl) fun a hS => ?_
 refine qq hS rfl (y_neq hS rfl rfl) fun a hS => ?_
 apply wN
 refine c_dec hS rfl (fun hc5 => ?_) (fun hc5 => ?_)
 ·replace hg := br_t hg hc5
  apply wR
  refine qq hS rfl (y_loadBox (kk := 1000) (n := 5) (vs := [.string (bs (t_.s_)), .int .i64 (t_.at_), .int .i64 (t_.e_), .slice (Ap04) ((t_.sorts_).length) (cp04), .slice (Ap05) ((t_.texts_).length) (cp05)]) hS rfl rfl Try.underlying64 rfl rfl rfl rfl) fun a hS => ?_
  refine l_seq rfl (l_store (n := 5) (cs' := [.string (bs (t_.s_)), .int .i64 (t_.at_), .int .i64 (t_.e_), .slice (Ap04) ((t_.sorts_).length) (cp04), .slice (Ap05) ((t_.texts_).length) (cp05)]) hS 1001 rfl rfl rfl rfl rfl rfl rfl rfl ?_); clear hS; intro w hK hS; clear hK
  refine qq hS rfl (y_assign hS rfl) fun a hS => ?_
  apply wN
  apply wp_ret
  refine p_thenR ?_
  replace hS := hS.al 9300003 9300003 rfl
  replace hS := hS.al 9300004 9300004 rfl
  obtain rfl := Option.some.inj hg
  refine fin2 (fn := Try.f35) hS rfl (r_cell (kk := 1001) (n := 5) (vs := [.string (bs (t_.s_)), .int .i64 (t_.at_), .int .i64 (t_.e_), .slice (Ap04) ((t_.sorts_).length) (cp04), .slice (Ap05) ((t_.texts_).length) (cp05)]) hS rfl rfl Try.underlying64 rfl rfl rfl rfl) (r_tmp hS rfl) ?_
  exact ⟨(Ap04), (cp04), (csp03), (Ap05), (cp05), (csp04), rfl, (by omega), ((hS.ren [(9200003, Ob.row (Ap04) ((t_.sorts_).length) (cp04) 9 1 (csp03)), (9200004, Ob.row (Ap05) ((t_.texts_).length) (cp05) 9 1 (csp04))] [9200003, 9200004] ⟨rfl, rfl, trivial⟩ (by decide)).outL ⟨rfl, rfl, trivial⟩ ⟨rfl, rfl, trivial⟩)⟩
 ·replace hg := br_f hg hc5
  apply wp_skip
  refine p_norm ?_
  apply wp_seq
  apply wp_seq
  obtain ⟨k6, hg, hk6⟩ := jn_some hg
  refine c_post (fun a w => ∃ (t_7 : Bool), k6 t_7 = some r ∧ St (⟨Try.f35.ntmps, M, C, w0⟩ : Ctx) [(1, .pointer (some ⟨b3, 0, none⟩)), (2, .pointer (some ⟨b4, 0, none⟩)), (27, .bool (t_7))] [(1000, Ob.box b3 [.string (bs (t_.s_)), .int .i64 (t_.at_), .int .i64 (t_.e_), .slice (Ap04) ((t_.sorts_).length) (cp04), .slice (Ap05) ((t_.texts_).length) (cp05)] 64), (1001, Ob.box b4 [.string (bs ([])), .int .i64 (0), .int .i64 (0), .slice (none) (0) (0), .slice (none) (0) (0)] 64), (9200003, Ob.row (Ap04) ((t_.sorts_).length) (cp04) 9 1 (csp03)), (9200004, Ob.row (Ap05) ((t_.texts_).length) (cp05) 9 1 (csp04))] [(9300003, rdF Rep.str (csp03) (t_.sorts_)), (9300004, rdF Rep.str (csp04) (t_.texts_))] a w) ?_ ?_
  ·rcases Decidable.em ((((t_.s_).length : Nat) : Int) ≤ t_.at_) with hs8 | hs8
   ·have hs8e : decide ((((t_.s_).length : Nat) : Int) ≤ t_.at_) = true := decide_eq_true hs8
    replace hg := br_t hg hs8
    apply wp_region_lit
    refine qq hS rfl (y_boxField (o' := 1) hS rfl Try.underlying64 rfl rfl rfl) fun a hS => ?_
    refine qq hS rfl (y_loadBox1 (kk := 1000) hS rfl rfl rfl Try.underlying3 rfl) fun a hS => ?_
    refine qq hS rfl (y_boxField (o' := 0) hS rfl Try.underlying64 rfl rfl rfl) fun a hS => ?_
    refine qq hS rfl (y_loadBox1 (kk := 1000) hS rfl rfl rfl Try.underlying9 rfl) fun a hS => ?_
    refine qq hS rfl (y_lenStrN hS rfl Try.underlying9) fun a hS => ?_
    refine qq hS rfl (yl_b (y_geq hS rfl rfl) hs8e) fun a hS => ?_
    refine qq hS rfl (y_move hS rfl) fun a hS => ?_
    refine gn hS rfl fun a hS => ?_
    refine gn hS rfl fun a hS => ?_
    refine gn hS rfl fun a hS => ?_
    refine gn hS rfl fun a hS => ?_
    refine gn hS rfl fun a hS => ?_
    refine gn hS rfl fun a hS => ?_
    refine gn hS rfl fun a hS => ?_
    refine gn hS rfl fun a hS => ?_
    refine gn hS rfl fun a hS => ?_
    refine gn hS rfl fun a hS => ?_
    refine qq hS rfl (y_pick_t hS rfl rfl) fun a hS => ?_
    apply wN
    exact ⟨(true), hg, (hS.sb rfl rfl rfl)⟩
   ·have hs8e : decide ((((t_.s_).length : Nat) : Int) ≤ t_.at_) = false := decide_eq_false hs8
    replace hg := br_f hg hs8
    obtain ⟨hk9, hg⟩ := chk_some hg
    obtain ⟨hk10, hg⟩ := chk_some hg
    obtain ⟨hk11, hg⟩ := chk_some hg
    obtain ⟨hk12, hg⟩ := chk_some hg
    obtain ⟨r13, hr13, hg⟩ := bind_some hg
    apply wp_region_lit
    refine qq hS rfl (y_boxField (o' := 1) hS rfl Try.underlying64 rfl rfl rfl) fun a hS => ?_
    refine qq hS rfl (y_loadBox1 (kk := 1000) hS rfl rfl rfl Try.underlying3 rfl) fun a hS => ?_
    refine qq hS rfl (y_boxField (o' := 0) hS rfl Try.underlying64 rfl rfl rfl) fun a hS => ?_
    refine qq hS rfl (y_loadBox1 (kk := 1000) hS rfl rfl rfl Try.underlying9 rfl) fun a hS => ?_
    refine qq hS rfl (y_lenStrN hS rfl Try.underlying9) fun a hS => ?_
    refine qq hS rfl (yl_b (y_geq hS rfl rfl) hs8e) fun a hS => ?_
    refine qq hS rfl (y_move hS rfl) fun a hS => ?_
    refine gy hS rfl (y_boxField (o' := 0) hS rfl Try.underlying64 rfl rfl rfl) fun a hS => ?_
    refine gy hS rfl (y_loadBox1 (kk := 1000) hS rfl rfl rfl Try.underlying9 rfl) fun a hS => ?_
    refine gy hS rfl (y_boxField (o' := 1) hS rfl Try.underlying64 rfl rfl rfl) fun a hS => ?_
    refine gy hS rfl (y_loadBox1 (kk := 1000) hS rfl rfl rfl Try.underlying3 rfl) fun a hS => ?_
    refine gy hS rfl (y_boxField (o' := 1) hS rfl Try.underlying64 rfl rfl rfl) fun a hS => ?_
    refine gy hS rfl (y_loadBox1 (kk := 1000) hS rfl rfl rfl Try.underlying3 rfl) fun a hS => ?_
    refine gy hS rfl (y_add hS rfl rfl (in64.2 hk9)) fun a hS => ?_
    refine gy hS rfl (y_strLH (i := ((t_.at_).toNat)) (j := ((t_.at_ + 1).toNat)) hS rfl rfl rfl Try.underlying9 (by omega) (by omega) hk12.1 hk12.2) fun a hS => ?_
    refine gl hS rfl (l_call (cap := []) hS rfl Try.func52 rfl (by kernel_rfl) rfl rfl (c_r39_sorted n _ _ hS.lt (((t_.s_).drop ((t_.at_).toNat)).take ((t_.at_ + 1).toNat - ((t_.at_).toNat))) (by first | omega | (rw [List.length_append]; omega) | (simp only [List.length_append]; omega) | (simp only [List.length_append, List.length_take, List.length_drop, List.length_cons, List.length_nil]; omega)) r13 hr13) ?_); clear hS a; intro v16 a w hK hp hS
    clear hK
    obtain rfl := hp
    refine gy hS rfl (y_not hS rfl) fun a hS => ?_
    refine qq hS rfl (y_pick_f hS rfl rfl) fun a hS => ?_
    apply wN
    exact ⟨(!(r13)), hg, (hS.sb rfl rfl rfl)⟩
  clear hS a; rintro a w ⟨t_7, hg, hS⟩
  subst hk6
  refine c_cond hS rfl (fun hc18 => ?_) (fun hc18 => ?_)
  ·replace hg := br_t hg hc18
   apply wp_seq
   obtain ⟨r19, hr19, hg⟩ := bind_some hg
   apply wp_region_lit
   refine qq hS rfl (y_loadBox (kk := 1000) (n := 5) (vs := [.string (bs (t_.s_)), .int .i64 (t_.at_), .int .i64 (t_.e_), .slice (Ap04) ((t_.sorts_).length) (cp04), .slice (Ap05) ((t_.texts_).length) (cp05)]) hS rfl rfl Try.underlying64 rfl rfl rfl rfl) fun a hS => ?_
   have hT := hS.pk [(1000, 1000), (1001, 1001), (9200003, 9200003), (9200004, 9200004)] (by decide)
   replace hT := hT.al 9300003 9300003 rfl
   replace hT := hT.al 9300004 9300004 rfl
   refine l_seq rfl (l_callMut (cap := []) hT _ [] (sbA (by rfl)) trivial (by rfl) rfl Try.func39 rfl (by kernel_rfl) rfl rfl (c_r39_fail n _ _ (hT.restLt [1000, 1001]) _ t_ (Ap04) (cp04) (Ap05) (cp05) (csp03) (csp04) (by omega) (hT.wd.lendL _ _ _ (sbA (by rfl)) (keep_sub [1000, 1001]) (by rfl) (sbA (by rfl))) r19 hr19) ?_); intro v22 a' w' hK hp hF
   obtain ⟨Am04u23, cm04u23, csm0_3u23, Am05u23, cm05u23, csm0_4u23, rfl, lm01u23, hWu23⟩ := hp
   have hS2 := St.mk hF (hT.wd.back (sbA (by rfl)) (keep_sub [1000, 1001]) (by rfl) hWu23 (by rfl))
   clear hS hT hF hWu23 hK; revert hS2; revert w'; revert a'; intro a w hS
   replace hS := hS.al 103 9300003 rfl
   replace hS := hS.al 104 9300004 rfl
   replace hS := hS.ren [(1000, Ob.box b3 [.string (bs (t_.s_)), .int .i64 (t_.at_), .int .i64 (t_.e_), .slice (Ap04) ((t_.sorts_).length) (cp04), .slice (Ap05) ((t_.texts_).length) (cp05)] 64), (1001, Ob.box b4 [.string (bs ([])), .int .i64 (0), .int .i64 (0), .slice (none) (0) (0), .slice (none) (0) (0)] 64), (9200003, Ob.row (Am04u23) ((r19.sorts_).length) (cm04u23) 9 1 (csm0_3u23)), (9200004, Ob.row (Am05u23) ((r19.texts_).length) (cm05u23) 9 1 (csm0_4u23))] [1000, 1001, 9200003, 9200004] ⟨rfl, rfl, rfl, rfl, trivial⟩ (by decide)
   refine l_seq rfl (l_store (n := 5) (cs' := [.string (bs (r19.s_)), .int .i64 (r19.at_), .int .i64 (r19.e_), .slice (Am04u23) ((r19.sorts_).length) (cm04u23), .slice (Am05u23) ((r19.texts_).length) (cm05u23)]) hS 1001 rfl rfl rfl rfl rfl rfl rfl rfl ?_); clear hS; intro w hK hS; clear hK
   refine qq hS rfl (y_assign hS rfl) fun a hS => ?_
   apply wN
   apply wp_ret
   refine p_thenR ?_
   replace hS := hS.al 9300003 103 rfl
   replace hS := hS.al 9300004 104 rfl
   obtain rfl := Option.some.inj hg
   refine fin2 (fn := Try.f35) hS rfl (r_cell (kk := 1001) (n := 5) (vs := [.string (bs (r19.s_)), .int .i64 (r19.at_), .int .i64 (r19.e_), .slice (Am04u23) ((r19.sorts_).length) (cm04u23), .slice (Am05u23) ((r19.texts_).length) (cm05u23)]) hS rfl rfl Try.underlying64 rfl rfl rfl rfl) (r_tmp hS rfl) ?_
   exact ⟨(Am04u23), (cm04u23), (csm0_3u23), (Am05u23), (cm05u23), (csm0_4u23), rfl, (by omega), ((hS.ren [(9200003, Ob.row (Am04u23) ((r19.sorts_).length) (cm04u23) 9 1 (csm0_3u23)), (9200004, Ob.row (Am05u23) ((r19.texts_).length) (cm05u23) 9 1 (csm0_4u23))] [9200003, 9200004] ⟨rfl, rfl, trivial⟩ (by decide)).outL ⟨rfl, rfl, trivial⟩ ⟨rfl, rfl, trivial⟩)⟩
  ·replace hg := br_f hg (by rw [hc18]; exact Bool.false_ne_true)
   apply wp_skip
   refine p_norm ?_
   apply wp_seq
   obtain ⟨hk24, hg⟩ := chk_some hg
   obtain ⟨hk25, hg⟩ := chk_some hg
   obtain ⟨hk26, hg⟩ := chk_some hg
   obtain ⟨hk27, hg⟩ := chk_some hg
   apply wp_region_lit
   refine qq hS rfl (y_boxField (o' := 0) hS rfl Try.underlying64 rfl rfl rfl) fun a hS => ?_
   refine qq hS rfl (y_loadBox1 (kk := 1000) hS rfl rfl rfl Try.underlying9 rfl) fun a hS => ?_
   refine qq hS rfl (y_boxField (o' := 1) hS rfl Try.underlying64 rfl rfl rfl) fun a hS => ?_
   refine qq hS rfl (y_loadBox1 (kk := 1000) hS rfl rfl rfl Try.underlying3 rfl) fun a hS => ?_
   refine qq hS rfl (y_boxField (o' := 1) hS rfl Try.underlying64 rfl rfl rfl) fun a hS => ?_
   refine qq hS rfl (y_loadBox1 (kk := 1000) hS rfl rfl rfl Try.underlying3 rfl) fun a hS => ?_
   refine qq hS rfl (y_add hS rfl rfl (in64.2 hk24)) fun a hS => ?_
   refine qq hS rfl (y_strLH (i := ((t_.at_).toNat)) (j := ((t_.at_ + 1).toNat)) hS rfl rfl rfl Try.underlying9 (by omega) (by omega) hk27.1 hk27.2) fun a hS => ?_
   refine qq hS rfl (y_assign hS rfl) fun a hS => ?_
   apply wN
   apply wR
   refine qq hS rfl (y_boxField (o' := 1) hS rfl Try.underlying64 rfl rfl rfl) fun a hS => ?_
   refine qq hS rfl (y_loadBox1 (kk := 1000) hS rfl rfl rfl Try.underlying3 rfl) fun a hS => ?_
   refine qq hS rfl (y_add hS rfl rfl (in64.2 hk24)) fun a hS => ?_
   refine qq hS rfl (y_boxField (o' := 1) hS rfl Try.underlying64 rfl rfl rfl) fun a hS => ?_
   refine l_seq rfl (l_store (n := 1) (cs' := [.string (bs (t_.s_)), .int .i64 (t_.at_ + 1), .int .i64 (t_.e_), .slice (Ap04) ((t_.sorts_).length) (cp04), .slice (Ap05) ((t_.texts_).length) (cp05)]) hS 1000 rfl rfl rfl rfl rfl rfl rfl rfl ?_); clear hS; intro w hK hS; clear hK
   apply wN
   apply wp_seq
   apply wp_seq
   obtain ⟨k28, hg, hk28⟩ := jn_some hg
   refine c_post (fun a w => ∃ (t_29 : Bool), k28 t_29 = some r ∧ St (⟨Try.f35.ntmps, M, C, w0⟩ : Ctx) [(1, .pointer (some ⟨b3, 0, none⟩)), (2, .pointer (some ⟨b4, 0, none⟩)), (4, .string (bs (((t_.s_).drop ((t_.at_).toNat)).take ((t_.at_ + 1).toNat - ((t_.at_).toNat))))), (56, .bool (t_29))] [(1000, Ob.box b3 [.string (bs (t_.s_)), .int .i64 (t_.at_ + 1), .int .i64 (t_.e_), .slice (Ap04) ((t_.sorts_).length) (cp04), .slice (Ap05) ((t_.texts_).length) (cp05)] 64), (1001, Ob.box b4 [.string (bs ([])), .int .i64 (0), .int .i64 (0), .slice (none) (0) (0), .slice (none) (0) (0)] 64), (9200003, Ob.row (Ap04) ((t_.sorts_).length) (cp04) 9 1 (csp03)), (9200004, Ob.row (Ap05) ((t_.texts_).length) (cp05) 9 1 (csp04))] [(9300003, rdF Rep.str (csp03) (t_.sorts_)), (9300004, rdF Rep.str (csp04) (t_.texts_))] a w) ?_ ?_
   ·rcases Decidable.em ((((t_.s_).length : Nat) : Int) ≤ (t_.at_ + 1)) with hs30 | hs30
    ·have hs30e : decide ((((t_.s_).length : Nat) : Int) ≤ (t_.at_ + 1)) = true := decide_eq_true hs30
     replace hg := br_t hg hs30
     apply wp_region_lit
     refine qq hS rfl (y_boxField (o' := 1) hS rfl Try.underlying64 rfl rfl rfl) fun a hS => ?_
     refine qq hS rfl (y_loadBox1 (kk := 1000) hS rfl rfl rfl Try.underlying3 rfl) fun a hS => ?_
     refine qq hS rfl (y_boxField (o' := 0) hS rfl Try.underlying64 rfl rfl rfl) fun a hS => ?_
     refine qq hS rfl (y_loadBox1 (kk := 1000) hS rfl rfl rfl Try.underlying9 rfl) fun a hS => ?_
     refine qq hS rfl (y_lenStrN hS rfl Try.underlying9) fun a hS => ?_
     refine qq hS rfl (yl_b (y_geq hS rfl rfl) hs30e) fun a hS => ?_
     refine qq hS rfl (y_move hS rfl) fun a hS => ?_
     refine gn hS rfl fun a hS => ?_
     refine gn hS rfl fun a hS => ?_
     refine gn hS rfl fun a hS => ?_
     refine gn hS rfl fun a hS => ?_
     refine gn hS rfl fun a hS => ?_
     refine gn hS rfl fun a hS => ?_
     refine gn hS rfl fun a hS => ?_
     refine qq hS rfl (y_pick_t hS rfl rfl) fun a hS => ?_
     apply wN
     exact ⟨(true), hg, (hS.sb rfl rfl rfl)⟩
    ·have hs30e : decide ((((t_.s_).length : Nat) : Int) ≤ (t_.at_ + 1)) = false := decide_eq_false hs30
     replace hg := br_f hg hs30
     obtain ⟨c31, hc31, hg⟩ := bind_some hg
     obtain ⟨r32, hr32, hg⟩ := bind_some hg
     apply wp_region_lit
     refine qq hS rfl (y_boxField (o' := 1) hS rfl Try.underlying64 rfl rfl rfl) fun a hS => ?_
     refine qq hS rfl (y_loadBox1 (kk := 1000) hS rfl rfl rfl Try.underlying3 rfl) fun a hS => ?_
     refine qq hS rfl (y_boxField (o' := 0) hS rfl Try.underlying64 rfl rfl rfl) fun a hS => ?_
     refine qq hS rfl (y_loadBox1 (kk := 1000) hS rfl rfl rfl Try.underlying9 rfl) fun a hS => ?_
     refine qq hS rfl (y_lenStrN hS rfl Try.underlying9) fun a hS => ?_
     refine qq hS rfl (yl_b (y_geq hS rfl rfl) hs30e) fun a hS => ?_
     refine qq hS rfl (y_move hS rfl) fun a hS => ?_
     refine gy hS rfl (y_boxField (o' := 0) hS rfl Try.underlying64 rfl rfl rfl) fun a hS => ?_
     refine gy hS rfl (y_loadBox1 (kk := 1000) hS rfl rfl rfl Try.underlying9 rfl) fun a hS => ?_
     refine gy hS rfl (y_boxField (o' := 1) hS rfl Try.underlying64 rfl rfl rfl) fun a hS => ?_
     refine gy hS rfl (y_loadBox1 (kk := 1000) hS rfl rfl rfl Try.underlying3 rfl) fun a hS => ?_
     refine gy hS rfl (y_indexN (i := ((t_.at_ + 1).toNat)) hS rfl rfl Try.underlying9 (ix_some hc31).2.1 (ix_some hc31).1) fun a hS => ?_
     refine gl hS rfl (l_call (cap := []) hS rfl Try.func57 rfl (by kernel_rfl) rfl rfl (c_r39_between n _ _ hS.lt c31 (48 : UInt8) (57 : UInt8) r32 hr32) ?_); clear hS a; intro v35 a w hK hp hS
     clear hK
     obtain rfl := hp
     refine gy hS rfl (y_not hS rfl) fun a hS => ?_
     refine qq hS rfl (y_pick_f hS rfl rfl) fun a hS => ?_
     apply wN
     exact ⟨(!(r32)), hg, (hS.sb rfl rfl rfl)⟩
   clear hS a; rintro a w ⟨t_29, hg, hS⟩
   subst hk28
   refine c_cond hS rfl (fun hc37 => ?_) (fun hc37 => ?_)
   ·replace hg := br_t hg hc37
    apply wp_seq
    obtain ⟨r38, hr38, hg⟩ := bind_some hg
    apply wp_region_lit
    refine qq hS rfl (y_loadBox (kk := 1000) (n := 5) (vs := [.string (bs (t_.s_)), .int .i64 (t_.at_ + 1), .int .i64 (t_.e_), .slice (Ap04) ((t_.sorts_).length) (cp04), .slice (Ap05) ((t_.texts_).length) (cp05)]) hS rfl rfl Try.underlying64 rfl rfl rfl rfl) fun a hS => ?_
    have hT := hS.pk [(1000, 1000), (1001, 1001), (9200003, 9200003), (9200004, 9200004)] (by decide)
    replace hT := hT.al 9300003 9300003 rfl
    replace hT := hT.al 9300004 9300004 rfl
    refine l_seq rfl (l_callMut (cap := []) hT _ [] (sbA (by rfl)) trivial (by rfl) rfl Try.func39 rfl (by kernel_rfl) rfl rfl (c_r39_fail n _ _ (hT.restLt [1000, 1001]) _ (reader.mk t_.s_ (t_.at_ + 1) t_.e_ t_.sorts_ t_.texts_) (Ap04) (cp04) (Ap05) (cp05) (csp03) (csp04) (by omega) (hT.wd.lendL _ _ _ (sbA (by rfl)) (keep_sub [1000, 1001]) (by rfl) (sbA (by rfl))) r38 hr38) ?_); intro v41 a' w' hK hp hF
    obtain ⟨Am04u42, cm04u42, csm0_3u42, Am05u42, cm05u42, csm0_4u42, rfl, lm01u42, hWu42⟩ := hp
    have hS2 := St.mk hF (hT.wd.back (sbA (by rfl)) (keep_sub [1000, 1001]) (by rfl) hWu42 (by rfl))
    clear hS hT hF hWu42 hK; revert hS2; revert w'; revert a'; intro a w hS
    replace hS := hS.al 107 9300003 rfl
    replace hS := hS.al 108 9300004 rfl
    replace hS := hS.ren [(1000, Ob.box b3 [.string (bs (t_.s_)), .int .i64 (t_.at_ + 1), .int .i64 (t_.e_), .slice (Ap04) ((t_.sorts_).length) (cp04), .slice (Ap05) ((t_.texts_).length) (cp05)] 64), (1001, Ob.box b4 [.string (bs ([])), .int .i64 (0), .int .i64 (0), .slice (none) (0) (0), .slice (none) (0) (0)] 64), (9200003, Ob.row (Am04u42) ((r38.sorts_).length) (cm04u42) 9 1 (csm0_3u42)), (9200004, Ob.row (Am05u42) ((r38.texts_).length) (cm05u42) 9 1 (csm0_4u42))] [1000, 1001, 9200003, 9200004] ⟨rfl, rfl, rfl, rfl, trivial⟩ (by decide)
    refine l_seq rfl (l_store (n := 5) (cs' := [.string (bs (r38.s_)), .int .i64 (r38.at_), .int .i64 (r38.e_), .slice (Am04u42) ((r38.sorts_).length) (cm04u42), .slice (Am05u42) ((r38.texts_).length) (cm05u42)]) hS 1001 rfl rfl rfl rfl rfl rfl rfl rfl ?_); clear hS; intro w hK hS; clear hK
    refine qq hS rfl (y_assign hS rfl) fun a hS => ?_
    apply wN
    apply wp_ret
    refine p_thenR ?_
    replace hS := hS.al 9300003 107 rfl
    replace hS := hS.al 9300004 108 rfl
    obtain rfl := Option.some.inj hg
    refine fin2 (fn := Try.f35) hS rfl (r_cell (kk := 1001) (n := 5) (vs := [.string (bs (r38.s_)), .int .i64 (r38.at_), .int .i64 (r38.e_), .slice (Am04u42) ((r38.sorts_).length) (cm04u42), .slice (Am05u42) ((r38.texts_).length) (cm05u42)]) hS rfl rfl Try.underlying64 rfl rfl rfl rfl) (r_tmp hS rfl) ?_
    exact ⟨(Am04u42), (cm04u42), (csm0_3u42), (Am05u42), (cm05u42), (csm0_4u42), rfl, (by omega), ((hS.ren [(9200003, Ob.row (Am04u42) ((r38.sorts_).length) (cm04u42) 9 1 (csm0_3u42)), (9200004, Ob.row (Am05u42) ((r38.texts_).length) (cm05u42) 9 1 (csm0_4u42))] [9200003, 9200004] ⟨rfl, rfl, trivial⟩ (by decide)).outL ⟨rfl, rfl, trivial⟩ ⟨rfl, rfl, trivial⟩)⟩
   ·replace hg := br_f hg (by rw [hc37]; exact Bool.false_ne_true)
    apply wp_skip
    refine p_norm ?_
    apply wR
    refine qq hS rfl (y_boxField (o' := 1) hS rfl Try.underlying64 rfl rfl rfl) fun a hS => ?_
    refine qq hS rfl (y_loadBox1 (kk := 1000) hS rfl rfl rfl Try.underlying3 rfl) fun a hS => ?_
    refine qq hS rfl (y_assign hS rfl) fun a hS => ?_
    apply wN
    apply wp_seq
    obtain ⟨k43, hg, hk43⟩ := jn_some hg
    refine c_post (fun a w => ∃ (b_44 : Int), k43 b_44 = some r ∧ St (⟨Try.f35.ntmps, M, C, w0⟩ : Ctx) [(1, .pointer (some ⟨b3, 0, none⟩)), (2, .pointer (some ⟨b4, 0, none⟩)), (4, .string (bs (((t_.s_).drop ((t_.at_).toNat)).take ((t_.at_ + 1).toNat - ((t_.at_).toNat))))), (5, .int .i64 (t_.at_ + 1))] [(1000, Ob.box b3 [.string (bs (t_.s_)), .int .i64 (b_44), .int .i64 (t_.e_), .slice (Ap04) ((t_.sorts_).length) (cp04), .slice (Ap05) ((t_.texts_).length) (cp05)] 64), (1001, Ob.box b4 [.string (bs ([])), .int .i64 (0), .int .i64 (0), .slice (none) (0) (0), .slice (none) (0) (0)] 64), (9200003, Ob.row (Ap04) ((t_.sorts_).length) (cp04) 9 1 (csp03)), (9200004, Ob.row (Ap05) ((t_.texts_).length) (cp05) 9 1 (csp04))] [(9300003, rdF Rep.str (csp03) (t_.sorts_)), (9300004, rdF Rep.str (csp04) (t_.texts_))] a w) ?_ ?_
    ·apply wp_block
     refine c_loop (σ := Nat) (fun m1 a w => ∃ (b_45 : Int), r39_variableOf_L0 n t_ k43 m1 b_45 = some r ∧ St (⟨Try.f35.ntmps, M, C, w0⟩ : Ctx) [(1, .pointer (some ⟨b3, 0, none⟩)), (2, .pointer (some ⟨b4, 0, none⟩)), (4, .string (bs (((t_.s_).drop ((t_.at_).toNat)).take ((t_.at_ + 1).toNat - ((t_.at_).toNat))))), (5, .int .i64 (t_.at_ + 1))] [(1000, Ob.box b3 [.string (bs (t_.s_)), .int .i64 (b_45), .int .i64 (t_.e_), .slice (Ap04) ((t_.sorts_).length) (cp04), .slice (Ap05) ((t_.texts_).length) (cp05)] 64), (1001, Ob.box b4 [.string (bs ([])), .int .i64 (0), .int .i64 (0), .slice (none) (0) (0), .slice (none) (0) (0)] 64), (9200003, Ob.row (Ap04) ((t_.sorts_).length) (cp04) 9 1 (csp03)), (9200004, Ob.row (Ap05) ((t_.texts_).length) (cp05) 9 1 (csp04))] [(9300003, rdF Rep.str (csp03) (t_.sorts_)), (9300004, rdF Rep.str (csp04) (t_.texts_))] a w) (fun m1 => m1) n ⟨(t_.at_ + 1), hg, (hS.sb rfl rfl rfl)⟩ ?_
     clear hS a; rintro m1 a w ⟨b_45, hg, hS⟩
     rcases m1 with _ | m1
     ·rw [r39_variableOf_L0] at hg; cases hg
     rw [r39_variableOf_L0] at hg
     apply wp_seq
     apply wp_seq
     obtain ⟨k46, hg, hk46⟩ := jn_some hg
     refine c_post (fun a w => ∃ (t_47 : Bool), k46 t_47 = some r ∧ St (⟨Try.f35.ntmps, M, C, w0⟩ : Ctx) [(1, .pointer (some ⟨b3, 0, none⟩)), (2, .pointer (some ⟨b4, 0, none⟩)), (4, .string (bs (((t_.s_).drop ((t_.at_).toNat)).take ((t_.at_ + 1).toNat - ((t_.at_).toNat))))), (5, .int .i64 (t_.at_ + 1)), (87, .bool (t_47))] [(1000, Ob.box b3 [.string (bs (t_.s_)), .int .i64 (b_45), .int .i64 (t_.e_), .slice (Ap04) ((t_.sorts_).length) (cp04), .slice (Ap05) ((t_.texts_).length) (cp05)] 64), (1001, Ob.box b4 [.string (bs ([])), .int .i64 (0), .int .i64 (0), .slice (none) (0) (0), .slice (none) (0) (0)] 64), (9200003, Ob.row (Ap04) ((t_.sorts_).length) (cp04) 9 1 (csp03)), (9200004, Ob.row (Ap05) ((t_.texts_).length) (cp05) 9 1 (csp04))] [(9300003, rdF Rep.str (csp03) (t_.sorts_)), (9300004, rdF Rep.str (csp04) (t_.texts_))] a w) ?_ ?_
     ·rcases Decidable.em (b_45 < (((t_.s_).length : Nat) : Int)) with hs48 | hs48
      ·have hs48e : decide (b_45 < (((t_.s_).length : Nat) : Int)) = true := decide_eq_true hs48
       replace hg := br_t hg hs48
       obtain ⟨c49, hc49, hg⟩ := bind_some hg
       obtain ⟨r50, hr50, hg⟩ := bind_some hg
       rcases Bool.eq_false_or_eq_true (r50) with hs53 | hs53
       ·replace hg := br_t hg hs53
        rcases Decidable.em (b_45 = (t_.at_ + 1)) with hs54 | hs54
        ·have hs54e : decide (b_45 = (t_.at_ + 1)) = true := decide_eq_true hs54
         replace hg := br_t hg hs54
         apply wp_region_lit
         refine qq hS rfl (y_boxField (o' := 1) hS rfl Try.underlying64 rfl rfl rfl) fun a hS => ?_
         refine qq hS rfl (y_loadBox1 (kk := 1000) hS rfl rfl rfl Try.underlying3 rfl) fun a hS => ?_
         refine qq hS rfl (y_boxField (o' := 0) hS rfl Try.underlying64 rfl rfl rfl) fun a hS => ?_
         refine qq hS rfl (y_loadBox1 (kk := 1000) hS rfl rfl rfl Try.underlying9 rfl) fun a hS => ?_
         refine qq hS rfl (y_lenStrN hS rfl Try.underlying9) fun a hS => ?_
         refine qq hS rfl (yl_b (y_lss hS rfl rfl) hs48e) fun a hS => ?_
         refine qq hS rfl (y_move hS rfl) fun a hS => ?_
         refine gy hS rfl (y_boxField (o' := 0) hS rfl Try.underlying64 rfl rfl rfl) fun a hS => ?_
         refine gy hS rfl (y_loadBox1 (kk := 1000) hS rfl rfl rfl Try.underlying9 rfl) fun a hS => ?_
         refine gy hS rfl (y_boxField (o' := 1) hS rfl Try.underlying64 rfl rfl rfl) fun a hS => ?_
         refine gy hS rfl (y_loadBox1 (kk := 1000) hS rfl rfl rfl Try.underlying3 rfl) fun a hS => ?_
         refine gy hS rfl (y_indexN (i := ((b_45).toNat)) hS rfl rfl Try.underlying9 (ix_some hc49).2.1 (ix_some hc49).1) fun a hS => ?_
         refine gl hS rfl (l_call (cap := []) hS rfl Try.func57 rfl (by kernel_rfl) rfl rfl (c_r39_between n _ _ hS.lt c49 (48 : UInt8) (57 : UInt8) r50 hr50) ?_); clear hS a; intro v55 a w hK hp hS
         clear hK
         obtain rfl := hp.trans (congrArg Value.bool hs53)
         refine qq hS rfl (y_pick_t hS rfl rfl) fun a hS => ?_
         refine qq hS rfl (y_move hS rfl) fun a hS => ?_
         refine gy hS rfl (y_boxField (o' := 1) hS rfl Try.underlying64 rfl rfl rfl) fun a hS => ?_
         refine gy hS rfl (y_loadBox1 (kk := 1000) hS rfl rfl rfl Try.underlying3 rfl) fun a hS => ?_
         refine gy hS rfl (y_move hS rfl) fun a hS => ?_
         refine gy hS rfl (yl_b (y_eql hS rfl rfl) hs54e) fun a hS => ?_
         refine gy hS rfl (y_move hS rfl) fun a hS => ?_
         refine gn hS rfl fun a hS => ?_
         refine gn hS rfl fun a hS => ?_
         refine gn hS rfl fun a hS => ?_
         refine gn hS rfl fun a hS => ?_
         refine gn hS rfl fun a hS => ?_
         refine gy hS rfl (y_pick_t hS rfl rfl) fun a hS => ?_
         refine qq hS rfl (y_pick_t hS rfl rfl) fun a hS => ?_
         apply wN
         exact ⟨(true), hg, (hS.sb rfl rfl rfl)⟩
        ·have hs54e : decide (b_45 = (t_.at_ + 1)) = false := decide_eq_false hs54
         replace hg := br_f hg hs54
         obtain ⟨c57, hc57, hg⟩ := bind_some hg
         apply wp_region_lit
         refine qq hS rfl (y_boxField (o' := 1) hS rfl Try.underlying64 rfl rfl rfl) fun a hS => ?_
         refine qq hS rfl (y_loadBox1 (kk := 1000) hS rfl rfl rfl Try.underlying3 rfl) fun a hS => ?_
         refine qq hS rfl (y_boxField (o' := 0) hS rfl Try.underlying64 rfl rfl rfl) fun a hS => ?_
         refine qq hS rfl (y_loadBox1 (kk := 1000) hS rfl rfl rfl Try.underlying9 rfl) fun a hS => ?_
         refine qq hS rfl (y_lenStrN hS rfl Try.underlying9) fun a hS => ?_
         refine qq hS rfl (yl_b (y_lss hS rfl rfl) hs48e) fun a hS => ?_
         refine qq hS rfl (y_move hS rfl) fun a hS => ?_
         refine gy hS rfl (y_boxField (o' := 0) hS rfl Try.underlying64 rfl rfl rfl) fun a hS => ?_
         refine gy hS rfl (y_loadBox1 (kk := 1000) hS rfl rfl rfl Try.underlying9 rfl) fun a hS => ?_
         refine gy hS rfl (y_boxField (o' := 1) hS rfl Try.underlying64 rfl rfl rfl) fun a hS => ?_
         refine gy hS rfl (y_loadBox1 (kk := 1000) hS rfl rfl rfl Try.underlying3 rfl) fun a hS => ?_
         refine gy hS rfl (y_indexN (i := ((b_45).toNat)) hS rfl rfl Try.underlying9 (ix_some hc49).2.1 (ix_some hc49).1) fun a hS => ?_
         refine gl hS rfl (l_call (cap := []) hS rfl Try.func57 rfl (by kernel_rfl) rfl rfl (c_r39_between n _ _ hS.lt c49 (48 : UInt8) (57 : UInt8) r50 hr50) ?_); clear hS a; intro v58 a w hK hp hS
         clear hK
         obtain rfl := hp.trans (congrArg Value.bool hs53)
         refine qq hS rfl (y_pick_t hS rfl rfl) fun a hS => ?_
         refine qq hS rfl (y_move hS rfl) fun a hS => ?_
         refine gy hS rfl (y_boxField (o' := 1) hS rfl Try.underlying64 rfl rfl rfl) fun a hS => ?_
         refine gy hS rfl (y_loadBox1 (kk := 1000) hS rfl rfl rfl Try.underlying3 rfl) fun a hS => ?_
         refine gy hS rfl (y_move hS rfl) fun a hS => ?_
         refine gy hS rfl (yl_b (y_eql hS rfl rfl) hs54e) fun a hS => ?_
         refine gy hS rfl (y_move hS rfl) fun a hS => ?_
         refine gy hS rfl (y_boxField (o' := 0) hS rfl Try.underlying64 rfl rfl rfl) fun a hS => ?_
         refine gy hS rfl (y_loadBox1 (kk := 1000) hS rfl rfl rfl Try.underlying9 rfl) fun a hS => ?_
         refine gy hS rfl (y_move hS rfl) fun a hS => ?_
         refine gy hS rfl (y_indexN (i := ((t_.at_ + 1).toNat)) hS rfl rfl Try.underlying9 (ix_some hc57).2.1 (ix_some hc57).1) fun a hS => ?_
         refine gy hS rfl (y_neqN (i := c57.toNat) (j := 48) hS rfl rfl) fun a hS => ?_
         refine gy hS rfl (y_pick_f hS rfl rfl) fun a hS => ?_
         refine qq hS rfl (y_pick_t hS rfl rfl) fun a hS => ?_
         apply wN
         exact ⟨(decide (c57.toNat ≠ 48)), hg, (hS.sb rfl rfl rfl)⟩
       ·replace hg := br_f hg (by rw [hs53]; exact Bool.false_ne_true)
        apply wp_region_lit
        refine qq hS rfl (y_boxField (o' := 1) hS rfl Try.underlying64 rfl rfl rfl) fun a hS => ?_
        refine qq hS rfl (y_loadBox1 (kk := 1000) hS rfl rfl rfl Try.underlying3 rfl) fun a hS => ?_
        refine qq hS rfl (y_boxField (o' := 0) hS rfl Try.underlying64 rfl rfl rfl) fun a hS => ?_
        refine qq hS rfl (y_loadBox1 (kk := 1000) hS rfl rfl rfl Try.underlying9 rfl) fun a hS => ?_
        refine qq hS rfl (y_lenStrN hS rfl Try.underlying9) fun a hS => ?_
        refine qq hS rfl (yl_b (y_lss hS rfl rfl) hs48e) fun a hS => ?_
        refine qq hS rfl (y_move hS rfl) fun a hS => ?_
        refine gy hS rfl (y_boxField (o' := 0) hS rfl Try.underlying64 rfl rfl rfl) fun a hS => ?_
        refine gy hS rfl (y_loadBox1 (kk := 1000) hS rfl rfl rfl Try.underlying9 rfl) fun a hS => ?_
        refine gy hS rfl (y_boxField (o' := 1) hS rfl Try.underlying64 rfl rfl rfl) fun a hS => ?_
        refine gy hS rfl (y_loadBox1 (kk := 1000) hS rfl rfl rfl Try.underlying3 rfl) fun a hS => ?_
        refine gy hS rfl (y_indexN (i := ((b_45).toNat)) hS rfl rfl Try.underlying9 (ix_some hc49).2.1 (ix_some hc49).1) fun a hS => ?_
        refine gl hS rfl (l_call (cap := []) hS rfl Try.func57 rfl (by kernel_rfl) rfl rfl (c_r39_between n _ _ hS.lt c49 (48 : UInt8) (57 : UInt8) r50 hr50) ?_); clear hS a; intro v60 a w hK hp hS
        clear hK
        obtain rfl := hp.trans (congrArg Value.bool hs53)
        refine qq hS rfl (y_pick_t hS rfl rfl) fun a hS => ?_
        refine qq hS rfl (y_move hS rfl) fun a hS => ?_
        refine gn hS rfl fun a hS => ?_
        refine gn hS rfl fun a hS => ?_
        refine gn hS rfl fun a hS => ?_
        refine gn hS rfl fun a hS => ?_
        refine gn hS rfl fun a hS => ?_
        refine gn hS rfl fun a hS => ?_
        refine gn hS rfl fun a hS => ?_
        refine gn hS rfl fun a hS => ?_
        refine gn hS rfl fun a hS => ?_
        refine gn hS rfl fun a hS => ?_
        refine gn hS rfl fun a hS => ?_
        refine qq hS rfl (y_pick_f hS rfl rfl) fun a hS => ?_
        apply wN
        exact ⟨(false), hg, (hS.sb rfl rfl rfl)⟩
      ·have hs48e : decide (b_45 < (((t_.s_).length : Nat) : Int)) = false := decide_eq_false hs48
       replace hg := br_f hg hs48
       apply wp_region_lit
       refine qq hS rfl (y_boxField (o' := 1) hS rfl Try.underlying64 rfl rfl rfl) fun a hS => ?_
       refine qq hS rfl (y_loadBox1 (kk := 1000) hS rfl rfl rfl Try.underlying3 rfl) fun a hS => ?_
       refine qq hS rfl (y_boxField (o' := 0) hS rfl Try.underlying64 rfl rfl rfl) fun a hS => ?_
       refine qq hS rfl (y_loadBox1 (kk := 1000) hS rfl rfl rfl Try.underlying9 rfl) fun a hS => ?_
       refine qq hS rfl (y_lenStrN hS rfl Try.underlying9) fun a hS => ?_
       refine qq hS rfl (yl_b (y_lss hS rfl rfl) hs48e) fun a hS => ?_
       refine qq hS rfl (y_move hS rfl) fun a hS => ?_
       refine gn hS rfl fun a hS => ?_
       refine gn hS rfl fun a hS => ?_
       refine gn hS rfl fun a hS => ?_
       refine gn hS rfl fun a hS => ?_
       refine gn hS rfl fun a hS => ?_
       refine gn hS rfl fun a hS => ?_
       refine qq hS rfl (y_pick_f hS rfl rfl) fun a hS => ?_
       refine qq hS rfl (y_move hS rfl) fun a hS => ?_
       refine gn hS rfl fun a hS => ?_
       refine gn hS rfl fun a hS => ?_
       refine gn hS rfl fun a hS => ?_
       refine gn hS rfl fun a hS => ?_
       refine gn hS rfl fun a hS => ?_
       refine gn hS rfl fun a hS => ?_
       refine gn hS rfl fun a hS => ?_
       refine gn hS rfl fun a hS => ?_
       refine gn hS rfl fun a hS => ?_
       refine gn hS rfl fun a hS => ?_
       refine gn hS rfl fun a hS => ?_
       refine qq hS rfl (y_pick_f hS rfl rfl) fun a hS => ?_
       apply wN
       exact ⟨(false), hg, (hS.sb rfl rfl rfl)⟩
     clear hS a; rintro a w ⟨t_47, hg, hS⟩
     subst hk46
     refine c_cond hS rfl (fun hc62 => ?_) (fun hc62 => ?_)
     ·replace hg := br_t hg hc62
      apply wp_skip
      refine p_norm ?_
      apply wp_block
      obtain ⟨hk63, hg⟩ := chk_some hg
      apply wp_region_lit
      refine qq hS rfl (y_boxField (o' := 1) hS rfl Try.underlying64 rfl rfl rfl) fun a hS => ?_
      refine qq hS rfl (y_loadBox1 (kk := 1000) hS rfl rfl rfl Try.underlying3 rfl) fun a hS => ?_
      refine qq hS rfl (y_add hS rfl rfl (in64.2 hk63)) fun a hS => ?_
      refine qq hS rfl (y_boxField (o' := 1) hS rfl Try.underlying64 rfl rfl rfl) fun a hS => ?_
      refine l_seq rfl (l_store (n := 1) (cs' := [.string (bs (t_.s_)), .int .i64 (b_45 + 1), .int .i64 (t_.e_), .slice (Ap04) ((t_.sorts_).length) (cp04), .slice (Ap05) ((t_.texts_).length) (cp05)]) hS 1000 rfl rfl rfl rfl rfl rfl rfl rfl ?_); clear hS; intro w hK hS; clear hK
      apply wpList_nil
      refine p_inN ?_
      refine p_norm ?_
      exact ⟨m1, Nat.lt_succ_self _, ⟨(b_45 + 1), hg, (hS.sb rfl rfl rfl)⟩⟩
     ·replace hg := br_f hg (by rw [hc62]; exact Bool.false_ne_true)
      apply wp_exit
      refine p_then ?_
      refine p_then ?_
      refine p_in ?_
      refine p_norm ?_
      exact ⟨(b_45), hg, (hS.sb rfl rfl rfl)⟩
    clear hS a; rintro a w ⟨b_44, hg, hS⟩
    subst hk43
    apply wp_seq
    obtain ⟨hk65, hg⟩ := chk_some hg
    apply wp_region_lit
    refine qq hS rfl (y_boxField (o' := 3) hS rfl Try.underlying64 rfl rfl rfl) fun a hS => ?_
    refine qq hS rfl (y_loadBox1 (kk := 1000) hS rfl rfl rfl Try.underlying22 rfl) fun a hS => ?_
    refine qq hS rfl (y_move hS rfl) fun a hS => ?_
    refine l_seq rfl (l_buildDense (sz := 1) hS 2203 rfl rfl rfl Try.underlying22 rfl rfl rfl rfl rfl rfl rfl ?_); clear hS a; intro b68 a w hbb68 hK hS
    clear hbb68 hK
    replace hS := hS.add 111 (rdF Rep.str (cellsOfL [.string (bs (((t_.s_).drop ((t_.at_).toNat)).take ((t_.at_ + 1).toNat - ((t_.at_).toNat))))]) ([((t_.s_).drop ((t_.at_).toNat)).take ((t_.at_ + 1).toNat - ((t_.at_).toNat))])) (RdAll.cons (by exact ⟨rfl, (by first | omega | (rw [List.length_append]; omega) | (simp only [List.length_append]; omega) | (simp only [List.length_append, List.length_take, List.length_drop, List.length_cons, List.length_nil]; omega))⟩) (RdAll.nil _ _ _))
    have hs70 := row_src (hS.wd.holds 2203 _ rfl) (RdAll.one (hS.fact (k := 111) rfl))
    refine l_seq rfl (l_append (sz := 1) (by_ := 16) (N := (t_.sorts_ ++ [((t_.s_).drop ((t_.at_).toNat)).take ((t_.at_ + 1).toNat - ((t_.at_).toNat))]).length) (ys := csp03 ++ (cellsOfL [.string (bs (((t_.s_).drop ((t_.at_).toNat)).take ((t_.at_ + 1).toNat - ((t_.at_).toNat))))])) hS 9200003 rfl rfl rfl Try.underlying22 rfl rfl rfl rfl rfl hs70 (by simp) rfl (by have hr := hk65; clear hg; first | omega | (simp only [List.length_append, List.length_cons, List.length_nil] at hr ⊢; omega) | (simp at hr ⊢; omega)) (by have hr := hk65; clear hg; first | omega | (simp only [List.length_append, List.length_cons, List.length_nil] at hr ⊢; omega) | (simp at hr ⊢; omega)) rfl ?_); clear hS a; intro Aq69 cq69 a w hA hK hS
    clear hK hA
    replace hS := hS.add 112 (rdF Rep.str (csp03 ++ (cellsOfL [.string (bs (((t_.s_).drop ((t_.at_).toNat)).take ((t_.at_ + 1).toNat - ((t_.at_).toNat))))])) (t_.sorts_ ++ [((t_.s_).drop ((t_.at_).toNat)).take ((t_.at_ + 1).toNat - ((t_.at_).toNat))])) (RdAll.append (hS.fact (k := 9300003) rfl) (hS.fact (k := 111) rfl))
    refine qq hS rfl (y_boxField (o' := 3) hS rfl Try.underlying64 rfl rfl rfl) fun a hS => ?_
    refine l_seq rfl (l_store (n := 1) (cs' := [.string (bs (t_.s_)), .int .i64 (b_44), .int .i64 (t_.e_), .slice (Aq69) ((t_.sorts_ ++ [((t_.s_).drop ((t_.at_).toNat)).take ((t_.at_ + 1).toNat - ((t_.at_).toNat))]).length) (cq69), .slice (Ap05) ((t_.texts_).length) (cp05)]) hS 1000 rfl rfl rfl rfl rfl rfl rfl rfl ?_); clear hS; intro w hK hS; clear hK
    apply wN
    apply wp_seq
    obtain ⟨hk71, hg⟩ := chk_some hg
    obtain ⟨hk72, hg⟩ := chk_some hg
    obtain ⟨hk74, hg⟩ := chk_some hg
    refine d_plan hS [(9, 9200004), (11, 1000)] [(0, some 0), (1, some 1000), (2, some 0), (3, some 1000), (4, some 0), (5, some 0), (6, some 1000), (7, some 0), (8, none), (9, none), (10, none), (11, none)] rfl (by kernel_rfl) (by kernel_rfl) rfl ?_; clear hS; intro wr hZ hS; have hR := hS.wd
    refine q_take hS hR rfl rfl rfl rfl (y_boxField (o' := 4) hS rfl Try.underlying64 rfl rfl rfl) fun a hS => ?_
    refine q_take hS hR rfl rfl rfl rfl (y_loadBox1 (kk := 1000) hS rfl rfl rfl Try.underlying22 rfl) fun a hS => ?_
    refine q_take hS hR rfl rfl rfl rfl (y_boxField (o' := 0) hS rfl Try.underlying64 rfl rfl rfl) fun a hS => ?_
    refine q_take hS hR rfl rfl rfl rfl (y_loadBox1 (kk := 1000) hS rfl rfl rfl Try.underlying9 rfl) fun a hS => ?_
    refine q_take hS hR rfl rfl rfl rfl (y_move hS rfl) fun a hS => ?_
    refine q_take hS hR rfl rfl rfl rfl (y_boxField (o' := 1) hS rfl Try.underlying64 rfl rfl rfl) fun a hS => ?_
    refine q_take hS hR rfl rfl rfl rfl (y_loadBox1 (kk := 1000) hS rfl rfl rfl Try.underlying3 rfl) fun a hS => ?_
    refine q_take hS hR rfl rfl rfl rfl (y_strLH (i := ((t_.at_ + 1).toNat)) (j := ((b_44).toNat)) hS rfl rfl rfl Try.underlying9 (by omega) (by omega) hk72.1 hk72.2) fun a hS => ?_
    refine l_take hS rfl rfl (l_buildDense (sz := 1) hS 2308 rfl rfl rfl Try.underlying22 rfl rfl rfl rfl rfl rfl rfl ?_); clear hS a; intro b77 a w hbb77 hK hS
    have hNb77 := NewA.lit hZ hbb77
    clear hbb77
    replace hZ := Nat.le_trans hZ hK.size; refine ⟨fun g _ h => h.grow hK, ?_⟩; clear hK
    replace hS := hS.add 115 (rdF Rep.str (cellsOfL [.string (bs (((t_.s_).drop ((t_.at_ + 1).toNat)).take ((b_44).toNat - ((t_.at_ + 1).toNat))))]) ([((t_.s_).drop ((t_.at_ + 1).toNat)).take ((b_44).toNat - ((t_.at_ + 1).toNat))])) (RdAll.cons (by exact ⟨rfl, (by first | omega | (rw [List.length_append]; omega) | (simp only [List.length_append]; omega) | (simp only [List.length_append, List.length_take, List.length_drop, List.length_cons, List.length_nil]; omega))⟩) (RdAll.nil _ _ _))
    have hs79 := row_src (hS.wd.holds 2308 _ rfl) (RdAll.one (hS.fact (k := 115) rfl))
    refine l_take hS rfl rfl (l_append (sz := 1) (by_ := 16) (N := (t_.texts_ ++ [((t_.s_).drop ((t_.at_ + 1).toNat)).take ((b_44).toNat - ((t_.at_ + 1).toNat))]).length) (ys := csp04 ++ (cellsOfL [.string (bs (((t_.s_).drop ((t_.at_ + 1).toNat)).take ((b_44).toNat - ((t_.at_ + 1).toNat))))])) hS 9200004 rfl rfl rfl Try.underlying22 rfl rfl rfl rfl rfl hs79 (by simp) rfl (by have hr := hk74; clear hg; first | omega | (simp only [List.length_append, List.length_cons, List.length_nil] at hr ⊢; omega) | (simp at hr ⊢; omega)) (by have hr := hk74; clear hg; first | omega | (simp only [List.length_append, List.length_cons, List.length_nil] at hr ⊢; omega) | (simp at hr ⊢; omega)) rfl ?_); clear hS a; intro Aq78 cq78 a w hA hK hS
    replace hZ := Nat.le_trans hZ hK.size; refine ⟨fun g hg h => h.obj hR (kk := 9200004) rfl hK (by rintro rfl; exact absurd hg (by decide)), ?_⟩
    clear hK hA
    replace hS := hS.add 116 (rdF Rep.str (csp04 ++ (cellsOfL [.string (bs (((t_.s_).drop ((t_.at_ + 1).toNat)).take ((b_44).toNat - ((t_.at_ + 1).toNat))))])) (t_.texts_ ++ [((t_.s_).drop ((t_.at_ + 1).toNat)).take ((b_44).toNat - ((t_.at_ + 1).toNat))])) (RdAll.append (hS.fact (k := 9300004) rfl) (hS.fact (k := 115) rfl))
    refine l_take hS rfl rfl (l_quiet hS rfl rfl (y_boxField (o' := 4) hS rfl Try.underlying64 rfl rfl rfl) fun a hS => ?_); refine ⟨fun g _ h => h, ?_⟩
    refine l_take hS rfl rfl (l_store (n := 1) (cs' := [.string (bs (t_.s_)), .int .i64 (b_44), .int .i64 (t_.e_), .slice (Aq69) ((t_.sorts_ ++ [((t_.s_).drop ((t_.at_).toNat)).take ((t_.at_ + 1).toNat - ((t_.at_).toNat))]).length) (cq69), .slice (Aq78) ((t_.texts_ ++ [((t_.s_).drop ((t_.at_ + 1).toNat)).take ((b_44).toNat - ((t_.at_ + 1).toNat))]).length) (cq78)]) hS 1000 rfl rfl rfl rfl rfl rfl rfl rfl ?_); clear hS; intro w hK hS; replace hZ := Nat.le_trans hZ hK.size
    refine ⟨fun g hg h => h.obj hR (kk := 1000) rfl hK (by rintro rfl; exact absurd hg (by decide)), ?_⟩; clear hK
    clear hR hZ
    refine p_norm ?_
    apply wp_seq
    refine d_plan hS [(5, 1001)] [(0, some 1000), (1, some 0), (2, some 1000), (3, some 0), (4, some 0), (5, none), (6, none)] rfl (by kernel_rfl) (by kernel_rfl) rfl ?_; clear hS; intro wr hZ hS; have hR := hS.wd
    refine q_take hS hR rfl rfl rfl rfl (y_loadBox (kk := 1000) (n := 5) (vs := [.string (bs (t_.s_)), .int .i64 (b_44), .int .i64 (t_.e_), .slice (Aq69) ((t_.sorts_ ++ [((t_.s_).drop ((t_.at_).toNat)).take ((t_.at_ + 1).toNat - ((t_.at_).toNat))]).length) (cq69), .slice (Aq78) ((t_.texts_ ++ [((t_.s_).drop ((t_.at_ + 1).toNat)).take ((b_44).toNat - ((t_.at_ + 1).toNat))]).length) (cq78)]) hS rfl rfl Try.underlying64 rfl rfl rfl rfl) fun a hS => ?_
    refine q_take hS hR rfl rfl rfl rfl (y_boxField (o' := 4) hS rfl Try.underlying64 rfl rfl rfl) fun a hS => ?_
    refine q_take hS hR rfl rfl rfl rfl (y_loadBox1 (kk := 1000) hS rfl rfl rfl Try.underlying22 rfl) fun a hS => ?_
    refine q_take hS hR rfl rfl rfl rfl (y_lenSlice hS rfl Try.underlying22) fun a hS => ?_
    have hmx80 := row_mx (hS.wd.holds 9200004 _ rfl)
    refine q_take hS hR rfl rfl rfl rfl (y_sub hS rfl rfl (in64.2 (by omega))) fun a hS => ?_
    refine l_take hS rfl rfl (l_store (n := 5) (cs' := [.string (bs (t_.s_)), .int .i64 (b_44), .int .i64 (t_.e_), .slice (Aq69) ((t_.sorts_ ++ [((t_.s_).drop ((t_.at_).toNat)).take ((t_.at_ + 1).toNat - ((t_.at_).toNat))]).length) (cq69), .slice (Aq78) ((t_.texts_ ++ [((t_.s_).drop ((t_.at_ + 1).toNat)).take ((b_44).toNat - ((t_.at_ + 1).toNat))]).length) (cq78)]) hS 1001 rfl rfl rfl rfl rfl rfl rfl rfl ?_); clear hS; intro w hK hS; replace hZ := Nat.le_trans hZ hK.size
    refine ⟨fun g hg h => h.obj hR (kk := 1001) rfl hK (by rintro rfl; exact absurd hg (by decide)), ?_⟩; clear hK
    refine l_take hS rfl rfl (l_quiet hS rfl rfl (y_assign hS rfl) fun a hS => ?_); refine ⟨fun g _ h => h, ?_⟩
    clear hR hZ
    refine p_norm ?_
    apply wp_ret
    replace hS := hS.add 9300003 (rdF Rep.str (csp03 ++ (cellsOfL [.string (bs (((t_.s_).drop ((t_.at_).toNat)).take ((t_.at_ + 1).toNat - ((t_.at_).toNat))))])) (t_.sorts_ ++ [((t_.s_).drop ((t_.at_).toNat)).take ((t_.at_ + 1).toNat - ((t_.at_).toNat))])) (hS.fact (k := 112) rfl)
    replace hS := hS.add 9300004 (rdF Rep.str (csp04 ++ (cellsOfL [.string (bs (((t_.s_).drop ((t_.at_ + 1).toNat)).take ((b_44).toNat - ((t_.at_ + 1).toNat))))])) (t_.texts_ ++ [((t_.s_).drop ((t_.at_ + 1).toNat)).take ((b_44).toNat - ((t_.at_ + 1).toNat))])) (hS.fact (k := 116) rfl)
    obtain rfl := Option.some.inj hg
    refine fin2 (fn := Try.f35) hS rfl (r_cell (kk := 1001) (n := 5) (vs := [.string (bs (t_.s_)), .int .i64 (b_44), .int .i64 (t_.e_), .slice (Aq69) ((t_.sorts_ ++ [((t_.s_).drop ((t_.at_).toNat)).take ((t_.at_ + 1).toNat - ((t_.at_).toNat))]).length) (cq69), .slice (Aq78) ((t_.texts_ ++ [((t_.s_).drop ((t_.at_ + 1).toNat)).take ((b_44).toNat - ((t_.at_ + 1).toNat))]).length) (cq78)]) hS rfl rfl Try.underlying64 rfl rfl rfl rfl) (r_tmp hS rfl) ?_
    exact ⟨(Aq69), (cq69), (csp03 ++ (cellsOfL [.string (bs (((t_.s_).drop ((t_.at_).toNat)).take ((t_.at_ + 1).toNat - ((t_.at_).toNat))))])), (Aq78), (cq78), (csp04 ++ (cellsOfL [.string (bs (((t_.s_).drop ((t_.at_ + 1).toNat)).take ((b_44).toNat - ((t_.at_ + 1).toNat))))])), rfl, (by omega), ((hS.ren [(9200003, Ob.row (Aq69) ((t_.sorts_ ++ [((t_.s_).drop ((t_.at_).toNat)).take ((t_.at_ + 1).toNat - ((t_.at_).toNat))]).length) (cq69) 9 1 (csp03 ++ (cellsOfL [.string (bs (((t_.s_).drop ((t_.at_).toNat)).take ((t_.at_ + 1).toNat - ((t_.at_).toNat))))]))), (9200004, Ob.row (Aq78) ((t_.texts_ ++ [((t_.s_).drop ((t_.at_ + 1).toNat)).take ((b_44).toNat - ((t_.at_ + 1).toNat))]).length) (cq78) 9 1 (csp04 ++ (cellsOfL [.string (bs (((t_.s_).drop ((t_.at_ + 1).toNat)).take ((b_44).toNat - ((t_.at_ + 1).toNat))))])))] [9200003, 9200004] ⟨rfl, rfl, trivial⟩ (by decide)).outL ⟨rfl, rfl, trivial⟩ ⟨rfl, rfl, trivial⟩)⟩
set_option maxHeartbeats 400000 in
theorem c_r39_word (n : Nat) (M : Bs) (w0 : World) (hM : ∀ b, M b → b < w0.heap.size) (C : Bs) (r_ : reader) (Ap04 : Option Addr) (cp04 : Nat) (Ap05 : Option Addr) (cp05 : Nat) (csp03 : List Value) (csp04 : List Value) (lp01 : (r_.s_).length ≤ 9223372036854775807) (w_ : (List UInt8)) (lp11 : (w_).length ≤ 9223372036854775807) (hW : Wd ⟨0, M, C, w0⟩ [(9200003, Ob.row (Ap04) ((r_.sorts_).length) (cp04) 9 1 (csp03)), (9200004, Ob.row (Ap05) ((r_.texts_).length) (cp05) 9 1 (csp04))] [(9300003, rdF Rep.str (csp03) (r_.sorts_)), (9300004, rdF Rep.str (csp04) (r_.texts_))] w0) (r : reader) (hg : r39_word n r_ w_ = some r) :
    Calls Try.prog 36 [.agg #[.string (bs (r_.s_)), .int .i64 (r_.at_), .int .i64 (r_.e_), .slice (Ap04) ((r_.sorts_).length) (cp04), .slice (Ap05) ((r_.texts_).length) (cp05)], .string (bs (w_))].toArray w0 (Ret C w0 fun v w => ∃ (Am04 : Option Addr), ∃ (cm04 : Nat), ∃ (csm0_3 : List Value), ∃ (Am05 : Option Addr), ∃ (cm05 : Nat), ∃ (csm0_4 : List Value), v = .agg #[.string (bs (r.s_)), .int .i64 (r.at_), .int .i64 (r.e_), .slice (Am04) ((r.sorts_).length) (cm04), .slice (Am05) ((r.texts_).length) (cm05)] ∧ ((r.s_).length ≤ 9223372036854775807) ∧ (Wd ⟨0, M, C, w0⟩ [(9200003, Ob.row (Am04) ((r.sorts_).length) (cm04) 9 1 (csm0_3)), (9200004, Ob.row (Am05) ((r.texts_).length) (cm05) 9 1 (csm0_4))] [(9300003, rdF Rep.str (csm0_3) (r.sorts_)), (9300004, rdF Rep.str (csm0_4) (r.texts_))] w)) := by
 unfold r39_word at hg
 refine enterL M C Try.func36 rfl rfl hW ?_
 intro a hS
 apply wR
 refine l_seq rfl (l_box (zs := [.string (bs (r_.s_)), .int .i64 (r_.at_), .int .i64 (r_.e_), .slice (Ap04) ((r_.sorts_).length) (cp04), .slice (Ap05) ((r_.texts_).length) (cp05)]) hS 1000 rfl rfl rfl rfl ?_); clear hS a; intro b3 a w hb hK hS
 clear hb hK
 refine l_seq rfl (l_alloc (zs := [.string (bs ([])), .int .i64 (0), .int .i64 (0), .slice (none) (0) (0), .slice (none) (0) (0)]) hS 1001 rfl rfl rfl rfl ?_); clear hS a; intro b4 a w hb hK hS
 clear hb hK
 apply wN
 apply wp_seq
 apply wR
 refine qq hS rfl (y_assign hS rfl) fun a hS => ?_
 apply wN
 obtain ⟨k5, hg, hk5⟩ := jn_some hg
 refine c_post (fun a w => ∃ (r_6 : Int), k5 r_6 = some r ∧ St (⟨Try.f36.ntmps, M, C, w0⟩ : Ctx) [(2, .pointer (some ⟨b3, 0, none⟩)), (4, .pointer (some ⟨b4, 0, none⟩))] [(1000, Ob.box b3 [.string (bs (r_.s_)), .int .i64 (r_6), .int .i64 (r_.e_), .slice (Ap04) ((r_.sorts_).length) (cp04), .slice (Ap05) ((r_.texts_).length) (cp05)] 64), (1001, Ob.box b4 [.string (bs ([])), .int .i64 (0), .int .i64 (0), .slice (none) (0) (0), .slice (none) (0) (0)] 64), (9200003, Ob.row (Ap04) ((r_.sorts_).length) (cp04) 9 1 (csp03)), (9200004, Ob.row (Ap05) ((r_.texts_).length) (cp05) 9 1 (csp04))] [(9300003, rdF Rep.str (csp03) (r_.sorts_)), (9300004, rdF Rep.str (csp04) (r_.texts_))] a w) ?_ ?_
 ·apply wp_block
  refine c_loop (σ := Nat) (fun m1 a w => ∃ (i_7 : Nat), ∃ (r_8 : Int), r39_word_L0 n r_ w_ k5 m1 i_7 r_8 = some r ∧ St (⟨Try.f36.ntmps, M, C, w0⟩ : Ctx) [(1, .string (bs (w_))), (2, .pointer (some ⟨b3, 0, none⟩)), (4, .pointer (some ⟨b4, 0, none⟩)), (5, .int .i64 (((i_7 : Nat) : Int)))] [(1000, Ob.box b3 [.string (bs (r_.s_)), .int .i64 (r_8), .int .i64 (r_.e_), .slice (Ap04) ((r_.sorts_).length) (cp04), .slice (Ap05) ((r_.texts_).length) (cp05)] 64), (1001, Ob.box b4 [.string (bs ([])), .int .i64 (0), .int .i64 (0), .slice (none) (0) (0), .slice (none) (0) (0)] 64), (9200003, Ob.row (Ap04) ((r_.sorts_).length) (cp04) 9 1 (csp03)), (9200004, Ob.row (Ap05) ((r_.texts_).length) (cp05) 9 1 (csp04))] [(9300003, rdF Rep.str (csp03) (r_.sorts_)), (9300004, rdF Rep.str (csp04) (r_.texts_))] a w) (fun m1 => m1) n ⟨(0), (r_.at_), hg, (hS.sb rfl rfl rfl)⟩ ?_
  clear hS a; rintro m1 a w ⟨i_7, r_8, hg, hS⟩
  rcases m1 with _ | m1
  ·rw [r39_word_L0] at hg; cases hg
  rw [r39_word_L0] at hg
  apply wp_seq
  apply wp_seq
  obtain ⟨k9, hg, hk9⟩ := jn_some hg
  refine c_post (fun a w => ∃ (t_10 : Bool), k9 t_10 = some r ∧ St (⟨Try.f36.ntmps, M, C, w0⟩ : Ctx) [(1, .string (bs (w_))), (2, .pointer (some ⟨b3, 0, none⟩)), (4, .pointer (some ⟨b4, 0, none⟩)), (5, .int .i64 (((i_7 : Nat) : Int))), (14, .bool (t_10))] [(1000, Ob.box b3 [.string (bs (r_.s_)), .int .i64 (r_8), .int .i64 (r_.e_), .slice (Ap04) ((r_.sorts_).length) (cp04), .slice (Ap05) ((r_.texts_).length) (cp05)] 64), (1001, Ob.box b4 [.string (bs ([])), .int .i64 (0), .int .i64 (0), .slice (none) (0) (0), .slice (none) (0) (0)] 64), (9200003, Ob.row (Ap04) ((r_.sorts_).length) (cp04) 9 1 (csp03)), (9200004, Ob.row (Ap05) ((r_.texts_).length) (cp05) 9 1 (csp04))] [(9300003, rdF Rep.str (csp03) (r_.sorts_)), (9300004, rdF Rep.str (csp04) (r_.texts_))] a w) ?_ ?_
  ·rcases Decidable.em (i_7 < ((w_).length)) with hs11 | hs11
   ·have hs11e : decide (i_7 < ((w_).length)) = true := decide_eq_true hs11
    replace hg := br_t hg hs11
    apply wp_region_lit
    refine qq hS rfl (y_move hS rfl) fun a hS => ?_
    refine qq hS rfl (y_move hS rfl) fun a hS => ?_
    refine qq hS rfl (y_lenStrN hS rfl Try.underlying9) fun a hS => ?_
    refine qq hS rfl (yl_b (y_lssN (i := i_7) (j := ((w_).length)) hS rfl rfl) hs11e) fun a hS => ?_
    refine qq hS rfl (y_move hS rfl) fun a hS => ?_
    refine gy hS rfl (y_boxField (o' := 2) hS rfl Try.underlying64 rfl rfl rfl) fun a hS => ?_
    refine gy hS rfl (y_loadBox1 (kk := 1000) hS rfl rfl rfl Try.underlying30 rfl) fun a hS => ?_
    refine gy hS rfl (y_eql hS rfl rfl) fun a hS => ?_
    refine qq hS rfl (y_pick_t hS rfl rfl) fun a hS => ?_
    apply wN
    exact ⟨(decide (r_.e_ = 0)), hg, (hS.sb rfl rfl rfl)⟩
   ·have hs11e : decide (i_7 < ((w_).length)) = false := decide_eq_false hs11
    replace hg := br_f hg hs11
    apply wp_region_lit
    refine qq hS rfl (y_move hS rfl) fun a hS => ?_
    refine qq hS rfl (y_move hS rfl) fun a hS => ?_
    refine qq hS rfl (y_lenStrN hS rfl Try.underlying9) fun a hS => ?_
    refine qq hS rfl (yl_b (y_lssN (i := i_7) (j := ((w_).length)) hS rfl rfl) hs11e) fun a hS => ?_
    refine qq hS rfl (y_move hS rfl) fun a hS => ?_
    refine gn hS rfl fun a hS => ?_
    refine gn hS rfl fun a hS => ?_
    refine gn hS rfl fun a hS => ?_
    refine qq hS rfl (y_pick_f hS rfl rfl) fun a hS => ?_
    apply wN
    exact ⟨(false), hg, (hS.sb rfl rfl rfl)⟩
  clear hS a; rintro a w ⟨t_10, hg, hS⟩
  subst hk9
  refine c_cond hS rfl (fun hc12 => ?_) (fun hc12 => ?_)
  ·replace hg := br_t hg hc12
   apply wp_skip
   refine p_norm ?_
   apply wp_seq
   apply wp_block
   apply wp_seq
   apply wp_seq
   obtain ⟨k13, hg, hk13⟩ := jn_some hg
   refine c_post (fun a w => ∃ (t_14 : Bool), k13 t_14 = some r ∧ St (⟨Try.f36.ntmps, M, C, w0⟩ : Ctx) [(1, .string (bs (w_))), (2, .pointer (some ⟨b3, 0, none⟩)), (4, .pointer (some ⟨b4, 0, none⟩)), (5, .int .i64 (((i_7 : Nat) : Int))), (33, .bool (t_14))] [(1000, Ob.box b3 [.string (bs (r_.s_)), .int .i64 (r_8), .int .i64 (r_.e_), .slice (Ap04) ((r_.sorts_).length) (cp04), .slice (Ap05) ((r_.texts_).length) (cp05)] 64), (1001, Ob.box b4 [.string (bs ([])), .int .i64 (0), .int .i64 (0), .slice (none) (0) (0), .slice (none) (0) (0)] 64), (9200003, Ob.row (Ap04) ((r_.sorts_).length) (cp04) 9 1 (csp03)), (9200004, Ob.row (Ap05) ((r_.texts_).length) (cp05) 9 1 (csp04))] [(9300003, rdF Rep.str (csp03) (r_.sorts_)), (9300004, rdF Rep.str (csp04) (r_.texts_))] a w) ?_ ?_
   ·rcases Decidable.em ((((r_.s_).length : Nat) : Int) ≤ r_8) with hs15 | hs15
    ·have hs15e : decide ((((r_.s_).length : Nat) : Int) ≤ r_8) = true := decide_eq_true hs15
     replace hg := br_t hg hs15
     refine d_plan hS [] [(0, some 0), (1, some 1000), (2, some 0), (3, some 1000), (4, some 0), (5, some 0), (6, some 0), (7, some 0), (8, some 0), (9, some 0), (10, some 0), (11, some 0), (12, some 0), (13, some 0), (14, some 0), (15, some 0), (16, some 0)] rfl (by kernel_rfl) (by kernel_rfl) rfl ?_; clear hS; intro wr hZ hS; have hR := hS.wd
     refine q_take hS hR rfl rfl rfl rfl (y_boxField (o' := 1) hS rfl Try.underlying64 rfl rfl rfl) fun a hS => ?_
     refine q_take hS hR rfl rfl rfl rfl (y_loadBox1 (kk := 1000) hS rfl rfl rfl Try.underlying3 rfl) fun a hS => ?_
     refine q_take hS hR rfl rfl rfl rfl (y_boxField (o' := 0) hS rfl Try.underlying64 rfl rfl rfl) fun a hS => ?_
     refine q_take hS hR rfl rfl rfl rfl (y_loadBox1 (kk := 1000) hS rfl rfl rfl Try.underlying9 rfl) fun a hS => ?_
     refine q_take hS hR rfl rfl rfl rfl (y_lenStrN hS rfl Try.underlying9) fun a hS => ?_
     refine q_take hS hR rfl rfl rfl rfl (yl_b (y_geq hS rfl rfl) hs15e) fun a hS => ?_
     refine q_take hS hR rfl rfl rfl rfl (y_move hS rfl) fun a hS => ?_
     refine q_pass hS hR rfl rfl ⟨_, _, _, rfl, rfl, rfl, rfl⟩ rfl fun a hS => ?_
     refine q_pass hS hR rfl rfl ⟨_, _, _, rfl, rfl, rfl, rfl⟩ rfl fun a hS => ?_
     refine q_pass hS hR rfl rfl ⟨_, _, _, rfl, rfl, rfl, rfl⟩ rfl fun a hS => ?_
     refine q_pass hS hR rfl rfl ⟨_, _, _, rfl, rfl, rfl, rfl⟩ rfl fun a hS => ?_
     refine q_pass hS hR rfl rfl ⟨_, _, _, rfl, rfl, rfl, rfl⟩ rfl fun a hS => ?_
     refine q_pass hS hR rfl rfl ⟨_, _, _, rfl, rfl, rfl, rfl⟩ rfl fun a hS => ?_
     refine q_pass hS hR rfl rfl ⟨_, _, _, rfl, rfl, rfl, rfl⟩ rfl fun a hS => ?_
     refine q_pass hS hR rfl rfl ⟨_, _, _, rfl, rfl, rfl, rfl⟩ rfl fun a hS => ?_
     refine q_pass hS hR rfl rfl ⟨_, _, _, rfl, rfl, rfl, rfl⟩ rfl fun a hS => ?_
     refine q_take hS hR rfl rfl rfl rfl (y_pick_t hS rfl rfl) fun a hS => ?_
     clear hR hZ
     refine p_norm ?_
     exact ⟨(true), hg, (hS.sb rfl rfl rfl)⟩
    ·have hs15e : decide ((((r_.s_).length : Nat) : Int) ≤ r_8) = false := decide_eq_false hs15
     replace hg := br_f hg hs15
     obtain ⟨c16, hc16, hg⟩ := bind_some hg
     obtain ⟨c17, hc17, hg⟩ := bind_some hg
     refine d_plan hS [] [(0, some 0), (1, some 1000), (2, some 0), (3, some 1000), (4, some 0), (5, some 0), (6, some 0), (7, some 0), (8, some 1000), (9, some 0), (10, some 1000), (11, some 0), (12, some 0), (13, some 0), (14, some 0), (15, some 0), (16, some 0)] rfl (by kernel_rfl) (by kernel_rfl) rfl ?_; clear hS; intro wr hZ hS; have hR := hS.wd
     refine q_take hS hR rfl rfl rfl rfl (y_boxField (o' := 1) hS rfl Try.underlying64 rfl rfl rfl) fun a hS => ?_
     refine q_take hS hR rfl rfl rfl rfl (y_loadBox1 (kk := 1000) hS rfl rfl rfl Try.underlying3 rfl) fun a hS => ?_
     refine q_take hS hR rfl rfl rfl rfl (y_boxField (o' := 0) hS rfl Try.underlying64 rfl rfl rfl) fun a hS => ?_
     refine q_take hS hR rfl rfl rfl rfl (y_loadBox1 (kk := 1000) hS rfl rfl rfl Try.underlying9 rfl) fun a hS => ?_
     refine q_take hS hR rfl rfl rfl rfl (y_lenStrN hS rfl Try.underlying9) fun a hS => ?_
     refine q_take hS hR rfl rfl rfl rfl (yl_b (y_geq hS rfl rfl) hs15e) fun a hS => ?_
     refine q_take hS hR rfl rfl rfl rfl (y_move hS rfl) fun a hS => ?_
     refine q_take hS hR rfl rfl ⟨_, _, _, rfl, rfl, rfl, rfl⟩ rfl (y_boxField (o' := 0) hS rfl Try.underlying64 rfl rfl rfl) fun a hS => ?_
     refine q_take hS hR rfl rfl ⟨_, _, _, rfl, rfl, rfl, rfl⟩ rfl (y_loadBox1 (kk := 1000) hS rfl rfl rfl Try.underlying9 rfl) fun a hS => ?_
     refine q_take hS hR rfl rfl ⟨_, _, _, rfl, rfl, rfl, rfl⟩ rfl (y_boxField (o' := 1) hS rfl Try.underlying64 rfl rfl rfl) fun a hS => ?_
     refine q_take hS hR rfl rfl ⟨_, _, _, rfl, rfl, rfl, rfl⟩ rfl (y_loadBox1 (kk := 1000) hS rfl rfl rfl Try.underlying3 rfl) fun a hS => ?_
     refine q_take hS hR rfl rfl ⟨_, _, _, rfl, rfl, rfl, rfl⟩ rfl (y_indexN (i := ((r_8).toNat)) hS rfl rfl Try.underlying9 (ix_some hc16).2.1 (ix_some hc16).1) fun a hS => ?_
     refine q_take hS hR rfl rfl ⟨_, _, _, rfl, rfl, rfl, rfl⟩ rfl (y_move hS rfl) fun a hS => ?_
     refine q_take hS hR rfl rfl ⟨_, _, _, rfl, rfl, rfl, rfl⟩ rfl (y_move hS rfl) fun a hS => ?_
     refine q_take hS hR rfl rfl ⟨_, _, _, rfl, rfl, rfl, rfl⟩ rfl (y_indexN (i := i_7) hS rfl rfl Try.underlying9 rfl hc17) fun a hS => ?_
     refine q_take hS hR rfl rfl ⟨_, _, _, rfl, rfl, rfl, rfl⟩ rfl (y_neqN (i := c16.toNat) (j := c17.toNat) hS rfl rfl) fun a hS => ?_
     refine q_take hS hR rfl rfl rfl rfl (y_pick_f hS rfl rfl) fun a hS => ?_
     clear hR hZ
     refine p_norm ?_
     exact ⟨(decide (c16.toNat ≠ c17.toNat)), hg, (hS.sb rfl rfl rfl)⟩
   clear hS a; rintro a w ⟨t_14, hg, hS⟩
   subst hk13
   refine c_cond hS rfl (fun hc18 => ?_) (fun hc18 => ?_)
   ·replace hg := br_t hg hc18
    apply wp_seq
    obtain ⟨r19, hr19, hg⟩ := bind_some hg
    apply wp_region_lit
    refine qq hS rfl (y_loadBox (kk := 1000) (n := 5) (vs := [.string (bs (r_.s_)), .int .i64 (r_8), .int .i64 (r_.e_), .slice (Ap04) ((r_.sorts_).length) (cp04), .slice (Ap05) ((r_.texts_).length) (cp05)]) hS rfl rfl Try.underlying64 rfl rfl rfl rfl) fun a hS => ?_
    have hT := hS.pk [(1000, 1000), (1001, 1001), (9200003, 9200003), (9200004, 9200004)] (by decide)
    replace hT := hT.al 9300003 9300003 rfl
    replace hT := hT.al 9300004 9300004 rfl
    refine l_seq rfl (l_callMut (cap := []) hT _ [] (sbA (by rfl)) trivial (by rfl) rfl Try.func39 rfl (by kernel_rfl) rfl rfl (c_r39_fail n _ _ (hT.restLt [1000, 1001]) _ (reader.mk r_.s_ r_8 r_.e_ r_.sorts_ r_.texts_) (Ap04) (cp04) (Ap05) (cp05) (csp03) (csp04) (by omega) (hT.wd.lendL _ _ _ (sbA (by rfl)) (keep_sub [1000, 1001]) (by rfl) (sbA (by rfl))) r19 hr19) ?_); intro v22 a' w' hK hp hF
    obtain ⟨Am04u23, cm04u23, csm0_3u23, Am05u23, cm05u23, csm0_4u23, rfl, lm01u23, hWu23⟩ := hp
    have hS2 := St.mk hF (hT.wd.back (sbA (by rfl)) (keep_sub [1000, 1001]) (by rfl) hWu23 (by rfl))
    clear hS hT hF hWu23 hK; revert hS2; revert w'; revert a'; intro a w hS
    replace hS := hS.al 103 9300003 rfl
    replace hS := hS.al 104 9300004 rfl
    replace hS := hS.ren [(1000, Ob.box b3 [.string (bs (r_.s_)), .int .i64 (r_8), .int .i64 (r_.e_), .slice (Ap04) ((r_.sorts_).length) (cp04), .slice (Ap05) ((r_.texts_).length) (cp05)] 64), (1001, Ob.box b4 [.string (bs ([])), .int .i64 (0), .int .i64 (0), .slice (none) (0) (0), .slice (none) (0) (0)] 64), (9200003, Ob.row (Am04u23) ((r19.sorts_).length) (cm04u23) 9 1 (csm0_3u23)), (9200004, Ob.row (Am05u23) ((r19.texts_).length) (cm05u23) 9 1 (csm0_4u23))] [1000, 1001, 9200003, 9200004] ⟨rfl, rfl, rfl, rfl, trivial⟩ (by decide)
    refine l_seq rfl (l_store (n := 5) (cs' := [.string (bs (r19.s_)), .int .i64 (r19.at_), .int .i64 (r19.e_), .slice (Am04u23) ((r19.sorts_).length) (cm04u23), .slice (Am05u23) ((r19.texts_).length) (cm05u23)]) hS 1001 rfl rfl rfl rfl rfl rfl rfl rfl ?_); clear hS; intro w hK hS; clear hK
    apply wN
    apply wp_ret
    refine p_thenR ?_
    refine p_inR ?_
    refine p_thenR ?_
    refine p_thenR ?_
    refine p_inR ?_
    refine p_thenR ?_
    replace hS := hS.al 9300003 103 rfl
    replace hS := hS.al 9300004 104 rfl
    obtain rfl := Option.some.inj hg
    refine fin1 (fn := Try.f36) hS rfl (r_cell (kk := 1001) (n := 5) (vs := [.string (bs (r19.s_)), .int .i64 (r19.at_), .int .i64 (r19.e_), .slice (Am04u23) ((r19.sorts_).length) (cm04u23), .slice (Am05u23) ((r19.texts_).length) (cm05u23)]) hS rfl rfl Try.underlying64 rfl rfl rfl rfl) ?_
    exact ⟨(Am04u23), (cm04u23), (csm0_3u23), (Am05u23), (cm05u23), (csm0_4u23), rfl, (by omega), ((hS.ren [(9200003, Ob.row (Am04u23) ((r19.sorts_).length) (cm04u23) 9 1 (csm0_3u23)), (9200004, Ob.row (Am05u23) ((r19.texts_).length) (cm05u23) 9 1 (csm0_4u23))] [9200003, 9200004] ⟨rfl, rfl, trivial⟩ (by decide)).outL ⟨rfl, rfl, trivial⟩ ⟨rfl, rfl, trivial⟩)⟩
   ·replace hg := br_f hg (by rw [hc18]; exact Bool.false_ne_true)
    apply wp_skip
    refine p_norm ?_
    obtain ⟨hk24, hg⟩ := chk_some hg
    apply wp_region_lit
    refine qq hS rfl (y_boxField (o' := 1) hS rfl Try.underlying64 rfl rfl rfl) fun a hS => ?_
    refine qq hS rfl (y_loadBox1 (kk := 1000) hS rfl rfl rfl Try.underlying3 rfl) fun a hS => ?_
    refine qq hS rfl (y_add hS rfl rfl (in64.2 hk24)) fun a hS => ?_
    refine qq hS rfl (y_boxField (o' := 1) hS rfl Try.underlying64 rfl rfl rfl) fun a hS => ?_
    refine l_seq rfl (l_store (n := 1) (cs' := [.string (bs (r_.s_)), .int .i64 (r_8 + 1), .int .i64 (r_.e_), .slice (Ap04) ((r_.sorts_).length) (cp04), .slice (Ap05) ((r_.texts_).length) (cp05)]) hS 1000 rfl rfl rfl rfl rfl rfl rfl rfl ?_); clear hS; intro w hK hS; clear hK
    apply wpList_nil
    refine p_inN ?_
    refine p_norm ?_
    obtain ⟨hk25, hg⟩ := chk_some hg
    apply wp_region_lit
    refine qq hS rfl (y_move hS rfl) fun a hS => ?_
    refine qq hS rfl (y_addN (i := i_7) (j := 1) hS rfl rfl (in64.2 (by omega))) fun a hS => ?_
    refine qq hS rfl (y_assign hS rfl) fun a hS => ?_
    apply wN
    exact ⟨m1, Nat.lt_succ_self _, ⟨(i_7 + 1), (r_8 + 1), hg, (hS.sb rfl rfl rfl)⟩⟩
  ·replace hg := br_f hg (by rw [hc12]; exact Bool.false_ne_true)
   apply wp_exit
   refine p_then ?_
   refine p_then ?_
   refine p_in ?_
   refine p_norm ?_
   exact ⟨(r_8), hg, (hS.sb rfl rfl rfl)⟩
 clear hS a; rintro a w ⟨r_6, hg, hS⟩
 subst hk5
 apply wR
 refine qq hS rfl (y_loadBox (kk := 1000) (n := 5) (vs := [.string (bs (r_.s_)), .int .i64 (r_6), .int .i64 (r_.e_), .slice (Ap04) ((r_.sorts_).length) (cp04), .slice (Ap05) ((r_.texts_).length) (cp05)]) hS rfl rfl Try.underlying64 rfl rfl rfl rfl) fun a hS => ?_
 refine l_seq rfl (l_store (n := 5) (cs' := [.string (bs (r_.s_)), .int .i64 (r_6), .int .i64 (r_.e_), .slice (Ap04) ((r_.sorts_).length) (cp04), .slice (Ap05) ((r_.texts_).length) (cp05)]) hS 1001 rfl rfl rfl rfl rfl rfl rfl rfl ?_); clear hS; intro w hK hS; clear hK
 apply wN
 apply wp_ret
 replace hS := hS.al 9300003 9300003 rfl
 replace hS := hS.al 9300004 9300004 rfl
 obtain rfl := Option.some.inj hg
 refine fin1 (fn := Try.f36) hS rfl (r_cell (kk := 1001) (n := 5) (vs := [.string (bs (r_.s_)), .int .i64 (r_6), .int .i64 (r_.e_), .slice (Ap04) ((r_.sorts_).length) (cp04), .slice (Ap05) ((r_.texts_).length) (cp05)]) hS rfl rfl Try.underlying64 rfl rfl rfl rfl) ?_
 exact ⟨(Ap04), (cp04), (csp03), (Ap05), (cp05), (csp04), rfl, (by omega), ((hS.ren [(9200003, Ob.row (Ap04) ((r_.sorts_).length) (cp04) 9 1 (csp03)), (9200004, Ob.row (Ap05) ((r_.texts_).length) (cp05) 9 1 (csp04))] [9200003, 9200004] ⟨rfl, rfl, trivial⟩ (by decide)).outL ⟨rfl, rfl, trivial⟩ ⟨rfl, rfl, trivial⟩)⟩
set_option maxHeartbeats 400000 in
theorem c_r39_next (n : Nat) (M : Bs) (w0 : World) (hM : ∀ b, M b → b < w0.heap.size) (r_ : reader) (Ap04 : Option Addr) (cp04 : Nat) (Ap05 : Option Addr) (cp05 : Nat) (lp01 : (r_.s_).length ≤ 9223372036854775807) (hp04 : SlR Rep.str M w0 Ap04 (r_.sorts_).length cp04 (r_.sorts_)) (hp05 : SlR Rep.str M w0 Ap05 (r_.texts_).length cp05 (r_.texts_)) (c_ : UInt8) (r : Bool) (hg : r39_next n r_ c_ = some r) :
    Calls Try.prog 58 [.agg #[.string (bs (r_.s_)), .int .i64 (r_.at_), .int .i64 (r_.e_), .slice (Ap04) ((r_.sorts_).length) (cp04), .slice (Ap05) ((r_.texts_).length) (cp05)], .int .u8 (((c_.toNat : Nat) : Int))].toArray w0 (Ret noB w0 fun v w => v = .bool (r)) := by
 unfold r39_next at hg
 refine enter M noB Try.func58 rfl rfl hM ?_
 intro a hS
 replace hS := hS.es 101 hp04
 replace hS := hS.es 102 hp05
 apply wR
 refine l_seq rfl (l_box (zs := [.string (bs (r_.s_)), .int .i64 (r_.at_), .int .i64 (r_.e_), .slice (Ap04) ((r_.sorts_).length) (cp04), .slice (Ap05) ((r_.texts_).length) (cp05)]) hS 1000 rfl rfl rfl rfl ?_); clear hS a; intro b2 a w hb hK hS
 clear hb hK
 refine qq hS rfl (y_assign hS rfl) fun a hS => ?_
 apply wN
 apply wp_seq
 rcases Decidable.em (r_.e_ = 0) with hs3 | hs3
 ·have hs3e : decide (r_.e_ = 0) = true := decide_eq_true hs3
  replace hg := br_t hg hs3
  rcases Decidable.em (r_.at_ < (((r_.s_).length : Nat) : Int)) with hs4 | hs4
  ·have hs4e : decide (r_.at_ < (((r_.s_).length : Nat) : Int)) = true := decide_eq_true hs4
   replace hg := br_t hg hs4
   obtain ⟨c5, hc5, hg⟩ := bind_some hg
   apply wp_region_lit
   refine qq hS rfl (y_boxField (o' := 2) hS rfl Try.underlying64 rfl rfl rfl) fun a hS => ?_
   refine qq hS rfl (y_loadBox1 (kk := 1000) hS rfl rfl rfl Try.underlying30 rfl) fun a hS => ?_
   refine qq hS rfl (yl_b (y_eql hS rfl rfl) hs3e) fun a hS => ?_
   refine qq hS rfl (y_move hS rfl) fun a hS => ?_
   refine gy hS rfl (y_boxField (o' := 1) hS rfl Try.underlying64 rfl rfl rfl) fun a hS => ?_
   refine gy hS rfl (y_loadBox1 (kk := 1000) hS rfl rfl rfl Try.underlying3 rfl) fun a hS => ?_
   refine gy hS rfl (y_boxField (o' := 0) hS rfl Try.underlying64 rfl rfl rfl) fun a hS => ?_
   refine gy hS rfl (y_loadBox1 (kk := 1000) hS rfl rfl rfl Try.underlying9 rfl) fun a hS => ?_
   refine gy hS rfl (y_lenStrN hS rfl Try.underlying9) fun a hS => ?_
   refine gy hS rfl (yl_b (y_lss hS rfl rfl) hs4e) fun a hS => ?_
   refine qq hS rfl (y_pick_t hS rfl rfl) fun a hS => ?_
   refine qq hS rfl (y_move hS rfl) fun a hS => ?_
   refine gy hS rfl (y_boxField (o' := 0) hS rfl Try.underlying64 rfl rfl rfl) fun a hS => ?_
   refine gy hS rfl (y_loadBox1 (kk := 1000) hS rfl rfl rfl Try.underlying9 rfl) fun a hS => ?_
   refine gy hS rfl (y_boxField (o' := 1) hS rfl Try.underlying64 rfl rfl rfl) fun a hS => ?_
   refine gy hS rfl (y_loadBox1 (kk := 1000) hS rfl rfl rfl Try.underlying3 rfl) fun a hS => ?_
   refine gy hS rfl (y_indexN (i := ((r_.at_).toNat)) hS rfl rfl Try.underlying9 (ix_some hc5).2.1 (ix_some hc5).1) fun a hS => ?_
   refine gy hS rfl (y_move hS rfl) fun a hS => ?_
   refine gy hS rfl (y_eqlN (i := c5.toNat) (j := c_.toNat) hS rfl rfl) fun a hS => ?_
   refine qq hS rfl (y_pick_t hS rfl rfl) fun a hS => ?_
   refine qq hS rfl (y_assign hS rfl) fun a hS => ?_
   apply wN
   apply wp_ret
   obtain rfl := Option.some.inj hg
   refine fin1 (fn := Try.f58) hS rfl (r_tmp hS rfl) ?_
   exact rfl
  ·have hs4e : decide (r_.at_ < (((r_.s_).length : Nat) : Int)) = false := decide_eq_false hs4
   replace hg := br_f hg hs4
   apply wp_region_lit
   refine qq hS rfl (y_boxField (o' := 2) hS rfl Try.underlying64 rfl rfl rfl) fun a hS => ?_
   refine qq hS rfl (y_loadBox1 (kk := 1000) hS rfl rfl rfl Try.underlying30 rfl) fun a hS => ?_
   refine qq hS rfl (yl_b (y_eql hS rfl rfl) hs3e) fun a hS => ?_
   refine qq hS rfl (y_move hS rfl) fun a hS => ?_
   refine gy hS rfl (y_boxField (o' := 1) hS rfl Try.underlying64 rfl rfl rfl) fun a hS => ?_
   refine gy hS rfl (y_loadBox1 (kk := 1000) hS rfl rfl rfl Try.underlying3 rfl) fun a hS => ?_
   refine gy hS rfl (y_boxField (o' := 0) hS rfl Try.underlying64 rfl rfl rfl) fun a hS => ?_
   refine gy hS rfl (y_loadBox1 (kk := 1000) hS rfl rfl rfl Try.underlying9 rfl) fun a hS => ?_
   refine gy hS rfl (y_lenStrN hS rfl Try.underlying9) fun a hS => ?_
   refine gy hS rfl (yl_b (y_lss hS rfl rfl) hs4e) fun a hS => ?_
   refine qq hS rfl (y_pick_t hS rfl rfl) fun a hS => ?_
   refine qq hS rfl (y_move hS rfl) fun a hS => ?_
   refine gn hS rfl fun a hS => ?_
   refine gn hS rfl fun a hS => ?_
   refine gn hS rfl fun a hS => ?_
   refine gn hS rfl fun a hS => ?_
   refine gn hS rfl fun a hS => ?_
   refine gn hS rfl fun a hS => ?_
   refine gn hS rfl fun a hS => ?_
   refine qq hS rfl (y_pick_f hS rfl rfl) fun a hS => ?_
   refine qq hS rfl (y_assign hS rfl) fun a hS => ?_
   apply wN
   apply wp_ret
   obtain rfl := Option.some.inj hg
   refine fin1 (fn := Try.f58) hS rfl (r_tmp hS rfl) ?_
   exact rfl
 ·have hs3e : decide (r_.e_ = 0) = false := decide_eq_false hs3
  replace hg := br_f hg hs3
  apply wp_region_lit
  refine qq hS rfl (y_boxField (o' := 2) hS rfl Try.underlying64 rfl rfl rfl) fun a hS => ?_
  refine qq hS rfl (y_loadBox1 (kk := 1000) hS rfl rfl rfl Try.underlying30 rfl) fun a hS => ?_
  refine qq hS rfl (yl_b (y_eql hS rfl rfl) hs3e) fun a hS => ?_
  refine qq hS rfl (y_move hS rfl) fun a hS => ?_
  refine gn hS rfl fun a hS => ?_
  refine gn hS rfl fun a hS => ?_
  refine gn hS rfl fun a hS => ?_
  refine gn hS rfl fun a hS => ?_
  refine gn hS rfl fun a hS => ?_
  refine gn hS rfl fun a hS => ?_
  refine qq hS rfl (y_pick_f hS rfl rfl) fun a hS => ?_
  refine qq hS rfl (y_move hS rfl) fun a hS => ?_
  refine gn hS rfl fun a hS => ?_
  refine gn hS rfl fun a hS => ?_
  refine gn hS rfl fun a hS => ?_
  refine gn hS rfl fun a hS => ?_
  refine gn hS rfl fun a hS => ?_
  refine gn hS rfl fun a hS => ?_
  refine gn hS rfl fun a hS => ?_
  refine qq hS rfl (y_pick_f hS rfl rfl) fun a hS => ?_
  refine qq hS rfl (y_assign hS rfl) fun a hS => ?_
  apply wN
  apply wp_ret
  obtain rfl := Option.some.inj hg
  refine fin1 (fn := Try.f58) hS rfl (r_tmp hS rfl) ?_
  exact rfl
set_option maxHeartbeats 400000 in
theorem c_r39_run (n : Nat) (M : Bs) (w0 : World) (hM : ∀ b, M b → b < w0.heap.size) (C : Bs) (t_ : reader) (Ap04 : Option Addr) (cp04 : Nat) (Ap05 : Option Addr) (cp05 : Nat) (csp03 : List Value) (csp04 : List Value) (lp01 : (t_.s_).length ≤ 9223372036854775807) (t_' : UInt8) (t_'' : UInt8) (hW : Wd ⟨0, M, C, w0⟩ [(9200003, Ob.row (Ap04) ((t_.sorts_).length) (cp04) 9 1 (csp03)), (9200004, Ob.row (Ap05) ((t_.texts_).length) (cp05) 9 1 (csp04))] [(9300003, rdF Rep.str (csp03) (t_.sorts_)), (9300004, rdF Rep.str (csp04) (t_.texts_))] w0) (r : (reader × (List UInt8))) (hg : r39_run n t_ t_' t_'' = some r) :
    Calls Try.prog 59 [.agg #[.string (bs (t_.s_)), .int .i64 (t_.at_), .int .i64 (t_.e_), .slice (Ap04) ((t_.sorts_).length) (cp04), .slice (Ap05) ((t_.texts_).length) (cp05)], .int .u8 (((t_'.toNat : Nat) : Int)), .int .u8 (((t_''.toNat : Nat) : Int))].toArray w0 (Ret C w0 fun v w => ∃ (Am04 : Option Addr), ∃ (cm04 : Nat), ∃ (csm0_3 : List Value), ∃ (Am05 : Option Addr), ∃ (cm05 : Nat), ∃ (csm0_4 : List Value), v = .tuple #[.agg #[.string (bs (r.1.s_)), .int .i64 (r.1.at_), .int .i64 (r.1.e_), .slice (Am04) ((r.1.sorts_).length) (cm04), .slice (Am05) ((r.1.texts_).length) (cm05)], .string (bs (r.2))] ∧ ((r.1.s_).length ≤ 9223372036854775807) ∧ ((r.2).length ≤ 9223372036854775807) ∧ (Wd ⟨0, M, C, w0⟩ [(9200003, Ob.row (Am04) ((r.1.sorts_).length) (cm04) 9 1 (csm0_3)), (9200004, Ob.row (Am05) ((r.1.texts_).length) (cm05) 9 1 (csm0_4))] [(9300003, rdF Rep.str (csm0_3) (r.1.sorts_)), (9300004, rdF Rep.str (csm0_4) (r.1.texts_))] w)) := by
 unfold r39_run at hg
 refine enterL M C Try.func59 rfl rfl hW ?_
 intro a hS
 apply wR
 refine l_seq rfl (l_box (zs := [.string (bs (t_.s_)), .int .i64 (t_.at_), .int .i64 (t_.e_), .slice (Ap04) ((t_.sorts_).length) (cp04), .slice (Ap05) ((t_.texts_).length) (cp05)]) hS 1000 rfl rfl rfl rfl ?_); clear hS a; intro b3 a w hb hK hS
 clear hb hK
 refine l_seq rfl (l_alloc (zs := [.string (bs ([])), .int .i64 (0), .int .i64 (0), .slice (none) (0) (0), .slice (none) (0) (0)]) hS 1001 rfl rfl rfl rfl ?_); clear hS a; intro b4 a w hb hK hS
 clear hb hK
 refine qq hS rfl (y_assign hS rfl) fun a hS => ?_
 apply wN
 apply wp_seq
 apply wR
 refine qq hS rfl (y_boxField (o' := 2) hS rfl Try.underlying64 rfl rfl rfl) fun a hS => ?_
 refine qq hS rfl (y_loadBox1 (kk := 1000) hS rfl rfl rfl Try.underlying30 rfl) fun a hS => ?_
 refine qq hS rfl (y_neq hS rfl rfl) fun a hS => ?_
 apply wN
 refine c_dec hS rfl (fun hc5 => ?_) (fun hc5 => ?_)
 ·replace hg := br_t hg hc5
  apply wR
  refine qq hS rfl (y_loadBox (kk := 1000) (n := 5) (vs := [.string (bs (t_.s_)), .int .i64 (t_.at_), .int .i64 (t_.e_), .slice (Ap04) ((t_.sorts_).length) (cp04), .slice (Ap05) ((t_.texts_).length) (cp05)]) hS rfl rfl Try.underlying64 rfl rfl rfl rfl) fun a hS => ?_
  refine l_seq rfl (l_store (n := 5) (cs' := [.string (bs (t_.s_)), .int .i64 (t_.at_), .int .i64 (t_.e_), .slice (Ap04) ((t_.sorts_).length) (cp04), .slice (Ap05) ((t_.texts_).length) (cp05)]) hS 1001 rfl rfl rfl rfl rfl rfl rfl rfl ?_); clear hS; intro w hK hS; clear hK
  refine qq hS rfl (y_assign hS rfl) fun a hS => ?_
  apply wN
  apply wp_ret
  refine p_thenR ?_
  replace hS := hS.al 9300003 9300003 rfl
  replace hS := hS.al 9300004 9300004 rfl
  obtain rfl := Option.some.inj hg
  refine fin2 (fn := Try.f59) hS rfl (r_cell (kk := 1001) (n := 5) (vs := [.string (bs (t_.s_)), .int .i64 (t_.at_), .int .i64 (t_.e_), .slice (Ap04) ((t_.sorts_).length) (cp04), .slice (Ap05) ((t_.texts_).length) (cp05)]) hS rfl rfl Try.underlying64 rfl rfl rfl rfl) (r_tmp hS rfl) ?_
  exact ⟨(Ap04), (cp04), (csp03), (Ap05), (cp05), (csp04), rfl, (by omega), (by first | omega | (rw [List.length_append]; omega) | (simp only [List.length_append]; omega) | (simp only [List.length_append, List.length_take, List.length_drop, List.length_cons, List.length_nil]; omega)), ((hS.ren [(9200003, Ob.row (Ap04) ((t_.sorts_).length) (cp04) 9 1 (csp03)), (9200004, Ob.row (Ap05) ((t_.texts_).length) (cp05) 9 1 (csp04))] [9200003, 9200004] ⟨rfl, rfl, trivial⟩ (by decide)).outL ⟨rfl, rfl, trivial⟩ ⟨rfl, rfl, trivial⟩)⟩
 ·replace hg := br_f hg hc5
  apply wp_skip
  refine p_norm ?_
  apply wp_seq
  apply wp_seq
  obtain ⟨k6, hg, hk6⟩ := jn_some hg
  refine c_post (fun a w => ∃ (t_7 : Bool), k6 t_7 = some r ∧ St (⟨Try.f59.ntmps, M, C, w0⟩ : Ctx) [(1, .int .u8 (((t_'.toNat : Nat) : Int))), (2, .int .u8 (((t_''.toNat : Nat) : Int))), (3, .pointer (some ⟨b3, 0, none⟩)), (6, .pointer (some ⟨b4, 0, none⟩)), (29, .bool (t_7))] [(1000, Ob.box b3 [.string (bs (t_.s_)), .int .i64 (t_.at_), .int .i64 (t_.e_), .slice (Ap04) ((t_.sorts_).length) (cp04), .slice (Ap05) ((t_.texts_).length) (cp05)] 64), (1001, Ob.box b4 [.string (bs ([])), .int .i64 (0), .int .i64 (0), .slice (none) (0) (0), .slice (none) (0) (0)] 64), (9200003, Ob.row (Ap04) ((t_.sorts_).length) (cp04) 9 1 (csp03)), (9200004, Ob.row (Ap05) ((t_.texts_).length) (cp05) 9 1 (csp04))] [(9300003, rdF Rep.str (csp03) (t_.sorts_)), (9300004, rdF Rep.str (csp04) (t_.texts_))] a w) ?_ ?_
  ·rcases Decidable.em ((((t_.s_).length : Nat) : Int) ≤ t_.at_) with hs8 | hs8
   ·have hs8e : decide ((((t_.s_).length : Nat) : Int) ≤ t_.at_) = true := decide_eq_true hs8
    replace hg := br_t hg hs8
    apply wp_region_lit
    refine qq hS rfl (y_boxField (o' := 1) hS rfl Try.underlying64 rfl rfl rfl) fun a hS => ?_
    refine qq hS rfl (y_loadBox1 (kk := 1000) hS rfl rfl rfl Try.underlying3 rfl) fun a hS => ?_
    refine qq hS rfl (y_boxField (o' := 0) hS rfl Try.underlying64 rfl rfl rfl) fun a hS => ?_
    refine qq hS rfl (y_loadBox1 (kk := 1000) hS rfl rfl rfl Try.underlying9 rfl) fun a hS => ?_
    refine qq hS rfl (y_lenStrN hS rfl Try.underlying9) fun a hS => ?_
    refine qq hS rfl (yl_b (y_geq hS rfl rfl) hs8e) fun a hS => ?_
    refine qq hS rfl (y_move hS rfl) fun a hS => ?_
    refine gn hS rfl fun a hS => ?_
    refine gn hS rfl fun a hS => ?_
    refine gn hS rfl fun a hS => ?_
    refine gn hS rfl fun a hS => ?_
    refine gn hS rfl fun a hS => ?_
    refine gn hS rfl fun a hS => ?_
    refine gn hS rfl fun a hS => ?_
    refine gn hS rfl fun a hS => ?_
    refine gn hS rfl fun a hS => ?_
    refine qq hS rfl (y_pick_t hS rfl rfl) fun a hS => ?_
    apply wN
    exact ⟨(true), hg, (hS.sb rfl rfl rfl)⟩
   ·have hs8e : decide ((((t_.s_).length : Nat) : Int) ≤ t_.at_) = false := decide_eq_false hs8
    replace hg := br_f hg hs8
    obtain ⟨c9, hc9, hg⟩ := bind_some hg
    obtain ⟨r10, hr10, hg⟩ := bind_some hg
    apply wp_region_lit
    refine qq hS rfl (y_boxField (o' := 1) hS rfl Try.underlying64 rfl rfl rfl) fun a hS => ?_
    refine qq hS rfl (y_loadBox1 (kk := 1000) hS rfl rfl rfl Try.underlying3 rfl) fun a hS => ?_
    refine qq hS rfl (y_boxField (o' := 0) hS rfl Try.underlying64 rfl rfl rfl) fun a hS => ?_
    refine qq hS rfl (y_loadBox1 (kk := 1000) hS rfl rfl rfl Try.underlying9 rfl) fun a hS => ?_
    refine qq hS rfl (y_lenStrN hS rfl Try.underlying9) fun a hS => ?_
    refine qq hS rfl (yl_b (y_geq hS rfl rfl) hs8e) fun a hS => ?_
    refine qq hS rfl (y_move hS rfl) fun a hS => ?_
    refine gy hS rfl (y_boxField (o' := 0) hS rfl Try.underlying64 rfl rfl rfl) fun a hS => ?_
    refine gy hS rfl (y_loadBox1 (kk := 1000) hS rfl rfl rfl Try.underlying9 rfl) fun a hS => ?_
    refine gy hS rfl (y_boxField (o' := 1) hS rfl Try.underlying64 rfl rfl rfl) fun a hS => ?_
    refine gy hS rfl (y_loadBox1 (kk := 1000) hS rfl rfl rfl Try.underlying3 rfl) fun a hS => ?_
    refine gy hS rfl (y_indexN (i := ((t_.at_).toNat)) hS rfl rfl Try.underlying9 (ix_some hc9).2.1 (ix_some hc9).1) fun a hS => ?_
    refine gy hS rfl (y_move hS rfl) fun a hS => ?_
    refine gy hS rfl (y_move hS rfl) fun a hS => ?_
    refine gl hS rfl (l_call (cap := []) hS rfl Try.func57 rfl (by kernel_rfl) rfl rfl (c_r39_between n _ _ hS.lt c9 t_' t_'' r10 hr10) ?_); clear hS a; intro v13 a w hK hp hS
    clear hK
    obtain rfl := hp
    refine gy hS rfl (y_not hS rfl) fun a hS => ?_
    refine qq hS rfl (y_pick_f hS rfl rfl) fun a hS => ?_
    apply wN
    exact ⟨(!(r10)), hg, (hS.sb rfl rfl rfl)⟩
  clear hS a; rintro a w ⟨t_7, hg, hS⟩
  subst hk6
  refine c_cond hS rfl (fun hc15 => ?_) (fun hc15 => ?_)
  ·replace hg := br_t hg hc15
   apply wp_seq
   obtain ⟨r16, hr16, hg⟩ := bind_some hg
   apply wp_region_lit
   refine qq hS rfl (y_loadBox (kk := 1000) (n := 5) (vs := [.string (bs (t_.s_)), .int .i64 (t_.at_), .int .i64 (t_.e_), .slice (Ap04) ((t_.sorts_).length) (cp04), .slice (Ap05) ((t_.texts_).length) (cp05)]) hS rfl rfl Try.underlying64 rfl rfl rfl rfl) fun a hS => ?_
   have hT := hS.pk [(1000, 1000), (1001, 1001), (9200003, 9200003), (9200004, 9200004)] (by decide)
   replace hT := hT.al 9300003 9300003 rfl
   replace hT := hT.al 9300004 9300004 rfl
   refine l_seq rfl (l_callMut (cap := []) hT _ [] (sbA (by rfl)) trivial (by rfl) rfl Try.func39 rfl (by kernel_rfl) rfl rfl (c_r39_fail n _ _ (hT.restLt [1000, 1001]) _ t_ (Ap04) (cp04) (Ap05) (cp05) (csp03) (csp04) (by omega) (hT.wd.lendL _ _ _ (sbA (by rfl)) (keep_sub [1000, 1001]) (by rfl) (sbA (by rfl))) r16 hr16) ?_); intro v19 a' w' hK hp hF
   obtain ⟨Am04u20, cm04u20, csm0_3u20, Am05u20, cm05u20, csm0_4u20, rfl, lm01u20, hWu20⟩ := hp
   have hS2 := St.mk hF (hT.wd.back (sbA (by rfl)) (keep_sub [1000, 1001]) (by rfl) hWu20 (by rfl))
   clear hS hT hF hWu20 hK; revert hS2; revert w'; revert a'; intro a w hS
   replace hS := hS.al 103 9300003 rfl
   replace hS := hS.al 104 9300004 rfl
   replace hS := hS.ren [(1000, Ob.box b3 [.string (bs (t_.s_)), .int .i64 (t_.at_), .int .i64 (t_.e_), .slice (Ap04) ((t_.sorts_).length) (cp04), .slice (Ap05) ((t_.texts_).length) (cp05)] 64), (1001, Ob.box b4 [.string (bs ([])), .int .i64 (0), .int .i64 (0), .slice (none) (0) (0), .slice (none) (0) (0)] 64), (9200003, Ob.row (Am04u20) ((r16.sorts_).length) (cm04u20) 9 1 (csm0_3u20)), (9200004, Ob.row (Am05u20) ((r16.texts_).length) (cm05u20) 9 1 (csm0_4u20))] [1000, 1001, 9200003, 9200004] ⟨rfl, rfl, rfl, rfl, trivial⟩ (by decide)
   refine l_seq rfl (l_store (n := 5) (cs' := [.string (bs (r16.s_)), .int .i64 (r16.at_), .int .i64 (r16.e_), .slice (Am04u20) ((r16.sorts_).length) (cm04u20), .slice (Am05u20) ((r16.texts_).length) (cm05u20)]) hS 1001 rfl rfl rfl rfl rfl rfl rfl rfl ?_); clear hS; intro w hK hS; clear hK
   refine qq hS rfl (y_assign hS rfl) fun a hS => ?_
   apply wN
   apply wp_ret
   refine p_thenR ?_
   replace hS := hS.al 9300003 103 rfl
   replace hS := hS.al 9300004 104 rfl
   obtain rfl := Option.some.inj hg
   refine fin2 (fn := Try.f59) hS rfl (r_cell (kk := 1001) (n := 5) (vs := [.string (bs (r16.s_)), .int .i64 (r16.at_), .int .i64 (r16.e_), .slice (Am04u20) ((r16.sorts_).length) (cm04u20), .slice (Am05u20) ((r16.texts_).length) (cm05u20)]) hS rfl rfl Try.underlying64 rfl rfl rfl rfl) (r_tmp hS rfl) ?_
   exact ⟨(Am04u20), (cm04u20), (csm0_3u20), (Am05u20), (cm05u20), (csm0_4u20), rfl, (by omega), (by first | omega | (rw [List.length_append]; omega) | (simp only [List.length_append]; omega) | (simp only [List.length_append, List.length_take, List.length_drop, List.length_cons, List.length_nil]; omega)), ((hS.ren [(9200003, Ob.row (Am04u20) ((r16.sorts_).length) (cm04u20) 9 1 (csm0_3u20)), (9200004, Ob.row (Am05u20) ((r16.texts_).length) (cm05u20) 9 1 (csm0_4u20))] [9200003, 9200004] ⟨rfl, rfl, trivial⟩ (by decide)).outL ⟨rfl, rfl, trivial⟩ ⟨rfl, rfl, trivial⟩)⟩
  ·replace hg := br_f hg (by rw [hc15]; exact Bool.false_ne_true)
   apply wp_skip
   refine p_norm ?_
   apply wR
   refine qq hS rfl (y_boxField (o' := 1) hS rfl Try.underlying64 rfl rfl rfl) fun a hS => ?_
   refine qq hS rfl (y_loadBox1 (kk := 1000) hS rfl rfl rfl Try.underlying3 rfl) fun a hS => ?_
   refine qq hS rfl (y_assign hS rfl) fun a hS => ?_
   apply wN
   apply wp_seq
   obtain ⟨k21, hg, hk21⟩ := jn_some hg
   refine c_post (fun a w => ∃ (b_22 : Int), k21 b_22 = some r ∧ St (⟨Try.f59.ntmps, M, C, w0⟩ : Ctx) [(3, .pointer (some ⟨b3, 0, none⟩)), (6, .pointer (some ⟨b4, 0, none⟩)), (8, .int .i64 (t_.at_))] [(1000, Ob.box b3 [.string (bs (t_.s_)), .int .i64 (b_22), .int .i64 (t_.e_), .slice (Ap04) ((t_.sorts_).length) (cp04), .slice (Ap05) ((t_.texts_).length) (cp05)] 64), (1001, Ob.box b4 [.string (bs ([])), .int .i64 (0), .int .i64 (0), .slice (none) (0) (0), .slice (none) (0) (0)] 64), (9200003, Ob.row (Ap04) ((t_.sorts_).length) (cp04) 9 1 (csp03)), (9200004, Ob.row (Ap05) ((t_.texts_).length) (cp05) 9 1 (csp04))] [(9300003, rdF Rep.str (csp03) (t_.sorts_)), (9300004, rdF Rep.str (csp04) (t_.texts_))] a w) ?_ ?_
   ·apply wp_block
    refine c_loop (σ := Nat) (fun m1 a w => ∃ (b_23 : Int), r39_run_L0 n t_ t_' t_'' k21 m1 b_23 = some r ∧ St (⟨Try.f59.ntmps, M, C, w0⟩ : Ctx) [(1, .int .u8 (((t_'.toNat : Nat) : Int))), (2, .int .u8 (((t_''.toNat : Nat) : Int))), (3, .pointer (some ⟨b3, 0, none⟩)), (6, .pointer (some ⟨b4, 0, none⟩)), (8, .int .i64 (t_.at_))] [(1000, Ob.box b3 [.string (bs (t_.s_)), .int .i64 (b_23), .int .i64 (t_.e_), .slice (Ap04) ((t_.sorts_).length) (cp04), .slice (Ap05) ((t_.texts_).length) (cp05)] 64), (1001, Ob.box b4 [.string (bs ([])), .int .i64 (0), .int .i64 (0), .slice (none) (0) (0), .slice (none) (0) (0)] 64), (9200003, Ob.row (Ap04) ((t_.sorts_).length) (cp04) 9 1 (csp03)), (9200004, Ob.row (Ap05) ((t_.texts_).length) (cp05) 9 1 (csp04))] [(9300003, rdF Rep.str (csp03) (t_.sorts_)), (9300004, rdF Rep.str (csp04) (t_.texts_))] a w) (fun m1 => m1) n ⟨(t_.at_), hg, (hS.sb rfl rfl rfl)⟩ ?_
    clear hS a; rintro m1 a w ⟨b_23, hg, hS⟩
    rcases m1 with _ | m1
    ·rw [r39_run_L0] at hg; cases hg
    rw [r39_run_L0] at hg
    apply wp_seq
    apply wp_seq
    obtain ⟨k24, hg, hk24⟩ := jn_some hg
    refine c_post (fun a w => ∃ (t_25 : Bool), k24 t_25 = some r ∧ St (⟨Try.f59.ntmps, M, C, w0⟩ : Ctx) [(1, .int .u8 (((t_'.toNat : Nat) : Int))), (2, .int .u8 (((t_''.toNat : Nat) : Int))), (3, .pointer (some ⟨b3, 0, none⟩)), (6, .pointer (some ⟨b4, 0, none⟩)), (8, .int .i64 (t_.at_)), (65, .bool (t_25))] [(1000, Ob.box b3 [.string (bs (t_.s_)), .int .i64 (b_23), .int .i64 (t_.e_), .slice (Ap04) ((t_.sorts_).length) (cp04), .slice (Ap05) ((t_.texts_).length) (cp05)] 64), (1001, Ob.box b4 [.string (bs ([])), .int .i64 (0), .int .i64 (0), .slice (none) (0) (0), .slice (none) (0) (0)] 64), (9200003, Ob.row (Ap04) ((t_.sorts_).length) (cp04) 9 1 (csp03)), (9200004, Ob.row (Ap05) ((t_.texts_).length) (cp05) 9 1 (csp04))] [(9300003, rdF Rep.str (csp03) (t_.sorts_)), (9300004, rdF Rep.str (csp04) (t_.texts_))] a w) ?_ ?_
    ·rcases Decidable.em (b_23 < (((t_.s_).length : Nat) : Int)) with hs26 | hs26
     ·have hs26e : decide (b_23 < (((t_.s_).length : Nat) : Int)) = true := decide_eq_true hs26
      replace hg := br_t hg hs26
      obtain ⟨c27, hc27, hg⟩ := bind_some hg
      obtain ⟨r28, hr28, hg⟩ := bind_some hg
      rcases Bool.eq_false_or_eq_true (r28) with hs31 | hs31
      ·replace hg := br_t hg hs31
       apply wp_region_lit
       refine qq hS rfl (y_boxField (o' := 1) hS rfl Try.underlying64 rfl rfl rfl) fun a hS => ?_
       refine qq hS rfl (y_loadBox1 (kk := 1000) hS rfl rfl rfl Try.underlying3 rfl) fun a hS => ?_
       refine qq hS rfl (y_boxField (o' := 0) hS rfl Try.underlying64 rfl rfl rfl) fun a hS => ?_
       refine qq hS rfl (y_loadBox1 (kk := 1000) hS rfl rfl rfl Try.underlying9 rfl) fun a hS => ?_
       refine qq hS rfl (y_lenStrN hS rfl Try.underlying9) fun a hS => ?_
       refine qq hS rfl (yl_b (y_lss hS rfl rfl) hs26e) fun a hS => ?_
       refine qq hS rfl (y_move hS rfl) fun a hS => ?_
       refine gy hS rfl (y_boxField (o' := 0) hS rfl Try.underlying64 rfl rfl rfl) fun a hS => ?_
       refine gy hS rfl (y_loadBox1 (kk := 1000) hS rfl rfl rfl Try.underlying9 rfl) fun a hS => ?_
       refine gy hS rfl (y_boxField (o' := 1) hS rfl Try.underlying64 rfl rfl rfl) fun a hS => ?_
       refine gy hS rfl (y_loadBox1 (kk := 1000) hS rfl rfl rfl Try.underlying3 rfl) fun a hS => ?_
       refine gy hS rfl (y_indexN (i := ((b_23).toNat)) hS rfl rfl Try.underlying9 (ix_some hc27).2.1 (ix_some hc27).1) fun a hS => ?_
       refine gy hS rfl (y_move hS rfl) fun a hS => ?_
       refine gy hS rfl (y_move hS rfl) fun a hS => ?_
       refine gl hS rfl (l_call (cap := []) hS rfl Try.func57 rfl (by kernel_rfl) rfl rfl (c_r39_between n _ _ hS.lt c27 t_' t_'' r28 hr28) ?_); clear hS a; intro v32 a w hK hp hS
       clear hK
       obtain rfl := hp.trans (congrArg Value.bool hs31)
       refine gy hS rfl (y_move hS rfl) fun a hS => ?_
       refine gn hS rfl fun a hS => ?_
       refine gn hS rfl fun a hS => ?_
       refine gn hS rfl fun a hS => ?_
       refine gn hS rfl fun a hS => ?_
       refine gn hS rfl fun a hS => ?_
       refine gn hS rfl fun a hS => ?_
       refine gy hS rfl (y_pick_t hS rfl rfl) fun a hS => ?_
       refine gy hS rfl (y_move hS rfl) fun a hS => ?_
       refine gn hS rfl fun a hS => ?_
       refine gn hS rfl fun a hS => ?_
       refine gn hS rfl fun a hS => ?_
       refine gn hS rfl fun a hS => ?_
       refine gn hS rfl fun a hS => ?_
       refine gn hS rfl fun a hS => ?_
       refine gy hS rfl (y_pick_t hS rfl rfl) fun a hS => ?_
       refine qq hS rfl (y_pick_t hS rfl rfl) fun a hS => ?_
       apply wN
       exact ⟨(true), hg, (hS.sb rfl rfl rfl)⟩
      ·replace hg := br_f hg (by rw [hs31]; exact Bool.false_ne_true)
       obtain ⟨r34, hr34, hg⟩ := bind_some hg
       rcases Bool.eq_false_or_eq_true (r34) with hs37 | hs37
       ·replace hg := br_t hg hs37
        apply wp_region_lit
        refine qq hS rfl (y_boxField (o' := 1) hS rfl Try.underlying64 rfl rfl rfl) fun a hS => ?_
        refine qq hS rfl (y_loadBox1 (kk := 1000) hS rfl rfl rfl Try.underlying3 rfl) fun a hS => ?_
        refine qq hS rfl (y_boxField (o' := 0) hS rfl Try.underlying64 rfl rfl rfl) fun a hS => ?_
        refine qq hS rfl (y_loadBox1 (kk := 1000) hS rfl rfl rfl Try.underlying9 rfl) fun a hS => ?_
        refine qq hS rfl (y_lenStrN hS rfl Try.underlying9) fun a hS => ?_
        refine qq hS rfl (yl_b (y_lss hS rfl rfl) hs26e) fun a hS => ?_
        refine qq hS rfl (y_move hS rfl) fun a hS => ?_
        refine gy hS rfl (y_boxField (o' := 0) hS rfl Try.underlying64 rfl rfl rfl) fun a hS => ?_
        refine gy hS rfl (y_loadBox1 (kk := 1000) hS rfl rfl rfl Try.underlying9 rfl) fun a hS => ?_
        refine gy hS rfl (y_boxField (o' := 1) hS rfl Try.underlying64 rfl rfl rfl) fun a hS => ?_
        refine gy hS rfl (y_loadBox1 (kk := 1000) hS rfl rfl rfl Try.underlying3 rfl) fun a hS => ?_
        refine gy hS rfl (y_indexN (i := ((b_23).toNat)) hS rfl rfl Try.underlying9 (ix_some hc27).2.1 (ix_some hc27).1) fun a hS => ?_
        refine gy hS rfl (y_move hS rfl) fun a hS => ?_
        refine gy hS rfl (y_move hS rfl) fun a hS => ?_
        refine gl hS rfl (l_call (cap := []) hS rfl Try.func57 rfl (by kernel_rfl) rfl rfl (c_r39_between n _ _ hS.lt c27 t_' t_'' r28 hr28) ?_); clear hS a; intro v38 a w hK hp hS
        clear hK
        obtain rfl := hp.trans (congrArg Value.bool hs31)
        refine gy hS rfl (y_move hS rfl) fun a hS => ?_
        refine gy hS rfl (y_boxField (o' := 0) hS rfl Try.underlying64 rfl rfl rfl) fun a hS => ?_
        refine gy hS rfl (y_loadBox1 (kk := 1000) hS rfl rfl rfl Try.underlying9 rfl) fun a hS => ?_
        refine gy hS rfl (y_boxField (o' := 1) hS rfl Try.underlying64 rfl rfl rfl) fun a hS => ?_
        refine gy hS rfl (y_loadBox1 (kk := 1000) hS rfl rfl rfl Try.underlying3 rfl) fun a hS => ?_
        refine gy hS rfl (y_indexN (i := ((b_23).toNat)) hS rfl rfl Try.underlying9 (ix_some hc27).2.1 (ix_some hc27).1) fun a hS => ?_
        refine gl hS rfl (l_call (cap := []) hS rfl Try.func57 rfl (by kernel_rfl) rfl rfl (c_r39_between n _ _ hS.lt c27 (48 : UInt8) (57 : UInt8) r34 hr34) ?_); clear hS a; intro v40 a w hK hp hS
        clear hK
        obtain rfl := hp.trans (congrArg Value.bool hs37)
        refine gy hS rfl (y_pick_f hS rfl rfl) fun a hS => ?_
        refine gy hS rfl (y_move hS rfl) fun a hS => ?_
        refine gn hS rfl fun a hS => ?_
        refine gn hS rfl fun a hS => ?_
        refine gn hS rfl fun a hS => ?_
        refine gn hS rfl fun a hS => ?_
        refine gn hS rfl fun a hS => ?_
        refine gn hS rfl fun a hS => ?_
        refine gy hS rfl (y_pick_t hS rfl rfl) fun a hS => ?_
        refine qq hS rfl (y_pick_t hS rfl rfl) fun a hS => ?_
        apply wN
        exact ⟨(true), hg, (hS.sb rfl rfl rfl)⟩
       ·replace hg := br_f hg (by rw [hs37]; exact Bool.false_ne_true)
        apply wp_region_lit
        refine qq hS rfl (y_boxField (o' := 1) hS rfl Try.underlying64 rfl rfl rfl) fun a hS => ?_
        refine qq hS rfl (y_loadBox1 (kk := 1000) hS rfl rfl rfl Try.underlying3 rfl) fun a hS => ?_
        refine qq hS rfl (y_boxField (o' := 0) hS rfl Try.underlying64 rfl rfl rfl) fun a hS => ?_
        refine qq hS rfl (y_loadBox1 (kk := 1000) hS rfl rfl rfl Try.underlying9 rfl) fun a hS => ?_
        refine qq hS rfl (y_lenStrN hS rfl Try.underlying9) fun a hS => ?_
        refine qq hS rfl (yl_b (y_lss hS rfl rfl) hs26e) fun a hS => ?_
        refine qq hS rfl (y_move hS rfl) fun a hS => ?_
        refine gy hS rfl (y_boxField (o' := 0) hS rfl Try.underlying64 rfl rfl rfl) fun a hS => ?_
        refine gy hS rfl (y_loadBox1 (kk := 1000) hS rfl rfl rfl Try.underlying9 rfl) fun a hS => ?_
        refine gy hS rfl (y_boxField (o' := 1) hS rfl Try.underlying64 rfl rfl rfl) fun a hS => ?_
        refine gy hS rfl (y_loadBox1 (kk := 1000) hS rfl rfl rfl Try.underlying3 rfl) fun a hS => ?_
        refine gy hS rfl (y_indexN (i := ((b_23).toNat)) hS rfl rfl Try.underlying9 (ix_some hc27).2.1 (ix_some hc27).1) fun a hS => ?_
        refine gy hS rfl (y_move hS rfl) fun a hS => ?_
        refine gy hS rfl (y_move hS rfl) fun a hS => ?_
        refine gl hS rfl (l_call (cap := []) hS rfl Try.func57 rfl (by kernel_rfl) rfl rfl (c_r39_between n _ _ hS.lt c27 t_' t_'' r28 hr28) ?_); clear hS a; intro v42 a w hK hp hS
        clear hK
        obtain rfl := hp.trans (congrArg Value.bool hs31)
        refine gy hS rfl (y_move hS rfl) fun a hS => ?_
        refine gy hS rfl (y_boxField (o' := 0) hS rfl Try.underlying64 rfl rfl rfl) fun a hS => ?_
        refine gy hS rfl (y_loadBox1 (kk := 1000) hS rfl rfl rfl Try.underlying9 rfl) fun a hS => ?_
        refine gy hS rfl (y_boxField (o' := 1) hS rfl Try.underlying64 rfl rfl rfl) fun a hS => ?_
        refine gy hS rfl (y_loadBox1 (kk := 1000) hS rfl rfl rfl Try.underlying3 rfl) fun a hS => ?_
        refine gy hS rfl (y_indexN (i := ((b_23).toNat)) hS rfl rfl Try.underlying9 (ix_some hc27).2.1 (ix_some hc27).1) fun a hS => ?_
        refine gl hS rfl (l_call (cap := []) hS rfl Try.func57 rfl (by kernel_rfl) rfl rfl (c_r39_between n _ _ hS.lt c27 (48 : UInt8) (57 : UInt8) r34 hr34) ?_); clear hS a; intro v44 a w hK hp hS
        clear hK
        obtain rfl := hp.trans (congrArg Value.bool hs37)
        refine gy hS rfl (y_pick_f hS rfl rfl) fun a hS => ?_
        refine gy hS rfl (y_move hS rfl) fun a hS => ?_
        refine gy hS rfl (y_boxField (o' := 0) hS rfl Try.underlying64 rfl rfl rfl) fun a hS => ?_
        refine gy hS rfl (y_loadBox1 (kk := 1000) hS rfl rfl rfl Try.underlying9 rfl) fun a hS => ?_
        refine gy hS rfl (y_boxField (o' := 1) hS rfl Try.underlying64 rfl rfl rfl) fun a hS => ?_
        refine gy hS rfl (y_loadBox1 (kk := 1000) hS rfl rfl rfl Try.underlying3 rfl) fun a hS => ?_
        refine gy hS rfl (y_indexN (i := ((b_23).toNat)) hS rfl rfl Try.underlying9 (ix_some hc27).2.1 (ix_some hc27).1) fun a hS => ?_
        refine gy hS rfl (y_eqlN (i := c27.toNat) (j := 45) hS rfl rfl) fun a hS => ?_
        refine gy hS rfl (y_pick_f hS rfl rfl) fun a hS => ?_
        refine qq hS rfl (y_pick_t hS rfl rfl) fun a hS => ?_
        apply wN
        exact ⟨(decide (c27.toNat = 45)), hg, (hS.sb rfl rfl rfl)⟩
     ·have hs26e : decide (b_23 < (((t_.s_).length : Nat) : Int)) = false := decide_eq_false hs26
      replace hg := br_f hg hs26
      apply wp_region_lit
      refine qq hS rfl (y_boxField (o' := 1) hS rfl Try.underlying64 rfl rfl rfl) fun a hS => ?_
      refine qq hS rfl (y_loadBox1 (kk := 1000) hS rfl rfl rfl Try.underlying3 rfl) fun a hS => ?_
      refine qq hS rfl (y_boxField (o' := 0) hS rfl Try.underlying64 rfl rfl rfl) fun a hS => ?_
      refine qq hS rfl (y_loadBox1 (kk := 1000) hS rfl rfl rfl Try.underlying9 rfl) fun a hS => ?_
      refine qq hS rfl (y_lenStrN hS rfl Try.underlying9) fun a hS => ?_
      refine qq hS rfl (yl_b (y_lss hS rfl rfl) hs26e) fun a hS => ?_
      refine qq hS rfl (y_move hS rfl) fun a hS => ?_
      refine gn hS rfl fun a hS => ?_
      refine gn hS rfl fun a hS => ?_
      refine gn hS rfl fun a hS => ?_
      refine gn hS rfl fun a hS => ?_
      refine gn hS rfl fun a hS => ?_
      refine gn hS rfl fun a hS => ?_
      refine gn hS rfl fun a hS => ?_
      refine gn hS rfl fun a hS => ?_
      refine gn hS rfl fun a hS => ?_
      refine gn hS rfl fun a hS => ?_
      refine gn hS rfl fun a hS => ?_
      refine gn hS rfl fun a hS => ?_
      refine gn hS rfl fun a hS => ?_
      refine gn hS rfl fun a hS => ?_
      refine gn hS rfl fun a hS => ?_
      refine gn hS rfl fun a hS => ?_
      refine gn hS rfl fun a hS => ?_
      refine gn hS rfl fun a hS => ?_
      refine gn hS rfl fun a hS => ?_
      refine gn hS rfl fun a hS => ?_
      refine gn hS rfl fun a hS => ?_
      refine gn hS rfl fun a hS => ?_
      refine gn hS rfl fun a hS => ?_
      refine gn hS rfl fun a hS => ?_
      refine qq hS rfl (y_pick_f hS rfl rfl) fun a hS => ?_
      apply wN
      exact ⟨(false), hg, (hS.sb rfl rfl rfl)⟩
    clear hS a; rintro a w ⟨t_25, hg, hS⟩
    subst hk24
    refine c_cond hS rfl (fun hc46 => ?_) (fun hc46 => ?_)
    ·replace hg := br_t hg hc46
     apply wp_skip
     refine p_norm ?_
     apply wp_block
     obtain ⟨hk47, hg⟩ := chk_some hg
     apply wp_region_lit
     refine qq hS rfl (y_boxField (o' := 1) hS rfl Try.underlying64 rfl rfl rfl) fun a hS => ?_
     refine qq hS rfl (y_loadBox1 (kk := 1000) hS rfl rfl rfl Try.underlying3 rfl) fun a hS => ?_
     refine qq hS rfl (y_add hS rfl rfl (in64.2 hk47)) fun a hS => ?_
     refine qq hS rfl (y_boxField (o' := 1) hS rfl Try.underlying64 rfl rfl rfl) fun a hS => ?_
     refine l_seq rfl (l_store (n := 1) (cs' := [.string (bs (t_.s_)), .int .i64 (b_23 + 1), .int .i64 (t_.e_), .slice (Ap04) ((t_.sorts_).length) (cp04), .slice (Ap05) ((t_.texts_).length) (cp05)]) hS 1000 rfl rfl rfl rfl rfl rfl rfl rfl ?_); clear hS; intro w hK hS; clear hK
     apply wpList_nil
     refine p_inN ?_
     refine p_norm ?_
     exact ⟨m1, Nat.lt_succ_self _, ⟨(b_23 + 1), hg, (hS.sb rfl rfl rfl)⟩⟩
    ·replace hg := br_f hg (by rw [hc46]; exact Bool.false_ne_true)
     apply wp_exit
     refine p_then ?_
     refine p_then ?_
     refine p_in ?_
     refine p_norm ?_
     exact ⟨(b_23), hg, (hS.sb rfl rfl rfl)⟩
   clear hS a; rintro a w ⟨b_22, hg, hS⟩
   subst hk21
   apply wp_seq
   obtain ⟨hk48, hg⟩ := chk_some hg
   obtain ⟨hk49, hg⟩ := chk_some hg
   obtain ⟨hk50, hg⟩ := chk_some hg
   refine d_plan hS [(7, 1001)] [(0, some 1000), (1, some 0), (2, some 1000), (3, some 0), (4, some 0), (5, some 1000), (6, some 0), (7, none), (8, none)] rfl (by kernel_rfl) (by kernel_rfl) rfl ?_; clear hS; intro wr hZ hS; have hR := hS.wd
   refine q_take hS hR rfl rfl rfl rfl (y_loadBox (kk := 1000) (n := 5) (vs := [.string (bs (t_.s_)), .int .i64 (b_22), .int .i64 (t_.e_), .slice (Ap04) ((t_.sorts_).length) (cp04), .slice (Ap05) ((t_.texts_).length) (cp05)]) hS rfl rfl Try.underlying64 rfl rfl rfl rfl) fun a hS => ?_
   refine q_take hS hR rfl rfl rfl rfl (y_boxField (o' := 0) hS rfl Try.underlying64 rfl rfl rfl) fun a hS => ?_
   refine q_take hS hR rfl rfl rfl rfl (y_loadBox1 (kk := 1000) hS rfl rfl rfl Try.underlying9 rfl) fun a hS => ?_
   refine q_take hS hR rfl rfl rfl rfl (y_move hS rfl) fun a hS => ?_
   refine q_take hS hR rfl rfl rfl rfl (y_boxField (o' := 1) hS rfl Try.underlying64 rfl rfl rfl) fun a hS => ?_
   refine q_take hS hR rfl rfl rfl rfl (y_loadBox1 (kk := 1000) hS rfl rfl rfl Try.underlying3 rfl) fun a hS => ?_
   refine q_take hS hR rfl rfl rfl rfl (y_strLH (i := ((t_.at_).toNat)) (j := ((b_22).toNat)) hS rfl rfl rfl Try.underlying9 (by omega) (by omega) hk50.1 hk50.2) fun a hS => ?_
   refine l_take hS rfl rfl (l_store (n := 5) (cs' := [.string (bs (t_.s_)), .int .i64 (b_22), .int .i64 (t_.e_), .slice (Ap04) ((t_.sorts_).length) (cp04), .slice (Ap05) ((t_.texts_).length) (cp05)]) hS 1001 rfl rfl rfl rfl rfl rfl rfl rfl ?_); clear hS; intro w hK hS; replace hZ := Nat.le_trans hZ hK.size
   refine ⟨fun g hg h => h.obj hR (kk := 1001) rfl hK (by rintro rfl; exact absurd hg (by decide)), ?_⟩; clear hK
   refine l_take hS rfl rfl (l_quiet hS rfl rfl (y_assign hS rfl) fun a hS => ?_); refine ⟨fun g _ h => h, ?_⟩
   clear hR hZ
   refine p_norm ?_
   apply wp_ret
   replace hS := hS.al 9300003 9300003 rfl
   replace hS := hS.al 9300004 9300004 rfl
   obtain rfl := Option.some.inj hg
   refine fin2 (fn := Try.f59) hS rfl (r_cell (kk := 1001) (n := 5) (vs := [.string (bs (t_.s_)), .int .i64 (b_22), .int .i64 (t_.e_), .slice (Ap04) ((t_.sorts_).length) (cp04), .slice (Ap05) ((t_.texts_).length) (cp05)]) hS rfl rfl Try.underlying64 rfl rfl rfl rfl) (r_tmp hS rfl) ?_
   exact ⟨(Ap04), (cp04), (csp03), (Ap05), (cp05), (csp04), rfl, (by omega), (by first | omega | (rw [List.length_append]; omega) | (simp only [List.length_append]; omega) | (simp only [List.length_append, List.length_take, List.length_drop, List.length_cons, List.length_nil]; omega)), ((hS.ren [(9200003, Ob.row (Ap04) ((t_.sorts_).length) (cp04) 9 1 (csp03)), (9200004, Ob.row (Ap05) ((t_.texts_).length) (cp05) 9 1 (csp04))] [9200003, 9200004] ⟨rfl, rfl, trivial⟩ (by decide)).outL ⟨rfl, rfl, trivial⟩ ⟨rfl, rfl, trivial⟩)⟩
set_option maxHeartbeats 400000 in
theorem c_r39_arguments (n : Nat) (M : Bs) (w0 : World) (hM : ∀ b, M b → b < w0.heap.size) (C : Bs) (r_ : reader) (Ap04 : Option Addr) (cp04 : Nat) (Ap05 : Option Addr) (cp05 : Nat) (csp03 : List Value) (csp04 : List Value) (lp01 : (r_.s_).length ≤ 9223372036854775807) (hW : Wd ⟨0, M, C, w0⟩ [(9200003, Ob.row (Ap04) ((r_.sorts_).length) (cp04) 9 1 (csp03)), (9200004, Ob.row (Ap05) ((r_.texts_).length) (cp05) 9 1 (csp04))] [(9300003, rdF Rep.str (csp03) (r_.sorts_)), (9300004, rdF Rep.str (csp04) (r_.texts_))] w0) (r : (reader × (List Arg))) (hg : r39_arguments n r_ = some r) :
    Calls Try.prog 60 [.agg #[.string (bs (r_.s_)), .int .i64 (r_.at_), .int .i64 (r_.e_), .slice (Ap04) ((r_.sorts_).length) (cp04), .slice (Ap05) ((r_.texts_).length) (cp05)]].toArray w0 (Ret C w0 fun v w => ∃ (Am04 : Option Addr), ∃ (cm04 : Nat), ∃ (csm0_3 : List Value), ∃ (Am05 : Option Addr), ∃ (cm05 : Nat), ∃ (csm0_4 : List Value), ∃ (Ab1 : Option Addr), ∃ (cb1 : Nat), v = .tuple #[.agg #[.string (bs (r.1.s_)), .int .i64 (r.1.at_), .int .i64 (r.1.e_), .slice (Am04) ((r.1.sorts_).length) (cm04), .slice (Am05) ((r.1.texts_).length) (cm05)], .slice (Ab1) ((r.2).length) (cb1)] ∧ ((r.1.s_).length ≤ 9223372036854775807) ∧ (Wd ⟨0, M, C, w0⟩ [(9200003, Ob.row (Am04) ((r.1.sorts_).length) (cm04) 9 1 (csm0_3)), (9200004, Ob.row (Am05) ((r.1.texts_).length) (cm05) 9 1 (csm0_4))] [(9300003, rdF Rep.str (csm0_3) (r.1.sorts_)), (9300004, rdF Rep.str (csm0_4) (r.1.texts_)), (9500100, slF RArg (Ab1) ((r.2).length) (cb1) (r.2))] w)) := by
 unfold r39_arguments at hg
 refine enterL M C Try.func60 rfl rfl hW ?_
 intro a hS
 apply wR
 refine l_seq rfl (l_box (zs := [.string (bs (r_.s_)), .int .i64 (r_.at_), .int .i64 (r_.e_), .slice (Ap04) ((r_.sorts_).length) (cp04), .slice (Ap05) ((r_.texts_).length) (cp05)]) hS 1000 rfl rfl rfl rfl ?_); clear hS a; intro b3 a w hb hK hS
 clear hb hK
 refine l_seq rfl (l_alloc (zs := [.string (bs ([])), .int .i64 (0), .int .i64 (0), .slice (none) (0) (0), .slice (none) (0) (0)]) hS 1001 rfl rfl rfl rfl ?_); clear hS a; intro b4 a w hb hK hS
 clear hb hK
 refine qq hS rfl (y_assign hS rfl) fun a hS => ?_
 apply wN
 apply wR
 refine l_seq rfl (l_buildEmpty (sz := 2) hS 1100 Try.underlying53 rfl rfl rfl ?_); clear hS a; intro b6 a w hbb6 hK hS
 clear hbb6 hK
 refine qq hS rfl (y_assign hS rfl) fun a hS => ?_
 apply wN
 apply wp_seq
 obtain ⟨k7, hg, hk7⟩ := jn_some hg
 refine c_post (fun a w => ∃ (out_8 : (List Arg)), ∃ (r_12 : (List UInt8)), ∃ (r_13 : Int), ∃ (r_14 : Int), ∃ (r_15 : (List (List UInt8))), ∃ (r_19 : (List (List UInt8))), ∃ (A9 : Option Addr), ∃ (c10 : Nat), ∃ (cs11 : List Value), ∃ (A16 : Option Addr), ∃ (c17 : Nat), ∃ (cs18 : List Value), ∃ (A20 : Option Addr), ∃ (c21 : Nat), ∃ (cs22 : List Value), k7 out_8 r_12 r_13 r_14 r_15 r_19 = some r ∧ ((r_12).length ≤ 9223372036854775807) ∧ St (⟨Try.f60.ntmps, M, C, w0⟩ : Ctx) [(1, .pointer (some ⟨b3, 0, none⟩)), (2, .pointer (some ⟨b4, 0, none⟩)), (4, .slice (A9) ((out_8).length) (c10))] [(1000, Ob.box b3 [.string (bs (r_12)), .int .i64 (r_13), .int .i64 (r_14), .slice (A16) ((r_15).length) (c17), .slice (A20) ((r_19).length) (c21)] 64), (1001, Ob.box b4 [.string (bs ([])), .int .i64 (0), .int .i64 (0), .slice (none) (0) (0), .slice (none) (0) (0)] 64), (700101, Ob.row (A9) ((out_8).length) (c10) 76 2 (cs11)), (700103, Ob.row (A16) ((r_15).length) (c17) 9 1 (cs18)), (700105, Ob.row (A20) ((r_19).length) (c21) 9 1 (cs22))] [(102, rdF RArg (cs11) (out_8)), (104, rdF Rep.str (cs18) (r_15)), (106, rdF Rep.str (cs22) (r_19))] a w) ?_ ?_
 ·apply wp_block
  replace hS := hS.add 113 (rdF RArg ([]) ([])) (RdAll.nil _ _ _)
  replace hS := hS.al 108 113 rfl
  replace hS := hS.al 110 9300003 rfl
  replace hS := hS.al 112 9300004 rfl
  replace hS := hS.pk [(1000, 1000), (1001, 1001), (700107, 1100), (700109, 9200003), (700111, 9200004)] (by decide)
  refine c_loop (σ := Nat) (fun m1 a w => ∃ (out_23 : (List Arg)), ∃ (r_27 : (List UInt8)), ∃ (r_28 : Int), ∃ (r_29 : Int), ∃ (r_30 : (List (List UInt8))), ∃ (r_34 : (List (List UInt8))), ∃ (A24 : Option Addr), ∃ (c25 : Nat), ∃ (cs26 : List Value), ∃ (A31 : Option Addr), ∃ (c32 : Nat), ∃ (cs33 : List Value), ∃ (A35 : Option Addr), ∃ (c36 : Nat), ∃ (cs37 : List Value), r39_arguments_L0 n k7 m1 out_23 r_27 r_28 r_29 r_30 r_34 = some r ∧ ((r_27).length ≤ 9223372036854775807) ∧ St (⟨Try.f60.ntmps, M, C, w0⟩ : Ctx) [(1, .pointer (some ⟨b3, 0, none⟩)), (2, .pointer (some ⟨b4, 0, none⟩)), (4, .slice (A24) ((out_23).length) (c25))] [(1000, Ob.box b3 [.string (bs (r_27)), .int .i64 (r_28), .int .i64 (r_29), .slice (A31) ((r_30).length) (c32), .slice (A35) ((r_34).length) (c36)] 64), (1001, Ob.box b4 [.string (bs ([])), .int .i64 (0), .int .i64 (0), .slice (none) (0) (0), .slice (none) (0) (0)] 64), (700107, Ob.row (A24) ((out_23).length) (c25) 76 2 (cs26)), (700109, Ob.row (A31) ((r_30).length) (c32) 9 1 (cs33)), (700111, Ob.row (A35) ((r_34).length) (c36) 9 1 (cs37))] [(108, rdF RArg (cs26) (out_23)), (110, rdF Rep.str (cs33) (r_30)), (112, rdF Rep.str (cs37) (r_34))] a w) (fun m1 => m1) n ⟨([]), (r_.s_), (r_.at_), (r_.e_), (r_.sorts_), (r_.texts_), (some ⟨b6, 0, none⟩), (0), ([]), (Ap04), (cp04), (csp03), (Ap05), (cp05), (csp04), hg, (by first | omega | (rw [List.length_append]; omega) | (simp only [List.length_append]; omega) | (simp only [List.length_append, List.length_take, List.length_drop, List.length_cons, List.length_nil]; omega)), (hS.sb rfl rfl rfl)⟩ ?_
  clear hS a; rintro m1 a w ⟨out_23, r_27, r_28, r_29, r_30, r_34, A24, c25, cs26, A31, c32, cs33, A35, c36, cs37, hg, lr_27, hS⟩
  rcases m1 with _ | m1
  ·rw [r39_arguments_L0] at hg; cases hg
  rw [r39_arguments_L0] at hg
  apply wp_seq
  apply wp_seq
  obtain ⟨k38, hg, hk38⟩ := jn_some hg
  refine c_post (fun a w => ∃ (t_39 : Bool), k38 t_39 = some r ∧ St (⟨Try.f60.ntmps, M, C, w0⟩ : Ctx) [(1, .pointer (some ⟨b3, 0, none⟩)), (2, .pointer (some ⟨b4, 0, none⟩)), (4, .slice (A24) ((out_23).length) (c25)), (20, .bool (t_39))] [(1000, Ob.box b3 [.string (bs (r_27)), .int .i64 (r_28), .int .i64 (r_29), .slice (A31) ((r_30).length) (c32), .slice (A35) ((r_34).length) (c36)] 64), (1001, Ob.box b4 [.string (bs ([])), .int .i64 (0), .int .i64 (0), .slice (none) (0) (0), .slice (none) (0) (0)] 64), (700107, Ob.row (A24) ((out_23).length) (c25) 76 2 (cs26)), (700109, Ob.row (A31) ((r_30).length) (c32) 9 1 (cs33)), (700111, Ob.row (A35) ((r_34).length) (c36) 9 1 (cs37))] [(108, rdF RArg (cs26) (out_23)), (110, rdF Rep.str (cs33) (r_30)), (112, rdF Rep.str (cs37) (r_34))] a w) ?_ ?_
  ·rcases Decidable.em (r_29 = 0) with hs40 | hs40
   ·have hs40e : decide (r_29 = 0) = true := decide_eq_true hs40
    replace hg := br_t hg hs40
    rcases Decidable.em (((out_23).length) = 0) with hs41 | hs41
    ·have hs41e : decide (((out_23).length) = 0) = true := decide_eq_true hs41
     replace hg := br_t hg hs41
     obtain ⟨r42, hr42, hg⟩ := bind_some hg
     apply wp_region_lit
     refine qq hS rfl (y_boxField (o' := 2) hS rfl Try.underlying64 rfl rfl rfl) fun a hS => ?_
     refine qq hS rfl (y_loadBox1 (kk := 1000) hS rfl rfl rfl Try.underlying30 rfl) fun a hS => ?_
     refine qq hS rfl (yl_b (y_eql hS rfl rfl) hs40e) fun a hS => ?_
     refine qq hS rfl (y_move hS rfl) fun a hS => ?_
     refine gy hS rfl (y_move hS rfl) fun a hS => ?_
     refine gy hS rfl (y_lenSlice hS rfl Try.underlying53) fun a hS => ?_
     refine gy hS rfl (yl_b (y_eqlN (i := ((out_23).length)) (j := 0) hS rfl rfl) hs41e) fun a hS => ?_
     refine gy hS rfl (y_move hS rfl) fun a hS => ?_
     refine gy hS rfl (y_loadBox (kk := 1000) (n := 5) (vs := [.string (bs (r_27)), .int .i64 (r_28), .int .i64 (r_29), .slice (A31) ((r_30).length) (c32), .slice (A35) ((r_34).length) (c36)]) hS rfl rfl Try.underlying64 rfl rfl rfl rfl) fun a hS => ?_
     have hT := hS
     replace hT := hT.fz (R := Rep.str) (kk := 700109) [1000, 1001, 700107, 700111] 116 rfl rfl (hT.fact (k := 110) rfl) rfl
     replace hT := hT.fz (R := Rep.str) (kk := 700111) [1000, 1001, 700107] 117 rfl rfl (hT.fact (k := 112) rfl) rfl
     refine gl hS rfl (l_call (cap := []) hS rfl Try.func58 rfl (by kernel_rfl) rfl rfl (c_r39_next n _ _ hT.lt (reader.mk r_27 r_28 r_29 r_30 r_34) (A31) (c32) (A35) (c36) (by omega) (hT.fact (k := 116) rfl) (hT.fact (k := 117) rfl) (41 : UInt8) r42 hr42) ?_); clear hS hT a; intro v45 a w hK hp hS
     clear hK
     obtain rfl := hp
     refine gy hS rfl (y_pick_t hS rfl rfl) fun a hS => ?_
     refine gy hS rfl (y_not hS rfl) fun a hS => ?_
     refine qq hS rfl (y_pick_t hS rfl rfl) fun a hS => ?_
     apply wN
     exact ⟨(!(r42)), hg, (hS.sb rfl rfl rfl)⟩
    ·have hs41e : decide (((out_23).length) = 0) = false := decide_eq_false hs41
     replace hg := br_f hg hs41
     apply wp_region_lit
     refine qq hS rfl (y_boxField (o' := 2) hS rfl Try.underlying64 rfl rfl rfl) fun a hS => ?_
     refine qq hS rfl (y_loadBox1 (kk := 1000) hS rfl rfl rfl Try.underlying30 rfl) fun a hS => ?_
     refine qq hS rfl (yl_b (y_eql hS rfl rfl) hs40e) fun a hS => ?_
     refine qq hS rfl (y_move hS rfl) fun a hS => ?_
     refine gy hS rfl (y_move hS rfl) fun a hS => ?_
     refine gy hS rfl (y_lenSlice hS rfl Try.underlying53) fun a hS => ?_
     refine gy hS rfl (yl_b (y_eqlN (i := ((out_23).length)) (j := 0) hS rfl rfl) hs41e) fun a hS => ?_
     refine gy hS rfl (y_move hS rfl) fun a hS => ?_
     refine gn hS rfl fun a hS => ?_
     refine gn hS rfl fun a hS => ?_
     refine gy hS rfl (y_pick_f hS rfl rfl) fun a hS => ?_
     refine gy hS rfl (y_not hS rfl) fun a hS => ?_
     refine qq hS rfl (y_pick_t hS rfl rfl) fun a hS => ?_
     apply wN
     exact ⟨(true), hg, (hS.sb rfl rfl rfl)⟩
   ·have hs40e : decide (r_29 = 0) = false := decide_eq_false hs40
    replace hg := br_f hg hs40
    apply wp_region_lit
    refine qq hS rfl (y_boxField (o' := 2) hS rfl Try.underlying64 rfl rfl rfl) fun a hS => ?_
    refine qq hS rfl (y_loadBox1 (kk := 1000) hS rfl rfl rfl Try.underlying30 rfl) fun a hS => ?_
    refine qq hS rfl (yl_b (y_eql hS rfl rfl) hs40e) fun a hS => ?_
    refine qq hS rfl (y_move hS rfl) fun a hS => ?_
    refine gn hS rfl fun a hS => ?_
    refine gn hS rfl fun a hS => ?_
    refine gn hS rfl fun a hS => ?_
    refine gn hS rfl fun a hS => ?_
    refine gn hS rfl fun a hS => ?_
    refine gn hS rfl fun a hS => ?_
    refine gn hS rfl fun a hS => ?_
    refine gn hS rfl fun a hS => ?_
    refine qq hS rfl (y_pick_f hS rfl rfl) fun a hS => ?_
    apply wN
    exact ⟨(false), hg, (hS.sb rfl rfl rfl)⟩
  clear hS a; rintro a w ⟨t_39, hg, hS⟩
  subst hk38
  refine c_cond hS rfl (fun hc47 => ?_) (fun hc47 => ?_)
  ·replace hg := br_t hg hc47
   apply wp_skip
   refine p_norm ?_
   apply wp_block
   apply wR
   refine qq hS rfl (y_assign hS rfl) fun a hS => ?_
   apply wN
   apply wR
   refine qq hS rfl (y_assign hS rfl) fun a hS => ?_
   apply wN
   apply wp_seq
   obtain ⟨r48, hr48, hg⟩ := bind_some hg
   apply wp_region_lit
   refine qq hS rfl (y_loadBox (kk := 1000) (n := 5) (vs := [.string (bs (r_27)), .int .i64 (r_28), .int .i64 (r_29), .slice (A31) ((r_30).length) (c32), .slice (A35) ((r_34).length) (c36)]) hS rfl rfl Try.underlying64 rfl rfl rfl rfl) fun a hS => ?_
   have hT := hS.pk [(1000, 1000), (1001, 1001), (700107, 700107), (9200003, 700109), (9200004, 700111)] (by decide)
   replace hT := hT.al 9300003 110 rfl
   replace hT := hT.al 9300004 112 rfl
   refine l_seq rfl (l_callMut (cap := []) hT _ [] (sbA (by rfl)) trivial (by rfl) rfl Try.func59 rfl (by kernel_rfl) rfl rfl (c_r39_run n _ _ (hT.restLt [1000, 1001, 700107]) _ (reader.mk r_27 r_28 r_29 r_30 r_34) (A31) (c32) (A35) (c36) (cs33) (cs37) (by omega) (65 : UInt8) (90 : UInt8) (hT.wd.lendL _ _ _ (sbA (by rfl)) (keep_sub [1000, 1001, 700107]) (by rfl) (sbA (by rfl))) r48 hr48) ?_); intro v51 a' w' hK hp hF
   obtain ⟨Am04u52, cm04u52, csm0_3u52, Am05u52, cm05u52, csm0_4u52, rfl, lm01u52, lb1u52, hWu52⟩ := hp
   have hS2 := St.mk hF (hT.wd.back (sbA (by rfl)) (keep_sub [1000, 1001, 700107]) (by rfl) hWu52 (by rfl))
   clear hS hT hF hWu52 hK; revert hS2; revert w'; revert a'; intro a w hS
   replace hS := hS.al 120 9300003 rfl
   replace hS := hS.al 121 9300004 rfl
   replace hS := hS.ren [(1000, Ob.box b3 [.string (bs (r_27)), .int .i64 (r_28), .int .i64 (r_29), .slice (A31) ((r_30).length) (c32), .slice (A35) ((r_34).length) (c36)] 64), (1001, Ob.box b4 [.string (bs ([])), .int .i64 (0), .int .i64 (0), .slice (none) (0) (0), .slice (none) (0) (0)] 64), (700107, Ob.row (A24) ((out_23).length) (c25) 76 2 (cs26)), (700109, Ob.row (Am04u52) ((r48.1.sorts_).length) (cm04u52) 9 1 (csm0_3u52)), (700111, Ob.row (Am05u52) ((r48.1.texts_).length) (cm05u52) 9 1 (csm0_4u52))] [1000, 1001, 700107, 9200003, 9200004] ⟨rfl, rfl, rfl, rfl, rfl, trivial⟩ (by decide)
   refine qq hS rfl (y_move hS rfl) fun a hS => ?_
   refine qq hS rfl (y_extract hS rfl rfl) fun a hS => ?_
   refine qq hS rfl (y_extract hS rfl rfl) fun a hS => ?_
   refine l_seq rfl (l_store (n := 5) (cs' := [.string (bs (r48.1.s_)), .int .i64 (r48.1.at_), .int .i64 (r48.1.e_), .slice (Am04u52) ((r48.1.sorts_).length) (cm04u52), .slice (Am05u52) ((r48.1.texts_).length) (cm05u52)]) hS 1000 rfl rfl rfl rfl rfl rfl rfl rfl ?_); clear hS; intro w hK hS; clear hK
   refine qq hS rfl (y_assign hS rfl) fun a hS => ?_
   apply wN
   apply wp_seq
   obtain ⟨r53, hr53, hg⟩ := bind_some hg
   apply wp_region_lit
   refine qq hS rfl (y_loadBox (kk := 1000) (n := 5) (vs := [.string (bs (r48.1.s_)), .int .i64 (r48.1.at_), .int .i64 (r48.1.e_), .slice (Am04u52) ((r48.1.sorts_).length) (cm04u52), .slice (Am05u52) ((r48.1.texts_).length) (cm05u52)]) hS rfl rfl Try.underlying64 rfl rfl rfl rfl) fun a hS => ?_
   have hT := hS.pk [(1000, 1000), (1001, 1001), (700107, 700107), (9200003, 700109), (9200004, 700111)] (by decide)
   replace hT := hT.al 9300003 120 rfl
   replace hT := hT.al 9300004 121 rfl
   refine l_seq rfl (l_callMut (cap := []) hT _ [] (sbA (by rfl)) trivial (by rfl) rfl Try.func36 rfl (by kernel_rfl) rfl rfl (c_r39_word n _ _ (hT.restLt [1000, 1001, 700107]) _ r48.1 (Am04u52) (cm04u52) (Am05u52) (cm05u52) (csm0_3u52) (csm0_4u52) (by omega) [32] (by first | omega | (rw [List.length_append]; omega) | (simp only [List.length_append]; omega) | (simp only [List.length_append, List.length_take, List.length_drop, List.length_cons, List.length_nil]; omega)) (hT.wd.lendL _ _ _ (sbA (by rfl)) (keep_sub [1000, 1001, 700107]) (by rfl) (sbA (by rfl))) r53 hr53) ?_); intro v56 a' w' hK hp hF
   obtain ⟨Am04u57, cm04u57, csm0_3u57, Am05u57, cm05u57, csm0_4u57, rfl, lm01u57, hWu57⟩ := hp
   have hS2 := St.mk hF (hT.wd.back (sbA (by rfl)) (keep_sub [1000, 1001, 700107]) (by rfl) hWu57 (by rfl))
   clear hS hT hF hWu57 hK; revert hS2; revert w'; revert a'; intro a w hS
   replace hS := hS.al 124 9300003 rfl
   replace hS := hS.al 125 9300004 rfl
   replace hS := hS.ren [(1000, Ob.box b3 [.string (bs (r48.1.s_)), .int .i64 (r48.1.at_), .int .i64 (r48.1.e_), .slice (Am04u52) ((r48.1.sorts_).length) (cm04u52), .slice (Am05u52) ((r48.1.texts_).length) (cm05u52)] 64), (1001, Ob.box b4 [.string (bs ([])), .int .i64 (0), .int .i64 (0), .slice (none) (0) (0), .slice (none) (0) (0)] 64), (700107, Ob.row (A24) ((out_23).length) (c25) 76 2 (cs26)), (700109, Ob.row (Am04u57) ((r53.sorts_).length) (cm04u57) 9 1 (csm0_3u57)), (700111, Ob.row (Am05u57) ((r53.texts_).length) (cm05u57) 9 1 (csm0_4u57))] [1000, 1001, 700107, 9200003, 9200004] ⟨rfl, rfl, rfl, rfl, rfl, trivial⟩ (by decide)
   refine l_seq rfl (l_store (n := 5) (cs' := [.string (bs (r53.s_)), .int .i64 (r53.at_), .int .i64 (r53.e_), .slice (Am04u57) ((r53.sorts_).length) (cm04u57), .slice (Am05u57) ((r53.texts_).length) (cm05u57)]) hS 1000 rfl rfl rfl rfl rfl rfl rfl rfl ?_); clear hS; intro w hK hS; clear hK
   apply wN
   apply wp_seq
   obtain ⟨r58, hr58, hg⟩ := bind_some hg
   apply wp_region_lit
   refine qq hS rfl (y_loadBox (kk := 1000) (n := 5) (vs := [.string (bs (r53.s_)), .int .i64 (r53.at_), .int .i64 (r53.e_), .slice (Am04u57) ((r53.sorts_).length) (cm04u57), .slice (Am05u57) ((r53.texts_).length) (cm05u57)]) hS rfl rfl Try.underlying64 rfl rfl rfl rfl) fun a hS => ?_
   have hT := hS.pk [(1000, 1000), (1001, 1001), (700107, 700107), (9200003, 700109), (9200004, 700111)] (by decide)
   replace hT := hT.al 9300003 124 rfl
   replace hT := hT.al 9300004 125 rfl
   refine l_seq rfl (l_callMut (cap := []) hT _ [] (sbA (by rfl)) trivial (by rfl) rfl Try.func35 rfl (by kernel_rfl) rfl rfl (c_r39_variableOf n _ _ (hT.restLt [1000, 1001, 700107]) _ r53 (Am04u57) (cm04u57) (Am05u57) (cm05u57) (csm0_3u57) (csm0_4u57) (by omega) (hT.wd.lendL _ _ _ (sbA (by rfl)) (keep_sub [1000, 1001, 700107]) (by rfl) (sbA (by rfl))) r58 hr58) ?_); intro v61 a' w' hK hp hF
   obtain ⟨Am04u62, cm04u62, csm0_3u62, Am05u62, cm05u62, csm0_4u62, rfl, lm01u62, hWu62⟩ := hp
   have hS2 := St.mk hF (hT.wd.back (sbA (by rfl)) (keep_sub [1000, 1001, 700107]) (by rfl) hWu62 (by rfl))
   clear hS hT hF hWu62 hK; revert hS2; revert w'; revert a'; intro a w hS
   replace hS := hS.al 128 9300003 rfl
   replace hS := hS.al 129 9300004 rfl
   replace hS := hS.ren [(1000, Ob.box b3 [.string (bs (r53.s_)), .int .i64 (r53.at_), .int .i64 (r53.e_), .slice (Am04u57) ((r53.sorts_).length) (cm04u57), .slice (Am05u57) ((r53.texts_).length) (cm05u57)] 64), (1001, Ob.box b4 [.string (bs ([])), .int .i64 (0), .int .i64 (0), .slice (none) (0) (0), .slice (none) (0) (0)] 64), (700107, Ob.row (A24) ((out_23).length) (c25) 76 2 (cs26)), (700109, Ob.row (Am04u62) ((r58.1.sorts_).length) (cm04u62) 9 1 (csm0_3u62)), (700111, Ob.row (Am05u62) ((r58.1.texts_).length) (cm05u62) 9 1 (csm0_4u62))] [1000, 1001, 700107, 9200003, 9200004] ⟨rfl, rfl, rfl, rfl, rfl, trivial⟩ (by decide)
   refine qq hS rfl (y_move hS rfl) fun a hS => ?_
   refine qq hS rfl (y_extract hS rfl rfl) fun a hS => ?_
   refine qq hS rfl (y_extract hS rfl rfl) fun a hS => ?_
   refine l_seq rfl (l_store (n := 5) (cs' := [.string (bs (r58.1.s_)), .int .i64 (r58.1.at_), .int .i64 (r58.1.e_), .slice (Am04u62) ((r58.1.sorts_).length) (cm04u62), .slice (Am05u62) ((r58.1.texts_).length) (cm05u62)]) hS 1000 rfl rfl rfl rfl rfl rfl rfl rfl ?_); clear hS; intro w hK hS; clear hK
   refine qq hS rfl (y_assign hS rfl) fun a hS => ?_
   apply wN
   apply wp_seq
   obtain ⟨hk64, hg⟩ := chk_some hg
   apply wp_region_lit
   refine qq hS rfl (y_move hS rfl) fun a hS => ?_
   refine qq hS rfl (y_move hS rfl) fun a hS => ?_
   refine qq hS rfl (y_move hS rfl) fun a hS => ?_
   refine qq hS rfl (y_build (parts := [(0, .tmp 34), (1, .tmp 35)]) (ps := [(0, .string (bs (r48.2))), (1, .int .i64 (r58.2))]) (cells := #[.string (bs (r48.2)), .int .i64 (r58.2)]) hS rfl (by kernel_rfl)) fun a hS => ?_
   refine l_seq rfl (l_buildDense (sz := 2) hS 1804 rfl rfl rfl Try.underlying53 rfl rfl rfl rfl rfl rfl rfl ?_); clear hS a; intro b67 a w hbb67 hK hS
   clear hbb67 hK
   replace hS := hS.add 132 (rdF RArg (cellsOfL [.agg #[.string (bs (r48.2)), .int .i64 (r58.2)]]) ([(Arg.mk r48.2 r58.2)])) (RdAll.cons (by exact (RArg.mk' (x := (Arg.mk r48.2 r58.2)) (by omega))) (RdAll.nil _ _ _))
   have hs69 := row_src (hS.wd.holds 1804 _ rfl) (RdAll.one (hS.fact (k := 132) rfl))
   refine l_seq rfl (l_append (sz := 2) (by_ := 24) (N := (out_23 ++ [(Arg.mk r48.2 r58.2)]).length) (ys := cs26 ++ (cellsOfL [.agg #[.string (bs (r48.2)), .int .i64 (r58.2)]])) hS 700107 rfl rfl rfl Try.underlying53 rfl rfl rfl rfl rfl hs69 (by simp) rfl (by have hr := hk64; clear hg; first | omega | (simp only [List.length_append, List.length_cons, List.length_nil] at hr ⊢; omega) | (simp at hr ⊢; omega)) (by have hr := hk64; clear hg; first | omega | (simp only [List.length_append, List.length_cons, List.length_nil] at hr ⊢; omega) | (simp at hr ⊢; omega)) rfl ?_); clear hS a; intro Aq68 cq68 a w hA hK hS
   clear hK hA
   replace hS := hS.add 133 (rdF RArg (cs26 ++ (cellsOfL [.agg #[.string (bs (r48.2)), .int .i64 (r58.2)]])) (out_23 ++ [(Arg.mk r48.2 r58.2)])) (RdAll.append (hS.fact (k := 108) rfl) (hS.fact (k := 132) rfl))
   refine qq hS rfl (y_assign hS rfl) fun a hS => ?_
   apply wN
   apply wp_seq
   apply wp_seq
   obtain ⟨r70, hr70, hg⟩ := bind_some hg
   apply wp_region_lit
   refine qq hS rfl (y_loadBox (kk := 1000) (n := 5) (vs := [.string (bs (r58.1.s_)), .int .i64 (r58.1.at_), .int .i64 (r58.1.e_), .slice (Am04u62) ((r58.1.sorts_).length) (cm04u62), .slice (Am05u62) ((r58.1.texts_).length) (cm05u62)]) hS rfl rfl Try.underlying64 rfl rfl rfl rfl) fun a hS => ?_
   have hT := hS
   replace hT := hT.fz (R := Rep.str) (kk := 700109) [1000, 1001, 1804, 700107, 700111] 136 rfl rfl (hT.fact (k := 128) rfl) rfl
   replace hT := hT.fz (R := Rep.str) (kk := 700111) [1000, 1001, 1804, 700107] 137 rfl rfl (hT.fact (k := 129) rfl) rfl
   refine l_seq rfl (l_call (cap := []) hS rfl Try.func58 rfl (by kernel_rfl) rfl rfl (c_r39_next n _ _ hT.lt r58.1 (Am04u62) (cm04u62) (Am05u62) (cm05u62) (by omega) (hT.fact (k := 136) rfl) (hT.fact (k := 137) rfl) (44 : UInt8) r70 hr70) ?_); clear hS hT a; intro v73 a w hK hp hS
   clear hK
   obtain rfl := hp
   refine qq hS rfl (y_not hS rfl) fun a hS => ?_
   apply wN
   refine c_cond hS rfl (fun hc75 => ?_) (fun hc75 => ?_)
   ·replace hg := br_t hg hc75
    apply wp_exit
    refine p_then ?_
    refine p_out rfl ?_
    refine p_then ?_
    refine p_in ?_
    refine p_norm ?_
    replace hS := hS.add 102 (rdF RArg (cs26 ++ (cellsOfL [.agg #[.string (bs (r48.2)), .int .i64 (r58.2)]])) (out_23 ++ [(Arg.mk r48.2 r58.2)])) (hS.fact (k := 133) rfl)
    replace hS := hS.al 104 128 rfl
    replace hS := hS.al 106 129 rfl
    replace hS := hS.pk [(1000, 1000), (1001, 1001), (1804, 1804), (700101, 700107), (700103, 700109), (700105, 700111)] (by decide)
    exact ⟨(out_23 ++ [(Arg.mk r48.2 r58.2)]), (r58.1.s_), (r58.1.at_), (r58.1.e_), (r58.1.sorts_), (r58.1.texts_), (Aq68), (cq68), (cs26 ++ (cellsOfL [.agg #[.string (bs (r48.2)), .int .i64 (r58.2)]])), (Am04u62), (cm04u62), (csm0_3u62), (Am05u62), (cm05u62), (csm0_4u62), hg, (by first | omega | (rw [List.length_append]; omega) | (simp only [List.length_append]; omega) | (simp only [List.length_append, List.length_take, List.length_drop, List.length_cons, List.length_nil]; omega)), (hS.sb rfl rfl rfl)⟩
   ·replace hg := br_f hg (by rw [hc75]; exact Bool.false_ne_true)
    apply wp_skip
    refine p_norm ?_
    obtain ⟨r76, hr76, hg⟩ := bind_some hg
    apply wp_region_lit
    refine qq hS rfl (y_loadBox (kk := 1000) (n := 5) (vs := [.string (bs (r58.1.s_)), .int .i64 (r58.1.at_), .int .i64 (r58.1.e_), .slice (Am04u62) ((r58.1.sorts_).length) (cm04u62), .slice (Am05u62) ((r58.1.texts_).length) (cm05u62)]) hS rfl rfl Try.underlying64 rfl rfl rfl rfl) fun a hS => ?_
    have hT := hS.pk [(1000, 1000), (1001, 1001), (1804, 1804), (700107, 700107), (9200003, 700109), (9200004, 700111)] (by decide)
    replace hT := hT.al 9300003 128 rfl
    replace hT := hT.al 9300004 129 rfl
    refine l_seq rfl (l_callMut (cap := []) hT _ [] (sbA (by rfl)) trivial (by rfl) rfl Try.func36 rfl (by kernel_rfl) rfl rfl (c_r39_word n _ _ (hT.restLt [1000, 1001, 1804, 700107]) _ r58.1 (Am04u62) (cm04u62) (Am05u62) (cm05u62) (csm0_3u62) (csm0_4u62) (by omega) [44, 32] (by first | omega | (rw [List.length_append]; omega) | (simp only [List.length_append]; omega) | (simp only [List.length_append, List.length_take, List.length_drop, List.length_cons, List.length_nil]; omega)) (hT.wd.lendL _ _ _ (sbA (by rfl)) (keep_sub [1000, 1001, 1804, 700107]) (by rfl) (sbA (by rfl))) r76 hr76) ?_); intro v79 a' w' hK hp hF
    obtain ⟨Am04u80, cm04u80, csm0_3u80, Am05u80, cm05u80, csm0_4u80, rfl, lm01u80, hWu80⟩ := hp
    have hS2 := St.mk hF (hT.wd.back (sbA (by rfl)) (keep_sub [1000, 1001, 1804, 700107]) (by rfl) hWu80 (by rfl))
    clear hS hT hF hWu80 hK; revert hS2; revert w'; revert a'; intro a w hS
    replace hS := hS.al 140 9300003 rfl
    replace hS := hS.al 141 9300004 rfl
    replace hS := hS.ren [(1000, Ob.box b3 [.string (bs (r58.1.s_)), .int .i64 (r58.1.at_), .int .i64 (r58.1.e_), .slice (Am04u62) ((r58.1.sorts_).length) (cm04u62), .slice (Am05u62) ((r58.1.texts_).length) (cm05u62)] 64), (1001, Ob.box b4 [.string (bs ([])), .int .i64 (0), .int .i64 (0), .slice (none) (0) (0), .slice (none) (0) (0)] 64), (1804, Ob.row (some ⟨b67, 0, none⟩) (1) (1) 76 2 (cellsOfL [.agg #[.string (bs (r48.2)), .int .i64 (r58.2)]])), (700107, Ob.row (Aq68) ((out_23 ++ [(Arg.mk r48.2 r58.2)]).length) (cq68) 76 2 (cs26 ++ (cellsOfL [.agg #[.string (bs (r48.2)), .int .i64 (r58.2)]]))), (700109, Ob.row (Am04u80) ((r76.sorts_).length) (cm04u80) 9 1 (csm0_3u80)), (700111, Ob.row (Am05u80) ((r76.texts_).length) (cm05u80) 9 1 (csm0_4u80))] [1000, 1001, 1804, 700107, 9200003, 9200004] ⟨rfl, rfl, rfl, rfl, rfl, rfl, trivial⟩ (by decide)
    refine l_seq rfl (l_store (n := 5) (cs' := [.string (bs (r76.s_)), .int .i64 (r76.at_), .int .i64 (r76.e_), .slice (Am04u80) ((r76.sorts_).length) (cm04u80), .slice (Am05u80) ((r76.texts_).length) (cm05u80)]) hS 1000 rfl rfl rfl rfl rfl rfl rfl rfl ?_); clear hS; intro w hK hS; clear hK
    apply wpList_nil
    refine p_inN ?_
    refine p_norm ?_
    replace hS := hS.add 108 (rdF RArg (cs26 ++ (cellsOfL [.agg #[.string (bs (r48.2)), .int .i64 (r58.2)]])) (out_23 ++ [(Arg.mk r48.2 r58.2)])) (hS.fact (k := 133) rfl)
    replace hS := hS.al 110 140 rfl
    replace hS := hS.al 112 141 rfl
    exact ⟨m1, Nat.lt_succ_self _, ⟨(out_23 ++ [(Arg.mk r48.2 r58.2)]), (r76.s_), (r76.at_), (r76.e_), (r76.sorts_), (r76.texts_), (Aq68), (cq68), (cs26 ++ (cellsOfL [.agg #[.string (bs (r48.2)), .int .i64 (r58.2)]])), (Am04u80), (cm04u80), (csm0_3u80), (Am05u80), (cm05u80), (csm0_4u80), hg, (by first | omega | (rw [List.length_append]; omega) | (simp only [List.length_append]; omega) | (simp only [List.length_append, List.length_take, List.length_drop, List.length_cons, List.length_nil]; omega)), (hS.sb rfl rfl rfl)⟩⟩
  ·replace hg := br_f hg (by rw [hc47]; exact Bool.false_ne_true)
   apply wp_exit
   refine p_then ?_
   refine p_then ?_
   refine p_in ?_
   refine p_norm ?_
   replace hS := hS.al 102 108 rfl
   replace hS := hS.al 104 110 rfl
   replace hS := hS.al 106 112 rfl
   replace hS := hS.pk [(1000, 1000), (1001, 1001), (700101, 700107), (700103, 700109), (700105, 700111)] (by decide)
   exact ⟨(out_23), (r_27), (r_28), (r_29), (r_30), (r_34), (A24), (c25), (cs26), (A31), (c32), (cs33), (A35), (c36), (cs37), hg, (by first | omega | (rw [List.length_append]; omega) | (simp only [List.length_append]; omega) | (simp only [List.length_append, List.length_take, List.length_drop, List.length_cons, List.length_nil]; omega)), (hS.sb rfl rfl rfl)⟩
 clear hS a; rintro a w ⟨out_8, r_12, r_13, r_14, r_15, r_19, A9, c10, cs11, A16, c17, cs18, A20, c21, cs22, hg, lr_12, hS⟩
 subst hk7
 apply wp_seq
 obtain ⟨r81, hr81, hg⟩ := bind_some hg
 apply wp_region_lit
 refine qq hS rfl (y_loadBox (kk := 1000) (n := 5) (vs := [.string (bs (r_12)), .int .i64 (r_13), .int .i64 (r_14), .slice (A16) ((r_15).length) (c17), .slice (A20) ((r_19).length) (c21)]) hS rfl rfl Try.underlying64 rfl rfl rfl rfl) fun a hS => ?_
 have hT := hS.pk [(1000, 1000), (1001, 1001), (700101, 700101), (9200003, 700103), (9200004, 700105)] (by decide)
 replace hT := hT.al 9300003 104 rfl
 replace hT := hT.al 9300004 106 rfl
 refine l_seq rfl (l_callMut (cap := []) hT _ [] (sbA (by rfl)) trivial (by rfl) rfl Try.func36 rfl (by kernel_rfl) rfl rfl (c_r39_word n _ _ (hT.restLt [1000, 1001, 700101]) _ (reader.mk r_12 r_13 r_14 r_15 r_19) (A16) (c17) (A20) (c21) (cs18) (cs22) (by omega) [41] (by first | omega | (rw [List.length_append]; omega) | (simp only [List.length_append]; omega) | (simp only [List.length_append, List.length_take, List.length_drop, List.length_cons, List.length_nil]; omega)) (hT.wd.lendL _ _ _ (sbA (by rfl)) (keep_sub [1000, 1001, 700101]) (by rfl) (sbA (by rfl))) r81 hr81) ?_); intro v84 a' w' hK hp hF
 obtain ⟨Am04u85, cm04u85, csm0_3u85, Am05u85, cm05u85, csm0_4u85, rfl, lm01u85, hWu85⟩ := hp
 have hS2 := St.mk hF (hT.wd.back (sbA (by rfl)) (keep_sub [1000, 1001, 700101]) (by rfl) hWu85 (by rfl))
 clear hS hT hF hWu85 hK; revert hS2; revert w'; revert a'; intro a w hS
 replace hS := hS.al 144 9300003 rfl
 replace hS := hS.al 145 9300004 rfl
 replace hS := hS.ren [(1000, Ob.box b3 [.string (bs (r_12)), .int .i64 (r_13), .int .i64 (r_14), .slice (A16) ((r_15).length) (c17), .slice (A20) ((r_19).length) (c21)] 64), (1001, Ob.box b4 [.string (bs ([])), .int .i64 (0), .int .i64 (0), .slice (none) (0) (0), .slice (none) (0) (0)] 64), (700101, Ob.row (A9) ((out_8).length) (c10) 76 2 (cs11)), (700103, Ob.row (Am04u85) ((r81.sorts_).length) (cm04u85) 9 1 (csm0_3u85)), (700105, Ob.row (Am05u85) ((r81.texts_).length) (cm05u85) 9 1 (csm0_4u85))] [1000, 1001, 700101, 9200003, 9200004] ⟨rfl, rfl, rfl, rfl, rfl, trivial⟩ (by decide)
 refine qq hS rfl (y_move hS rfl) fun a hS => ?_
 refine l_seq rfl (l_store (n := 5) (cs' := [.string (bs (r81.s_)), .int .i64 (r81.at_), .int .i64 (r81.e_), .slice (Am04u85) ((r81.sorts_).length) (cm04u85), .slice (Am05u85) ((r81.texts_).length) (cm05u85)]) hS 1001 rfl rfl rfl rfl rfl rfl rfl rfl ?_); clear hS; intro w hK hS; clear hK
 refine qq hS rfl (y_assign hS rfl) fun a hS => ?_
 apply wN
 apply wp_ret
 replace hS := hS.freeze (R := RArg) (kk := 700101) (L' := [(1000, Ob.box b3 [.string (bs (r_12)), .int .i64 (r_13), .int .i64 (r_14), .slice (A16) ((r_15).length) (c17), .slice (A20) ((r_19).length) (c21)] 64), (1001, Ob.box b4 [.string (bs (r81.s_)), .int .i64 (r81.at_), .int .i64 (r81.e_), .slice (Am04u85) ((r81.sorts_).length) (cm04u85), .slice (Am05u85) ((r81.texts_).length) (cm05u85)] 64), (700103, Ob.row (Am04u85) ((r81.sorts_).length) (cm04u85) 9 1 (csm0_3u85)), (700105, Ob.row (Am05u85) ((r81.texts_).length) (cm05u85) 9 1 (csm0_4u85))]) 146 rfl rfl (hS.fact (k := 102) rfl) ⟨rfl, rfl, rfl, rfl, trivial⟩ rfl
 replace hS := hS.al 9300003 144 rfl
 replace hS := hS.al 9300004 145 rfl
 replace hS := hS.al 9500100 146 rfl
 obtain rfl := Option.some.inj hg
 refine fin2 (fn := Try.f60) hS rfl (r_cell (kk := 1001) (n := 5) (vs := [.string (bs (r81.s_)), .int .i64 (r81.at_), .int .i64 (r81.e_), .slice (Am04u85) ((r81.sorts_).length) (cm04u85), .slice (Am05u85) ((r81.texts_).length) (cm05u85)]) hS rfl rfl Try.underlying64 rfl rfl rfl rfl) (r_tmp hS rfl) ?_
 exact ⟨(Am04u85), (cm04u85), (csm0_3u85), (Am05u85), (cm05u85), (csm0_4u85), (A9), (c10), rfl, (by omega), ((hS.ren [(9200003, Ob.row (Am04u85) ((r81.sorts_).length) (cm04u85) 9 1 (csm0_3u85)), (9200004, Ob.row (Am05u85) ((r81.texts_).length) (cm05u85) 9 1 (csm0_4u85))] [700103, 700105] ⟨rfl, rfl, trivial⟩ (by decide)).outL ⟨rfl, rfl, trivial⟩ ⟨rfl, rfl, rfl, trivial⟩)⟩
set_option maxHeartbeats 400000 in
theorem c_r39_predications (n : Nat) (M : Bs) (w0 : World) (hM : ∀ b, M b → b < w0.heap.size) (C : Bs) (r_ : reader) (Ap04 : Option Addr) (cp04 : Nat) (Ap05 : Option Addr) (cp05 : Nat) (csp03 : List Value) (csp04 : List Value) (lp01 : (r_.s_).length ≤ 9223372036854775807) (hW : Wd ⟨0, M, C, w0⟩ [(9200003, Ob.row (Ap04) ((r_.sorts_).length) (cp04) 9 1 (csp03)), (9200004, Ob.row (Ap05) ((r_.texts_).length) (cp05) 9 1 (csp04))] [(9300003, rdF Rep.str (csp03) (r_.sorts_)), (9300004, rdF Rep.str (csp04) (r_.texts_))] w0) (r : (reader × (List EP))) (hg : r39_predications n r_ = some r) :
    Calls Try.prog 37 [.agg #[.string (bs (r_.s_)), .int .i64 (r_.at_), .int .i64 (r_.e_), .slice (Ap04) ((r_.sorts_).length) (cp04), .slice (Ap05) ((r_.texts_).length) (cp05)]].toArray w0 (Ret C w0 fun v w => ∃ (Am04 : Option Addr), ∃ (cm04 : Nat), ∃ (csm0_3 : List Value), ∃ (Am05 : Option Addr), ∃ (cm05 : Nat), ∃ (csm0_4 : List Value), ∃ (Ab1 : Option Addr), ∃ (cb1 : Nat), v = .tuple #[.agg #[.string (bs (r.1.s_)), .int .i64 (r.1.at_), .int .i64 (r.1.e_), .slice (Am04) ((r.1.sorts_).length) (cm04), .slice (Am05) ((r.1.texts_).length) (cm05)], .slice (Ab1) ((r.2).length) (cb1)] ∧ ((r.1.s_).length ≤ 9223372036854775807) ∧ (Wd ⟨0, M, C, w0⟩ [(9200003, Ob.row (Am04) ((r.1.sorts_).length) (cm04) 9 1 (csm0_3)), (9200004, Ob.row (Am05) ((r.1.texts_).length) (cm05) 9 1 (csm0_4))] [(9300003, rdF Rep.str (csm0_3) (r.1.sorts_)), (9300004, rdF Rep.str (csm0_4) (r.1.texts_)), (9500100, slF REP (Ab1) ((r.2).length) (cb1) (r.2))] w)) := by
 unfold r39_predications at hg
 refine enterL M C Try.func37 rfl rfl hW ?_
 intro a hS
 apply wR
 refine l_seq rfl (l_box (zs := [.string (bs (r_.s_)), .int .i64 (r_.at_), .int .i64 (r_.e_), .slice (Ap04) ((r_.sorts_).length) (cp04), .slice (Ap05) ((r_.texts_).length) (cp05)]) hS 1000 rfl rfl rfl rfl ?_); clear hS a; intro b3 a w hb hK hS
 clear hb hK
 refine l_seq rfl (l_alloc (zs := [.string (bs ([])), .int .i64 (0), .int .i64 (0), .slice (none) (0) (0), .slice (none) (0) (0)]) hS 1001 rfl rfl rfl rfl ?_); clear hS a; intro b4 a w hb hK hS
 clear hb hK
 refine qq hS rfl (y_assign hS rfl) fun a hS => ?_
 apply wN
 apply wR
 refine l_seq rfl (l_buildEmpty (sz := 3) hS 1100 Try.underlying23 rfl rfl rfl ?_); clear hS a; intro b6 a w hbb6 hK hS
 clear hbb6 hK
 refine qq hS rfl (y_assign hS rfl) fun a hS => ?_
 apply wN
 apply wp_seq
 obtain ⟨k7, hg, hk7⟩ := jn_some hg
 refine c_post (fun a w => ∃ (out_8 : (List EP)), ∃ (r_12 : (List UInt8)), ∃ (r_13 : Int), ∃ (r_14 : Int), ∃ (r_15 : (List (List UInt8))), ∃ (r_19 : (List (List UInt8))), ∃ (A9 : Option Addr), ∃ (c10 : Nat), ∃ (cs11 : List Value), ∃ (A16 : Option Addr), ∃ (c17 : Nat), ∃ (cs18 : List Value), ∃ (A20 : Option Addr), ∃ (c21 : Nat), ∃ (cs22 : List Value), k7 out_8 r_12 r_13 r_14 r_15 r_19 = some r ∧ ((r_12).length ≤ 9223372036854775807) ∧ St (⟨Try.f37.ntmps, M, C, w0⟩ : Ctx) [(1, .pointer (some ⟨b3, 0, none⟩)), (2, .pointer (some ⟨b4, 0, none⟩)), (4, .slice (A9) ((out_8).length) (c10))] [(1000, Ob.box b3 [.string (bs (r_12)), .int .i64 (r_13), .int .i64 (r_14), .slice (A16) ((r_15).length) (c17), .slice (A20) ((r_19).length) (c21)] 64), (1001, Ob.box b4 [.string (bs ([])), .int .i64 (0), .int .i64 (0), .slice (none) (0) (0), .slice (none) (0) (0)] 64), (700101, Ob.row (A9) ((out_8).length) (c10) 55 3 (cs11)), (700103, Ob.row (A16) ((r_15).length) (c17) 9 1 (cs18)), (700105, Ob.row (A20) ((r_19).length) (c21) 9 1 (cs22))] [(102, rdF REP (cs11) (out_8)), (104, rdF Rep.str (cs18) (r_15)), (106, rdF Rep.str (cs22) (r_19))] a w) ?_ ?_
 ·apply wp_block
  replace hS := hS.add 113 (rdF REP ([]) ([])) (RdAll.nil _ _ _)
  replace hS := hS.al 108 113 rfl
  replace hS := hS.al 110 9300003 rfl
  replace hS := hS.al 112 9300004 rfl
  replace hS := hS.pk [(1000, 1000), (1001, 1001), (700107, 1100), (700109, 9200003), (700111, 9200004)] (by decide)
  refine c_loop (σ := Nat) (fun m1 a w => ∃ (out_23 : (List EP)), ∃ (r_27 : (List UInt8)), ∃ (r_28 : Int), ∃ (r_29 : Int), ∃ (r_30 : (List (List UInt8))), ∃ (r_34 : (List (List UInt8))), ∃ (A24 : Option Addr), ∃ (c25 : Nat), ∃ (cs26 : List Value), ∃ (A31 : Option Addr), ∃ (c32 : Nat), ∃ (cs33 : List Value), ∃ (A35 : Option Addr), ∃ (c36 : Nat), ∃ (cs37 : List Value), r39_predications_L0 n k7 m1 out_23 r_27 r_28 r_29 r_30 r_34 = some r ∧ ((r_27).length ≤ 9223372036854775807) ∧ St (⟨Try.f37.ntmps, M, C, w0⟩ : Ctx) [(1, .pointer (some ⟨b3, 0, none⟩)), (2, .pointer (some ⟨b4, 0, none⟩)), (4, .slice (A24) ((out_23).length) (c25))] [(1000, Ob.box b3 [.string (bs (r_27)), .int .i64 (r_28), .int .i64 (r_29), .slice (A31) ((r_30).length) (c32), .slice (A35) ((r_34).length) (c36)] 64), (1001, Ob.box b4 [.string (bs ([])), .int .i64 (0), .int .i64 (0), .slice (none) (0) (0), .slice (none) (0) (0)] 64), (700107, Ob.row (A24) ((out_23).length) (c25) 55 3 (cs26)), (700109, Ob.row (A31) ((r_30).length) (c32) 9 1 (cs33)), (700111, Ob.row (A35) ((r_34).length) (c36) 9 1 (cs37))] [(108, rdF REP (cs26) (out_23)), (110, rdF Rep.str (cs33) (r_30)), (112, rdF Rep.str (cs37) (r_34))] a w) (fun m1 => m1) n ⟨([]), (r_.s_), (r_.at_), (r_.e_), (r_.sorts_), (r_.texts_), (some ⟨b6, 0, none⟩), (0), ([]), (Ap04), (cp04), (csp03), (Ap05), (cp05), (csp04), hg, (by first | omega | (rw [List.length_append]; omega) | (simp only [List.length_append]; omega) | (simp only [List.length_append, List.length_take, List.length_drop, List.length_cons, List.length_nil]; omega)), (hS.sb rfl rfl rfl)⟩ ?_
  clear hS a; rintro m1 a w ⟨out_23, r_27, r_28, r_29, r_30, r_34, A24, c25, cs26, A31, c32, cs33, A35, c36, cs37, hg, lr_27, hS⟩
  rcases m1 with _ | m1
  ·rw [r39_predications_L0] at hg; cases hg
  rw [r39_predications_L0] at hg
  apply wp_seq
  apply wp_seq
  obtain ⟨k38, hg, hk38⟩ := jn_some hg
  refine c_post (fun a w => ∃ (t_39 : Bool), k38 t_39 = some r ∧ St (⟨Try.f37.ntmps, M, C, w0⟩ : Ctx) [(1, .pointer (some ⟨b3, 0, none⟩)), (2, .pointer (some ⟨b4, 0, none⟩)), (4, .slice (A24) ((out_23).length) (c25)), (21, .bool (t_39))] [(1000, Ob.box b3 [.string (bs (r_27)), .int .i64 (r_28), .int .i64 (r_29), .slice (A31) ((r_30).length) (c32), .slice (A35) ((r_34).length) (c36)] 64), (1001, Ob.box b4 [.string (bs ([])), .int .i64 (0), .int .i64 (0), .slice (none) (0) (0), .slice (none) (0) (0)] 64), (700107, Ob.row (A24) ((out_23).length) (c25) 55 3 (cs26)), (700109, Ob.row (A31) ((r_30).length) (c32) 9 1 (cs33)), (700111, Ob.row (A35) ((r_34).length) (c36) 9 1 (cs37))] [(108, rdF REP (cs26) (out_23)), (110, rdF Rep.str (cs33) (r_30)), (112, rdF Rep.str (cs37) (r_34))] a w) ?_ ?_
  ·rcases Decidable.em (r_29 = 0) with hs40 | hs40
   ·have hs40e : decide (r_29 = 0) = true := decide_eq_true hs40
    replace hg := br_t hg hs40
    rcases Decidable.em (((out_23).length) = 0) with hs41 | hs41
    ·have hs41e : decide (((out_23).length) = 0) = true := decide_eq_true hs41
     replace hg := br_t hg hs41
     obtain ⟨r42, hr42, hg⟩ := bind_some hg
     apply wp_region_lit
     refine qq hS rfl (y_boxField (o' := 2) hS rfl Try.underlying64 rfl rfl rfl) fun a hS => ?_
     refine qq hS rfl (y_loadBox1 (kk := 1000) hS rfl rfl rfl Try.underlying30 rfl) fun a hS => ?_
     refine qq hS rfl (yl_b (y_eql hS rfl rfl) hs40e) fun a hS => ?_
     refine qq hS rfl (y_move hS rfl) fun a hS => ?_
     refine gy hS rfl (y_move hS rfl) fun a hS => ?_
     refine gy hS rfl (y_lenSlice hS rfl Try.underlying23) fun a hS => ?_
     refine gy hS rfl (yl_b (y_eqlN (i := ((out_23).length)) (j := 0) hS rfl rfl) hs41e) fun a hS => ?_
     refine gy hS rfl (y_move hS rfl) fun a hS => ?_
     refine gy hS rfl (y_loadBox (kk := 1000) (n := 5) (vs := [.string (bs (r_27)), .int .i64 (r_28), .int .i64 (r_29), .slice (A31) ((r_30).length) (c32), .slice (A35) ((r_34).length) (c36)]) hS rfl rfl Try.underlying64 rfl rfl rfl rfl) fun a hS => ?_
     have hT := hS
     replace hT := hT.fz (R := Rep.str) (kk := 700109) [1000, 1001, 700107, 700111] 116 rfl rfl (hT.fact (k := 110) rfl) rfl
     replace hT := hT.fz (R := Rep.str) (kk := 700111) [1000, 1001, 700107] 117 rfl rfl (hT.fact (k := 112) rfl) rfl
     refine gl hS rfl (l_call (cap := []) hS rfl Try.func58 rfl (by kernel_rfl) rfl rfl (c_r39_next n _ _ hT.lt (reader.mk r_27 r_28 r_29 r_30 r_34) (A31) (c32) (A35) (c36) (by omega) (hT.fact (k := 116) rfl) (hT.fact (k := 117) rfl) (125 : UInt8) r42 hr42) ?_); clear hS hT a; intro v45 a w hK hp hS
     clear hK
     obtain rfl := hp
     refine gy hS rfl (y_pick_t hS rfl rfl) fun a hS => ?_
     refine gy hS rfl (y_not hS rfl) fun a hS => ?_
     refine qq hS rfl (y_pick_t hS rfl rfl) fun a hS => ?_
     apply wN
     exact ⟨(!(r42)), hg, (hS.sb rfl rfl rfl)⟩
    ·have hs41e : decide (((out_23).length) = 0) = false := decide_eq_false hs41
     replace hg := br_f hg hs41
     apply wp_region_lit
     refine qq hS rfl (y_boxField (o' := 2) hS rfl Try.underlying64 rfl rfl rfl) fun a hS => ?_
     refine qq hS rfl (y_loadBox1 (kk := 1000) hS rfl rfl rfl Try.underlying30 rfl) fun a hS => ?_
     refine qq hS rfl (yl_b (y_eql hS rfl rfl) hs40e) fun a hS => ?_
     refine qq hS rfl (y_move hS rfl) fun a hS => ?_
     refine gy hS rfl (y_move hS rfl) fun a hS => ?_
     refine gy hS rfl (y_lenSlice hS rfl Try.underlying23) fun a hS => ?_
     refine gy hS rfl (yl_b (y_eqlN (i := ((out_23).length)) (j := 0) hS rfl rfl) hs41e) fun a hS => ?_
     refine gy hS rfl (y_move hS rfl) fun a hS => ?_
     refine gn hS rfl fun a hS => ?_
     refine gn hS rfl fun a hS => ?_
     refine gy hS rfl (y_pick_f hS rfl rfl) fun a hS => ?_
     refine gy hS rfl (y_not hS rfl) fun a hS => ?_
     refine qq hS rfl (y_pick_t hS rfl rfl) fun a hS => ?_
     apply wN
     exact ⟨(true), hg, (hS.sb rfl rfl rfl)⟩
   ·have hs40e : decide (r_29 = 0) = false := decide_eq_false hs40
    replace hg := br_f hg hs40
    apply wp_region_lit
    refine qq hS rfl (y_boxField (o' := 2) hS rfl Try.underlying64 rfl rfl rfl) fun a hS => ?_
    refine qq hS rfl (y_loadBox1 (kk := 1000) hS rfl rfl rfl Try.underlying30 rfl) fun a hS => ?_
    refine qq hS rfl (yl_b (y_eql hS rfl rfl) hs40e) fun a hS => ?_
    refine qq hS rfl (y_move hS rfl) fun a hS => ?_
    refine gn hS rfl fun a hS => ?_
    refine gn hS rfl fun a hS => ?_
    refine gn hS rfl fun a hS => ?_
    refine gn hS rfl fun a hS => ?_
    refine gn hS rfl fun a hS => ?_
    refine gn hS rfl fun a hS => ?_
    refine gn hS rfl fun a hS => ?_
    refine gn hS rfl fun a hS => ?_
    refine qq hS rfl (y_pick_f hS rfl rfl) fun a hS => ?_
    apply wN
    exact ⟨(false), hg, (hS.sb rfl rfl rfl)⟩
  clear hS a; rintro a w ⟨t_39, hg, hS⟩
  subst hk38
  refine c_cond hS rfl (fun hc47 => ?_) (fun hc47 => ?_)
  ·replace hg := br_t hg hc47
   apply wp_skip
   refine p_norm ?_
   apply wp_block
   apply wR
   refine qq hS rfl (y_assign hS rfl) fun a hS => ?_
   apply wN
   apply wR
   refine qq hS rfl (y_assign hS rfl) fun a hS => ?_
   apply wN
   apply wR
   refine l_seq rfl (l_buildEmpty (sz := 2) hS 1500 Try.underlying53 rfl rfl rfl ?_); clear hS a; intro b49 a w hbb49 hK hS
   clear hbb49 hK
   refine qq hS rfl (y_assign hS rfl) fun a hS => ?_
   apply wN
   apply wp_seq
   obtain ⟨r50, hr50, hg⟩ := bind_some hg
   apply wp_region_lit
   refine qq hS rfl (y_loadBox (kk := 1000) (n := 5) (vs := [.string (bs (r_27)), .int .i64 (r_28), .int .i64 (r_29), .slice (A31) ((r_30).length) (c32), .slice (A35) ((r_34).length) (c36)]) hS rfl rfl Try.underlying64 rfl rfl rfl rfl) fun a hS => ?_
   have hT := hS.pk [(1000, 1000), (1001, 1001), (1500, 1500), (700107, 700107), (9200003, 700109), (9200004, 700111)] (by decide)
   replace hT := hT.al 9300003 110 rfl
   replace hT := hT.al 9300004 112 rfl
   refine l_seq rfl (l_callMut (cap := []) hT _ [] (sbA (by rfl)) trivial (by rfl) rfl Try.func35 rfl (by kernel_rfl) rfl rfl (c_r39_variableOf n _ _ (hT.restLt [1000, 1001, 1500, 700107]) _ (reader.mk r_27 r_28 r_29 r_30 r_34) (A31) (c32) (A35) (c36) (cs33) (cs37) (by omega) (hT.wd.lendL _ _ _ (sbA (by rfl)) (keep_sub [1000, 1001, 1500, 700107]) (by rfl) (sbA (by rfl))) r50 hr50) ?_); intro v53 a' w' hK hp hF
   obtain ⟨Am04u54, cm04u54, csm0_3u54, Am05u54, cm05u54, csm0_4u54, rfl, lm01u54, hWu54⟩ := hp
   have hS2 := St.mk hF (hT.wd.back (sbA (by rfl)) (keep_sub [1000, 1001, 1500, 700107]) (by rfl) hWu54 (by rfl))
   clear hS hT hF hWu54 hK; revert hS2; revert w'; revert a'; intro a w hS
   replace hS := hS.al 120 9300003 rfl
   replace hS := hS.al 121 9300004 rfl
   replace hS := hS.ren [(1000, Ob.box b3 [.string (bs (r_27)), .int .i64 (r_28), .int .i64 (r_29), .slice (A31) ((r_30).length) (c32), .slice (A35) ((r_34).length) (c36)] 64), (1001, Ob.box b4 [.string (bs ([])), .int .i64 (0), .int .i64 (0), .slice (none) (0) (0), .slice (none) (0) (0)] 64), (1500, Ob.row (some ⟨b49, 0, none⟩) (0) (0) 76 2 ([])), (700107, Ob.row (A24) ((out_23).length) (c25) 55 3 (cs26)), (700109, Ob.row (Am04u54) ((r50.1.sorts_).length) (cm04u54) 9 1 (csm0_3u54)), (700111, Ob.row (Am05u54) ((r50.1.texts_).length) (cm05u54) 9 1 (csm0_4u54))] [1000, 1001, 1500, 700107, 9200003, 9200004] ⟨rfl, rfl, rfl, rfl, rfl, rfl, trivial⟩ (by decide)
   refine qq hS rfl (y_move hS rfl) fun a hS => ?_
   refine qq hS rfl (y_extract hS rfl rfl) fun a hS => ?_
   refine qq hS rfl (y_extract hS rfl rfl) fun a hS => ?_
   refine l_seq rfl (l_store (n := 5) (cs' := [.string (bs (r50.1.s_)), .int .i64 (r50.1.at_), .int .i64 (r50.1.e_), .slice (Am04u54) ((r50.1.sorts_).length) (cm04u54), .slice (Am05u54) ((r50.1.texts_).length) (cm05u54)]) hS 1000 rfl rfl rfl rfl rfl rfl rfl rfl ?_); clear hS; intro w hK hS; clear hK
   refine qq hS rfl (y_assign hS rfl) fun a hS => ?_
   apply wN
   apply wp_seq
   obtain ⟨r55, hr55, hg⟩ := bind_some hg
   apply wp_region_lit
   refine qq hS rfl (y_loadBox (kk := 1000) (n := 5) (vs := [.string (bs (r50.1.s_)), .int .i64 (r50.1.at_), .int .i64 (r50.1.e_), .slice (Am04u54) ((r50.1.sorts_).length) (cm04u54), .slice (Am05u54) ((r50.1.texts_).length) (cm05u54)]) hS rfl rfl Try.underlying64 rfl rfl rfl rfl) fun a hS => ?_
   have hT := hS.pk [(1000, 1000), (1001, 1001), (1500, 1500), (700107, 700107), (9200003, 700109), (9200004, 700111)] (by decide)
   replace hT := hT.al 9300003 120 rfl
   replace hT := hT.al 9300004 121 rfl
   refine l_seq rfl (l_callMut (cap := []) hT _ [] (sbA (by rfl)) trivial (by rfl) rfl Try.func36 rfl (by kernel_rfl) rfl rfl (c_r39_word n _ _ (hT.restLt [1000, 1001, 1500, 700107]) _ r50.1 (Am04u54) (cm04u54) (Am05u54) (cm05u54) (csm0_3u54) (csm0_4u54) (by omega) [58] (by first | omega | (rw [List.length_append]; omega) | (simp only [List.length_append]; omega) | (simp only [List.length_append, List.length_take, List.length_drop, List.length_cons, List.length_nil]; omega)) (hT.wd.lendL _ _ _ (sbA (by rfl)) (keep_sub [1000, 1001, 1500, 700107]) (by rfl) (sbA (by rfl))) r55 hr55) ?_); intro v58 a' w' hK hp hF
   obtain ⟨Am04u59, cm04u59, csm0_3u59, Am05u59, cm05u59, csm0_4u59, rfl, lm01u59, hWu59⟩ := hp
   have hS2 := St.mk hF (hT.wd.back (sbA (by rfl)) (keep_sub [1000, 1001, 1500, 700107]) (by rfl) hWu59 (by rfl))
   clear hS hT hF hWu59 hK; revert hS2; revert w'; revert a'; intro a w hS
   replace hS := hS.al 124 9300003 rfl
   replace hS := hS.al 125 9300004 rfl
   replace hS := hS.ren [(1000, Ob.box b3 [.string (bs (r50.1.s_)), .int .i64 (r50.1.at_), .int .i64 (r50.1.e_), .slice (Am04u54) ((r50.1.sorts_).length) (cm04u54), .slice (Am05u54) ((r50.1.texts_).length) (cm05u54)] 64), (1001, Ob.box b4 [.string (bs ([])), .int .i64 (0), .int .i64 (0), .slice (none) (0) (0), .slice (none) (0) (0)] 64), (1500, Ob.row (some ⟨b49, 0, none⟩) (0) (0) 76 2 ([])), (700107, Ob.row (A24) ((out_23).length) (c25) 55 3 (cs26)), (700109, Ob.row (Am04u59) ((r55.sorts_).length) (cm04u59) 9 1 (csm0_3u59)), (700111, Ob.row (Am05u59) ((r55.texts_).length) (cm05u59) 9 1 (csm0_4u59))] [1000, 1001, 1500, 700107, 9200003, 9200004] ⟨rfl, rfl, rfl, rfl, rfl, rfl, trivial⟩ (by decide)
   refine l_seq rfl (l_store (n := 5) (cs' := [.string (bs (r55.s_)), .int .i64 (r55.at_), .int .i64 (r55.e_), .slice (Am04u59) ((r55.sorts_).length) (cm04u59), .slice (Am05u59) ((r55.texts_).length) (cm05u59)]) hS 1000 rfl rfl rfl rfl rfl rfl rfl rfl ?_); clear hS; intro w hK hS; clear hK
   apply wN
   apply wp_seq
   obtain ⟨r60, hr60, hg⟩ := bind_some hg
   apply wp_region_lit
   refine qq hS rfl (y_loadBox (kk := 1000) (n := 5) (vs := [.string (bs (r55.s_)), .int .i64 (r55.at_), .int .i64 (r55.e_), .slice (Am04u59) ((r55.sorts_).length) (cm04u59), .slice (Am05u59) ((r55.texts_).length) (cm05u59)]) hS rfl rfl Try.underlying64 rfl rfl rfl rfl) fun a hS => ?_
   have hT := hS.pk [(1000, 1000), (1001, 1001), (1500, 1500), (700107, 700107), (9200003, 700109), (9200004, 700111)] (by decide)
   replace hT := hT.al 9300003 124 rfl
   replace hT := hT.al 9300004 125 rfl
   refine l_seq rfl (l_callMut (cap := []) hT _ [] (sbA (by rfl)) trivial (by rfl) rfl Try.func59 rfl (by kernel_rfl) rfl rfl (c_r39_run n _ _ (hT.restLt [1000, 1001, 1500, 700107]) _ r55 (Am04u59) (cm04u59) (Am05u59) (cm05u59) (csm0_3u59) (csm0_4u59) (by omega) (97 : UInt8) (122 : UInt8) (hT.wd.lendL _ _ _ (sbA (by rfl)) (keep_sub [1000, 1001, 1500, 700107]) (by rfl) (sbA (by rfl))) r60 hr60) ?_); intro v63 a' w' hK hp hF
   obtain ⟨Am04u64, cm04u64, csm0_3u64, Am05u64, cm05u64, csm0_4u64, rfl, lm01u64, lb1u64, hWu64⟩ := hp
   have hS2 := St.mk hF (hT.wd.back (sbA (by rfl)) (keep_sub [1000, 1001, 1500, 700107]) (by rfl) hWu64 (by rfl))
   clear hS hT hF hWu64 hK; revert hS2; revert w'; revert a'; intro a w hS
   replace hS := hS.al 128 9300003 rfl
   replace hS := hS.al 129 9300004 rfl
   replace hS := hS.ren [(1000, Ob.box b3 [.string (bs (r55.s_)), .int .i64 (r55.at_), .int .i64 (r55.e_), .slice (Am04u59) ((r55.sorts_).length) (cm04u59), .slice (Am05u59) ((r55.texts_).length) (cm05u59)] 64), (1001, Ob.box b4 [.string (bs ([])), .int .i64 (0), .int .i64 (0), .slice (none) (0) (0), .slice (none) (0) (0)] 64), (1500, Ob.row (some ⟨b49, 0, none⟩) (0) (0) 76 2 ([])), (700107, Ob.row (A24) ((out_23).length) (c25) 55 3 (cs26)), (700109, Ob.row (Am04u64) ((r60.1.sorts_).length) (cm04u64) 9 1 (csm0_3u64)), (700111, Ob.row (Am05u64) ((r60.1.texts_).length) (cm05u64) 9 1 (csm0_4u64))] [1000, 1001, 1500, 700107, 9200003, 9200004] ⟨rfl, rfl, rfl, rfl, rfl, rfl, trivial⟩ (by decide)
   refine qq hS rfl (y_move hS rfl) fun a hS => ?_
   refine qq hS rfl (y_extract hS rfl rfl) fun a hS => ?_
   refine qq hS rfl (y_extract hS rfl rfl) fun a hS => ?_
   refine l_seq rfl (l_store (n := 5) (cs' := [.string (bs (r60.1.s_)), .int .i64 (r60.1.at_), .int .i64 (r60.1.e_), .slice (Am04u64) ((r60.1.sorts_).length) (cm04u64), .slice (Am05u64) ((r60.1.texts_).length) (cm05u64)]) hS 1000 rfl rfl rfl rfl rfl rfl rfl rfl ?_); clear hS; intro w hK hS; clear hK
   refine qq hS rfl (y_assign hS rfl) fun a hS => ?_
   apply wN
   apply wp_seq
   obtain ⟨r65, hr65, hg⟩ := bind_some hg
   apply wp_region_lit
   refine qq hS rfl (y_loadBox (kk := 1000) (n := 5) (vs := [.string (bs (r60.1.s_)), .int .i64 (r60.1.at_), .int .i64 (r60.1.e_), .slice (Am04u64) ((r60.1.sorts_).length) (cm04u64), .slice (Am05u64) ((r60.1.texts_).length) (cm05u64)]) hS rfl rfl Try.underlying64 rfl rfl rfl rfl) fun a hS => ?_
   have hT := hS.pk [(1000, 1000), (1001, 1001), (1500, 1500), (700107, 700107), (9200003, 700109), (9200004, 700111)] (by decide)
   replace hT := hT.al 9300003 128 rfl
   replace hT := hT.al 9300004 129 rfl
   refine l_seq rfl (l_callMut (cap := []) hT _ [] (sbA (by rfl)) trivial (by rfl) rfl Try.func36 rfl (by kernel_rfl) rfl rfl (c_r39_word n _ _ (hT.restLt [1000, 1001, 1500, 700107]) _ r60.1 (Am04u64) (cm04u64) (Am05u64) (cm05u64) (csm0_3u64) (csm0_4u64) (by omega) [40] (by first | omega | (rw [List.length_append]; omega) | (simp only [List.length_append]; omega) | (simp only [List.length_append, List.length_take, List.length_drop, List.length_cons, List.length_nil]; omega)) (hT.wd.lendL _ _ _ (sbA (by rfl)) (keep_sub [1000, 1001, 1500, 700107]) (by rfl) (sbA (by rfl))) r65 hr65) ?_); intro v68 a' w' hK hp hF
   obtain ⟨Am04u69, cm04u69, csm0_3u69, Am05u69, cm05u69, csm0_4u69, rfl, lm01u69, hWu69⟩ := hp
   have hS2 := St.mk hF (hT.wd.back (sbA (by rfl)) (keep_sub [1000, 1001, 1500, 700107]) (by rfl) hWu69 (by rfl))
   clear hS hT hF hWu69 hK; revert hS2; revert w'; revert a'; intro a w hS
   replace hS := hS.al 132 9300003 rfl
   replace hS := hS.al 133 9300004 rfl
   replace hS := hS.ren [(1000, Ob.box b3 [.string (bs (r60.1.s_)), .int .i64 (r60.1.at_), .int .i64 (r60.1.e_), .slice (Am04u64) ((r60.1.sorts_).length) (cm04u64), .slice (Am05u64) ((r60.1.texts_).length) (cm05u64)] 64), (1001, Ob.box b4 [.string (bs ([])), .int .i64 (0), .int .i64 (0), .slice (none) (0) (0), .slice (none) (0) (0)] 64), (1500, Ob.row (some ⟨b49, 0, none⟩) (0) (0) 76 2 ([])), (700107, Ob.row (A24) ((out_23).length) (c25) 55 3 (cs26)), (700109, Ob.row (Am04u69) ((r65.sorts_).length) (cm04u69) 9 1 (csm0_3u69)), (700111, Ob.row (Am05u69) ((r65.texts_).length) (cm05u69) 9 1 (csm0_4u69))] [1000, 1001, 1500, 700107, 9200003, 9200004] ⟨rfl, rfl, rfl, rfl, rfl, rfl, trivial⟩ (by decide)
   refine l_seq rfl (l_store (n := 5) (cs' := [.string (bs (r65.s_)), .int .i64 (r65.at_), .int .i64 (r65.e_), .slice (Am04u69) ((r65.sorts_).length) (cm04u69), .slice (Am05u69) ((r65.texts_).length) (cm05u69)]) hS 1000 rfl rfl rfl rfl rfl rfl rfl rfl ?_); clear hS; intro w hK hS; clear hK
   apply wN
   apply wp_seq
   obtain ⟨r70, hr70, hg⟩ := bind_some hg
   apply wp_region_lit
   refine qq hS rfl (y_loadBox (kk := 1000) (n := 5) (vs := [.string (bs (r65.s_)), .int .i64 (r65.at_), .int .i64 (r65.e_), .slice (Am04u69) ((r65.sorts_).length) (cm04u69), .slice (Am05u69) ((r65.texts_).length) (cm05u69)]) hS rfl rfl Try.underlying64 rfl rfl rfl rfl) fun a hS => ?_
   have hT := hS.pk [(1000, 1000), (1001, 1001), (1500, 1500), (700107, 700107), (9200003, 700109), (9200004, 700111)] (by decide)
   replace hT := hT.al 9300003 132 rfl
   replace hT := hT.al 9300004 133 rfl
   refine l_seq rfl (l_callMut (cap := []) hT _ [] (sbA (by rfl)) trivial (by rfl) rfl Try.func60 rfl (by kernel_rfl) rfl rfl (c_r39_arguments n _ _ (hT.restLt [1000, 1001, 1500, 700107]) _ r65 (Am04u69) (cm04u69) (Am05u69) (cm05u69) (csm0_3u69) (csm0_4u69) (by omega) (hT.wd.lendL _ _ _ (sbA (by rfl)) (keep_sub [1000, 1001, 1500, 700107]) (by rfl) (sbA (by rfl))) r70 hr70) ?_); intro v73 a' w' hK hp hF
   obtain ⟨Am04u74, cm04u74, csm0_3u74, Am05u74, cm05u74, csm0_4u74, Ab1u74, cb1u74, rfl, lm01u74, hWu74⟩ := hp
   have hS2 := St.mk hF (hT.wd.back (sbA (by rfl)) (keep_sub [1000, 1001, 1500, 700107]) (by rfl) hWu74 (by rfl))
   clear hS hT hF hWu74 hK; revert hS2; revert w'; revert a'; intro a w hS
   replace hS := hS.al 137 9300003 rfl
   replace hS := hS.al 138 9300004 rfl
   replace hS := hS.al 139 9500100 rfl
   replace hS := hS.ren [(1000, Ob.box b3 [.string (bs (r65.s_)), .int .i64 (r65.at_), .int .i64 (r65.e_), .slice (Am04u69) ((r65.sorts_).length) (cm04u69), .slice (Am05u69) ((r65.texts_).length) (cm05u69)] 64), (1001, Ob.box b4 [.string (bs ([])), .int .i64 (0), .int .i64 (0), .slice (none) (0) (0), .slice (none) (0) (0)] 64), (1500, Ob.row (some ⟨b49, 0, none⟩) (0) (0) 76 2 ([])), (700107, Ob.row (A24) ((out_23).length) (c25) 55 3 (cs26)), (700109, Ob.row (Am04u74) ((r70.1.sorts_).length) (cm04u74) 9 1 (csm0_3u74)), (700111, Ob.row (Am05u74) ((r70.1.texts_).length) (cm05u74) 9 1 (csm0_4u74))] [1000, 1001, 1500, 700107, 9200003, 9200004] ⟨rfl, rfl, rfl, rfl, rfl, rfl, trivial⟩ (by decide)
   refine qq hS rfl (y_move hS rfl) fun a hS => ?_
   refine qq hS rfl (y_extract hS rfl rfl) fun a hS => ?_
   refine qq hS rfl (y_extract hS rfl rfl) fun a hS => ?_
   refine l_seq rfl (l_store (n := 5) (cs' := [.string (bs (r70.1.s_)), .int .i64 (r70.1.at_), .int .i64 (r70.1.e_), .slice (Am04u74) ((r70.1.sorts_).length) (cm04u74), .slice (Am05u74) ((r70.1.texts_).length) (cm05u74)]) hS 1000 rfl rfl rfl rfl rfl rfl rfl rfl ?_); clear hS; intro w hK hS; clear hK
   refine qq hS rfl (y_assign hS rfl) fun a hS => ?_
   apply wN
   apply wp_seq
   obtain ⟨hk76, hg⟩ := chk_some hg
   apply wp_region_lit
   refine qq hS rfl (y_move hS rfl) fun a hS => ?_
   refine qq hS rfl (y_move hS rfl) fun a hS => ?_
   refine qq hS rfl (y_move hS rfl) fun a hS => ?_
   refine qq hS rfl (y_move hS rfl) fun a hS => ?_
   refine qq hS rfl (y_build (parts := [(0, .tmp 43), (1, .tmp 44), (2, .tmp 45)]) (ps := [(0, .string (bs (r60.2))), (1, .int .i64 (r50.2)), (2, .slice (Ab1u74) ((r70.2).length) (cb1u74))]) (cells := #[.string (bs (r60.2)), .int .i64 (r50.2), .slice (Ab1u74) ((r70.2).length) (cb1u74)]) hS rfl (by kernel_rfl)) fun a hS => ?_
   refine l_seq rfl (l_buildDense (sz := 3) hS 2105 rfl rfl rfl Try.underlying23 rfl rfl rfl rfl rfl rfl rfl ?_); clear hS a; intro b79 a w hbb79 hK hS
   clear hbb79 hK
   replace hS := hS.add 142 (rdF REP (cellsOfL [.agg #[.string (bs (r60.2)), .int .i64 (r50.2), .slice (Ab1u74) ((r70.2).length) (cb1u74)]]) ([(EP.mk r60.2 r50.2 r70.2)])) (RdAll.cons (by exact (REP.mk' (x := (EP.mk r60.2 r50.2 r70.2)) (by omega) (hS.fact (k := 139) rfl))) (RdAll.nil _ _ _))
   have hs81 := row_src (hS.wd.holds 2105 _ rfl) (RdAll.one (hS.fact (k := 142) rfl))
   refine l_seq rfl (l_append (sz := 3) (by_ := 48) (N := (out_23 ++ [(EP.mk r60.2 r50.2 r70.2)]).length) (ys := cs26 ++ (cellsOfL [.agg #[.string (bs (r60.2)), .int .i64 (r50.2), .slice (Ab1u74) ((r70.2).length) (cb1u74)]])) hS 700107 rfl rfl rfl Try.underlying23 rfl rfl rfl rfl rfl hs81 (by simp) rfl (by have hr := hk76; clear hg; first | omega | (simp only [List.length_append, List.length_cons, List.length_nil] at hr ⊢; omega) | (simp at hr ⊢; omega)) (by have hr := hk76; clear hg; first | omega | (simp only [List.length_append, List.length_cons, List.length_nil] at hr ⊢; omega) | (simp at hr ⊢; omega)) rfl ?_); clear hS a; intro Aq80 cq80 a w hA hK hS
   clear hK hA
   replace hS := hS.add 143 (rdF REP (cs26 ++ (cellsOfL [.agg #[.string (bs (r60.2)), .int .i64 (r50.2), .slice (Ab1u74) ((r70.2).length) (cb1u74)]])) (out_23 ++ [(EP.mk r60.2 r50.2 r70.2)])) (RdAll.append (hS.fact (k := 108) rfl) (hS.fact (k := 142) rfl))
   refine qq hS rfl (y_assign hS rfl) fun a hS => ?_
   apply wN
   apply wp_seq
   apply wp_seq
   obtain ⟨r82, hr82, hg⟩ := bind_some hg
   apply wp_region_lit
   refine qq hS rfl (y_loadBox (kk := 1000) (n := 5) (vs := [.string (bs (r70.1.s_)), .int .i64 (r70.1.at_), .int .i64 (r70.1.e_), .slice (Am04u74) ((r70.1.sorts_).length) (cm04u74), .slice (Am05u74) ((r70.1.texts_).length) (cm05u74)]) hS rfl rfl Try.underlying64 rfl rfl rfl rfl) fun a hS => ?_
   have hT := hS
   replace hT := hT.fz (R := Rep.str) (kk := 700109) [1000, 1001, 1500, 2105, 700107, 700111] 146 rfl rfl (hT.fact (k := 137) rfl) rfl
   replace hT := hT.fz (R := Rep.str) (kk := 700111) [1000, 1001, 1500, 2105, 700107] 147 rfl rfl (hT.fact (k := 138) rfl) rfl
   refine l_seq rfl (l_call (cap := []) hS rfl Try.func58 rfl (by kernel_rfl) rfl rfl (c_r39_next n _ _ hT.lt r70.1 (Am04u74) (cm04u74) (Am05u74) (cm05u74) (by omega) (hT.fact (k := 146) rfl) (hT.fact (k := 147) rfl) (59 : UInt8) r82 hr82) ?_); clear hS hT a; intro v85 a w hK hp hS
   clear hK
   obtain rfl := hp
   refine qq hS rfl (y_not hS rfl) fun a hS => ?_
   apply wN
   refine c_cond hS rfl (fun hc87 => ?_) (fun hc87 => ?_)
   ·replace hg := br_t hg hc87
    apply wp_exit
    refine p_then ?_
    refine p_out rfl ?_
    refine p_then ?_
    refine p_in ?_
    refine p_norm ?_
    replace hS := hS.add 102 (rdF REP (cs26 ++ (cellsOfL [.agg #[.string (bs (r60.2)), .int .i64 (r50.2), .slice (Ab1u74) ((r70.2).length) (cb1u74)]])) (out_23 ++ [(EP.mk r60.2 r50.2 r70.2)])) (hS.fact (k := 143) rfl)
    replace hS := hS.al 104 137 rfl
    replace hS := hS.al 106 138 rfl
    replace hS := hS.pk [(1000, 1000), (1001, 1001), (1500, 1500), (2105, 2105), (700101, 700107), (700103, 700109), (700105, 700111)] (by decide)
    exact ⟨(out_23 ++ [(EP.mk r60.2 r50.2 r70.2)]), (r70.1.s_), (r70.1.at_), (r70.1.e_), (r70.1.sorts_), (r70.1.texts_), (Aq80), (cq80), (cs26 ++ (cellsOfL [.agg #[.string (bs (r60.2)), .int .i64 (r50.2), .slice (Ab1u74) ((r70.2).length) (cb1u74)]])), (Am04u74), (cm04u74), (csm0_3u74), (Am05u74), (cm05u74), (csm0_4u74), hg, (by first | omega | (rw [List.length_append]; omega) | (simp only [List.length_append]; omega) | (simp only [List.length_append, List.length_take, List.length_drop, List.length_cons, List.length_nil]; omega)), (hS.sb rfl rfl rfl)⟩
   ·replace hg := br_f hg (by rw [hc87]; exact Bool.false_ne_true)
    apply wp_skip
    refine p_norm ?_
    obtain ⟨r88, hr88, hg⟩ := bind_some hg
    apply wp_region_lit
    refine qq hS rfl (y_loadBox (kk := 1000) (n := 5) (vs := [.string (bs (r70.1.s_)), .int .i64 (r70.1.at_), .int .i64 (r70.1.e_), .slice (Am04u74) ((r70.1.sorts_).length) (cm04u74), .slice (Am05u74) ((r70.1.texts_).length) (cm05u74)]) hS rfl rfl Try.underlying64 rfl rfl rfl rfl) fun a hS => ?_
    have hT := hS.pk [(1000, 1000), (1001, 1001), (1500, 1500), (2105, 2105), (700107, 700107), (9200003, 700109), (9200004, 700111)] (by decide)
    replace hT := hT.al 9300003 137 rfl
    replace hT := hT.al 9300004 138 rfl
    refine l_seq rfl (l_callMut (cap := []) hT _ [] (sbA (by rfl)) trivial (by rfl) rfl Try.func36 rfl (by kernel_rfl) rfl rfl (c_r39_word n _ _ (hT.restLt [1000, 1001, 1500, 2105, 700107]) _ r70.1 (Am04u74) (cm04u74) (Am05u74) (cm05u74) (csm0_3u74) (csm0_4u74) (by omega) [59, 32] (by first | omega | (rw [List.length_append]; omega) | (simp only [List.length_append]; omega) | (simp only [List.length_append, List.length_take, List.length_drop, List.length_cons, List.length_nil]; omega)) (hT.wd.lendL _ _ _ (sbA (by rfl)) (keep_sub [1000, 1001, 1500, 2105, 700107]) (by rfl) (sbA (by rfl))) r88 hr88) ?_); intro v91 a' w' hK hp hF
    obtain ⟨Am04u92, cm04u92, csm0_3u92, Am05u92, cm05u92, csm0_4u92, rfl, lm01u92, hWu92⟩ := hp
    have hS2 := St.mk hF (hT.wd.back (sbA (by rfl)) (keep_sub [1000, 1001, 1500, 2105, 700107]) (by rfl) hWu92 (by rfl))
    clear hS hT hF hWu92 hK; revert hS2; revert w'; revert a'; intro a w hS
    replace hS := hS.al 150 9300003 rfl
    replace hS := hS.al 151 9300004 rfl
    replace hS := hS.ren [(1000, Ob.box b3 [.string (bs (r70.1.s_)), .int .i64 (r70.1.at_), .int .i64 (r70.1.e_), .slice (Am04u74) ((r70.1.sorts_).length) (cm04u74), .slice (Am05u74) ((r70.1.texts_).length) (cm05u74)] 64), (1001, Ob.box b4 [.string (bs ([])), .int .i64 (0), .int .i64 (0), .slice (none) (0) (0), .slice (none) (0) (0)] 64), (1500, Ob.row (some ⟨b49, 0, none⟩) (0) (0) 76 2 ([])), (2105, Ob.row (some ⟨b79, 0, none⟩) (1) (1) 55 3 (cellsOfL [.agg #[.string (bs (r60.2)), .int .i64 (r50.2), .slice (Ab1u74) ((r70.2).length) (cb1u74)]])), (700107, Ob.row (Aq80) ((out_23 ++ [(EP.mk r60.2 r50.2 r70.2)]).length) (cq80) 55 3 (cs26 ++ (cellsOfL [.agg #[.string (bs (r60.2)), .int .i64 (r50.2), .slice (Ab1u74) ((r70.2).length) (cb1u74)]]))), (700109, Ob.row (Am04u92) ((r88.sorts_).length) (cm04u92) 9 1 (csm0_3u92)), (700111, Ob.row (Am05u92) ((r88.texts_).length) (cm05u92) 9 1 (csm0_4u92))] [1000, 1001, 1500, 2105, 700107, 9200003, 9200004] ⟨rfl, rfl, rfl, rfl, rfl, rfl, rfl, trivial⟩ (by decide)
    refine l_seq rfl (l_store (n := 5) (cs' := [.string (bs (r88.s_)), .int .i64 (r88.at_), .int .i64 (r88.e_), .slice (Am04u92) ((r88.sorts_).length) (cm04u92), .slice (Am05u92) ((r88.texts_).length) (cm05u92)]) hS 1000 rfl rfl rfl rfl rfl rfl rfl rfl ?_); clear hS; intro w hK hS; clear hK
    apply wpList_nil
    refine p_inN ?_
    refine p_norm ?_
    replace hS := hS.add 108 (rdF REP (cs26 ++ (cellsOfL [.agg #[.string (bs (r60.2)), .int .i64 (r50.2), .slice (Ab1u74) ((r70.2).length) (cb1u74)]])) (out_23 ++ [(EP.mk r60.2 r50.2 r70.2)])) (hS.fact (k := 143) rfl)
    replace hS := hS.al 110 150 rfl
    replace hS := hS.al 112 151 rfl
    exact ⟨m1, Nat.lt_succ_self _, ⟨(out_23 ++ [(EP.mk r60.2 r50.2 r70.2)]), (r88.s_), (r88.at_), (r88.e_), (r88.sorts_), (r88.texts_), (Aq80), (cq80), (cs26 ++ (cellsOfL [.agg #[.string (bs (r60.2)), .int .i64 (r50.2), .slice (Ab1u74) ((r70.2).length) (cb1u74)]])), (Am04u92), (cm04u92), (csm0_3u92), (Am05u92), (cm05u92), (csm0_4u92), hg, (by first | omega | (rw [List.length_append]; omega) | (simp only [List.length_append]; omega) | (simp only [List.length_append, List.length_take, List.length_drop, List.length_cons, List.length_nil]; omega)), (hS.sb rfl rfl rfl)⟩⟩
  ·replace hg := br_f hg (by rw [hc47]; exact Bool.false_ne_true)
   apply wp_exit
   refine p_then ?_
   refine p_then ?_
   refine p_in ?_
   refine p_norm ?_
   replace hS := hS.al 102 108 rfl
   replace hS := hS.al 104 110 rfl
   replace hS := hS.al 106 112 rfl
   replace hS := hS.pk [(1000, 1000), (1001, 1001), (700101, 700107), (700103, 700109), (700105, 700111)] (by decide)
   exact ⟨(out_23), (r_27), (r_28), (r_29), (r_30), (r_34), (A24), (c25), (cs26), (A31), (c32), (cs33), (A35), (c36), (cs37), hg, (by first | omega | (rw [List.length_append]; omega) | (simp only [List.length_append]; omega) | (simp only [List.length_append, List.length_take, List.length_drop, List.length_cons, List.length_nil]; omega)), (hS.sb rfl rfl rfl)⟩
 clear hS a; rintro a w ⟨out_8, r_12, r_13, r_14, r_15, r_19, A9, c10, cs11, A16, c17, cs18, A20, c21, cs22, hg, lr_12, hS⟩
 subst hk7
 apply wp_seq
 obtain ⟨r93, hr93, hg⟩ := bind_some hg
 apply wp_region_lit
 refine qq hS rfl (y_loadBox (kk := 1000) (n := 5) (vs := [.string (bs (r_12)), .int .i64 (r_13), .int .i64 (r_14), .slice (A16) ((r_15).length) (c17), .slice (A20) ((r_19).length) (c21)]) hS rfl rfl Try.underlying64 rfl rfl rfl rfl) fun a hS => ?_
 have hT := hS.pk [(1000, 1000), (1001, 1001), (700101, 700101), (9200003, 700103), (9200004, 700105)] (by decide)
 replace hT := hT.al 9300003 104 rfl
 replace hT := hT.al 9300004 106 rfl
 refine l_seq rfl (l_callMut (cap := []) hT _ [] (sbA (by rfl)) trivial (by rfl) rfl Try.func36 rfl (by kernel_rfl) rfl rfl (c_r39_word n _ _ (hT.restLt [1000, 1001, 700101]) _ (reader.mk r_12 r_13 r_14 r_15 r_19) (A16) (c17) (A20) (c21) (cs18) (cs22) (by omega) [125] (by first | omega | (rw [List.length_append]; omega) | (simp only [List.length_append]; omega) | (simp only [List.length_append, List.length_take, List.length_drop, List.length_cons, List.length_nil]; omega)) (hT.wd.lendL _ _ _ (sbA (by rfl)) (keep_sub [1000, 1001, 700101]) (by rfl) (sbA (by rfl))) r93 hr93) ?_); intro v96 a' w' hK hp hF
 obtain ⟨Am04u97, cm04u97, csm0_3u97, Am05u97, cm05u97, csm0_4u97, rfl, lm01u97, hWu97⟩ := hp
 have hS2 := St.mk hF (hT.wd.back (sbA (by rfl)) (keep_sub [1000, 1001, 700101]) (by rfl) hWu97 (by rfl))
 clear hS hT hF hWu97 hK; revert hS2; revert w'; revert a'; intro a w hS
 replace hS := hS.al 154 9300003 rfl
 replace hS := hS.al 155 9300004 rfl
 replace hS := hS.ren [(1000, Ob.box b3 [.string (bs (r_12)), .int .i64 (r_13), .int .i64 (r_14), .slice (A16) ((r_15).length) (c17), .slice (A20) ((r_19).length) (c21)] 64), (1001, Ob.box b4 [.string (bs ([])), .int .i64 (0), .int .i64 (0), .slice (none) (0) (0), .slice (none) (0) (0)] 64), (700101, Ob.row (A9) ((out_8).length) (c10) 55 3 (cs11)), (700103, Ob.row (Am04u97) ((r93.sorts_).length) (cm04u97) 9 1 (csm0_3u97)), (700105, Ob.row (Am05u97) ((r93.texts_).length) (cm05u97) 9 1 (csm0_4u97))] [1000, 1001, 700101, 9200003, 9200004] ⟨rfl, rfl, rfl, rfl, rfl, trivial⟩ (by decide)
 refine qq hS rfl (y_move hS rfl) fun a hS => ?_
 refine l_seq rfl (l_store (n := 5) (cs' := [.string (bs (r93.s_)), .int .i64 (r93.at_), .int .i64 (r93.e_), .slice (Am04u97) ((r93.sorts_).length) (cm04u97), .slice (Am05u97) ((r93.texts_).length) (cm05u97)]) hS 1001 rfl rfl rfl rfl rfl rfl rfl rfl ?_); clear hS; intro w hK hS; clear hK
 refine qq hS rfl (y_assign hS rfl) fun a hS => ?_
 apply wN
 apply wp_ret
 replace hS := hS.freeze (R := REP) (kk := 700101) (L' := [(1000, Ob.box b3 [.string (bs (r_12)), .int .i64 (r_13), .int .i64 (r_14), .slice (A16) ((r_15).length) (c17), .slice (A20) ((r_19).length) (c21)] 64), (1001, Ob.box b4 [.string (bs (r93.s_)), .int .i64 (r93.at_), .int .i64 (r93.e_), .slice (Am04u97) ((r93.sorts_).length) (cm04u97), .slice (Am05u97) ((r93.texts_).length) (cm05u97)] 64), (700103, Ob.row (Am04u97) ((r93.sorts_).length) (cm04u97) 9 1 (csm0_3u97)), (700105, Ob.row (Am05u97) ((r93.texts_).length) (cm05u97) 9 1 (csm0_4u97))]) 156 rfl rfl (hS.fact (k := 102) rfl) ⟨rfl, rfl, rfl, rfl, trivial⟩ rfl
 replace hS := hS.al 9300003 154 rfl
 replace hS := hS.al 9300004 155 rfl
 replace hS := hS.al 9500100 156 rfl
 obtain rfl := Option.some.inj hg
 refine fin2 (fn := Try.f37) hS rfl (r_cell (kk := 1001) (n := 5) (vs := [.string (bs (r93.s_)), .int .i64 (r93.at_), .int .i64 (r93.e_), .slice (Am04u97) ((r93.sorts_).length) (cm04u97), .slice (Am05u97) ((r93.texts_).length) (cm05u97)]) hS rfl rfl Try.underlying64 rfl rfl rfl rfl) (r_tmp hS rfl) ?_
 exact ⟨(Am04u97), (cm04u97), (csm0_3u97), (Am05u97), (cm05u97), (csm0_4u97), (A9), (c10), rfl, (by omega), ((hS.ren [(9200003, Ob.row (Am04u97) ((r93.sorts_).length) (cm04u97) 9 1 (csm0_3u97)), (9200004, Ob.row (Am05u97) ((r93.texts_).length) (cm05u97) 9 1 (csm0_4u97))] [700103, 700105] ⟨rfl, rfl, trivial⟩ (by decide)).outL ⟨rfl, rfl, trivial⟩ ⟨rfl, rfl, rfl, trivial⟩)⟩
set_option maxHeartbeats 400000 in
theorem c_r39_constraints (n : Nat) (M : Bs) (w0 : World) (hM : ∀ b, M b → b < w0.heap.size) (C : Bs) (r_ : reader) (Ap04 : Option Addr) (cp04 : Nat) (Ap05 : Option Addr) (cp05 : Nat) (csp03 : List Value) (csp04 : List Value) (lp01 : (r_.s_).length ≤ 9223372036854775807) (hW : Wd ⟨0, M, C, w0⟩ [(9200003, Ob.row (Ap04) ((r_.sorts_).length) (cp04) 9 1 (csp03)), (9200004, Ob.row (Ap05) ((r_.texts_).length) (cp05) 9 1 (csp04))] [(9300003, rdF Rep.str (csp03) (r_.sorts_)), (9300004, rdF Rep.str (csp04) (r_.texts_))] w0) (r : (reader × (List Qeq))) (hg : r39_constraints n r_ = some r) :
    Calls Try.prog 38 [.agg #[.string (bs (r_.s_)), .int .i64 (r_.at_), .int .i64 (r_.e_), .slice (Ap04) ((r_.sorts_).length) (cp04), .slice (Ap05) ((r_.texts_).length) (cp05)]].toArray w0 (Ret C w0 fun v w => ∃ (Am04 : Option Addr), ∃ (cm04 : Nat), ∃ (csm0_3 : List Value), ∃ (Am05 : Option Addr), ∃ (cm05 : Nat), ∃ (csm0_4 : List Value), ∃ (Ab1 : Option Addr), ∃ (cb1 : Nat), v = .tuple #[.agg #[.string (bs (r.1.s_)), .int .i64 (r.1.at_), .int .i64 (r.1.e_), .slice (Am04) ((r.1.sorts_).length) (cm04), .slice (Am05) ((r.1.texts_).length) (cm05)], .slice (Ab1) ((r.2).length) (cb1)] ∧ ((r.1.s_).length ≤ 9223372036854775807) ∧ (Wd ⟨0, M, C, w0⟩ [(9200003, Ob.row (Am04) ((r.1.sorts_).length) (cm04) 9 1 (csm0_3)), (9200004, Ob.row (Am05) ((r.1.texts_).length) (cm05) 9 1 (csm0_4))] [(9300003, rdF Rep.str (csm0_3) (r.1.sorts_)), (9300004, rdF Rep.str (csm0_4) (r.1.texts_)), (9500100, slF RQeq (Ab1) ((r.2).length) (cb1) (r.2))] w)) := by
 unfold r39_constraints at hg
 refine enterL M C Try.func38 rfl rfl hW ?_
 intro a hS
 apply wR
 refine l_seq rfl (l_box (zs := [.string (bs (r_.s_)), .int .i64 (r_.at_), .int .i64 (r_.e_), .slice (Ap04) ((r_.sorts_).length) (cp04), .slice (Ap05) ((r_.texts_).length) (cp05)]) hS 1000 rfl rfl rfl rfl ?_); clear hS a; intro b3 a w hb hK hS
 clear hb hK
 refine l_seq rfl (l_alloc (zs := [.string (bs ([])), .int .i64 (0), .int .i64 (0), .slice (none) (0) (0), .slice (none) (0) (0)]) hS 1001 rfl rfl rfl rfl ?_); clear hS a; intro b4 a w hb hK hS
 clear hb hK
 refine qq hS rfl (y_assign hS rfl) fun a hS => ?_
 apply wN
 apply wR
 refine l_seq rfl (l_buildEmpty (sz := 2) hS 1100 Try.underlying24 rfl rfl rfl ?_); clear hS a; intro b6 a w hbb6 hK hS
 clear hbb6 hK
 refine qq hS rfl (y_assign hS rfl) fun a hS => ?_
 apply wN
 apply wp_seq
 obtain ⟨k7, hg, hk7⟩ := jn_some hg
 refine c_post (fun a w => ∃ (out_8 : (List Qeq)), ∃ (r_12 : (List UInt8)), ∃ (r_13 : Int), ∃ (r_14 : Int), ∃ (r_15 : (List (List UInt8))), ∃ (r_19 : (List (List UInt8))), ∃ (A9 : Option Addr), ∃ (c10 : Nat), ∃ (cs11 : List Value), ∃ (A16 : Option Addr), ∃ (c17 : Nat), ∃ (cs18 : List Value), ∃ (A20 : Option Addr), ∃ (c21 : Nat), ∃ (cs22 : List Value), k7 out_8 r_12 r_13 r_14 r_15 r_19 = some r ∧ ((r_12).length ≤ 9223372036854775807) ∧ St (⟨Try.f38.ntmps, M, C, w0⟩ : Ctx) [(1, .pointer (some ⟨b3, 0, none⟩)), (2, .pointer (some ⟨b4, 0, none⟩)), (4, .slice (A9) ((out_8).length) (c10))] [(1000, Ob.box b3 [.string (bs (r_12)), .int .i64 (r_13), .int .i64 (r_14), .slice (A16) ((r_15).length) (c17), .slice (A20) ((r_19).length) (c21)] 64), (1001, Ob.box b4 [.string (bs ([])), .int .i64 (0), .int .i64 (0), .slice (none) (0) (0), .slice (none) (0) (0)] 64), (700101, Ob.row (A9) ((out_8).length) (c10) 45 2 (cs11)), (700103, Ob.row (A16) ((r_15).length) (c17) 9 1 (cs18)), (700105, Ob.row (A20) ((r_19).length) (c21) 9 1 (cs22))] [(102, rdF RQeq (cs11) (out_8)), (104, rdF Rep.str (cs18) (r_15)), (106, rdF Rep.str (cs22) (r_19))] a w) ?_ ?_
 ·apply wp_block
  replace hS := hS.add 113 (rdF RQeq ([]) ([])) (RdAll.nil _ _ _)
  replace hS := hS.al 108 113 rfl
  replace hS := hS.al 110 9300003 rfl
  replace hS := hS.al 112 9300004 rfl
  replace hS := hS.pk [(1000, 1000), (1001, 1001), (700107, 1100), (700109, 9200003), (700111, 9200004)] (by decide)
  refine c_loop (σ := Nat) (fun m1 a w => ∃ (out_23 : (List Qeq)), ∃ (r_27 : (List UInt8)), ∃ (r_28 : Int), ∃ (r_29 : Int), ∃ (r_30 : (List (List UInt8))), ∃ (r_34 : (List (List UInt8))), ∃ (A24 : Option Addr), ∃ (c25 : Nat), ∃ (cs26 : List Value), ∃ (A31 : Option Addr), ∃ (c32 : Nat), ∃ (cs33 : List Value), ∃ (A35 : Option Addr), ∃ (c36 : Nat), ∃ (cs37 : List Value), r39_constraints_L0 n k7 m1 out_23 r_27 r_28 r_29 r_30 r_34 = some r ∧ ((r_27).length ≤ 9223372036854775807) ∧ St (⟨Try.f38.ntmps, M, C, w0⟩ : Ctx) [(1, .pointer (some ⟨b3, 0, none⟩)), (2, .pointer (some ⟨b4, 0, none⟩)), (4, .slice (A24) ((out_23).length) (c25))] [(1000, Ob.box b3 [.string (bs (r_27)), .int .i64 (r_28), .int .i64 (r_29), .slice (A31) ((r_30).length) (c32), .slice (A35) ((r_34).length) (c36)] 64), (1001, Ob.box b4 [.string (bs ([])), .int .i64 (0), .int .i64 (0), .slice (none) (0) (0), .slice (none) (0) (0)] 64), (700107, Ob.row (A24) ((out_23).length) (c25) 45 2 (cs26)), (700109, Ob.row (A31) ((r_30).length) (c32) 9 1 (cs33)), (700111, Ob.row (A35) ((r_34).length) (c36) 9 1 (cs37))] [(108, rdF RQeq (cs26) (out_23)), (110, rdF Rep.str (cs33) (r_30)), (112, rdF Rep.str (cs37) (r_34))] a w) (fun m1 => m1) n ⟨([]), (r_.s_), (r_.at_), (r_.e_), (r_.sorts_), (r_.texts_), (some ⟨b6, 0, none⟩), (0), ([]), (Ap04), (cp04), (csp03), (Ap05), (cp05), (csp04), hg, (by first | omega | (rw [List.length_append]; omega) | (simp only [List.length_append]; omega) | (simp only [List.length_append, List.length_take, List.length_drop, List.length_cons, List.length_nil]; omega)), (hS.sb rfl rfl rfl)⟩ ?_
  clear hS a; rintro m1 a w ⟨out_23, r_27, r_28, r_29, r_30, r_34, A24, c25, cs26, A31, c32, cs33, A35, c36, cs37, hg, lr_27, hS⟩
  rcases m1 with _ | m1
  ·rw [r39_constraints_L0] at hg; cases hg
  rw [r39_constraints_L0] at hg
  apply wp_seq
  apply wp_seq
  obtain ⟨k38, hg, hk38⟩ := jn_some hg
  refine c_post (fun a w => ∃ (t_39 : Bool), k38 t_39 = some r ∧ St (⟨Try.f38.ntmps, M, C, w0⟩ : Ctx) [(1, .pointer (some ⟨b3, 0, none⟩)), (2, .pointer (some ⟨b4, 0, none⟩)), (4, .slice (A24) ((out_23).length) (c25)), (20, .bool (t_39))] [(1000, Ob.box b3 [.string (bs (r_27)), .int .i64 (r_28), .int .i64 (r_29), .slice (A31) ((r_30).length) (c32), .slice (A35) ((r_34).length) (c36)] 64), (1001, Ob.box b4 [.string (bs ([])), .int .i64 (0), .int .i64 (0), .slice (none) (0) (0), .slice (none) (0) (0)] 64), (700107, Ob.row (A24) ((out_23).length) (c25) 45 2 (cs26)), (700109, Ob.row (A31) ((r_30).length) (c32) 9 1 (cs33)), (700111, Ob.row (A35) ((r_34).length) (c36) 9 1 (cs37))] [(108, rdF RQeq (cs26) (out_23)), (110, rdF Rep.str (cs33) (r_30)), (112, rdF Rep.str (cs37) (r_34))] a w) ?_ ?_
  ·rcases Decidable.em (r_29 = 0) with hs40 | hs40
   ·have hs40e : decide (r_29 = 0) = true := decide_eq_true hs40
    replace hg := br_t hg hs40
    rcases Decidable.em (((out_23).length) = 0) with hs41 | hs41
    ·have hs41e : decide (((out_23).length) = 0) = true := decide_eq_true hs41
     replace hg := br_t hg hs41
     obtain ⟨r42, hr42, hg⟩ := bind_some hg
     apply wp_region_lit
     refine qq hS rfl (y_boxField (o' := 2) hS rfl Try.underlying64 rfl rfl rfl) fun a hS => ?_
     refine qq hS rfl (y_loadBox1 (kk := 1000) hS rfl rfl rfl Try.underlying30 rfl) fun a hS => ?_
     refine qq hS rfl (yl_b (y_eql hS rfl rfl) hs40e) fun a hS => ?_
     refine qq hS rfl (y_move hS rfl) fun a hS => ?_
     refine gy hS rfl (y_move hS rfl) fun a hS => ?_
     refine gy hS rfl (y_lenSlice hS rfl Try.underlying24) fun a hS => ?_
     refine gy hS rfl (yl_b (y_eqlN (i := ((out_23).length)) (j := 0) hS rfl rfl) hs41e) fun a hS => ?_
     refine gy hS rfl (y_move hS rfl) fun a hS => ?_
     refine gy hS rfl (y_loadBox (kk := 1000) (n := 5) (vs := [.string (bs (r_27)), .int .i64 (r_28), .int .i64 (r_29), .slice (A31) ((r_30).length) (c32), .slice (A35) ((r_34).length) (c36)]) hS rfl rfl Try.underlying64 rfl rfl rfl rfl) fun a hS => ?_
     have hT := hS
     replace hT := hT.fz (R := Rep.str) (kk := 700109) [1000, 1001, 700107, 700111] 116 rfl rfl (hT.fact (k := 110) rfl) rfl
     replace hT := hT.fz (R := Rep.str) (kk := 700111) [1000, 1001, 700107] 117 rfl rfl (hT.fact (k := 112) rfl) rfl
     refine gl hS rfl (l_call (cap := []) hS rfl Try.func58 rfl (by kernel_rfl) rfl rfl (c_r39_next n _ _ hT.lt (reader.mk r_27 r_28 r_29 r_30 r_34) (A31) (c32) (A35) (c36) (by omega) (hT.fact (k := 116) rfl) (hT.fact (k := 117) rfl) (125 : UInt8) r42 hr42) ?_); clear hS hT a; intro v45 a w hK hp hS
     clear hK
     obtain rfl := hp
     refine gy hS rfl (y_pick_t hS rfl rfl) fun a hS => ?_
     refine gy hS rfl (y_not hS rfl) fun a hS => ?_
     refine qq hS rfl (y_pick_t hS rfl rfl) fun a hS => ?_
     apply wN
     exact ⟨(!(r42)), hg, (hS.sb rfl rfl rfl)⟩
    ·have hs41e : decide (((out_23).length) = 0) = false := decide_eq_false hs41
     replace hg := br_f hg hs41
     apply wp_region_lit
     refine qq hS rfl (y_boxField (o' := 2) hS rfl Try.underlying64 rfl rfl rfl) fun a hS => ?_
     refine qq hS rfl (y_loadBox1 (kk := 1000) hS rfl rfl rfl Try.underlying30 rfl) fun a hS => ?_
     refine qq hS rfl (yl_b (y_eql hS rfl rfl) hs40e) fun a hS => ?_
     refine qq hS rfl (y_move hS rfl) fun a hS => ?_
     refine gy hS rfl (y_move hS rfl) fun a hS => ?_
     refine gy hS rfl (y_lenSlice hS rfl Try.underlying24) fun a hS => ?_
     refine gy hS rfl (yl_b (y_eqlN (i := ((out_23).length)) (j := 0) hS rfl rfl) hs41e) fun a hS => ?_
     refine gy hS rfl (y_move hS rfl) fun a hS => ?_
     refine gn hS rfl fun a hS => ?_
     refine gn hS rfl fun a hS => ?_
     refine gy hS rfl (y_pick_f hS rfl rfl) fun a hS => ?_
     refine gy hS rfl (y_not hS rfl) fun a hS => ?_
     refine qq hS rfl (y_pick_t hS rfl rfl) fun a hS => ?_
     apply wN
     exact ⟨(true), hg, (hS.sb rfl rfl rfl)⟩
   ·have hs40e : decide (r_29 = 0) = false := decide_eq_false hs40
    replace hg := br_f hg hs40
    apply wp_region_lit
    refine qq hS rfl (y_boxField (o' := 2) hS rfl Try.underlying64 rfl rfl rfl) fun a hS => ?_
    refine qq hS rfl (y_loadBox1 (kk := 1000) hS rfl rfl rfl Try.underlying30 rfl) fun a hS => ?_
    refine qq hS rfl (yl_b (y_eql hS rfl rfl) hs40e) fun a hS => ?_
    refine qq hS rfl (y_move hS rfl) fun a hS => ?_
    refine gn hS rfl fun a hS => ?_
    refine gn hS rfl fun a hS => ?_
    refine gn hS rfl fun a hS => ?_
    refine gn hS rfl fun a hS => ?_
    refine gn hS rfl fun a hS => ?_
    refine gn hS rfl fun a hS => ?_
    refine gn hS rfl fun a hS => ?_
    refine gn hS rfl fun a hS => ?_
    refine qq hS rfl (y_pick_f hS rfl rfl) fun a hS => ?_
    apply wN
    exact ⟨(false), hg, (hS.sb rfl rfl rfl)⟩
  clear hS a; rintro a w ⟨t_39, hg, hS⟩
  subst hk38
  refine c_cond hS rfl (fun hc47 => ?_) (fun hc47 => ?_)
  ·replace hg := br_t hg hc47
   apply wp_skip
   refine p_norm ?_
   apply wp_block
   apply wR
   refine qq hS rfl (y_assign hS rfl) fun a hS => ?_
   apply wN
   apply wR
   refine qq hS rfl (y_assign hS rfl) fun a hS => ?_
   apply wN
   apply wp_seq
   obtain ⟨r48, hr48, hg⟩ := bind_some hg
   apply wp_region_lit
   refine qq hS rfl (y_loadBox (kk := 1000) (n := 5) (vs := [.string (bs (r_27)), .int .i64 (r_28), .int .i64 (r_29), .slice (A31) ((r_30).length) (c32), .slice (A35) ((r_34).length) (c36)]) hS rfl rfl Try.underlying64 rfl rfl rfl rfl) fun a hS => ?_
   have hT := hS.pk [(1000, 1000), (1001, 1001), (700107, 700107), (9200003, 700109), (9200004, 700111)] (by decide)
   replace hT := hT.al 9300003 110 rfl
   replace hT := hT.al 9300004 112 rfl
   refine l_seq rfl (l_callMut (cap := []) hT _ [] (sbA (by rfl)) trivial (by rfl) rfl Try.func35 rfl (by kernel_rfl) rfl rfl (c_r39_variableOf n _ _ (hT.restLt [1000, 1001, 700107]) _ (reader.mk r_27 r_28 r_29 r_30 r_34) (A31) (c32) (A35) (c36) (cs33) (cs37) (by omega) (hT.wd.lendL _ _ _ (sbA (by rfl)) (keep_sub [1000, 1001, 700107]) (by rfl) (sbA (by rfl))) r48 hr48) ?_); intro v51 a' w' hK hp hF
   obtain ⟨Am04u52, cm04u52, csm0_3u52, Am05u52, cm05u52, csm0_4u52, rfl, lm01u52, hWu52⟩ := hp
   have hS2 := St.mk hF (hT.wd.back (sbA (by rfl)) (keep_sub [1000, 1001, 700107]) (by rfl) hWu52 (by rfl))
   clear hS hT hF hWu52 hK; revert hS2; revert w'; revert a'; intro a w hS
   replace hS := hS.al 120 9300003 rfl
   replace hS := hS.al 121 9300004 rfl
   replace hS := hS.ren [(1000, Ob.box b3 [.string (bs (r_27)), .int .i64 (r_28), .int .i64 (r_29), .slice (A31) ((r_30).length) (c32), .slice (A35) ((r_34).length) (c36)] 64), (1001, Ob.box b4 [.string (bs ([])), .int .i64 (0), .int .i64 (0), .slice (none) (0) (0), .slice (none) (0) (0)] 64), (700107, Ob.row (A24) ((out_23).length) (c25) 45 2 (cs26)), (700109, Ob.row (Am04u52) ((r48.1.sorts_).length) (cm04u52) 9 1 (csm0_3u52)), (700111, Ob.row (Am05u52) ((r48.1.texts_).length) (cm05u52) 9 1 (csm0_4u52))] [1000, 1001, 700107, 9200003, 9200004] ⟨rfl, rfl, rfl, rfl, rfl, trivial⟩ (by decide)
   refine qq hS rfl (y_move hS rfl) fun a hS => ?_
   refine qq hS rfl (y_extract hS rfl rfl) fun a hS => ?_
   refine qq hS rfl (y_extract hS rfl rfl) fun a hS => ?_
   refine l_seq rfl (l_store (n := 5) (cs' := [.string (bs (r48.1.s_)), .int .i64 (r48.1.at_), .int .i64 (r48.1.e_), .slice (Am04u52) ((r48.1.sorts_).length) (cm04u52), .slice (Am05u52) ((r48.1.texts_).length) (cm05u52)]) hS 1000 rfl rfl rfl rfl rfl rfl rfl rfl ?_); clear hS; intro w hK hS; clear hK
   refine qq hS rfl (y_assign hS rfl) fun a hS => ?_
   apply wN
   apply wp_seq
   obtain ⟨r53, hr53, hg⟩ := bind_some hg
   apply wp_region_lit
   refine qq hS rfl (y_loadBox (kk := 1000) (n := 5) (vs := [.string (bs (r48.1.s_)), .int .i64 (r48.1.at_), .int .i64 (r48.1.e_), .slice (Am04u52) ((r48.1.sorts_).length) (cm04u52), .slice (Am05u52) ((r48.1.texts_).length) (cm05u52)]) hS rfl rfl Try.underlying64 rfl rfl rfl rfl) fun a hS => ?_
   have hT := hS.pk [(1000, 1000), (1001, 1001), (700107, 700107), (9200003, 700109), (9200004, 700111)] (by decide)
   replace hT := hT.al 9300003 120 rfl
   replace hT := hT.al 9300004 121 rfl
   refine l_seq rfl (l_callMut (cap := []) hT _ [] (sbA (by rfl)) trivial (by rfl) rfl Try.func36 rfl (by kernel_rfl) rfl rfl (c_r39_word n _ _ (hT.restLt [1000, 1001, 700107]) _ r48.1 (Am04u52) (cm04u52) (Am05u52) (cm05u52) (csm0_3u52) (csm0_4u52) (by omega) [32, 113, 101, 113, 32] (by first | omega | (rw [List.length_append]; omega) | (simp only [List.length_append]; omega) | (simp only [List.length_append, List.length_take, List.length_drop, List.length_cons, List.length_nil]; omega)) (hT.wd.lendL _ _ _ (sbA (by rfl)) (keep_sub [1000, 1001, 700107]) (by rfl) (sbA (by rfl))) r53 hr53) ?_); intro v56 a' w' hK hp hF
   obtain ⟨Am04u57, cm04u57, csm0_3u57, Am05u57, cm05u57, csm0_4u57, rfl, lm01u57, hWu57⟩ := hp
   have hS2 := St.mk hF (hT.wd.back (sbA (by rfl)) (keep_sub [1000, 1001, 700107]) (by rfl) hWu57 (by rfl))
   clear hS hT hF hWu57 hK; revert hS2; revert w'; revert a'; intro a w hS
   replace hS := hS.al 124 9300003 rfl
   replace hS := hS.al 125 9300004 rfl
   replace hS := hS.ren [(1000, Ob.box b3 [.string (bs (r48.1.s_)), .int .i64 (r48.1.at_), .int .i64 (r48.1.e_), .slice (Am04u52) ((r48.1.sorts_).length) (cm04u52), .slice (Am05u52) ((r48.1.texts_).length) (cm05u52)] 64), (1001, Ob.box b4 [.string (bs ([])), .int .i64 (0), .int .i64 (0), .slice (none) (0) (0), .slice (none) (0) (0)] 64), (700107, Ob.row (A24) ((out_23).length) (c25) 45 2 (cs26)), (700109, Ob.row (Am04u57) ((r53.sorts_).length) (cm04u57) 9 1 (csm0_3u57)), (700111, Ob.row (Am05u57) ((r53.texts_).length) (cm05u57) 9 1 (csm0_4u57))] [1000, 1001, 700107, 9200003, 9200004] ⟨rfl, rfl, rfl, rfl, rfl, trivial⟩ (by decide)
   refine l_seq rfl (l_store (n := 5) (cs' := [.string (bs (r53.s_)), .int .i64 (r53.at_), .int .i64 (r53.e_), .slice (Am04u57) ((r53.sorts_).length) (cm04u57), .slice (Am05u57) ((r53.texts_).length) (cm05u57)]) hS 1000 rfl rfl rfl rfl rfl rfl rfl rfl ?_); clear hS; intro w hK hS; clear hK
   apply wN
   apply wp_seq
   obtain ⟨r58, hr58, hg⟩ := bind_some hg
   apply wp_region_lit
   refine qq hS rfl (y_loadBox (kk := 1000) (n := 5) (vs := [.string (bs (r53.s_)), .int .i64 (r53.at_), .int .i64 (r53.e_), .slice (Am04u57) ((r53.sorts_).length) (cm04u57), .slice (Am05u57) ((r53.texts_).length) (cm05u57)]) hS rfl rfl Try.underlying64 rfl rfl rfl rfl) fun a hS => ?_
   have hT := hS.pk [(1000, 1000), (1001, 1001), (700107, 700107), (9200003, 700109), (9200004, 700111)] (by decide)
   replace hT := hT.al 9300003 124 rfl
   replace hT := hT.al 9300004 125 rfl
   refine l_seq rfl (l_callMut (cap := []) hT _ [] (sbA (by rfl)) trivial (by rfl) rfl Try.func35 rfl (by kernel_rfl) rfl rfl (c_r39_variableOf n _ _ (hT.restLt [1000, 1001, 700107]) _ r53 (Am04u57) (cm04u57) (Am05u57) (cm05u57) (csm0_3u57) (csm0_4u57) (by omega) (hT.wd.lendL _ _ _ (sbA (by rfl)) (keep_sub [1000, 1001, 700107]) (by rfl) (sbA (by rfl))) r58 hr58) ?_); intro v61 a' w' hK hp hF
   obtain ⟨Am04u62, cm04u62, csm0_3u62, Am05u62, cm05u62, csm0_4u62, rfl, lm01u62, hWu62⟩ := hp
   have hS2 := St.mk hF (hT.wd.back (sbA (by rfl)) (keep_sub [1000, 1001, 700107]) (by rfl) hWu62 (by rfl))
   clear hS hT hF hWu62 hK; revert hS2; revert w'; revert a'; intro a w hS
   replace hS := hS.al 128 9300003 rfl
   replace hS := hS.al 129 9300004 rfl
   replace hS := hS.ren [(1000, Ob.box b3 [.string (bs (r53.s_)), .int .i64 (r53.at_), .int .i64 (r53.e_), .slice (Am04u57) ((r53.sorts_).length) (cm04u57), .slice (Am05u57) ((r53.texts_).length) (cm05u57)] 64), (1001, Ob.box b4 [.string (bs ([])), .int .i64 (0), .int .i64 (0), .slice (none) (0) (0), .slice (none) (0) (0)] 64), (700107, Ob.row (A24) ((out_23).length) (c25) 45 2 (cs26)), (700109, Ob.row (Am04u62) ((r58.1.sorts_).length) (cm04u62) 9 1 (csm0_3u62)), (700111, Ob.row (Am05u62) ((r58.1.texts_).length) (cm05u62) 9 1 (csm0_4u62))] [1000, 1001, 700107, 9200003, 9200004] ⟨rfl, rfl, rfl, rfl, rfl, trivial⟩ (by decide)
   refine qq hS rfl (y_move hS rfl) fun a hS => ?_
   refine qq hS rfl (y_extract hS rfl rfl) fun a hS => ?_
   refine qq hS rfl (y_extract hS rfl rfl) fun a hS => ?_
   refine l_seq rfl (l_store (n := 5) (cs' := [.string (bs (r58.1.s_)), .int .i64 (r58.1.at_), .int .i64 (r58.1.e_), .slice (Am04u62) ((r58.1.sorts_).length) (cm04u62), .slice (Am05u62) ((r58.1.texts_).length) (cm05u62)]) hS 1000 rfl rfl rfl rfl rfl rfl rfl rfl ?_); clear hS; intro w hK hS; clear hK
   refine qq hS rfl (y_assign hS rfl) fun a hS => ?_
   apply wN
   apply wp_seq
   obtain ⟨hk64, hg⟩ := chk_some hg
   apply wp_region_lit
   refine qq hS rfl (y_move hS rfl) fun a hS => ?_
   refine qq hS rfl (y_move hS rfl) fun a hS => ?_
   refine qq hS rfl (y_move hS rfl) fun a hS => ?_
   refine qq hS rfl (y_build (parts := [(0, .tmp 34), (1, .tmp 35)]) (ps := [(0, .int .i64 (r48.2)), (1, .int .i64 (r58.2))]) (cells := #[.int .i64 (r48.2), .int .i64 (r58.2)]) hS rfl (by kernel_rfl)) fun a hS => ?_
   refine l_seq rfl (l_buildDense (sz := 2) hS 1804 rfl rfl rfl Try.underlying24 rfl rfl rfl rfl rfl rfl rfl ?_); clear hS a; intro b67 a w hbb67 hK hS
   clear hbb67 hK
   replace hS := hS.add 132 (rdF RQeq (cellsOfL [.agg #[.int .i64 (r48.2), .int .i64 (r58.2)]]) ([(Qeq.mk r48.2 r58.2)])) (RdAll.cons (by exact (RQeq.mk' (x := (Qeq.mk r48.2 r58.2)) )) (RdAll.nil _ _ _))
   have hs69 := row_src (hS.wd.holds 1804 _ rfl) (RdAll.one (hS.fact (k := 132) rfl))
   refine l_seq rfl (l_append (sz := 2) (by_ := 16) (N := (out_23 ++ [(Qeq.mk r48.2 r58.2)]).length) (ys := cs26 ++ (cellsOfL [.agg #[.int .i64 (r48.2), .int .i64 (r58.2)]])) hS 700107 rfl rfl rfl Try.underlying24 rfl rfl rfl rfl rfl hs69 (by simp) rfl (by have hr := hk64; clear hg; first | omega | (simp only [List.length_append, List.length_cons, List.length_nil] at hr ⊢; omega) | (simp at hr ⊢; omega)) (by have hr := hk64; clear hg; first | omega | (simp only [List.length_append, List.length_cons, List.length_nil] at hr ⊢; omega) | (simp at hr ⊢; omega)) rfl ?_); clear hS a; intro Aq68 cq68 a w hA hK hS
   clear hK hA
   replace hS := hS.add 133 (rdF RQeq (cs26 ++ (cellsOfL [.agg #[.int .i64 (r48.2), .int .i64 (r58.2)]])) (out_23 ++ [(Qeq.mk r48.2 r58.2)])) (RdAll.append (hS.fact (k := 108) rfl) (hS.fact (k := 132) rfl))
   refine qq hS rfl (y_assign hS rfl) fun a hS => ?_
   apply wN
   apply wp_seq
   apply wp_seq
   obtain ⟨r70, hr70, hg⟩ := bind_some hg
   apply wp_region_lit
   refine qq hS rfl (y_loadBox (kk := 1000) (n := 5) (vs := [.string (bs (r58.1.s_)), .int .i64 (r58.1.at_), .int .i64 (r58.1.e_), .slice (Am04u62) ((r58.1.sorts_).length) (cm04u62), .slice (Am05u62) ((r58.1.texts_).length) (cm05u62)]) hS rfl rfl Try.underlying64 rfl rfl rfl rfl) fun a hS => ?_
   have hT := hS
   replace hT := hT.fz (R := Rep.str) (kk := 700109) [1000, 1001, 1804, 700107, 700111] 136 rfl rfl (hT.fact (k := 128) rfl) rfl
   replace hT := hT.fz (R := Rep.str) (kk := 700111) [1000, 1001, 1804, 700107] 137 rfl rfl (hT.fact (k := 129) rfl) rfl
   refine l_seq rfl (l_call (cap := []) hS rfl Try.func58 rfl (by kernel_rfl) rfl rfl (c_r39_next n _ _ hT.lt r58.1 (Am04u62) (cm04u62) (Am05u62) (cm05u62) (by omega) (hT.fact (k := 136) rfl) (hT.fact (k := 137) rfl) (59 : UInt8) r70 hr70) ?_); clear hS hT a; intro v73 a w hK hp hS
   clear hK
   obtain rfl := hp
   refine qq hS rfl (y_not hS rfl) fun a hS => ?_
   apply wN
   refine c_cond hS rfl (fun hc75 => ?_) (fun hc75 => ?_)
   ·replace hg := br_t hg hc75
    apply wp_exit
    refine p_then ?_
    refine p_out rfl ?_
    refine p_then ?_
    refine p_in ?_
    refine p_norm ?_
    replace hS := hS.al 102 133 rfl
    replace hS := hS.al 104 128 rfl
    replace hS := hS.al 106 129 rfl
    replace hS := hS.pk [(1000, 1000), (1001, 1001), (1804, 1804), (700101, 700107), (700103, 700109), (700105, 700111)] (by decide)
    exact ⟨(out_23 ++ [(Qeq.mk r48.2 r58.2)]), (r58.1.s_), (r58.1.at_), (r58.1.e_), (r58.1.sorts_), (r58.1.texts_), (Aq68), (cq68), (cs26 ++ (cellsOfL [.agg #[.int .i64 (r48.2), .int .i64 (r58.2)]])), (Am04u62), (cm04u62), (csm0_3u62), (Am05u62), (cm05u62), (csm0_4u62), hg, (by first | omega | (rw [List.length_append]; omega) | (simp only [List.length_append]; omega) | (simp only [List.length_append, List.length_take, List.length_drop, List.length_cons, List.length_nil]; omega)), (hS.sb rfl rfl rfl)⟩
   ·replace hg := br_f hg (by rw [hc75]; exact Bool.false_ne_true)
    apply wp_skip
    refine p_norm ?_
    obtain ⟨r76, hr76, hg⟩ := bind_some hg
    apply wp_region_lit
    refine qq hS rfl (y_loadBox (kk := 1000) (n := 5) (vs := [.string (bs (r58.1.s_)), .int .i64 (r58.1.at_), .int .i64 (r58.1.e_), .slice (Am04u62) ((r58.1.sorts_).length) (cm04u62), .slice (Am05u62) ((r58.1.texts_).length) (cm05u62)]) hS rfl rfl Try.underlying64 rfl rfl rfl rfl) fun a hS => ?_
    have hT := hS.pk [(1000, 1000), (1001, 1001), (1804, 1804), (700107, 700107), (9200003, 700109), (9200004, 700111)] (by decide)
    replace hT := hT.al 9300003 128 rfl
    replace hT := hT.al 9300004 129 rfl
    refine l_seq rfl (l_callMut (cap := []) hT _ [] (sbA (by rfl)) trivial (by rfl) rfl Try.func36 rfl (by kernel_rfl) rfl rfl (c_r39_word n _ _ (hT.restLt [1000, 1001, 1804, 700107]) _ r58.1 (Am04u62) (cm04u62) (Am05u62) (cm05u62) (csm0_3u62) (csm0_4u62) (by omega) [59, 32] (by first | omega | (rw [List.length_append]; omega) | (simp only [List.length_append]; omega) | (simp only [List.length_append, List.length_take, List.length_drop, List.length_cons, List.length_nil]; omega)) (hT.wd.lendL _ _ _ (sbA (by rfl)) (keep_sub [1000, 1001, 1804, 700107]) (by rfl) (sbA (by rfl))) r76 hr76) ?_); intro v79 a' w' hK hp hF
    obtain ⟨Am04u80, cm04u80, csm0_3u80, Am05u80, cm05u80, csm0_4u80, rfl, lm01u80, hWu80⟩ := hp
    have hS2 := St.mk hF (hT.wd.back (sbA (by rfl)) (keep_sub [1000, 1001, 1804, 700107]) (by rfl) hWu80 (by rfl))
    clear hS hT hF hWu80 hK; revert hS2; revert w'; revert a'; intro a w hS
    replace hS := hS.al 140 9300003 rfl
    replace hS := hS.al 141 9300004 rfl
    replace hS := hS.ren [(1000, Ob.box b3 [.string (bs (r58.1.s_)), .int .i64 (r58.1.at_), .int .i64 (r58.1.e_), .slice (Am04u62) ((r58.1.sorts_).length) (cm04u62), .slice (Am05u62) ((r58.1.texts_).length) (cm05u62)] 64), (1001, Ob.box b4 [.string (bs ([])), .int .i64 (0), .int .i64 (0), .slice (none) (0) (0), .slice (none) (0) (0)] 64), (1804, Ob.row (some ⟨b67, 0, none⟩) (1) (1) 45 2 (cellsOfL [.agg #[.int .i64 (r48.2), .int .i64 (r58.2)]])), (700107, Ob.row (Aq68) ((out_23 ++ [(Qeq.mk r48.2 r58.2)]).length) (cq68) 45 2 (cs26 ++ (cellsOfL [.agg #[.int .i64 (r48.2), .int .i64 (r58.2)]]))), (700109, Ob.row (Am04u80) ((r76.sorts_).length) (cm04u80) 9 1 (csm0_3u80)), (700111, Ob.row (Am05u80) ((r76.texts_).length) (cm05u80) 9 1 (csm0_4u80))] [1000, 1001, 1804, 700107, 9200003, 9200004] ⟨rfl, rfl, rfl, rfl, rfl, rfl, trivial⟩ (by decide)
    refine l_seq rfl (l_store (n := 5) (cs' := [.string (bs (r76.s_)), .int .i64 (r76.at_), .int .i64 (r76.e_), .slice (Am04u80) ((r76.sorts_).length) (cm04u80), .slice (Am05u80) ((r76.texts_).length) (cm05u80)]) hS 1000 rfl rfl rfl rfl rfl rfl rfl rfl ?_); clear hS; intro w hK hS; clear hK
    apply wpList_nil
    refine p_inN ?_
    refine p_norm ?_
    replace hS := hS.al 108 133 rfl
    replace hS := hS.al 110 140 rfl
    replace hS := hS.al 112 141 rfl
    exact ⟨m1, Nat.lt_succ_self _, ⟨(out_23 ++ [(Qeq.mk r48.2 r58.2)]), (r76.s_), (r76.at_), (r76.e_), (r76.sorts_), (r76.texts_), (Aq68), (cq68), (cs26 ++ (cellsOfL [.agg #[.int .i64 (r48.2), .int .i64 (r58.2)]])), (Am04u80), (cm04u80), (csm0_3u80), (Am05u80), (cm05u80), (csm0_4u80), hg, (by first | omega | (rw [List.length_append]; omega) | (simp only [List.length_append]; omega) | (simp only [List.length_append, List.length_take, List.length_drop, List.length_cons, List.length_nil]; omega)), (hS.sb rfl rfl rfl)⟩⟩
  ·replace hg := br_f hg (by rw [hc47]; exact Bool.false_ne_true)
   apply wp_exit
   refine p_then ?_
   refine p_then ?_
   refine p_in ?_
   refine p_norm ?_
   replace hS := hS.al 102 108 rfl
   replace hS := hS.al 104 110 rfl
   replace hS := hS.al 106 112 rfl
   replace hS := hS.pk [(1000, 1000), (1001, 1001), (700101, 700107), (700103, 700109), (700105, 700111)] (by decide)
   exact ⟨(out_23), (r_27), (r_28), (r_29), (r_30), (r_34), (A24), (c25), (cs26), (A31), (c32), (cs33), (A35), (c36), (cs37), hg, (by first | omega | (rw [List.length_append]; omega) | (simp only [List.length_append]; omega) | (simp only [List.length_append, List.length_take, List.length_drop, List.length_cons, List.length_nil]; omega)), (hS.sb rfl rfl rfl)⟩
 clear hS a; rintro a w ⟨out_8, r_12, r_13, r_14, r_15, r_19, A9, c10, cs11, A16, c17, cs18, A20, c21, cs22, hg, lr_12, hS⟩
 subst hk7
 apply wp_seq
 obtain ⟨r81, hr81, hg⟩ := bind_some hg
 apply wp_region_lit
 refine qq hS rfl (y_loadBox (kk := 1000) (n := 5) (vs := [.string (bs (r_12)), .int .i64 (r_13), .int .i64 (r_14), .slice (A16) ((r_15).length) (c17), .slice (A20) ((r_19).length) (c21)]) hS rfl rfl Try.underlying64 rfl rfl rfl rfl) fun a hS => ?_
 have hT := hS.pk [(1000, 1000), (1001, 1001), (700101, 700101), (9200003, 700103), (9200004, 700105)] (by decide)
 replace hT := hT.al 9300003 104 rfl
 replace hT := hT.al 9300004 106 rfl
 refine l_seq rfl (l_callMut (cap := []) hT _ [] (sbA (by rfl)) trivial (by rfl) rfl Try.func36 rfl (by kernel_rfl) rfl rfl (c_r39_word n _ _ (hT.restLt [1000, 1001, 700101]) _ (reader.mk r_12 r_13 r_14 r_15 r_19) (A16) (c17) (A20) (c21) (cs18) (cs22) (by omega) [125] (by first | omega | (rw [List.length_append]; omega) | (simp only [List.length_append]; omega) | (simp only [List.length_append, List.length_take, List.length_drop, List.length_cons, List.length_nil]; omega)) (hT.wd.lendL _ _ _ (sbA (by rfl)) (keep_sub [1000, 1001, 700101]) (by rfl) (sbA (by rfl))) r81 hr81) ?_); intro v84 a' w' hK hp hF
 obtain ⟨Am04u85, cm04u85, csm0_3u85, Am05u85, cm05u85, csm0_4u85, rfl, lm01u85, hWu85⟩ := hp
 have hS2 := St.mk hF (hT.wd.back (sbA (by rfl)) (keep_sub [1000, 1001, 700101]) (by rfl) hWu85 (by rfl))
 clear hS hT hF hWu85 hK; revert hS2; revert w'; revert a'; intro a w hS
 replace hS := hS.al 144 9300003 rfl
 replace hS := hS.al 145 9300004 rfl
 replace hS := hS.ren [(1000, Ob.box b3 [.string (bs (r_12)), .int .i64 (r_13), .int .i64 (r_14), .slice (A16) ((r_15).length) (c17), .slice (A20) ((r_19).length) (c21)] 64), (1001, Ob.box b4 [.string (bs ([])), .int .i64 (0), .int .i64 (0), .slice (none) (0) (0), .slice (none) (0) (0)] 64), (700101, Ob.row (A9) ((out_8).length) (c10) 45 2 (cs11)), (700103, Ob.row (Am04u85) ((r81.sorts_).length) (cm04u85) 9 1 (csm0_3u85)), (700105, Ob.row (Am05u85) ((r81.texts_).length) (cm05u85) 9 1 (csm0_4u85))] [1000, 1001, 700101, 9200003, 9200004] ⟨rfl, rfl, rfl, rfl, rfl, trivial⟩ (by decide)
 refine qq hS rfl (y_move hS rfl) fun a hS => ?_
 refine l_seq rfl (l_store (n := 5) (cs' := [.string (bs (r81.s_)), .int .i64 (r81.at_), .int .i64 (r81.e_), .slice (Am04u85) ((r81.sorts_).length) (cm04u85), .slice (Am05u85) ((r81.texts_).length) (cm05u85)]) hS 1001 rfl rfl rfl rfl rfl rfl rfl rfl ?_); clear hS; intro w hK hS; clear hK
 refine qq hS rfl (y_assign hS rfl) fun a hS => ?_
 apply wN
 apply wp_ret
 replace hS := hS.freeze (R := RQeq) (kk := 700101) (L' := [(1000, Ob.box b3 [.string (bs (r_12)), .int .i64 (r_13), .int .i64 (r_14), .slice (A16) ((r_15).length) (c17), .slice (A20) ((r_19).length) (c21)] 64), (1001, Ob.box b4 [.string (bs (r81.s_)), .int .i64 (r81.at_), .int .i64 (r81.e_), .slice (Am04u85) ((r81.sorts_).length) (cm04u85), .slice (Am05u85) ((r81.texts_).length) (cm05u85)] 64), (700103, Ob.row (Am04u85) ((r81.sorts_).length) (cm04u85) 9 1 (csm0_3u85)), (700105, Ob.row (Am05u85) ((r81.texts_).length) (cm05u85) 9 1 (csm0_4u85))]) 146 rfl rfl (hS.fact (k := 102) rfl) ⟨rfl, rfl, rfl, rfl, trivial⟩ rfl
 replace hS := hS.al 9300003 144 rfl
 replace hS := hS.al 9300004 145 rfl
 replace hS := hS.al 9500100 146 rfl
 obtain rfl := Option.some.inj hg
 refine fin2 (fn := Try.f38) hS rfl (r_cell (kk := 1001) (n := 5) (vs := [.string (bs (r81.s_)), .int .i64 (r81.at_), .int .i64 (r81.e_), .slice (Am04u85) ((r81.sorts_).length) (cm04u85), .slice (Am05u85) ((r81.texts_).length) (cm05u85)]) hS rfl rfl Try.underlying64 rfl rfl rfl rfl) (r_tmp hS rfl) ?_
 exact ⟨(Am04u85), (cm04u85), (csm0_3u85), (Am05u85), (cm05u85), (csm0_4u85), (A9), (c10), rfl, (by omega), ((hS.ren [(9200003, Ob.row (Am04u85) ((r81.sorts_).length) (cm04u85) 9 1 (csm0_3u85)), (9200004, Ob.row (Am05u85) ((r81.texts_).length) (cm05u85) 9 1 (csm0_4u85))] [700103, 700105] ⟨rfl, rfl, trivial⟩ (by decide)).outL ⟨rfl, rfl, trivial⟩ ⟨rfl, rfl, rfl, trivial⟩)⟩
set_option maxHeartbeats 400000 in
theorem c_r01_Number (n : Nat) (M : Bs) (w0 : World) (hM : ∀ b, M b → b < w0.heap.size) (t_ : (List UInt8)) (lp01 : (t_).length ≤ 9223372036854775807) (r : (Int × Int)) (hg : r01_Number n t_ = some r) :
    Calls Try.prog 61 [.string (bs (t_))].toArray w0 (Ret noB w0 fun v w => v = .tuple #[.int .i64 (r.1), .int .i64 (r.2)]) := by
 unfold r01_Number at hg
 refine enter M noB Try.func61 rfl rfl hM ?_
 intro a hS
 apply wR
 refine qq hS rfl (y_assign hS rfl) fun a hS => ?_
 refine qq hS rfl (y_assign hS rfl) fun a hS => ?_
 apply wN
 apply wR
 refine qq hS rfl (y_move hS rfl) fun a hS => ?_
 refine qq hS rfl (y_assign hS rfl) fun a hS => ?_
 apply wN
 apply wp_seq
 apply wp_seq
 obtain ⟨k1, hg, hk1⟩ := jn_some hg
 refine c_post (fun a w => ∃ (t_2 : Bool), k1 t_2 = some r ∧ St (⟨Try.f61.ntmps, M, noB, w0⟩ : Ctx) [(0, .string (bs (t_))), (4, .string (bs (t_))), (17, .bool (t_2))] [] [] a w) ?_ ?_
 ·rcases Decidable.em ((0 : Nat) < ((t_).length)) with hs3 | hs3
  ·have hs3e : decide ((0 : Nat) < ((t_).length)) = true := decide_eq_true hs3
   replace hg := br_t hg hs3
   obtain ⟨c4, hc4, hg⟩ := bind_some hg
   apply wp_region_lit
   refine qq hS rfl (y_move hS rfl) fun a hS => ?_
   refine qq hS rfl (y_lenStrN hS rfl Try.underlying9) fun a hS => ?_
   refine qq hS rfl (yl_b (y_gtrN (i := ((t_).length)) (j := 0) hS rfl rfl) hs3e) fun a hS => ?_
   refine qq hS rfl (y_move hS rfl) fun a hS => ?_
   refine gy hS rfl (y_move hS rfl) fun a hS => ?_
   refine gy hS rfl (y_indexN (i := 0) hS rfl rfl Try.underlying9 rfl hc4) fun a hS => ?_
   refine gy hS rfl (y_eqlN (i := c4.toNat) (j := 45) hS rfl rfl) fun a hS => ?_
   refine qq hS rfl (y_pick_t hS rfl rfl) fun a hS => ?_
   apply wN
   exact ⟨(decide (c4.toNat = 45)), hg, (hS.sb rfl rfl rfl)⟩
  ·have hs3e : decide ((0 : Nat) < ((t_).length)) = false := decide_eq_false hs3
   replace hg := br_f hg hs3
   apply wp_region_lit
   refine qq hS rfl (y_move hS rfl) fun a hS => ?_
   refine qq hS rfl (y_lenStrN hS rfl Try.underlying9) fun a hS => ?_
   refine qq hS rfl (yl_b (y_gtrN (i := ((t_).length)) (j := 0) hS rfl rfl) hs3e) fun a hS => ?_
   refine qq hS rfl (y_move hS rfl) fun a hS => ?_
   refine gn hS rfl fun a hS => ?_
   refine gn hS rfl fun a hS => ?_
   refine gn hS rfl fun a hS => ?_
   refine qq hS rfl (y_pick_f hS rfl rfl) fun a hS => ?_
   apply wN
   exact ⟨(false), hg, (hS.sb rfl rfl rfl)⟩
 clear hS a; rintro a w ⟨t_2, hg, hS⟩
 subst hk1
 obtain ⟨k5, hg, hk5⟩ := jn_some hg
 refine c_post (fun a w => ∃ (t_6 : (List UInt8)), k5 t_6 = some r ∧ ((t_6).length ≤ 9223372036854775807) ∧ St (⟨Try.f61.ntmps, M, noB, w0⟩ : Ctx) [(0, .string (bs (t_))), (4, .string (bs (t_6)))] [] [] a w) ?_ ?_
 ·refine c_cond hS rfl (fun hc7 => ?_) (fun hc7 => ?_)
  ·replace hg := br_t hg hc7
   obtain ⟨hk8, hg⟩ := chk_some hg
   apply wp_region_lit
   refine qq hS rfl (y_move hS rfl) fun a hS => ?_
   refine qq hS rfl (y_strL (i := 1) hS rfl rfl Try.underlying9 rfl hk8) fun a hS => ?_
   refine qq hS rfl (y_assign hS rfl) fun a hS => ?_
   apply wN
   exact ⟨((t_).drop 1), hg, (by first | omega | (rw [List.length_append]; omega) | (simp only [List.length_append]; omega) | (simp only [List.length_append, List.length_take, List.length_drop, List.length_cons, List.length_nil]; omega)), (hS.sb rfl rfl rfl)⟩
  ·replace hg := br_f hg (by rw [hc7]; exact Bool.false_ne_true)
   apply wp_skip
   refine p_norm ?_
   exact ⟨(t_), hg, (by first | omega | (rw [List.length_append]; omega) | (simp only [List.length_append]; omega) | (simp only [List.length_append, List.length_take, List.length_drop, List.length_cons, List.length_nil]; omega)), (hS.sb rfl rfl rfl)⟩
 clear hS a; rintro a w ⟨t_6, hg, lt_6, hS⟩
 subst hk5
 apply wp_seq
 apply wp_seq
 obtain ⟨k9, hg, hk9⟩ := jn_some hg
 refine c_post (fun a w => ∃ (t_10 : Bool), k9 t_10 = some r ∧ St (⟨Try.f61.ntmps, M, noB, w0⟩ : Ctx) [(0, .string (bs (t_))), (4, .string (bs (t_6))), (36, .bool (t_10))] [] [] a w) ?_ ?_
 ·rcases Decidable.em ((t_6 : List UInt8) = []) with hs11 | hs11
  ·have hs11e : decide ((t_6 : List UInt8) = []) = true := decide_eq_true hs11
   replace hg := br_t hg hs11
   apply wp_region_lit
   refine qq hS rfl (y_move hS rfl) fun a hS => ?_
   refine qq hS rfl (yl_b (y_seq hS rfl rfl) hs11e) fun a hS => ?_
   refine qq hS rfl (y_move hS rfl) fun a hS => ?_
   refine gn hS rfl fun a hS => ?_
   refine gn hS rfl fun a hS => ?_
   refine gn hS rfl fun a hS => ?_
   refine gn hS rfl fun a hS => ?_
   refine gn hS rfl fun a hS => ?_
   refine gn hS rfl fun a hS => ?_
   refine gn hS rfl fun a hS => ?_
   refine gn hS rfl fun a hS => ?_
   refine gn hS rfl fun a hS => ?_
   refine gn hS rfl fun a hS => ?_
   refine gn hS rfl fun a hS => ?_
   refine gn hS rfl fun a hS => ?_
   refine gn hS rfl fun a hS => ?_
   refine qq hS rfl (y_pick_t hS rfl rfl) fun a hS => ?_
   apply wN
   exact ⟨(true), hg, (hS.sb rfl rfl rfl)⟩
  ·have hs11e : decide ((t_6 : List UInt8) = []) = false := decide_eq_false hs11
   replace hg := br_f hg hs11
   obtain ⟨c12, hc12, hg⟩ := bind_some hg
   rcases Decidable.em (c12.toNat = 48) with hs13 | hs13
   ·have hs13e : decide (c12.toNat = 48) = true := decide_eq_true hs13
    replace hg := br_t hg hs13
    rcases Decidable.em ((1 : Nat) < ((t_6).length)) with hs14 | hs14
    ·have hs14e : decide ((1 : Nat) < ((t_6).length)) = true := decide_eq_true hs14
     replace hg := br_t hg hs14
     apply wp_region_lit
     refine qq hS rfl (y_move hS rfl) fun a hS => ?_
     refine qq hS rfl (yl_b (y_seq hS rfl rfl) hs11e) fun a hS => ?_
     refine qq hS rfl (y_move hS rfl) fun a hS => ?_
     refine gy hS rfl (y_move hS rfl) fun a hS => ?_
     refine gy hS rfl (y_indexN (i := 0) hS rfl rfl Try.underlying9 rfl hc12) fun a hS => ?_
     refine gy hS rfl (yl_b (y_eqlN (i := c12.toNat) (j := 48) hS rfl rfl) hs13e) fun a hS => ?_
     refine gy hS rfl (y_move hS rfl) fun a hS => ?_
     refine gy hS rfl (y_move hS rfl) fun a hS => ?_
     refine gy hS rfl (y_lenStrN hS rfl Try.underlying9) fun a hS => ?_
     refine gy hS rfl (yl_b (y_gtrN (i := ((t_6).length)) (j := 1) hS rfl rfl) hs14e) fun a hS => ?_
     refine gy hS rfl (y_move hS rfl) fun a hS => ?_
     refine gn hS rfl fun a hS => ?_
     refine gn hS rfl fun a hS => ?_
     refine gn hS rfl fun a hS => ?_
     refine gy hS rfl (y_pick_t hS rfl rfl) fun a hS => ?_
     refine gy hS rfl (y_pick_t hS rfl rfl) fun a hS => ?_
     refine qq hS rfl (y_pick_f hS rfl rfl) fun a hS => ?_
     apply wN
     exact ⟨(true), hg, (hS.sb rfl rfl rfl)⟩
    ·have hs14e : decide ((1 : Nat) < ((t_6).length)) = false := decide_eq_false hs14
     replace hg := br_f hg hs14
     apply wp_region_lit
     refine qq hS rfl (y_move hS rfl) fun a hS => ?_
     refine qq hS rfl (yl_b (y_seq hS rfl rfl) hs11e) fun a hS => ?_
     refine qq hS rfl (y_move hS rfl) fun a hS => ?_
     refine gy hS rfl (y_move hS rfl) fun a hS => ?_
     refine gy hS rfl (y_indexN (i := 0) hS rfl rfl Try.underlying9 rfl hc12) fun a hS => ?_
     refine gy hS rfl (yl_b (y_eqlN (i := c12.toNat) (j := 48) hS rfl rfl) hs13e) fun a hS => ?_
     refine gy hS rfl (y_move hS rfl) fun a hS => ?_
     refine gy hS rfl (y_move hS rfl) fun a hS => ?_
     refine gy hS rfl (y_lenStrN hS rfl Try.underlying9) fun a hS => ?_
     refine gy hS rfl (yl_b (y_gtrN (i := ((t_6).length)) (j := 1) hS rfl rfl) hs14e) fun a hS => ?_
     refine gy hS rfl (y_move hS rfl) fun a hS => ?_
     refine gy hS rfl (y_move hS rfl) fun a hS => ?_
     refine gy hS rfl (y_lenStrN hS rfl Try.underlying9) fun a hS => ?_
     refine gy hS rfl (y_gtrN (i := ((t_).length)) (j := 1) hS rfl rfl) fun a hS => ?_
     refine gy hS rfl (y_pick_f hS rfl rfl) fun a hS => ?_
     refine gy hS rfl (y_pick_t hS rfl rfl) fun a hS => ?_
     refine qq hS rfl (y_pick_f hS rfl rfl) fun a hS => ?_
     apply wN
     exact ⟨(decide ((1 : Nat) < ((t_).length))), hg, (hS.sb rfl rfl rfl)⟩
   ·have hs13e : decide (c12.toNat = 48) = false := decide_eq_false hs13
    replace hg := br_f hg hs13
    apply wp_region_lit
    refine qq hS rfl (y_move hS rfl) fun a hS => ?_
    refine qq hS rfl (yl_b (y_seq hS rfl rfl) hs11e) fun a hS => ?_
    refine qq hS rfl (y_move hS rfl) fun a hS => ?_
    refine gy hS rfl (y_move hS rfl) fun a hS => ?_
    refine gy hS rfl (y_indexN (i := 0) hS rfl rfl Try.underlying9 rfl hc12) fun a hS => ?_
    refine gy hS rfl (yl_b (y_eqlN (i := c12.toNat) (j := 48) hS rfl rfl) hs13e) fun a hS => ?_
    refine gy hS rfl (y_move hS rfl) fun a hS => ?_
    refine gn hS rfl fun a hS => ?_
    refine gn hS rfl fun a hS => ?_
    refine gn hS rfl fun a hS => ?_
    refine gn hS rfl fun a hS => ?_
    refine gn hS rfl fun a hS => ?_
    refine gn hS rfl fun a hS => ?_
    refine gn hS rfl fun a hS => ?_
    refine gn hS rfl fun a hS => ?_
    refine gy hS rfl (y_pick_f hS rfl rfl) fun a hS => ?_
    refine qq hS rfl (y_pick_f hS rfl rfl) fun a hS => ?_
    apply wN
    exact ⟨(false), hg, (hS.sb rfl rfl rfl)⟩
 clear hS a; rintro a w ⟨t_10, hg, hS⟩
 subst hk9
 refine c_cond hS rfl (fun hc15 => ?_) (fun hc15 => ?_)
 ·replace hg := br_t hg hc15
  apply wR
  refine qq hS rfl (y_assign hS rfl) fun a hS => ?_
  refine qq hS rfl (y_assign hS rfl) fun a hS => ?_
  apply wN
  apply wp_ret
  refine p_thenR ?_
  obtain rfl := Option.some.inj hg
  refine fin2 (fn := Try.f61) hS rfl (r_tmp hS rfl) (r_tmp hS rfl) ?_
  exact rfl
 ·replace hg := br_f hg (by rw [hc15]; exact Bool.false_ne_true)
  apply wp_skip
  refine p_norm ?_
  apply wp_seq
  apply wR
  refine qq hS rfl (y_assign hS rfl) fun a hS => ?_
  apply wN
  obtain ⟨k16, hg, hk16⟩ := jn_some hg
  refine c_post (fun a w => k16 = some r ∧ St (⟨Try.f61.ntmps, M, noB, w0⟩ : Ctx) [(0, .string (bs (t_))), (4, .string (bs (t_6)))] [] [] a w) ?_ ?_
  ·apply wp_block
   refine c_loop (σ := Nat) (fun m1 a w => ∃ (t_17 : Nat), r01_Number_L0 n t_6 k16 m1 t_17 = some r ∧ St (⟨Try.f61.ntmps, M, noB, w0⟩ : Ctx) [(0, .string (bs (t_))), (4, .string (bs (t_6))), (5, .int .i64 (((t_17 : Nat) : Int)))] [] [] a w) (fun m1 => m1) n ⟨(0), hg, (hS.sb rfl rfl rfl)⟩ ?_
   clear hS a; rintro m1 a w ⟨t_17, hg, hS⟩
   rcases m1 with _ | m1
   ·rw [r01_Number_L0] at hg; cases hg
   rw [r01_Number_L0] at hg
   apply wp_seq
   apply wR
   refine qq hS rfl (y_move hS rfl) fun a hS => ?_
   refine qq hS rfl (y_move hS rfl) fun a hS => ?_
   refine qq hS rfl (y_lenStrN hS rfl Try.underlying9) fun a hS => ?_
   refine qq hS rfl (y_lssN (i := t_17) (j := ((t_6).length)) hS rfl rfl) fun a hS => ?_
   apply wN
   refine c_dec hS rfl (fun hc18 => ?_) (fun hc18 => ?_)
   ·replace hg := br_t hg hc18
    have hmx19 : (t_6).length ≤ 9223372036854775807 := (by first | omega | (rw [List.length_append]; omega) | (simp only [List.length_append]; omega) | (simp only [List.length_append, List.length_take, List.length_drop, List.length_cons, List.length_nil]; omega))
    apply wp_skip
    refine p_norm ?_
    apply wp_seq
    apply wp_block
    apply wp_seq
    obtain ⟨c20, hc20, hg⟩ := bind_some hg
    obtain ⟨r21, hr21, hg⟩ := bind_some hg
    apply wp_region_lit
    refine qq hS rfl (y_move hS rfl) fun a hS => ?_
    refine qq hS rfl (y_move hS rfl) fun a hS => ?_
    refine qq hS rfl (y_indexN (i := t_17) hS rfl rfl Try.underlying9 rfl hc20) fun a hS => ?_
    refine l_seq rfl (l_call (cap := []) hS rfl Try.func69 rfl (by kernel_rfl) rfl rfl (c_r01_digit n _ _ hS.lt c20 r21 hr21) ?_); clear hS a; intro v24 a w hK hp hS
    clear hK
    obtain rfl := hp
    refine qq hS rfl (y_not hS rfl) fun a hS => ?_
    apply wN
    refine c_cond hS rfl (fun hc26 => ?_) (fun hc26 => ?_)
    ·replace hg := br_t hg hc26
     apply wR
     refine qq hS rfl (y_assign hS rfl) fun a hS => ?_
     refine qq hS rfl (y_assign hS rfl) fun a hS => ?_
     apply wN
     apply wp_ret
     refine p_inR ?_
     refine p_thenR ?_
     refine p_thenR ?_
     refine p_inR ?_
     refine p_thenR ?_
     obtain rfl := Option.some.inj hg
     refine fin2 (fn := Try.f61) hS rfl (r_tmp hS rfl) (r_tmp hS rfl) ?_
     exact rfl
    ·replace hg := br_f hg (by rw [hc26]; exact Bool.false_ne_true)
     apply wp_skip
     refine p_inN ?_
     refine p_norm ?_
     apply wp_region_lit
     refine qq hS rfl (y_move hS rfl) fun a hS => ?_
     refine qq hS rfl (y_addN (i := t_17) (j := 1) hS rfl rfl (in64.2 (by omega))) fun a hS => ?_
     refine qq hS rfl (y_assign hS rfl) fun a hS => ?_
     apply wN
     exact ⟨m1, Nat.lt_succ_self _, ⟨(t_17 + 1), hg, (hS.sb rfl rfl rfl)⟩⟩
   ·replace hg := br_f hg hc18
    apply wp_exit
    refine p_then ?_
    refine p_then ?_
    refine p_in ?_
    refine p_norm ?_
    exact ⟨hg, (hS.sb rfl rfl rfl)⟩
  clear hS a; rintro a w ⟨hg, hS⟩
  subst hk16
  apply wR
  refine qq hS rfl (y_assign hS rfl) fun a hS => ?_
  apply wN
  apply wp_seq
  apply wR
  refine qq hS rfl (y_assign hS rfl) fun a hS => ?_
  apply wN
  obtain ⟨k27, hg, hk27⟩ := jn_some hg
  refine c_post (fun a w => ∃ (t_28 : Int), k27 t_28 = some r ∧ St (⟨Try.f61.ntmps, M, noB, w0⟩ : Ctx) [(0, .string (bs (t_))), (4, .string (bs (t_6))), (6, .int .u64 (t_28))] [] [] a w) ?_ ?_
  ·apply wp_block
   refine c_loop (σ := Nat) (fun m2 a w => ∃ (t_29 : Int), ∃ (t_30 : Nat), r01_Number_L1 n t_6 k27 m2 t_29 t_30 = some r ∧ St (⟨Try.f61.ntmps, M, noB, w0⟩ : Ctx) [(0, .string (bs (t_))), (4, .string (bs (t_6))), (6, .int .u64 (t_29)), (7, .int .i64 (((t_30 : Nat) : Int)))] [] [] a w) (fun m2 => m2) n ⟨(0), (0), hg, (hS.sb rfl rfl rfl)⟩ ?_
   clear hS a; rintro m2 a w ⟨t_29, t_30, hg, hS⟩
   rcases m2 with _ | m2
   ·rw [r01_Number_L1] at hg; cases hg
   rw [r01_Number_L1] at hg
   apply wp_seq
   apply wR
   refine qq hS rfl (y_move hS rfl) fun a hS => ?_
   refine qq hS rfl (y_move hS rfl) fun a hS => ?_
   refine qq hS rfl (y_lenStrN hS rfl Try.underlying9) fun a hS => ?_
   refine qq hS rfl (y_lssN (i := t_30) (j := ((t_6).length)) hS rfl rfl) fun a hS => ?_
   apply wN
   refine c_dec hS rfl (fun hc31 => ?_) (fun hc31 => ?_)
   ·replace hg := br_t hg hc31
    have hmx32 : (t_6).length ≤ 9223372036854775807 := (by first | omega | (rw [List.length_append]; omega) | (simp only [List.length_append]; omega) | (simp only [List.length_append, List.length_take, List.length_drop, List.length_cons, List.length_nil]; omega))
    apply wp_skip
    refine p_norm ?_
    apply wp_seq
    apply wp_block
    apply wp_seq
    obtain ⟨c33, hc33, hg⟩ := bind_some hg
    apply wp_region_lit
    refine qq hS rfl (y_move hS rfl) fun a hS => ?_
    refine qq hS rfl (y_move hS rfl) fun a hS => ?_
    refine qq hS rfl (y_indexN (i := t_30) hS rfl rfl Try.underlying9 rfl hc33) fun a hS => ?_
    refine qq hS rfl (y_subU8 (p := c33) (q := (48 : UInt8)) hS rfl rfl) fun a hS => ?_
    have hu8 := (c33 - (48 : UInt8)).toNat_lt
    refine qq hS rfl (y_conv hS rfl Try.underlying5 Try.underlying99 (inu64.2 (by omega))) fun a hS => ?_
    clear hu8
    refine qq hS rfl (y_assign hS rfl) fun a hS => ?_
    apply wN
    apply wp_seq
    apply wR
    refine qq hS rfl (y_move hS rfl) fun a hS => ?_
    refine qq hS rfl (y_move hS rfl) fun a hS => ?_
    refine qq hS rfl (y_wsub hS rfl rfl) fun a hS => ?_
    refine qq hS rfl (y_quo hS rfl rfl (by decide)) fun a hS => ?_
    refine qq hS rfl (y_gtr hS rfl rfl) fun a hS => ?_
    apply wN
    refine c_dec hS rfl (fun hc34 => ?_) (fun hc34 => ?_)
    ·replace hg := br_t hg hc34
     apply wR
     refine qq hS rfl (y_assign hS rfl) fun a hS => ?_
     refine qq hS rfl (y_assign hS rfl) fun a hS => ?_
     apply wN
     apply wp_ret
     refine p_thenR ?_
     refine p_inR ?_
     refine p_thenR ?_
     refine p_thenR ?_
     refine p_inR ?_
     refine p_thenR ?_
     obtain rfl := Option.some.inj hg
     refine fin2 (fn := Try.f61) hS rfl (r_tmp hS rfl) (r_tmp hS rfl) ?_
     exact rfl
    ·replace hg := br_f hg hc34
     apply wp_skip
     refine p_norm ?_
     apply wp_region_lit
     refine qq hS rfl (y_move hS rfl) fun a hS => ?_
     refine qq hS rfl (y_wmul hS rfl rfl) fun a hS => ?_
     refine qq hS rfl (y_move hS rfl) fun a hS => ?_
     refine qq hS rfl (y_wadd hS rfl rfl) fun a hS => ?_
     refine qq hS rfl (y_assign hS rfl) fun a hS => ?_
     apply wpList_nil
     refine p_inN ?_
     refine p_norm ?_
     apply wp_region_lit
     refine qq hS rfl (y_move hS rfl) fun a hS => ?_
     refine qq hS rfl (y_addN (i := t_30) (j := 1) hS rfl rfl (in64.2 (by omega))) fun a hS => ?_
     refine qq hS rfl (y_assign hS rfl) fun a hS => ?_
     apply wN
     exact ⟨m2, Nat.lt_succ_self _, ⟨(IntKind.u64.wrap ((IntKind.u64.wrap (t_29 * 10)) + (((c33 - (48 : UInt8)).toNat : Nat) : Int))), (t_30 + 1), hg, (hS.sb rfl rfl rfl)⟩⟩
   ·replace hg := br_f hg hc31
    apply wp_exit
    refine p_then ?_
    refine p_then ?_
    refine p_in ?_
    refine p_norm ?_
    exact ⟨(t_29), hg, (hS.sb rfl rfl rfl)⟩
  clear hS a; rintro a w ⟨t_28, hg, hS⟩
  subst hk27
  apply wp_seq
  apply wR
  refine qq hS rfl (y_move hS rfl) fun a hS => ?_
  refine qq hS rfl (y_lenStrN hS rfl Try.underlying9) fun a hS => ?_
  refine qq hS rfl (y_move hS rfl) fun a hS => ?_
  refine qq hS rfl (y_lenStrN hS rfl Try.underlying9) fun a hS => ?_
  refine qq hS rfl (y_lssN (i := ((t_6).length)) (j := ((t_).length)) hS rfl rfl) fun a hS => ?_
  apply wN
  refine c_dec hS rfl (fun hc35 => ?_) (fun hc35 => ?_)
  ·replace hg := br_t hg hc35
   have hmx36 : (t_).length ≤ 9223372036854775807 := (by first | omega | (rw [List.length_append]; omega) | (simp only [List.length_append]; omega) | (simp only [List.length_append, List.length_take, List.length_drop, List.length_cons, List.length_nil]; omega))
   apply wR
   refine qq hS rfl (y_move hS rfl) fun a hS => ?_
   refine qq hS rfl (y_wneg hS rfl) fun a hS => ?_
   refine qq hS rfl (y_wconv hS rfl Try.underlying99 Try.underlying3) fun a hS => ?_
   refine qq hS rfl (y_assign hS rfl) fun a hS => ?_
   refine qq hS rfl (y_assign hS rfl) fun a hS => ?_
   apply wN
   apply wp_ret
   refine p_thenR ?_
   obtain rfl := Option.some.inj hg
   refine fin2 (fn := Try.f61) hS rfl (r_tmp hS rfl) (r_tmp hS rfl) ?_
   exact rfl
  ·replace hg := br_f hg hc35
   apply wp_skip
   refine p_norm ?_
   apply wp_seq
   apply wR
   refine qq hS rfl (y_move hS rfl) fun a hS => ?_
   refine qq hS rfl (y_eql hS rfl rfl) fun a hS => ?_
   apply wN
   refine c_dec hS rfl (fun hc37 => ?_) (fun hc37 => ?_)
   ·replace hg := br_t hg hc37
    apply wR
    refine qq hS rfl (y_assign hS rfl) fun a hS => ?_
    refine qq hS rfl (y_assign hS rfl) fun a hS => ?_
    apply wN
    apply wp_ret
    refine p_thenR ?_
    obtain rfl := Option.some.inj hg
    refine fin2 (fn := Try.f61) hS rfl (r_tmp hS rfl) (r_tmp hS rfl) ?_
    exact rfl
   ·replace hg := br_f hg hc37
    apply wp_skip
    refine p_norm ?_
    apply wp_seq
    obtain ⟨hk38, hg⟩ := chk_some hg
    apply wp_region_lit
    refine qq hS rfl (y_move hS rfl) fun a hS => ?_
    refine qq hS rfl (y_conv hS rfl Try.underlying99 Try.underlying3 (in64.2 (by omega))) fun a hS => ?_
    refine qq hS rfl (y_assign hS rfl) fun a hS => ?_
    refine qq hS rfl (y_assign hS rfl) fun a hS => ?_
    apply wN
    apply wp_ret
    obtain rfl := Option.some.inj hg
    refine fin2 (fn := Try.f61) hS rfl (r_tmp hS rfl) (r_tmp hS rfl) ?_
    exact rfl
end Go.Proofs.Ytdicfdfncbmmpaa

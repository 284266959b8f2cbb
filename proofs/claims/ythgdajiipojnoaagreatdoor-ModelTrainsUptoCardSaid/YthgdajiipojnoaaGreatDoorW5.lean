/- Chapter 37: the walks, part 5 -/
import Derived.Test.YthgdajiipojnoaaGreatDoorW4
namespace Go.Proofs.YthgdajiipojnoaaGreatDoor
open Go.Gl Go.RowKit Tryz
set_option linter.unusedVariables false
set_option linter.unusedSimpArgs false
set_option maxRecDepth 4000

set_option maxHeartbeats 400000 in
theorem c_r37_Same (n : Nat) (M : Bs) (w0 : World) (hM : ∀ b, M b → b < w0.heap.size) (a_ : Model) (Ap01 : Option Addr) (cp01 : Nat) (hp01 : SlR RWeight M w0 Ap01 (a_.Weights).length cp01 (a_.Weights)) (b_ : Model) (Ap11 : Option Addr) (cp11 : Nat) (hp11 : SlR RWeight M w0 Ap11 (b_.Weights).length cp11 (b_.Weights)) (r : Bool) (hg : r37_Same n a_ b_ = some r) :
    Calls Tryz.prog 9 [.agg #[.slice (Ap01) ((a_.Weights).length) (cp01)], .agg #[.slice (Ap11) ((b_.Weights).length) (cp11)]].toArray w0 (Ret noB w0 fun v w => v = .bool (r)) := by
 unfold r37_Same at hg
 refine enter M noB func9 rfl rfl hM ?_
 intro a s
 replace s := s.es 101 hp01
 replace s := s.es 102 hp11
 apply wR
 refine l_seq rfl (l_box (zs := [sl Ap01 (a_.Weights) cp01]) s 1000 rfl rfl rfl rfl fun b3 a w hb hK s => ?_)
 refine l_seq rfl (l_box (zs := [sl Ap11 (b_.Weights) cp11]) s 1001 rfl rfl rfl rfl fun b4 a w hb hK s => ?_)
 refine asg s rfl rfl fun a s => ?_
 apply wN
 apply wQ
 apply wR
 refine qq s rfl (y_boxField (o' := 0) s rfl underlying24 rfl rfl rfl) fun a s => ?_
 refine qq s rfl (y_loadBox1 (kk := 1000) s rfl rfl rfl underlying22 rfl) fun a s => ?_
 refine qq s rfl (y_lenSlice s rfl underlying22) fun a s => ?_
 refine qq s rfl (y_boxField (o' := 0) s rfl underlying24 rfl rfl rfl) fun a s => ?_
 refine qq s rfl (y_loadBox1 (kk := 1001) s rfl rfl rfl underlying22 rfl) fun a s => ?_
 refine qq s rfl (y_lenSlice s rfl underlying22) fun a s => ?_
 refine qq s rfl (y_neqN (i := ((a_.Weights).length)) (j := ((b_.Weights).length)) s rfl rfl) fun a s => ?_
 apply wN
 refine c_dec s rfl (fun hc5 => ?_) (fun hc5 => ?_)
 ·replace hg := br_t hg hc5
  apply wR
  refine asg s rfl rfl fun a s => ?_
  apply wN
  apply wp_ret
  refine p_thenR ?_
  obtain rfl := Option.some.inj hg
  refine fin1 (fn := Tryz.f9) s rfl (r_tmp s rfl) ?_
  exact rfl
 replace hg := br_f hg hc5
 apply wp_skip
 apply pN
 apply wQ
 apply wR
 refine asg s rfl rfl fun a s => ?_
 apply wN
 apply wp_block
 refine c_loop (σ := Nat) (fun m1 a w => ∃ (i_6 : Nat), r37_Same_L0 n a_ b_ m1 i_6 = some r ∧ St (⟨Tryz.f9.ntmps, M, noB, w0⟩ : Ctx) [(2, vP b3 0), (3, vP b4 0), (5, vI (((i_6 : Nat) : Int)))] [(1000, Ob.box b3 [sl Ap01 (a_.Weights) cp01] 24), (1001, Ob.box b4 [sl Ap11 (b_.Weights) cp11] 24)] [(101, slF RWeight (Ap01) ((a_.Weights).length) (cp01) (a_.Weights)), (102, slF RWeight (Ap11) ((b_.Weights).length) (cp11) (b_.Weights))] a w) (fun m1 => m1) n ⟨(0), hg, (s.sb rfl rfl rfl)⟩ ?_
 clear s a; rintro m1 a w ⟨i_6, hg, s⟩
 rcases m1 with _ | m1
 ·rw [r37_Same_L0] at hg; cases hg
 rw [r37_Same_L0] at hg
 apply wQ
 apply wR
 refine mv s rfl rfl fun a s => ?_
 refine qq s rfl (y_boxField (o' := 0) s rfl underlying24 rfl rfl rfl) fun a s => ?_
 refine qq s rfl (y_loadBox1 (kk := 1000) s rfl rfl rfl underlying22 rfl) fun a s => ?_
 refine qq s rfl (y_lenSlice s rfl underlying22) fun a s => ?_
 refine qq s rfl (y_lssN (i := i_6) (j := ((a_.Weights).length)) s rfl rfl) fun a s => ?_
 apply wN
 refine c_dec s rfl (fun hc7 => ?_) (fun hc7 => ?_)
 ·replace hg := br_t hg hc7
  have hmx8 := SlR.mx (s.ft 101 rfl)
  apply wp_skip
  apply pN
  apply wQ
  apply wp_block
  apply wQ
  obtain ⟨x10, hx10, hg⟩ := bind_some hg
  obtain ⟨x13, hx13, hg⟩ := bind_some hg
  refine d_plan s [] [(0, some 0), (1, some 1000), (2, some 0), (3, some 0), (4, some 0), (5, some 0), (6, some 1001), (7, some 0), (8, some 0), (9, some 0), (10, some 0)] rfl (by kernel_rfl) (by kernel_rfl) rfl ?_; clear s; intro wr hZ s; have hR := s.wd
  refine qt s hR rfl (y_boxField (o' := 0) s rfl underlying24 rfl rfl rfl) fun a s => ?_
  refine qt s hR rfl (y_loadBox1 (kk := 1000) s rfl rfl rfl underlying22 rfl) fun a s => ?_
  refine qt s hR rfl (y_move s rfl) fun a s => ?_
  obtain ⟨p15, hep15, hpp15⟩ := SlR.elemX (s.ft 101 rfl) hx10
  refine qt s hR rfl (y_elem (sz := 2) (i := i_6) s rfl rfl underlying22 rfl hep15 rfl (lt_of_get hx10)) fun a s => ?_
  obtain ⟨hlq16, hmq16, csq16, hdq16, hcq16⟩ := hpp15
  obtain ⟨rfl, lq161⟩ := RWeight.open hdq16
  refine qt s hR rfl (y_ldp s rfl hlq16 hmq16 (by simpa using hcq16) underlying39 rfl rfl) fun a s => ?_
  refine qt s hR rfl (y_boxField (o' := 0) s rfl underlying24 rfl rfl rfl) fun a s => ?_
  refine qt s hR rfl (y_loadBox1 (kk := 1001) s rfl rfl rfl underlying22 rfl) fun a s => ?_
  refine qt s hR rfl (y_move s rfl) fun a s => ?_
  obtain ⟨p17, hep17, hpp17⟩ := SlR.elemX (s.ft 102 rfl) hx13
  refine qt s hR rfl (y_elem (sz := 2) (i := i_6) s rfl rfl underlying22 rfl hep17 rfl (lt_of_get hx13)) fun a s => ?_
  obtain ⟨hlq18, hmq18, csq18, hdq18, hcq18⟩ := hpp17
  obtain ⟨rfl, lq181⟩ := RWeight.open hdq18
  refine qt s hR rfl (y_ldp s rfl hlq18 hmq18 (by simpa using hcq18) underlying39 rfl rfl) fun a s => ?_
  refine qt s hR rfl (y_neqS s rfl rfl (by kernel_rfl) (fun w' => eqWeight x10 x13 w')) fun a s => ?_
  clear hR hZ
  apply pN
  refine c_not s rfl (fun hc19 => ?_) (fun hc19 => ?_)
  ·replace hg := br_f hg hc19
   apply wR
   refine asg s rfl rfl fun a s => ?_
   apply wN
   apply wp_ret
   refine p_inR ?_
   refine p_thenR ?_
   refine p_thenR ?_
   refine p_inR ?_
   refine p_thenR ?_
   obtain rfl := Option.some.inj hg
   refine fin1 (fn := Tryz.f9) s rfl (r_tmp s rfl) ?_
   exact rfl
  replace hg := br_t hg hc19
  apply wp_skip
  refine p_inN ?_
  apply pN
  apply wL
  refine mv s rfl rfl fun a s => ?_
  refine qq s rfl (y_addN (i := i_6) (j := 1) s rfl rfl (in64.2 (by omega))) fun a s => ?_
  refine asg s rfl rfl fun a s => ?_
  apply wN
  exact ⟨m1, Nat.lt_succ_self _, ⟨(i_6 + 1), hg, (s.sb rfl rfl rfl)⟩⟩
 replace hg := br_f hg hc7
 apply wp_exit
 refine p_then ?_
 refine p_then ?_
 refine p_in ?_
 apply pN
 apply wR
 refine asg s rfl rfl fun a s => ?_
 apply wN
 apply wp_ret
 obtain rfl := Option.some.inj hg
 refine fin1 (fn := Tryz.f9) s rfl (r_tmp s rfl) ?_
 exact rfl
set_option maxHeartbeats 400000 in
theorem c_law37_leaf (n : Nat) (M : Bs) (w0 : World) (hM : ∀ b, M b → b < w0.heap.size) (name_ : (List UInt8)) (lp01 : (name_).length ≤ 9223372036854775807) (from_ : Int) (to_ : Int) (r : Deriv) (hg : law37_leaf n name_ from_ to_ = some r) :
    Calls Tryz.prog 12 [.string (bs (name_)), .int .i64 (from_), .int .i64 (to_)].toArray w0 (Ret noB w0 fun v w => ∃ (Aa5 : Option Addr), ∃ (ca5 : Nat), v = .agg #[.int .i64 (r.Kind), .string (bs (r.Name)), .int .i64 (r.From), .int .i64 (r.To), .slice (Aa5) ((r.Kids).length) (ca5)] ∧ ((r.Name).length ≤ 9223372036854775807) ∧ (SlR RDeriv M w Aa5 (r.Kids).length ca5 (r.Kids))) := by
 unfold law37_leaf at hg
 refine enter M noB func12 rfl rfl hM ?_
 intro a s
 apply wR
 refine l_seq rfl (l_alloc (zs := [vI 0, vT ([]), vI 0, vI 0, .slice (none) (0) (0)]) s 1000 rfl rfl rfl rfl fun b2 a w hb hK s => ?_)
 apply wN
 apply wR
 refine mv s rfl rfl fun a s => ?_
 refine mv s rfl rfl fun a s => ?_
 refine mv s rfl rfl fun a s => ?_
 refine qq s rfl (y_build (parts := [(0, .const (vI 0)), (1, .tmp 7), (2, .tmp 8), (3, .tmp 9)]) (ps := [(0, vI 0), (1, vT name_), (2, vI from_), (3, vI to_)]) (cells := #[vI 0, vT name_, vI from_, vI to_, .slice (none) (0) (0)]) s rfl (by kernel_rfl)) fun a s => ?_
 refine l_seq rfl (l_store (n := 5) (cs' := [vI 0, vT name_, vI from_, vI to_, .slice (none) (0) (0)]) s 1000 rfl rfl rfl rfl rfl rfl rfl rfl ?_); clear s; intro w hK s; clear hK
 apply wN
 apply wp_ret
 obtain rfl := Option.some.inj hg
 refine fin1 (fn := Tryz.f12) s rfl (r_cell (kk := 1000) (n := 5) (vs := [vI 0, vT name_, vI from_, vI to_, .slice (none) (0) (0)]) s rfl rfl underlying42 rfl rfl rfl rfl) ?_
 exact ⟨(none), (0), rfl, (by omega), (SlR.nil_ _ _ _)⟩
set_option maxHeartbeats 400000 in
theorem c_stringslite_Cut (n : Nat) (M : Bs) (w0 : World) (hM : ∀ b, M b → b < w0.heap.size) (s_ : (List UInt8)) (lp01 : (s_).length ≤ 9223372036854775807) (sep_ : (List UInt8)) (lp11 : (sep_).length ≤ 9223372036854775807) (r : ((List UInt8) × (List UInt8) × Bool)) (hg : stringslite_Cut n s_ sep_ = some r) :
    Calls Tryz.prog 60 [.string (bs (s_)), .string (bs (sep_))].toArray w0 (Ret noB w0 fun v w => v = .tuple #[.string (bs (r.1)), .string (bs (r.2.1)), .bool (r.2.2)] ∧ ((r.1).length ≤ 9223372036854775807) ∧ ((r.2.1).length ≤ 9223372036854775807)) := by
 unfold stringslite_Cut at hg
 refine enter M noB func60 rfl rfl hM ?_
 intro a s
 apply wR
 refine asg s rfl rfl fun a s => ?_
 refine asg s rfl rfl fun a s => ?_
 refine asg s rfl rfl fun a s => ?_
 apply wN
 apply wQ
 apply wQ
 obtain ⟨r1, hr1, hg⟩ := bind_some hg
 apply wL
 refine mv s rfl rfl fun a s => ?_
 refine mv s rfl rfl fun a s => ?_
 refine l_seq rfl (l_call (cap := []) s rfl func72 rfl (by kernel_rfl) rfl rfl (c_stringslite_Index n _ _ s.lt s_ (by omega) sep_ (by omega) r1 hr1) fun v4 a w hK hp s => ?_)
 obtain rfl := hp
 refine asg s rfl rfl fun a s => ?_
 apply wN
 apply wR
 refine mv s rfl rfl fun a s => ?_
 refine qq s rfl (y_geq s rfl rfl) fun a s => ?_
 apply wN
 refine c_dec s rfl (fun hc6 => ?_) (fun hc6 => ?_)
 ·replace hg := br_t hg hc6
  apply wQ
  obtain ⟨hk7, hg⟩ := chk_some hg
  obtain ⟨hk8, hg⟩ := chk_some hg
  obtain ⟨hk9, hg⟩ := chk_some hg
  obtain ⟨hk10, hg⟩ := chk_some hg
  obtain ⟨hk11, hg⟩ := chk_some hg
  refine d_plan s [] [(0, some 0), (1, some 0), (2, some 0), (3, some 0), (4, some 0), (5, some 0), (6, some 0), (7, some 0), (8, some 0), (9, some 0), (10, some 0), (11, some 0)] rfl (by kernel_rfl) (by kernel_rfl) rfl ?_; clear s; intro wr hZ s; have hR := s.wd
  refine qt s hR rfl (y_move s rfl) fun a s => ?_
  refine qt s hR rfl (y_move s rfl) fun a s => ?_
  refine qt s hR rfl (y_strH (i := ((r1).toNat)) s rfl rfl underlying9 (by omega) hk8) fun a s => ?_
  refine qt s hR rfl (y_move s rfl) fun a s => ?_
  refine qt s hR rfl (y_move s rfl) fun a s => ?_
  refine qt s hR rfl (y_move s rfl) fun a s => ?_
  refine qt s hR rfl (y_lenStrN s rfl underlying9) fun a s => ?_
  refine qt s hR rfl (y_add s rfl rfl (in64.2 hk9)) fun a s => ?_
  refine qt s hR rfl (y_strL (i := ((r1 + (((sep_).length : Nat) : Int)).toNat)) s rfl rfl underlying9 (by omega) hk11) fun a s => ?_
  refine qt s hR rfl (y_assign s rfl) fun a s => ?_
  refine qt s hR rfl (y_assign s rfl) fun a s => ?_
  refine qt s hR rfl (y_assign s rfl) fun a s => ?_
  clear hR hZ
  apply pN
  apply wp_ret
  refine p_thenR ?_
  obtain rfl := Option.some.inj hg
  refine fin3 (fn := Tryz.f60) s rfl (r_tmp s rfl) (r_tmp s rfl) (r_tmp s rfl) ?_
  exact ⟨rfl, (by first | omega | (rw [List.length_append]; omega) | (simp only [List.length_append]; omega) | (simp only [List.length_append, List.length_take, List.length_drop, List.length_cons, List.length_nil]; omega) | exact smin_len (by omega) (by omega)), (by first | omega | (rw [List.length_append]; omega) | (simp only [List.length_append]; omega) | (simp only [List.length_append, List.length_take, List.length_drop, List.length_cons, List.length_nil]; omega) | exact smin_len (by omega) (by omega))⟩
 replace hg := br_f hg hc6
 apply wp_skip
 apply pN
 apply wR
 refine mv s rfl rfl fun a s => ?_
 refine asg s rfl rfl fun a s => ?_
 refine asg s rfl rfl fun a s => ?_
 refine asg s rfl rfl fun a s => ?_
 apply wN
 apply wp_ret
 obtain rfl := Option.some.inj hg
 refine fin3 (fn := Tryz.f60) s rfl (r_tmp s rfl) (r_tmp s rfl) (r_tmp s rfl) ?_
 exact ⟨rfl, (by omega), (by first | omega | (rw [List.length_append]; omega) | (simp only [List.length_append]; omega) | (simp only [List.length_append, List.length_take, List.length_drop, List.length_cons, List.length_nil]; omega) | exact smin_len (by omega) (by omega))⟩
set_option maxHeartbeats 400000 in
theorem c_strings_Cut (n : Nat) (M : Bs) (w0 : World) (hM : ∀ b, M b → b < w0.heap.size) (s_ : (List UInt8)) (lp01 : (s_).length ≤ 9223372036854775807) (sep_ : (List UInt8)) (lp11 : (sep_).length ≤ 9223372036854775807) (r : ((List UInt8) × (List UInt8) × Bool)) (hg : strings_Cut n s_ sep_ = some r) :
    Calls Tryz.prog 44 [.string (bs (s_)), .string (bs (sep_))].toArray w0 (Ret noB w0 fun v w => v = .tuple #[.string (bs (r.1)), .string (bs (r.2.1)), .bool (r.2.2)] ∧ ((r.1).length ≤ 9223372036854775807) ∧ ((r.2.1).length ≤ 9223372036854775807)) := by
 unfold strings_Cut at hg
 refine enter M noB func44 rfl rfl hM ?_
 intro a s
 apply wR
 refine asg s rfl rfl fun a s => ?_
 refine asg s rfl rfl fun a s => ?_
 refine asg s rfl rfl fun a s => ?_
 apply wN
 apply wQ
 obtain ⟨r1, hr1, hg⟩ := bind_some hg
 apply wL
 refine mv s rfl rfl fun a s => ?_
 refine mv s rfl rfl fun a s => ?_
 refine l_seq rfl (l_call (cap := []) s rfl func60 rfl (by kernel_rfl) rfl rfl (c_stringslite_Cut n _ _ s.lt s_ (by omega) sep_ (by omega) r1 hr1) fun v4 a w hK hp s => ?_)
 obtain ⟨rfl, lu5a1, lu5b1⟩ := hp
 refine qq s rfl (y_extract s rfl rfl) fun a s => ?_
 refine qq s rfl (y_extract s rfl rfl) fun a s => ?_
 refine qq s rfl (y_extract s rfl rfl) fun a s => ?_
 refine asg s rfl rfl fun a s => ?_
 refine asg s rfl rfl fun a s => ?_
 refine asg s rfl rfl fun a s => ?_
 apply wN
 apply wp_ret
 obtain rfl := Option.some.inj hg
 refine fin3 (fn := Tryz.f44) s rfl (r_tmp s rfl) (r_tmp s rfl) (r_tmp s rfl) ?_
 exact ⟨rfl, (by omega), (by omega)⟩
set_option maxHeartbeats 400000 in
theorem c_text_digit (n : Nat) (M : Bs) (w0 : World) (hM : ∀ b, M b → b < w0.heap.size) (c_ : Int) (r : Bool) (hg : text_digit n c_ = some r) :
    Calls Tryz.prog 73 [.int .i32 (c_)].toArray w0 (Ret noB w0 fun v w => v = .bool (r)) := by
 unfold text_digit at hg
 refine enter M noB func73 rfl rfl hM ?_
 intro a s
 apply wR
 refine asg s rfl rfl fun a s => ?_
 apply wN
 apply wQ
 rcases Decidable.em ((48 : Int) ≤ c_) with hs1 | hs1
 ·have hs1e := decide_eq_true hs1
  replace hg := br_t hg hs1
  apply wL
  refine mv s rfl rfl fun a s => ?_
  refine qq s rfl (yl_b (y_geq s rfl rfl) hs1e) fun a s => ?_
  refine mv s rfl rfl fun a s => ?_
  refine gm s rfl rfl fun a s => ?_
  refine gy s rfl (y_leq s rfl rfl) fun a s => ?_
  refine qq s rfl (y_pick_t s rfl rfl) fun a s => ?_
  refine asg s rfl rfl fun a s => ?_
  apply wN
  apply wp_ret
  obtain rfl := Option.some.inj hg
  refine fin1 (fn := Tryz.f73) s rfl (r_tmp s rfl) ?_
  exact rfl
 have hs1e := decide_eq_false hs1
 replace hg := br_f hg hs1
 apply wL
 refine mv s rfl rfl fun a s => ?_
 refine qq s rfl (yl_b (y_geq s rfl rfl) hs1e) fun a s => ?_
 refine mv s rfl rfl fun a s => ?_
 refine gn s rfl fun a s => ?_
 refine gn s rfl fun a s => ?_
 refine qq s rfl (y_pick_f s rfl rfl) fun a s => ?_
 refine asg s rfl rfl fun a s => ?_
 apply wN
 apply wp_ret
 obtain rfl := Option.some.inj hg
 refine fin1 (fn := Tryz.f73) s rfl (r_tmp s rfl) ?_
 exact rfl
set_option maxHeartbeats 400000 in
theorem c_text_follows (n : Nat) (M : Bs) (w0 : World) (hM : ∀ b, M b → b < w0.heap.size) (s_ : (List UInt8)) (lp01 : (s_).length ≤ 9223372036854775807) (letter_ : (Int → Option Bool)) (Ap11 : FuncId) (cp11 : List Value) (hp11 : FnR Tryz.prog Ap11 cp11 pre92 post92 (letter_) M w0) (r : Bool) (hg : text_follows n s_ letter_ = some r) :
    Calls Tryz.prog 61 [.string (bs (s_)), .func (.func Ap11) #[] (List.toArray cp11)].toArray w0 (Ret noB w0 fun v w => v = .bool (r)) := by
 unfold text_follows at hg
 refine enter M noB func61 rfl rfl hM ?_
 intro a s
 replace s := s.add 101 (fnF Tryz.prog Ap11 cp11 pre92 post92 (letter_)) (by exact Fact.change _ enterM hp11)
 apply wR
 refine asg s rfl rfl fun a s => ?_
 apply wN
 apply wQ
 apply wQ
 obtain ⟨k1, hg, hk1⟩ := jn_some hg
 refine c_post (fun a w => ∃ (t_2 : Bool), k1 t_2 = some r ∧ St (⟨Tryz.f61.ntmps, M, noB, w0⟩ : Ctx) [(0, vT s_), (1, .func (.func Ap11) #[] (List.toArray cp11)), (14, .bool (t_2))] [] [(101, fnF Tryz.prog Ap11 cp11 pre92 post92 (letter_))] a w) ?_ ?_
 ·rcases Decidable.em (((s_).length) = 0) with hs3 | hs3
  ·have hs3e := decide_eq_true hs3
   replace hg := br_t hg hs3
   apply wL
   refine mv s rfl rfl fun a s => ?_
   refine qq s rfl (y_lenStrN s rfl underlying9) fun a s => ?_
   refine qq s rfl (yl_b (y_eqlN (i := ((s_).length)) (j := 0) s rfl rfl) hs3e) fun a s => ?_
   refine mv s rfl rfl fun a s => ?_
   refine gn s rfl fun a s => ?_
   refine gn s rfl fun a s => ?_
   refine gn s rfl fun a s => ?_
   refine qq s rfl (y_pick_t s rfl rfl) fun a s => ?_
   apply wN
   exact ⟨(true), hg, (s.sb rfl rfl rfl)⟩
  have hs3e := decide_eq_false hs3
  replace hg := br_f hg hs3
  apply wL
  refine mv s rfl rfl fun a s => ?_
  refine qq s rfl (y_lenStrN s rfl underlying9) fun a s => ?_
  refine qq s rfl (yl_b (y_eqlN (i := ((s_).length)) (j := 0) s rfl rfl) hs3e) fun a s => ?_
  refine mv s rfl rfl fun a s => ?_
  refine gm s rfl rfl fun a s => ?_
  refine gy s rfl (y_lenStrN s rfl underlying9) fun a s => ?_
  refine gy s rfl (y_gtrN (i := ((s_).length)) (j := 32) s rfl rfl) fun a s => ?_
  refine qq s rfl (y_pick_f s rfl rfl) fun a s => ?_
  apply wN
  exact ⟨(decide ((32 : Nat) < ((s_).length))), hg, (s.sb rfl rfl rfl)⟩
 clear s a; rintro a w ⟨t_2, hg, s⟩
 subst hk1
 refine c_cond s rfl (fun hc4 => ?_) (fun hc4 => ?_)
 ·replace hg := br_t hg hc4
  apply wR
  refine asg s rfl rfl fun a s => ?_
  apply wN
  apply wp_ret
  refine p_thenR ?_
  obtain rfl := Option.some.inj hg
  refine fin1 (fn := Tryz.f61) s rfl (r_tmp s rfl) ?_
  exact rfl
 replace hg := br_n hg hc4
 apply wp_skip
 apply pN
 apply wQ
 apply wR
 refine mv s rfl rfl fun a s => ?_
 refine l_seq rfl (l_range s 1301 rfl underlying9 rfl rfl fun b6 a w hb hK s => ?_)
 apply wN
 apply wp_block
 refine c_loop (σ := Nat) (fun m1 a w => ∃ (pos_7 : Nat), text_follows_L0 n s_ letter_ m1 pos_7 = some r ∧ St (⟨Tryz.f61.ntmps, M, noB, w0⟩ : Ctx) [(1, .func (.func Ap11) #[] (List.toArray cp11)), (16, vP b6 0)] [(1301, Ob.iter b6 (bs (s_)) (pos_7))] [(101, fnF Tryz.prog Ap11 cp11 pre92 post92 (letter_))] a w) (fun m1 => m1) n ⟨(0), hg, (s.sb rfl rfl rfl)⟩ ?_
 clear s a; rintro m1 a w ⟨pos_7, hg, s⟩
 rcases m1 with _ | m1
 ·rw [text_follows_L0] at hg; cases hg
 rw [text_follows_L0] at hg
 apply wQ
 rcases Decidable.em (pos_7 < (s_).length) with hs8 | hs8
 ·have hs8e := decide_eq_true hs8
  replace hg := br_t hg hs8
  have hmx9 : (s_).length ≤ 9223372036854775807 := (by omega)
  apply wL
  refine l_seq rfl (l_next s 1301 rfl rfl hs8 rfl fun a w hK s => ?_)
  refine qq s rfl (y_extract s rfl rfl) fun a s => ?_
  apply wN
  apply wQ
  refine c_t s rfl ?_
  apply wp_skip
  apply pN
  apply wp_block
  apply wR
  refine qq s rfl (y_extract s rfl rfl) fun a s => ?_
  refine qq s rfl (y_extract s rfl rfl) fun a s => ?_
  refine asg s rfl rfl fun a s => ?_
  refine asg s rfl rfl fun a s => ?_
  apply wN
  apply wQ
  obtain ⟨k10, hg, hk10⟩ := jn_some hg
  refine c_post (fun a w => ∃ (t_11 : Bool), k10 t_11 = some r ∧ St (⟨Tryz.f61.ntmps, M, noB, w0⟩ : Ctx) [(1, .func (.func Ap11) #[] (List.toArray cp11)), (16, vP b6 0), (37, .bool (t_11))] [(1301, Ob.iter b6 (bs (s_)) (pos_7 + runeLen s_ pos_7))] [(101, fnF Tryz.prog Ap11 cp11 pre92 post92 (letter_))] a w) ?_ ?_
  ·obtain ⟨r12, hr12, hg⟩ := bind_some hg
   rcases Bool.eq_false_or_eq_true (!(r12)) with hs15 | hs15
   ·replace hg := br_t hg hs15
    rcases Decidable.em (pos_7 = 0) with hs16 | hs16
    ·have hs16e := decide_eq_true hs16
     replace hg := br_t hg hs16
     apply wL
     refine mv s rfl rfl fun a s => ?_
     refine mv s rfl rfl fun a s => ?_
     refine l_seq rfl (l_callFn (cap := cp11) (x := (runeAt s_ pos_7)) s rfl (s.ft 101 rfl) rfl rfl rfl hr12 fun v17 a w hK hp s => ?_)
     obtain rfl := hp
     refine qq s rfl (yl_b (y_not s rfl) hs15) fun a s => ?_
     refine mv s rfl rfl fun a s => ?_
     refine gm s rfl rfl fun a s => ?_
     refine gy s rfl (yl_b (y_eqlN (i := pos_7) (j := 0) s rfl rfl) hs16e) fun a s => ?_
     refine gm s rfl rfl fun a s => ?_
     refine gn s rfl fun a s => ?_
     refine gn s rfl fun a s => ?_
     refine gn s rfl fun a s => ?_
     refine gn s rfl fun a s => ?_
     refine gn s rfl fun a s => ?_
     refine gn s rfl fun a s => ?_
     refine gn s rfl fun a s => ?_
     refine gy s rfl (y_pick_t s rfl rfl) fun a s => ?_
     refine qq s rfl (y_pick_t s rfl rfl) fun a s => ?_
     apply wN
     exact ⟨(true), hg, (s.sb rfl rfl rfl)⟩
    have hs16e := decide_eq_false hs16
    replace hg := br_f hg hs16
    obtain ⟨r19, hr19, hg⟩ := bind_some hg
    rcases Bool.eq_false_or_eq_true (!(r19)) with hs22 | hs22
    ·replace hg := br_t hg hs22
     apply wL
     refine mv s rfl rfl fun a s => ?_
     refine mv s rfl rfl fun a s => ?_
     refine l_seq rfl (l_callFn (cap := cp11) (x := (runeAt s_ pos_7)) s rfl (s.ft 101 rfl) rfl rfl rfl hr12 fun v23 a w hK hp s => ?_)
     obtain rfl := hp
     refine qq s rfl (yl_b (y_not s rfl) hs15) fun a s => ?_
     refine mv s rfl rfl fun a s => ?_
     refine gm s rfl rfl fun a s => ?_
     refine gy s rfl (yl_b (y_eqlN (i := pos_7) (j := 0) s rfl rfl) hs16e) fun a s => ?_
     refine gm s rfl rfl fun a s => ?_
     refine gm s rfl rfl fun a s => ?_
     refine gl s rfl (l_call (cap := []) s rfl func73 rfl (by kernel_rfl) rfl rfl (c_text_digit n _ _ s.lt (runeAt s_ pos_7) r19 hr19) fun v25 a w hK hp s => ?_)
     obtain rfl := hp
     refine gy s rfl (yl_b (y_not s rfl) hs22) fun a s => ?_
     refine gm s rfl rfl fun a s => ?_
     refine gm s rfl rfl fun a s => ?_
     refine gy s rfl (y_neq s rfl rfl) fun a s => ?_
     refine gy s rfl (y_pick_t s rfl rfl) fun a s => ?_
     refine gy s rfl (y_pick_f s rfl rfl) fun a s => ?_
     refine qq s rfl (y_pick_t s rfl rfl) fun a s => ?_
     apply wN
     exact ⟨(decide ((runeAt s_ pos_7) ≠ 45)), hg, (s.sb rfl rfl rfl)⟩
    replace hg := br_n hg hs22
    apply wL
    refine mv s rfl rfl fun a s => ?_
    refine mv s rfl rfl fun a s => ?_
    refine l_seq rfl (l_callFn (cap := cp11) (x := (runeAt s_ pos_7)) s rfl (s.ft 101 rfl) rfl rfl rfl hr12 fun v27 a w hK hp s => ?_)
    obtain rfl := hp
    refine qq s rfl (yl_b (y_not s rfl) hs15) fun a s => ?_
    refine mv s rfl rfl fun a s => ?_
    refine gm s rfl rfl fun a s => ?_
    refine gy s rfl (yl_b (y_eqlN (i := pos_7) (j := 0) s rfl rfl) hs16e) fun a s => ?_
    refine gm s rfl rfl fun a s => ?_
    refine gm s rfl rfl fun a s => ?_
    refine gl s rfl (l_call (cap := []) s rfl func73 rfl (by kernel_rfl) rfl rfl (c_text_digit n _ _ s.lt (runeAt s_ pos_7) r19 hr19) fun v29 a w hK hp s => ?_)
    obtain rfl := hp
    refine gy s rfl (yl_b (y_not s rfl) hs22) fun a s => ?_
    refine gm s rfl rfl fun a s => ?_
    refine gn s rfl fun a s => ?_
    refine gn s rfl fun a s => ?_
    refine gy s rfl (y_pick_f s rfl rfl) fun a s => ?_
    refine gy s rfl (y_pick_f s rfl rfl) fun a s => ?_
    refine qq s rfl (y_pick_t s rfl rfl) fun a s => ?_
    apply wN
    exact ⟨(false), hg, (s.sb rfl rfl rfl)⟩
   replace hg := br_n hg hs15
   apply wL
   refine mv s rfl rfl fun a s => ?_
   refine mv s rfl rfl fun a s => ?_
   refine l_seq rfl (l_callFn (cap := cp11) (x := (runeAt s_ pos_7)) s rfl (s.ft 101 rfl) rfl rfl rfl hr12 fun v31 a w hK hp s => ?_)
   obtain rfl := hp
   refine qq s rfl (yl_b (y_not s rfl) hs15) fun a s => ?_
   refine mv s rfl rfl fun a s => ?_
   refine gn s rfl fun a s => ?_
   refine gn s rfl fun a s => ?_
   refine gn s rfl fun a s => ?_
   refine gn s rfl fun a s => ?_
   refine gn s rfl fun a s => ?_
   refine gn s rfl fun a s => ?_
   refine gn s rfl fun a s => ?_
   refine gn s rfl fun a s => ?_
   refine gn s rfl fun a s => ?_
   refine gn s rfl fun a s => ?_
   refine gn s rfl fun a s => ?_
   refine qq s rfl (y_pick_f s rfl rfl) fun a s => ?_
   apply wN
   exact ⟨(false), hg, (s.sb rfl rfl rfl)⟩
  clear s a; rintro a w ⟨t_11, hg, s⟩
  subst hk10
  refine c_cond s rfl (fun hc33 => ?_) (fun hc33 => ?_)
  ·replace hg := br_t hg hc33
   apply wR
   refine asg s rfl rfl fun a s => ?_
   apply wN
   apply wp_ret
   refine p_inR ?_
   refine p_thenR ?_
   refine p_inR ?_
   refine p_thenR ?_
   obtain rfl := Option.some.inj hg
   refine fin1 (fn := Tryz.f61) s rfl (r_tmp s rfl) ?_
   exact rfl
  replace hg := br_n hg hc33
  apply wp_skip
  refine p_inN ?_
  apply pN
  exact ⟨m1, Nat.lt_succ_self _, ⟨(pos_7 + runeLen s_ pos_7), hg, (s.sb rfl rfl rfl)⟩⟩
 have hs8e := decide_eq_false hs8
 replace hg := br_f hg hs8
 apply wL
 refine l_seq rfl (l_nextE s 1301 rfl rfl hs8 rfl fun a w hK s => ?_)
 refine qq s rfl (y_extract s rfl rfl) fun a s => ?_
 apply wN
 apply wQ
 refine c_f s rfl ?_
 apply wp_exit
 refine p_then ?_
 refine p_then ?_
 refine p_in ?_
 apply pN
 apply wR
 refine asg s rfl rfl fun a s => ?_
 apply wN
 apply wp_ret
 obtain rfl := Option.some.inj hg
 refine fin1 (fn := Tryz.f61) s rfl (r_tmp s rfl) ?_
 exact rfl
set_option maxHeartbeats 400000 in
theorem c_text_lower (n : Nat) (M : Bs) (w0 : World) (hM : ∀ b, M b → b < w0.heap.size) (c_ : Int) (r : Bool) (hg : text_lower n c_ = some r) :
    Calls Tryz.prog 62 [.int .i32 (c_)].toArray w0 (Ret noB w0 fun v w => v = .bool (r)) := by
 unfold text_lower at hg
 refine enter M noB func62 rfl rfl hM ?_
 intro a s
 apply wR
 refine asg s rfl rfl fun a s => ?_
 apply wN
 apply wQ
 rcases Decidable.em ((97 : Int) ≤ c_) with hs1 | hs1
 ·have hs1e := decide_eq_true hs1
  replace hg := br_t hg hs1
  apply wL
  refine mv s rfl rfl fun a s => ?_
  refine qq s rfl (yl_b (y_geq s rfl rfl) hs1e) fun a s => ?_
  refine mv s rfl rfl fun a s => ?_
  refine gm s rfl rfl fun a s => ?_
  refine gy s rfl (y_leq s rfl rfl) fun a s => ?_
  refine qq s rfl (y_pick_t s rfl rfl) fun a s => ?_
  refine asg s rfl rfl fun a s => ?_
  apply wN
  apply wp_ret
  obtain rfl := Option.some.inj hg
  refine fin1 (fn := Tryz.f62) s rfl (r_tmp s rfl) ?_
  exact rfl
 have hs1e := decide_eq_false hs1
 replace hg := br_f hg hs1
 apply wL
 refine mv s rfl rfl fun a s => ?_
 refine qq s rfl (yl_b (y_geq s rfl rfl) hs1e) fun a s => ?_
 refine mv s rfl rfl fun a s => ?_
 refine gn s rfl fun a s => ?_
 refine gn s rfl fun a s => ?_
 refine qq s rfl (y_pick_f s rfl rfl) fun a s => ?_
 refine asg s rfl rfl fun a s => ?_
 apply wN
 apply wp_ret
 obtain rfl := Option.some.inj hg
 refine fin1 (fn := Tryz.f62) s rfl (r_tmp s rfl) ?_
 exact rfl
set_option maxHeartbeats 400000 in
theorem c_text_Name (n : Nat) (M : Bs) (w0 : World) (hM : ∀ b, M b → b < w0.heap.size) (s_ : (List UInt8)) (lp01 : (s_).length ≤ 9223372036854775807) (r : Bool) (hg : text_Name n s_ = some r) :
    Calls Tryz.prog 45 [.string (bs (s_))].toArray w0 (Ret noB w0 fun v w => v = .bool (r)) := by
 unfold text_Name at hg
 refine enter M noB func45 rfl rfl hM ?_
 intro a s
 apply wR
 refine asg s rfl rfl fun a s => ?_
 apply wN
 apply wQ
 obtain ⟨r1, hr1, hg⟩ := bind_some hg
 apply wL
 refine mv s rfl rfl fun a s => ?_
 refine l_seq rfl (l_call (cap := []) s rfl func61 rfl (by kernel_rfl) rfl rfl (c_text_follows n _ _ s.lt s_ (by omega) (fun p => text_lower n p) (62) ([]) ⟨⟨_, _, func62, rfl, by kernel_rfl⟩, fun M1 w1 hk hm hlt vs x r hp hr => by obtain rfl := hp; exact c_text_lower n M1 w1 hlt (x) r hr⟩ r1 hr1) fun v4 a w hK hp s => ?_)
 obtain rfl := hp
 refine asg s rfl rfl fun a s => ?_
 apply wN
 apply wp_ret
 obtain rfl := Option.some.inj hg
 refine fin1 (fn := Tryz.f45) s rfl (r_tmp s rfl) ?_
 exact rfl
set_option maxHeartbeats 400000 in
theorem c_strings_explode (n : Nat) (M : Bs) (w0 : World) (hM : ∀ b, M b → b < w0.heap.size) (s_ : (List UInt8)) (lp01 : (s_).length ≤ 9223372036854775807) (n_ : Int) (r : (List (List UInt8))) (hg : strings_explode n s_ n_ = some r) :
    Calls Tryz.prog 74 [.string (bs (s_)), .int .i64 (n_)].toArray w0 (Ret noB w0 fun v w => ∃ (Aa1 : Option Addr), ∃ (ca1 : Nat), v = .slice (Aa1) ((r).length) (ca1) ∧ (SlR Rep.str M w Aa1 (r).length ca1 (r))) := by
 unfold strings_explode at hg
 cases hg
set_option maxHeartbeats 400000 in
theorem c_strings_genSplit (n : Nat) (M : Bs) (w0 : World) (hM : ∀ b, M b → b < w0.heap.size) (t_ : (List UInt8)) (lp01 : (t_).length ≤ 9223372036854775807) (t_' : (List UInt8)) (lp11 : (t_').length ≤ 9223372036854775807) (t_'' : Int) (t_''' : Int) (r : (List (List UInt8))) (hg : strings_genSplit n t_ t_' t_'' t_''' = some r) :
    Calls Tryz.prog 63 [.string (bs (t_)), .string (bs (t_')), .int .i64 (t_''), .int .i64 (t_''')].toArray w0 (Ret noB w0 fun v w => ∃ (Aa1 : Option Addr), ∃ (ca1 : Nat), v = .slice (Aa1) ((r).length) (ca1) ∧ (SlR Rep.str M w Aa1 (r).length ca1 (r))) := by
 unfold strings_genSplit at hg
 refine enter M noB func63 rfl rfl hM ?_
 intro a s
 apply wR
 refine asg s rfl rfl fun a s => ?_
 apply wN
 apply wQ
 apply wR
 refine mv s rfl rfl fun a s => ?_
 refine qq s rfl (y_eql s rfl rfl) fun a s => ?_
 apply wN
 refine c_dec s rfl (fun hc1 => ?_) (fun hc1 => ?_)
 ·replace hg := br_t hg hc1
  apply wR
  refine asg s rfl rfl fun a s => ?_
  apply wN
  apply wp_ret
  refine p_thenR ?_
  obtain rfl := Option.some.inj hg
  refine fin1 (fn := Tryz.f63) s rfl (r_tmp s rfl) ?_
  exact ⟨(none), (0), rfl, (SlR.nil_ _ _ _)⟩
 replace hg := br_f hg hc1
 apply wp_skip
 apply pN
 apply wQ
 apply wR
 refine mv s rfl rfl fun a s => ?_
 refine qq s rfl (y_seq s rfl rfl) fun a s => ?_
 apply wN
 refine c_dec s rfl (fun hc2 => ?_) (fun hc2 => ?_)
 ·replace hg := br_t hg hc2
  apply wQ
  obtain ⟨r3, hr3, hg⟩ := bind_some hg
  apply wL
  refine mv s rfl rfl fun a s => ?_
  refine mv s rfl rfl fun a s => ?_
  refine l_seq rfl (l_call (cap := []) s rfl func74 rfl (by kernel_rfl) rfl rfl (c_strings_explode n _ _ s.lt t_ (by omega) t_''' r3 hr3) fun v6 a w hK hp s => ?_)
  obtain ⟨Au7a1, cu7a1, rfl, hu7a1⟩ := hp
  replace s := s.ns 102 hu7a1
  refine asg s rfl rfl fun a s => ?_
  apply wN
  apply wp_ret
  refine p_thenR ?_
  obtain rfl := Option.some.inj hg
  refine fin1 (fn := Tryz.f63) s rfl (r_tmp s rfl) ?_
  exact ⟨(Au7a1), (cu7a1), rfl, (s.out (k := 102) rfl)⟩
 replace hg := br_f hg hc2
 apply wp_skip
 apply pN
 apply wQ
 apply wR
 refine mv s rfl rfl fun a s => ?_
 refine qq s rfl (y_lss s rfl rfl) fun a s => ?_
 apply wN
 obtain ⟨k8, hg, hk8⟩ := jn_some hg
 refine c_post (fun a w => ∃ (t_9 : Int), k8 t_9 = some r ∧ St (⟨Tryz.f63.ntmps, M, noB, w0⟩ : Ctx) [(0, vT t_), (1, vT (t_')), (2, vI (t_'')), (3, vI t_9)] [] [] a w) ?_ ?_
 ·refine c_dec s rfl (fun hc10 => ?_) (fun hc10 => ?_)
  ·replace hg := br_t hg hc10
   obtain ⟨r11, hr11, hg⟩ := bind_some hg
   obtain ⟨hk14, hg⟩ := chk_some hg
   apply wL
   refine mv s rfl rfl fun a s => ?_
   refine mv s rfl rfl fun a s => ?_
   refine l_seq rfl (l_call (cap := []) s rfl func75 rfl (by kernel_rfl) rfl rfl (c_strings_Count n _ _ s.lt t_ (by omega) t_' (by omega) r11 hr11) fun v15 a w hK hp s => ?_)
   obtain rfl := hp
   refine qq s rfl (y_add s rfl rfl (in64.2 hk14)) fun a s => ?_
   refine asg s rfl rfl fun a s => ?_
   apply wN
   exact ⟨(r11 + 1), hg, (s.sb rfl rfl rfl)⟩
  replace hg := br_f hg hc10
  apply wp_skip
  apply pN
  exact ⟨(t_'''), hg, (s.sb rfl rfl rfl)⟩
 clear s a; rintro a w ⟨t_9, hg, s⟩
 subst hk8
 apply wQ
 obtain ⟨hk17, hg⟩ := chk_some hg
 apply wL
 refine mv s rfl rfl fun a s => ?_
 refine mv s rfl rfl fun a s => ?_
 refine qq s rfl (y_lenStrN s rfl underlying9) fun a s => ?_
 refine qq s rfl (y_addN (i := ((t_).length)) (j := 1) s rfl rfl (in64.2 (by omega))) fun a s => ?_
 refine qq s rfl (y_min s rfl rfl) fun a s => ?_
 refine asg s rfl rfl fun a s => ?_
 apply wN
 apply wQ
 obtain ⟨hk18, hg⟩ := chk_some hg
 obtain ⟨hk19, hg⟩ := chk_some hg
 apply wL
 refine mv s rfl rfl fun a s => ?_
 refine l_seq rfl (l_makeSlice (n := ((if (((t_).length + 1 : Nat) : Int) < t_9 then (((t_).length + 1 : Nat) : Int) else t_9).toNat)) (by_ := 16) (zv := (Value.string (bs []))) s 1801 (by rw [Int.toNat_of_nonneg hk18]; rfl) (by rw [Int.toNat_of_nonneg hk18]; rfl) underlying44 rfl rfl rfl rfl rfl hk19 (by omega) rfl rfl fun b21 a w hbb21 hK s => ?_)
 clear hbb21
 replace s := s.sub (l' := [(0, .string (bs (t_))), (1, .string (bs (t_'))), (2, .int .i64 (t_'')), (3, .int .i64 (if (((t_).length + 1 : Nat) : Int) < t_9 then (((t_).length + 1 : Nat) : Int) else t_9)), (25, .int .i64 (t_9)), (26, .string (bs (t_))), (27, .int .i64 ((((t_).length : Nat) : Int))), (28, .int .i64 ((((t_).length + 1 : Nat) : Int))), (29, .int .i64 (if (((t_).length + 1 : Nat) : Int) < t_9 then (((t_).length + 1 : Nat) : Int) else t_9)), (30, .int .i64 (if (((t_).length + 1 : Nat) : Int) < t_9 then (((t_).length + 1 : Nat) : Int) else t_9)), (31, .slice (some ⟨b21, 0, none⟩) ((if (((t_).length + 1 : Nat) : Int) < t_9 then (((t_).length + 1 : Nat) : Int) else t_9).toNat) ((if (((t_).length + 1 : Nat) : Int) < t_9 then (((t_).length + 1 : Nat) : Int) else t_9).toNat))]) (L' := [(1801, Ob.row (some ⟨b21, 0, none⟩) ((if (((t_).length + 1 : Nat) : Int) < t_9 then (((t_).length + 1 : Nat) : Int) else t_9).toNat) ((if (((t_).length + 1 : Nat) : Int) < t_9 then (((t_).length + 1 : Nat) : Int) else t_9).toNat) 9 1 (List.replicate ((if (((t_).length + 1 : Nat) : Int) < t_9 then (((t_).length + 1 : Nat) : Int) else t_9).toNat) (Value.string (bs []))))]) (D' := []) ⟨rfl, rfl, rfl, rfl, rfl, rfl, rfl, rfl, rfl, rfl, rfl, trivial⟩ ⟨rfl, trivial⟩ trivial
 replace s := s.eqs (l' := [(0, .string (bs (t_))), (1, .string (bs (t_'))), (2, .int .i64 (t_'')), (3, .int .i64 (if (((t_).length + 1 : Nat) : Int) < t_9 then (((t_).length + 1 : Nat) : Int) else t_9)), (25, .int .i64 (t_9)), (26, .string (bs (t_))), (27, .int .i64 ((((t_).length : Nat) : Int))), (28, .int .i64 ((((t_).length + 1 : Nat) : Int))), (29, .int .i64 (if (((t_).length + 1 : Nat) : Int) < t_9 then (((t_).length + 1 : Nat) : Int) else t_9)), (30, .int .i64 (if (((t_).length + 1 : Nat) : Int) < t_9 then (((t_).length + 1 : Nat) : Int) else t_9)), (31, .slice (some ⟨b21, 0, none⟩) ((List.replicate ((if (((t_).length + 1 : Nat) : Int) < t_9 then (((t_).length + 1 : Nat) : Int) else t_9).toNat) ([] : (List UInt8))).length) ((if (((t_).length + 1 : Nat) : Int) < t_9 then (((t_).length + 1 : Nat) : Int) else t_9).toNat))]) (L' := [(1801, Ob.row (some ⟨b21, 0, none⟩) ((List.replicate ((if (((t_).length + 1 : Nat) : Int) < t_9 then (((t_).length + 1 : Nat) : Int) else t_9).toNat) ([] : (List UInt8))).length) ((if (((t_).length + 1 : Nat) : Int) < t_9 then (((t_).length + 1 : Nat) : Int) else t_9).toNat) 9 1 (List.replicate ((if (((t_).length + 1 : Nat) : Int) < t_9 then (((t_).length + 1 : Nat) : Int) else t_9).toNat) (Value.string (bs []))))]) (by simp only [List.length_replicate]) (by simp only [List.length_replicate])
 replace s := s.add 104 (rdF Rep.str (List.replicate ((if (((t_).length + 1 : Nat) : Int) < t_9 then (((t_).length + 1 : Nat) : Int) else t_9).toNat) (Value.string (bs []))) (List.replicate ((if (((t_).length + 1 : Nat) : Int) < t_9 then (((t_).length + 1 : Nat) : Int) else t_9).toNat) ([] : (List UInt8)))) (RdAll.rep rfl (by exact ⟨rfl, (by first | omega | (rw [List.length_append]; omega) | (simp only [List.length_append]; omega) | (simp only [List.length_append, List.length_take, List.length_drop, List.length_cons, List.length_nil]; omega) | exact smin_len (by omega) (by omega))⟩) _)
 refine asg s rfl rfl fun a s => ?_
 apply wN
 apply wQ
 obtain ⟨hk22, hg⟩ := chk_some hg
 apply wL
 refine mv s rfl rfl fun a s => ?_
 refine qq s rfl (y_sub s rfl rfl (in64.2 hk22)) fun a s => ?_
 refine asg s rfl rfl fun a s => ?_
 apply wN
 apply wR
 refine asg s rfl rfl fun a s => ?_
 apply wN
 apply wQ
 obtain ⟨k23, hg, hk23⟩ := jn_some hg
 refine c_post (fun a w => ∃ (t_24 : (List UInt8)) (t_25 : (List (List UInt8))) (t_29 : Nat) (A26 : Option Addr) (c27 : Nat) (cs28 : List Value), k23 t_24 t_25 t_29 = some r ∧ ((t_24).length ≤ 9223372036854775807) ∧ St (⟨Tryz.f63.ntmps, M, noB, w0⟩ : Ctx) [(0, vT t_24), (9, sl A26 (t_25) c27), (10, vI (((t_29 : Nat) : Int)))] [(700105, Ob.row (A26) ((t_25).length) (c27) 9 1 (cs28))] [(106, rdF Rep.str (cs28) (t_25))] a w) ?_ ?_
 ·apply wp_block
  replace s := s.add 108 (rdF Rep.str (List.replicate ((if (((t_).length + 1 : Nat) : Int) < t_9 then (((t_).length + 1 : Nat) : Int) else t_9).toNat) (Value.string (bs []))) (List.replicate ((if (((t_).length + 1 : Nat) : Int) < t_9 then (((t_).length + 1 : Nat) : Int) else t_9).toNat) ([] : (List UInt8)))) (s.ft 104 rfl)
  replace s := s.pk [(700107, 1801)] (by decide)
  refine c_loop (σ := Nat) (fun m1 a w => ∃ (t_30 : (List UInt8)) (t_31 : (List (List UInt8))) (t_35 : Nat) (A32 : Option Addr) (c33 : Nat) (cs34 : List Value), strings_genSplit_L0 n t_ t_' t_'' t_9 k23 m1 t_30 t_31 t_35 = some r ∧ ((t_30).length ≤ 9223372036854775807) ∧ St (⟨Tryz.f63.ntmps, M, noB, w0⟩ : Ctx) [(0, vT t_30), (1, vT (t_')), (2, vI (t_'')), (3, vI ((if (((t_).length + 1 : Nat) : Int) < t_9 then (((t_).length + 1 : Nat) : Int) else t_9) - 1)), (9, sl A32 (t_31) c33), (10, vI (((t_35 : Nat) : Int)))] [(700107, Ob.row (A32) ((t_31).length) (c33) 9 1 (cs34))] [(108, rdF Rep.str (cs34) (t_31))] a w) (fun m1 => m1) n ⟨(t_), (List.replicate ((if (((t_).length + 1 : Nat) : Int) < t_9 then (((t_).length + 1 : Nat) : Int) else t_9).toNat) ([] : (List UInt8))), (0), (some ⟨b21, 0, none⟩), ((if (((t_).length + 1 : Nat) : Int) < t_9 then (((t_).length + 1 : Nat) : Int) else t_9).toNat), (List.replicate ((if (((t_).length + 1 : Nat) : Int) < t_9 then (((t_).length + 1 : Nat) : Int) else t_9).toNat) (Value.string (bs []))), hg, (by omega), (s.sb rfl rfl rfl)⟩ ?_
  clear s a; rintro m1 a w ⟨t_30, t_31, t_35, A32, c33, cs34, hg, lt_30, s⟩
  rcases m1 with _ | m1
  ·rw [strings_genSplit_L0] at hg; cases hg
  rw [strings_genSplit_L0] at hg
  apply wQ
  apply wR
  refine mv s rfl rfl fun a s => ?_
  refine mv s rfl rfl fun a s => ?_
  refine qq s rfl (y_lss s rfl rfl) fun a s => ?_
  apply wN
  refine c_dec s rfl (fun hc36 => ?_) (fun hc36 => ?_)
  ·replace hg := br_t hg hc36
   apply wp_skip
   apply pN
   apply wp_block
   apply wQ
   obtain ⟨r37, hr37, hg⟩ := bind_some hg
   apply wL
   refine mv s rfl rfl fun a s => ?_
   refine mv s rfl rfl fun a s => ?_
   refine l_seq rfl (l_call (cap := []) s rfl func76 rfl (by kernel_rfl) rfl rfl (c_strings_Index n _ _ s.lt t_30 (by omega) t_' (by omega) r37 hr37) fun v40 a w hK hp s => ?_)
   obtain rfl := hp
   refine asg s rfl rfl fun a s => ?_
   apply wN
   apply wQ
   apply wR
   refine mv s rfl rfl fun a s => ?_
   refine qq s rfl (y_lss s rfl rfl) fun a s => ?_
   apply wN
   refine c_dec s rfl (fun hc42 => ?_) (fun hc42 => ?_)
   ·replace hg := br_t hg hc42
    apply wp_exit
    refine p_then ?_
    refine p_out rfl ?_
    refine p_then ?_
    refine p_in ?_
    apply pN
    replace s := s.al 106 108 rfl
    replace s := s.pk [(700105, 700107)] (by decide)
    exact ⟨(t_30), (t_31), (t_35), (A32), (c33), (cs34), hg, (by omega), (s.sb rfl rfl rfl)⟩
   replace hg := br_f hg hc42
   apply wp_skip
   apply pN
   apply wQ
   obtain ⟨hk43, hg⟩ := chk_some hg
   obtain ⟨hk44, hg⟩ := chk_some hg
   obtain ⟨hk45, hg⟩ := chk_some hg
   obtain ⟨x47, hx47, hg⟩ := bind_some hg
   apply wL
   refine mv s rfl rfl fun a s => ?_
   refine mv s rfl rfl fun a s => ?_
   refine mv s rfl rfl fun a s => ?_
   refine mv s rfl rfl fun a s => ?_
   refine mv s rfl rfl fun a s => ?_
   refine qq s rfl (y_add s rfl rfl (in64.2 hk43)) fun a s => ?_
   refine qq s rfl (y_strH (i := ((r37 + t_'').toNat)) s rfl rfl underlying9 (by omega) hk45) fun a s => ?_
   obtain ⟨hiq48, bq48, hAq48⟩ := SlR.row1 (s.wd.holds 700107 _ rfl) (s.ft 108 rfl) rfl rfl hx47
   refine qq s rfl (y_rowIndex (sz := 1) (i := t_35) s rfl rfl underlying44 rfl hAq48 rfl hiq48) fun a s => ?_
   have hzi := lt_of_get hx47
   have hzn := rowN (s.wd.holds 700107 _ rfl) (s.ft 108 rfl) rfl rfl
   have hzf : t_35 * 1 + 1 ≤ ((t_31).length) * 1 := by have := Nat.mul_le_mul_right 1 (Nat.succ_le_of_lt hzi); omega
   refine l_seq rfl (l_storeRow (N := 1) (cs' := splice (cs34) (t_35 * 1) [vT ((t_30).take ((r37 + t_'').toNat))]) s 700107 rfl rfl rfl hAq48 rfl rfl hzf rfl rfl ?_); clear s; intro w hK s; clear hK
   replace s := s.sub (l' := [(0, .string (bs (t_30))), (1, .string (bs (t_'))), (2, .int .i64 (t_'')), (3, .int .i64 ((if (((t_).length + 1 : Nat) : Int) < t_9 then (((t_).length + 1 : Nat) : Int) else t_9) - 1)), (9, .slice (A32) ((t_31).length) (c33)), (10, .int .i64 (((t_35 : Nat) : Int))), (11, .int .i64 (r37)), (34, .int .i64 (((t_35 : Nat) : Int))), (35, .int .i64 ((if (((t_).length + 1 : Nat) : Int) < t_9 then (((t_).length + 1 : Nat) : Int) else t_9) - 1)), (36, .bool (decide (((t_35 : Nat) : Int) < ((if (((t_).length + 1 : Nat) : Int) < t_9 then (((t_).length + 1 : Nat) : Int) else t_9) - 1)))), (37, .string (bs (t_30))), (38, .string (bs (t_'))), (39, .int .i64 (r37)), (40, .int .i64 (r37)), (41, .bool (decide (r37 < 0))), (42, .slice (A32) ((t_31).length) (c33)), (43, .int .i64 (((t_35 : Nat) : Int))), (44, .string (bs (t_30))), (45, .int .i64 (r37)), (46, .int .i64 (t_'')), (47, .int .i64 (r37 + t_'')), (48, .string (bs ((t_30).take ((r37 + t_'').toNat)))), (49, .pointer (some ⟨bq48, t_35 * 1, none⟩))]) (L' := [(700107, Ob.row (A32) ((t_31).length) (c33) 9 1 (splice (cs34) (t_35 * 1) [.string (bs ((t_30).take ((r37 + t_'').toNat)))]))]) (D' := [(108, rdF Rep.str (cs34) (t_31))]) ⟨rfl, rfl, rfl, rfl, rfl, rfl, rfl, rfl, rfl, rfl, rfl, rfl, rfl, rfl, rfl, rfl, rfl, rfl, rfl, rfl, rfl, rfl, rfl, trivial⟩ ⟨rfl, trivial⟩ ⟨rfl, trivial⟩
   replace s := s.eqs (l' := [(0, .string (bs (t_30))), (1, .string (bs (t_'))), (2, .int .i64 (t_'')), (3, .int .i64 ((if (((t_).length + 1 : Nat) : Int) < t_9 then (((t_).length + 1 : Nat) : Int) else t_9) - 1)), (9, .slice (A32) (((t_31).set t_35 ((t_30).take ((r37 + t_'').toNat))).length) (c33)), (10, .int .i64 (((t_35 : Nat) : Int))), (11, .int .i64 (r37)), (34, .int .i64 (((t_35 : Nat) : Int))), (35, .int .i64 ((if (((t_).length + 1 : Nat) : Int) < t_9 then (((t_).length + 1 : Nat) : Int) else t_9) - 1)), (36, .bool (decide (((t_35 : Nat) : Int) < ((if (((t_).length + 1 : Nat) : Int) < t_9 then (((t_).length + 1 : Nat) : Int) else t_9) - 1)))), (37, .string (bs (t_30))), (38, .string (bs (t_'))), (39, .int .i64 (r37)), (40, .int .i64 (r37)), (41, .bool (decide (r37 < 0))), (42, .slice (A32) (((t_31).set t_35 ((t_30).take ((r37 + t_'').toNat))).length) (c33)), (43, .int .i64 (((t_35 : Nat) : Int))), (44, .string (bs (t_30))), (45, .int .i64 (r37)), (46, .int .i64 (t_'')), (47, .int .i64 (r37 + t_'')), (48, .string (bs ((t_30).take ((r37 + t_'').toNat)))), (49, .pointer (some ⟨bq48, t_35 * 1, none⟩))]) (L' := [(700107, Ob.row (A32) (((t_31).set t_35 ((t_30).take ((r37 + t_'').toNat))).length) (c33) 9 1 (splice (cs34) (t_35 * 1) [.string (bs ((t_30).take ((r37 + t_'').toNat)))]))]) (by simp only [List.length_set]) (by simp only [List.length_set])
   replace s := s.add 110 (rdF Rep.str (splice (cs34) (t_35 * 1) [vT ((t_30).take ((r37 + t_'').toNat))]) ((t_31).set t_35 ((t_30).take ((r37 + t_'').toNat)))) (RdAll.put (s.ft 108 rfl) ⟨rfl, (by first | omega | (rw [List.length_append]; omega) | (simp only [List.length_append]; omega) | (simp only [List.length_append, List.length_take, List.length_drop, List.length_cons, List.length_nil]; omega) | exact smin_len (by omega) (by omega))⟩ hzi)
   apply wN
   apply wQ
   obtain ⟨hk49, hg⟩ := chk_some hg
   obtain ⟨hk50, hg⟩ := chk_some hg
   obtain ⟨hk51, hg⟩ := chk_some hg
   apply wL
   refine mv s rfl rfl fun a s => ?_
   refine mv s rfl rfl fun a s => ?_
   refine mv s rfl rfl fun a s => ?_
   refine qq s rfl (y_lenStrN s rfl underlying9) fun a s => ?_
   refine qq s rfl (y_add s rfl rfl (in64.2 hk49)) fun a s => ?_
   refine qq s rfl (y_strL (i := ((r37 + (((t_').length : Nat) : Int)).toNat)) s rfl rfl underlying9 (by omega) hk51) fun a s => ?_
   refine asg s rfl rfl fun a s => ?_
   apply wN
   obtain ⟨hk52, hg⟩ := chk_some hg
   apply wL
   refine mv s rfl rfl fun a s => ?_
   refine qq s rfl (y_addN (i := t_35) (j := 1) s rfl rfl (in64.2 (by omega))) fun a s => ?_
   refine asg s rfl rfl fun a s => ?_
   apply wO
   refine p_inN ?_
   apply pN
   replace s := s.add 108 (rdF Rep.str (splice (cs34) (t_35 * 1) [vT ((t_30).take ((r37 + t_'').toNat))]) ((t_31).set t_35 ((t_30).take ((r37 + t_'').toNat)))) (s.ft 110 rfl)
   exact ⟨m1, Nat.lt_succ_self _, ⟨((t_30).drop ((r37 + (((t_').length : Nat) : Int)).toNat)), ((t_31).set t_35 ((t_30).take ((r37 + t_'').toNat))), (t_35 + 1), (A32), (c33), (splice (cs34) (t_35 * 1) [vT ((t_30).take ((r37 + t_'').toNat))]), hg, (by first | omega | (rw [List.length_append]; omega) | (simp only [List.length_append]; omega) | (simp only [List.length_append, List.length_take, List.length_drop, List.length_cons, List.length_nil]; omega) | exact smin_len (by omega) (by omega)), (s.sb rfl rfl rfl)⟩⟩
  replace hg := br_f hg hc36
  apply wp_exit
  refine p_then ?_
  refine p_then ?_
  refine p_in ?_
  apply pN
  replace s := s.al 106 108 rfl
  replace s := s.pk [(700105, 700107)] (by decide)
  exact ⟨(t_30), (t_31), (t_35), (A32), (c33), (cs34), hg, (by omega), (s.sb rfl rfl rfl)⟩
 clear s a; rintro a w ⟨t_24, t_25, t_29, A26, c27, cs28, hg, lt_24, s⟩
 subst hk23
 apply wQ
 obtain ⟨x54, hx54, hg⟩ := bind_some hg
 apply wL
 refine mv s rfl rfl fun a s => ?_
 refine mv s rfl rfl fun a s => ?_
 refine mv s rfl rfl fun a s => ?_
 obtain ⟨hiq55, bq55, hAq55⟩ := SlR.row1 (s.wd.holds 700105 _ rfl) (s.ft 106 rfl) rfl rfl hx54
 refine qq s rfl (y_rowIndex (sz := 1) (i := t_29) s rfl rfl underlying44 rfl hAq55 rfl hiq55) fun a s => ?_
 have hzi := lt_of_get hx54
 have hzn := rowN (s.wd.holds 700105 _ rfl) (s.ft 106 rfl) rfl rfl
 have hzf : t_29 * 1 + 1 ≤ ((t_25).length) * 1 := by have := Nat.mul_le_mul_right 1 (Nat.succ_le_of_lt hzi); omega
 refine l_seq rfl (l_storeRow (N := 1) (cs' := splice (cs28) (t_29 * 1) [vT t_24]) s 700105 rfl rfl rfl hAq55 rfl rfl hzf rfl rfl ?_); clear s; intro w hK s; clear hK
 replace s := s.sub (l' := [(0, .string (bs (t_24))), (9, .slice (A26) ((t_25).length) (c27)), (10, .int .i64 (((t_29 : Nat) : Int))), (58, .slice (A26) ((t_25).length) (c27)), (59, .int .i64 (((t_29 : Nat) : Int))), (60, .string (bs (t_24))), (61, .pointer (some ⟨bq55, t_29 * 1, none⟩))]) (L' := [(700105, Ob.row (A26) ((t_25).length) (c27) 9 1 (splice (cs28) (t_29 * 1) [.string (bs (t_24))]))]) (D' := [(106, rdF Rep.str (cs28) (t_25))]) ⟨rfl, rfl, rfl, rfl, rfl, rfl, rfl, trivial⟩ ⟨rfl, trivial⟩ ⟨rfl, trivial⟩
 replace s := s.eqs (l' := [(0, .string (bs (t_24))), (9, .slice (A26) (((t_25).set t_29 t_24).length) (c27)), (10, .int .i64 (((t_29 : Nat) : Int))), (58, .slice (A26) (((t_25).set t_29 t_24).length) (c27)), (59, .int .i64 (((t_29 : Nat) : Int))), (60, .string (bs (t_24))), (61, .pointer (some ⟨bq55, t_29 * 1, none⟩))]) (L' := [(700105, Ob.row (A26) (((t_25).set t_29 t_24).length) (c27) 9 1 (splice (cs28) (t_29 * 1) [.string (bs (t_24))]))]) (by simp only [List.length_set]) (by simp only [List.length_set])
 replace s := s.add 112 (rdF Rep.str (splice (cs28) (t_29 * 1) [vT t_24]) ((t_25).set t_29 t_24)) (RdAll.put (s.ft 106 rfl) ⟨rfl, (by omega)⟩ hzi)
 apply wN
 apply wQ
 obtain ⟨hk56, hg⟩ := chk_some hg
 obtain ⟨hk57, hg⟩ := chk_some hg
 apply wL
 refine mv s rfl rfl fun a s => ?_
 refine mv s rfl rfl fun a s => ?_
 refine qq s rfl (y_addN (i := t_29) (j := 1) s rfl rfl (in64.2 (by omega))) fun a s => ?_
 have hcap114 := row_cap (s.wd.holds 700105 _ rfl)
 have hrl114 := rowN (s.wd.holds 700105 _ rfl) (s.ft 112 rfl) rfl rfl
 refine qq s rfl (y_cutRow (i := (t_29 + 1)) (xs := ((t_25).set t_29 t_24)) (sz := 1) s rfl rfl underlying44 rfl rfl hk57 hrl114 hcap114) fun a s => ?_
 replace s := s.rowCutL (kk := 700105) (i := (t_29 + 1)) (xs := ((t_25).set t_29 t_24)) rfl hrl114 hk57
 replace s := s.add 114 (rdF Rep.str ((splice (cs28) (t_29 * 1) [vT t_24]).take ((t_29 + 1) * 1)) (((t_25).set t_29 t_24).take (t_29 + 1))) ((s.ft 112 rfl).take (t_29 + 1) hk57)
 refine asg s rfl rfl fun a s => ?_
 apply wN
 apply wp_ret
 obtain rfl := Option.some.inj hg
 refine fin1 (fn := Tryz.f63) s rfl (r_tmp s rfl) ?_
 exact ⟨(A26), (c27), rfl, (s.rowOut (R := Rep.str) (kk := 700105) rfl rfl (s.ft 114 rfl))⟩
set_option maxHeartbeats 400000 in
theorem c_strings_Split (n : Nat) (M : Bs) (w0 : World) (hM : ∀ b, M b → b < w0.heap.size) (s_ : (List UInt8)) (lp01 : (s_).length ≤ 9223372036854775807) (sep_ : (List UInt8)) (lp11 : (sep_).length ≤ 9223372036854775807) (r : (List (List UInt8))) (hg : strings_Split n s_ sep_ = some r) :
    Calls Tryz.prog 46 [.string (bs (s_)), .string (bs (sep_))].toArray w0 (Ret noB w0 fun v w => ∃ (Aa1 : Option Addr), ∃ (ca1 : Nat), v = .slice (Aa1) ((r).length) (ca1) ∧ (SlR Rep.str M w Aa1 (r).length ca1 (r))) := by
 unfold strings_Split at hg
 refine enter M noB func46 rfl rfl hM ?_
 intro a s
 apply wR
 refine asg s rfl rfl fun a s => ?_
 apply wN
 apply wQ
 obtain ⟨r1, hr1, hg⟩ := bind_some hg
 apply wL
 refine mv s rfl rfl fun a s => ?_
 refine mv s rfl rfl fun a s => ?_
 refine l_seq rfl (l_call (cap := []) s rfl func63 rfl (by kernel_rfl) rfl rfl (c_strings_genSplit n _ _ s.lt s_ (by omega) sep_ (by omega) 0 (-1) r1 hr1) fun v4 a w hK hp s => ?_)
 obtain ⟨Au5a1, cu5a1, rfl, hu5a1⟩ := hp
 replace s := s.ns 102 hu5a1
 refine asg s rfl rfl fun a s => ?_
 apply wN
 apply wp_ret
 obtain rfl := Option.some.inj hg
 refine fin1 (fn := Tryz.f46) s rfl (r_tmp s rfl) ?_
 exact ⟨(Au5a1), (cu5a1), rfl, (s.out (k := 102) rfl)⟩
set_option maxHeartbeats 400000 in
theorem c_slices_IndexFunc_string (n : Nat) (M : Bs) (w0 : World) (hM : ∀ b, M b → b < w0.heap.size) (s_ : (List (List UInt8))) (Ap01 : Option Addr) (cp01 : Nat) (hp01 : SlR Rep.str M w0 Ap01 (s_).length cp01 (s_)) (f_ : ((List UInt8) → Option Bool)) (Ap11 : FuncId) (cp11 : List Value) (hp11 : FnR Tryz.prog Ap11 cp11 pre40 post40 (f_) M w0) (r : Int) (hg : slices_IndexFunc_string n s_ f_ = some r) :
    Calls Tryz.prog 64 [.slice (Ap01) ((s_).length) (cp01), .func (.func Ap11) #[] (List.toArray cp11)].toArray w0 (Ret noB w0 fun v w => v = .int .i64 (r)) := by
 unfold slices_IndexFunc_string at hg
 refine enter M noB func64 rfl rfl hM ?_
 intro a s
 replace s := s.es 101 hp01
 replace s := s.add 102 (fnF Tryz.prog Ap11 cp11 pre40 post40 (f_)) (by exact Fact.change _ enterM hp11)
 apply wR
 refine asg s rfl rfl fun a s => ?_
 apply wN
 apply wQ
 apply wR
 refine mv s rfl rfl fun a s => ?_
 refine qq s rfl (y_lenSlice s rfl underlying44) fun a s => ?_
 refine mv s rfl rfl fun a s => ?_
 apply wN
 apply wp_block
 refine c_loop (σ := Nat) (fun m1 a w => ∃ (t_1 : Nat), slices_IndexFunc_string_L0 n s_ f_ m1 t_1 = some r ∧ St (⟨Tryz.f64.ntmps, M, noB, w0⟩ : Ctx) [(0, sl Ap01 (s_) cp01), (1, .func (.func Ap11) #[] (List.toArray cp11)), (7, vI ((((s_).length : Nat) : Int))), (8, vI (((t_1 : Nat) : Int)))] [] [(101, slF Rep.str (Ap01) ((s_).length) (cp01) (s_)), (102, fnF Tryz.prog Ap11 cp11 pre40 post40 (f_))] a w) (fun m1 => m1) n ⟨(0), hg, (s.sb rfl rfl rfl)⟩ ?_
 clear s a; rintro m1 a w ⟨t_1, hg, s⟩
 rcases m1 with _ | m1
 ·rw [slices_IndexFunc_string_L0] at hg; cases hg
 rw [slices_IndexFunc_string_L0] at hg
 apply wR
 refine qq s rfl (y_lssN (i := t_1) (j := ((s_).length)) s rfl rfl) fun a s => ?_
 apply wN
 apply wQ
 refine c_dec s rfl (fun hc2 => ?_) (fun hc2 => ?_)
 ·replace hg := br_t hg hc2
  have hmx3 := SlR.mx (s.ft 101 rfl)
  apply wp_skip
  apply pN
  apply wQ
  apply wp_block
  apply wR
  refine mv s rfl rfl fun a s => ?_
  refine asg s rfl rfl fun a s => ?_
  apply wN
  apply wQ
  obtain ⟨x5, hx5, hg⟩ := bind_some hg
  obtain ⟨r7, hr7, hg⟩ := bind_some hg
  apply wL
  refine mv s rfl rfl fun a s => ?_
  refine mv s rfl rfl fun a s => ?_
  refine mv s rfl rfl fun a s => ?_
  obtain ⟨p10, hep10, hpp10⟩ := SlR.elemX (s.ft 101 rfl) hx5
  refine qq s rfl (y_elem (sz := 1) (i := t_1) s rfl rfl underlying44 rfl hep10 rfl (lt_of_get hx5)) fun a s => ?_
  obtain ⟨hlq11, hmq11, csq11, hdq11, hcq11⟩ := hpp10
  obtain ⟨rfl, lq111⟩ := hdq11
  refine qq s rfl (y_ldp1 s rfl hlq11 hmq11 (hcq11 0 _ rfl) underlying9 rfl) fun a s => ?_
  refine l_seq rfl (l_callFn (cap := cp11) (x := x5) s rfl (s.ft 102 rfl) rfl rfl ⟨rfl, (by omega)⟩ hr7 fun v12 a w hK hp s => ?_)
  obtain rfl := hp
  apply wN
  refine c_cond s rfl (fun hc14 => ?_) (fun hc14 => ?_)
  ·replace hg := br_t hg hc14
   apply wR
   refine mv s rfl rfl fun a s => ?_
   refine asg s rfl rfl fun a s => ?_
   apply wN
   apply wp_ret
   refine p_inR ?_
   refine p_thenR ?_
   refine p_thenR ?_
   refine p_inR ?_
   refine p_thenR ?_
   obtain rfl := Option.some.inj hg
   refine fin1 (fn := Tryz.f64) s rfl (r_tmp s rfl) ?_
   exact rfl
  replace hg := br_n hg hc14
  apply wp_skip
  refine p_inN ?_
  apply pN
  apply wL
  refine qq s rfl (y_addN (i := t_1) (j := 1) s rfl rfl (in64.2 (by omega))) fun a s => ?_
  refine mv s rfl rfl fun a s => ?_
  apply wN
  exact ⟨m1, Nat.lt_succ_self _, ⟨(t_1 + 1), hg, (s.sb rfl rfl rfl)⟩⟩
 replace hg := br_f hg hc2
 apply wp_exit
 refine p_then ?_
 refine p_then ?_
 refine p_in ?_
 apply pN
 apply wR
 refine asg s rfl rfl fun a s => ?_
 apply wN
 apply wp_ret
 obtain rfl := Option.some.inj hg
 refine fin1 (fn := Tryz.f64) s rfl (r_tmp s rfl) ?_
 exact rfl
set_option maxHeartbeats 400000 in
theorem c_slices_ContainsFunc_string (n : Nat) (M : Bs) (w0 : World) (hM : ∀ b, M b → b < w0.heap.size) (s_ : (List (List UInt8))) (Ap01 : Option Addr) (cp01 : Nat) (hp01 : SlR Rep.str M w0 Ap01 (s_).length cp01 (s_)) (f_ : ((List UInt8) → Option Bool)) (Ap11 : FuncId) (cp11 : List Value) (hp11 : FnR Tryz.prog Ap11 cp11 pre40 post40 (f_) M w0) (r : Bool) (hg : slices_ContainsFunc_string n s_ f_ = some r) :
    Calls Tryz.prog 47 [.slice (Ap01) ((s_).length) (cp01), .func (.func Ap11) #[] (List.toArray cp11)].toArray w0 (Ret noB w0 fun v w => v = .bool (r)) := by
 unfold slices_ContainsFunc_string at hg
 refine enter M noB func47 rfl rfl hM ?_
 intro a s
 replace s := s.es 101 hp01
 replace s := s.add 102 (fnF Tryz.prog Ap11 cp11 pre40 post40 (f_)) (by exact Fact.change _ enterM hp11)
 apply wR
 refine asg s rfl rfl fun a s => ?_
 apply wN
 apply wQ
 obtain ⟨r1, hr1, hg⟩ := bind_some hg
 apply wL
 refine mv s rfl rfl fun a s => ?_
 refine mv s rfl rfl fun a s => ?_
 refine l_seq rfl (l_call (cap := []) s rfl func64 rfl (by kernel_rfl) rfl rfl (c_slices_IndexFunc_string n _ _ s.lt s_ (Ap01) (cp01) (s.ft 101 rfl) f_ (Ap11) (cp11) (s.ft 102 rfl) r1 hr1) fun v4 a w hK hp s => ?_)
 obtain rfl := hp
 refine qq s rfl (y_geq s rfl rfl) fun a s => ?_
 refine asg s rfl rfl fun a s => ?_
 apply wN
 apply wp_ret
 obtain rfl := Option.some.inj hg
 refine fin1 (fn := Tryz.f47) s rfl (r_tmp s rfl) ?_
 exact rfl
set_option maxHeartbeats 400000 in
theorem c_model_feature_1 (n : Nat) (M : Bs) (w0 : World) (hM : ∀ b, M b → b < w0.heap.size) (k_ : (List UInt8)) (lp01 : (k_).length ≤ 9223372036854775807) (r : Bool) (hg : model_feature_1 n k_ = some r) :
    Calls Tryz.prog 48 [.string (bs (k_))].toArray w0 (Ret noB w0 fun v w => v = .bool (r)) := by
 unfold model_feature_1 at hg
 refine enter M noB func48 rfl rfl hM ?_
 intro a s
 apply wR
 refine asg s rfl rfl fun a s => ?_
 apply wN
 apply wQ
 obtain ⟨r1, hr1, hg⟩ := bind_some hg
 apply wL
 refine mv s rfl rfl fun a s => ?_
 refine l_seq rfl (l_call (cap := []) s rfl func45 rfl (by kernel_rfl) rfl rfl (c_text_Name n _ _ s.lt k_ (by omega) r1 hr1) fun v4 a w hK hp s => ?_)
 obtain rfl := hp
 refine qq s rfl (y_not s rfl) fun a s => ?_
 refine asg s rfl rfl fun a s => ?_
 apply wN
 apply wp_ret
 obtain rfl := Option.some.inj hg
 refine fin1 (fn := Tryz.f48) s rfl (r_tmp s rfl) ?_
 exact rfl
end Go.Proofs.YthgdajiipojnoaaGreatDoor

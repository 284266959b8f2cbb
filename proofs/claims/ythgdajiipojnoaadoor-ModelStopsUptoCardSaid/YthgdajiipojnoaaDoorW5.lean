/- Chapter 37: the walks, part 5 -/
import Derived.Test.YthgdajiipojnoaaDoorW4
namespace Go.Proofs.YthgdajiipojnoaaDoor
open Go.Gl Go.RowKit Tryd
set_option linter.unusedVariables false
set_option linter.unusedSimpArgs false
set_option maxRecDepth 4000

set_option maxHeartbeats 400000 in
theorem c_r37_Same (n : Nat) (M : Bs) (w0 : World) (hM : ∀ b, M b → b < w0.heap.size) (a_ : Model) (Ap01 : Option Addr) (cp01 : Nat) (hp01 : SlR RWeight M w0 Ap01 (a_.Weights).length cp01 (a_.Weights)) (b_ : Model) (Ap11 : Option Addr) (cp11 : Nat) (hp11 : SlR RWeight M w0 Ap11 (b_.Weights).length cp11 (b_.Weights)) (r : Bool) (hg : r37_Same n a_ b_ = some r) :
    Calls Tryd.prog 25 [.agg #[.slice (Ap01) ((a_.Weights).length) (cp01)], .agg #[.slice (Ap11) ((b_.Weights).length) (cp11)]].toArray w0 (Ret noB w0 fun v w => v = .bool (r)) := by
 unfold r37_Same at hg
 refine enter M noB func25 rfl rfl hM ?_
 intro a s
 replace s := s.es 101 hp01
 replace s := s.es 102 hp11
 apply wR
 refine l_seq rfl (l_box (zs := [sl Ap01 (a_.Weights) cp01]) s 1000 rfl rfl rfl rfl fun b3 a w hb hK s => ?_)
 refine l_seq rfl (l_box (zs := [sl Ap11 (b_.Weights) cp11]) s 1001 rfl rfl rfl rfl fun b4 a w hb hK s => ?_)
 refine asg s rfl rfl fun a s => ?_
 apply wN
 apply wQ
 apply wR
 refine qq s rfl (y_boxField (o' := 0) s rfl underlying24 rfl rfl rfl) fun a s => ?_
 refine qq s rfl (y_loadBox1 (kk := 1000) s rfl rfl rfl underlying22 rfl) fun a s => ?_
 refine qq s rfl (y_lenSlice s rfl underlying22) fun a s => ?_
 refine qq s rfl (y_boxField (o' := 0) s rfl underlying24 rfl rfl rfl) fun a s => ?_
 refine qq s rfl (y_loadBox1 (kk := 1001) s rfl rfl rfl underlying22 rfl) fun a s => ?_
 refine qq s rfl (y_lenSlice s rfl underlying22) fun a s => ?_
 refine qq s rfl (y_neqN (i := ((a_.Weights).length)) (j := ((b_.Weights).length)) s rfl rfl) fun a s => ?_
 apply wN
 refine c_dec s rfl (fun hc5 => ?_) (fun hc5 => ?_)
 ·replace hg := br_t hg hc5
  apply wR
  refine asg s rfl rfl fun a s => ?_
  apply wN
  apply wp_ret
  refine p_thenR ?_
  obtain rfl := Option.some.inj hg
  refine fin1 (fn := Tryd.f25) s rfl (r_tmp s rfl) ?_
  exact rfl
 replace hg := br_f hg hc5
 apply wp_skip
 apply pN
 apply wQ
 apply wR
 refine asg s rfl rfl fun a s => ?_
 apply wN
 apply wp_block
 refine c_loop (σ := Nat) (fun m1 a w => ∃ (i_6 : Nat), r37_Same_L0 n a_ b_ m1 i_6 = some r ∧ St (⟨Tryd.f25.ntmps, M, noB, w0⟩ : Ctx) [(2, vP b3 0), (3, vP b4 0), (5, vI (((i_6 : Nat) : Int)))] [(1000, Ob.box b3 [sl Ap01 (a_.Weights) cp01] 24), (1001, Ob.box b4 [sl Ap11 (b_.Weights) cp11] 24)] [(101, slF RWeight (Ap01) ((a_.Weights).length) (cp01) (a_.Weights)), (102, slF RWeight (Ap11) ((b_.Weights).length) (cp11) (b_.Weights))] a w) (fun m1 => m1) n ⟨(0), hg, (s.sb rfl rfl rfl)⟩ ?_
 clear s a; rintro m1 a w ⟨i_6, hg, s⟩
 rcases m1 with _ | m1
 ·rw [r37_Same_L0] at hg; cases hg
 rw [r37_Same_L0] at hg
 apply wQ
 apply wR
 refine mv s rfl rfl fun a s => ?_
 refine qq s rfl (y_boxField (o' := 0) s rfl underlying24 rfl rfl rfl) fun a s => ?_
 refine qq s rfl (y_loadBox1 (kk := 1000) s rfl rfl rfl underlying22 rfl) fun a s => ?_
 refine qq s rfl (y_lenSlice s rfl underlying22) fun a s => ?_
 refine qq s rfl (y_lssN (i := i_6) (j := ((a_.Weights).length)) s rfl rfl) fun a s => ?_
 apply wN
 refine c_dec s rfl (fun hc7 => ?_) (fun hc7 => ?_)
 ·replace hg := br_t hg hc7
  have hmx8 := SlR.mx (s.ft 101 rfl)
  apply wp_skip
  apply pN
  apply wQ
  apply wp_block
  apply wQ
  obtain ⟨x10, hx10, hg⟩ := bind_some hg
  obtain ⟨x13, hx13, hg⟩ := bind_some hg
  refine d_plan s [] [(0, some 0), (1, some 1000), (2, some 0), (3, some 0), (4, some 0), (5, some 0), (6, some 1001), (7, some 0), (8, some 0), (9, some 0), (10, some 0)] rfl (by kernel_rfl) (by kernel_rfl) rfl ?_; clear s; intro wr hZ s; have hR := s.wd
  refine qt s hR rfl (y_boxField (o' := 0) s rfl underlying24 rfl rfl rfl) fun a s => ?_
  refine qt s hR rfl (y_loadBox1 (kk := 1000) s rfl rfl rfl underlying22 rfl) fun a s => ?_
  refine qt s hR rfl (y_move s rfl) fun a s => ?_
  obtain ⟨p15, hep15, hpp15⟩ := SlR.elemX (s.ft 101 rfl) hx10
  refine qt s hR rfl (y_elem (sz := 2) (i := i_6) s rfl rfl underlying22 rfl hep15 rfl (lt_of_get hx10)) fun a s => ?_
  obtain ⟨hlq16, hmq16, csq16, hdq16, hcq16⟩ := hpp15
  obtain ⟨rfl, lq161⟩ := RWeight.open hdq16
  refine qt s hR rfl (y_ldp s rfl hlq16 hmq16 (by simpa using hcq16) underlying50 rfl rfl) fun a s => ?_
  refine qt s hR rfl (y_boxField (o' := 0) s rfl underlying24 rfl rfl rfl) fun a s => ?_
  refine qt s hR rfl (y_loadBox1 (kk := 1001) s rfl rfl rfl underlying22 rfl) fun a s => ?_
  refine qt s hR rfl (y_move s rfl) fun a s => ?_
  obtain ⟨p17, hep17, hpp17⟩ := SlR.elemX (s.ft 102 rfl) hx13
  refine qt s hR rfl (y_elem (sz := 2) (i := i_6) s rfl rfl underlying22 rfl hep17 rfl (lt_of_get hx13)) fun a s => ?_
  obtain ⟨hlq18, hmq18, csq18, hdq18, hcq18⟩ := hpp17
  obtain ⟨rfl, lq181⟩ := RWeight.open hdq18
  refine qt s hR rfl (y_ldp s rfl hlq18 hmq18 (by simpa using hcq18) underlying50 rfl rfl) fun a s => ?_
  refine qt s hR rfl (y_neqS s rfl rfl (by kernel_rfl) (fun w' => eqWeight x10 x13 w')) fun a s => ?_
  clear hR hZ
  apply pN
  refine c_not s rfl (fun hc19 => ?_) (fun hc19 => ?_)
  ·replace hg := br_f hg hc19
   apply wR
   refine asg s rfl rfl fun a s => ?_
   apply wN
   apply wp_ret
   refine p_inR ?_
   refine p_thenR ?_
   refine p_thenR ?_
   refine p_inR ?_
   refine p_thenR ?_
   obtain rfl := Option.some.inj hg
   refine fin1 (fn := Tryd.f25) s rfl (r_tmp s rfl) ?_
   exact rfl
  replace hg := br_t hg hc19
  apply wp_skip
  refine p_inN ?_
  apply pN
  apply wL
  refine mv s rfl rfl fun a s => ?_
  refine qq s rfl (y_addN (i := i_6) (j := 1) s rfl rfl (in64.2 (by omega))) fun a s => ?_
  refine asg s rfl rfl fun a s => ?_
  apply wN
  exact ⟨m1, Nat.lt_succ_self _, ⟨(i_6 + 1), hg, (s.sb rfl rfl rfl)⟩⟩
 replace hg := br_f hg hc7
 apply wp_exit
 refine p_then ?_
 refine p_then ?_
 refine p_in ?_
 apply pN
 apply wR
 refine asg s rfl rfl fun a s => ?_
 apply wN
 apply wp_ret
 obtain rfl := Option.some.inj hg
 refine fin1 (fn := Tryd.f25) s rfl (r_tmp s rfl) ?_
 exact rfl
set_option maxHeartbeats 400000 in
theorem c_law37_leaf (n : Nat) (M : Bs) (w0 : World) (hM : ∀ b, M b → b < w0.heap.size) (name_ : (List UInt8)) (lp01 : (name_).length ≤ 9223372036854775807) (from_ : Int) (to_ : Int) (r : Deriv) (hg : law37_leaf n name_ from_ to_ = some r) :
    Calls Tryd.prog 26 [.string (bs (name_)), .int .i64 (from_), .int .i64 (to_)].toArray w0 (Ret noB w0 fun v w => ∃ (Aa5 : Option Addr), ∃ (ca5 : Nat), v = .agg #[.int .i64 (r.Kind), .string (bs (r.Name)), .int .i64 (r.From), .int .i64 (r.To), .slice (Aa5) ((r.Kids).length) (ca5)] ∧ ((r.Name).length ≤ 9223372036854775807) ∧ (SlR RDeriv M w Aa5 (r.Kids).length ca5 (r.Kids))) := by
 unfold law37_leaf at hg
 refine enter M noB func26 rfl rfl hM ?_
 intro a s
 apply wR
 refine l_seq rfl (l_alloc (zs := [vI 0, vT ([]), vI 0, vI 0, .slice (none) (0) (0)]) s 1000 rfl rfl rfl rfl fun b2 a w hb hK s => ?_)
 apply wN
 apply wR
 refine mv s rfl rfl fun a s => ?_
 refine mv s rfl rfl fun a s => ?_
 refine mv s rfl rfl fun a s => ?_
 refine qq s rfl (y_build (parts := [(0, .const (vI 0)), (1, .tmp 7), (2, .tmp 8), (3, .tmp 9)]) (ps := [(0, vI 0), (1, vT name_), (2, vI from_), (3, vI to_)]) (cells := #[vI 0, vT name_, vI from_, vI to_, .slice (none) (0) (0)]) s rfl (by kernel_rfl)) fun a s => ?_
 refine l_seq rfl (l_store (n := 5) (cs' := [vI 0, vT name_, vI from_, vI to_, .slice (none) (0) (0)]) s 1000 rfl rfl rfl rfl rfl rfl rfl rfl ?_); clear s; intro w hK s; clear hK
 apply wN
 apply wp_ret
 obtain rfl := Option.some.inj hg
 refine fin1 (fn := Tryd.f26) s rfl (r_cell (kk := 1000) (n := 5) (vs := [vI 0, vT name_, vI from_, vI to_, .slice (none) (0) (0)]) s rfl rfl underlying31 rfl rfl rfl rfl) ?_
 exact ⟨(none), (0), rfl, (by omega), (SlR.nil_ _ _ _)⟩
end Go.Proofs.YthgdajiipojnoaaDoor

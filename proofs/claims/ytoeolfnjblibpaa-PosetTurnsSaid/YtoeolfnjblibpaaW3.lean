/- Chapter 03: the walks, part 3 -/
import Derived.Test.YtoeolfnjblibpaaW2
namespace Go.Proofs.Ytoeolfnjblibpaa
open Go.Gl Go.RowKit Try
set_option linter.unusedVariables false
set_option linter.unusedSimpArgs false
set_option maxRecDepth 4000

set_option maxHeartbeats 400000 in
theorem c_poset_Check (n : Nat) (M : Bs) (w0 : World) (hM : ∀ b, M b → b < w0.heap.size) (d_ : (List TypeDecl)) (Ap01 : Option Addr) (cp01 : Nat) (hp01 : SlR RTypeDecl M w0 Ap01 (d_).length cp01 (d_)) (r : Int) (hg : poset_Check n d_ = some r) :
    Calls Try.prog 13 [.slice (Ap01) ((d_).length) (cp01)].toArray w0 (Ret noB w0 fun v w => v = .int .i64 (r)) := by
 unfold poset_Check at hg
 refine enter M noB func13 rfl rfl hM ?_
 intro a s
 replace s := s.es 101 hp01
 apply wR
 refine asg s rfl rfl fun a s => ?_
 apply wN
 apply wQ
 apply wQ
 obtain ⟨r1, hr1, hg⟩ := bind_some hg
 apply wL
 refine mv s rfl rfl fun a s => ?_
 refine l_seq rfl (l_call (cap := []) s rfl func31 rfl (by kernel_rfl) rfl rfl (c_poset_long n _ _ s.lt d_ (Ap01) (cp01) (s.ft 101 rfl) r1 hr1) fun v4 a w hK hp s => ?_)
 obtain rfl := hp
 apply wN
 refine c_cond s rfl (fun hc6 => ?_) (fun hc6 => ?_)
 ·replace hg := br_t hg hc6
  apply wR
  refine asg s rfl rfl fun a s => ?_
  apply wN
  apply wp_ret
  refine p_thenR ?_
  obtain rfl := Option.some.inj hg
  refine fin1 (fn := Try.f13) s rfl (r_tmp s rfl) ?_
  exact rfl
 replace hg := br_n hg hc6
 apply wp_skip
 apply pN
 apply wQ
 apply wQ
 obtain ⟨r7, hr7, hg⟩ := bind_some hg
 apply wL
 refine mv s rfl rfl fun a s => ?_
 refine l_seq rfl (l_call (cap := []) s rfl func32 rfl (by kernel_rfl) rfl rfl (c_poset_names n _ _ s.lt d_ (Ap01) (cp01) (s.ft 101 rfl) r7 hr7) fun v10 a w hK hp s => ?_)
 obtain rfl := hp
 refine asg s rfl rfl fun a s => ?_
 apply wN
 apply wR
 refine mv s rfl rfl fun a s => ?_
 refine qq s rfl (y_neq s rfl rfl) fun a s => ?_
 apply wN
 refine c_dec s rfl (fun hc12 => ?_) (fun hc12 => ?_)
 ·replace hg := br_t hg hc12
  apply wR
  refine mv s rfl rfl fun a s => ?_
  refine asg s rfl rfl fun a s => ?_
  apply wN
  apply wp_ret
  refine p_thenR ?_
  obtain rfl := Option.some.inj hg
  refine fin1 (fn := Try.f13) s rfl (r_tmp s rfl) ?_
  exact rfl
 replace hg := br_f hg hc12
 apply wp_skip
 apply pN
 apply wQ
 apply wQ
 obtain ⟨r13, hr13, hg⟩ := bind_some hg
 apply wL
 refine mv s rfl rfl fun a s => ?_
 refine l_seq rfl (l_call (cap := []) s rfl func33 rfl (by kernel_rfl) rfl rfl (c_poset_links n _ _ s.lt d_ (Ap01) (cp01) (s.ft 101 rfl) r13 hr13) fun v16 a w hK hp s => ?_)
 obtain rfl := hp
 refine asg s rfl rfl fun a s => ?_
 apply wN
 apply wR
 refine mv s rfl rfl fun a s => ?_
 refine qq s rfl (y_neq s rfl rfl) fun a s => ?_
 apply wN
 refine c_dec s rfl (fun hc18 => ?_) (fun hc18 => ?_)
 ·replace hg := br_t hg hc18
  apply wR
  refine mv s rfl rfl fun a s => ?_
  refine asg s rfl rfl fun a s => ?_
  apply wN
  apply wp_ret
  refine p_thenR ?_
  obtain rfl := Option.some.inj hg
  refine fin1 (fn := Try.f13) s rfl (r_tmp s rfl) ?_
  exact rfl
 replace hg := br_f hg hc18
 apply wp_skip
 apply pN
 apply wR
 refine asg s rfl rfl fun a s => ?_
 apply wN
 apply wQ
 apply wR
 refine mv s rfl rfl fun a s => ?_
 refine qq s rfl (y_lenSlice s rfl underlying22) fun a s => ?_
 refine mv s rfl rfl fun a s => ?_
 apply wN
 obtain ⟨k19, hg, hk19⟩ := jn_some hg
 refine c_post (fun a w => ∃ (tops_20 : Nat), k19 tops_20 = some r ∧ St (⟨Try.f13.ntmps, M, noB, w0⟩ : Ctx) [(0, sl Ap01 (d_) cp01), (5, vI (((tops_20 : Nat) : Int)))] [] [(101, slF RTypeDecl (Ap01) ((d_).length) (cp01) (d_))] a w) ?_ ?_
 ·apply wp_block
  refine c_loop (σ := Nat) (fun m1 a w => ∃ (tops_21 : Nat) (t_22 : Nat), poset_Check_L0 n d_ k19 m1 tops_21 t_22 = some r ∧ St (⟨Try.f13.ntmps, M, noB, w0⟩ : Ctx) [(0, sl Ap01 (d_) cp01), (5, vI (((tops_21 : Nat) : Int))), (20, sl Ap01 (d_) cp01), (21, vI ((((d_).length : Nat) : Int))), (22, vI (((t_22 : Nat) : Int)))] [] [(101, slF RTypeDecl (Ap01) ((d_).length) (cp01) (d_))] a w) (fun m1 => m1) n ⟨(0), (0), hg, (s.sb rfl rfl rfl)⟩ ?_
  clear s a; rintro m1 a w ⟨tops_21, t_22, hg, s⟩
  rcases m1 with _ | m1
  ·rw [poset_Check_L0] at hg; cases hg
  rw [poset_Check_L0] at hg
  apply wR
  refine qq s rfl (y_lssN (i := t_22) (j := ((d_).length)) s rfl rfl) fun a s => ?_
  apply wN
  apply wQ
  refine c_dec s rfl (fun hc23 => ?_) (fun hc23 => ?_)
  ·replace hg := br_t hg hc23
   have hmx24 := SlR.mx (s.ft 101 rfl)
   apply wp_skip
   apply pN
   apply wQ
   apply wp_block
   apply wQ
   obtain ⟨x26, hx26, hg⟩ := bind_some hg
   apply wL
   obtain ⟨p29, hep29, hpp29⟩ := SlR.elemX (s.ft 101 rfl) hx26
   refine qq s rfl (y_elem (sz := 3) (i := t_22) s rfl rfl underlying22 rfl hep29 rfl (lt_of_get hx26)) fun a s => ?_
   obtain ⟨hlq30, hmq30, csq30, hdq30, hcq30⟩ := hpp29
   obtain ⟨Aq302, cq302, Aq303, cq303, rfl, lq301, hq302, hq303⟩ := RTypeDecl.open hdq30
   replace s := s.ns 104 hq302
   replace s := s.ns 105 hq303
   refine qq s rfl (y_ldp s rfl hlq30 hmq30 (by simpa using hcq30) underlying40 rfl rfl) fun a s => ?_
   refine l_seq rfl (l_alloc (zs := [vT ([]), .slice (none) (0) (0), .slice (none) (0) (0)]) s 2202 rfl rfl rfl rfl fun b31 a w hb hK s => ?_)
   refine l_seq rfl (l_store (n := 3) (cs' := [vT (x26.Name), sl Aq302 (x26.Supers) cq302, sl Aq303 (x26.Feats) cq303]) s 2202 rfl rfl rfl rfl rfl rfl rfl rfl ?_); clear s; intro w hK s; clear hK
   apply wN
   apply wR
   refine qq s rfl (y_boxField (o' := 1) s rfl underlying40 rfl rfl rfl) fun a s => ?_
   refine qq s rfl (y_loadBox1 (kk := 2202) s rfl rfl rfl underlying27 rfl) fun a s => ?_
   refine qq s rfl (y_lenSlice s rfl underlying27) fun a s => ?_
   refine qq s rfl (y_eqlN (i := ((x26.Supers).length)) (j := 0) s rfl rfl) fun a s => ?_
   apply wN
   refine c_dec s rfl (fun hc32 => ?_) (fun hc32 => ?_)
   ·replace hg := br_t hg hc32
    obtain ⟨hk33, hg⟩ := chk_some hg
    apply wL
    refine mv s rfl rfl fun a s => ?_
    refine qq s rfl (y_addN (i := tops_21) (j := 1) s rfl rfl (in64.2 (by omega))) fun a s => ?_
    refine asg s rfl rfl fun a s => ?_
    apply wO
    refine p_inN ?_
    apply pN
    apply wL
    refine qq s rfl (y_addN (i := t_22) (j := 1) s rfl rfl (in64.2 (by omega))) fun a s => ?_
    refine mv s rfl rfl fun a s => ?_
    apply wN
    exact ⟨m1, Nat.lt_succ_self _, ⟨(tops_21 + 1), (t_22 + 1), hg, (s.sb rfl rfl rfl)⟩⟩
   replace hg := br_f hg hc32
   apply wp_skip
   refine p_inN ?_
   apply pN
   apply wL
   refine qq s rfl (y_addN (i := t_22) (j := 1) s rfl rfl (in64.2 (by omega))) fun a s => ?_
   refine mv s rfl rfl fun a s => ?_
   apply wN
   exact ⟨m1, Nat.lt_succ_self _, ⟨(tops_21), (t_22 + 1), hg, (s.sb rfl rfl rfl)⟩⟩
  replace hg := br_f hg hc23
  apply wp_exit
  refine p_then ?_
  refine p_then ?_
  refine p_in ?_
  apply pN
  exact ⟨(tops_21), hg, (s.sb rfl rfl rfl)⟩
 clear s a; rintro a w ⟨tops_20, hg, s⟩
 subst hk19
 apply wQ
 apply wR
 refine mv s rfl rfl fun a s => ?_
 refine qq s rfl (y_neqN (i := tops_20) (j := 1) s rfl rfl) fun a s => ?_
 apply wN
 refine c_dec s rfl (fun hc34 => ?_) (fun hc34 => ?_)
 ·replace hg := br_t hg hc34
  apply wR
  refine asg s rfl rfl fun a s => ?_
  apply wN
  apply wp_ret
  refine p_thenR ?_
  obtain rfl := Option.some.inj hg
  refine fin1 (fn := Try.f13) s rfl (r_tmp s rfl) ?_
  exact rfl
 replace hg := br_f hg hc34
 apply wp_skip
 apply pN
 apply wQ
 apply wQ
 obtain ⟨r35, hr35, hg⟩ := bind_some hg
 apply wL
 refine mv s rfl rfl fun a s => ?_
 refine l_seq rfl (l_call (cap := []) s rfl func34 rfl (by kernel_rfl) rfl rfl (c_poset_ordered n _ _ s.lt d_ (Ap01) (cp01) (s.ft 101 rfl) r35 hr35) fun v38 a w hK hp s => ?_)
 obtain ⟨Au39a1, cu39a1, rfl, hu39a1⟩ := hp
 replace s := s.ns 107 hu39a1
 refine qq s rfl (y_lenSlice s rfl underlying27) fun a s => ?_
 refine mv s rfl rfl fun a s => ?_
 refine qq s rfl (y_lenSlice s rfl underlying22) fun a s => ?_
 refine qq s rfl (y_lssN (i := ((r35).length)) (j := ((d_).length)) s rfl rfl) fun a s => ?_
 apply wN
 refine c_dec s rfl (fun hc40 => ?_) (fun hc40 => ?_)
 ·replace hg := br_t hg hc40
  have hmx41 := SlR.mx (s.ft 101 rfl)
  apply wR
  refine asg s rfl rfl fun a s => ?_
  apply wN
  apply wp_ret
  refine p_thenR ?_
  obtain rfl := Option.some.inj hg
  refine fin1 (fn := Try.f13) s rfl (r_tmp s rfl) ?_
  exact rfl
 replace hg := br_f hg hc40
 apply wp_skip
 apply pN
 apply wR
 refine asg s rfl rfl fun a s => ?_
 apply wN
 apply wp_ret
 obtain rfl := Option.some.inj hg
 refine fin1 (fn := Try.f13) s rfl (r_tmp s rfl) ?_
 exact rfl
set_option maxHeartbeats 400000 in
theorem c_poset_Order (n : Nat) (M : Bs) (w0 : World) (hM : ∀ b, M b → b < w0.heap.size) (d_ : (List TypeDecl)) (Ap01 : Option Addr) (cp01 : Nat) (hp01 : SlR RTypeDecl M w0 Ap01 (d_).length cp01 (d_)) (r : ((List (List UInt8)) × Int)) (hg : poset_Order n d_ = some r) :
    Calls Try.prog 15 [.slice (Ap01) ((d_).length) (cp01)].toArray w0 (Ret noB w0 fun v w => ∃ (Aa1 : Option Addr), ∃ (ca1 : Nat), v = .tuple #[.slice (Aa1) ((r.1).length) (ca1), .int .i64 (r.2)] ∧ (SlR Rep.str M w Aa1 (r.1).length ca1 (r.1))) := by
 unfold poset_Order at hg
 refine enter M noB func15 rfl rfl hM ?_
 intro a s
 replace s := s.es 101 hp01
 apply wR
 refine asg s rfl rfl fun a s => ?_
 refine asg s rfl rfl fun a s => ?_
 apply wN
 apply wQ
 apply wQ
 obtain ⟨r1, hr1, hg⟩ := bind_some hg
 apply wL
 refine mv s rfl rfl fun a s => ?_
 refine l_seq rfl (l_call (cap := []) s rfl func13 rfl (by kernel_rfl) rfl rfl (c_poset_Check n _ _ s.lt d_ (Ap01) (cp01) (s.ft 101 rfl) r1 hr1) fun v4 a w hK hp s => ?_)
 obtain rfl := hp
 refine asg s rfl rfl fun a s => ?_
 apply wN
 apply wR
 refine mv s rfl rfl fun a s => ?_
 refine qq s rfl (y_neq s rfl rfl) fun a s => ?_
 apply wN
 refine c_dec s rfl (fun hc6 => ?_) (fun hc6 => ?_)
 ·replace hg := br_t hg hc6
  apply wR
  refine mv s rfl rfl fun a s => ?_
  refine asg s rfl rfl fun a s => ?_
  refine asg s rfl rfl fun a s => ?_
  apply wN
  apply wp_ret
  refine p_thenR ?_
  obtain rfl := Option.some.inj hg
  refine fin2 (fn := Try.f15) s rfl (r_tmp s rfl) (r_tmp s rfl) ?_
  exact ⟨(none), (0), rfl, (SlR.nil_ _ _ _)⟩
 replace hg := br_f hg hc6
 apply wp_skip
 apply pN
 apply wQ
 obtain ⟨r7, hr7, hg⟩ := bind_some hg
 apply wL
 refine mv s rfl rfl fun a s => ?_
 refine l_seq rfl (l_call (cap := []) s rfl func34 rfl (by kernel_rfl) rfl rfl (c_poset_ordered n _ _ s.lt d_ (Ap01) (cp01) (s.ft 101 rfl) r7 hr7) fun v10 a w hK hp s => ?_)
 obtain ⟨Au11a1, cu11a1, rfl, hu11a1⟩ := hp
 replace s := s.ns 103 hu11a1
 refine asg s rfl rfl fun a s => ?_
 refine asg s rfl rfl fun a s => ?_
 apply wN
 apply wp_ret
 obtain rfl := Option.some.inj hg
 refine fin2 (fn := Try.f15) s rfl (r_tmp s rfl) (r_tmp s rfl) ?_
 exact ⟨(Au11a1), (cu11a1), rfl, (s.out (k := 103) rfl)⟩
set_option maxHeartbeats 400000 in
theorem c_r03_SameStrings (n : Nat) (M : Bs) (w0 : World) (hM : ∀ b, M b → b < w0.heap.size) (a_ : (List (List UInt8))) (Ap01 : Option Addr) (cp01 : Nat) (hp01 : SlR Rep.str M w0 Ap01 (a_).length cp01 (a_)) (b_ : (List (List UInt8))) (Ap11 : Option Addr) (cp11 : Nat) (hp11 : SlR Rep.str M w0 Ap11 (b_).length cp11 (b_)) (r : Bool) (hg : r03_SameStrings n a_ b_ = some r) :
    Calls Try.prog 17 [.slice (Ap01) ((a_).length) (cp01), .slice (Ap11) ((b_).length) (cp11)].toArray w0 (Ret noB w0 fun v w => v = .bool (r)) := by
 unfold r03_SameStrings at hg
 refine enter M noB func17 rfl rfl hM ?_
 intro a s
 replace s := s.es 101 hp01
 replace s := s.es 102 hp11
 apply wR
 refine asg s rfl rfl fun a s => ?_
 apply wN
 apply wQ
 apply wR
 refine mv s rfl rfl fun a s => ?_
 refine qq s rfl (y_lenSlice s rfl underlying27) fun a s => ?_
 refine mv s rfl rfl fun a s => ?_
 refine qq s rfl (y_lenSlice s rfl underlying27) fun a s => ?_
 refine qq s rfl (y_neqN (i := ((a_).length)) (j := ((b_).length)) s rfl rfl) fun a s => ?_
 apply wN
 refine c_dec s rfl (fun hc1 => ?_) (fun hc1 => ?_)
 ·replace hg := br_t hg hc1
  apply wR
  refine asg s rfl rfl fun a s => ?_
  apply wN
  apply wp_ret
  refine p_thenR ?_
  obtain rfl := Option.some.inj hg
  refine fin1 (fn := Try.f17) s rfl (r_tmp s rfl) ?_
  exact rfl
 replace hg := br_f hg hc1
 apply wp_skip
 apply pN
 apply wQ
 apply wR
 refine asg s rfl rfl fun a s => ?_
 apply wN
 apply wp_block
 refine c_loop (σ := Nat) (fun m1 a w => ∃ (i_2 : Nat), r03_SameStrings_L0 n a_ b_ m1 i_2 = some r ∧ St (⟨Try.f17.ntmps, M, noB, w0⟩ : Ctx) [(0, sl Ap01 (a_) cp01), (1, sl Ap11 (b_) cp11), (5, vI (((i_2 : Nat) : Int)))] [] [(101, slF Rep.str (Ap01) ((a_).length) (cp01) (a_)), (102, slF Rep.str (Ap11) ((b_).length) (cp11) (b_))] a w) (fun m1 => m1) n ⟨(0), hg, (s.sb rfl rfl rfl)⟩ ?_
 clear s a; rintro m1 a w ⟨i_2, hg, s⟩
 rcases m1 with _ | m1
 ·rw [r03_SameStrings_L0] at hg; cases hg
 rw [r03_SameStrings_L0] at hg
 apply wQ
 apply wR
 refine mv s rfl rfl fun a s => ?_
 refine mv s rfl rfl fun a s => ?_
 refine qq s rfl (y_lenSlice s rfl underlying27) fun a s => ?_
 refine qq s rfl (y_lssN (i := i_2) (j := ((a_).length)) s rfl rfl) fun a s => ?_
 apply wN
 refine c_dec s rfl (fun hc3 => ?_) (fun hc3 => ?_)
 ·replace hg := br_t hg hc3
  have hmx4 := SlR.mx (s.ft 101 rfl)
  apply wp_skip
  apply pN
  apply wQ
  apply wp_block
  apply wQ
  obtain ⟨x6, hx6, hg⟩ := bind_some hg
  obtain ⟨x9, hx9, hg⟩ := bind_some hg
  refine d_plan s [] [(0, some 0), (1, some 0), (2, some 0), (3, some 0), (4, some 0), (5, some 0), (6, some 0), (7, some 0), (8, some 0)] rfl (by kernel_rfl) (by kernel_rfl) rfl ?_; clear s; intro wr hZ s; have hR := s.wd
  refine qt s hR rfl (y_move s rfl) fun a s => ?_
  refine qt s hR rfl (y_move s rfl) fun a s => ?_
  obtain ⟨p11, hep11, hpp11⟩ := SlR.elemX (s.ft 101 rfl) hx6
  refine qt s hR rfl (y_elem (sz := 1) (i := i_2) s rfl rfl underlying27 rfl hep11 rfl (lt_of_get hx6)) fun a s => ?_
  obtain ⟨hlq12, hmq12, csq12, hdq12, hcq12⟩ := hpp11
  obtain ⟨rfl, lq121⟩ := hdq12
  refine qt s hR rfl (y_ldp1 s rfl hlq12 hmq12 (hcq12 0 _ rfl) underlying9 rfl) fun a s => ?_
  refine qt s hR rfl (y_move s rfl) fun a s => ?_
  refine qt s hR rfl (y_move s rfl) fun a s => ?_
  obtain ⟨p13, hep13, hpp13⟩ := SlR.elemX (s.ft 102 rfl) hx9
  refine qt s hR rfl (y_elem (sz := 1) (i := i_2) s rfl rfl underlying27 rfl hep13 rfl (lt_of_get hx9)) fun a s => ?_
  obtain ⟨hlq14, hmq14, csq14, hdq14, hcq14⟩ := hpp13
  obtain ⟨rfl, lq141⟩ := hdq14
  refine qt s hR rfl (y_ldp1 s rfl hlq14 hmq14 (hcq14 0 _ rfl) underlying9 rfl) fun a s => ?_
  refine qt s hR rfl (y_sne s rfl rfl) fun a s => ?_
  clear hR hZ
  apply pN
  refine c_dec s rfl (fun hc15 => ?_) (fun hc15 => ?_)
  ·replace hg := br_t hg hc15
   apply wR
   refine asg s rfl rfl fun a s => ?_
   apply wN
   apply wp_ret
   refine p_inR ?_
   refine p_thenR ?_
   refine p_thenR ?_
   refine p_inR ?_
   refine p_thenR ?_
   obtain rfl := Option.some.inj hg
   refine fin1 (fn := Try.f17) s rfl (r_tmp s rfl) ?_
   exact rfl
  replace hg := br_f hg hc15
  apply wp_skip
  refine p_inN ?_
  apply pN
  apply wL
  refine mv s rfl rfl fun a s => ?_
  refine qq s rfl (y_addN (i := i_2) (j := 1) s rfl rfl (in64.2 (by omega))) fun a s => ?_
  refine asg s rfl rfl fun a s => ?_
  apply wN
  exact ⟨m1, Nat.lt_succ_self _, ⟨(i_2 + 1), hg, (s.sb rfl rfl rfl)⟩⟩
 replace hg := br_f hg hc3
 apply wp_exit
 refine p_then ?_
 refine p_then ?_
 refine p_in ?_
 apply pN
 apply wR
 refine asg s rfl rfl fun a s => ?_
 apply wN
 apply wp_ret
 obtain rfl := Option.some.inj hg
 refine fin1 (fn := Try.f17) s rfl (r_tmp s rfl) ?_
 exact rfl
set_option maxHeartbeats 400000 in
theorem c_poset_reach (n : Nat) (M : Bs) (w0 : World) (hM : ∀ b, M b → b < w0.heap.size) (to_ : (List (List UInt8 × (List (List UInt8))))) (bp01 : Nat) (hp01 : MapR (Rep.list Rep.str) M w0 bp01 (to_)) (name_ : (List UInt8)) (lp11 : (name_).length ≤ 9223372036854775807) (r : (List (List UInt8))) (hg : poset_reach n to_ name_ = some r) :
    Calls Try.prog 40 [.map (some bp01), .string (bs (name_))].toArray w0 (Ret noB w0 fun v w => ∃ (Aa1 : Option Addr), ∃ (ca1 : Nat), v = .slice (Aa1) ((r).length) (ca1) ∧ (SlR Rep.str M w Aa1 (r).length ca1 (r))) := by
 unfold poset_reach at hg
 refine enter M noB func40 rfl rfl hM ?_
 intro a s
 replace s := s.add 101 (mapRF (Rep.list Rep.str) bp01 (to_)) (by exact Fact.change _ enterM hp01)
 apply wR
 refine asg s rfl rfl fun a s => ?_
 apply wN
 apply wQ
 apply wR
 refine mv s rfl rfl fun a s => ?_
 refine mv s rfl rfl fun a s => ?_
 obtain ⟨kvm2, hmm2, hfm2⟩ := mapRF_open (s.ft 101 rfl)
 have hm2 := kvF_getD (R := (Rep.list Rep.str)) (k := name_) (z := .slice (none) (0) (0)) (zx := []) hfm2 (by exact ⟨_, _, _, rfl, (SlR.nil_ _ _ _)⟩)
 obtain ⟨Am21, nnm2, cm21, em2, hm21⟩ := hm2
 obtain rfl := hm21.len
 replace s := s.ns 103 hm21
 refine qq s rfl (y_lookupOkFV s rfl rfl hmm2 underlying49 underlying9 rfl em2 (kvF_isSome hfm2)) fun a s => ?_
 refine mv s rfl rfl fun a s => ?_
 refine qq s rfl (y_extract s rfl rfl) fun a s => ?_
 refine qq s rfl (y_extract s rfl rfl) fun a s => ?_
 refine asg s rfl rfl fun a s => ?_
 refine asg s rfl rfl fun a s => ?_
 apply wN
 apply wR
 refine mv s rfl rfl fun a s => ?_
 refine qq s rfl (y_not s rfl) fun a s => ?_
 apply wN
 refine c_cond s rfl (fun hc3 => ?_) (fun hc3 => ?_)
 ·replace hg := br_t hg hc3
  apply wR
  refine asg s rfl rfl fun a s => ?_
  apply wN
  apply wp_ret
  refine p_thenR ?_
  obtain rfl := Option.some.inj hg
  refine fin1 (fn := Try.f40) s rfl (r_tmp s rfl) ?_
  exact ⟨(none), (0), rfl, (SlR.nil_ _ _ _)⟩
 replace hg := br_n hg hc3
 apply wp_skip
 apply pN
 apply wR
 refine l_seq rfl (l_makeMap (n := 0) s 1400 underlying55 (.inl rfl) rfl rfl fun b5 a w hb hK s => ?_)
 replace s := s.add 106 (kvF Rep.bool ([]) ([])) (KvRel.nil)
 refine mv s rfl rfl fun a s => ?_
 refine l_seq rfl (l_insert s 1400 rfl rfl rfl rfl underlying55 underlying9 fun w hK s => ?_)
 replace s := s.add 107 (kvF Rep.bool (mset ([]) (name_) (.bool (true))) (mset ([]) (name_) (true))) (kvF_set (s.ft 106 rfl) (by exact rfl))
 refine mv s rfl rfl fun a s => ?_
 refine asg s rfl rfl fun a s => ?_
 apply wN
 apply wR
 refine mv s rfl rfl fun a s => ?_
 refine l_seq rfl (l_buildDense (sz := 1) s 1501 rfl rfl rfl underlying27 rfl rfl rfl rfl rfl rfl rfl fun b7 a w hbb7 hK s => ?_)
 clear hbb7
 refine asg s rfl rfl fun a s => ?_
 apply wN
 apply wQ
 apply wR
 refine asg s rfl rfl fun a s => ?_
 apply wN
 obtain ⟨k8, hg, hk8⟩ := jn_some hg
 refine c_post (fun a w => ∃ (out_9 : (List (List UInt8))) (A10 : Option Addr) (c11 : Nat) (cs12 : List Value), k8 out_9 = some r ∧ St (⟨Try.f40.ntmps, M, noB, w0⟩ : Ctx) [(8, sl A10 (out_9) c11)] [(700108, Ob.row (A10) ((out_9).length) (c11) 9 1 (cs12))] [(109, rdF Rep.str (cs12) (out_9))] a w) ?_ ?_
 ·apply wp_block
  replace s := s.al 110 107 rfl
  replace s := s.add 113 (rdF Rep.str (cellsOfL [vT name_]) ([name_])) (RdAll.cons (by exact ⟨rfl, (by omega)⟩) (RdAll.nil _ _ _))
  replace s := s.al 112 113 rfl
  replace s := s.pk [(1400, 1400), (700111, 1501)] (by decide)
  refine c_loop (σ := Nat) (fun m1 a w => ∃ (met_13 : (List (List UInt8 × Bool))) (out_15 : (List (List UInt8))) (i_19 : Nat) (kv14 : List (List UInt8 × Value)) (A16 : Option Addr) (c17 : Nat) (cs18 : List Value), poset_reach_L0 n to_ k8 m1 met_13 out_15 i_19 = some r ∧ St (⟨Try.f40.ntmps, M, noB, w0⟩ : Ctx) [(0, .map (some bp01)), (7, .map (some b5)), (8, sl A16 (out_15) c17), (9, vI (((i_19 : Nat) : Int)))] [(1400, Ob.smap b5 (kv14)), (700111, Ob.row (A16) ((out_15).length) (c17) 9 1 (cs18))] [(101, mapRF (Rep.list Rep.str) bp01 (to_)), (110, kvF Rep.bool (kv14) (met_13)), (112, rdF Rep.str (cs18) (out_15))] a w) (fun m1 => m1) n ⟨(mset ([]) (name_) (true)), ([name_]), (0), (mset ([]) (name_) (.bool (true))), (some ⟨b7, 0, none⟩), (1), (cellsOfL [vT name_]), hg, (s.sb rfl rfl rfl)⟩ ?_
  clear s a; rintro m1 a w ⟨met_13, out_15, i_19, kv14, A16, c17, cs18, hg, s⟩
  rcases m1 with _ | m1
  ·rw [poset_reach_L0] at hg; cases hg
  rw [poset_reach_L0] at hg
  apply wQ
  apply wR
  refine mv s rfl rfl fun a s => ?_
  refine mv s rfl rfl fun a s => ?_
  refine qq s rfl (y_lenSlice s rfl underlying27) fun a s => ?_
  refine qq s rfl (y_lssN (i := i_19) (j := ((out_15).length)) s rfl rfl) fun a s => ?_
  apply wN
  refine c_dec s rfl (fun hc20 => ?_) (fun hc20 => ?_)
  ·replace hg := br_t hg hc20
   have hmx21 := row_mx (s.wd.holds 700111 _ rfl)
   apply wp_skip
   apply pN
   apply wQ
   obtain ⟨k22, hg, hk22⟩ := jn_some hg
   refine c_post (fun a w => ∃ (met_23 : (List (List UInt8 × Bool))) (out_25 : (List (List UInt8))) (kv24 : List (List UInt8 × Value)) (A26 : Option Addr) (c27 : Nat) (cs28 : List Value), k22 met_23 out_25 = some r ∧ St (⟨Try.f40.ntmps, M, noB, w0⟩ : Ctx) [(0, .map (some bp01)), (7, .map (some b5)), (8, sl A26 (out_25) c27), (9, vI (((i_19 : Nat) : Int)))] [(1400, Ob.smap b5 (kv24)), (700115, Ob.row (A26) ((out_25).length) (c27) 9 1 (cs28))] [(101, mapRF (Rep.list Rep.str) bp01 (to_)), (114, kvF Rep.bool (kv24) (met_23)), (116, rdF Rep.str (cs28) (out_25))] a w) ?_ ?_
   ·apply wp_block
    apply wQ
    obtain ⟨x30, hx30, hg⟩ := bind_some hg
    apply wL
    refine mv s rfl rfl fun a s => ?_
    refine mv s rfl rfl fun a s => ?_
    refine mv s rfl rfl fun a s => ?_
    obtain ⟨hiq33, bq33, hAq33⟩ := SlR.row1 (s.wd.holds 700111 _ rfl) (s.ft 112 rfl) rfl rfl hx30
    refine qq s rfl (y_rowIndex (sz := 1) (i := i_19) s rfl rfl underlying27 rfl hAq33 rfl hiq33) fun a s => ?_
    have hz34 := (s.ft 112 rfl).at_ _ _ hx30
    obtain ⟨ez34, lz341⟩ := hz34
    refine qq s rfl (y_loadRow1 (kk := 700111) s rfl rfl hAq33 (take1 ez34) underlying9 rfl) fun a s => ?_
    obtain ⟨kvm35, hmm35, hfm35⟩ := mapRF_open (s.ft 101 rfl)
    have hm35 := kvF_getD (R := (Rep.list Rep.str)) (k := x30) (z := .slice (none) (0) (0)) (zx := []) hfm35 (by exact ⟨_, _, _, rfl, (SlR.nil_ _ _ _)⟩)
    obtain ⟨Am351, nnm35, cm351, em35, hm351⟩ := hm35
    obtain rfl := hm351.len
    replace s := s.ns 118 hm351
    refine qq s rfl (y_lookupFV s rfl rfl hmm35 underlying49 underlying9 rfl em35) fun a s => ?_
    refine qq s rfl (y_lenSlice s rfl underlying27) fun a s => ?_
    refine mv s rfl rfl fun a s => ?_
    apply wN
    apply wp_block
    replace s := s.al 119 110 rfl
    replace s := s.al 121 112 rfl
    replace s := s.pk [(1400, 1400), (700120, 700111)] (by decide)
    refine c_loop (σ := Nat) (fun m2 a w => ∃ (met_36 : (List (List UInt8 × Bool))) (out_38 : (List (List UInt8))) (t_42 : Nat) (kv37 : List (List UInt8 × Value)) (A39 : Option Addr) (c40 : Nat) (cs41 : List Value), poset_reach_L1 n to_ k22 x30 m2 met_36 out_38 t_42 = some r ∧ St (⟨Try.f40.ntmps, M, noB, w0⟩ : Ctx) [(0, .map (some bp01)), (7, .map (some b5)), (8, sl A39 (out_38) c40), (9, vI (((i_19 : Nat) : Int))), (36, sl Am351 (((mget to_ x30).getD [])) cm351), (37, vI ((((((mget to_ x30).getD [])).length : Nat) : Int))), (38, vI (((t_42 : Nat) : Int)))] [(1400, Ob.smap b5 (kv37)), (700120, Ob.row (A39) ((out_38).length) (c40) 9 1 (cs41))] [(101, mapRF (Rep.list Rep.str) bp01 (to_)), (118, slF Rep.str (Am351) ((((mget to_ x30).getD [])).length) (cm351) (((mget to_ x30).getD []))), (119, kvF Rep.bool (kv37) (met_36)), (121, rdF Rep.str (cs41) (out_38))] a w) (fun m2 => m2) n ⟨(met_13), (out_15), (0), (kv14), (A16), (c17), (cs18), hg, (s.sb rfl rfl rfl)⟩ ?_
    clear s a; rintro m2 a w ⟨met_36, out_38, t_42, kv37, A39, c40, cs41, hg, s⟩
    rcases m2 with _ | m2
    ·rw [poset_reach_L1] at hg; cases hg
    rw [poset_reach_L1] at hg
    apply wR
    refine qq s rfl (y_lssN (i := t_42) (j := ((((mget to_ x30).getD [])).length)) s rfl rfl) fun a s => ?_
    apply wN
    apply wQ
    refine c_dec s rfl (fun hc43 => ?_) (fun hc43 => ?_)
    ·replace hg := br_t hg hc43
     have hmx44 := SlR.mx (s.ft 118 rfl)
     apply wp_skip
     apply pN
     apply wQ
     apply wp_block
     apply wQ
     obtain ⟨x46, hx46, hg⟩ := bind_some hg
     apply wL
     obtain ⟨p48, hep48, hpp48⟩ := SlR.elemX (s.ft 118 rfl) hx46
     refine qq s rfl (y_elem (sz := 1) (i := t_42) s rfl rfl underlying27 rfl hep48 rfl (lt_of_get hx46)) fun a s => ?_
     obtain ⟨hlq49, hmq49, csq49, hdq49, hcq49⟩ := hpp48
     obtain ⟨rfl, lq491⟩ := hdq49
     refine qq s rfl (y_ldp1 s rfl hlq49 hmq49 (hcq49 0 _ rfl) underlying9 rfl) fun a s => ?_
     refine asg s rfl rfl fun a s => ?_
     apply wN
     apply wR
     refine mv s rfl rfl fun a s => ?_
     refine mv s rfl rfl fun a s => ?_
     have hm51 := kvF_getD (R := Rep.bool) (k := x46) (z := .bool (false)) (zx := false) (s.ft 119 rfl) (by exact rfl)
     have em51 := hm51
     refine qq s rfl (y_lookupV (kk := 1400) s rfl rfl rfl underlying55 underlying9 rfl em51) fun a s => ?_
     refine qq s rfl (y_not s rfl) fun a s => ?_
     apply wN
     refine c_cond s rfl (fun hc52 => ?_) (fun hc52 => ?_)
     ·replace hg := br_t hg hc52
      apply wR
      refine mv s rfl rfl fun a s => ?_
      refine mv s rfl rfl fun a s => ?_
      refine l_seq rfl (l_mapUpdate s 1400 rfl rfl rfl rfl underlying55 underlying9 fun w hK s => ?_)
      replace s := s.add 123 (kvF Rep.bool (mset (kv37) (x46) (.bool (true))) (mset (met_36) (x46) (true))) (kvF_set (s.ft 119 rfl) (by exact rfl))
      apply wN
      obtain ⟨hk54, hg⟩ := chk_some hg
      apply wL
      refine mv s rfl rfl fun a s => ?_
      refine mv s rfl rfl fun a s => ?_
      refine l_seq rfl (l_buildDense (sz := 1) s 2402 rfl rfl rfl underlying27 rfl rfl rfl rfl rfl rfl rfl fun b57 a w hbb57 hK s => ?_)
      clear hbb57
      replace s := s.add 126 (rdF Rep.str (cellsOfL [vT x46]) ([x46])) (RdAll.cons (by exact ⟨rfl, (by omega)⟩) (RdAll.nil _ _ _))
      have hs59 := row_src (s.wd.holds 2402 _ rfl) (RdAll.one (s.ft 126 rfl))
      refine l_seq rfl (l_append (sz := 1) (by_ := 16) (N := (out_38 ++ [x46]).length) (ys := cs41 ++ (cellsOfL [vT x46])) s 700120 rfl rfl rfl underlying27 rfl rfl rfl rfl rfl hs59 (by first | (simp; done) | (simp; omega)) rfl (by have hr := hk54; clear hg; first | omega | (simp only [List.length_append, List.length_cons, List.length_nil] at hr ⊢; omega) | (simp at hr ⊢; omega)) (by have hr := hk54; clear hg; first | omega | (simp only [List.length_append, List.length_cons, List.length_nil] at hr ⊢; omega) | (simp at hr ⊢; omega)) rfl fun Aq58 cq58 a w hA hK s => ?_)
      replace s := s.add 127 (rdF Rep.str (cs41 ++ (cellsOfL [vT x46])) (out_38 ++ [x46])) (RdAll.append (s.ft 121 rfl) (s.ft 126 rfl))
      refine asg s rfl rfl fun a s => ?_
      apply wO
      refine p_inN ?_
      apply pN
      apply wL
      refine qq s rfl (y_addN (i := t_42) (j := 1) s rfl rfl (in64.2 (by omega))) fun a s => ?_
      refine mv s rfl rfl fun a s => ?_
      apply wN
      replace s := s.al 119 123 rfl
      replace s := s.add 121 (rdF Rep.str (cs41 ++ (cellsOfL [vT x46])) (out_38 ++ [x46])) (s.ft 127 rfl)
      exact ⟨m2, Nat.lt_succ_self _, ⟨(mset (met_36) (x46) (true)), (out_38 ++ [x46]), (t_42 + 1), (mset (kv37) (x46) (.bool (true))), (Aq58), (cq58), (cs41 ++ (cellsOfL [vT x46])), hg, (s.sb rfl rfl rfl)⟩⟩
     replace hg := br_n hg hc52
     apply wp_skip
     refine p_inN ?_
     apply pN
     apply wL
     refine qq s rfl (y_addN (i := t_42) (j := 1) s rfl rfl (in64.2 (by omega))) fun a s => ?_
     refine mv s rfl rfl fun a s => ?_
     apply wN
     replace s := s.al 119 119 rfl
     replace s := s.al 121 121 rfl
     exact ⟨m2, Nat.lt_succ_self _, ⟨(met_36), (out_38), (t_42 + 1), (kv37), (A39), (c40), (cs41), hg, (s.sb rfl rfl rfl)⟩⟩
    replace hg := br_f hg hc43
    apply wp_exit
    refine p_then ?_
    refine p_then ?_
    refine p_in ?_
    refine p_inN ?_
    apply pN
    replace s := s.al 114 119 rfl
    replace s := s.al 116 121 rfl
    replace s := s.pk [(1400, 1400), (700115, 700120)] (by decide)
    exact ⟨(met_36), (out_38), (kv37), (A39), (c40), (cs41), hg, (s.sb rfl rfl rfl)⟩
   clear s a; rintro a w ⟨met_23, out_25, kv24, A26, c27, cs28, hg, s⟩
   subst hk22
   apply wL
   refine mv s rfl rfl fun a s => ?_
   refine qq s rfl (y_addN (i := i_19) (j := 1) s rfl rfl (in64.2 (by omega))) fun a s => ?_
   refine asg s rfl rfl fun a s => ?_
   apply wN
   replace s := s.al 110 114 rfl
   replace s := s.al 112 116 rfl
   replace s := s.pk [(1400, 1400), (700111, 700115)] (by decide)
   exact ⟨m1, Nat.lt_succ_self _, ⟨(met_23), (out_25), (i_19 + 1), (kv24), (A26), (c27), (cs28), hg, (s.sb rfl rfl rfl)⟩⟩
  replace hg := br_f hg hc20
  apply wp_exit
  refine p_then ?_
  refine p_then ?_
  refine p_in ?_
  apply pN
  replace s := s.al 109 112 rfl
  replace s := s.pk [(1400, 1400), (700108, 700111)] (by decide)
  exact ⟨(out_15), (A16), (c17), (cs18), hg, (s.sb rfl rfl rfl)⟩
 clear s a; rintro a w ⟨out_9, A10, c11, cs12, hg, s⟩
 subst hk8
 apply wQ
 obtain ⟨r60, hr60, hg⟩ := bind_some hg
 apply wL
 refine mv s rfl rfl fun a s => ?_
 have hT := s.pk [(9200000, 700108)] (by decide)
 replace hT := hT.al 9300000 109 rfl
 refine l_seq rfl (l_callMut (cap := []) hT _ [] (sbA (by rfl)) trivial (by rfl) rfl func57 rfl (by kernel_rfl) rfl rfl (c_slices_Sort_string n _ _ (hT.restLt []) _ out_9 (A10) (c11) (cs12) (hT.wd.lendL _ _ _ (sbA (by rfl)) (keep_sub []) (by rfl) (sbA (by rfl))) r60 hr60) ?_); intro v63 a' w' hK hp hF
 obtain ⟨csm0_0u64, rfl, hWu64⟩ := hp
 have hS2 := St.mk hF (hT.wd.back (sbA (by rfl)) (keep_sub []) (by rfl) hWu64 (by rfl))
 clear s hT hF hWu64 hK; revert hS2; revert w'; revert a'; intro a w s
 replace s := s.al 129 9300000 rfl
 replace s := s.ren [(700108, Ob.row (A10) ((out_9).length) (c11) 9 1 (csm0_0u64))] [9200000] ⟨rfl, trivial⟩ (by decide)
 replace s := s.sub (l' := [(8, .slice (A10) ((out_9).length) (c11)), (53, .slice (A10) ((out_9).length) (c11)), (54, .tuple #[])]) (L' := [(700108, Ob.row (A10) ((out_9).length) (c11) 9 1 (csm0_0u64))]) (D' := [(109, rdF Rep.str (cs12) (out_9)), (129, rdF Rep.str (csm0_0u64) (r60))]) ⟨rfl, rfl, rfl, trivial⟩ ⟨rfl, trivial⟩ ⟨rfl, rfl, trivial⟩
 have hrlu640 := rowN (s.wd.holds 700108 _ rfl) (s.ft 129 rfl) rfl rfl
 replace s := s.eqs (l' := [(8, .slice (A10) ((r60).length) (c11)), (53, .slice (A10) ((r60).length) (c11)), (54, .tuple #[])]) (L' := [(700108, Ob.row (A10) ((r60).length) (c11) 9 1 (csm0_0u64))]) (by simp only [hrlu640]) (by simp only [hrlu640])
 apply wN
 apply wR
 refine mv s rfl rfl fun a s => ?_
 refine asg s rfl rfl fun a s => ?_
 apply wN
 apply wp_ret
 obtain rfl := Option.some.inj hg
 refine fin1 (fn := Try.f40) s rfl (r_tmp s rfl) ?_
 exact ⟨(A10), (c11), rfl, (s.rowOut (R := Rep.str) (kk := 700108) rfl rfl (s.ft 129 rfl))⟩
set_option maxHeartbeats 400000 in
theorem c_poset_Above (n : Nat) (M : Bs) (w0 : World) (hM : ∀ b, M b → b < w0.heap.size) (d_ : (List TypeDecl)) (Ap01 : Option Addr) (cp01 : Nat) (hp01 : SlR RTypeDecl M w0 Ap01 (d_).length cp01 (d_)) (name_ : (List UInt8)) (lp11 : (name_).length ≤ 9223372036854775807) (r : (List (List UInt8))) (hg : poset_Above n d_ name_ = some r) :
    Calls Try.prog 20 [.slice (Ap01) ((d_).length) (cp01), .string (bs (name_))].toArray w0 (Ret noB w0 fun v w => ∃ (Aa1 : Option Addr), ∃ (ca1 : Nat), v = .slice (Aa1) ((r).length) (ca1) ∧ (SlR Rep.str M w Aa1 (r).length ca1 (r))) := by
 unfold poset_Above at hg
 refine enter M noB func20 rfl rfl hM ?_
 intro a s
 replace s := s.es 101 hp01
 apply wR
 refine asg s rfl rfl fun a s => ?_
 apply wN
 apply wQ
 obtain ⟨r1, hr1, hg⟩ := bind_some hg
 obtain ⟨r4, hr4, hg⟩ := bind_some hg
 apply wL
 refine mv s rfl rfl fun a s => ?_
 refine l_seq rfl (l_call (cap := []) s rfl func41 rfl (by kernel_rfl) rfl rfl (c_poset_supers n _ _ s.lt d_ (Ap01) (cp01) (s.ft 101 rfl) r1 hr1) fun v7 a w hK hp s => ?_)
 obtain ⟨bu8a1, rfl, hu8a1⟩ := hp
 replace s := s.add 104 (mapRF (Rep.list Rep.str) bu8a1 (r1)) hu8a1
 refine mv s rfl rfl fun a s => ?_
 refine l_seq rfl (l_call (cap := []) s rfl func40 rfl (by kernel_rfl) rfl rfl (c_poset_reach n _ _ s.lt r1 bu8a1 (s.ft 104 rfl) name_ (by omega) r4 hr4) fun v9 a w hK hp s => ?_)
 obtain ⟨Au10a1, cu10a1, rfl, hu10a1⟩ := hp
 replace s := s.ns 105 hu10a1
 refine asg s rfl rfl fun a s => ?_
 apply wN
 apply wp_ret
 obtain rfl := Option.some.inj hg
 refine fin1 (fn := Try.f20) s rfl (r_tmp s rfl) ?_
 exact ⟨(Au10a1), (cu10a1), rfl, (s.out (k := 105) rfl)⟩
set_option maxHeartbeats 400000 in
theorem c_poset_Below (n : Nat) (M : Bs) (w0 : World) (hM : ∀ b, M b → b < w0.heap.size) (d_ : (List TypeDecl)) (Ap01 : Option Addr) (cp01 : Nat) (hp01 : SlR RTypeDecl M w0 Ap01 (d_).length cp01 (d_)) (name_ : (List UInt8)) (lp11 : (name_).length ≤ 9223372036854775807) (r : (List (List UInt8))) (hg : poset_Below n d_ name_ = some r) :
    Calls Try.prog 22 [.slice (Ap01) ((d_).length) (cp01), .string (bs (name_))].toArray w0 (Ret noB w0 fun v w => ∃ (Aa1 : Option Addr), ∃ (ca1 : Nat), v = .slice (Aa1) ((r).length) (ca1) ∧ (SlR Rep.str M w Aa1 (r).length ca1 (r))) := by
 unfold poset_Below at hg
 refine enter M noB func22 rfl rfl hM ?_
 intro a s
 replace s := s.es 101 hp01
 apply wR
 refine asg s rfl rfl fun a s => ?_
 apply wN
 apply wR
 refine mv s rfl rfl fun a s => ?_
 refine qq s rfl (y_lenSlice s rfl underlying22) fun a s => ?_
 refine l_seq rfl (l_makeRows (n := (((d_).length : Nat) : Int)) s 1102 9 1 underlying49 (.inr rfl) rfl rfl fun b2 a w hb hK s => ?_)
 replace s := s.add 103 (rowsF Rep.str ([]) ([])) (KvRel.nil)
 refine asg s rfl rfl fun a s => ?_
 apply wN
 apply wQ
 apply wR
 refine mv s rfl rfl fun a s => ?_
 refine qq s rfl (y_lenSlice s rfl underlying22) fun a s => ?_
 refine mv s rfl rfl fun a s => ?_
 apply wN
 obtain ⟨k3, hg, hk3⟩ := jn_some hg
 refine c_post (fun a w => ∃ (to_4 : (List (List UInt8 × (List (List UInt8))))), ∃ (kv5 : List (List UInt8 × Rw)), k3 to_4 = some r ∧ St (⟨Try.f22.ntmps, M, noB, w0⟩ : Ctx) [(1, vT name_), (5, .map (some b2))] [(1102, Ob.mrows b2 9 1 (kv5) none)] [(104, rowsF Rep.str (kv5) (to_4))] a w) ?_ ?_
 ·apply wp_block
  replace s := s.al 105 103 rfl
  refine c_loop (σ := Nat) (fun m1 a w => ∃ (to_6 : (List (List UInt8 × (List (List UInt8))))), ∃ (t_8 : Nat) (kv7 : List (List UInt8 × Rw)), poset_Below_L0 n d_ k3 m1 to_6 t_8 = some r ∧ St (⟨Try.f22.ntmps, M, noB, w0⟩ : Ctx) [(1, vT name_), (5, .map (some b2)), (15, sl Ap01 (d_) cp01), (16, vI ((((d_).length : Nat) : Int))), (17, vI (((t_8 : Nat) : Int)))] [(1102, Ob.mrows b2 9 1 (kv7) none)] [(101, slF RTypeDecl (Ap01) ((d_).length) (cp01) (d_)), (105, rowsF Rep.str (kv7) (to_6))] a w) (fun m1 => m1) n ⟨([]), (0), ([]), hg, (s.sb rfl rfl rfl)⟩ ?_
  clear s a; rintro m1 a w ⟨to_6, t_8, kv7, hg, s⟩
  rcases m1 with _ | m1
  ·rw [poset_Below_L0] at hg; cases hg
  rw [poset_Below_L0] at hg
  apply wR
  refine qq s rfl (y_lssN (i := t_8) (j := ((d_).length)) s rfl rfl) fun a s => ?_
  apply wN
  apply wQ
  refine c_dec s rfl (fun hc9 => ?_) (fun hc9 => ?_)
  ·replace hg := br_t hg hc9
   have hmx10 := SlR.mx (s.ft 101 rfl)
   apply wp_skip
   apply pN
   apply wQ
   obtain ⟨k11, hg, hk11⟩ := jn_some hg
   refine c_post (fun a w => ∃ (to_12 : (List (List UInt8 × (List (List UInt8))))), ∃ (kv13 : List (List UInt8 × Rw)), k11 to_12 = some r ∧ St (⟨Try.f22.ntmps, M, noB, w0⟩ : Ctx) [(1, vT name_), (5, .map (some b2)), (15, sl Ap01 (d_) cp01), (16, vI ((((d_).length : Nat) : Int))), (17, vI (((t_8 : Nat) : Int)))] [(1102, Ob.mrows b2 9 1 (kv13) none)] [(101, slF RTypeDecl (Ap01) ((d_).length) (cp01) (d_)), (106, rowsF Rep.str (kv13) (to_12))] a w) ?_ ?_
   ·apply wp_block
    apply wQ
    obtain ⟨x15, hx15, hg⟩ := bind_some hg
    apply wL
    obtain ⟨p18, hep18, hpp18⟩ := SlR.elemX (s.ft 101 rfl) hx15
    refine qq s rfl (y_elem (sz := 3) (i := t_8) s rfl rfl underlying22 rfl hep18 rfl (lt_of_get hx15)) fun a s => ?_
    obtain ⟨hlq19, hmq19, csq19, hdq19, hcq19⟩ := hpp18
    obtain ⟨Aq192, cq192, Aq193, cq193, rfl, lq191, hq192, hq193⟩ := RTypeDecl.open hdq19
    replace s := s.ns 109 hq192
    replace s := s.ns 110 hq193
    refine qq s rfl (y_ldp s rfl hlq19 hmq19 (by simpa using hcq19) underlying40 rfl rfl) fun a s => ?_
    refine l_seq rfl (l_alloc (zs := [vT ([]), .slice (none) (0) (0), .slice (none) (0) (0)]) s 1402 rfl rfl rfl rfl fun b20 a w hb hK s => ?_)
    refine l_seq rfl (l_store (n := 3) (cs' := [vT (x15.Name), sl Aq192 (x15.Supers) cq192, sl Aq193 (x15.Feats) cq193]) s 1402 rfl rfl rfl rfl rfl rfl rfl rfl ?_); clear s; intro w hK s; clear hK
    apply wN
    apply wQ
    apply wR
    refine mv s rfl rfl fun a s => ?_
    refine qq s rfl (y_boxField (o' := 0) s rfl underlying40 rfl rfl rfl) fun a s => ?_
    refine qq s rfl (y_loadBox1 (kk := 1402) s rfl rfl rfl underlying9 rfl) fun a s => ?_
    refine qq s rfl (y_lookupOkRows' (kk := 1102) s rfl rfl rfl underlying49 underlying9 rfl (rowsF_isSome (s.ft 105 rfl))) fun a s => ?_
    refine mv s rfl rfl fun a s => ?_
    refine qq s rfl (y_extract s rfl rfl) fun a s => ?_
    refine qq s rfl (y_extract s rfl rfl) fun a s => ?_
    refine asg s rfl rfl fun a s => ?_
    refine asg s rfl rfl fun a s => ?_
    apply wN
    apply wR
    refine mv s rfl rfl fun a s => ?_
    refine qq s rfl (y_not s rfl) fun a s => ?_
    apply wN
    obtain ⟨k21, hg, hk21⟩ := jn_some hg
    refine c_post (fun a w => ∃ (to_22 : (List (List UInt8 × (List (List UInt8))))), ∃ (kv23 : List (List UInt8 × Rw)), k21 to_22 = some r ∧ St (⟨Try.f22.ntmps, M, noB, w0⟩ : Ctx) [(1, vT name_), (5, .map (some b2)), (7, vP b20 0), (15, sl Ap01 (d_) cp01), (16, vI ((((d_).length : Nat) : Int))), (17, vI (((t_8 : Nat) : Int)))] [(1102, Ob.mrows b2 9 1 (kv23) none), (1402, Ob.box b20 [vT (x15.Name), sl Aq192 (x15.Supers) cq192, sl Aq193 (x15.Feats) cq193] 40)] [(101, slF RTypeDecl (Ap01) ((d_).length) (cp01) (d_)), (109, slF Rep.str (Aq192) ((x15.Supers).length) (cq192) (x15.Supers)), (110, slF RFeatDecl (Aq193) ((x15.Feats).length) (cq193) (x15.Feats)), (111, rowsF Rep.str (kv23) (to_22))] a w) ?_ ?_
    ·refine c_cond s rfl (fun hc24 => ?_) (fun hc24 => ?_)
     ·replace hg := br_t hg hc24
      apply wL
      refine mv s rfl rfl fun a s => ?_
      refine qq s rfl (y_boxField (o' := 0) s rfl underlying40 rfl rfl rfl) fun a s => ?_
      refine qq s rfl (y_loadBox1 (kk := 1402) s rfl rfl rfl underlying9 rfl) fun a s => ?_
      obtain ⟨At26, ct26, cst26, hvt26, hrt26, hS'⟩ := s.takeRowX (R := Rep.str) (kk := 1102) (kr := 400116) x15.Name rfl rfl (s.ft 105 rfl) rfl; clear s; have s := hS'; clear hS'
      replace s := s.add 117 (rdF Rep.str cst26 ((mget to_6 x15.Name).getD [])) hrt26
      replace s := s.nilRow 501703 9 1 rfl
      replace s := s.add 118 (rdF Rep.str ([]) ([])) (RdAll.nil _ _ _)
      refine l_seq rfl (l_putRow (r := ⟨none, 0, 0, []⟩) (L' := [(1102, Ob.mrows b2 9 1 (kv7) (some (x15.Name))), (1402, Ob.box b20 [vT (x15.Name), sl Aq192 (x15.Supers) cq192, sl Aq193 (x15.Feats) cq193] 40), (400116, Ob.row (At26) (((mget to_6 x15.Name).getD []).length) (ct26) 9 1 (cst26))]) s 1102 501703 rfl rfl rfl rfl rfl rfl ⟨rfl, rfl, rfl, trivial⟩ rfl underlying49 underlying9 fun w hK s => ?_)
      replace s := s.add 119 (rowsF Rep.str (mset (kv7) (x15.Name) ⟨none, 0, 0, []⟩) (mset (to_6) (x15.Name) ([]))) (rowsF_set (r := ⟨none, 0, 0, []⟩) (s.ft 105 rfl) (s.ft 118 rfl))
      apply wN
      replace s := s.al 111 119 rfl
      exact ⟨(mset (to_6) (x15.Name) ([])), (mset (kv7) (x15.Name) ⟨none, 0, 0, []⟩), hg, (s.sb rfl rfl rfl)⟩
     replace hg := br_n hg hc24
     apply wp_skip
     apply pN
     replace s := s.al 111 105 rfl
     exact ⟨(to_6), (kv7), hg, (s.sb rfl rfl rfl)⟩
    clear s a; rintro a w ⟨to_22, kv23, hg, s⟩
    subst hk21
    apply wR
    refine qq s rfl (y_boxField (o' := 1) s rfl underlying40 rfl rfl rfl) fun a s => ?_
    refine qq s rfl (y_loadBox1 (kk := 1402) s rfl rfl rfl underlying27 rfl) fun a s => ?_
    refine qq s rfl (y_lenSlice s rfl underlying27) fun a s => ?_
    refine mv s rfl rfl fun a s => ?_
    apply wN
    apply wp_block
    replace s := s.al 120 111 rfl
    refine c_loop (σ := Nat) (fun m2 a w => ∃ (to_27 : (List (List UInt8 × (List (List UInt8))))), ∃ (t_29 : Nat) (kv28 : List (List UInt8 × Rw)), poset_Below_L1 n k11 x15 m2 to_27 t_29 = some r ∧ St (⟨Try.f22.ntmps, M, noB, w0⟩ : Ctx) [(1, vT name_), (5, .map (some b2)), (7, vP b20 0), (15, sl Ap01 (d_) cp01), (16, vI ((((d_).length : Nat) : Int))), (17, vI (((t_8 : Nat) : Int))), (34, sl Aq192 (x15.Supers) cq192), (35, vI ((((x15.Supers).length : Nat) : Int))), (36, vI (((t_29 : Nat) : Int)))] [(1102, Ob.mrows b2 9 1 (kv28) none), (1402, Ob.box b20 [vT (x15.Name), sl Aq192 (x15.Supers) cq192, sl Aq193 (x15.Feats) cq193] 40)] [(101, slF RTypeDecl (Ap01) ((d_).length) (cp01) (d_)), (109, slF Rep.str (Aq192) ((x15.Supers).length) (cq192) (x15.Supers)), (110, slF RFeatDecl (Aq193) ((x15.Feats).length) (cq193) (x15.Feats)), (120, rowsF Rep.str (kv28) (to_27))] a w) (fun m2 => m2) n ⟨(to_22), (0), (kv23), hg, (s.sb rfl rfl rfl)⟩ ?_
    clear s a; rintro m2 a w ⟨to_27, t_29, kv28, hg, s⟩
    rcases m2 with _ | m2
    ·rw [poset_Below_L1] at hg; cases hg
    rw [poset_Below_L1] at hg
    apply wR
    refine qq s rfl (y_lssN (i := t_29) (j := ((x15.Supers).length)) s rfl rfl) fun a s => ?_
    apply wN
    apply wQ
    refine c_dec s rfl (fun hc30 => ?_) (fun hc30 => ?_)
    ·replace hg := br_t hg hc30
     have hmx31 := SlR.mx (s.ft 109 rfl)
     apply wp_skip
     apply pN
     apply wQ
     apply wp_block
     apply wQ
     obtain ⟨x33, hx33, hg⟩ := bind_some hg
     apply wL
     obtain ⟨p35, hep35, hpp35⟩ := SlR.elemX (s.ft 109 rfl) hx33
     refine qq s rfl (y_elem (sz := 1) (i := t_29) s rfl rfl underlying27 rfl hep35 rfl (lt_of_get hx33)) fun a s => ?_
     obtain ⟨hlq36, hmq36, csq36, hdq36, hcq36⟩ := hpp35
     obtain ⟨rfl, lq361⟩ := hdq36
     refine qq s rfl (y_ldp1 s rfl hlq36 hmq36 (hcq36 0 _ rfl) underlying9 rfl) fun a s => ?_
     refine asg s rfl rfl fun a s => ?_
     apply wN
     obtain ⟨hk39, hg⟩ := chk_some hg
     apply wL
     refine mv s rfl rfl fun a s => ?_
     refine mv s rfl rfl fun a s => ?_
     refine mv s rfl rfl fun a s => ?_
     refine mv s rfl rfl fun a s => ?_
     obtain ⟨At42, ct42, cst42, hvt42, hrt42, hS'⟩ := s.takeRowX (R := Rep.str) (kk := 1102) (kr := 400126) x33 rfl rfl (s.ft 120 rfl) rfl; clear s; have s := hS'; clear hS'
     replace s := s.add 127 (rdF Rep.str cst42 ((mget to_27 x33).getD [])) hrt42
     refine qq s rfl (y_lookupRowsV (kk := 1102) s rfl rfl rfl underlying49 underlying9 rfl hvt42) fun a s => ?_
     refine qq s rfl (y_boxField (o' := 0) s rfl underlying40 rfl rfl rfl) fun a s => ?_
     refine qq s rfl (y_loadBox1 (kk := 1402) s rfl rfl rfl underlying9 rfl) fun a s => ?_
     refine l_seq rfl (l_buildDense (sz := 1) s 2107 rfl rfl rfl underlying27 rfl rfl rfl rfl rfl rfl rfl fun b43 a w hbb43 hK s => ?_)
     clear hbb43
     replace s := s.add 128 (rdF Rep.str (cellsOfL [vT (x15.Name)]) ([x15.Name])) (RdAll.cons (by exact ⟨rfl, (by omega)⟩) (RdAll.nil _ _ _))
     have hs45 := row_src (s.wd.holds 2107 _ rfl) (RdAll.one (s.ft 128 rfl))
     refine l_seq rfl (l_append (sz := 1) (by_ := 16) (N := (((mget to_27 x33).getD []) ++ [x15.Name]).length) (ys := cst42 ++ (cellsOfL [vT (x15.Name)])) s 400126 rfl rfl rfl underlying27 rfl rfl rfl rfl rfl hs45 (by first | (simp; done) | (simp; omega)) rfl (by have hr := hk39; clear hg; first | omega | (simp only [List.length_append, List.length_cons, List.length_nil] at hr ⊢; omega) | (simp at hr ⊢; omega)) (by have hr := hk39; clear hg; first | omega | (simp only [List.length_append, List.length_cons, List.length_nil] at hr ⊢; omega) | (simp at hr ⊢; omega)) rfl fun Aq44 cq44 a w hA hK s => ?_)
     replace s := s.add 129 (rdF Rep.str (cst42 ++ (cellsOfL [vT (x15.Name)])) (((mget to_27 x33).getD []) ++ [x15.Name])) (RdAll.append (s.ft 127 rfl) (s.ft 128 rfl))
     refine l_seq rfl (l_putRow (r := ⟨Aq44, (((mget to_27 x33).getD []) ++ [x15.Name]).length, cq44, cst42 ++ (cellsOfL [vT (x15.Name)])⟩) (L' := [(1102, Ob.mrows b2 9 1 (kv28) (some (x33))), (1402, Ob.box b20 [vT (x15.Name), sl Aq192 (x15.Supers) cq192, sl Aq193 (x15.Feats) cq193] 40), (2107, Ob.row (some ⟨b43, 0, none⟩) (1) (1) 9 1 (cellsOfL [vT (x15.Name)]))]) s 1102 400126 rfl rfl rfl rfl rfl rfl ⟨rfl, rfl, rfl, trivial⟩ rfl underlying49 underlying9 fun w hK s => ?_)
     replace s := s.add 130 (rowsF Rep.str (mset (kv28) (x33) ⟨Aq44, (((mget to_27 x33).getD []) ++ [x15.Name]).length, cq44, cst42 ++ (cellsOfL [vT (x15.Name)])⟩) (mset (to_27) (x33) (((mget to_27 x33).getD []) ++ [x15.Name]))) (rowsF_set (r := ⟨Aq44, (((mget to_27 x33).getD []) ++ [x15.Name]).length, cq44, cst42 ++ (cellsOfL [vT (x15.Name)])⟩) (s.ft 120 rfl) (s.ft 129 rfl))
     apply wO
     refine p_inN ?_
     apply pN
     apply wL
     refine qq s rfl (y_addN (i := t_29) (j := 1) s rfl rfl (in64.2 (by omega))) fun a s => ?_
     refine mv s rfl rfl fun a s => ?_
     apply wN
     replace s := s.add 120 (rowsF Rep.str (mset (kv28) (x33) ⟨Aq44, (((mget to_27 x33).getD []) ++ [x15.Name]).length, cq44, cst42 ++ (cellsOfL [vT (x15.Name)])⟩) (mset (to_27) (x33) (((mget to_27 x33).getD []) ++ [x15.Name]))) (s.ft 130 rfl)
     exact ⟨m2, Nat.lt_succ_self _, ⟨(mset (to_27) (x33) (((mget to_27 x33).getD []) ++ [x15.Name])), (t_29 + 1), (mset (kv28) (x33) ⟨Aq44, (((mget to_27 x33).getD []) ++ [x15.Name]).length, cq44, cst42 ++ (cellsOfL [vT (x15.Name)])⟩), hg, (s.sb rfl rfl rfl)⟩⟩
    replace hg := br_f hg hc30
    apply wp_exit
    refine p_then ?_
    refine p_then ?_
    refine p_in ?_
    refine p_inN ?_
    apply pN
    replace s := s.al 106 120 rfl
    exact ⟨(to_27), (kv28), hg, (s.sb rfl rfl rfl)⟩
   clear s a; rintro a w ⟨to_12, kv13, hg, s⟩
   subst hk11
   apply wL
   refine qq s rfl (y_addN (i := t_8) (j := 1) s rfl rfl (in64.2 (by omega))) fun a s => ?_
   refine mv s rfl rfl fun a s => ?_
   apply wN
   replace s := s.al 105 106 rfl
   exact ⟨m1, Nat.lt_succ_self _, ⟨(to_12), (t_8 + 1), (kv13), hg, (s.sb rfl rfl rfl)⟩⟩
  replace hg := br_f hg hc9
  apply wp_exit
  refine p_then ?_
  refine p_then ?_
  refine p_in ?_
  apply pN
  replace s := s.al 104 105 rfl
  exact ⟨(to_6), (kv7), hg, (s.sb rfl rfl rfl)⟩
 clear s a; rintro a w ⟨to_4, kv5, hg, s⟩
 subst hk3
 apply wQ
 obtain ⟨r46, hr46, hg⟩ := bind_some hg
 apply wL
 refine mv s rfl rfl fun a s => ?_
 refine mv s rfl rfl fun a s => ?_
 replace s := s.freezeRows (R := Rep.str) (L' := []) 133 1102 rfl (s.ft 104 rfl) rfl trivial rfl
 refine l_seq rfl (l_call (cap := []) s rfl func40 rfl (by kernel_rfl) rfl rfl (c_poset_reach n _ _ s.lt to_4 b2 (s.ft 133 rfl) name_ (by omega) r46 hr46) fun v49 a w hK hp s => ?_)
 obtain ⟨Au50a1, cu50a1, rfl, hu50a1⟩ := hp
 replace s := s.ns 134 hu50a1
 refine asg s rfl rfl fun a s => ?_
 apply wN
 apply wp_ret
 obtain rfl := Option.some.inj hg
 refine fin1 (fn := Try.f22) s rfl (r_tmp s rfl) ?_
 exact ⟨(Au50a1), (cu50a1), rfl, (s.out (k := 134) rfl)⟩
set_option maxHeartbeats 400000 in
theorem c_poset_declared (n : Nat) (M : Bs) (w0 : World) (hM : ∀ b, M b → b < w0.heap.size) (d_ : (List TypeDecl)) (Ap01 : Option Addr) (cp01 : Nat) (hp01 : SlR RTypeDecl M w0 Ap01 (d_).length cp01 (d_)) (l_ : (List (List UInt8))) (Ap11 : Option Addr) (cp11 : Nat) (hp11 : SlR Rep.str M w0 Ap11 (l_).length cp11 (l_)) (r : (List (List UInt8))) (hg : poset_declared n d_ l_ = some r) :
    Calls Try.prog 43 [.slice (Ap01) ((d_).length) (cp01), .slice (Ap11) ((l_).length) (cp11)].toArray w0 (Ret noB w0 fun v w => ∃ (Ao : Option Addr), ∃ (co : Nat), ∃ (cso : List Value), v = .slice (Ao) ((r).length) (co) ∧ ((Ob.row Ao (r).length co 9 1 cso).holds w) ∧ (∀ b, (Ob.row Ao (r).length co 9 1 cso).ids b → w0.heap.size ≤ b) ∧ (RdAll Rep.str (fun b => M b ∨ (Ob.row Ao (r).length co 9 1 cso).ids b) w cso (r))) := by
 unfold poset_declared at hg
 refine enter M noB func43 rfl rfl hM ?_
 intro a s
 replace s := s.es 101 hp01
 replace s := s.es 102 hp11
 apply wR
 refine asg s rfl rfl fun a s => ?_
 apply wN
 apply wQ
 obtain ⟨r1, hr1, hg⟩ := bind_some hg
 apply wL
 refine mv s rfl rfl fun a s => ?_
 refine l_seq rfl (l_call (cap := []) s rfl func41 rfl (by kernel_rfl) rfl rfl (c_poset_supers n _ _ s.lt d_ (Ap01) (cp01) (s.ft 101 rfl) r1 hr1) fun v4 a w hK hp s => ?_)
 obtain ⟨bu5a1, rfl, hu5a1⟩ := hp
 replace s := s.add 104 (mapRF (Rep.list Rep.str) bu5a1 (r1)) hu5a1
 refine asg s rfl rfl fun a s => ?_
 apply wN
 apply wR
 refine asg s rfl rfl fun a s => ?_
 apply wN
 apply wQ
 apply wR
 refine mv s rfl rfl fun a s => ?_
 refine qq s rfl (y_lenSlice s rfl underlying27) fun a s => ?_
 refine mv s rfl rfl fun a s => ?_
 apply wN
 obtain ⟨k6, hg, hk6⟩ := jn_some hg
 refine c_post (fun a w => ∃ (out_7 : (List (List UInt8))) (A8 : Option Addr) (c9 : Nat) (cs10 : List Value), k6 out_7 = some r ∧ St (⟨Try.f43.ntmps, M, noB, w0⟩ : Ctx) [(6, sl A8 (out_7) c9)] [(700105, Ob.row (A8) ((out_7).length) (c9) 9 1 (cs10))] [(106, rdF Rep.str (cs10) (out_7))] a w) ?_ ?_
 ·apply wp_block
  replace s := s.nilRow 700107 9 1 rfl
  replace s := s.add 108 (rdF Rep.str [] []) (RdAll.nil _ _ _)
  refine c_loop (σ := Nat) (fun m1 a w => ∃ (out_11 : (List (List UInt8))) (t_15 : Nat) (A12 : Option Addr) (c13 : Nat) (cs14 : List Value), poset_declared_L0 n l_ r1 k6 m1 out_11 t_15 = some r ∧ St (⟨Try.f43.ntmps, M, noB, w0⟩ : Ctx) [(5, .map (some bu5a1)), (6, sl A12 (out_11) c13), (13, sl Ap11 (l_) cp11), (14, vI ((((l_).length : Nat) : Int))), (15, vI (((t_15 : Nat) : Int)))] [(700107, Ob.row (A12) ((out_11).length) (c13) 9 1 (cs14))] [(102, slF Rep.str (Ap11) ((l_).length) (cp11) (l_)), (104, mapRF (Rep.list Rep.str) bu5a1 (r1)), (108, rdF Rep.str (cs14) (out_11))] a w) (fun m1 => m1) n ⟨([]), (0), (none), (0), ([]), hg, (s.sb rfl rfl rfl)⟩ ?_
  clear s a; rintro m1 a w ⟨out_11, t_15, A12, c13, cs14, hg, s⟩
  rcases m1 with _ | m1
  ·rw [poset_declared_L0] at hg; cases hg
  rw [poset_declared_L0] at hg
  apply wR
  refine qq s rfl (y_lssN (i := t_15) (j := ((l_).length)) s rfl rfl) fun a s => ?_
  apply wN
  apply wQ
  refine c_dec s rfl (fun hc16 => ?_) (fun hc16 => ?_)
  ·replace hg := br_t hg hc16
   have hmx17 := SlR.mx (s.ft 102 rfl)
   apply wp_skip
   apply pN
   apply wQ
   apply wp_block
   apply wQ
   obtain ⟨x19, hx19, hg⟩ := bind_some hg
   apply wL
   obtain ⟨p21, hep21, hpp21⟩ := SlR.elemX (s.ft 102 rfl) hx19
   refine qq s rfl (y_elem (sz := 1) (i := t_15) s rfl rfl underlying27 rfl hep21 rfl (lt_of_get hx19)) fun a s => ?_
   obtain ⟨hlq22, hmq22, csq22, hdq22, hcq22⟩ := hpp21
   obtain ⟨rfl, lq221⟩ := hdq22
   refine qq s rfl (y_ldp1 s rfl hlq22 hmq22 (hcq22 0 _ rfl) underlying9 rfl) fun a s => ?_
   refine asg s rfl rfl fun a s => ?_
   apply wN
   apply wR
   refine mv s rfl rfl fun a s => ?_
   refine mv s rfl rfl fun a s => ?_
   obtain ⟨kvm24, hmm24, hfm24⟩ := mapRF_open (s.ft 104 rfl)
   have hm24 := kvF_getD (R := (Rep.list Rep.str)) (k := x19) (z := .slice (none) (0) (0)) (zx := []) hfm24 (by exact ⟨_, _, _, rfl, (SlR.nil_ _ _ _)⟩)
   obtain ⟨Am241, nnm24, cm241, em24, hm241⟩ := hm24
   obtain rfl := hm241.len
   replace s := s.ns 110 hm241
   refine qq s rfl (y_lookupOkFV s rfl rfl hmm24 underlying49 underlying9 rfl em24 (kvF_isSome hfm24)) fun a s => ?_
   refine mv s rfl rfl fun a s => ?_
   refine qq s rfl (y_extract s rfl rfl) fun a s => ?_
   refine qq s rfl (y_extract s rfl rfl) fun a s => ?_
   refine asg s rfl rfl fun a s => ?_
   refine asg s rfl rfl fun a s => ?_
   apply wN
   apply wR
   refine mv s rfl rfl fun a s => ?_
   apply wN
   refine c_cond s rfl (fun hc25 => ?_) (fun hc25 => ?_)
   ·replace hg := br_t hg hc25
    obtain ⟨hk27, hg⟩ := chk_some hg
    apply wL
    refine mv s rfl rfl fun a s => ?_
    refine mv s rfl rfl fun a s => ?_
    refine l_seq rfl (l_buildDense (sz := 1) s 1802 rfl rfl rfl underlying27 rfl rfl rfl rfl rfl rfl rfl fun b30 a w hbb30 hK s => ?_)
    clear hbb30
    replace s := s.add 113 (rdF Rep.str (cellsOfL [vT x19]) ([x19])) (RdAll.cons (by exact ⟨rfl, (by omega)⟩) (RdAll.nil _ _ _))
    have hs32 := row_src (s.wd.holds 1802 _ rfl) (RdAll.one (s.ft 113 rfl))
    refine l_seq rfl (l_append (sz := 1) (by_ := 16) (N := (out_11 ++ [x19]).length) (ys := cs14 ++ (cellsOfL [vT x19])) s 700107 rfl rfl rfl underlying27 rfl rfl rfl rfl rfl hs32 (by first | (simp; done) | (simp; omega)) rfl (by have hr := hk27; clear hg; first | omega | (simp only [List.length_append, List.length_cons, List.length_nil] at hr ⊢; omega) | (simp at hr ⊢; omega)) (by have hr := hk27; clear hg; first | omega | (simp only [List.length_append, List.length_cons, List.length_nil] at hr ⊢; omega) | (simp at hr ⊢; omega)) rfl fun Aq31 cq31 a w hA hK s => ?_)
    replace s := s.add 114 (rdF Rep.str (cs14 ++ (cellsOfL [vT x19])) (out_11 ++ [x19])) (RdAll.append (s.ft 108 rfl) (s.ft 113 rfl))
    refine asg s rfl rfl fun a s => ?_
    apply wO
    refine p_inN ?_
    apply pN
    apply wL
    refine qq s rfl (y_addN (i := t_15) (j := 1) s rfl rfl (in64.2 (by omega))) fun a s => ?_
    refine mv s rfl rfl fun a s => ?_
    apply wN
    replace s := s.add 108 (rdF Rep.str (cs14 ++ (cellsOfL [vT x19])) (out_11 ++ [x19])) (s.ft 114 rfl)
    exact ⟨m1, Nat.lt_succ_self _, ⟨(out_11 ++ [x19]), (t_15 + 1), (Aq31), (cq31), (cs14 ++ (cellsOfL [vT x19])), hg, (s.sb rfl rfl rfl)⟩⟩
   replace hg := br_n hg hc25
   apply wp_skip
   refine p_inN ?_
   apply pN
   apply wL
   refine qq s rfl (y_addN (i := t_15) (j := 1) s rfl rfl (in64.2 (by omega))) fun a s => ?_
   refine mv s rfl rfl fun a s => ?_
   apply wN
   replace s := s.al 108 108 rfl
   exact ⟨m1, Nat.lt_succ_self _, ⟨(out_11), (t_15 + 1), (A12), (c13), (cs14), hg, (s.sb rfl rfl rfl)⟩⟩
  replace hg := br_f hg hc16
  apply wp_exit
  refine p_then ?_
  refine p_then ?_
  refine p_in ?_
  apply pN
  replace s := s.al 106 108 rfl
  replace s := s.pk [(700105, 700107)] (by decide)
  exact ⟨(out_11), (A12), (c13), (cs14), hg, (s.sb rfl rfl rfl)⟩
 clear s a; rintro a w ⟨out_7, A8, c9, cs10, hg, s⟩
 subst hk6
 apply wQ
 obtain ⟨r33, hr33, hg⟩ := bind_some hg
 apply wL
 refine mv s rfl rfl fun a s => ?_
 have hT := s.pk [(9200000, 700105)] (by decide)
 replace hT := hT.al 9300000 106 rfl
 refine l_seq rfl (l_callMut (cap := []) hT _ [] (sbA (by rfl)) trivial (by rfl) rfl func57 rfl (by kernel_rfl) rfl rfl (c_slices_Sort_string n _ _ (hT.restLt []) _ out_7 (A8) (c9) (cs10) (hT.wd.lendL _ _ _ (sbA (by rfl)) (keep_sub []) (by rfl) (sbA (by rfl))) r33 hr33) ?_); intro v36 a' w' hK hp hF
 obtain ⟨csm0_0u37, rfl, hWu37⟩ := hp
 have hS2 := St.mk hF (hT.wd.back (sbA (by rfl)) (keep_sub []) (by rfl) hWu37 (by rfl))
 clear s hT hF hWu37 hK; revert hS2; revert w'; revert a'; intro a w s
 replace s := s.al 116 9300000 rfl
 replace s := s.ren [(700105, Ob.row (A8) ((out_7).length) (c9) 9 1 (csm0_0u37))] [9200000] ⟨rfl, trivial⟩ (by decide)
 replace s := s.sub (l' := [(6, .slice (A8) ((out_7).length) (c9)), (31, .slice (A8) ((out_7).length) (c9)), (32, .tuple #[])]) (L' := [(700105, Ob.row (A8) ((out_7).length) (c9) 9 1 (csm0_0u37))]) (D' := [(106, rdF Rep.str (cs10) (out_7)), (116, rdF Rep.str (csm0_0u37) (r33))]) ⟨rfl, rfl, rfl, trivial⟩ ⟨rfl, trivial⟩ ⟨rfl, rfl, trivial⟩
 have hrlu370 := rowN (s.wd.holds 700105 _ rfl) (s.ft 116 rfl) rfl rfl
 replace s := s.eqs (l' := [(6, .slice (A8) ((r33).length) (c9)), (31, .slice (A8) ((r33).length) (c9)), (32, .tuple #[])]) (L' := [(700105, Ob.row (A8) ((r33).length) (c9) 9 1 (csm0_0u37))]) (by simp only [hrlu370]) (by simp only [hrlu370])
 apply wN
 apply wQ
 obtain ⟨r38, hr38, hg⟩ := bind_some hg
 apply wL
 refine mv s rfl rfl fun a s => ?_
 have hT := s.pk [(9200000, 700105)] (by decide)
 replace hT := hT.al 9300000 116 rfl
 refine l_seq rfl (l_callMut (cap := []) hT _ [] (sbA (by rfl)) trivial (by rfl) rfl func58 rfl (by kernel_rfl) rfl rfl (c_slices_Compact_string n _ _ (hT.restLt []) _ r33 (A8) (c9) (csm0_0u37) (hT.wd.lendL _ _ _ (sbA (by rfl)) (keep_sub []) (by rfl) (sbA (by rfl))) r38 hr38) ?_); intro v41 a' w' hK hp hF
 obtain ⟨Aou42, cou42, csou42, rfl, hWu42⟩ := hp
 have hS2 := St.mk hF (hT.wd.back (sbA (by rfl)) (keep_sub []) (by rfl) hWu42 (by rfl))
 clear s hT hF hWu42 hK; revert hS2; revert w'; revert a'; intro a w s
 replace s := s.al 118 9300000 rfl
 replace s := s.ren [(700105, Ob.row (Aou42) ((r38).length) (cou42) 9 1 (csou42))] [9200000] ⟨rfl, trivial⟩ (by decide)
 refine asg s rfl rfl fun a s => ?_
 apply wN
 apply wp_ret
 obtain rfl := Option.some.inj hg
 refine fin1 (fn := Try.f43) s rfl (r_tmp s rfl) ?_
 exact ⟨(Aou42), (cou42), (csou42), rfl, (s.wd.holds 700105 _ rfl), (row_new s (kk := 700105) rfl rfl), (RdAll.own s (kk := 700105) rfl (s.ft 118 rfl))⟩
set_option maxHeartbeats 400000 in
theorem c_poset_Maximal_1 (n : Nat) (M : Bs) (w0 : World) (hM : ∀ b, M b → b < w0.heap.size) (x_ : (List UInt8)) (lp01 : (x_).length ≤ 9223372036854775807) (bf0 : Nat) (c0_ : (List UInt8)) (lf01 : (c0_).length ≤ 9223372036854775807) (hb0 : BoxR bf0 [.string (bs (c0_))] 9 M w0) (bf1 : Nat) (c1_ : (List (List UInt8))) (Af11 : Option Addr) (cf11 : Nat) (hf11 : SlR Rep.str M w0 Af11 (c1_).length cf11 (c1_)) (hb1 : BoxR bf1 [.slice (Af11) ((c1_).length) (cf11)] 27 M w0) (r : Bool) (hg : poset_Maximal_1 n x_ c0_ c1_ = some r) :
    Calls Try.prog 44 [.string (bs (x_)), .pointer (some ⟨bf0, 0, none⟩), .pointer (some ⟨bf1, 0, none⟩)].toArray w0 (Ret noB w0 fun v w => v = .bool (r)) := by
 unfold poset_Maximal_1 at hg
 refine enter M noB func44 rfl rfl hM ?_
 intro a s
 replace s := s.ebx 101 hb0
 replace s := s.es 102 hf11
 replace s := s.ebx 103 hb1
 apply wR
 refine asg s rfl rfl fun a s => ?_
 apply wN
 apply wQ
 rcases Decidable.em ((x_ : List UInt8) ≠ c0_) with hs1 | hs1
 ·have hs1e := decide_eq_true hs1
  replace hg := br_t hg hs1
  obtain ⟨r2, hr2, hg⟩ := bind_some hg
  apply wL
  refine mv s rfl rfl fun a s => ?_
  refine qq s rfl (y_loadF1 s rfl (s.ft 101 rfl) rfl underlying9 rfl) fun a s => ?_
  refine qq s rfl (yl_b (y_sne s rfl rfl) hs1e) fun a s => ?_
  refine mv s rfl rfl fun a s => ?_
  refine gy s rfl (y_loadF1 s rfl (s.ft 103 rfl) rfl underlying27 rfl) fun a s => ?_
  refine gm s rfl rfl fun a s => ?_
  refine gl s rfl (l_call (cap := []) s rfl func45 rfl (by kernel_rfl) rfl rfl (c_slices_Contains_string n _ _ s.lt c1_ (Af11) (cf11) (s.ft 102 rfl) x_ (by omega) r2 hr2) fun v5 a w hK hp s => ?_)
  obtain rfl := hp
  refine qq s rfl (y_pick_t s rfl rfl) fun a s => ?_
  refine asg s rfl rfl fun a s => ?_
  apply wN
  apply wp_ret
  obtain rfl := Option.some.inj hg
  refine fin1 (fn := Try.f44) s rfl (r_tmp s rfl) ?_
  exact rfl
 have hs1e := decide_eq_false hs1
 replace hg := br_f hg hs1
 apply wL
 refine mv s rfl rfl fun a s => ?_
 refine qq s rfl (y_loadF1 s rfl (s.ft 101 rfl) rfl underlying9 rfl) fun a s => ?_
 refine qq s rfl (yl_b (y_sne s rfl rfl) hs1e) fun a s => ?_
 refine mv s rfl rfl fun a s => ?_
 refine gn s rfl fun a s => ?_
 refine gn s rfl fun a s => ?_
 refine gn s rfl fun a s => ?_
 refine qq s rfl (y_pick_f s rfl rfl) fun a s => ?_
 refine asg s rfl rfl fun a s => ?_
 apply wN
 apply wp_ret
 obtain rfl := Option.some.inj hg
 refine fin1 (fn := Try.f44) s rfl (r_tmp s rfl) ?_
 exact rfl
end Go.Proofs.Ytoeolfnjblibpaa

/- Chapter 37: the walks, part 3 -/
import Derived.Test.YthgdajiipojnoaaGreatDoorW2
namespace Go.Proofs.YthgdajiipojnoaaGreatDoor
open Go.Gl Go.RowKit Tryz
set_option linter.unusedVariables false
set_option linter.unusedSimpArgs false
set_option maxRecDepth 4000

set_option maxHeartbeats 400000 in
theorem c_slices_CompareFunc_Deriv (n : Nat) (M : Bs) (w0 : World) (hM : ∀ b, M b → b < w0.heap.size) (s1_ : (List Deriv)) (Ap01 : Option Addr) (cp01 : Nat) (hp01 : SlR RDeriv M w0 Ap01 (s1_).length cp01 (s1_)) (s2_ : (List Deriv)) (Ap11 : Option Addr) (cp11 : Nat) (hp11 : SlR RDeriv M w0 Ap11 (s2_).length cp11 (s2_)) (cmp_ : ((Deriv × Deriv) → Option Int)) (Ap21 : FuncId) (cp21 : List Value) (hp21 : FnR Tryz.prog Ap21 cp21 pre48 post48 (cmp_) M w0) (r : Int) (hg : slices_CompareFunc_Deriv n s1_ s2_ cmp_ = some r) :
    Calls Tryz.prog 29 [.slice (Ap01) ((s1_).length) (cp01), .slice (Ap11) ((s2_).length) (cp11), .func (.func Ap21) #[] (List.toArray cp21)].toArray w0 (Ret noB w0 fun v w => v = .int .i64 (r)) := by
 unfold slices_CompareFunc_Deriv at hg
 refine enter M noB func29 rfl rfl hM ?_
 intro a s
 replace s := s.es 101 hp01
 replace s := s.es 102 hp11
 replace s := s.add 103 (fnF Tryz.prog Ap21 cp21 pre48 post48 (cmp_)) (by exact Fact.change _ enterM hp21)
 apply wR
 refine asg s rfl rfl fun a s => ?_
 apply wN
 apply wQ
 apply wR
 refine mv s rfl rfl fun a s => ?_
 refine qq s rfl (y_lenSlice s rfl underlying35) fun a s => ?_
 refine mv s rfl rfl fun a s => ?_
 apply wN
 obtain ⟨k1, hg, hk1⟩ := jn_some hg
 refine c_post (fun a w => k1 = some r ∧ St (⟨Tryz.f29.ntmps, M, noB, w0⟩ : Ctx) [(0, sl Ap01 (s1_) cp01), (1, sl Ap11 (s2_) cp11)] [] [(101, slF RDeriv (Ap01) ((s1_).length) (cp01) (s1_)), (102, slF RDeriv (Ap11) ((s2_).length) (cp11) (s2_))] a w) ?_ ?_
 ·apply wp_block
  refine c_loop (σ := Nat) (fun m1 a w => ∃ (t_2 : Nat), slices_CompareFunc_Deriv_L0 n s1_ s2_ cmp_ k1 m1 t_2 = some r ∧ St (⟨Tryz.f29.ntmps, M, noB, w0⟩ : Ctx) [(0, sl Ap01 (s1_) cp01), (1, sl Ap11 (s2_) cp11), (2, .func (.func Ap21) #[] (List.toArray cp21)), (11, sl Ap01 (s1_) cp01), (12, vI ((((s1_).length : Nat) : Int))), (13, vI (((t_2 : Nat) : Int)))] [] [(101, slF RDeriv (Ap01) ((s1_).length) (cp01) (s1_)), (102, slF RDeriv (Ap11) ((s2_).length) (cp11) (s2_)), (103, fnF Tryz.prog Ap21 cp21 pre48 post48 (cmp_))] a w) (fun m1 => m1) n ⟨(0), hg, (s.sb rfl rfl rfl)⟩ ?_
  clear s a; rintro m1 a w ⟨t_2, hg, s⟩
  rcases m1 with _ | m1
  ·rw [slices_CompareFunc_Deriv_L0] at hg; cases hg
  rw [slices_CompareFunc_Deriv_L0] at hg
  apply wR
  refine qq s rfl (y_lssN (i := t_2) (j := ((s1_).length)) s rfl rfl) fun a s => ?_
  apply wN
  apply wQ
  refine c_dec s rfl (fun hc3 => ?_) (fun hc3 => ?_)
  ·replace hg := br_t hg hc3
   have hmx4 := SlR.mx (s.ft 101 rfl)
   apply wp_skip
   apply pN
   apply wQ
   apply wp_block
   apply wQ
   obtain ⟨x6, hx6, hg⟩ := bind_some hg
   apply wL
   refine mv s rfl rfl fun a s => ?_
   obtain ⟨p9, hep9, hpp9⟩ := SlR.elemX (s.ft 101 rfl) hx6
   refine qq s rfl (y_elem (sz := 5) (i := t_2) s rfl rfl underlying35 rfl hep9 rfl (lt_of_get hx6)) fun a s => ?_
   obtain ⟨hlq10, hmq10, csq10, hdq10, hcq10⟩ := hpp9
   obtain ⟨Aq105, cq105, rfl, lq102, hq105⟩ := RDeriv.open hdq10
   replace s := s.ns 105 hq105
   refine qq s rfl (y_ldp s rfl hlq10 hmq10 (by simpa using hcq10) underlying42 rfl rfl) fun a s => ?_
   refine l_seq rfl (l_alloc (zs := [vI 0, vT ([]), vI 0, vI 0, .slice (none) (0) (0)]) s 1303 rfl rfl rfl rfl fun b11 a w hb hK s => ?_)
   refine asg s rfl rfl fun a s => ?_
   refine l_seq rfl (l_store (n := 5) (cs' := [vI (x6.Kind), vT (x6.Name), vI (x6.From), vI (x6.To), sl Aq105 (x6.Kids) cq105]) s 1303 rfl rfl rfl rfl rfl rfl rfl rfl ?_); clear s; intro w hK s; clear hK
   apply wN
   apply wQ
   apply wR
   refine mv s rfl rfl fun a s => ?_
   refine mv s rfl rfl fun a s => ?_
   refine qq s rfl (y_lenSlice s rfl underlying35) fun a s => ?_
   refine qq s rfl (y_geqN (i := t_2) (j := ((s2_).length)) s rfl rfl) fun a s => ?_
   apply wN
   refine c_dec s rfl (fun hc12 => ?_) (fun hc12 => ?_)
   ·replace hg := br_t hg hc12
    apply wR
    refine asg s rfl rfl fun a s => ?_
    apply wN
    apply wp_ret
    refine p_thenR ?_
    refine p_inR ?_
    refine p_thenR ?_
    refine p_thenR ?_
    refine p_inR ?_
    refine p_thenR ?_
    obtain rfl := Option.some.inj hg
    refine fin1 (fn := Tryz.f29) s rfl (r_tmp s rfl) ?_
    exact rfl
   replace hg := br_f hg hc12
   apply wp_skip
   apply pN
   apply wQ
   obtain ⟨x14, hx14, hg⟩ := bind_some hg
   apply wL
   refine mv s rfl rfl fun a s => ?_
   refine mv s rfl rfl fun a s => ?_
   obtain ⟨p17, hep17, hpp17⟩ := SlR.elemX (s.ft 102 rfl) hx14
   refine qq s rfl (y_elem (sz := 5) (i := t_2) s rfl rfl underlying35 rfl hep17 rfl (lt_of_get hx14)) fun a s => ?_
   obtain ⟨hlq18, hmq18, csq18, hdq18, hcq18⟩ := hpp17
   obtain ⟨Aq185, cq185, rfl, lq182, hq185⟩ := RDeriv.open hdq18
   replace s := s.ns 107 hq185
   refine qq s rfl (y_ldp s rfl hlq18 hmq18 (by simpa using hcq18) underlying42 rfl rfl) fun a s => ?_
   refine l_seq rfl (l_alloc (zs := [vI 0, vT ([]), vI 0, vI 0, .slice (none) (0) (0)]) s 1604 rfl rfl rfl rfl fun b19 a w hb hK s => ?_)
   refine l_seq rfl (l_store (n := 5) (cs' := [vI (x14.Kind), vT (x14.Name), vI (x14.From), vI (x14.To), sl Aq185 (x14.Kids) cq185]) s 1604 rfl rfl rfl rfl rfl rfl rfl rfl ?_); clear s; intro w hK s; clear hK
   apply wN
   apply wQ
   obtain ⟨r20, hr20, hg⟩ := bind_some hg
   apply wL
   refine mv s rfl rfl fun a s => ?_
   refine qq s rfl (y_loadAll (kk := 1303) s rfl rfl underlying42 rfl rfl) fun a s => ?_
   refine qq s rfl (y_loadAll (kk := 1604) s rfl rfl underlying42 rfl rfl) fun a s => ?_
   refine l_seq rfl (l_callFn (cap := cp21) (x := (x6, x14)) s rfl (s.ft 103 rfl) rfl rfl ⟨(Aq105), (cq105), (Aq185), (cq185), rfl, (by omega), (s.ft 105 rfl), (by omega), (s.ft 107 rfl)⟩ hr20 fun v23 a w hK hp s => ?_)
   obtain rfl := hp
   refine asg s rfl rfl fun a s => ?_
   apply wN
   apply wR
   refine mv s rfl rfl fun a s => ?_
   refine qq s rfl (y_neq s rfl rfl) fun a s => ?_
   apply wN
   refine c_dec s rfl (fun hc25 => ?_) (fun hc25 => ?_)
   ·replace hg := br_t hg hc25
    apply wR
    refine mv s rfl rfl fun a s => ?_
    refine asg s rfl rfl fun a s => ?_
    apply wN
    apply wp_ret
    refine p_inR ?_
    refine p_thenR ?_
    refine p_thenR ?_
    refine p_inR ?_
    refine p_thenR ?_
    obtain rfl := Option.some.inj hg
    refine fin1 (fn := Tryz.f29) s rfl (r_tmp s rfl) ?_
    exact rfl
   replace hg := br_f hg hc25
   apply wp_skip
   refine p_inN ?_
   apply pN
   apply wL
   refine qq s rfl (y_addN (i := t_2) (j := 1) s rfl rfl (in64.2 (by omega))) fun a s => ?_
   refine mv s rfl rfl fun a s => ?_
   apply wN
   exact ⟨m1, Nat.lt_succ_self _, ⟨(t_2 + 1), hg, (s.sb rfl rfl rfl)⟩⟩
  replace hg := br_f hg hc3
  apply wp_exit
  refine p_then ?_
  refine p_then ?_
  refine p_in ?_
  apply pN
  exact ⟨hg, (s.sb rfl rfl rfl)⟩
 clear s a; rintro a w ⟨hg, s⟩
 subst hk1
 apply wQ
 apply wR
 refine mv s rfl rfl fun a s => ?_
 refine qq s rfl (y_lenSlice s rfl underlying35) fun a s => ?_
 refine mv s rfl rfl fun a s => ?_
 refine qq s rfl (y_lenSlice s rfl underlying35) fun a s => ?_
 refine qq s rfl (y_lssN (i := ((s1_).length)) (j := ((s2_).length)) s rfl rfl) fun a s => ?_
 apply wN
 refine c_dec s rfl (fun hc26 => ?_) (fun hc26 => ?_)
 ·replace hg := br_t hg hc26
  have hmx27 := SlR.mx (s.ft 102 rfl)
  apply wR
  refine asg s rfl rfl fun a s => ?_
  apply wN
  apply wp_ret
  refine p_thenR ?_
  obtain rfl := Option.some.inj hg
  refine fin1 (fn := Tryz.f29) s rfl (r_tmp s rfl) ?_
  exact rfl
 replace hg := br_f hg hc26
 apply wp_skip
 apply pN
 apply wR
 refine asg s rfl rfl fun a s => ?_
 apply wN
 apply wp_ret
 obtain rfl := Option.some.inj hg
 refine fin1 (fn := Tryz.f29) s rfl (r_tmp s rfl) ?_
 exact rfl
set_option maxHeartbeats 400000 in
theorem c_deriv_Compare (n : Nat) : ∀ (M : Bs) (w0 : World) (hM : ∀ b, M b → b < w0.heap.size) (a_ : Deriv) (Ap05 : Option Addr) (cp05 : Nat) (lp02 : (a_.Name).length ≤ 9223372036854775807) (hp05 : SlR RDeriv M w0 Ap05 (a_.Kids).length cp05 (a_.Kids)) (b_ : Deriv) (Ap15 : Option Addr) (cp15 : Nat) (lp12 : (b_.Name).length ≤ 9223372036854775807) (hp15 : SlR RDeriv M w0 Ap15 (b_.Kids).length cp15 (b_.Kids)) (r : Int) (hg : deriv_Compare n a_ b_ = some r),
    Calls Tryz.prog 17 [.agg #[.int .i64 (a_.Kind), .string (bs (a_.Name)), .int .i64 (a_.From), .int .i64 (a_.To), .slice (Ap05) ((a_.Kids).length) (cp05)], .agg #[.int .i64 (b_.Kind), .string (bs (b_.Name)), .int .i64 (b_.From), .int .i64 (b_.To), .slice (Ap15) ((b_.Kids).length) (cp15)]].toArray w0 (Ret noB w0 fun v w => v = .int .i64 (r)) := by
 induction n with
 | zero => intros; rename_i hg; rw [deriv_Compare] at hg; cases hg
 | succ n c_self =>
 intro M w0 hM a_ Ap05 cp05 lp02 hp05 b_ Ap15 cp15 lp12 hp15 r hg
 rw [deriv_Compare] at hg
 refine enter M noB func17 rfl rfl hM ?_
 intro a s
 replace s := s.es 101 hp05
 replace s := s.es 102 hp15
 apply wR
 refine l_seq rfl (l_box (zs := [vI (a_.Kind), vT (a_.Name), vI (a_.From), vI (a_.To), sl Ap05 (a_.Kids) cp05]) s 1000 rfl rfl rfl rfl fun b3 a w hb hK s => ?_)
 refine l_seq rfl (l_box (zs := [vI (b_.Kind), vT (b_.Name), vI (b_.From), vI (b_.To), sl Ap15 (b_.Kids) cp15]) s 1001 rfl rfl rfl rfl fun b4 a w hb hK s => ?_)
 refine asg s rfl rfl fun a s => ?_
 apply wN
 apply wQ
 apply wQ
 obtain ⟨r5, hr5, hg⟩ := bind_some hg
 obtain ⟨r8, hr8, hg⟩ := bind_some hg
 obtain ⟨r11, hr11, hg⟩ := bind_some hg
 obtain ⟨r14, hr14, hg⟩ := bind_some hg
 obtain ⟨r18, hr18, hg⟩ := bind_some hg
 refine d_plan s [] [(0, some 0), (1, some 1000), (2, some 0), (3, some 1001), (5, some 0), (6, some 1000), (7, some 0), (8, some 1001), (10, some 0), (11, some 1000), (12, some 0), (13, some 1001), (15, some 0), (16, some 1000), (17, some 0), (18, some 1001), (4, none), (9, none), (14, none), (19, none), (20, none), (21, none), (22, none)] rfl (by kernel_rfl) (by kernel_rfl) rfl ?_; clear s; intro wr hZ s; have hR := s.wd
 refine qt s hR rfl (y_boxField (o' := 2) s rfl underlying42 rfl rfl rfl) fun a s => ?_
 refine qt s hR rfl (y_loadBox1 (kk := 1000) s rfl rfl rfl underlying3 rfl) fun a s => ?_
 refine qt s hR rfl (y_boxField (o' := 2) s rfl underlying42 rfl rfl rfl) fun a s => ?_
 refine qt s hR rfl (y_loadBox1 (kk := 1001) s rfl rfl rfl underlying3 rfl) fun a s => ?_
 refine qt s hR rfl (y_boxField (o' := 3) s rfl underlying42 rfl rfl rfl) fun a s => ?_
 refine qt s hR rfl (y_loadBox1 (kk := 1000) s rfl rfl rfl underlying3 rfl) fun a s => ?_
 refine qt s hR rfl (y_boxField (o' := 3) s rfl underlying42 rfl rfl rfl) fun a s => ?_
 refine qt s hR rfl (y_loadBox1 (kk := 1001) s rfl rfl rfl underlying3 rfl) fun a s => ?_
 refine qt s hR rfl (y_boxField (o' := 0) s rfl underlying42 rfl rfl rfl) fun a s => ?_
 refine qt s hR rfl (y_loadBox1 (kk := 1000) s rfl rfl rfl underlying3 rfl) fun a s => ?_
 refine qt s hR rfl (y_boxField (o' := 0) s rfl underlying42 rfl rfl rfl) fun a s => ?_
 refine qt s hR rfl (y_loadBox1 (kk := 1001) s rfl rfl rfl underlying3 rfl) fun a s => ?_
 refine qt s hR rfl (y_boxField (o' := 1) s rfl underlying42 rfl rfl rfl) fun a s => ?_
 refine qt s hR rfl (y_loadBox1 (kk := 1000) s rfl rfl rfl underlying9 rfl) fun a s => ?_
 refine qt s hR rfl (y_boxField (o' := 1) s rfl underlying42 rfl rfl rfl) fun a s => ?_
 refine qt s hR rfl (y_loadBox1 (kk := 1001) s rfl rfl rfl underlying9 rfl) fun a s => ?_
 refine l_take s rfl rfl (l_call (cap := []) s rfl func27 rfl (by kernel_rfl) rfl rfl (c_cmp_Compare_int n _ _ s.lt a_.From b_.From r5 hr5) fun v21 a w hK hp s => ?_)
 replace hZ := Nat.le_trans hZ hK.size; refine ⟨fun g _ h => h.grow hK, ?_⟩; clear hK
 obtain rfl := hp
 refine l_take s rfl rfl (l_call (cap := []) s rfl func27 rfl (by kernel_rfl) rfl rfl (c_cmp_Compare_int n _ _ s.lt a_.To b_.To r8 hr8) fun v23 a w hK hp s => ?_)
 replace hZ := Nat.le_trans hZ hK.size; refine ⟨fun g _ h => h.grow hK, ?_⟩; clear hK
 obtain rfl := hp
 refine l_take s rfl rfl (l_call (cap := []) s rfl func27 rfl (by kernel_rfl) rfl rfl (c_cmp_Compare_int n _ _ s.lt a_.Kind b_.Kind r11 hr11) fun v25 a w hK hp s => ?_)
 replace hZ := Nat.le_trans hZ hK.size; refine ⟨fun g _ h => h.grow hK, ?_⟩; clear hK
 obtain rfl := hp
 refine l_take s rfl rfl (l_call (cap := []) s rfl func28 rfl (by kernel_rfl) rfl rfl (c_cmp_Compare_string n _ _ s.lt a_.Name (by omega) b_.Name (by omega) r14 hr14) fun v27 a w hK hp s => ?_)
 replace hZ := Nat.le_trans hZ hK.size; refine ⟨fun g _ h => h.grow hK, ?_⟩; clear hK
 obtain rfl := hp
 refine l_take s rfl rfl (l_buildDense (sz := 1) s 1120 rfl rfl rfl underlying84 rfl rfl rfl rfl rfl rfl rfl fun b29 a w hbb29 hK s => ?_)
 have hNb29 := NewA.lit hZ hbb29
 clear hbb29
 replace hZ := Nat.le_trans hZ hK.size; refine ⟨fun g _ h => h.grow hK, ?_⟩; clear hK
 replace s := s.add 105 (rdF (Rep.num .i64) (cellsOfL [vI r5, vI r8, vI r11, vI r14]) ([r5, r8, r11, r14])) (RdAll.cons (by exact rfl) (RdAll.cons (by exact rfl) (RdAll.cons (by exact rfl) (RdAll.cons (by exact rfl) (RdAll.nil _ _ _)))))
 have hT := s
 replace hT := hT.fz (R := (Rep.num .i64)) (kk := 1120) [1000, 1001] 106 rfl rfl (hT.ft 105 rfl) rfl
 refine l_take s rfl rfl (l_call (cap := []) s rfl func26 rfl (by kernel_rfl) rfl rfl (c_cmp_Or_int n _ _ hT.lt [r5, r8, r11, r14] (some ⟨b29, 0, none⟩) (4) (hT.ft 106 rfl) r18 hr18) fun v30 a w hK hp s => ?_)
 replace hZ := Nat.le_trans hZ hK.size; refine ⟨fun g _ h => h.grow hK, ?_⟩; clear hK
 obtain rfl := hp
 refine l_take s rfl rfl (l_quiet s rfl rfl (y_assign s rfl) fun a s => ?_); refine ⟨fun g _ h => h, ?_⟩
 clear hR hZ
 apply pN
 apply wR
 refine mv s rfl rfl fun a s => ?_
 refine qq s rfl (y_neq s rfl rfl) fun a s => ?_
 apply wN
 refine c_dec s rfl (fun hc32 => ?_) (fun hc32 => ?_)
 ·replace hg := br_t hg hc32
  apply wR
  refine mv s rfl rfl fun a s => ?_
  refine asg s rfl rfl fun a s => ?_
  apply wN
  apply wp_ret
  refine p_thenR ?_
  obtain rfl := Option.some.inj hg
  refine fin1 (fn := Tryz.f17) s rfl (r_tmp s rfl) ?_
  exact rfl
 replace hg := br_f hg hc32
 apply wp_skip
 apply pN
 apply wQ
 obtain ⟨r33, hr33, hg⟩ := bind_some hg
 apply wL
 refine qq s rfl (y_boxField (o' := 4) s rfl underlying42 rfl rfl rfl) fun a s => ?_
 refine qq s rfl (y_loadBox1 (kk := 1000) s rfl rfl rfl underlying35 rfl) fun a s => ?_
 refine qq s rfl (y_boxField (o' := 4) s rfl underlying42 rfl rfl rfl) fun a s => ?_
 refine qq s rfl (y_loadBox1 (kk := 1001) s rfl rfl rfl underlying35 rfl) fun a s => ?_
 refine l_seq rfl (l_call (cap := []) s rfl func29 rfl (by kernel_rfl) rfl rfl (c_slices_CompareFunc_Deriv n _ _ s.lt a_.Kids (Ap05) (cp05) (s.ft 101 rfl) b_.Kids (Ap15) (cp15) (s.ft 102 rfl) (fun p => deriv_Compare n p.1 p.2) (17) ([]) ⟨⟨_, _, func17, rfl, by kernel_rfl⟩, fun M1 w1 hk hm hlt vs x r hp hr => by obtain ⟨Aa5, ca5, Ab5, cb5, rfl, la2, ha5, lb2, hb5⟩ := hp; exact c_self M1 w1 hlt (x.1) Aa5 ca5 la2 ha5 (x.2) Ab5 cb5 lb2 hb5 r hr⟩ r33 hr33) fun v36 a w hK hp s => ?_)
 obtain rfl := hp
 refine asg s rfl rfl fun a s => ?_
 apply wN
 apply wp_ret
 obtain rfl := Option.some.inj hg
 refine fin1 (fn := Tryz.f17) s rfl (r_tmp s rfl) ?_
 exact rfl
set_option maxHeartbeats 400000 in
theorem c_model_Best (n : Nat) (M : Bs) (w0 : World) (hM : ∀ b, M b → b < w0.heap.size) (m_ : Model) (Ap01 : Option Addr) (cp01 : Nat) (hp01 : SlR RWeight M w0 Ap01 (m_.Weights).length cp01 (m_.Weights)) (l_ : (List Deriv)) (Ap11 : Option Addr) (cp11 : Nat) (hp11 : SlR RDeriv M w0 Ap11 (l_).length cp11 (l_)) (r : Int) (hg : model_Best n m_ l_ = some r) :
    Calls Tryz.prog 14 [.agg #[.slice (Ap01) ((m_.Weights).length) (cp01)], .slice (Ap11) ((l_).length) (cp11)].toArray w0 (Ret noB w0 fun v w => v = .int .i64 (r)) := by
 unfold model_Best at hg
 refine enter M noB func14 rfl rfl hM ?_
 intro a s
 replace s := s.es 101 hp01
 replace s := s.es 102 hp11
 apply wR
 refine l_seq rfl (l_box (zs := [sl Ap01 (m_.Weights) cp01]) s 1000 rfl rfl rfl rfl fun b2 a w hb hK s => ?_)
 refine asg s rfl rfl fun a s => ?_
 apply wN
 apply wR
 refine asg s rfl rfl fun a s => ?_
 refine asg s rfl rfl fun a s => ?_
 apply wN
 apply wQ
 apply wR
 refine mv s rfl rfl fun a s => ?_
 refine qq s rfl (y_lenSlice s rfl underlying35) fun a s => ?_
 refine mv s rfl rfl fun a s => ?_
 apply wN
 apply wp_block
 refine c_loop (σ := Nat) (fun m1 a w => ∃ (best_3 : Int) (most_4 : Int) (t_5 : Nat), model_Best_L0 n m_ l_ m1 best_3 most_4 t_5 = some r ∧ St (⟨Tryz.f14.ntmps, M, noB, w0⟩ : Ctx) [(1, sl Ap11 (l_) cp11), (2, vP b2 0), (5, vI best_3), (6, vI most_4), (10, sl Ap11 (l_) cp11), (11, vI ((((l_).length : Nat) : Int))), (12, vI (((t_5 : Nat) : Int)))] [(1000, Ob.box b2 [sl Ap01 (m_.Weights) cp01] 24)] [(101, slF RWeight (Ap01) ((m_.Weights).length) (cp01) (m_.Weights)), (102, slF RDeriv (Ap11) ((l_).length) (cp11) (l_))] a w) (fun m1 => m1) n ⟨(-1), (0), (0), hg, (s.sb rfl rfl rfl)⟩ ?_
 clear s a; rintro m1 a w ⟨best_3, most_4, t_5, hg, s⟩
 rcases m1 with _ | m1
 ·rw [model_Best_L0] at hg; cases hg
 rw [model_Best_L0] at hg
 apply wR
 refine qq s rfl (y_lssN (i := t_5) (j := ((l_).length)) s rfl rfl) fun a s => ?_
 apply wN
 apply wQ
 refine c_dec s rfl (fun hc6 => ?_) (fun hc6 => ?_)
 ·replace hg := br_t hg hc6
  have hmx7 := SlR.mx (s.ft 102 rfl)
  apply wp_skip
  apply pN
  apply wQ
  apply wp_block
  apply wQ
  obtain ⟨x9, hx9, hg⟩ := bind_some hg
  apply wL
  refine mv s rfl rfl fun a s => ?_
  obtain ⟨p12, hep12, hpp12⟩ := SlR.elemX (s.ft 102 rfl) hx9
  refine qq s rfl (y_elem (sz := 5) (i := t_5) s rfl rfl underlying35 rfl hep12 rfl (lt_of_get hx9)) fun a s => ?_
  obtain ⟨hlq13, hmq13, csq13, hdq13, hcq13⟩ := hpp12
  obtain ⟨Aq135, cq135, rfl, lq132, hq135⟩ := RDeriv.open hdq13
  replace s := s.ns 104 hq135
  refine qq s rfl (y_ldp s rfl hlq13 hmq13 (by simpa using hcq13) underlying42 rfl rfl) fun a s => ?_
  refine l_seq rfl (l_alloc (zs := [vI 0, vT ([]), vI 0, vI 0, .slice (none) (0) (0)]) s 1403 rfl rfl rfl rfl fun b14 a w hb hK s => ?_)
  refine asg s rfl rfl fun a s => ?_
  refine l_seq rfl (l_store (n := 5) (cs' := [vI (x9.Kind), vT (x9.Name), vI (x9.From), vI (x9.To), sl Aq135 (x9.Kids) cq135]) s 1403 rfl rfl rfl rfl rfl rfl rfl rfl ?_); clear s; intro w hK s; clear hK
  apply wN
  apply wQ
  obtain ⟨r15, hr15, hg⟩ := bind_some hg
  apply wL
  refine qq s rfl (y_loadAll (kk := 1000) s rfl rfl underlying24 rfl rfl) fun a s => ?_
  refine qq s rfl (y_loadAll (kk := 1403) s rfl rfl underlying42 rfl rfl) fun a s => ?_
  refine l_seq rfl (l_call (cap := []) s rfl func15 rfl (by kernel_rfl) rfl rfl (c_model_Score n _ _ s.lt m_ (Ap01) (cp01) (s.ft 101 rfl) x9 (Aq135) (cq135) (by omega) (s.ft 104 rfl) r15 hr15) fun v18 a w hK hp s => ?_)
  obtain rfl := hp
  refine asg s rfl rfl fun a s => ?_
  apply wN
  apply wQ
  obtain ⟨k20, hg, hk20⟩ := jn_some hg
  refine c_post (fun a w => ∃ (t_21 : Bool), k20 t_21 = some r ∧ St (⟨Tryz.f14.ntmps, M, noB, w0⟩ : Ctx) [(1, sl Ap11 (l_) cp11), (2, vP b2 0), (5, vI best_3), (6, vI most_4), (7, vI (((t_5 : Nat) : Int))), (9, vI r15), (10, sl Ap11 (l_) cp11), (11, vI ((((l_).length : Nat) : Int))), (12, vI (((t_5 : Nat) : Int))), (40, .bool (t_21))] [(1000, Ob.box b2 [sl Ap01 (m_.Weights) cp01] 24)] [(101, slF RWeight (Ap01) ((m_.Weights).length) (cp01) (m_.Weights)), (102, slF RDeriv (Ap11) ((l_).length) (cp11) (l_))] a w) ?_ ?_
  ·rcases Decidable.em (best_3 < 0) with hs22 | hs22
   ·have hs22e := decide_eq_true hs22
    replace hg := br_t hg hs22
    refine d_plan s [] [(0, some 0), (1, some 0), (2, some 0), (3, some 0), (4, some 0), (5, some 0), (6, some 0), (7, some 0), (8, some 0), (9, some 0), (10, some 0), (11, some 0), (12, some 0), (13, some 0), (14, some 0), (15, some 0), (16, some 0), (17, some 0), (18, some 0), (19, some 0), (20, some 0)] rfl (by kernel_rfl) (by kernel_rfl) rfl ?_; clear s; intro wr hZ s; have hR := s.wd
    refine qt s hR rfl (y_move s rfl) fun a s => ?_
    refine qt s hR rfl (yl_b (y_lss s rfl rfl) hs22e) fun a s => ?_
    refine qt s hR rfl (y_move s rfl) fun a s => ?_
    refine q_pass s hR rfl rfl ⟨_, _, _, rfl, rfl, rfl, rfl⟩ rfl fun a s => ?_
    refine q_pass s hR rfl rfl ⟨_, _, _, rfl, rfl, rfl, rfl⟩ rfl fun a s => ?_
    refine q_pass s hR rfl rfl ⟨_, _, _, rfl, rfl, rfl, rfl⟩ rfl fun a s => ?_
    refine qt s hR rfl (y_pick_t s rfl rfl) fun a s => ?_
    refine qt s hR rfl (y_move s rfl) fun a s => ?_
    refine q_pass s hR rfl rfl ⟨_, _, _, rfl, rfl, rfl, rfl⟩ rfl fun a s => ?_
    refine q_pass s hR rfl rfl ⟨_, _, _, rfl, rfl, rfl, rfl⟩ rfl fun a s => ?_
    refine q_pass s hR rfl rfl ⟨_, _, _, rfl, rfl, rfl, rfl⟩ rfl fun a s => ?_
    refine q_pass s hR rfl rfl ⟨_, _, _, rfl, rfl, rfl, rfl⟩ rfl fun a s => ?_
    refine q_pass s hR rfl rfl ⟨_, _, _, rfl, rfl, rfl, rfl⟩ rfl fun a s => ?_
    refine q_pass s hR rfl rfl ⟨_, _, _, rfl, rfl, rfl, rfl⟩ rfl fun a s => ?_
    refine q_pass s hR rfl rfl ⟨_, _, _, rfl, rfl, rfl, rfl⟩ rfl fun a s => ?_
    refine q_pass s hR rfl rfl ⟨_, _, _, rfl, rfl, rfl, rfl⟩ rfl fun a s => ?_
    refine q_pass s hR rfl rfl ⟨_, _, _, rfl, rfl, rfl, rfl⟩ rfl fun a s => ?_
    refine q_pass s hR rfl rfl ⟨_, _, _, rfl, rfl, rfl, rfl⟩ rfl fun a s => ?_
    refine q_pass s hR rfl rfl ⟨_, _, _, rfl, rfl, rfl, rfl⟩ rfl fun a s => ?_
    refine q_pass s hR rfl rfl ⟨_, _, _, rfl, rfl, rfl, rfl⟩ rfl fun a s => ?_
    refine qt s hR rfl (y_pick_t s rfl rfl) fun a s => ?_
    clear hR hZ
    apply pN
    exact ⟨(true), hg, (s.sb rfl rfl rfl)⟩
   have hs22e := decide_eq_false hs22
   replace hg := br_f hg hs22
   rcases Decidable.em (most_4 < r15) with hs23 | hs23
   ·have hs23e := decide_eq_true hs23
    replace hg := br_t hg hs23
    refine d_plan s [] [(0, some 0), (1, some 0), (2, some 0), (3, some 0), (4, some 0), (5, some 0), (6, some 0), (7, some 0), (8, some 0), (9, some 0), (10, some 0), (11, some 0), (12, some 0), (13, some 0), (14, some 0), (15, some 0), (16, some 0), (17, some 0), (18, some 0), (19, some 0), (20, some 0)] rfl (by kernel_rfl) (by kernel_rfl) rfl ?_; clear s; intro wr hZ s; have hR := s.wd
    refine qt s hR rfl (y_move s rfl) fun a s => ?_
    refine qt s hR rfl (yl_b (y_lss s rfl rfl) hs22e) fun a s => ?_
    refine qt s hR rfl (y_move s rfl) fun a s => ?_
    refine qg s hR rfl (y_move s rfl) fun a s => ?_
    refine qg s hR rfl (y_move s rfl) fun a s => ?_
    refine qg s hR rfl (yl_b (y_gtr s rfl rfl) hs23e) fun a s => ?_
    refine qt s hR rfl (y_pick_f s rfl rfl) fun a s => ?_
    refine qt s hR rfl (y_move s rfl) fun a s => ?_
    refine q_pass s hR rfl rfl ⟨_, _, _, rfl, rfl, rfl, rfl⟩ rfl fun a s => ?_
    refine q_pass s hR rfl rfl ⟨_, _, _, rfl, rfl, rfl, rfl⟩ rfl fun a s => ?_
    refine q_pass s hR rfl rfl ⟨_, _, _, rfl, rfl, rfl, rfl⟩ rfl fun a s => ?_
    refine q_pass s hR rfl rfl ⟨_, _, _, rfl, rfl, rfl, rfl⟩ rfl fun a s => ?_
    refine q_pass s hR rfl rfl ⟨_, _, _, rfl, rfl, rfl, rfl⟩ rfl fun a s => ?_
    refine q_pass s hR rfl rfl ⟨_, _, _, rfl, rfl, rfl, rfl⟩ rfl fun a s => ?_
    refine q_pass s hR rfl rfl ⟨_, _, _, rfl, rfl, rfl, rfl⟩ rfl fun a s => ?_
    refine q_pass s hR rfl rfl ⟨_, _, _, rfl, rfl, rfl, rfl⟩ rfl fun a s => ?_
    refine q_pass s hR rfl rfl ⟨_, _, _, rfl, rfl, rfl, rfl⟩ rfl fun a s => ?_
    refine q_pass s hR rfl rfl ⟨_, _, _, rfl, rfl, rfl, rfl⟩ rfl fun a s => ?_
    refine q_pass s hR rfl rfl ⟨_, _, _, rfl, rfl, rfl, rfl⟩ rfl fun a s => ?_
    refine q_pass s hR rfl rfl ⟨_, _, _, rfl, rfl, rfl, rfl⟩ rfl fun a s => ?_
    refine qt s hR rfl (y_pick_t s rfl rfl) fun a s => ?_
    clear hR hZ
    apply pN
    exact ⟨(true), hg, (s.sb rfl rfl rfl)⟩
   have hs23e := decide_eq_false hs23
   replace hg := br_f hg hs23
   rcases Decidable.em (r15 = most_4) with hs24 | hs24
   ·have hs24e := decide_eq_true hs24
    replace hg := br_t hg hs24
    obtain ⟨x26, hx26, hg⟩ := bind_some hg
    obtain ⟨r28, hr28, hg⟩ := bind_some hg
    refine d_plan s [] [(0, some 0), (1, some 0), (2, some 0), (3, some 0), (4, some 0), (5, some 0), (6, some 0), (7, some 0), (8, some 0), (9, some 0), (10, some 0), (11, some 0), (12, some 1403), (13, some 0), (14, some 0), (15, some 0), (16, some 0), (17, none), (18, none), (19, none), (20, none)] rfl (by kernel_rfl) (by kernel_rfl) rfl ?_; clear s; intro wr hZ s; have hR := s.wd
    refine qt s hR rfl (y_move s rfl) fun a s => ?_
    refine qt s hR rfl (yl_b (y_lss s rfl rfl) hs22e) fun a s => ?_
    refine qt s hR rfl (y_move s rfl) fun a s => ?_
    refine qg s hR rfl (y_move s rfl) fun a s => ?_
    refine qg s hR rfl (y_move s rfl) fun a s => ?_
    refine qg s hR rfl (yl_b (y_gtr s rfl rfl) hs23e) fun a s => ?_
    refine qt s hR rfl (y_pick_f s rfl rfl) fun a s => ?_
    refine qt s hR rfl (y_move s rfl) fun a s => ?_
    refine qg s hR rfl (y_move s rfl) fun a s => ?_
    refine qg s hR rfl (y_move s rfl) fun a s => ?_
    refine qg s hR rfl (yl_b (y_eql s rfl rfl) hs24e) fun a s => ?_
    refine qg s hR rfl (y_move s rfl) fun a s => ?_
    refine qg s hR rfl (y_loadAll (kk := 1403) s rfl rfl underlying42 rfl rfl) fun a s => ?_
    refine qg s hR rfl (y_move s rfl) fun a s => ?_
    refine qg s hR rfl (y_move s rfl) fun a s => ?_
    obtain ⟨p31, hep31, hpp31⟩ := SlR.elemX (s.ft 102 rfl) (ix_some hx26).1
    refine qg s hR rfl (y_elem (sz := 5) (i := ((best_3).toNat)) s rfl rfl underlying35 rfl hep31 (ix_some hx26).2.1 (lt_of_get (ix_some hx26).1)) fun a s => ?_
    obtain ⟨hlq32, hmq32, csq32, hdq32, hcq32⟩ := hpp31
    obtain ⟨Aq325, cq325, rfl, lq322, hq325⟩ := RDeriv.open hdq32
    replace s := s.ns 106 hq325
    refine qg s hR rfl (y_ldp s rfl hlq32 hmq32 (by simpa using hcq32) underlying42 rfl rfl) fun a s => ?_
    refine l_take s rfl ⟨_, _, _, rfl, rfl, rfl, rfl⟩ (l_call (cap := []) s rfl func17 rfl (by kernel_rfl) rfl rfl (c_deriv_Compare n _ _ s.lt x9 (Aq135) (cq135) (by omega) (s.ft 104 rfl) x26 (Aq325) (cq325) (by omega) (s.ft 106 rfl) r28 hr28) fun v33 a w hK hp s => ?_)
    replace hZ := Nat.le_trans hZ hK.size; refine ⟨fun g _ h => h.grow hK, ?_⟩; clear hK
    obtain rfl := hp
    refine l_take s rfl ⟨_, _, _, rfl, rfl, rfl, rfl⟩ (l_quiet s rfl rfl (y_lss s rfl rfl) fun a s => ?_); refine ⟨fun g _ h => h, ?_⟩
    refine l_take s rfl ⟨_, _, _, rfl, rfl, rfl, rfl⟩ (l_quiet s rfl rfl (y_pick_t s rfl rfl) fun a s => ?_); refine ⟨fun g _ h => h, ?_⟩
    refine l_take s rfl rfl (l_quiet s rfl rfl (y_pick_f s rfl rfl) fun a s => ?_); refine ⟨fun g _ h => h, ?_⟩
    clear hR hZ
    apply pN
    exact ⟨(decide (r28 < 0)), hg, (s.sb rfl rfl rfl)⟩
   have hs24e := decide_eq_false hs24
   replace hg := br_f hg hs24
   refine d_plan s [] [(0, some 0), (1, some 0), (2, some 0), (3, some 0), (4, some 0), (5, some 0), (6, some 0), (7, some 0), (8, some 0), (9, some 0), (10, some 0), (11, some 0), (12, some 0), (13, some 0), (14, some 0), (15, some 0), (16, some 0), (17, some 0), (18, some 0), (19, some 0), (20, some 0)] rfl (by kernel_rfl) (by kernel_rfl) rfl ?_; clear s; intro wr hZ s; have hR := s.wd
   refine qt s hR rfl (y_move s rfl) fun a s => ?_
   refine qt s hR rfl (yl_b (y_lss s rfl rfl) hs22e) fun a s => ?_
   refine qt s hR rfl (y_move s rfl) fun a s => ?_
   refine qg s hR rfl (y_move s rfl) fun a s => ?_
   refine qg s hR rfl (y_move s rfl) fun a s => ?_
   refine qg s hR rfl (yl_b (y_gtr s rfl rfl) hs23e) fun a s => ?_
   refine qt s hR rfl (y_pick_f s rfl rfl) fun a s => ?_
   refine qt s hR rfl (y_move s rfl) fun a s => ?_
   refine qg s hR rfl (y_move s rfl) fun a s => ?_
   refine qg s hR rfl (y_move s rfl) fun a s => ?_
   refine qg s hR rfl (yl_b (y_eql s rfl rfl) hs24e) fun a s => ?_
   refine qg s hR rfl (y_move s rfl) fun a s => ?_
   refine q_pass s hR rfl rfl ⟨_, _, _, rfl, rfl, rfl, rfl⟩ rfl fun a s => ?_
   refine q_pass s hR rfl rfl ⟨_, _, _, rfl, rfl, rfl, rfl⟩ rfl fun a s => ?_
   refine q_pass s hR rfl rfl ⟨_, _, _, rfl, rfl, rfl, rfl⟩ rfl fun a s => ?_
   refine q_pass s hR rfl rfl ⟨_, _, _, rfl, rfl, rfl, rfl⟩ rfl fun a s => ?_
   refine q_pass s hR rfl rfl ⟨_, _, _, rfl, rfl, rfl, rfl⟩ rfl fun a s => ?_
   refine q_pass s hR rfl rfl ⟨_, _, _, rfl, rfl, rfl, rfl⟩ rfl fun a s => ?_
   refine q_pass s hR rfl rfl ⟨_, _, _, rfl, rfl, rfl, rfl⟩ rfl fun a s => ?_
   refine qg s hR rfl (y_pick_f s rfl rfl) fun a s => ?_
   refine qt s hR rfl (y_pick_f s rfl rfl) fun a s => ?_
   clear hR hZ
   apply pN
   exact ⟨(false), hg, (s.sb rfl rfl rfl)⟩
  clear s a; rintro a w ⟨t_21, hg, s⟩
  subst hk20
  refine c_cond s rfl (fun hc35 => ?_) (fun hc35 => ?_)
  ·replace hg := br_t hg hc35
   apply wL
   refine mv s rfl rfl fun a s => ?_
   refine mv s rfl rfl fun a s => ?_
   refine asg s rfl rfl fun a s => ?_
   refine asg s rfl rfl fun a s => ?_
   apply wO
   refine p_inN ?_
   apply pN
   apply wL
   refine qq s rfl (y_addN (i := t_5) (j := 1) s rfl rfl (in64.2 (by omega))) fun a s => ?_
   refine mv s rfl rfl fun a s => ?_
   apply wN
   exact ⟨m1, Nat.lt_succ_self _, ⟨(((t_5 : Nat) : Int)), (r15), (t_5 + 1), hg, (s.sb rfl rfl rfl)⟩⟩
  replace hg := br_n hg hc35
  apply wp_skip
  refine p_inN ?_
  apply pN
  apply wL
  refine qq s rfl (y_addN (i := t_5) (j := 1) s rfl rfl (in64.2 (by omega))) fun a s => ?_
  refine mv s rfl rfl fun a s => ?_
  apply wN
  exact ⟨m1, Nat.lt_succ_self _, ⟨(best_3), (most_4), (t_5 + 1), hg, (s.sb rfl rfl rfl)⟩⟩
 replace hg := br_f hg hc6
 apply wp_exit
 refine p_then ?_
 refine p_then ?_
 refine p_in ?_
 apply pN
 apply wR
 refine mv s rfl rfl fun a s => ?_
 refine asg s rfl rfl fun a s => ?_
 apply wN
 apply wp_ret
 obtain rfl := Option.some.inj hg
 refine fin1 (fn := Tryz.f14) s rfl (r_tmp s rfl) ?_
 exact rfl
set_option maxHeartbeats 400000 in
theorem c_model_learned (n : Nat) (M : Bs) (w0 : World) (hM : ∀ b, M b → b < w0.heap.size) (t_ : Model) (Ap01 : Option Addr) (cp01 : Nat) (hp01 : SlR RWeight M w0 Ap01 (t_.Weights).length cp01 (t_.Weights)) (t_' : (List (List UInt8 × Int))) (bp11 : Nat) (hp11 : MapR (Rep.num .i64) M w0 bp11 (t_')) (r : Model) (hg : model_learned n t_ t_' = some r) :
    Calls Tryz.prog 18 [.agg #[.slice (Ap01) ((t_.Weights).length) (cp01)], .map (some bp11)].toArray w0 (Ret noB w0 fun v w => ∃ (Aa1 : Option Addr), ∃ (ca1 : Nat), v = .agg #[.slice (Aa1) ((r.Weights).length) (ca1)] ∧ (SlR RWeight M w Aa1 (r.Weights).length ca1 (r.Weights))) := by
 unfold model_learned at hg
 refine enter M noB func18 rfl rfl hM ?_
 intro a s
 replace s := s.es 101 hp01
 replace s := s.add 102 (mapRF (Rep.num .i64) bp11 (t_')) (by exact Fact.change _ enterM hp11)
 apply wR
 refine l_seq rfl (l_box (zs := [sl Ap01 (t_.Weights) cp01]) s 1000 rfl rfl rfl rfl fun b3 a w hb hK s => ?_)
 refine l_seq rfl (l_alloc (zs := [.slice (none) (0) (0)]) s 1001 rfl rfl rfl rfl fun b4 a w hb hK s => ?_)
 apply wN
 apply wR
 refine l_seq rfl (l_makeMap (n := 0) s 1100 underlying49 (.inl rfl) rfl rfl fun b6 a w hb hK s => ?_)
 replace s := s.add 104 (kvF (Rep.num .i64) ([]) ([])) (KvRel.nil)
 refine asg s rfl rfl fun a s => ?_
 apply wN
 apply wQ
 apply wR
 refine qq s rfl (y_boxField (o' := 0) s rfl underlying24 rfl rfl rfl) fun a s => ?_
 refine qq s rfl (y_loadBox1 (kk := 1000) s rfl rfl rfl underlying22 rfl) fun a s => ?_
 refine qq s rfl (y_lenSlice s rfl underlying22) fun a s => ?_
 refine mv s rfl rfl fun a s => ?_
 apply wN
 obtain ⟨k7, hg, hk7⟩ := jn_some hg
 refine c_post (fun a w => ∃ (t_8 : (List (List UInt8 × Int))) (kv9 : List (List UInt8 × Value)), k7 t_8 = some r ∧ St (⟨Tryz.f18.ntmps, M, noB, w0⟩ : Ctx) [(1, .map (some bp11)), (4, vP b4 0), (5, .map (some b6))] [(1001, Ob.box b4 [.slice (none) (0) (0)] 24), (1100, Ob.smap b6 (kv9))] [(102, mapRF (Rep.num .i64) bp11 (t_')), (105, kvF (Rep.num .i64) (kv9) (t_8))] a w) ?_ ?_
 ·apply wp_block
  replace s := s.al 106 104 rfl
  refine c_loop (σ := Nat) (fun m1 a w => ∃ (t_10 : (List (List UInt8 × Int))) (t_12 : Nat) (kv11 : List (List UInt8 × Value)), model_learned_L0 n t_ k7 m1 t_10 t_12 = some r ∧ St (⟨Tryz.f18.ntmps, M, noB, w0⟩ : Ctx) [(1, .map (some bp11)), (4, vP b4 0), (5, .map (some b6)), (15, sl Ap01 (t_.Weights) cp01), (16, vI ((((t_.Weights).length : Nat) : Int))), (17, vI (((t_12 : Nat) : Int)))] [(1001, Ob.box b4 [.slice (none) (0) (0)] 24), (1100, Ob.smap b6 (kv11))] [(101, slF RWeight (Ap01) ((t_.Weights).length) (cp01) (t_.Weights)), (102, mapRF (Rep.num .i64) bp11 (t_')), (106, kvF (Rep.num .i64) (kv11) (t_10))] a w) (fun m1 => m1) n ⟨([]), (0), ([]), hg, (s.sb rfl rfl rfl)⟩ ?_
  clear s a; rintro m1 a w ⟨t_10, t_12, kv11, hg, s⟩
  rcases m1 with _ | m1
  ·rw [model_learned_L0] at hg; cases hg
  rw [model_learned_L0] at hg
  apply wR
  refine qq s rfl (y_lssN (i := t_12) (j := ((t_.Weights).length)) s rfl rfl) fun a s => ?_
  apply wN
  apply wQ
  refine c_dec s rfl (fun hc13 => ?_) (fun hc13 => ?_)
  ·replace hg := br_t hg hc13
   have hmx14 := SlR.mx (s.ft 101 rfl)
   apply wp_skip
   apply pN
   apply wQ
   apply wp_block
   apply wQ
   obtain ⟨x16, hx16, hg⟩ := bind_some hg
   apply wL
   obtain ⟨p19, hep19, hpp19⟩ := SlR.elemX (s.ft 101 rfl) hx16
   refine qq s rfl (y_elem (sz := 2) (i := t_12) s rfl rfl underlying22 rfl hep19 rfl (lt_of_get hx16)) fun a s => ?_
   obtain ⟨hlq20, hmq20, csq20, hdq20, hcq20⟩ := hpp19
   obtain ⟨rfl, lq201⟩ := RWeight.open hdq20
   refine qq s rfl (y_ldp s rfl hlq20 hmq20 (by simpa using hcq20) underlying39 rfl rfl) fun a s => ?_
   refine l_seq rfl (l_alloc (zs := [vT ([]), vI 0]) s 1402 rfl rfl rfl rfl fun b21 a w hb hK s => ?_)
   refine l_seq rfl (l_store (n := 2) (cs' := [vT (x16.Feature), vI (x16.Value)]) s 1402 rfl rfl rfl rfl rfl rfl rfl rfl ?_); clear s; intro w hK s; clear hK
   apply wN
   apply wL
   refine mv s rfl rfl fun a s => ?_
   refine qq s rfl (y_boxField (o' := 0) s rfl underlying39 rfl rfl rfl) fun a s => ?_
   refine qq s rfl (y_loadBox1 (kk := 1402) s rfl rfl rfl underlying9 rfl) fun a s => ?_
   refine qq s rfl (y_boxField (o' := 1) s rfl underlying39 rfl rfl rfl) fun a s => ?_
   refine qq s rfl (y_loadBox1 (kk := 1402) s rfl rfl rfl underlying3 rfl) fun a s => ?_
   refine l_seq rfl (l_mapUpdate s 1100 rfl rfl rfl rfl underlying49 underlying9 fun w hK s => ?_)
   replace s := s.add 108 (kvF (Rep.num .i64) (mset (kv11) (x16.Feature) (vI (x16.Value))) (mset (t_10) (x16.Feature) (x16.Value))) (kvF_set (s.ft 106 rfl) (by exact rfl))
   apply wO
   refine p_inN ?_
   apply pN
   apply wL
   refine qq s rfl (y_addN (i := t_12) (j := 1) s rfl rfl (in64.2 (by omega))) fun a s => ?_
   refine mv s rfl rfl fun a s => ?_
   apply wN
   replace s := s.al 106 108 rfl
   exact ⟨m1, Nat.lt_succ_self _, ⟨(mset (t_10) (x16.Feature) (x16.Value)), (t_12 + 1), (mset (kv11) (x16.Feature) (vI (x16.Value))), hg, (s.sb rfl rfl rfl)⟩⟩
  replace hg := br_f hg hc13
  apply wp_exit
  refine p_then ?_
  refine p_then ?_
  refine p_in ?_
  apply pN
  replace s := s.al 105 106 rfl
  exact ⟨(t_10), (kv11), hg, (s.sb rfl rfl rfl)⟩
 clear s a; rintro a w ⟨t_8, kv9, hg, s⟩
 subst hk7
 apply wQ
 apply wR
 refine mv s rfl rfl fun a s => ?_
 refine l_seq rfl (l_rangeM s 1701 110 rfl (s.ft 102 rfl) underlying49 rfl rfl fun b27 E28 ck29 a w hb hK hst30 hl31 s => ?_)
 apply wN
 obtain ⟨k32, hg, hk32⟩ := jn_some hg
 refine c_post (fun a w => ∃ (t_33 : (List (List UInt8 × Int))) (kv34 : List (List UInt8 × Value)), k32 t_33 = some r ∧ St (⟨Tryz.f18.ntmps, M, noB, w0⟩ : Ctx) [(4, vP b4 0), (5, .map (some b6))] [(1001, Ob.box b4 [.slice (none) (0) (0)] 24), (1100, Ob.smap b6 (kv34))] [(111, kvF (Rep.num .i64) (kv34) (t_33))] a w) ?_ ?_
 ·apply wp_block
  replace s := s.al 112 105 rfl
  refine c_loop (σ := Nat) (fun m2 a w => ∃ (t_35 : (List (List UInt8 × Int))) (rest_37 : (List (List UInt8 × Int))) (kv36 : List (List UInt8 × Value)) (sn38 : Array Nat), model_learned_L1 n k32 m2 t_35 rest_37 = some r ∧ (LeftIs (fun z => Value.int .i64 z) E28 sn38 rest_37) ∧ St (⟨Tryz.f18.ntmps, M, noB, w0⟩ : Ctx) [(4, vP b4 0), (5, .map (some b6)), (28, vP b27 0)] [(1001, Ob.box b4 [.slice (none) (0) (0)] 24), (1100, Ob.smap b6 (kv36)), (1701, Ob.obj b27 (.mapIter (some bp11) ck29 sn38 ck29))] [(110, mapEF bp11 E28 ck29), (112, kvF (Rep.num .i64) (kv36) (t_35))] a w) (fun m2 => m2) n ⟨(t_8), (t_'), (kv9), (#[]), hg, (by assumption), (s.sb rfl rfl rfl)⟩ ?_
  clear s a; rintro m2 a w ⟨t_35, rest_37, kv36, sn38, hg, hlrest_37, s⟩
  rcases m2 with _ | m2
  ·rw [model_learned_L1] at hg; cases hg
  rw [model_learned_L1] at hg
  apply wQ
  rcases Decidable.em (0 < (rest_37).length) with hs39 | hs39
  ·have hs39e := decide_eq_true hs39
   replace hg := br_t hg hs39
   apply wL
   refine l_seq rfl (l_nextM s 1701 rfl rfl (s.ft 110 rfl) hst30 hlrest_37 (Nat.le_refl _) hs39 rfl fun p40 rest41 sn45 a w hpk hl46 hc47 s => ?_)
   replace hg := agree_at hg hpk; clear hpk
   refine qq s rfl (y_extract s rfl rfl) fun a s => ?_
   apply wN
   apply wQ
   refine c_t s rfl ?_
   apply wp_skip
   apply pN
   apply wp_block
   apply wR
   refine l_seq rfl (y_entryM (kk := 1701) s rfl rfl (s.ft 110 rfl) hst30 hc47 rfl fun a s => ?_)
   refine qq s rfl (y_extract s rfl rfl) fun a s => ?_
   refine qq s rfl (y_extract s rfl rfl) fun a s => ?_
   refine asg s rfl rfl fun a s => ?_
   refine asg s rfl rfl fun a s => ?_
   apply wN
   obtain ⟨hk49, hg⟩ := chk_some hg
   apply wL
   refine mv s rfl rfl fun a s => ?_
   refine mv s rfl rfl fun a s => ?_
   refine mv s rfl rfl fun a s => ?_
   refine mv s rfl rfl fun a s => ?_
   have hm50 := kvF_getD (R := (Rep.num .i64)) (k := p40.1) (z := vI 0) (zx := 0) (s.ft 112 rfl) (by exact rfl)
   have em50 := hm50
   refine qq s rfl (y_lookupV (kk := 1100) s rfl rfl rfl underlying49 underlying9 rfl em50) fun a s => ?_
   refine mv s rfl rfl fun a s => ?_
   refine qq s rfl (y_add s rfl rfl (in64.2 hk49)) fun a s => ?_
   refine qq s rfl (y_max s rfl rfl) fun a s => ?_
   refine qq s rfl (y_min s rfl rfl) fun a s => ?_
   refine l_seq rfl (l_mapUpdate s 1100 rfl rfl rfl rfl underlying49 underlying9 fun w hK s => ?_)
   replace s := s.add 114 (kvF (Rep.num .i64) (mset (kv36) (p40.1) (vI (if 1048576 < if ((mget t_35 p40.1).getD 0) + p40.2 < -1048576 then -1048576 else ((mget t_35 p40.1).getD 0) + p40.2 then 1048576 else if ((mget t_35 p40.1).getD 0) + p40.2 < -1048576 then -1048576 else ((mget t_35 p40.1).getD 0) + p40.2))) (mset (t_35) (p40.1) (if 1048576 < if ((mget t_35 p40.1).getD 0) + p40.2 < -1048576 then -1048576 else ((mget t_35 p40.1).getD 0) + p40.2 then 1048576 else if ((mget t_35 p40.1).getD 0) + p40.2 < -1048576 then -1048576 else ((mget t_35 p40.1).getD 0) + p40.2))) (kvF_set (s.ft 112 rfl) (by exact rfl))
   apply wO
   refine p_inN ?_
   apply pN
   replace s := s.add 112 (kvF (Rep.num .i64) (mset (kv36) (p40.1) (vI (if 1048576 < if ((mget t_35 p40.1).getD 0) + p40.2 < -1048576 then -1048576 else ((mget t_35 p40.1).getD 0) + p40.2 then 1048576 else if ((mget t_35 p40.1).getD 0) + p40.2 < -1048576 then -1048576 else ((mget t_35 p40.1).getD 0) + p40.2))) (mset (t_35) (p40.1) (if 1048576 < if ((mget t_35 p40.1).getD 0) + p40.2 < -1048576 then -1048576 else ((mget t_35 p40.1).getD 0) + p40.2 then 1048576 else if ((mget t_35 p40.1).getD 0) + p40.2 < -1048576 then -1048576 else ((mget t_35 p40.1).getD 0) + p40.2))) (s.ft 114 rfl)
   exact ⟨m2, Nat.lt_succ_self _, ⟨(mset (t_35) (p40.1) (if 1048576 < if ((mget t_35 p40.1).getD 0) + p40.2 < -1048576 then -1048576 else ((mget t_35 p40.1).getD 0) + p40.2 then 1048576 else if ((mget t_35 p40.1).getD 0) + p40.2 < -1048576 then -1048576 else ((mget t_35 p40.1).getD 0) + p40.2)), (rest41), (mset (kv36) (p40.1) (vI (if 1048576 < if ((mget t_35 p40.1).getD 0) + p40.2 < -1048576 then -1048576 else ((mget t_35 p40.1).getD 0) + p40.2 then 1048576 else if ((mget t_35 p40.1).getD 0) + p40.2 < -1048576 then -1048576 else ((mget t_35 p40.1).getD 0) + p40.2))), (sn45), hg, (by assumption), (s.sb rfl rfl rfl)⟩⟩
  have hs39e := decide_eq_false hs39
  replace hg := br_f hg hs39
  apply wL
  refine l_seq rfl (l_nextME s 1701 rfl rfl (s.ft 110 rfl) hst30 hlrest_37 (Nat.le_refl _) hs39 rfl fun a s => ?_)
  refine qq s rfl (y_extract s rfl rfl) fun a s => ?_
  apply wN
  apply wQ
  refine c_f s rfl ?_
  apply wp_exit
  refine p_then ?_
  refine p_then ?_
  refine p_in ?_
  apply pN
  replace s := s.al 111 112 rfl
  exact ⟨(t_35), (kv36), hg, (s.sb rfl rfl rfl)⟩
 clear s a; rintro a w ⟨t_33, kv34, hg, s⟩
 subst hk32
 apply wR
 refine l_seq rfl (l_alloc (zs := [.slice (none) (0) (0)]) s 2100 rfl rfl rfl rfl fun b52 a w hb hK s => ?_)
 apply wN
 apply wQ
 apply wQ
 obtain ⟨r55, hr55, hg⟩ := bind_some hg
 apply wL
 refine mv s rfl rfl fun a s => ?_
 replace s := s.freezeMapR (R := (Rep.num .i64)) (L' := [(1001, Ob.box b4 [.slice (none) (0) (0)] 24), (2100, Ob.box b52 [.slice (none) (0) (0)] 24)]) 117 1100 rfl (s.ft 111 rfl) ⟨rfl, rfl, trivial⟩ rfl
 refine l_seq rfl (l_callOwn (cap := []) (post := (fun v ob w' => ∃ B, ob = Ob.box B [.map (some b6)] 49 ∧ v = .func (.func 53) #[] #[vP B 0])) s 2201 rfl rfl func31 rfl (by kernel_rfl) rfl rfl (c_mapsKeys _ b6) fun v59 ob a w hK hp s => ?_)
 obtain ⟨b58, rfl, rfl⟩ := hp
 refine l_seq rfl (l_call (cap := []) s rfl func30 rfl (by kernel_rfl) rfl rfl (c_sortedKeys n _ _ s.lt b58 b6 t_33 (s.wd.holds 2201 _ rfl) (s.ft 117 rfl) r55 hr55) fun v60 a w hK hp s => ?_)
 obtain ⟨Au61a1, cu61a1, rfl, hu61a1⟩ := hp
 replace s := s.ns 118 hu61a1
 refine qq s rfl (y_lenSlice s rfl underlying44) fun a s => ?_
 refine mv s rfl rfl fun a s => ?_
 apply wN
 obtain ⟨k62, hg, hk62⟩ := jn_some hg
 refine c_post (fun a w => ∃ (b_63 : (List Weight)) (A64 : Option Addr) (c65 : Nat) (cs66 : List Value), k62 b_63 = some r ∧ St (⟨Tryz.f18.ntmps, M, noB, w0⟩ : Ctx) [(4, vP b4 0), (10, vP b52 0)] [(1001, Ob.box b4 [.slice (none) (0) (0)] 24), (2100, Ob.box b52 [sl A64 (b_63) c65] 24), (700119, Ob.row (A64) ((b_63).length) (c65) 39 2 (cs66))] [(120, rdF RWeight (cs66) (b_63))] a w) ?_ ?_
 ·apply wp_block
  replace s := s.nilRow 700121 39 2 rfl
  replace s := s.add 122 (rdF RWeight [] []) (RdAll.nil _ _ _)
  refine c_loop (σ := Nat) (fun m3 a w => ∃ (t_67 : Nat) (b_68 : (List Weight)) (A69 : Option Addr) (c70 : Nat) (cs71 : List Value), model_learned_L2 n t_33 r55 k62 m3 t_67 b_68 = some r ∧ St (⟨Tryz.f18.ntmps, M, noB, w0⟩ : Ctx) [(4, vP b4 0), (5, .map (some b6)), (10, vP b52 0), (45, sl Au61a1 (r55) cu61a1), (46, vI ((((r55).length : Nat) : Int))), (47, vI (((t_67 : Nat) : Int)))] [(1001, Ob.box b4 [.slice (none) (0) (0)] 24), (2100, Ob.box b52 [sl A69 (b_68) c70] 24), (700121, Ob.row (A69) ((b_68).length) (c70) 39 2 (cs71))] [(117, mapRF (Rep.num .i64) b6 (t_33)), (118, slF Rep.str (Au61a1) ((r55).length) (cu61a1) (r55)), (122, rdF RWeight (cs71) (b_68))] a w) (fun m3 => m3) n ⟨(0), ([]), (none), (0), ([]), hg, (s.sb rfl rfl rfl)⟩ ?_
  clear s a; rintro m3 a w ⟨t_67, b_68, A69, c70, cs71, hg, s⟩
  rcases m3 with _ | m3
  ·rw [model_learned_L2] at hg; cases hg
  rw [model_learned_L2] at hg
  apply wR
  refine qq s rfl (y_lssN (i := t_67) (j := ((r55).length)) s rfl rfl) fun a s => ?_
  apply wN
  apply wQ
  refine c_dec s rfl (fun hc72 => ?_) (fun hc72 => ?_)
  ·replace hg := br_t hg hc72
   have hmx73 := SlR.mx (s.ft 118 rfl)
   apply wp_skip
   apply pN
   apply wQ
   apply wp_block
   apply wQ
   obtain ⟨x75, hx75, hg⟩ := bind_some hg
   apply wL
   obtain ⟨p77, hep77, hpp77⟩ := SlR.elemX (s.ft 118 rfl) hx75
   refine qq s rfl (y_elem (sz := 1) (i := t_67) s rfl rfl underlying44 rfl hep77 rfl (lt_of_get hx75)) fun a s => ?_
   obtain ⟨hlq78, hmq78, csq78, hdq78, hcq78⟩ := hpp77
   obtain ⟨rfl, lq781⟩ := hdq78
   refine qq s rfl (y_ldp1 s rfl hlq78 hmq78 (hcq78 0 _ rfl) underlying9 rfl) fun a s => ?_
   refine asg s rfl rfl fun a s => ?_
   apply wN
   apply wR
   refine mv s rfl rfl fun a s => ?_
   refine mv s rfl rfl fun a s => ?_
   obtain ⟨kvm80, hmm80, hfm80⟩ := mapRF_open (s.ft 117 rfl)
   have hm80 := kvF_getD (R := (Rep.num .i64)) (k := x75) (z := vI 0) (zx := 0) hfm80 (by exact rfl)
   have em80 := hm80
   refine qq s rfl (y_lookupFV s rfl rfl hmm80 underlying49 underlying9 rfl em80) fun a s => ?_
   refine qq s rfl (y_neq s rfl rfl) fun a s => ?_
   apply wN
   refine c_dec s rfl (fun hc81 => ?_) (fun hc81 => ?_)
   ·replace hg := br_t hg hc81
    obtain ⟨hk84, hg⟩ := chk_some hg
    apply wL
    refine qq s rfl (y_boxField (o' := 0) s rfl underlying24 rfl rfl rfl) fun a s => ?_
    refine qq s rfl (y_loadBox1 (kk := 2100) s rfl rfl rfl underlying22 rfl) fun a s => ?_
    refine mv s rfl rfl fun a s => ?_
    refine mv s rfl rfl fun a s => ?_
    refine mv s rfl rfl fun a s => ?_
    obtain ⟨kvm87, hmm87, hfm87⟩ := mapRF_open (s.ft 117 rfl)
    have hm87 := kvF_getD (R := (Rep.num .i64)) (k := x75) (z := vI 0) (zx := 0) hfm87 (by exact rfl)
    have em87 := hm87
    refine qq s rfl (y_lookupFV s rfl rfl hmm87 underlying49 underlying9 rfl em87) fun a s => ?_
    refine qq s rfl (y_build (parts := [(0, .tmp 57), (1, .tmp 60)]) (ps := [(0, vT x75), (1, vI (((mget t_33 x75).getD 0)))]) (cells := #[vT x75, vI (((mget t_33 x75).getD 0))]) s rfl (by kernel_rfl)) fun a s => ?_
    refine l_seq rfl (l_buildDense (sz := 2) s 2607 rfl rfl rfl underlying22 rfl rfl rfl rfl rfl rfl rfl fun b88 a w hbb88 hK s => ?_)
    clear hbb88
    replace s := s.add 125 (rdF RWeight (cellsOfL [.agg #[vT x75, vI (((mget t_33 x75).getD 0))]]) ([(Weight.mk x75 ((mget t_33 x75).getD 0))])) (RdAll.cons (by exact (RWeight.mk' (x := (Weight.mk x75 ((mget t_33 x75).getD 0))) (by omega))) (RdAll.nil _ _ _))
    have hs90 := row_src (s.wd.holds 2607 _ rfl) (RdAll.one (s.ft 125 rfl))
    refine l_seq rfl (l_append (sz := 2) (by_ := 24) (N := (b_68 ++ [(Weight.mk x75 ((mget t_33 x75).getD 0))]).length) (ys := cs71 ++ (cellsOfL [.agg #[vT x75, vI (((mget t_33 x75).getD 0))]])) s 700121 rfl rfl rfl underlying22 rfl rfl rfl rfl rfl hs90 (by first | (simp; done) | (simp; omega)) rfl (by have hr := hk84; clear hg; first | omega | (simp only [List.length_append, List.length_cons, List.length_nil] at hr ⊢; omega) | (simp at hr ⊢; omega)) (by have hr := hk84; clear hg; first | omega | (simp only [List.length_append, List.length_cons, List.length_nil] at hr ⊢; omega) | (simp at hr ⊢; omega)) rfl fun Aq89 cq89 a w hA hK s => ?_)
    replace s := s.add 126 (rdF RWeight (cs71 ++ (cellsOfL [.agg #[vT x75, vI (((mget t_33 x75).getD 0))]])) (b_68 ++ [(Weight.mk x75 ((mget t_33 x75).getD 0))])) (RdAll.append (s.ft 122 rfl) (s.ft 125 rfl))
    refine qq s rfl (y_boxField (o' := 0) s rfl underlying24 rfl rfl rfl) fun a s => ?_
    refine l_seq rfl (l_store (n := 1) (cs' := [sl Aq89 (b_68 ++ [(Weight.mk x75 ((mget t_33 x75).getD 0))]) cq89]) s 2100 rfl rfl rfl rfl rfl rfl rfl rfl ?_); clear s; intro w hK s; clear hK
    apply wO
    refine p_inN ?_
    apply pN
    apply wL
    refine qq s rfl (y_addN (i := t_67) (j := 1) s rfl rfl (in64.2 (by omega))) fun a s => ?_
    refine mv s rfl rfl fun a s => ?_
    apply wN
    replace s := s.add 122 (rdF RWeight (cs71 ++ (cellsOfL [.agg #[vT x75, vI (((mget t_33 x75).getD 0))]])) (b_68 ++ [(Weight.mk x75 ((mget t_33 x75).getD 0))])) (s.ft 126 rfl)
    exact ⟨m3, Nat.lt_succ_self _, ⟨(t_67 + 1), (b_68 ++ [(Weight.mk x75 ((mget t_33 x75).getD 0))]), (Aq89), (cq89), (cs71 ++ (cellsOfL [.agg #[vT x75, vI (((mget t_33 x75).getD 0))]])), hg, (s.sb rfl rfl rfl)⟩⟩
   replace hg := br_f hg hc81
   apply wp_skip
   refine p_inN ?_
   apply pN
   apply wL
   refine qq s rfl (y_addN (i := t_67) (j := 1) s rfl rfl (in64.2 (by omega))) fun a s => ?_
   refine mv s rfl rfl fun a s => ?_
   apply wN
   replace s := s.al 122 122 rfl
   exact ⟨m3, Nat.lt_succ_self _, ⟨(t_67 + 1), (b_68), (A69), (c70), (cs71), hg, (s.sb rfl rfl rfl)⟩⟩
  replace hg := br_f hg hc72
  apply wp_exit
  refine p_then ?_
  refine p_then ?_
  refine p_in ?_
  apply pN
  replace s := s.al 120 122 rfl
  replace s := s.pk [(1001, 1001), (2100, 2100), (700119, 700121)] (by decide)
  exact ⟨(b_68), (A69), (c70), (cs71), hg, (s.sb rfl rfl rfl)⟩
 clear s a; rintro a w ⟨b_63, A64, c65, cs66, hg, s⟩
 subst hk62
 apply wR
 refine qq s rfl (y_loadAll (kk := 2100) s rfl rfl underlying24 rfl rfl) fun a s => ?_
 refine l_seq rfl (l_store (n := 1) (cs' := [sl A64 (b_63) c65]) s 1001 rfl rfl rfl rfl rfl rfl rfl rfl ?_); clear s; intro w hK s; clear hK
 apply wN
 apply wp_ret
 obtain rfl := Option.some.inj hg
 refine fin1 (fn := Tryz.f18) s rfl (r_cell (kk := 1001) (n := 1) (vs := [sl A64 (b_63) c65]) s rfl rfl underlying24 rfl rfl rfl rfl) ?_
 exact ⟨(A64), (c65), rfl, (s.rowOut (R := RWeight) (kk := 700119) rfl rfl (s.ft 120 rfl))⟩
end Go.Proofs.YthgdajiipojnoaaGreatDoor

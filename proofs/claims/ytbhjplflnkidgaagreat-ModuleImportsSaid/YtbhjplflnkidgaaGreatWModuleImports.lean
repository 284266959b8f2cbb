/- Chapter 22: the walk of ModuleImports -/
import Derived.Test.YtbhjplflnkidgaaGreatWEx
namespace Go.Proofs.YtbhjplflnkidgaaGreat
open Go.Gl Go.RowKit Tryz
set_option linter.unusedVariables false
set_option linter.unusedSimpArgs false
set_option maxRecDepth 4000

set_option maxHeartbeats 1000000 in
theorem c_law22_ModuleImports (n : Nat) (M : Bs) (w0 : World) (hM : ∀ b, M b → b < w0.heap.size) (t_ : (List Module)) (Ap01 : Option Addr) (cp01 : Nat) (hp01 : sR RModule M w0 Ap01 cp01 t_) (t_' : (List UInt8)) (lp11 : (t_').length ≤ 9223372036854775807) (r : Bool) (hg : law22_ModuleImports n t_ t_' = some r) :
    Calls Tryz.prog 8 [sl Ap01 t_ cp01, vT t_'].toArray w0 (Ret noB w0 fun v w => v = .bool (r)) := by
 unfold law22_ModuleImports at hg
 refine enter M noB func8 rfl rfl hM ?_
 intro a s
 obtain ⟨r1, hr1, hg⟩ := bind_some hg
 refine S s <| esw 101 hp01 <| vw <| aw rfl <| nw <| sw <| sw <| lw <| mw rfl fun a s => ?_
 refine lV s rfl func10 (c_law22_light n _ _ s.lt _ _ _ (s.ft 101 rfl) _ hr1) fun a w hK s => ?_
 refine S s <| yw rfl (y_not · rfl) <| nw fun a s => c_cond s rfl (fun hc6 => ?_) (fun hc6 => ?_)
 ·replace hg := br_t hg hc6
  obtain ⟨r7, hr7, hg⟩ := bind_some hg
  apply wQ
  apply wL
  refine lV s rfl func11 (c_law22_exampleHolds n _ _ s.lt  _ hr7) fun a w hK s => ?_
  refine S s <| aw rfl <| nw fun a s => ?_
  apply wp_ret
  refine p_thenR ?_
  obtain rfl := Option.some.inj hg
  exact fin1 (fn := Tryz.f8) s rfl (r_tmp s rfl) rfl
 replace hg := br_n hg hc6
 obtain ⟨r12, hr12, hg⟩ := bind_some hg
 refine S s <| kw <| pw <| sw <| lw <| mw rfl <| mw rfl fun a s => ?_
 refine lC s rfl func12 (c_module_Order n _ _ s.lt _ _ _ (s.ft 101 rfl) _ (by omega) _ hr12) fun v15 a w hK hp s => ?_
 obtain ⟨Au16a1, cu16a1, rfl, hu16a1⟩ := hp
 refine S s <| nsw 103 hu16a1 <| mw rfl <| yw rfl (y_extract · rfl rfl) <| yw rfl (y_extract · rfl rfl) <| aw rfl <| aw rfl <| nw <| sw <| vw <| mw rfl <| yw rfl (y_neq · rfl rfl) <| nw fun a s => c_dec s rfl (fun hc17 => ?_) (fun hc17 => ?_)
 ·replace hg := br_t hg hc17
  apply wQ
  rcases Decidable.em (((r12.1).length) = 0) with hs18 | hs18
  ·have hs18e := decide_eq_true hs18
   replace hg := br_t hg hs18
   obtain ⟨r19, hr19, hg⟩ := bind_some hg
   refine S s <| lw <| mw rfl <| yw rfl (y_lenSlice · rfl underlying25) <| yw rfl (fun s => yl_b (y_eqlN (i := ((r12.1).length)) (j := 0) s rfl rfl) hs18e) <| mw rfl fun a s => ?_
   refine gV s rfl func11 (c_law22_exampleHolds n _ _ s.lt  _ hr19) fun a w hK s => ?_
   refine S s <| yw rfl (y_pick_t · rfl rfl) <| aw rfl <| nw fun a s => ?_
   apply wp_ret
   refine p_thenR ?_
   obtain rfl := Option.some.inj hg
   exact fin1 (fn := Tryz.f8) s rfl (r_tmp s rfl) rfl
  have hs18e := decide_eq_false hs18
  replace hg := br_f hg hs18
  refine S s <| lw <| mw rfl <| yw rfl (y_lenSlice · rfl underlying25) <| yw rfl (fun s => yl_b (y_eqlN (i := ((r12.1).length)) (j := 0) s rfl rfl) hs18e) <| mw rfl <| gw rfl <| yw rfl (y_pick_f · rfl rfl) <| aw rfl <| nw fun a s => ?_
  apply wp_ret
  refine p_thenR ?_
  obtain rfl := Option.some.inj hg
  exact fin1 (fn := Tryz.f8) s rfl (r_tmp s rfl) rfl
 replace hg := br_f hg hc17
 apply wp_skip
 apply pN
 apply wQ
 apply wQ
 obtain ⟨k24, hg, hk24⟩ := jn_some hg
 refine c_post (fun a w => ∃ (t_25 : Bool), k24 t_25 = some r ∧ St (cx f8 M w0) [(0, sl Ap01 t_ cp01), (1, vT (t_')), (5, sl Au16a1 r12.1 cu16a1), (45, .bool (t_25))] [] [(101, sF RModule Ap01 cp01 t_), (103, sF Rep.str Au16a1 cu16a1 r12.1)] a w) ?_ ?_
 ·rcases Decidable.em (((r12.1).length) = 0) with hs26 | hs26
  ·have hs26e := decide_eq_true hs26
   replace hg := br_t hg hs26
   refine S s <| lw <| mw rfl <| yw rfl (y_lenSlice · rfl underlying25) <| yw rfl (fun s => yl_b (y_eqlN (i := ((r12.1).length)) (j := 0) s rfl rfl) hs26e) <| mw rfl <| gw rfl <| gw rfl <| gw rfl <| gw rfl <| gw rfl <| gw rfl <| gw rfl <| gw rfl <| yw rfl (y_pick_t · rfl rfl) <| nw fun a s => ?_
   exact ⟨(true), hg, (s.sb rfl rfl rfl)⟩
  have hs26e := decide_eq_false hs26
  replace hg := br_f hg hs26
  obtain ⟨x28, hx28, hg⟩ := bind_some hg
  refine S s <| lw <| mw rfl <| yw rfl (y_lenSlice · rfl underlying25) <| yw rfl (fun s => yl_b (y_eqlN (i := ((r12.1).length)) (j := 0) s rfl rfl) hs26e) <| mw rfl <| hw rfl <| hw rfl <| zw rfl (y_lenSlice · rfl underlying25) fun a s => ?_
  have hmx30 := SlR.mx (s.ft 103 rfl)
  refine gy s rfl (y_sub s rfl rfl (in64.2 (by omega))) fun a s => ?_
  obtain ⟨p31, hep31, hlq32, hmq32, csq32, hdq32, hcq32⟩ := SlR.elemX (s.ft 103 rfl) (ix_some hx28).1
  refine gy s rfl (y_elem (sz := 1) (i := (((((r12.1).length : Nat) : Int) - 1).toNat)) s rfl rfl underlying25 rfl hep31 (ix_some hx28).2.1 (lt_of_get (ix_some hx28).1)) fun a s => ?_
  obtain ⟨rfl, lq321⟩ := hdq32
  refine S s <| zw rfl (y_ldp1 · rfl hlq32 hmq32 (hcq32 0 _ rfl) underlying9 rfl) <| hw rfl <| zw rfl (y_sne · rfl rfl) <| yw rfl (y_pick_f · rfl rfl) <| nw fun a s => ?_
  exact ⟨(decide ((x28 : List UInt8) ≠ t_')), hg, (s.sb rfl rfl rfl)⟩
 clear s a; rintro a w ⟨t_25, hg, s⟩
 subst hk24
 refine c_cond s rfl (fun hc33 => ?_) (fun hc33 => ?_)
 ·replace hg := br_t hg hc33
  refine S s <| vw <| aw rfl <| nw fun a s => ?_
  apply wp_ret
  refine p_thenR ?_
  obtain rfl := Option.some.inj hg
  exact fin1 (fn := Tryz.f8) s rfl (r_tmp s rfl) rfl
 replace hg := br_n hg hc33
 refine S s <| kw <| pw <| sw <| vw <| aw rfl <| nw fun a s => ?_
 obtain ⟨k34, hg, hk34⟩ := jn_some hg
 refine c_post (fun a w => k34 = some r ∧ St (cx f8 M w0) [(0, sl Ap01 t_ cp01), (1, vT (t_')), (5, sl Au16a1 r12.1 cu16a1)] [] [(101, sF RModule Ap01 cp01 t_), (103, sF Rep.str Au16a1 cu16a1 r12.1)] a w) ?_ ?_
 ·apply wp_block
  refine c_loop (σ := Nat) (fun m1 a w => ∃ (t_35 : Nat), law22_ModuleImports_L0 n t_ r12 k34 m1 t_35 = some r ∧ St (cx f8 M w0) [(0, sl Ap01 t_ cp01), (1, vT (t_')), (5, sl Au16a1 r12.1 cu16a1), (7, vI (((t_35 : Nat) : Int)))] [] [(101, sF RModule Ap01 cp01 t_), (103, sF Rep.str Au16a1 cu16a1 r12.1)] a w) (fun m1 => m1) n ⟨(0), hg, (s.sb rfl rfl rfl)⟩ ?_
  clear s a; rintro m1 a w ⟨t_35, hg, s⟩
  rcases m1 with _ | m1
  ·rw [law22_ModuleImports_L0] at hg; cases hg
  rw [law22_ModuleImports_L0] at hg
  refine S s <| sw <| vw <| mw rfl <| mw rfl <| yw rfl (y_lenSlice · rfl underlying25) <| yw rfl (y_lssN (i := t_35) (j := ((r12.1).length)) · rfl rfl) <| nw fun a s => c_dec s rfl (fun hc36 => ?_) (fun hc36 => ?_)
  ·replace hg := br_t hg hc36
   have hmx37 := SlR.mx (s.ft 103 rfl)
   obtain ⟨hk38, hg⟩ := chk_some hg
   obtain ⟨x40, hx40, hg⟩ := bind_some hg
   obtain ⟨r42, hr42, hg⟩ := bind_some hg
   refine S s <| kw <| pw <| sw <| bw <| sw <| sw fun a s => ?_
   refine d_plan s [] [(0, some 0), (1, some 0), (2, some 0), (3, some 0), (4, some 0), (5, some 0), (6, some 0), (7, none)] rfl (by kernel_rfl) (by kernel_rfl) rfl ?_; clear s; intro wr hZ s; have hR := s.wd
   refine S s <| qw hR rfl (y_move · rfl) <| qw hR rfl (y_move · rfl) fun a s => ?_
   have hcap105 := (s.ft 103 rfl).cap
   refine qt s hR rfl (y_cutH (xs := r12.1) (sz := 1) (i := t_35) s rfl rfl underlying25 rfl rfl hk38 hcap105) fun a s => ?_
   replace s := s.add 105 (sF Rep.str Au16a1 cu16a1 ((r12.1).take t_35)) (SlR.cutH (s.ft 103 rfl) t_35 hk38)
   refine S s <| qw hR rfl (y_move · rfl) <| qw hR rfl (y_move · rfl) fun a s => ?_
   obtain ⟨p45, hep45, hlq46, hmq46, csq46, hdq46, hcq46⟩ := SlR.elemX (s.ft 103 rfl) hx40
   refine qt s hR rfl (y_elem (sz := 1) (i := t_35) s rfl rfl underlying25 rfl hep45 rfl (lt_of_get hx40)) fun a s => ?_
   obtain ⟨rfl, lq461⟩ := hdq46
   refine qt s hR rfl (y_ldp1 s rfl hlq46 hmq46 (hcq46 0 _ rfl) underlying9 rfl) fun a s => ?_
   refine l_take s rfl rfl (l_call (cap := []) s rfl func20 rfl (by kernel_rfl) rfl rfl (c_law22_has n _ _ s.lt _ _ _ (s.ft 105 rfl) _ (by omega) _ hr42) fun v47 a w hK hp s => ?_)
   replace hZ := Nat.le_trans hZ hK.size; refine ⟨fun g _ h => h.grow hK, ?_⟩; clear hK
   obtain rfl := hp
   clear hR hZ
   apply pN
   refine c_cond s rfl (fun hc49 => ?_) (fun hc49 => ?_)
   ·replace hg := br_t hg hc49
    refine S s <| vw <| aw rfl <| nw fun a s => ?_
    apply wp_ret
    refine p_thenR ?_
    refine p_inR ?_
    refine p_thenR ?_
    refine p_thenR ?_
    refine p_inR ?_
    refine p_thenR ?_
    obtain rfl := Option.some.inj hg
    exact fin1 (fn := Tryz.f8) s rfl (r_tmp s rfl) rfl
   replace hg := br_n hg hc49
   refine S s <| kw <| pw <| vw <| mw rfl <| mw rfl <| yw rfl (y_lenSlice · rfl underlying25) fun a s => ?_
   have hmx50 := SlR.mx (s.ft 103 rfl)
   refine S s <| yw rfl (y_sub · rfl rfl (in64.2 (by omega))) <| yw rfl (y_eql · rfl rfl) <| aw rfl <| nw <| sw <| vw <| aw rfl <| nw fun a s => ?_
   obtain ⟨k51, hg, hk51⟩ := jn_some hg
   refine c_post (fun a w => ∃ (t_52 : Bool), k51 t_52 = some r ∧ St (cx f8 M w0) [(0, sl Ap01 t_ cp01), (1, vT (t_')), (5, sl Au16a1 r12.1 cu16a1), (7, vI (((t_35 : Nat) : Int))), (8, .bool (t_52))] [] [(101, sF RModule Ap01 cp01 t_), (103, sF Rep.str Au16a1 cu16a1 r12.1)] a w) ?_ ?_
   ·apply wp_block
    refine c_loop (σ := Nat) (fun m2 a w => ∃ (t_53 : Bool) (t_54 : Nat), law22_ModuleImports_L1 n t_ r12 t_35 x40 k51 m2 t_53 t_54 = some r ∧ St (cx f8 M w0) [(0, sl Ap01 t_ cp01), (1, vT (t_')), (5, sl Au16a1 r12.1 cu16a1), (7, vI (((t_35 : Nat) : Int))), (8, .bool (t_53)), (9, vI (((t_54 : Nat) : Int)))] [] [(101, sF RModule Ap01 cp01 t_), (103, sF Rep.str Au16a1 cu16a1 r12.1)] a w) (fun m2 => m2) n ⟨(decide (((t_35 : Nat) : Int) = ((((r12.1).length : Nat) : Int) - 1))), (0), hg, (s.sb rfl rfl rfl)⟩ ?_
    clear s a; rintro m2 a w ⟨t_53, t_54, hg, s⟩
    rcases m2 with _ | m2
    ·rw [law22_ModuleImports_L1] at hg; cases hg
    rw [law22_ModuleImports_L1] at hg
    refine S s <| sw <| vw <| mw rfl <| mw rfl <| yw rfl (y_lenSlice · rfl underlying22) <| yw rfl (y_lssN (i := t_54) (j := ((t_).length)) · rfl rfl) <| nw fun a s => c_dec s rfl (fun hc55 => ?_) (fun hc55 => ?_)
    ·replace hg := br_t hg hc55
     have hmx56 := SlR.mx (s.ft 101 rfl)
     apply wp_skip
     apply pN
     apply wQ
     obtain ⟨k57, hg, hk57⟩ := jn_some hg
     refine c_post (fun a w => ∃ (t_58 : Bool), k57 t_58 = some r ∧ St (cx f8 M w0) [(0, sl Ap01 t_ cp01), (1, vT (t_')), (5, sl Au16a1 r12.1 cu16a1), (7, vI (((t_35 : Nat) : Int))), (8, .bool (t_58)), (9, vI (((t_54 : Nat) : Int)))] [] [(101, sF RModule Ap01 cp01 t_), (103, sF Rep.str Au16a1 cu16a1 r12.1)] a w) ?_ ?_
     ·refine S s <| bw <| vw <| aw rfl <| nw <| bw fun a s => ?_
      refine c_loop (σ := Nat) (fun m3 a w => ∃ (t_59 : Bool) (t_60 : Nat), law22_ModuleImports_L2 n t_ r12 t_35 x40 t_54 k57 m3 t_59 t_60 = some r ∧ St (cx f8 M w0) [(0, sl Ap01 t_ cp01), (1, vT (t_')), (5, sl Au16a1 r12.1 cu16a1), (7, vI (((t_35 : Nat) : Int))), (8, .bool (t_59)), (9, vI (((t_54 : Nat) : Int))), (10, vI (((t_60 : Nat) : Int)))] [] [(101, sF RModule Ap01 cp01 t_), (103, sF Rep.str Au16a1 cu16a1 r12.1)] a w) (fun m3 => m3) n ⟨(t_53), (0), hg, (s.sb rfl rfl rfl)⟩ ?_
      clear s a; rintro m3 a w ⟨t_59, t_60, hg, s⟩
      rcases m3 with _ | m3
      ·rw [law22_ModuleImports_L2] at hg; cases hg
      rw [law22_ModuleImports_L2] at hg
      obtain ⟨x62, hx62, hg⟩ := bind_some hg
      refine S s <| sw <| sw <| lw <| mw rfl <| mw rfl <| mw rfl fun a s => ?_
      obtain ⟨p64, hep64, hlq65, hmq65, csq65, hdq65, hcq65⟩ := SlR.elemX (s.ft 101 rfl) hx62
      refine S s <| yw rfl (y_elem (sz := 10) (i := t_54) · rfl rfl underlying22 rfl hep64 rfl (lt_of_get hx62)) <| yw rfl (y_ptrField (o' := 1) · rfl underlying38 rfl rfl rfl) fun a s => ?_
      obtain ⟨Aq652, cq652, Aq653, cq653, Aq654, cq654, Aq655, cq655, Aq656, cq656, Aq657, cq657, Aq658, cq658, Aq659, cq659, Aq6510, cq6510, rfl, lq651, hq652, hq653, hq654, hq655, hq656, hq657, hq658, hq659, hq6510⟩ := RModule.open hdq65
      refine S s <| nsw 115 hq652 <| nsw 116 hq653 <| nsw 117 hq654 <| nsw 118 hq655 <| nsw 119 hq656 <| nsw 120 hq657 <| nsw 121 hq658 <| nsw 122 hq659 <| nsw 123 hq6510 <| yw rfl (y_ldp1 · rfl hlq65 hmq65 (hcq65 1 _ rfl) underlying25 rfl) <| yw rfl (y_lenSlice · rfl underlying25) <| yw rfl (y_lssN (i := t_60) (j := ((x62.Imports).length)) · rfl rfl) <| nw fun a s => c_dec s rfl (fun hc66 => ?_) (fun hc66 => ?_)
      ·replace hg := br_t hg hc66
       have hmx67 := SlR.mx (s.ft 115 rfl)
       refine S s <| kw <| pw <| sw <| bw <| sw fun a s => ?_
       obtain ⟨k68, hg, hk68⟩ := jn_some hg
       refine c_post (fun a w => ∃ (t_69 : Bool), k68 t_69 = some r ∧ St (cx f8 M w0) [(0, sl Ap01 t_ cp01), (1, vT (t_')), (5, sl Au16a1 r12.1 cu16a1), (7, vI (((t_35 : Nat) : Int))), (8, .bool (t_69)), (9, vI (((t_54 : Nat) : Int))), (10, vI (((t_60 : Nat) : Int)))] [] [(101, sF RModule Ap01 cp01 t_), (103, sF Rep.str Au16a1 cu16a1 r12.1)] a w) ?_ ?_
       ·rcases Bool.eq_false_or_eq_true (t_59) with hs70 | hs70
        ·replace hg := br_t hg hs70
         refine d_plan s [] [(0, some 0), (1, some 0), (2, some 0), (3, some 0), (4, some 0), (5, some 0), (6, some 0), (7, some 0), (8, some 0), (9, some 0), (10, some 0), (11, some 0), (12, some 0), (13, some 0), (14, some 0), (15, some 0), (16, some 0), (17, some 0), (18, some 0), (19, some 0), (20, some 0), (21, some 0), (22, some 0), (23, some 0), (24, some 0), (25, some 0), (26, some 0), (27, some 0), (28, some 0)] rfl (by kernel_rfl) (by kernel_rfl) rfl ?_; clear s; intro wr hZ s; have hR := s.wd
         refine S s <| qw hR rfl (fun s => yl_b (y_move s rfl) hs70) <| qw hR rfl (y_move · rfl) <| qpw hR rfl <| qpw hR rfl <| qpw hR rfl <| qpw hR rfl <| qpw hR rfl <| qpw hR rfl <| qpw hR rfl <| qpw hR rfl <| qpw hR rfl <| qpw hR rfl <| qpw hR rfl <| qpw hR rfl <| qpw hR rfl <| qpw hR rfl <| qpw hR rfl <| qpw hR rfl <| qpw hR rfl <| qpw hR rfl <| qpw hR rfl <| qpw hR rfl <| qpw hR rfl <| qpw hR rfl <| qpw hR rfl <| qpw hR rfl <| qpw hR rfl <| qw hR rfl (y_pick_t · rfl rfl) <| qw hR rfl (y_assign · rfl) fun a s => ?_
         clear hR hZ
         apply pN
         exact ⟨(true), hg, (s.sb rfl rfl rfl)⟩
        replace hg := br_n hg hs70
        obtain ⟨x74, hx74, hg⟩ := bind_some hg
        rcases Decidable.em ((x74 : List UInt8) = x40) with hs78 | hs78
        ·have hs78e := decide_eq_true hs78
         replace hg := br_t hg hs78
         obtain ⟨hk79, hg⟩ := chk_some hg
         obtain ⟨r82, hr82, hg⟩ := bind_some hg
         refine d_plan s [] [(0, some 0), (1, some 0), (2, some 0), (3, some 0), (4, some 0), (5, some 0), (6, some 0), (7, some 0), (8, some 0), (9, some 0), (10, some 0), (11, some 0), (12, some 0), (13, some 0), (14, some 0), (15, some 0), (16, some 0), (17, some 0), (18, some 0), (19, some 0), (20, some 0), (21, some 0), (22, some 0), (23, some 0), (24, some 0), (25, none), (26, none), (27, none), (28, none)] rfl (by kernel_rfl) (by kernel_rfl) rfl ?_; clear s; intro wr hZ s; have hR := s.wd
         refine S s <| qw hR rfl (fun s => yl_b (y_move s rfl) hs70) <| qw hR rfl (y_move · rfl) fun a s => ?_
         refine qg s hR rfl (y_move s rfl) fun a s => ?_
         refine qg s hR rfl (y_move s rfl) fun a s => ?_
         obtain ⟨p85, hep85, hlq86, hmq86, csq86, hdq86, hcq86⟩ := SlR.elemX (s.ft 101 rfl) hx62
         refine qg s hR rfl (y_elem (sz := 10) (i := t_54) s rfl rfl underlying22 rfl hep85 rfl (lt_of_get hx62)) fun a s => ?_
         refine qg s hR rfl (y_ptrField (o' := 1) s rfl underlying38 rfl rfl rfl) fun a s => ?_
         obtain ⟨Aq862, cq862, Aq863, cq863, Aq864, cq864, Aq865, cq865, Aq866, cq866, Aq867, cq867, Aq868, cq868, Aq869, cq869, Aq8610, cq8610, rfl, lq861, hq862, hq863, hq864, hq865, hq866, hq867, hq868, hq869, hq8610⟩ := RModule.open hdq86
         replace s := s.ns 143 hq862 |>.ns 144 hq863 |>.ns 145 hq864 |>.ns 146 hq865 |>.ns 147 hq866 |>.ns 148 hq867 |>.ns 149 hq868 |>.ns 150 hq869 |>.ns 151 hq8610
         refine qg s hR rfl (y_ldp1 s rfl hlq86 hmq86 (hcq86 1 _ rfl) underlying25 rfl) fun a s => ?_
         refine qg s hR rfl (y_move s rfl) fun a s => ?_
         obtain ⟨p87, hep87, hlq88, hmq88, csq88, hdq88, hcq88⟩ := SlR.elemX (s.ft 143 rfl) hx74
         refine qg s hR rfl (y_elem (sz := 1) (i := t_60) s rfl rfl underlying25 rfl hep87 rfl (lt_of_get hx74)) fun a s => ?_
         obtain ⟨rfl, lq881⟩ := hdq88
         refine qg s hR rfl (y_ldp1 s rfl hlq88 hmq88 (hcq88 0 _ rfl) underlying9 rfl) fun a s => ?_
         refine qg s hR rfl (y_move s rfl) fun a s => ?_
         refine qg s hR rfl (y_move s rfl) fun a s => ?_
         obtain ⟨p89, hep89, hlq90, hmq90, csq90, hdq90, hcq90⟩ := SlR.elemX (s.ft 103 rfl) hx40
         refine qg s hR rfl (y_elem (sz := 1) (i := t_35) s rfl rfl underlying25 rfl hep89 rfl (lt_of_get hx40)) fun a s => ?_
         obtain ⟨rfl, lq901⟩ := hdq90
         refine qg s hR rfl (y_ldp1 s rfl hlq90 hmq90 (hcq90 0 _ rfl) underlying9 rfl) fun a s => ?_
         refine qg s hR rfl (yl_b (y_seq s rfl rfl) hs78e) fun a s => ?_
         refine qg s hR rfl (y_move s rfl) fun a s => ?_
         refine qg s hR rfl (y_move s rfl) fun a s => ?_
         refine qg s hR rfl (y_move s rfl) fun a s => ?_
         refine qg s hR rfl (y_addN (i := t_35) (j := 1) s rfl rfl (in64.2 (by omega))) fun a s => ?_
         have hcap152 := (s.ft 103 rfl).cap
         refine qg s hR rfl (y_cutL (xs := r12.1) (sz := 1) (i := (t_35 + 1)) s rfl rfl underlying25 rfl rfl hk79 hcap152) fun a s => ?_
         replace s := s.add 152 (slF Rep.str (if cu16a1 = t_35 + 1 then Au16a1 else (Au16a1).map (·.add ((t_35 + 1) * 1))) (((r12.1).drop (t_35 + 1)).length) (cu16a1 - (t_35 + 1)) ((r12.1).drop (t_35 + 1))) (SlR.cutL (s.ft 103 rfl) (t_35 + 1) hk79)
         refine qg s hR rfl (y_move s rfl) fun a s => ?_
         refine qg s hR rfl (y_move s rfl) fun a s => ?_
         obtain ⟨p91, hep91, hlq92, hmq92, csq92, hdq92, hcq92⟩ := SlR.elemX (s.ft 101 rfl) hx62
         refine qg s hR rfl (y_elem (sz := 10) (i := t_54) s rfl rfl underlying22 rfl hep91 rfl (lt_of_get hx62)) fun a s => ?_
         refine qg s hR rfl (y_ptrField (o' := 0) s rfl underlying38 rfl rfl rfl) fun a s => ?_
         obtain ⟨Aq922, cq922, Aq923, cq923, Aq924, cq924, Aq925, cq925, Aq926, cq926, Aq927, cq927, Aq928, cq928, Aq929, cq929, Aq9210, cq9210, rfl, lq921, hq922, hq923, hq924, hq925, hq926, hq927, hq928, hq929, hq9210⟩ := RModule.open hdq92
         replace s := s.ns 153 hq922 |>.ns 154 hq923 |>.ns 155 hq924 |>.ns 156 hq925 |>.ns 157 hq926 |>.ns 158 hq927 |>.ns 159 hq928 |>.ns 160 hq929 |>.ns 161 hq9210
         refine qg s hR rfl (y_ldp1 s rfl hlq92 hmq92 (hcq92 0 _ rfl) underlying9 rfl) fun a s => ?_
         refine l_take s rfl ⟨_, _, _, rfl, rfl, rfl, rfl⟩ (l_call (cap := []) s rfl func20 rfl (by kernel_rfl) rfl rfl (c_law22_has n _ _ s.lt _ _ _ (s.ft 152 rfl) _ (by omega) _ hr82) fun v93 a w hK hp s => ?_)
         replace hZ := Nat.le_trans hZ hK.size; refine ⟨fun g _ h => h.grow hK, ?_⟩; clear hK
         obtain rfl := hp
         refine S s <| tw rfl (y_pick_t · rfl rfl) <| tw rfl (y_pick_f · rfl rfl) <| tw rfl (y_assign · rfl) fun a s => ?_
         clear hR hZ
         apply pN
         exact ⟨(r82), hg, (s.sb rfl rfl rfl)⟩
        have hs78e := decide_eq_false hs78
        replace hg := br_f hg hs78
        refine d_plan s [] [(0, some 0), (1, some 0), (2, some 0), (3, some 0), (4, some 0), (5, some 0), (6, some 0), (7, some 0), (8, some 0), (9, some 0), (10, some 0), (11, some 0), (12, some 0), (13, some 0), (14, some 0), (15, some 0), (16, some 0), (17, some 0), (18, some 0), (19, some 0), (20, some 0), (21, some 0), (22, some 0), (23, some 0), (24, some 0), (25, some 0), (26, some 0), (27, some 0), (28, some 0)] rfl (by kernel_rfl) (by kernel_rfl) rfl ?_; clear s; intro wr hZ s; have hR := s.wd
        refine S s <| qw hR rfl (fun s => yl_b (y_move s rfl) hs70) <| qw hR rfl (y_move · rfl) fun a s => ?_
        refine qg s hR rfl (y_move s rfl) fun a s => ?_
        refine qg s hR rfl (y_move s rfl) fun a s => ?_
        obtain ⟨p95, hep95, hlq96, hmq96, csq96, hdq96, hcq96⟩ := SlR.elemX (s.ft 101 rfl) hx62
        refine qg s hR rfl (y_elem (sz := 10) (i := t_54) s rfl rfl underlying22 rfl hep95 rfl (lt_of_get hx62)) fun a s => ?_
        refine qg s hR rfl (y_ptrField (o' := 1) s rfl underlying38 rfl rfl rfl) fun a s => ?_
        obtain ⟨Aq962, cq962, Aq963, cq963, Aq964, cq964, Aq965, cq965, Aq966, cq966, Aq967, cq967, Aq968, cq968, Aq969, cq969, Aq9610, cq9610, rfl, lq961, hq962, hq963, hq964, hq965, hq966, hq967, hq968, hq969, hq9610⟩ := RModule.open hdq96
        replace s := s.ns 162 hq962 |>.ns 163 hq963 |>.ns 164 hq964 |>.ns 165 hq965 |>.ns 166 hq966 |>.ns 167 hq967 |>.ns 168 hq968 |>.ns 169 hq969 |>.ns 170 hq9610
        refine qg s hR rfl (y_ldp1 s rfl hlq96 hmq96 (hcq96 1 _ rfl) underlying25 rfl) fun a s => ?_
        refine qg s hR rfl (y_move s rfl) fun a s => ?_
        obtain ⟨p97, hep97, hlq98, hmq98, csq98, hdq98, hcq98⟩ := SlR.elemX (s.ft 162 rfl) hx74
        refine qg s hR rfl (y_elem (sz := 1) (i := t_60) s rfl rfl underlying25 rfl hep97 rfl (lt_of_get hx74)) fun a s => ?_
        obtain ⟨rfl, lq981⟩ := hdq98
        refine qg s hR rfl (y_ldp1 s rfl hlq98 hmq98 (hcq98 0 _ rfl) underlying9 rfl) fun a s => ?_
        refine qg s hR rfl (y_move s rfl) fun a s => ?_
        refine qg s hR rfl (y_move s rfl) fun a s => ?_
        obtain ⟨p99, hep99, hlq100, hmq100, csq100, hdq100, hcq100⟩ := SlR.elemX (s.ft 103 rfl) hx40
        refine qg s hR rfl (y_elem (sz := 1) (i := t_35) s rfl rfl underlying25 rfl hep99 rfl (lt_of_get hx40)) fun a s => ?_
        obtain ⟨rfl, lq1001⟩ := hdq100
        refine qg s hR rfl (y_ldp1 s rfl hlq100 hmq100 (hcq100 0 _ rfl) underlying9 rfl) fun a s => ?_
        refine qg s hR rfl (yl_b (y_seq s rfl rfl) hs78e) fun a s => ?_
        refine qg s hR rfl (y_move s rfl) fun a s => ?_
        refine S s <| qpw hR rfl <| qpw hR rfl <| qpw hR rfl <| qpw hR rfl <| qpw hR rfl <| qpw hR rfl <| qpw hR rfl <| qpw hR rfl <| qpw hR rfl <| qpw hR rfl fun a s => ?_
        refine qg s hR rfl (y_pick_f s rfl rfl) fun a s => ?_
        refine S s <| qw hR rfl (y_pick_f · rfl rfl) <| qw hR rfl (y_assign · rfl) fun a s => ?_
        clear hR hZ
        apply pN
        exact ⟨(false), hg, (s.sb rfl rfl rfl)⟩
       clear s a; rintro a w ⟨t_69, hg, s⟩
       subst hk68
       apply wQ
       obtain ⟨k101, hg, hk101⟩ := jn_some hg
       refine c_post (fun a w => ∃ (t_102 : Bool), k101 t_102 = some r ∧ St (cx f8 M w0) [(0, sl Ap01 t_ cp01), (1, vT (t_')), (5, sl Au16a1 r12.1 cu16a1), (7, vI (((t_35 : Nat) : Int))), (8, .bool (t_69)), (9, vI (((t_54 : Nat) : Int))), (10, vI (((t_60 : Nat) : Int))), (133, .bool (t_102))] [] [(101, sF RModule Ap01 cp01 t_), (103, sF Rep.str Au16a1 cu16a1 r12.1)] a w) ?_ ?_
       ·rcases Decidable.em ((x62.Name : List UInt8) = x40) with hs107 | hs107
        ·have hs107e := decide_eq_true hs107
         replace hg := br_t hg hs107
         obtain ⟨x111, hx111, hg⟩ := bind_some hg
         obtain ⟨r113, hr113, hg⟩ := bind_some hg
         refine d_plan s [] [(0, some 0), (1, some 0), (2, some 0), (3, some 0), (4, some 0), (5, some 0), (6, some 0), (7, some 0), (8, some 0), (9, some 0), (10, some 0), (11, some 0), (12, some 0), (13, some 0), (14, some 0), (15, some 0), (16, some 0), (17, some 0), (18, some 0), (19, some 0), (20, some 0), (21, some 0), (22, none), (23, none), (24, none)] rfl (by kernel_rfl) (by kernel_rfl) rfl ?_; clear s; intro wr hZ s; have hR := s.wd
         refine S s <| qw hR rfl (y_move · rfl) <| qw hR rfl (y_move · rfl) fun a s => ?_
         obtain ⟨p116, hep116, hlq117, hmq117, csq117, hdq117, hcq117⟩ := SlR.elemX (s.ft 101 rfl) hx62
         refine S s <| qw hR rfl (y_elem (sz := 10) (i := t_54) · rfl rfl underlying22 rfl hep116 rfl (lt_of_get hx62)) <| qw hR rfl (y_ptrField (o' := 0) · rfl underlying38 rfl rfl rfl) fun a s => ?_
         obtain ⟨Aq1172, cq1172, Aq1173, cq1173, Aq1174, cq1174, Aq1175, cq1175, Aq1176, cq1176, Aq1177, cq1177, Aq1178, cq1178, Aq1179, cq1179, Aq11710, cq11710, rfl, lq1171, hq1172, hq1173, hq1174, hq1175, hq1176, hq1177, hq1178, hq1179, hq11710⟩ := RModule.open hdq117
         refine S s <| nsw 190 hq1172 <| nsw 191 hq1173 <| nsw 192 hq1174 <| nsw 193 hq1175 <| nsw 194 hq1176 <| nsw 195 hq1177 <| nsw 196 hq1178 <| nsw 197 hq1179 <| nsw 198 hq11710 <| qw hR rfl (y_ldp1 · rfl hlq117 hmq117 (hcq117 0 _ rfl) underlying9 rfl) <| qw hR rfl (y_move · rfl) <| qw hR rfl (y_move · rfl) fun a s => ?_
         obtain ⟨p118, hep118, hlq119, hmq119, csq119, hdq119, hcq119⟩ := SlR.elemX (s.ft 103 rfl) hx40
         refine qt s hR rfl (y_elem (sz := 1) (i := t_35) s rfl rfl underlying25 rfl hep118 rfl (lt_of_get hx40)) fun a s => ?_
         obtain ⟨rfl, lq1191⟩ := hdq119
         refine S s <| qw hR rfl (y_ldp1 · rfl hlq119 hmq119 (hcq119 0 _ rfl) underlying9 rfl) <| qw hR rfl (fun s => yl_b (y_seq s rfl rfl) hs107e) <| qw hR rfl (y_move · rfl) fun a s => ?_
         refine qg s hR rfl (y_move s rfl) fun a s => ?_
         refine qg s hR rfl (y_move s rfl) fun a s => ?_
         have hcap199 := (s.ft 103 rfl).cap
         refine qg s hR rfl (y_cutH (xs := r12.1) (sz := 1) (i := t_35) s rfl rfl underlying25 rfl rfl hk38 hcap199) fun a s => ?_
         replace s := s.add 199 (sF Rep.str Au16a1 cu16a1 ((r12.1).take t_35)) (SlR.cutH (s.ft 103 rfl) t_35 hk38)
         refine qg s hR rfl (y_move s rfl) fun a s => ?_
         refine qg s hR rfl (y_move s rfl) fun a s => ?_
         obtain ⟨p120, hep120, hlq121, hmq121, csq121, hdq121, hcq121⟩ := SlR.elemX (s.ft 101 rfl) hx62
         refine qg s hR rfl (y_elem (sz := 10) (i := t_54) s rfl rfl underlying22 rfl hep120 rfl (lt_of_get hx62)) fun a s => ?_
         refine qg s hR rfl (y_ptrField (o' := 1) s rfl underlying38 rfl rfl rfl) fun a s => ?_
         obtain ⟨Aq1212, cq1212, Aq1213, cq1213, Aq1214, cq1214, Aq1215, cq1215, Aq1216, cq1216, Aq1217, cq1217, Aq1218, cq1218, Aq1219, cq1219, Aq12110, cq12110, rfl, lq1211, hq1212, hq1213, hq1214, hq1215, hq1216, hq1217, hq1218, hq1219, hq12110⟩ := RModule.open hdq121
         replace s := s.ns 200 hq1212 |>.ns 201 hq1213 |>.ns 202 hq1214 |>.ns 203 hq1215 |>.ns 204 hq1216 |>.ns 205 hq1217 |>.ns 206 hq1218 |>.ns 207 hq1219 |>.ns 208 hq12110
         refine qg s hR rfl (y_ldp1 s rfl hlq121 hmq121 (hcq121 1 _ rfl) underlying25 rfl) fun a s => ?_
         refine qg s hR rfl (y_move s rfl) fun a s => ?_
         obtain ⟨p122, hep122, hlq123, hmq123, csq123, hdq123, hcq123⟩ := SlR.elemX (s.ft 200 rfl) hx111
         refine qg s hR rfl (y_elem (sz := 1) (i := t_60) s rfl rfl underlying25 rfl hep122 rfl (lt_of_get hx111)) fun a s => ?_
         obtain ⟨rfl, lq1231⟩ := hdq123
         refine qg s hR rfl (y_ldp1 s rfl hlq123 hmq123 (hcq123 0 _ rfl) underlying9 rfl) fun a s => ?_
         refine l_take s rfl ⟨_, _, _, rfl, rfl, rfl, rfl⟩ (l_call (cap := []) s rfl func20 rfl (by kernel_rfl) rfl rfl (c_law22_has n _ _ s.lt _ _ _ (s.ft 199 rfl) _ (by omega) _ hr113) fun v124 a w hK hp s => ?_)
         replace hZ := Nat.le_trans hZ hK.size; refine ⟨fun g _ h => h.grow hK, ?_⟩; clear hK
         obtain rfl := hp
         refine S s <| tw rfl (y_not · rfl) <| tw rfl (y_pick_t · rfl rfl) fun a s => ?_
         clear hR hZ
         apply pN
         exact ⟨(!(r113)), hg, (s.sb rfl rfl rfl)⟩
        have hs107e := decide_eq_false hs107
        replace hg := br_f hg hs107
        refine d_plan s [] [(0, some 0), (1, some 0), (2, some 0), (3, some 0), (4, some 0), (5, some 0), (6, some 0), (7, some 0), (8, some 0), (9, some 0), (10, some 0), (11, some 0), (12, some 0), (13, some 0), (14, some 0), (15, some 0), (16, some 0), (17, some 0), (18, some 0), (19, some 0), (20, some 0), (21, some 0), (22, some 0), (23, some 0), (24, some 0)] rfl (by kernel_rfl) (by kernel_rfl) rfl ?_; clear s; intro wr hZ s; have hR := s.wd
        refine S s <| qw hR rfl (y_move · rfl) <| qw hR rfl (y_move · rfl) fun a s => ?_
        obtain ⟨p126, hep126, hlq127, hmq127, csq127, hdq127, hcq127⟩ := SlR.elemX (s.ft 101 rfl) hx62
        refine S s <| qw hR rfl (y_elem (sz := 10) (i := t_54) · rfl rfl underlying22 rfl hep126 rfl (lt_of_get hx62)) <| qw hR rfl (y_ptrField (o' := 0) · rfl underlying38 rfl rfl rfl) fun a s => ?_
        obtain ⟨Aq1272, cq1272, Aq1273, cq1273, Aq1274, cq1274, Aq1275, cq1275, Aq1276, cq1276, Aq1277, cq1277, Aq1278, cq1278, Aq1279, cq1279, Aq12710, cq12710, rfl, lq1271, hq1272, hq1273, hq1274, hq1275, hq1276, hq1277, hq1278, hq1279, hq12710⟩ := RModule.open hdq127
        refine S s <| nsw 209 hq1272 <| nsw 210 hq1273 <| nsw 211 hq1274 <| nsw 212 hq1275 <| nsw 213 hq1276 <| nsw 214 hq1277 <| nsw 215 hq1278 <| nsw 216 hq1279 <| nsw 217 hq12710 <| qw hR rfl (y_ldp1 · rfl hlq127 hmq127 (hcq127 0 _ rfl) underlying9 rfl) <| qw hR rfl (y_move · rfl) <| qw hR rfl (y_move · rfl) fun a s => ?_
        obtain ⟨p128, hep128, hlq129, hmq129, csq129, hdq129, hcq129⟩ := SlR.elemX (s.ft 103 rfl) hx40
        refine qt s hR rfl (y_elem (sz := 1) (i := t_35) s rfl rfl underlying25 rfl hep128 rfl (lt_of_get hx40)) fun a s => ?_
        obtain ⟨rfl, lq1291⟩ := hdq129
        refine S s <| qw hR rfl (y_ldp1 · rfl hlq129 hmq129 (hcq129 0 _ rfl) underlying9 rfl) <| qw hR rfl (fun s => yl_b (y_seq s rfl rfl) hs107e) <| qw hR rfl (y_move · rfl) <| qpw hR rfl <| qpw hR rfl <| qpw hR rfl <| qpw hR rfl <| qpw hR rfl <| qpw hR rfl <| qpw hR rfl <| qpw hR rfl <| qpw hR rfl <| qpw hR rfl <| qpw hR rfl <| qpw hR rfl <| qpw hR rfl <| qw hR rfl (y_pick_f · rfl rfl) fun a s => ?_
        clear hR hZ
        apply pN
        exact ⟨(false), hg, (s.sb rfl rfl rfl)⟩
       clear s a; rintro a w ⟨t_102, hg, s⟩
       subst hk101
       refine c_cond s rfl (fun hc130 => ?_) (fun hc130 => ?_)
       ·replace hg := br_t hg hc130
        refine S s <| vw <| aw rfl <| nw fun a s => ?_
        apply wp_ret
        refine p_inR ?_
        refine p_thenR ?_
        refine p_thenR ?_
        refine p_inR ?_
        refine p_inR ?_
        refine p_thenR ?_
        refine p_thenR ?_
        refine p_inR ?_
        refine p_thenR ?_
        refine p_inR ?_
        refine p_thenR ?_
        refine p_thenR ?_
        refine p_inR ?_
        refine p_thenR ?_
        obtain rfl := Option.some.inj hg
        exact fin1 (fn := Tryz.f8) s rfl (r_tmp s rfl) rfl
       replace hg := br_n hg hc130
       apply wp_skip
       refine p_inN ?_
       refine S s <| pw <| lw <| mw rfl <| yw rfl (y_addN (i := t_60) (j := 1) · rfl rfl (in64.2 (by omega))) <| aw rfl <| nw fun a s => ?_
       exact ⟨m3, Nat.lt_succ_self _, ⟨(t_69), (t_60 + 1), hg, (s.sb rfl rfl rfl)⟩⟩
      replace hg := br_f hg hc66
      apply wp_exit
      refine p_then ?_
      refine p_then ?_
      refine p_in ?_
      refine p_inN ?_
      apply pN
      exact ⟨(t_59), hg, (s.sb rfl rfl rfl)⟩
     clear s a; rintro a w ⟨t_58, hg, s⟩
     subst hk57
     refine S s <| lw <| mw rfl <| yw rfl (y_addN (i := t_54) (j := 1) · rfl rfl (in64.2 (by omega))) <| aw rfl <| nw fun a s => ?_
     exact ⟨m2, Nat.lt_succ_self _, ⟨(t_58), (t_54 + 1), hg, (s.sb rfl rfl rfl)⟩⟩
    replace hg := br_f hg hc55
    apply wp_exit
    refine p_then ?_
    refine p_then ?_
    refine p_in ?_
    apply pN
    exact ⟨(t_53), hg, (s.sb rfl rfl rfl)⟩
   clear s a; rintro a w ⟨t_52, hg, s⟩
   subst hk51
   refine S s <| vw <| mw rfl <| yw rfl (y_not · rfl) <| nw fun a s => c_cond s rfl (fun hc131 => ?_) (fun hc131 => ?_)
   ·replace hg := br_t hg hc131
    refine S s <| vw <| aw rfl <| nw fun a s => ?_
    apply wp_ret
    refine p_inR ?_
    refine p_thenR ?_
    refine p_thenR ?_
    refine p_inR ?_
    refine p_thenR ?_
    obtain rfl := Option.some.inj hg
    exact fin1 (fn := Tryz.f8) s rfl (r_tmp s rfl) rfl
   replace hg := br_n hg hc131
   apply wp_skip
   refine p_inN ?_
   refine S s <| pw <| lw <| mw rfl <| yw rfl (y_addN (i := t_35) (j := 1) · rfl rfl (in64.2 (by omega))) <| aw rfl <| nw fun a s => ?_
   exact ⟨m1, Nat.lt_succ_self _, ⟨(t_35 + 1), hg, (s.sb rfl rfl rfl)⟩⟩
  replace hg := br_f hg hc36
  apply wp_exit
  refine p_then ?_
  refine p_then ?_
  refine p_in ?_
  apply pN
  exact ⟨hg, (s.sb rfl rfl rfl)⟩
 clear s a; rintro a w ⟨hg, s⟩
 subst hk34
 obtain ⟨r132, hr132, hg⟩ := bind_some hg
 refine S s <| sw <| lw <| mw rfl <| mw rfl fun a s => ?_
 refine lC s rfl func15 (c_module_Visible n _ _ s.lt _ _ _ (s.ft 101 rfl) _ (by omega) _ hr132) fun v135 a w hK hp s => ?_
 obtain ⟨Au136a1, cu136a1, rfl, hu136a1⟩ := hp
 refine S s <| nsw 219 hu136a1 <| aw rfl <| nw <| sw <| vw <| aw rfl <| nw fun a s => ?_
 obtain ⟨k137, hg, hk137⟩ := jn_some hg
 refine c_post (fun a w => k137 = some r ∧ St (cx f8 M w0) [] [] [] a w) ?_ ?_
 ·apply wp_block
  refine c_loop (σ := Nat) (fun m4 a w => ∃ (t_138 : Nat), law22_ModuleImports_L3 n t_ r12 r132 k137 m4 t_138 = some r ∧ St (cx f8 M w0) [(0, sl Ap01 t_ cp01), (5, sl Au16a1 r12.1 cu16a1), (11, sl Au136a1 r132 cu136a1), (12, vI (((t_138 : Nat) : Int)))] [] [(101, sF RModule Ap01 cp01 t_), (103, sF Rep.str Au16a1 cu16a1 r12.1), (219, sF Rep.str Au136a1 cu136a1 r132)] a w) (fun m4 => m4) n ⟨(0), hg, (s.sb rfl rfl rfl)⟩ ?_
  clear s a; rintro m4 a w ⟨t_138, hg, s⟩
  rcases m4 with _ | m4
  ·rw [law22_ModuleImports_L3] at hg; cases hg
  rw [law22_ModuleImports_L3] at hg
  refine S s <| sw <| vw <| mw rfl <| mw rfl <| yw rfl (y_lenSlice · rfl underlying25) <| yw rfl (y_lssN (i := t_138) (j := ((r12.1).length)) · rfl rfl) <| nw fun a s => c_dec s rfl (fun hc139 => ?_) (fun hc139 => ?_)
  ·replace hg := br_t hg hc139
   have hmx140 := SlR.mx (s.ft 103 rfl)
   apply wp_skip
   apply pN
   apply wQ
   obtain ⟨k141, hg, hk141⟩ := jn_some hg
   refine c_post (fun a w => k141 = some r ∧ St (cx f8 M w0) [(0, sl Ap01 t_ cp01), (5, sl Au16a1 r12.1 cu16a1), (11, sl Au136a1 r132 cu136a1), (12, vI (((t_138 : Nat) : Int)))] [] [(101, sF RModule Ap01 cp01 t_), (103, sF Rep.str Au16a1 cu16a1 r12.1), (219, sF Rep.str Au136a1 cu136a1 r132)] a w) ?_ ?_
   ·obtain ⟨x143, hx143, hg⟩ := bind_some hg
    obtain ⟨r145, hr145, hg⟩ := bind_some hg
    refine S s <| bw <| sw <| lw <| mw rfl <| mw rfl <| mw rfl fun a s => ?_
    obtain ⟨p148, hep148, hlq149, hmq149, csq149, hdq149, hcq149⟩ := SlR.elemX (s.ft 103 rfl) hx143
    refine qq s rfl (y_elem (sz := 1) (i := t_138) s rfl rfl underlying25 rfl hep148 rfl (lt_of_get hx143)) fun a s => ?_
    obtain ⟨rfl, lq1491⟩ := hdq149
    refine qq s rfl (y_ldp1 s rfl hlq149 hmq149 (hcq149 0 _ rfl) underlying9 rfl) fun a s => ?_
    refine lC s rfl func15 (c_module_Visible n _ _ s.lt _ _ _ (s.ft 101 rfl) _ (by omega) _ hr145) fun v150 a w hK hp s => ?_
    obtain ⟨Au151a1, cu151a1, rfl, hu151a1⟩ := hp
    refine S s <| nsw 221 hu151a1 <| aw rfl <| nw <| vw <| aw rfl <| nw <| bw fun a s => ?_
    refine c_loop (σ := Nat) (fun m5 a w => ∃ (t_152 : Nat), law22_ModuleImports_L4 n r132 k141 r145 m5 t_152 = some r ∧ St (cx f8 M w0) [(0, sl Ap01 t_ cp01), (5, sl Au16a1 r12.1 cu16a1), (11, sl Au136a1 r132 cu136a1), (12, vI (((t_138 : Nat) : Int))), (13, sl Au151a1 r145 cu151a1), (14, vI (((t_152 : Nat) : Int)))] [] [(101, sF RModule Ap01 cp01 t_), (103, sF Rep.str Au16a1 cu16a1 r12.1), (219, sF Rep.str Au136a1 cu136a1 r132), (221, sF Rep.str Au151a1 cu151a1 r145)] a w) (fun m5 => m5) n ⟨(0), hg, (s.sb rfl rfl rfl)⟩ ?_
    clear s a; rintro m5 a w ⟨t_152, hg, s⟩
    rcases m5 with _ | m5
    ·rw [law22_ModuleImports_L4] at hg; cases hg
    rw [law22_ModuleImports_L4] at hg
    refine S s <| sw <| vw <| mw rfl <| mw rfl <| yw rfl (y_lenSlice · rfl underlying25) <| yw rfl (y_lssN (i := t_152) (j := ((r145).length)) · rfl rfl) <| nw fun a s => c_dec s rfl (fun hc153 => ?_) (fun hc153 => ?_)
    ·replace hg := br_t hg hc153
     have hmx154 := SlR.mx (s.ft 221 rfl)
     refine S s <| kw <| pw <| sw <| bw <| sw fun a s => ?_
     obtain ⟨k155, hg, hk155⟩ := jn_some hg
     refine c_post (fun a w => ∃ (t_156 : Bool), k155 t_156 = some r ∧ St (cx f8 M w0) [(0, sl Ap01 t_ cp01), (5, sl Au16a1 r12.1 cu16a1), (11, sl Au136a1 r132 cu136a1), (12, vI (((t_138 : Nat) : Int))), (13, sl Au151a1 r145 cu151a1), (14, vI (((t_152 : Nat) : Int))), (179, .bool (t_156))] [] [(101, sF RModule Ap01 cp01 t_), (103, sF Rep.str Au16a1 cu16a1 r12.1), (219, sF Rep.str Au136a1 cu136a1 r132), (221, sF Rep.str Au151a1 cu151a1 r145)] a w) ?_ ?_
     ·obtain ⟨x158, hx158, hg⟩ := bind_some hg
      obtain ⟨r160, hr160, hg⟩ := bind_some hg
      rcases Bool.eq_false_or_eq_true (!(r160)) with hs163 | hs163
      ·replace hg := br_t hg hs163
       refine d_steps s [] rfl ?_; clear s; intro wr hZ s; have hR := s.wd; have hE := Ext.init hR 0
       refine S s <| nqw 0 0 hR rfl (y_move · rfl) <| nqw 1 0 hR rfl (y_move · rfl) <| nqw 2 0 hR rfl (y_move · rfl) fun a s => ?_
       obtain ⟨p164, hep164, hpp164⟩ := SlR.elemX (s.ft 221 rfl) hx158
       refine S s <| nqw 3 0 hR rfl (y_elem (sz := 1) (i := t_152) · rfl rfl underlying25 rfl hep164 rfl (lt_of_get hx158)) fun a s => ?_
       obtain ⟨hlq165, hmq165, csq165, hdq165, hcq165⟩ := (SlR.again (s.ft 221 rfl) hx158 hep164)
       obtain ⟨rfl, lq1651⟩ := hdq165
       refine S s <| nqw 4 0 hR rfl (y_ldp1 · rfl hlq165 hmq165 (hcq165 0 _ rfl) underlying9 rfl) fun a s => ?_
       refine nC 5 s rfl rfl func20 (c_law22_has n _ _ s.lt _ _ _ (s.ft 219 rfl) _ (by omega) _ hr160) fun v166 a w hK hp s => ?_
       replace hE := hE.grow hK; replace hZ := Nat.le_trans hZ hK.size; refine ⟨fun g _ h => h.grow hK, ?_⟩; clear hK
       obtain rfl := hp
       refine S s <| nzw 6 rfl (fun s => yl_b (y_not s rfl) hs163) <| nzw 7 rfl (y_move · rfl) <| npw 8 rfl <| npw 9 rfl <| npw 10 rfl <| nfw 11 hE rfl <| nfw 12 hE rfl <| nfw 13 hE rfl <| nfw 14 hE rfl <| nfw 15 hE rfl <| nfw 16 hE rfl <| npw 17 rfl <| npw 18 rfl <| npw 19 rfl <| npw 20 rfl <| npw 21 rfl <| nzw 22 rfl (y_pick_t · rfl rfl) fun a s => ?_
       refine n_end (by kernel_rfl) ?_; clear hR hZ hE
       apply pN
       exact ⟨(true), hg, (s.sb rfl rfl rfl)⟩
      replace hg := br_n hg hs163
      rcases Decidable.em ((0 : Nat) < t_152) with hs168 | hs168
      ·have hs168e := decide_eq_true hs168
       replace hg := br_t hg hs168
       obtain ⟨x170, hx170, hg⟩ := bind_some hg
       refine d_steps s [] rfl ?_; clear s; intro wr hZ s; have hR := s.wd; have hE := Ext.init hR 0
       refine S s <| nqw 0 0 hR rfl (y_move · rfl) <| nqw 1 0 hR rfl (y_move · rfl) <| nqw 2 0 hR rfl (y_move · rfl) fun a s => ?_
       obtain ⟨p174, hep174, hpp174⟩ := SlR.elemX (s.ft 221 rfl) hx158
       refine S s <| nqw 3 0 hR rfl (y_elem (sz := 1) (i := t_152) · rfl rfl underlying25 rfl hep174 rfl (lt_of_get hx158)) fun a s => ?_
       obtain ⟨hlq175, hmq175, csq175, hdq175, hcq175⟩ := (SlR.again (s.ft 221 rfl) hx158 hep174)
       obtain ⟨rfl, lq1751⟩ := hdq175
       refine S s <| nqw 4 0 hR rfl (y_ldp1 · rfl hlq175 hmq175 (hcq175 0 _ rfl) underlying9 rfl) fun a s => ?_
       refine nC 5 s rfl rfl func20 (c_law22_has n _ _ s.lt _ _ _ (s.ft 219 rfl) _ (by omega) _ hr160) fun v176 a w hK hp s => ?_
       replace hE := hE.grow hK; replace hZ := Nat.le_trans hZ hK.size; refine ⟨fun g _ h => h.grow hK, ?_⟩; clear hK
       obtain rfl := hp
       refine S s <| nzw 6 rfl (fun s => yl_b (y_not s rfl) hs163) <| nzw 7 rfl (y_move · rfl) <| nzw 8 rfl (y_move · rfl) <| nzw 9 rfl (fun s => yl_b (y_gtrN (i := t_152) (j := 0) s rfl rfl) hs168e) <| nzw 10 rfl (y_move · rfl) <| new 11 hE rfl (fun w' s => y_move s rfl) <| new 12 hE rfl (fun w' s => y_move s rfl) <| new 13 hE rfl (fun w' s => y_sub s rfl rfl (in64.2 (by omega))) fun a s => ?_
       obtain ⟨p178, hep178, hpp178⟩ := SlR.elemX (s.ft 221 rfl) (ix_some hx170).1
       refine S s <| new 14 hE rfl (fun w' s => y_elem (sz := 1) (i := ((((t_152 : Nat) : Int) - 1).toNat)) s rfl rfl underlying25 rfl hep178 (ix_some hx170).2.1 (lt_of_get (ix_some hx170).1)) <| new 16 hE rfl (fun w' s => y_move s rfl) <| new 17 hE rfl (fun w' s => y_move s rfl) fun a s => ?_
       obtain ⟨p179, hep179, hpp179⟩ := SlR.elemX (s.ft 221 rfl) hx158
       refine S s <| new 18 hE rfl (fun w' s => y_elem (sz := 1) (i := t_152) s rfl rfl underlying25 rfl hep179 rfl (lt_of_get hx158)) fun a s => ?_
       refine n_2 15 19 s (by kernel_rfl) rfl ⟨_, _, _, rfl, rfl, rfl, rfl⟩ rfl ⟨_, _, _, rfl, rfl, rfl, rfl⟩ ?_ ?_
       ·obtain ⟨hlq180, hmq180, csq180, hdq180, hcq180⟩ := (SlR.again (s.ft 221 rfl) (ix_some hx170).1 hep178)
        obtain ⟨rfl, lq1801⟩ := hdq180
        refine l_quiet s rfl rfl (y_ldp1 s rfl hlq180 hmq180 (hcq180 0 _ rfl) underlying9 rfl) fun a s => ?_; refine ⟨fun g _ h => h, ?_⟩
        obtain ⟨hlq181, hmq181, csq181, hdq181, hcq181⟩ := (SlR.again (s.ft 221 rfl) hx158 hep179)
        obtain ⟨rfl, lq1811⟩ := hdq181
        refine S s <| nzw 19 rfl (y_ldp1 · rfl hlq181 hmq181 (hcq181 0 _ rfl) underlying9 rfl) <| nzw 20 rfl (y_sgeq · rfl rfl) <| nzw 21 rfl (y_pick_t · rfl rfl) <| nzw 22 rfl (y_pick_f · rfl rfl) fun a s => ?_
        refine n_end (by kernel_rfl) ?_; clear hR hZ hE
        apply pN
        exact ⟨(!(Op.bytesLess x170 x158)), hg, (s.sb rfl rfl rfl)⟩
       ·obtain ⟨hlq182, hmq182, csq182, hdq182, hcq182⟩ := (SlR.again (s.ft 221 rfl) hx158 hep179)
        obtain ⟨rfl, lq1821⟩ := hdq182
        refine l_quiet s rfl rfl (y_ldp1 s rfl hlq182 hmq182 (hcq182 0 _ rfl) underlying9 rfl) fun a s => ?_; refine ⟨fun g _ h => h, ?_⟩
        obtain ⟨hlq183, hmq183, csq183, hdq183, hcq183⟩ := (SlR.again (s.ft 221 rfl) (ix_some hx170).1 hep178)
        obtain ⟨rfl, lq1831⟩ := hdq183
        refine S s <| nzw 15 rfl (y_ldp1 · rfl hlq183 hmq183 (hcq183 0 _ rfl) underlying9 rfl) <| nzw 20 rfl (y_sgeq · rfl rfl) <| nzw 21 rfl (y_pick_t · rfl rfl) <| nzw 22 rfl (y_pick_f · rfl rfl) fun a s => ?_
        refine n_end (by kernel_rfl) ?_; clear hR hZ hE
        apply pN
        exact ⟨(!(Op.bytesLess x170 x158)), hg, (s.sb rfl rfl rfl)⟩
      have hs168e := decide_eq_false hs168
      replace hg := br_f hg hs168
      refine d_steps s [] rfl ?_; clear s; intro wr hZ s; have hR := s.wd; have hE := Ext.init hR 0
      refine S s <| nqw 0 0 hR rfl (y_move · rfl) <| nqw 1 0 hR rfl (y_move · rfl) <| nqw 2 0 hR rfl (y_move · rfl) fun a s => ?_
      obtain ⟨p184, hep184, hpp184⟩ := SlR.elemX (s.ft 221 rfl) hx158
      refine S s <| nqw 3 0 hR rfl (y_elem (sz := 1) (i := t_152) · rfl rfl underlying25 rfl hep184 rfl (lt_of_get hx158)) fun a s => ?_
      obtain ⟨hlq185, hmq185, csq185, hdq185, hcq185⟩ := (SlR.again (s.ft 221 rfl) hx158 hep184)
      obtain ⟨rfl, lq1851⟩ := hdq185
      refine S s <| nqw 4 0 hR rfl (y_ldp1 · rfl hlq185 hmq185 (hcq185 0 _ rfl) underlying9 rfl) fun a s => ?_
      refine nC 5 s rfl rfl func20 (c_law22_has n _ _ s.lt _ _ _ (s.ft 219 rfl) _ (by omega) _ hr160) fun v186 a w hK hp s => ?_
      replace hE := hE.grow hK; replace hZ := Nat.le_trans hZ hK.size; refine ⟨fun g _ h => h.grow hK, ?_⟩; clear hK
      obtain rfl := hp
      refine S s <| nzw 6 rfl (fun s => yl_b (y_not s rfl) hs163) <| nzw 7 rfl (y_move · rfl) <| nzw 8 rfl (y_move · rfl) <| nzw 9 rfl (fun s => yl_b (y_gtrN (i := t_152) (j := 0) s rfl rfl) hs168e) <| nzw 10 rfl (y_move · rfl) <| nfw 11 hE rfl <| nfw 12 hE rfl <| nfw 13 hE rfl <| nfw 14 hE rfl <| nfw 15 hE rfl <| nfw 16 hE rfl <| npw 17 rfl <| npw 18 rfl <| npw 19 rfl <| npw 20 rfl <| nzw 21 rfl (y_pick_f · rfl rfl) <| nzw 22 rfl (y_pick_f · rfl rfl) fun a s => ?_
      refine n_end (by kernel_rfl) ?_; clear hR hZ hE
      apply pN
      exact ⟨(false), hg, (s.sb rfl rfl rfl)⟩
     clear s a; rintro a w ⟨t_156, hg, s⟩
     subst hk155
     refine c_cond s rfl (fun hc188 => ?_) (fun hc188 => ?_)
     ·replace hg := br_t hg hc188
      refine S s <| vw <| aw rfl <| nw fun a s => ?_
      apply wp_ret
      refine p_inR ?_
      refine p_thenR ?_
      refine p_thenR ?_
      refine p_inR ?_
      refine p_inR ?_
      refine p_thenR ?_
      refine p_thenR ?_
      refine p_inR ?_
      refine p_thenR ?_
      obtain rfl := Option.some.inj hg
      exact fin1 (fn := Tryz.f8) s rfl (r_tmp s rfl) rfl
     replace hg := br_n hg hc188
     apply wp_skip
     refine p_inN ?_
     refine S s <| pw <| lw <| mw rfl <| yw rfl (y_addN (i := t_152) (j := 1) · rfl rfl (in64.2 (by omega))) <| aw rfl <| nw fun a s => ?_
     exact ⟨m5, Nat.lt_succ_self _, ⟨(t_152 + 1), hg, (s.sb rfl rfl rfl)⟩⟩
    replace hg := br_f hg hc153
    apply wp_exit
    refine p_then ?_
    refine p_then ?_
    refine p_in ?_
    refine p_inN ?_
    apply pN
    exact ⟨hg, (s.sb rfl rfl rfl)⟩
   clear s a; rintro a w ⟨hg, s⟩
   subst hk141
   refine S s <| lw <| mw rfl <| yw rfl (y_addN (i := t_138) (j := 1) · rfl rfl (in64.2 (by omega))) <| aw rfl <| nw fun a s => ?_
   exact ⟨m4, Nat.lt_succ_self _, ⟨(t_138 + 1), hg, (s.sb rfl rfl rfl)⟩⟩
  replace hg := br_f hg hc139
  apply wp_exit
  refine p_then ?_
  refine p_then ?_
  refine p_in ?_
  apply pN
  exact ⟨hg, (s.sb rfl rfl rfl)⟩
 clear s a; rintro a w ⟨hg, s⟩
 subst hk137
 obtain ⟨r189, hr189, hg⟩ := bind_some hg
 apply wQ
 apply wL
 refine lV s rfl func11 (c_law22_exampleHolds n _ _ s.lt  _ hr189) fun a w hK s => ?_
 refine S s <| aw rfl <| nw fun a s => ?_
 apply wp_ret
 obtain rfl := Option.some.inj hg
 exact fin1 (fn := Tryz.f8) s rfl (r_tmp s rfl) rfl
end Go.Proofs.YtbhjplflnkidgaaGreat


/- Chapter 22: the walks, part 2 -/
import Derived.Test.YtbhjplflnkidgaaGreatW1
namespace Go.Proofs.YtbhjplflnkidgaaGreat
open Go.Gl Go.RowKit Tryz
set_option linter.unusedVariables false
set_option linter.unusedSimpArgs false
set_option maxRecDepth 4000

set_option maxHeartbeats 1000000 in
theorem c_r19_check (n : Nat) : ∀ (M : Bs) (w0 : World) (hM : ∀ b, M b → b < w0.heap.size) (d_ : Desc) (Ap03 : Option Addr) (cp03 : Nat) (Ap04 : Option Addr) (cp04 : Nat) (lp02 : (d_.Name).length ≤ 9223372036854775807) (hp03 : sR Rep.str M w0 Ap03 cp03 d_.Path) (hp04 : sR RDesc M w0 Ap04 cp04 d_.Kids) (level_ : Int) (r : Int) (hg : r19_check n d_ level_ = some r),
    Calls Tryz.prog 137 [.agg #[.int .i64 (d_.Op), vT d_.Name, sl Ap03 d_.Path cp03, sl Ap04 d_.Kids cp04], .int .i64 (level_)].toArray w0 (Ret noB w0 fun v w => v = .int .i64 (r)) := by
 induction n with
 | zero => intros; rename_i hg; rw [r19_check] at hg; cases hg
 | succ n c_self =>
 intro M w0 hM d_ Ap03 cp03 Ap04 cp04 lp02 hp03 hp04 level_ r hg
 rw [r19_check] at hg
 refine enter M noB func137 rfl rfl hM ?_
 intro a s
 let F : Al Fact := [(101, sF Rep.str Ap03 cp03 d_.Path), (102, sF RDesc Ap04 cp04 d_.Kids)]
 refine S s <| esw 101 hp03 <| esw 102 hp04 <| vw fun a s => ?_
 refine l_seq rfl (l_box (zs := [vI d_.Op, vT d_.Name, sl Ap03 d_.Path cp03, sl Ap04 d_.Kids cp04]) s 1000 rfl rfl rfl rfl fun b2 a w hb hK s => ?_)
 refine S s <| aw rfl <| nw <| sw <| sw fun a s => ?_
 obtain ⟨k3, hg, hk3⟩ := jn_some hg
 refine c_post (fun a w => ∃ (t_4 : Bool), k3 t_4 = some r ∧ St (cx f137 M w0) [(1, vI level_), (2, vP b2 0), (21, .bool (t_4))] [(1000, Ob.box b2 [vI d_.Op, vT d_.Name, sl Ap03 d_.Path cp03, sl Ap04 d_.Kids cp04] 60)] F a w) ?_ ?_
 ·rcases Decidable.em ((64 : Int) < level_) with hs5 | hs5
  ·have hs5e := decide_eq_true hs5
   replace hg := br_t hg hs5
   refine S s <| lw <| mw rfl <| yw rfl (fun s => yl_b (y_gtr s rfl rfl) hs5e) <| mw rfl <| gw rfl <| gw rfl <| gw rfl <| gw rfl <| yw rfl (y_pick_t · rfl rfl) <| mw rfl <| gw rfl <| gw rfl <| gw rfl <| gw rfl <| yw rfl (y_pick_t · rfl rfl) <| nw fun a s => ?_
   exact ⟨(true), hg, (s.sb rfl rfl rfl)⟩
  have hs5e := decide_eq_false hs5
  replace hg := br_f hg hs5
  rcases Decidable.em ((64 : Nat) < ((d_.Path).length)) with hs6 | hs6
  ·have hs6e := decide_eq_true hs6
   replace hg := br_t hg hs6
   have hmx7 := SlR.mx (s.ft 101 rfl)
   refine S s <| lw <| mw rfl <| yw rfl (fun s => yl_b (y_gtr s rfl rfl) hs5e) <| mw rfl <| zw rfl (y_boxField (o' := 2) · rfl underlying60 rfl rfl rfl) <| zw rfl (y_loadBox1 (kk := 1000) · rfl rfl rfl underlying25 rfl) <| zw rfl (y_lenSlice · rfl underlying25) <| zw rfl (fun s => yl_b (y_gtrN (i := ((d_.Path).length)) (j := 64) s rfl rfl) hs6e) <| yw rfl (y_pick_f · rfl rfl) <| mw rfl <| gw rfl <| gw rfl <| gw rfl <| gw rfl <| yw rfl (y_pick_t · rfl rfl) <| nw fun a s => ?_
   exact ⟨(true), hg, (s.sb rfl rfl rfl)⟩
  have hs6e := decide_eq_false hs6
  replace hg := br_f hg hs6
  refine S s <| lw <| mw rfl <| yw rfl (fun s => yl_b (y_gtr s rfl rfl) hs5e) <| mw rfl <| zw rfl (y_boxField (o' := 2) · rfl underlying60 rfl rfl rfl) <| zw rfl (y_loadBox1 (kk := 1000) · rfl rfl rfl underlying25 rfl) <| zw rfl (y_lenSlice · rfl underlying25) <| zw rfl (fun s => yl_b (y_gtrN (i := ((d_.Path).length)) (j := 64) s rfl rfl) hs6e) <| yw rfl (y_pick_f · rfl rfl) <| mw rfl <| zw rfl (y_boxField (o' := 3) · rfl underlying60 rfl rfl rfl) <| zw rfl (y_loadBox1 (kk := 1000) · rfl rfl rfl underlying58 rfl) <| zw rfl (y_lenSlice · rfl underlying58) <| zw rfl (y_gtrN (i := ((d_.Kids).length)) (j := 256) · rfl rfl) <| yw rfl (y_pick_f · rfl rfl) <| nw fun a s => ?_
  exact ⟨(decide ((256 : Nat) < ((d_.Kids).length))), hg, (s.sb rfl rfl rfl)⟩
 clear s a; rintro a w ⟨t_4, hg, s⟩
 subst hk3
 refine c_cond s rfl (fun hc8 => ?_) (fun hc8 => ?_)
 ·replace hg := br_t hg hc8
  refine S s <| vw <| aw rfl <| nw fun a s => ?_
  apply wp_ret
  refine p_thenR ?_
  obtain rfl := Option.some.inj hg
  exact fin1 (fn := Tryz.f137) s rfl (r_tmp s rfl) rfl
 replace hg := br_n hg hc8
 apply wp_skip
 apply pN
 apply wQ
 apply wQ
 obtain ⟨k9, hg, hk9⟩ := jn_some hg
 refine c_post (fun a w => ∃ (t_10 : Bool), k9 t_10 = some r ∧ St (cx f137 M w0) [(1, vI level_), (2, vP b2 0), (29, .bool (t_10))] [(1000, Ob.box b2 [vI d_.Op, vT d_.Name, sl Ap03 d_.Path cp03, sl Ap04 d_.Kids cp04] 60)] F a w) ?_ ?_
 ·rcases Decidable.em (d_.Op < 1) with hs11 | hs11
  ·have hs11e := decide_eq_true hs11
   replace hg := br_t hg hs11
   refine S s <| lw <| yw rfl (y_boxField (o' := 0) · rfl underlying60 rfl rfl rfl) <| yw rfl (y_loadBox1 (kk := 1000) · rfl rfl rfl underlying3 rfl) <| yw rfl (fun s => yl_b (y_lss s rfl rfl) hs11e) <| mw rfl <| gw rfl <| gw rfl <| gw rfl <| yw rfl (y_pick_t · rfl rfl) <| nw fun a s => ?_
   exact ⟨(true), hg, (s.sb rfl rfl rfl)⟩
  have hs11e := decide_eq_false hs11
  replace hg := br_f hg hs11
  refine S s <| lw <| yw rfl (y_boxField (o' := 0) · rfl underlying60 rfl rfl rfl) <| yw rfl (y_loadBox1 (kk := 1000) · rfl rfl rfl underlying3 rfl) <| yw rfl (fun s => yl_b (y_lss s rfl rfl) hs11e) <| mw rfl <| zw rfl (y_boxField (o' := 0) · rfl underlying60 rfl rfl rfl) <| zw rfl (y_loadBox1 (kk := 1000) · rfl rfl rfl underlying3 rfl) <| zw rfl (y_gtr · rfl rfl) <| yw rfl (y_pick_f · rfl rfl) <| nw fun a s => ?_
  exact ⟨(decide ((8 : Int) < d_.Op)), hg, (s.sb rfl rfl rfl)⟩
 clear s a; rintro a w ⟨t_10, hg, s⟩
 subst hk9
 refine c_cond s rfl (fun hc12 => ?_) (fun hc12 => ?_)
 ·replace hg := br_t hg hc12
  refine S s <| vw <| aw rfl <| nw fun a s => ?_
  apply wp_ret
  refine p_thenR ?_
  obtain rfl := Option.some.inj hg
  exact fin1 (fn := Tryz.f137) s rfl (r_tmp s rfl) rfl
 replace hg := br_n hg hc12
 obtain ⟨r13, hr13, hg⟩ := bind_some hg
 refine S s <| kw <| pw <| sw <| sw <| lw <| yw rfl (y_loadAll (kk := 1000) · rfl rfl underlying60 rfl rfl) fun a s => ?_
 refine lV s rfl func139 (c_r19_formed n _ _ s.lt _ _ _ _ _ (by omega) (s.ft 101 rfl) (s.ft 102 rfl) _ hr13) fun a w hK s => ?_
 refine S s <| yw rfl (y_not · rfl) <| nw fun a s => c_cond s rfl (fun hc18 => ?_) (fun hc18 => ?_)
 ·replace hg := br_t hg hc18
  refine S s <| vw <| aw rfl <| nw fun a s => ?_
  apply wp_ret
  refine p_thenR ?_
  obtain rfl := Option.some.inj hg
  exact fin1 (fn := Tryz.f137) s rfl (r_tmp s rfl) rfl
 replace hg := br_n hg hc18
 obtain ⟨hk19, hg⟩ := chk_some hg
 refine S s <| kw <| pw <| sw <| lw <| mw rfl <| yw rfl (y_add · rfl rfl (in64.2 hk19)) <| aw rfl <| nw <| sw <| vw <| yw rfl (y_boxField (o' := 0) · rfl underlying60 rfl rfl rfl) <| yw rfl (y_loadBox1 (kk := 1000) · rfl rfl rfl underlying3 rfl) <| yw rfl (y_eql · rfl rfl) <| nw fun a s => ?_
 obtain ⟨k20, hg, hk20⟩ := jn_some hg
 refine c_post (fun a w => ∃ (inner_21 : Int), k20 inner_21 = some r ∧ St (cx f137 M w0) [(2, vP b2 0), (5, vI inner_21)] [(1000, Ob.box b2 [vI d_.Op, vT d_.Name, sl Ap03 d_.Path cp03, sl Ap04 d_.Kids cp04] 60)] F a w) ?_ ?_
 ·refine c_dec s rfl (fun hc22 => ?_) (fun hc22 => ?_)
  ·replace hg := br_t hg hc22
   refine S s <| lw <| mw rfl <| aw rfl <| nw fun a s => ?_
   exact ⟨(level_), hg, (s.sb rfl rfl rfl)⟩
  replace hg := br_f hg hc22
  apply wp_skip
  apply pN
  exact ⟨(level_ + 1), hg, (s.sb rfl rfl rfl)⟩
 clear s a; rintro a w ⟨inner_21, hg, s⟩
 subst hk20
 refine S s <| sw <| vw <| aw rfl <| nw <| bw fun a s => ?_
 refine c_loop (σ := Nat) (fun m1 a w => ∃ (i_23 : Nat), r19_check_L0 n d_ (r19_check n) inner_21 m1 i_23 = some r ∧ St (cx f137 M w0) [(2, vP b2 0), (5, vI inner_21), (6, vI (((i_23 : Nat) : Int)))] [(1000, Ob.box b2 [vI d_.Op, vT d_.Name, sl Ap03 d_.Path cp03, sl Ap04 d_.Kids cp04] 60)] F a w) (fun m1 => m1) n ⟨(0), hg, (s.sb rfl rfl rfl)⟩ ?_
 clear s a; rintro m1 a w ⟨i_23, hg, s⟩
 rcases m1 with _ | m1
 ·rw [r19_check_L0] at hg; cases hg
 rw [r19_check_L0] at hg
 refine S s <| sw <| vw <| mw rfl <| yw rfl (y_boxField (o' := 3) · rfl underlying60 rfl rfl rfl) <| yw rfl (y_loadBox1 (kk := 1000) · rfl rfl rfl underlying58 rfl) <| yw rfl (y_lenSlice · rfl underlying58) <| yw rfl (y_lssN (i := i_23) (j := ((d_.Kids).length)) · rfl rfl) <| nw fun a s => c_dec s rfl (fun hc24 => ?_) (fun hc24 => ?_)
 ·replace hg := br_t hg hc24
  have hmx25 := SlR.mx (s.ft 102 rfl)
  obtain ⟨x27, hx27, hg⟩ := bind_some hg
  obtain ⟨r29, hr29, hg⟩ := bind_some hg
  refine S s <| kw <| pw <| sw <| bw <| sw <| lw <| yw rfl (y_boxField (o' := 3) · rfl underlying60 rfl rfl rfl) <| yw rfl (y_loadBox1 (kk := 1000) · rfl rfl rfl underlying58 rfl) <| mw rfl fun a s => ?_
  obtain ⟨p32, hep32, hlq33, hmq33, csq33, hdq33, hcq33⟩ := SlR.elemX (s.ft 102 rfl) hx27
  refine qq s rfl (y_elem (sz := 4) (i := i_23) s rfl rfl underlying58 rfl hep32 rfl (lt_of_get hx27)) fun a s => ?_
  obtain ⟨Aq333, cq333, Aq334, cq334, rfl, lq332, hq333, hq334⟩ := RDesc.open hdq33
  refine S s <| nsw 105 hq333 <| nsw 106 hq334 <| yw rfl (y_ldp · rfl hlq33 hmq33 (by simpa using hcq33) underlying60 rfl rfl) <| mw rfl fun a s => ?_
  refine lV s rfl func137 (c_self _ _ s.lt _ _ _ _ _ (by omega) (s.ft 105 rfl) (s.ft 106 rfl) _ _ hr29) fun a w hK s => ?_
  refine S s <| aw rfl <| nw <| vw <| mw rfl <| yw rfl (y_neq · rfl rfl) <| nw fun a s => c_dec s rfl (fun hc36 => ?_) (fun hc36 => ?_)
  ·replace hg := br_t hg hc36
   refine S s <| vw <| mw rfl <| aw rfl <| nw fun a s => ?_
   apply wp_ret
   refine p_inR ?_
   refine p_thenR ?_
   refine p_thenR ?_
   refine p_inR ?_
   refine p_thenR ?_
   obtain rfl := Option.some.inj hg
   exact fin1 (fn := Tryz.f137) s rfl (r_tmp s rfl) rfl
  replace hg := br_f hg hc36
  apply wp_skip
  refine p_inN ?_
  refine S s <| pw <| lw <| mw rfl <| yw rfl (y_addN (i := i_23) (j := 1) · rfl rfl (in64.2 (by omega))) <| aw rfl <| nw fun a s => ?_
  exact ⟨m1, Nat.lt_succ_self _, ⟨(i_23 + 1), hg, (s.sb rfl rfl rfl)⟩⟩
 replace hg := br_f hg hc24
 apply wp_exit
 refine p_then ?_
 refine p_then ?_
 refine p_in ?_
 refine S s <| pw <| vw <| aw rfl <| nw fun a s => ?_
 apply wp_ret
 obtain rfl := Option.some.inj hg
 exact fin1 (fn := Tryz.f137) s rfl (r_tmp s rfl) rfl
set_option maxHeartbeats 1000000 in
theorem c_r19_Check (n : Nat) (M : Bs) (w0 : World) (hM : ∀ b, M b → b < w0.heap.size) (d_ : Desc) (Ap03 : Option Addr) (cp03 : Nat) (Ap04 : Option Addr) (cp04 : Nat) (lp02 : (d_.Name).length ≤ 9223372036854775807) (hp03 : sR Rep.str M w0 Ap03 cp03 d_.Path) (hp04 : sR RDesc M w0 Ap04 cp04 d_.Kids) (r : Int) (hg : r19_Check n d_ = some r) :
    Calls Tryz.prog 129 [.agg #[.int .i64 (d_.Op), vT d_.Name, sl Ap03 d_.Path cp03, sl Ap04 d_.Kids cp04]].toArray w0 (Ret noB w0 fun v w => v = .int .i64 (r)) := by
 unfold r19_Check at hg
 refine enter M noB func129 rfl rfl hM ?_
 intro a s
 refine S s <| esw 101 hp03 <| esw 102 hp04 <| vw fun a s => ?_
 refine l_seq rfl (l_box (zs := [vI d_.Op, vT d_.Name, sl Ap03 d_.Path cp03, sl Ap04 d_.Kids cp04]) s 1000 rfl rfl rfl rfl fun b2 a w hb hK s => ?_)
 obtain ⟨r3, hr3, hg⟩ := bind_some hg
 refine S s <| aw rfl <| nw <| sw <| lw <| yw rfl (y_loadAll (kk := 1000) · rfl rfl underlying60 rfl rfl) fun a s => ?_
 refine lV s rfl func137 (c_r19_check n _ _ s.lt _ _ _ _ _ (by omega) (s.ft 101 rfl) (s.ft 102 rfl) _ _ hr3) fun a w hK s => ?_
 refine S s <| aw rfl <| nw fun a s => ?_
 apply wp_ret
 obtain rfl := Option.some.inj hg
 exact fin1 (fn := Tryz.f129) s rfl (r_tmp s rfl) rfl
set_option maxHeartbeats 1000000 in
theorem c_r21_defError (n : Nat) (M : Bs) (w0 : World) (hM : ∀ b, M b → b < w0.heap.size) (x_ : Def) (Ap04 : Option Addr) (cp04 : Nat) (Ap05 : Option Addr) (cp05 : Nat) (Ap06 : Option Addr) (cp06 : Nat) (lp01 : (x_.Name).length ≤ 9223372036854775807) (lp03 : (x_.Strict.Name).length ≤ 9223372036854775807) (hp04 : sR Rep.str M w0 Ap04 cp04 x_.Strict.Path) (hp05 : sR RDesc M w0 Ap05 cp05 x_.Strict.Kids) (hp06 : sR RDesc M w0 Ap06 cp06 x_.Defaults) (r : Int) (hg : r21_defError n x_ = some r) :
    Calls Tryz.prog 113 [.agg #[vT x_.Name, .int .i64 (x_.Strict.Op), vT x_.Strict.Name, sl Ap04 x_.Strict.Path cp04, sl Ap05 x_.Strict.Kids cp05, sl Ap06 x_.Defaults cp06]].toArray w0 (Ret noB w0 fun v w => v = .int .i64 (r)) := by
 unfold r21_defError at hg
 refine enter M noB func113 rfl rfl hM ?_
 intro a s
 let F : Al Fact := [(101, sF Rep.str Ap04 cp04 x_.Strict.Path), (102, sF RDesc Ap05 cp05 x_.Strict.Kids), (103, sF RDesc Ap06 cp06 x_.Defaults)]
 let B : List Value := [vT x_.Name, vI x_.Strict.Op, vT x_.Strict.Name, sl Ap04 x_.Strict.Path cp04, sl Ap05 x_.Strict.Kids cp05, sl Ap06 x_.Defaults cp06]
 refine S s <| esw 101 hp04 <| esw 102 hp05 <| esw 103 hp06 <| vw fun a s => ?_
 refine l_seq rfl (l_box (zs := B) s 1000 rfl rfl rfl rfl fun b2 a w hb hK s => ?_)
 obtain ⟨r3, hr3, hg⟩ := bind_some hg
 refine S s <| aw rfl <| nw <| sw <| sw <| lw <| yw rfl (y_boxField (o' := 0) · rfl underlying62 rfl rfl rfl) <| yw rfl (y_loadBox1 (kk := 1000) · rfl rfl rfl underlying9 rfl) fun a s => ?_
 refine lV s rfl func77 (c_r01_Name n _ _ s.lt _ (by omega) _ hr3) fun a w hK s => ?_
 refine S s <| yw rfl (y_not · rfl) <| nw fun a s => c_cond s rfl (fun hc8 => ?_) (fun hc8 => ?_)
 ·replace hg := br_t hg hc8
  refine S s <| vw <| aw rfl <| nw fun a s => ?_
  apply wp_ret
  refine p_thenR ?_
  obtain rfl := Option.some.inj hg
  exact fin1 (fn := Tryz.f113) s rfl (r_tmp s rfl) rfl
 replace hg := br_n hg hc8
 refine S s <| kw <| pw <| sw <| vw <| yw rfl (y_boxField (o' := 5) · rfl underlying62 rfl rfl rfl) <| yw rfl (y_loadBox1 (kk := 1000) · rfl rfl rfl underlying58 rfl) <| yw rfl (y_lenSlice · rfl underlying58) <| yw rfl (y_gtrN (i := ((x_.Defaults).length)) (j := 256) · rfl rfl) <| nw fun a s => c_dec s rfl (fun hc9 => ?_) (fun hc9 => ?_)
 ·replace hg := br_t hg hc9
  have hmx10 := SlR.mx (s.ft 103 rfl)
  refine S s <| vw <| aw rfl <| nw fun a s => ?_
  apply wp_ret
  refine p_thenR ?_
  obtain rfl := Option.some.inj hg
  exact fin1 (fn := Tryz.f113) s rfl (r_tmp s rfl) rfl
 replace hg := br_f hg hc9
 obtain ⟨r11, hr11, hg⟩ := bind_some hg
 refine S s <| kw <| pw <| sw <| lw <| yw rfl (y_boxField (o' := 1) · rfl underlying62 rfl rfl rfl) <| yw rfl (y_loadBox (kk := 1000) (n := 4) (vs := [vI x_.Strict.Op, vT x_.Strict.Name, sl Ap04 x_.Strict.Path cp04, sl Ap05 x_.Strict.Kids cp05]) · rfl rfl underlying60 rfl rfl rfl rfl) fun a s => ?_
 refine lV s rfl func129 (c_r19_Check n _ _ s.lt _ _ _ _ _ (by omega) (s.ft 101 rfl) (s.ft 102 rfl) _ hr11) fun a w hK s => ?_
 refine S s <| aw rfl <| nw <| sw <| vw <| aw rfl <| nw <| bw fun a s => ?_
 refine c_loop (σ := Nat) (fun m1 a w => ∃ (e_16 : Int) (i_17 : Nat), r21_defError_L0 n x_ m1 e_16 i_17 = some r ∧ St (cx f113 M w0) [(1, vP b2 0), (3, vI e_16), (4, vI (((i_17 : Nat) : Int)))] [(1000, Ob.box b2 B 62)] F a w) (fun m1 => m1) n ⟨(r11), (0), hg, (s.sb rfl rfl rfl)⟩ ?_
 clear s a; rintro m1 a w ⟨e_16, i_17, hg, s⟩
 rcases m1 with _ | m1
 ·rw [r21_defError_L0] at hg; cases hg
 rw [r21_defError_L0] at hg
 apply wQ
 apply wQ
 obtain ⟨k18, hg, hk18⟩ := jn_some hg
 refine c_post (fun a w => ∃ (t_19 : Bool), k18 t_19 = some r ∧ St (cx f113 M w0) [(1, vP b2 0), (3, vI e_16), (4, vI (((i_17 : Nat) : Int))), (24, .bool (t_19))] [(1000, Ob.box b2 B 62)] F a w) ?_ ?_
 ·rcases Decidable.em (i_17 < ((x_.Defaults).length)) with hs20 | hs20
  ·have hs20e := decide_eq_true hs20
   replace hg := br_t hg hs20
   have hmx21 := SlR.mx (s.ft 103 rfl)
   refine S s <| lw <| mw rfl <| yw rfl (y_boxField (o' := 5) · rfl underlying62 rfl rfl rfl) <| yw rfl (y_loadBox1 (kk := 1000) · rfl rfl rfl underlying58 rfl) <| yw rfl (y_lenSlice · rfl underlying58) <| yw rfl (fun s => yl_b (y_lssN (i := i_17) (j := ((x_.Defaults).length)) s rfl rfl) hs20e) <| mw rfl <| hw rfl <| zw rfl (y_eql · rfl rfl) <| yw rfl (y_pick_t · rfl rfl) <| nw fun a s => ?_
   exact ⟨(decide (e_16 = 0)), hg, (s.sb rfl rfl rfl)⟩
  have hs20e := decide_eq_false hs20
  replace hg := br_f hg hs20
  refine S s <| lw <| mw rfl <| yw rfl (y_boxField (o' := 5) · rfl underlying62 rfl rfl rfl) <| yw rfl (y_loadBox1 (kk := 1000) · rfl rfl rfl underlying58 rfl) <| yw rfl (y_lenSlice · rfl underlying58) <| yw rfl (fun s => yl_b (y_lssN (i := i_17) (j := ((x_.Defaults).length)) s rfl rfl) hs20e) <| mw rfl <| gw rfl <| gw rfl <| yw rfl (y_pick_f · rfl rfl) <| nw fun a s => ?_
  exact ⟨(false), hg, (s.sb rfl rfl rfl)⟩
 clear s a; rintro a w ⟨t_19, hg, s⟩
 subst hk18
 refine c_cond s rfl (fun hc22 => ?_) (fun hc22 => ?_)
 ·replace hg := br_t hg hc22
  obtain ⟨x24, hx24, hg⟩ := bind_some hg
  obtain ⟨r26, hr26, hg⟩ := bind_some hg
  refine S s <| kw <| pw <| sw <| bw <| lw <| yw rfl (y_boxField (o' := 5) · rfl underlying62 rfl rfl rfl) <| yw rfl (y_loadBox1 (kk := 1000) · rfl rfl rfl underlying58 rfl) <| mw rfl fun a s => ?_
  obtain ⟨p29, hep29, hlq30, hmq30, csq30, hdq30, hcq30⟩ := SlR.elemX (s.ft 103 rfl) hx24
  refine qq s rfl (y_elem (sz := 4) (i := i_17) s rfl rfl underlying58 rfl hep29 rfl (lt_of_get hx24)) fun a s => ?_
  obtain ⟨Aq303, cq303, Aq304, cq304, rfl, lq302, hq303, hq304⟩ := RDesc.open hdq30
  refine S s <| nsw 106 hq303 <| nsw 107 hq304 <| yw rfl (y_ldp · rfl hlq30 hmq30 (by simpa using hcq30) underlying60 rfl rfl) fun a s => ?_
  refine lV s rfl func129 (c_r19_Check n _ _ s.lt _ _ _ _ _ (by omega) (s.ft 106 rfl) (s.ft 107 rfl) _ hr26) fun a w hK s => ?_
  refine asg s rfl rfl fun a s => ?_
  apply wO
  refine p_inN ?_
  obtain ⟨hk33, hg⟩ := chk_some hg
  refine S s <| pw <| lw <| mw rfl <| yw rfl (y_addN (i := i_17) (j := 1) · rfl rfl (in64.2 (by omega))) <| aw rfl <| nw fun a s => ?_
  exact ⟨m1, Nat.lt_succ_self _, ⟨(r26), (i_17 + 1), hg, (s.sb rfl rfl rfl)⟩⟩
 replace hg := br_n hg hc22
 apply wp_exit
 refine p_then ?_
 refine p_then ?_
 refine p_in ?_
 refine S s <| pw <| vw <| mw rfl <| aw rfl <| nw fun a s => ?_
 apply wp_ret
 obtain rfl := Option.some.inj hg
 exact fin1 (fn := Tryz.f113) s rfl (r_tmp s rfl) rfl
set_option maxHeartbeats 1000000 in
theorem c_r21_defsError (n : Nat) (M : Bs) (w0 : World) (hM : ∀ b, M b → b < w0.heap.size) (l_ : (List Def)) (Ap01 : Option Addr) (cp01 : Nat) (hp01 : sR RDef M w0 Ap01 cp01 l_) (r : Int) (hg : r21_defsError n l_ = some r) :
    Calls Tryz.prog 82 [sl Ap01 l_ cp01].toArray w0 (Ret noB w0 fun v w => v = .int .i64 (r)) := by
 unfold r21_defsError at hg
 refine enter M noB func82 rfl rfl hM ?_
 intro a s
 refine S s <| esw 101 hp01 <| vw <| aw rfl <| nw <| sw <| vw <| aw rfl <| nw <| bw fun a s => ?_
 refine c_loop (σ := Nat) (fun m1 a w => ∃ (i_1 : Nat), r21_defsError_L0 n l_ m1 i_1 = some r ∧ St (cx f82 M w0) [(0, sl Ap01 l_ cp01), (3, vI (((i_1 : Nat) : Int)))] [] [(101, sF RDef Ap01 cp01 l_)] a w) (fun m1 => m1) n ⟨(0), hg, (s.sb rfl rfl rfl)⟩ ?_
 clear s a; rintro m1 a w ⟨i_1, hg, s⟩
 rcases m1 with _ | m1
 ·rw [r21_defsError_L0] at hg; cases hg
 rw [r21_defsError_L0] at hg
 refine S s <| sw <| vw <| mw rfl <| mw rfl <| yw rfl (y_lenSlice · rfl underlying33) <| yw rfl (y_lssN (i := i_1) (j := ((l_).length)) · rfl rfl) <| nw fun a s => c_dec s rfl (fun hc2 => ?_) (fun hc2 => ?_)
 ·replace hg := br_t hg hc2
  have hmx3 := SlR.mx (s.ft 101 rfl)
  obtain ⟨x5, hx5, hg⟩ := bind_some hg
  obtain ⟨r7, hr7, hg⟩ := bind_some hg
  refine S s <| kw <| pw <| sw <| bw <| sw <| lw <| mw rfl <| mw rfl fun a s => ?_
  obtain ⟨p10, hep10, hlq11, hmq11, csq11, hdq11, hcq11⟩ := SlR.elemX (s.ft 101 rfl) hx5
  refine qq s rfl (y_elem (sz := 6) (i := i_1) s rfl rfl underlying33 rfl hep10 rfl (lt_of_get hx5)) fun a s => ?_
  obtain ⟨Aq114, cq114, Aq115, cq115, Aq116, cq116, rfl, lq111, lq113, hq114, hq115, hq116⟩ := RDef.open hdq11
  refine S s <| nsw 105 hq114 <| nsw 106 hq115 <| nsw 107 hq116 <| yw rfl (y_ldp · rfl hlq11 hmq11 (by simpa using hcq11) underlying62 rfl rfl) fun a s => ?_
  refine lV s rfl func113 (c_r21_defError n _ _ s.lt _ _ _ _ _ _ _ (by omega) (by omega) (s.ft 105 rfl) (s.ft 106 rfl) (s.ft 107 rfl) _ hr7) fun a w hK s => ?_
  refine S s <| aw rfl <| nw <| vw <| mw rfl <| yw rfl (y_neq · rfl rfl) <| nw fun a s => c_dec s rfl (fun hc14 => ?_) (fun hc14 => ?_)
  ·replace hg := br_t hg hc14
   refine S s <| vw <| mw rfl <| aw rfl <| nw fun a s => ?_
   apply wp_ret
   refine p_inR ?_
   refine p_thenR ?_
   refine p_thenR ?_
   refine p_inR ?_
   refine p_thenR ?_
   obtain rfl := Option.some.inj hg
   exact fin1 (fn := Tryz.f82) s rfl (r_tmp s rfl) rfl
  replace hg := br_f hg hc14
  apply wp_skip
  refine p_inN ?_
  refine S s <| pw <| lw <| mw rfl <| yw rfl (y_addN (i := i_1) (j := 1) · rfl rfl (in64.2 (by omega))) <| aw rfl <| nw fun a s => ?_
  exact ⟨m1, Nat.lt_succ_self _, ⟨(i_1 + 1), hg, (s.sb rfl rfl rfl)⟩⟩
 replace hg := br_f hg hc2
 apply wp_exit
 refine p_then ?_
 refine p_then ?_
 refine p_in ?_
 refine S s <| pw <| vw <| aw rfl <| nw fun a s => ?_
 apply wp_ret
 obtain rfl := Option.some.inj hg
 exact fin1 (fn := Tryz.f82) s rfl (r_tmp s rfl) rfl
set_option maxHeartbeats 1000000 in
theorem c_r01_Word (n : Nat) (M : Bs) (w0 : World) (hM : ∀ b, M b → b < w0.heap.size) (s_ : (List UInt8)) (lp01 : (s_).length ≤ 9223372036854775807) (r : Bool) (hg : r01_Word n s_ = some r) :
    Calls Tryz.prog 114 [vT s_].toArray w0 (Ret noB w0 fun v w => v = .bool (r)) := by
 unfold r01_Word at hg
 refine enter M noB func114 rfl rfl hM ?_
 intro a s
 refine S s <| vw <| aw rfl <| nw <| sw <| sw fun a s => ?_
 obtain ⟨k1, hg, hk1⟩ := jn_some hg
 refine c_post (fun a w => ∃ (t_2 : Bool), k1 t_2 = some r ∧ St (cx f114 M w0) [(0, vT s_), (11, .bool (t_2))] [] [] a w) ?_ ?_
 ·rcases Decidable.em (((s_).length) < 1) with hs3 | hs3
  ·have hs3e := decide_eq_true hs3
   replace hg := br_t hg hs3
   refine S s <| lw <| mw rfl <| yw rfl (y_lenStrN · rfl underlying9) <| yw rfl (fun s => yl_b (y_lssN (i := ((s_).length)) (j := 1) s rfl rfl) hs3e) <| mw rfl <| gw rfl <| gw rfl <| gw rfl <| yw rfl (y_pick_t · rfl rfl) <| nw fun a s => ?_
   exact ⟨(true), hg, (s.sb rfl rfl rfl)⟩
  have hs3e := decide_eq_false hs3
  replace hg := br_f hg hs3
  refine S s <| lw <| mw rfl <| yw rfl (y_lenStrN · rfl underlying9) <| yw rfl (fun s => yl_b (y_lssN (i := ((s_).length)) (j := 1) s rfl rfl) hs3e) <| mw rfl <| hw rfl <| zw rfl (y_lenStrN · rfl underlying9) <| zw rfl (y_gtrN (i := ((s_).length)) (j := 32) · rfl rfl) <| yw rfl (y_pick_f · rfl rfl) <| nw fun a s => ?_
  exact ⟨(decide ((32 : Nat) < ((s_).length))), hg, (s.sb rfl rfl rfl)⟩
 clear s a; rintro a w ⟨t_2, hg, s⟩
 subst hk1
 refine c_cond s rfl (fun hc4 => ?_) (fun hc4 => ?_)
 ·replace hg := br_t hg hc4
  refine S s <| vw <| aw rfl <| nw fun a s => ?_
  apply wp_ret
  refine p_thenR ?_
  obtain rfl := Option.some.inj hg
  exact fin1 (fn := Tryz.f114) s rfl (r_tmp s rfl) rfl
 replace hg := br_n hg hc4
 refine S s <| kw <| pw <| sw <| vw <| aw rfl <| nw <| bw fun a s => ?_
 refine c_loop (σ := Nat) (fun m1 a w => ∃ (i_5 : Nat), r01_Word_L0 n s_ m1 i_5 = some r ∧ St (cx f114 M w0) [(0, vT s_), (3, vI (((i_5 : Nat) : Int)))] [] [] a w) (fun m1 => m1) n ⟨(0), hg, (s.sb rfl rfl rfl)⟩ ?_
 clear s a; rintro m1 a w ⟨i_5, hg, s⟩
 rcases m1 with _ | m1
 ·rw [r01_Word_L0] at hg; cases hg
 rw [r01_Word_L0] at hg
 refine S s <| sw <| vw <| mw rfl <| mw rfl <| yw rfl (y_lenStrN · rfl underlying9) <| yw rfl (y_lssN (i := i_5) (j := ((s_).length)) · rfl rfl) <| nw fun a s => c_dec s rfl (fun hc6 => ?_) (fun hc6 => ?_)
 ·replace hg := br_t hg hc6
  have hmx7 : (s_).length ≤ 9223372036854775807 := (by omega)
  refine S s <| kw <| pw <| sw <| bw <| sw fun a s => ?_
  obtain ⟨k8, hg, hk8⟩ := jn_some hg
  refine c_post (fun a w => ∃ (t_9 : Bool), k8 t_9 = some r ∧ St (cx f114 M w0) [(0, vT s_), (3, vI (((i_5 : Nat) : Int))), (45, .bool (t_9))] [] [] a w) ?_ ?_
  ·obtain ⟨c10, hc10, hg⟩ := bind_some hg
   rcases Decidable.em (c10.toNat < 33) with hs11 | hs11
   ·have hs11e := decide_eq_true hs11
    replace hg := br_t hg hs11
    refine S s <| lw <| mw rfl <| mw rfl <| yw rfl (y_indexN (i := i_5) · rfl rfl underlying9 rfl hc10) <| yw rfl (fun s => yl_b (y_lssN (i := c10.toNat) (j := 33) s rfl rfl) hs11e) <| mw rfl <| gw rfl <| gw rfl <| gw rfl <| gw rfl <| yw rfl (y_pick_t · rfl rfl) <| mw rfl <| gw rfl <| gw rfl <| gw rfl <| gw rfl <| yw rfl (y_pick_t · rfl rfl) <| mw rfl <| gw rfl <| gw rfl <| gw rfl <| gw rfl <| yw rfl (y_pick_t · rfl rfl) <| mw rfl <| gw rfl <| gw rfl <| gw rfl <| gw rfl <| yw rfl (y_pick_t · rfl rfl) <| nw fun a s => ?_
    exact ⟨(true), hg, (s.sb rfl rfl rfl)⟩
   have hs11e := decide_eq_false hs11
   replace hg := br_f hg hs11
   rcases Decidable.em ((126 : Nat) < c10.toNat) with hs12 | hs12
   ·have hs12e := decide_eq_true hs12
    replace hg := br_t hg hs12
    refine S s <| lw <| mw rfl <| mw rfl <| yw rfl (y_indexN (i := i_5) · rfl rfl underlying9 rfl hc10) <| yw rfl (fun s => yl_b (y_lssN (i := c10.toNat) (j := 33) s rfl rfl) hs11e) <| mw rfl <| hw rfl <| hw rfl <| zw rfl (y_indexN (i := i_5) · rfl rfl underlying9 rfl hc10) <| zw rfl (fun s => yl_b (y_gtrN (i := c10.toNat) (j := 126) s rfl rfl) hs12e) <| yw rfl (y_pick_f · rfl rfl) <| mw rfl <| gw rfl <| gw rfl <| gw rfl <| gw rfl <| yw rfl (y_pick_t · rfl rfl) <| mw rfl <| gw rfl <| gw rfl <| gw rfl <| gw rfl <| yw rfl (y_pick_t · rfl rfl) <| mw rfl <| gw rfl <| gw rfl <| gw rfl <| gw rfl <| yw rfl (y_pick_t · rfl rfl) <| nw fun a s => ?_
    exact ⟨(true), hg, (s.sb rfl rfl rfl)⟩
   have hs12e := decide_eq_false hs12
   replace hg := br_f hg hs12
   obtain ⟨r13, hr13, hg⟩ := bind_some hg
   rcases Bool.eq_false_or_eq_true (r13) with hs16 | hs16
   ·replace hg := br_t hg hs16
    refine S s <| lw <| mw rfl <| mw rfl <| yw rfl (y_indexN (i := i_5) · rfl rfl underlying9 rfl hc10) <| yw rfl (fun s => yl_b (y_lssN (i := c10.toNat) (j := 33) s rfl rfl) hs11e) <| mw rfl <| hw rfl <| hw rfl <| zw rfl (y_indexN (i := i_5) · rfl rfl underlying9 rfl hc10) <| zw rfl (fun s => yl_b (y_gtrN (i := c10.toNat) (j := 126) s rfl rfl) hs12e) <| yw rfl (y_pick_f · rfl rfl) <| mw rfl <| hw rfl <| hw rfl <| zw rfl (y_indexN (i := i_5) · rfl rfl underlying9 rfl hc10) fun a s => ?_
    refine gC s rfl func130 (c_r01_upper n _ _ s.lt _ _ hr13) fun v17 a w hK hp s => ?_
    obtain rfl := hp.trans (congrArg Value.bool hs16)
    refine S s <| yw rfl (y_pick_f · rfl rfl) <| mw rfl <| gw rfl <| gw rfl <| gw rfl <| gw rfl <| yw rfl (y_pick_t · rfl rfl) <| mw rfl <| gw rfl <| gw rfl <| gw rfl <| gw rfl <| yw rfl (y_pick_t · rfl rfl) <| nw fun a s => ?_
    exact ⟨(true), hg, (s.sb rfl rfl rfl)⟩
   replace hg := br_n hg hs16
   rcases Decidable.em (c10.toNat = 34) with hs19 | hs19
   ·have hs19e := decide_eq_true hs19
    replace hg := br_t hg hs19
    refine S s <| lw <| mw rfl <| mw rfl <| yw rfl (y_indexN (i := i_5) · rfl rfl underlying9 rfl hc10) <| yw rfl (fun s => yl_b (y_lssN (i := c10.toNat) (j := 33) s rfl rfl) hs11e) <| mw rfl <| hw rfl <| hw rfl <| zw rfl (y_indexN (i := i_5) · rfl rfl underlying9 rfl hc10) <| zw rfl (fun s => yl_b (y_gtrN (i := c10.toNat) (j := 126) s rfl rfl) hs12e) <| yw rfl (y_pick_f · rfl rfl) <| mw rfl <| hw rfl <| hw rfl <| zw rfl (y_indexN (i := i_5) · rfl rfl underlying9 rfl hc10) fun a s => ?_
    refine gC s rfl func130 (c_r01_upper n _ _ s.lt _ _ hr13) fun v20 a w hK hp s => ?_
    obtain rfl := hp.trans (congrArg Value.bool hs16)
    refine S s <| yw rfl (y_pick_f · rfl rfl) <| mw rfl <| hw rfl <| hw rfl <| zw rfl (y_indexN (i := i_5) · rfl rfl underlying9 rfl hc10) <| zw rfl (fun s => yl_b (y_eqlN (i := c10.toNat) (j := 34) s rfl rfl) hs19e) <| yw rfl (y_pick_f · rfl rfl) <| mw rfl <| gw rfl <| gw rfl <| gw rfl <| gw rfl <| yw rfl (y_pick_t · rfl rfl) <| nw fun a s => ?_
    exact ⟨(true), hg, (s.sb rfl rfl rfl)⟩
   have hs19e := decide_eq_false hs19
   replace hg := br_f hg hs19
   refine S s <| lw <| mw rfl <| mw rfl <| yw rfl (y_indexN (i := i_5) · rfl rfl underlying9 rfl hc10) <| yw rfl (fun s => yl_b (y_lssN (i := c10.toNat) (j := 33) s rfl rfl) hs11e) <| mw rfl <| hw rfl <| hw rfl <| zw rfl (y_indexN (i := i_5) · rfl rfl underlying9 rfl hc10) <| zw rfl (fun s => yl_b (y_gtrN (i := c10.toNat) (j := 126) s rfl rfl) hs12e) <| yw rfl (y_pick_f · rfl rfl) <| mw rfl <| hw rfl <| hw rfl <| zw rfl (y_indexN (i := i_5) · rfl rfl underlying9 rfl hc10) fun a s => ?_
   refine gC s rfl func130 (c_r01_upper n _ _ s.lt _ _ hr13) fun v22 a w hK hp s => ?_
   obtain rfl := hp.trans (congrArg Value.bool hs16)
   refine S s <| yw rfl (y_pick_f · rfl rfl) <| mw rfl <| hw rfl <| hw rfl <| zw rfl (y_indexN (i := i_5) · rfl rfl underlying9 rfl hc10) <| zw rfl (fun s => yl_b (y_eqlN (i := c10.toNat) (j := 34) s rfl rfl) hs19e) <| yw rfl (y_pick_f · rfl rfl) <| mw rfl <| hw rfl <| hw rfl <| zw rfl (y_indexN (i := i_5) · rfl rfl underlying9 rfl hc10) <| zw rfl (y_eqlN (i := c10.toNat) (j := 92) · rfl rfl) <| yw rfl (y_pick_f · rfl rfl) <| nw fun a s => ?_
   exact ⟨(decide (c10.toNat = 92)), hg, (s.sb rfl rfl rfl)⟩
  clear s a; rintro a w ⟨t_9, hg, s⟩
  subst hk8
  refine c_cond s rfl (fun hc24 => ?_) (fun hc24 => ?_)
  ·replace hg := br_t hg hc24
   refine S s <| vw <| aw rfl <| nw fun a s => ?_
   apply wp_ret
   refine p_inR ?_
   refine p_thenR ?_
   refine p_thenR ?_
   refine p_inR ?_
   refine p_thenR ?_
   obtain rfl := Option.some.inj hg
   exact fin1 (fn := Tryz.f114) s rfl (r_tmp s rfl) rfl
  replace hg := br_n hg hc24
  apply wp_skip
  refine p_inN ?_
  refine S s <| pw <| lw <| mw rfl <| yw rfl (y_addN (i := i_5) (j := 1) · rfl rfl (in64.2 (by omega))) <| aw rfl <| nw fun a s => ?_
  exact ⟨m1, Nat.lt_succ_self _, ⟨(i_5 + 1), hg, (s.sb rfl rfl rfl)⟩⟩
 replace hg := br_f hg hc6
 apply wp_exit
 refine p_then ?_
 refine p_then ?_
 refine p_in ?_
 refine S s <| pw <| vw <| aw rfl <| nw fun a s => ?_
 apply wp_ret
 obtain rfl := Option.some.inj hg
 exact fin1 (fn := Tryz.f114) s rfl (r_tmp s rfl) rfl
set_option maxHeartbeats 1000000 in
theorem c_r21_entriesError (n : Nat) (M : Bs) (w0 : World) (hM : ∀ b, M b → b < w0.heap.size) (l_ : (List EntryDecl)) (Ap01 : Option Addr) (cp01 : Nat) (hp01 : sR REntryDecl M w0 Ap01 cp01 l_) (r : Int) (hg : r21_entriesError n l_ = some r) :
    Calls Tryz.prog 83 [sl Ap01 l_ cp01].toArray w0 (Ret noB w0 fun v w => v = .int .i64 (r)) := by
 unfold r21_entriesError at hg
 refine enter M noB func83 rfl rfl hM ?_
 intro a s
 refine S s <| esw 101 hp01 <| vw <| aw rfl <| nw <| sw <| vw <| aw rfl <| nw <| bw fun a s => ?_
 refine c_loop (σ := Nat) (fun m1 a w => ∃ (i_1 : Nat), r21_entriesError_L0 n l_ m1 i_1 = some r ∧ St (cx f83 M w0) [(0, sl Ap01 l_ cp01), (3, vI (((i_1 : Nat) : Int)))] [] [(101, sF REntryDecl Ap01 cp01 l_)] a w) (fun m1 => m1) n ⟨(0), hg, (s.sb rfl rfl rfl)⟩ ?_
 clear s a; rintro m1 a w ⟨i_1, hg, s⟩
 rcases m1 with _ | m1
 ·rw [r21_entriesError_L0] at hg; cases hg
 rw [r21_entriesError_L0] at hg
 refine S s <| sw <| vw <| mw rfl <| mw rfl <| yw rfl (y_lenSlice · rfl underlying34) <| yw rfl (y_lssN (i := i_1) (j := ((l_).length)) · rfl rfl) <| nw fun a s => c_dec s rfl (fun hc2 => ?_) (fun hc2 => ?_)
 ·replace hg := br_t hg hc2
  have hmx3 := SlR.mx (s.ft 101 rfl)
  obtain ⟨x5, hx5, hg⟩ := bind_some hg
  refine S s <| kw <| pw <| sw <| bw <| sw <| sw <| lw <| mw rfl <| mw rfl fun a s => ?_
  obtain ⟨p7, hep7, hlq8, hmq8, csq8, hdq8, hcq8⟩ := SlR.elemX (s.ft 101 rfl) hx5
  refine S s <| yw rfl (y_elem (sz := 7) (i := i_1) · rfl rfl underlying34 rfl hep7 rfl (lt_of_get hx5)) <| yw rfl (y_ptrField (o' := 0) · rfl underlying89 rfl rfl rfl) fun a s => ?_
  obtain ⟨Aq81, cq81, Aq85, cq85, Aq86, cq86, Aq87, cq87, rfl, hq81, lq82, lq84, hq85, hq86, hq87⟩ := REntryDecl.open hdq8
  refine S s <| nsw 106 hq81 <| nsw 107 hq85 <| nsw 108 hq86 <| nsw 109 hq87 <| yw rfl (y_ldp1 · rfl hlq8 hmq8 (hcq8 0 _ rfl) underlying25 rfl) <| yw rfl (y_lenSlice · rfl underlying25) <| yw rfl (y_eqlN (i := ((x5.Words).length)) (j := 0) · rfl rfl) <| nw fun a s => c_dec s rfl (fun hc9 => ?_) (fun hc9 => ?_)
  ·replace hg := br_t hg hc9
   refine S s <| vw <| aw rfl <| nw fun a s => ?_
   apply wp_ret
   refine p_thenR ?_
   refine p_inR ?_
   refine p_thenR ?_
   refine p_thenR ?_
   refine p_inR ?_
   refine p_thenR ?_
   obtain rfl := Option.some.inj hg
   exact fin1 (fn := Tryz.f83) s rfl (r_tmp s rfl) rfl
  replace hg := br_f hg hc9
  refine S s <| kw <| pw <| sw <| vw <| aw rfl <| nw fun a s => ?_
  obtain ⟨k10, hg, hk10⟩ := jn_some hg
  refine c_post (fun a w => k10 = some r ∧ St (cx f83 M w0) [(0, sl Ap01 l_ cp01), (3, vI (((i_1 : Nat) : Int)))] [] [(101, sF REntryDecl Ap01 cp01 l_)] a w) ?_ ?_
  ·apply wp_block
   refine c_loop (σ := Nat) (fun m2 a w => ∃ (k_11 : Nat), r21_entriesError_L1 n x5 k10 m2 k_11 = some r ∧ St (cx f83 M w0) [(0, sl Ap01 l_ cp01), (3, vI (((i_1 : Nat) : Int))), (4, vI (((k_11 : Nat) : Int)))] [] [(101, sF REntryDecl Ap01 cp01 l_)] a w) (fun m2 => m2) n ⟨(0), hg, (s.sb rfl rfl rfl)⟩ ?_
   clear s a; rintro m2 a w ⟨k_11, hg, s⟩
   rcases m2 with _ | m2
   ·rw [r21_entriesError_L1] at hg; cases hg
   rw [r21_entriesError_L1] at hg
   refine S s <| sw <| vw <| mw rfl <| mw rfl <| mw rfl fun a s => ?_
   obtain ⟨p14, hep14, hlq15, hmq15, csq15, hdq15, hcq15⟩ := SlR.elemX (s.ft 101 rfl) hx5
   refine S s <| yw rfl (y_elem (sz := 7) (i := i_1) · rfl rfl underlying34 rfl hep14 rfl (lt_of_get hx5)) <| yw rfl (y_ptrField (o' := 0) · rfl underlying89 rfl rfl rfl) fun a s => ?_
   obtain ⟨Aq151, cq151, Aq155, cq155, Aq156, cq156, Aq157, cq157, rfl, hq151, lq152, lq154, hq155, hq156, hq157⟩ := REntryDecl.open hdq15
   refine S s <| nsw 114 hq151 <| nsw 115 hq155 <| nsw 116 hq156 <| nsw 117 hq157 <| yw rfl (y_ldp1 · rfl hlq15 hmq15 (hcq15 0 _ rfl) underlying25 rfl) <| yw rfl (y_lenSlice · rfl underlying25) <| yw rfl (y_lssN (i := k_11) (j := ((x5.Words).length)) · rfl rfl) <| nw fun a s => c_dec s rfl (fun hc16 => ?_) (fun hc16 => ?_)
   ·replace hg := br_t hg hc16
    have hmx17 := SlR.mx (s.ft 114 rfl)
    obtain ⟨x21, hx21, hg⟩ := bind_some hg
    obtain ⟨r23, hr23, hg⟩ := bind_some hg
    refine S s <| kw <| pw <| sw <| bw <| sw <| lw <| mw rfl <| mw rfl fun a s => ?_
    obtain ⟨p26, hep26, hlq27, hmq27, csq27, hdq27, hcq27⟩ := SlR.elemX (s.ft 101 rfl) hx5
    refine S s <| yw rfl (y_elem (sz := 7) (i := i_1) · rfl rfl underlying34 rfl hep26 rfl (lt_of_get hx5)) <| yw rfl (y_ptrField (o' := 0) · rfl underlying89 rfl rfl rfl) fun a s => ?_
    obtain ⟨Aq271, cq271, Aq275, cq275, Aq276, cq276, Aq277, cq277, rfl, hq271, lq272, lq274, hq275, hq276, hq277⟩ := REntryDecl.open hdq27
    refine S s <| nsw 122 hq271 <| nsw 123 hq275 <| nsw 124 hq276 <| nsw 125 hq277 <| yw rfl (y_ldp1 · rfl hlq27 hmq27 (hcq27 0 _ rfl) underlying25 rfl) <| mw rfl fun a s => ?_
    obtain ⟨p28, hep28, hlq29, hmq29, csq29, hdq29, hcq29⟩ := SlR.elemX (s.ft 122 rfl) hx21
    refine qq s rfl (y_elem (sz := 1) (i := k_11) s rfl rfl underlying25 rfl hep28 rfl (lt_of_get hx21)) fun a s => ?_
    obtain ⟨rfl, lq291⟩ := hdq29
    refine qq s rfl (y_ldp1 s rfl hlq29 hmq29 (hcq29 0 _ rfl) underlying9 rfl) fun a s => ?_
    refine lV s rfl func114 (c_r01_Word n _ _ s.lt _ (by omega) _ hr23) fun a w hK s => ?_
    refine S s <| yw rfl (y_not · rfl) <| nw fun a s => c_cond s rfl (fun hc32 => ?_) (fun hc32 => ?_)
    ·replace hg := br_t hg hc32
     refine S s <| vw <| aw rfl <| nw fun a s => ?_
     apply wp_ret
     refine p_inR ?_
     refine p_thenR ?_
     refine p_thenR ?_
     refine p_inR ?_
     refine p_thenR ?_
     refine p_inR ?_
     refine p_thenR ?_
     refine p_thenR ?_
     refine p_inR ?_
     refine p_thenR ?_
     obtain rfl := Option.some.inj hg
     exact fin1 (fn := Tryz.f83) s rfl (r_tmp s rfl) rfl
    replace hg := br_n hg hc32
    apply wp_skip
    refine p_inN ?_
    refine S s <| pw <| lw <| mw rfl <| yw rfl (y_addN (i := k_11) (j := 1) · rfl rfl (in64.2 (by omega))) <| aw rfl <| nw fun a s => ?_
    exact ⟨m2, Nat.lt_succ_self _, ⟨(k_11 + 1), hg, (s.sb rfl rfl rfl)⟩⟩
   replace hg := br_f hg hc16
   apply wp_exit
   refine p_then ?_
   refine p_then ?_
   refine p_in ?_
   apply pN
   exact ⟨hg, (s.sb rfl rfl rfl)⟩
  clear s a; rintro a w ⟨hg, s⟩
  subst hk10
  obtain ⟨r35, hr35, hg⟩ := bind_some hg
  refine S s <| sw <| lw <| mw rfl <| mw rfl fun a s => ?_
  obtain ⟨p38, hep38, hlq39, hmq39, csq39, hdq39, hcq39⟩ := SlR.elemX (s.ft 101 rfl) hx5
  refine S s <| yw rfl (y_elem (sz := 7) (i := i_1) · rfl rfl underlying34 rfl hep38 rfl (lt_of_get hx5)) <| yw rfl (y_ptrField (o' := 1) · rfl underlying89 rfl rfl rfl) fun a s => ?_
  obtain ⟨Aq391, cq391, Aq395, cq395, Aq396, cq396, Aq397, cq397, rfl, hq391, lq392, lq394, hq395, hq396, hq397⟩ := REntryDecl.open hdq39
  refine S s <| nsw 130 hq391 <| nsw 131 hq395 <| nsw 132 hq396 <| nsw 133 hq397 <| yw rfl (y_ldp (cs := [vT x5.Def.Name, vI x5.Def.Strict.Op, vT x5.Def.Strict.Name, sl Aq395 x5.Def.Strict.Path cq395, sl Aq396 x5.Def.Strict.Kids cq396, sl Aq397 x5.Def.Defaults cq397]) · rfl hlq39 hmq39 (fun j v hj => hcq39 (1 + j) v (by rcases j with _ | (_ | (_ | (_ | (_ | (_ | _))))) <;> first | exact hj | cases hj)) underlying62 rfl rfl) fun a s => ?_
  refine lV s rfl func113 (c_r21_defError n _ _ s.lt _ _ _ _ _ _ _ (by omega) (by omega) (s.ft 131 rfl) (s.ft 132 rfl) (s.ft 133 rfl) _ hr35) fun a w hK s => ?_
  refine S s <| aw rfl <| nw <| vw <| mw rfl <| yw rfl (y_neq · rfl rfl) <| nw fun a s => c_dec s rfl (fun hc42 => ?_) (fun hc42 => ?_)
  ·replace hg := br_t hg hc42
   refine S s <| vw <| mw rfl <| aw rfl <| nw fun a s => ?_
   apply wp_ret
   refine p_inR ?_
   refine p_thenR ?_
   refine p_thenR ?_
   refine p_inR ?_
   refine p_thenR ?_
   obtain rfl := Option.some.inj hg
   exact fin1 (fn := Tryz.f83) s rfl (r_tmp s rfl) rfl
  replace hg := br_f hg hc42
  apply wp_skip
  refine p_inN ?_
  refine S s <| pw <| lw <| mw rfl <| yw rfl (y_addN (i := i_1) (j := 1) · rfl rfl (in64.2 (by omega))) <| aw rfl <| nw fun a s => ?_
  exact ⟨m1, Nat.lt_succ_self _, ⟨(i_1 + 1), hg, (s.sb rfl rfl rfl)⟩⟩
 replace hg := br_f hg hc2
 apply wp_exit
 refine p_then ?_
 refine p_then ?_
 refine p_in ?_
 refine S s <| pw <| vw <| aw rfl <| nw fun a s => ?_
 apply wp_ret
 obtain rfl := Option.some.inj hg
 exact fin1 (fn := Tryz.f83) s rfl (r_tmp s rfl) rfl
set_option maxHeartbeats 1000000 in
theorem c_r21_quotable (n : Nat) (M : Bs) (w0 : World) (hM : ∀ b, M b → b < w0.heap.size) (s_ : (List UInt8)) (lp01 : (s_).length ≤ 9223372036854775807) (r : Bool) (hg : r21_quotable n s_ = some r) :
    Calls Tryz.prog 131 [vT s_].toArray w0 (Ret noB w0 fun v w => v = .bool (r)) := by
 unfold r21_quotable at hg
 refine enter M noB func131 rfl rfl hM ?_
 intro a s
 refine S s <| vw <| aw rfl <| nw <| sw <| vw <| aw rfl <| nw <| bw fun a s => ?_
 refine c_loop (σ := Nat) (fun m1 a w => ∃ (i_1 : Nat), r21_quotable_L0 n s_ m1 i_1 = some r ∧ St (cx f131 M w0) [(0, vT s_), (3, vI (((i_1 : Nat) : Int)))] [] [] a w) (fun m1 => m1) n ⟨(0), hg, (s.sb rfl rfl rfl)⟩ ?_
 clear s a; rintro m1 a w ⟨i_1, hg, s⟩
 rcases m1 with _ | m1
 ·rw [r21_quotable_L0] at hg; cases hg
 rw [r21_quotable_L0] at hg
 refine S s <| sw <| vw <| mw rfl <| mw rfl <| yw rfl (y_lenStrN · rfl underlying9) <| yw rfl (y_lssN (i := i_1) (j := ((s_).length)) · rfl rfl) <| nw fun a s => c_dec s rfl (fun hc2 => ?_) (fun hc2 => ?_)
 ·replace hg := br_t hg hc2
  have hmx3 : (s_).length ≤ 9223372036854775807 := (by omega)
  refine S s <| kw <| pw <| sw <| bw <| sw fun a s => ?_
  obtain ⟨k4, hg, hk4⟩ := jn_some hg
  refine c_post (fun a w => ∃ (t_5 : Bool), k4 t_5 = some r ∧ St (cx f131 M w0) [(0, vT s_), (3, vI (((i_1 : Nat) : Int))), (25, .bool (t_5))] [] [] a w) ?_ ?_
  ·obtain ⟨c6, hc6, hg⟩ := bind_some hg
   rcases Decidable.em (c6.toNat < 32) with hs7 | hs7
   ·have hs7e := decide_eq_true hs7
    replace hg := br_t hg hs7
    refine S s <| lw <| mw rfl <| mw rfl <| yw rfl (y_indexN (i := i_1) · rfl rfl underlying9 rfl hc6) <| yw rfl (fun s => yl_b (y_lssN (i := c6.toNat) (j := 32) s rfl rfl) hs7e) <| mw rfl <| gw rfl <| gw rfl <| gw rfl <| gw rfl <| yw rfl (y_pick_t · rfl rfl) <| mw rfl <| gw rfl <| gw rfl <| gw rfl <| gw rfl <| yw rfl (y_pick_t · rfl rfl) <| nw fun a s => ?_
    exact ⟨(true), hg, (s.sb rfl rfl rfl)⟩
   have hs7e := decide_eq_false hs7
   replace hg := br_f hg hs7
   rcases Decidable.em ((126 : Nat) < c6.toNat) with hs8 | hs8
   ·have hs8e := decide_eq_true hs8
    replace hg := br_t hg hs8
    refine S s <| lw <| mw rfl <| mw rfl <| yw rfl (y_indexN (i := i_1) · rfl rfl underlying9 rfl hc6) <| yw rfl (fun s => yl_b (y_lssN (i := c6.toNat) (j := 32) s rfl rfl) hs7e) <| mw rfl <| hw rfl <| hw rfl <| zw rfl (y_indexN (i := i_1) · rfl rfl underlying9 rfl hc6) <| zw rfl (fun s => yl_b (y_gtrN (i := c6.toNat) (j := 126) s rfl rfl) hs8e) <| yw rfl (y_pick_f · rfl rfl) <| mw rfl <| gw rfl <| gw rfl <| gw rfl <| gw rfl <| yw rfl (y_pick_t · rfl rfl) <| nw fun a s => ?_
    exact ⟨(true), hg, (s.sb rfl rfl rfl)⟩
   have hs8e := decide_eq_false hs8
   replace hg := br_f hg hs8
   refine S s <| lw <| mw rfl <| mw rfl <| yw rfl (y_indexN (i := i_1) · rfl rfl underlying9 rfl hc6) <| yw rfl (fun s => yl_b (y_lssN (i := c6.toNat) (j := 32) s rfl rfl) hs7e) <| mw rfl <| hw rfl <| hw rfl <| zw rfl (y_indexN (i := i_1) · rfl rfl underlying9 rfl hc6) <| zw rfl (fun s => yl_b (y_gtrN (i := c6.toNat) (j := 126) s rfl rfl) hs8e) <| yw rfl (y_pick_f · rfl rfl) <| mw rfl <| hw rfl <| hw rfl <| zw rfl (y_indexN (i := i_1) · rfl rfl underlying9 rfl hc6) <| zw rfl (y_eqlN (i := c6.toNat) (j := 34) · rfl rfl) <| yw rfl (y_pick_f · rfl rfl) <| nw fun a s => ?_
   exact ⟨(decide (c6.toNat = 34)), hg, (s.sb rfl rfl rfl)⟩
  clear s a; rintro a w ⟨t_5, hg, s⟩
  subst hk4
  refine c_cond s rfl (fun hc9 => ?_) (fun hc9 => ?_)
  ·replace hg := br_t hg hc9
   refine S s <| vw <| aw rfl <| nw fun a s => ?_
   apply wp_ret
   refine p_inR ?_
   refine p_thenR ?_
   refine p_thenR ?_
   refine p_inR ?_
   refine p_thenR ?_
   obtain rfl := Option.some.inj hg
   exact fin1 (fn := Tryz.f131) s rfl (r_tmp s rfl) rfl
  replace hg := br_n hg hc9
  apply wp_skip
  refine p_inN ?_
  refine S s <| pw <| lw <| mw rfl <| yw rfl (y_addN (i := i_1) (j := 1) · rfl rfl (in64.2 (by omega))) <| aw rfl <| nw fun a s => ?_
  exact ⟨m1, Nat.lt_succ_self _, ⟨(i_1 + 1), hg, (s.sb rfl rfl rfl)⟩⟩
 replace hg := br_f hg hc2
 apply wp_exit
 refine p_then ?_
 refine p_then ?_
 refine p_in ?_
 refine S s <| pw <| vw <| aw rfl <| nw fun a s => ?_
 apply wp_ret
 obtain rfl := Option.some.inj hg
 exact fin1 (fn := Tryz.f131) s rfl (r_tmp s rfl) rfl
set_option maxHeartbeats 1000000 in
theorem c_r21_affixError (n : Nat) (M : Bs) (w0 : World) (hM : ∀ b, M b → b < w0.heap.size) (a_ : Affix) (Ap02 : Option Addr) (cp02 : Nat) (hp02 : sR RChange M w0 Ap02 cp02 a_.Pairs) (r : Int) (hg : r21_affixError n a_ = some r) :
    Calls Tryz.prog 115 [.agg #[.int .i64 (a_.Kind), sl Ap02 a_.Pairs cp02]].toArray w0 (Ret noB w0 fun v w => v = .int .i64 (r)) := by
 unfold r21_affixError at hg
 refine enter M noB func115 rfl rfl hM ?_
 intro a s
 replace s := s.es 101 hp02
 apply wR
 refine l_seq rfl (l_box (zs := [vI a_.Kind, sl Ap02 a_.Pairs cp02]) s 1000 rfl rfl rfl rfl fun b2 a w hb hK s => ?_)
 refine S s <| aw rfl <| nw <| sw <| sw fun a s => ?_
 obtain ⟨k3, hg, hk3⟩ := jn_some hg
 refine c_post (fun a w => ∃ (t_4 : Bool), k3 t_4 = some r ∧ St (cx f115 M w0) [(1, vP b2 0), (16, .bool (t_4))] [(1000, Ob.box b2 [vI a_.Kind, sl Ap02 a_.Pairs cp02] 92)] [(101, sF RChange Ap02 cp02 a_.Pairs)] a w) ?_ ?_
 ·rcases Decidable.em (a_.Kind ≠ 0) with hs5 | hs5
  ·have hs5e := decide_eq_true hs5
   replace hg := br_t hg hs5
   rcases Decidable.em (a_.Kind ≠ 1) with hs6 | hs6
   ·have hs6e := decide_eq_true hs6
    replace hg := br_t hg hs6
    refine S s <| lw <| yw rfl (y_boxField (o' := 0) · rfl underlying92 rfl rfl rfl) <| yw rfl (y_loadBox1 (kk := 1000) · rfl rfl rfl underlying3 rfl) <| yw rfl (fun s => yl_b (y_neq s rfl rfl) hs5e) <| mw rfl <| zw rfl (y_boxField (o' := 0) · rfl underlying92 rfl rfl rfl) <| zw rfl (y_loadBox1 (kk := 1000) · rfl rfl rfl underlying3 rfl) <| zw rfl (fun s => yl_b (y_neq s rfl rfl) hs6e) <| yw rfl (y_pick_t · rfl rfl) <| mw rfl <| zw rfl (y_boxField (o' := 0) · rfl underlying92 rfl rfl rfl) <| zw rfl (y_loadBox1 (kk := 1000) · rfl rfl rfl underlying3 rfl) <| zw rfl (y_neq · rfl rfl) <| yw rfl (y_pick_t · rfl rfl) <| nw fun a s => ?_
    exact ⟨(decide (a_.Kind ≠ 2)), hg, (s.sb rfl rfl rfl)⟩
   have hs6e := decide_eq_false hs6
   replace hg := br_f hg hs6
   refine S s <| lw <| yw rfl (y_boxField (o' := 0) · rfl underlying92 rfl rfl rfl) <| yw rfl (y_loadBox1 (kk := 1000) · rfl rfl rfl underlying3 rfl) <| yw rfl (fun s => yl_b (y_neq s rfl rfl) hs5e) <| mw rfl <| zw rfl (y_boxField (o' := 0) · rfl underlying92 rfl rfl rfl) <| zw rfl (y_loadBox1 (kk := 1000) · rfl rfl rfl underlying3 rfl) <| zw rfl (fun s => yl_b (y_neq s rfl rfl) hs6e) <| yw rfl (y_pick_t · rfl rfl) <| mw rfl <| gw rfl <| gw rfl <| gw rfl <| yw rfl (y_pick_f · rfl rfl) <| nw fun a s => ?_
   exact ⟨(false), hg, (s.sb rfl rfl rfl)⟩
  have hs5e := decide_eq_false hs5
  replace hg := br_f hg hs5
  refine S s <| lw <| yw rfl (y_boxField (o' := 0) · rfl underlying92 rfl rfl rfl) <| yw rfl (y_loadBox1 (kk := 1000) · rfl rfl rfl underlying3 rfl) <| yw rfl (fun s => yl_b (y_neq s rfl rfl) hs5e) <| mw rfl <| gw rfl <| gw rfl <| gw rfl <| yw rfl (y_pick_f · rfl rfl) <| mw rfl <| gw rfl <| gw rfl <| gw rfl <| yw rfl (y_pick_f · rfl rfl) <| nw fun a s => ?_
  exact ⟨(false), hg, (s.sb rfl rfl rfl)⟩
 clear s a; rintro a w ⟨t_4, hg, s⟩
 subst hk3
 refine c_cond s rfl (fun hc7 => ?_) (fun hc7 => ?_)
 ·replace hg := br_t hg hc7
  refine S s <| vw <| aw rfl <| nw fun a s => ?_
  apply wp_ret
  refine p_thenR ?_
  obtain rfl := Option.some.inj hg
  exact fin1 (fn := Tryz.f115) s rfl (r_tmp s rfl) rfl
 replace hg := br_n hg hc7
 refine S s <| kw <| pw <| sw <| vw <| yw rfl (y_boxField (o' := 0) · rfl underlying92 rfl rfl rfl) <| yw rfl (y_loadBox1 (kk := 1000) · rfl rfl rfl underlying3 rfl) <| yw rfl (y_eql · rfl rfl) <| yw rfl (y_boxField (o' := 1) · rfl underlying92 rfl rfl rfl) <| yw rfl (y_loadBox1 (kk := 1000) · rfl rfl rfl underlying90 rfl) <| yw rfl (y_lenSlice · rfl underlying90) <| yw rfl (y_eqlN (i := ((a_.Pairs).length)) (j := 0) · rfl rfl) <| yw rfl (y_bne · rfl rfl underlying4) <| nw fun a s => c_cond s rfl (fun hc8 => ?_) (fun hc8 => ?_)
 ·replace hg := br_t hg hc8
  refine S s <| vw <| aw rfl <| nw fun a s => ?_
  apply wp_ret
  refine p_thenR ?_
  obtain rfl := Option.some.inj hg
  exact fin1 (fn := Tryz.f115) s rfl (r_tmp s rfl) rfl
 replace hg := br_n hg hc8
 refine S s <| kw <| pw <| sw <| vw <| aw rfl <| nw <| bw fun a s => ?_
 refine c_loop (σ := Nat) (fun m1 a w => ∃ (i_9 : Nat), r21_affixError_L0 n a_ m1 i_9 = some r ∧ St (cx f115 M w0) [(1, vP b2 0), (3, vI (((i_9 : Nat) : Int)))] [(1000, Ob.box b2 [vI a_.Kind, sl Ap02 a_.Pairs cp02] 92)] [(101, sF RChange Ap02 cp02 a_.Pairs)] a w) (fun m1 => m1) n ⟨(0), hg, (s.sb rfl rfl rfl)⟩ ?_
 clear s a; rintro m1 a w ⟨i_9, hg, s⟩
 rcases m1 with _ | m1
 ·rw [r21_affixError_L0] at hg; cases hg
 rw [r21_affixError_L0] at hg
 refine S s <| sw <| vw <| mw rfl <| yw rfl (y_boxField (o' := 1) · rfl underlying92 rfl rfl rfl) <| yw rfl (y_loadBox1 (kk := 1000) · rfl rfl rfl underlying90 rfl) <| yw rfl (y_lenSlice · rfl underlying90) <| yw rfl (y_lssN (i := i_9) (j := ((a_.Pairs).length)) · rfl rfl) <| nw fun a s => c_dec s rfl (fun hc10 => ?_) (fun hc10 => ?_)
 ·replace hg := br_t hg hc10
  have hmx11 := SlR.mx (s.ft 101 rfl)
  refine S s <| kw <| pw <| sw <| bw <| sw fun a s => ?_
  obtain ⟨k12, hg, hk12⟩ := jn_some hg
  refine c_post (fun a w => ∃ (t_13 : Bool), k12 t_13 = some r ∧ St (cx f115 M w0) [(1, vP b2 0), (3, vI (((i_9 : Nat) : Int))), (49, .bool (t_13))] [(1000, Ob.box b2 [vI a_.Kind, sl Ap02 a_.Pairs cp02] 92)] [(101, sF RChange Ap02 cp02 a_.Pairs)] a w) ?_ ?_
  ·obtain ⟨x15, hx15, hg⟩ := bind_some hg
   obtain ⟨r17, hr17, hg⟩ := bind_some hg
   rcases Bool.eq_false_or_eq_true (!(r17)) with hs20 | hs20
   ·replace hg := br_t hg hs20
    refine S s <| lw <| yw rfl (y_boxField (o' := 1) · rfl underlying92 rfl rfl rfl) <| yw rfl (y_loadBox1 (kk := 1000) · rfl rfl rfl underlying90 rfl) <| mw rfl fun a s => ?_
    obtain ⟨p21, hep21, hlq22, hmq22, csq22, hdq22, hcq22⟩ := SlR.elemX (s.ft 101 rfl) hx15
    refine S s <| yw rfl (y_elem (sz := 2) (i := i_9) · rfl rfl underlying90 rfl hep21 rfl (lt_of_get hx15)) <| yw rfl (y_ptrField (o' := 0) · rfl underlying144 rfl rfl rfl) fun a s => ?_
    obtain ⟨rfl, lq221, lq222⟩ := RChange.open hdq22
    refine qq s rfl (y_ldp1 s rfl hlq22 hmq22 (hcq22 0 _ rfl) underlying9 rfl) fun a s => ?_
    refine lV s rfl func131 (c_r21_quotable n _ _ s.lt _ (by omega) _ hr17) fun a w hK s => ?_
    refine S s <| yw rfl (fun s => yl_b (y_not s rfl) hs20) <| mw rfl <| gw rfl <| gw rfl <| gw rfl <| gw rfl <| gw rfl <| gw rfl <| gw rfl <| gw rfl <| yw rfl (y_pick_t · rfl rfl) <| nw fun a s => ?_
    exact ⟨(true), hg, (s.sb rfl rfl rfl)⟩
   replace hg := br_n hg hs20
   obtain ⟨r27, hr27, hg⟩ := bind_some hg
   refine S s <| lw <| yw rfl (y_boxField (o' := 1) · rfl underlying92 rfl rfl rfl) <| yw rfl (y_loadBox1 (kk := 1000) · rfl rfl rfl underlying90 rfl) <| mw rfl fun a s => ?_
   obtain ⟨p30, hep30, hlq31, hmq31, csq31, hdq31, hcq31⟩ := SlR.elemX (s.ft 101 rfl) hx15
   refine S s <| yw rfl (y_elem (sz := 2) (i := i_9) · rfl rfl underlying90 rfl hep30 rfl (lt_of_get hx15)) <| yw rfl (y_ptrField (o' := 0) · rfl underlying144 rfl rfl rfl) fun a s => ?_
   obtain ⟨rfl, lq311, lq312⟩ := RChange.open hdq31
   refine qq s rfl (y_ldp1 s rfl hlq31 hmq31 (hcq31 0 _ rfl) underlying9 rfl) fun a s => ?_
   refine lV s rfl func131 (c_r21_quotable n _ _ s.lt _ (by omega) _ hr17) fun a w hK s => ?_
   refine S s <| yw rfl (fun s => yl_b (y_not s rfl) hs20) <| mw rfl <| zw rfl (y_boxField (o' := 1) · rfl underlying92 rfl rfl rfl) <| zw rfl (y_loadBox1 (kk := 1000) · rfl rfl rfl underlying90 rfl) <| hw rfl fun a s => ?_
   obtain ⟨p34, hep34, hlq35, hmq35, csq35, hdq35, hcq35⟩ := SlR.elemX (s.ft 101 rfl) hx15
   refine S s <| zw rfl (y_elem (sz := 2) (i := i_9) · rfl rfl underlying90 rfl hep34 rfl (lt_of_get hx15)) <| zw rfl (y_ptrField (o' := 1) · rfl underlying144 rfl rfl rfl) fun a s => ?_
   obtain ⟨rfl, lq351, lq352⟩ := RChange.open hdq35
   refine gy s rfl (y_ldp1 s rfl hlq35 hmq35 (hcq35 1 _ rfl) underlying9 rfl) fun a s => ?_
   refine gV s rfl func131 (c_r21_quotable n _ _ s.lt _ (by omega) _ hr27) fun a w hK s => ?_
   refine S s <| zw rfl (y_not · rfl) <| yw rfl (y_pick_f · rfl rfl) <| nw fun a s => ?_
   exact ⟨(!(r27)), hg, (s.sb rfl rfl rfl)⟩
  clear s a; rintro a w ⟨t_13, hg, s⟩
  subst hk12
  refine c_cond s rfl (fun hc38 => ?_) (fun hc38 => ?_)
  ·replace hg := br_t hg hc38
   refine S s <| vw <| aw rfl <| nw fun a s => ?_
   apply wp_ret
   refine p_inR ?_
   refine p_thenR ?_
   refine p_thenR ?_
   refine p_inR ?_
   refine p_thenR ?_
   obtain rfl := Option.some.inj hg
   exact fin1 (fn := Tryz.f115) s rfl (r_tmp s rfl) rfl
  replace hg := br_n hg hc38
  apply wp_skip
  refine p_inN ?_
  refine S s <| pw <| lw <| mw rfl <| yw rfl (y_addN (i := i_9) (j := 1) · rfl rfl (in64.2 (by omega))) <| aw rfl <| nw fun a s => ?_
  exact ⟨m1, Nat.lt_succ_self _, ⟨(i_9 + 1), hg, (s.sb rfl rfl rfl)⟩⟩
 replace hg := br_f hg hc10
 apply wp_exit
 refine p_then ?_
 refine p_then ?_
 refine p_in ?_
 refine S s <| pw <| vw <| aw rfl <| nw fun a s => ?_
 apply wp_ret
 obtain rfl := Option.some.inj hg
 exact fin1 (fn := Tryz.f115) s rfl (r_tmp s rfl) rfl
set_option maxHeartbeats 1000000 in
theorem c_r21_lexError (n : Nat) (M : Bs) (w0 : World) (hM : ∀ b, M b → b < w0.heap.size) (l_ : (List LexDecl)) (Ap01 : Option Addr) (cp01 : Nat) (hp01 : sR RLexDecl M w0 Ap01 cp01 l_) (r : Int) (hg : r21_lexError n l_ = some r) :
    Calls Tryz.prog 84 [sl Ap01 l_ cp01].toArray w0 (Ret noB w0 fun v w => v = .int .i64 (r)) := by
 unfold r21_lexError at hg
 refine enter M noB func84 rfl rfl hM ?_
 intro a s
 refine S s <| esw 101 hp01 <| vw <| aw rfl <| nw <| sw <| vw <| aw rfl <| nw <| bw fun a s => ?_
 refine c_loop (σ := Nat) (fun m1 a w => ∃ (i_1 : Nat), r21_lexError_L0 n l_ m1 i_1 = some r ∧ St (cx f84 M w0) [(0, sl Ap01 l_ cp01), (3, vI (((i_1 : Nat) : Int)))] [] [(101, sF RLexDecl Ap01 cp01 l_)] a w) (fun m1 => m1) n ⟨(0), hg, (s.sb rfl rfl rfl)⟩ ?_
 clear s a; rintro m1 a w ⟨i_1, hg, s⟩
 rcases m1 with _ | m1
 ·rw [r21_lexError_L0] at hg; cases hg
 rw [r21_lexError_L0] at hg
 refine S s <| sw <| vw <| mw rfl <| mw rfl <| yw rfl (y_lenSlice · rfl underlying35) <| yw rfl (y_lssN (i := i_1) (j := ((l_).length)) · rfl rfl) <| nw fun a s => c_dec s rfl (fun hc2 => ?_) (fun hc2 => ?_)
 ·replace hg := br_t hg hc2
  have hmx3 := SlR.mx (s.ft 101 rfl)
  obtain ⟨x5, hx5, hg⟩ := bind_some hg
  obtain ⟨r7, hr7, hg⟩ := bind_some hg
  refine S s <| kw <| pw <| sw <| bw <| sw <| lw <| mw rfl <| mw rfl fun a s => ?_
  obtain ⟨p10, hep10, hlq11, hmq11, csq11, hdq11, hcq11⟩ := SlR.elemX (s.ft 101 rfl) hx5
  refine S s <| yw rfl (y_elem (sz := 8) (i := i_1) · rfl rfl underlying35 rfl hep10 rfl (lt_of_get hx5)) <| yw rfl (y_ptrField (o' := 0) · rfl underlying94 rfl rfl rfl) fun a s => ?_
  obtain ⟨Aq112, cq112, Aq116, cq116, Aq117, cq117, Aq118, cq118, rfl, hq112, lq113, lq115, hq116, hq117, hq118⟩ := RLexDecl.open hdq11
  refine S s <| nsw 106 hq112 <| nsw 107 hq116 <| nsw 108 hq117 <| nsw 109 hq118 <| yw rfl (y_ldp (cs := [vI x5.Affix.Kind, sl Aq112 x5.Affix.Pairs cq112]) · rfl hlq11 hmq11 (fun j v hj => hcq11 (0 + j) v (by rcases j with _ | (_ | _) <;> first | exact hj | cases hj)) underlying92 rfl rfl) fun a s => ?_
  refine lV s rfl func115 (c_r21_affixError n _ _ s.lt _ _ _ (s.ft 106 rfl) _ hr7) fun a w hK s => ?_
  refine S s <| aw rfl <| nw <| sw <| vw <| mw rfl <| yw rfl (y_eql · rfl rfl) <| nw fun a s => ?_
  obtain ⟨k14, hg, hk14⟩ := jn_some hg
  refine c_post (fun a w => ∃ (e_15 : Int), k14 e_15 = some r ∧ St (cx f84 M w0) [(0, sl Ap01 l_ cp01), (3, vI (((i_1 : Nat) : Int))), (4, vI e_15)] [] [(101, sF RLexDecl Ap01 cp01 l_)] a w) ?_ ?_
  ·refine c_dec s rfl (fun hc16 => ?_) (fun hc16 => ?_)
   ·replace hg := br_t hg hc16
    obtain ⟨r19, hr19, hg⟩ := bind_some hg
    refine S s <| lw <| mw rfl <| mw rfl fun a s => ?_
    obtain ⟨p22, hep22, hlq23, hmq23, csq23, hdq23, hcq23⟩ := SlR.elemX (s.ft 101 rfl) hx5
    refine S s <| yw rfl (y_elem (sz := 8) (i := i_1) · rfl rfl underlying35 rfl hep22 rfl (lt_of_get hx5)) <| yw rfl (y_ptrField (o' := 2) · rfl underlying94 rfl rfl rfl) fun a s => ?_
    obtain ⟨Aq232, cq232, Aq236, cq236, Aq237, cq237, Aq238, cq238, rfl, hq232, lq233, lq235, hq236, hq237, hq238⟩ := RLexDecl.open hdq23
    refine S s <| nsw 114 hq232 <| nsw 115 hq236 <| nsw 116 hq237 <| nsw 117 hq238 <| yw rfl (y_ldp (cs := [vT x5.Def.Name, vI x5.Def.Strict.Op, vT x5.Def.Strict.Name, sl Aq236 x5.Def.Strict.Path cq236, sl Aq237 x5.Def.Strict.Kids cq237, sl Aq238 x5.Def.Defaults cq238]) · rfl hlq23 hmq23 (fun j v hj => hcq23 (2 + j) v (by rcases j with _ | (_ | (_ | (_ | (_ | (_ | _))))) <;> first | exact hj | cases hj)) underlying62 rfl rfl) fun a s => ?_
    refine lV s rfl func113 (c_r21_defError n _ _ s.lt _ _ _ _ _ _ _ (by omega) (by omega) (s.ft 115 rfl) (s.ft 116 rfl) (s.ft 117 rfl) _ hr19) fun a w hK s => ?_
    refine S s <| aw rfl <| nw fun a s => ?_
    exact ⟨(r19), hg, (s.sb rfl rfl rfl)⟩
   replace hg := br_f hg hc16
   apply wp_skip
   apply pN
   exact ⟨(r7), hg, (s.sb rfl rfl rfl)⟩
  clear s a; rintro a w ⟨e_15, hg, s⟩
  subst hk14
  refine S s <| vw <| mw rfl <| yw rfl (y_neq · rfl rfl) <| nw fun a s => c_dec s rfl (fun hc26 => ?_) (fun hc26 => ?_)
  ·replace hg := br_t hg hc26
   refine S s <| vw <| mw rfl <| aw rfl <| nw fun a s => ?_
   apply wp_ret
   refine p_inR ?_
   refine p_thenR ?_
   refine p_thenR ?_
   refine p_inR ?_
   refine p_thenR ?_
   obtain rfl := Option.some.inj hg
   exact fin1 (fn := Tryz.f84) s rfl (r_tmp s rfl) rfl
  replace hg := br_f hg hc26
  apply wp_skip
  refine p_inN ?_
  refine S s <| pw <| lw <| mw rfl <| yw rfl (y_addN (i := i_1) (j := 1) · rfl rfl (in64.2 (by omega))) <| aw rfl <| nw fun a s => ?_
  exact ⟨m1, Nat.lt_succ_self _, ⟨(i_1 + 1), hg, (s.sb rfl rfl rfl)⟩⟩
 replace hg := br_f hg hc2
 apply wp_exit
 refine p_then ?_
 refine p_then ?_
 refine p_in ?_
 refine S s <| pw <| vw <| aw rfl <| nw fun a s => ?_
 apply wp_ret
 obtain rfl := Option.some.inj hg
 exact fin1 (fn := Tryz.f84) s rfl (r_tmp s rfl) rfl
set_option maxHeartbeats 1000000 in
theorem c_r21_checksError (n : Nat) (M : Bs) (w0 : World) (hM : ∀ b, M b → b < w0.heap.size) (l_ : (List (List (List UInt8)))) (Ap01 : Option Addr) (cp01 : Nat) (hp01 : sR (Rep.list Rep.str) M w0 Ap01 cp01 l_) (r : Int) (hg : r21_checksError n l_ = some r) :
    Calls Tryz.prog 85 [sl Ap01 l_ cp01].toArray w0 (Ret noB w0 fun v w => v = .int .i64 (r)) := by
 unfold r21_checksError at hg
 refine enter M noB func85 rfl rfl hM ?_
 intro a s
 refine S s <| esw 101 hp01 <| vw <| aw rfl <| nw <| sw <| vw <| aw rfl <| nw <| bw fun a s => ?_
 refine c_loop (σ := Nat) (fun m1 a w => ∃ (i_1 : Nat), r21_checksError_L0 n l_ m1 i_1 = some r ∧ St (cx f85 M w0) [(0, sl Ap01 l_ cp01), (3, vI (((i_1 : Nat) : Int)))] [] [(101, sF (Rep.list Rep.str) Ap01 cp01 l_)] a w) (fun m1 => m1) n ⟨(0), hg, (s.sb rfl rfl rfl)⟩ ?_
 clear s a; rintro m1 a w ⟨i_1, hg, s⟩
 rcases m1 with _ | m1
 ·rw [r21_checksError_L0] at hg; cases hg
 rw [r21_checksError_L0] at hg
 refine S s <| sw <| vw <| mw rfl <| mw rfl <| yw rfl (y_lenSlice · rfl underlying36) <| yw rfl (y_lssN (i := i_1) (j := ((l_).length)) · rfl rfl) <| nw fun a s => c_dec s rfl (fun hc2 => ?_) (fun hc2 => ?_)
 ·replace hg := br_t hg hc2
  have hmx3 := SlR.mx (s.ft 101 rfl)
  obtain ⟨x5, hx5, hg⟩ := bind_some hg
  refine S s <| kw <| pw <| sw <| bw <| sw <| sw <| lw <| mw rfl <| mw rfl fun a s => ?_
  obtain ⟨p7, hep7, hlq8, hmq8, csq8, hdq8, hcq8⟩ := SlR.elemX (s.ft 101 rfl) hx5
  refine qq s rfl (y_elem (sz := 1) (i := i_1) s rfl rfl underlying36 rfl hep7 rfl (lt_of_get hx5)) fun a s => ?_
  obtain ⟨Aq81, nnq8, cq81, rfl, hq81⟩ := hdq8
  obtain rfl := hq81.len
  refine S s <| nsw 103 hq81 <| yw rfl (y_ldp1 · rfl hlq8 hmq8 (hcq8 0 _ rfl) underlying25 rfl) <| yw rfl (y_lenSlice · rfl underlying25) <| yw rfl (y_eqlN (i := ((x5).length)) (j := 0) · rfl rfl) <| nw fun a s => c_dec s rfl (fun hc9 => ?_) (fun hc9 => ?_)
  ·replace hg := br_t hg hc9
   refine S s <| vw <| aw rfl <| nw fun a s => ?_
   apply wp_ret
   refine p_thenR ?_
   refine p_inR ?_
   refine p_thenR ?_
   refine p_thenR ?_
   refine p_inR ?_
   refine p_thenR ?_
   obtain rfl := Option.some.inj hg
   exact fin1 (fn := Tryz.f85) s rfl (r_tmp s rfl) rfl
  replace hg := br_f hg hc9
  refine S s <| kw <| pw <| sw <| vw <| mw rfl <| mw rfl fun a s => ?_
  obtain ⟨p12, hep12, hlq13, hmq13, csq13, hdq13, hcq13⟩ := SlR.elemX (s.ft 101 rfl) hx5
  refine qq s rfl (y_elem (sz := 1) (i := i_1) s rfl rfl underlying36 rfl hep12 rfl (lt_of_get hx5)) fun a s => ?_
  obtain ⟨Aq131, nnq13, cq131, rfl, hq131⟩ := hdq13
  obtain rfl := hq131.len
  refine S s <| nsw 105 hq131 <| yw rfl (y_ldp1 · rfl hlq13 hmq13 (hcq13 0 _ rfl) underlying25 rfl) <| yw rfl (y_lenSlice · rfl underlying25) <| yw rfl (y_gtrN (i := ((x5).length)) (j := 64) · rfl rfl) <| nw fun a s => c_dec s rfl (fun hc14 => ?_) (fun hc14 => ?_)
  ·replace hg := br_t hg hc14
   have hmx15 := SlR.mx (s.ft 105 rfl)
   refine S s <| vw <| aw rfl <| nw fun a s => ?_
   apply wp_ret
   refine p_thenR ?_
   refine p_inR ?_
   refine p_thenR ?_
   refine p_thenR ?_
   refine p_inR ?_
   refine p_thenR ?_
   obtain rfl := Option.some.inj hg
   exact fin1 (fn := Tryz.f85) s rfl (r_tmp s rfl) rfl
  replace hg := br_f hg hc14
  obtain ⟨r18, hr18, hg⟩ := bind_some hg
  refine S s <| kw <| pw <| sw <| lw <| mw rfl <| mw rfl fun a s => ?_
  obtain ⟨p21, hep21, hlq22, hmq22, csq22, hdq22, hcq22⟩ := SlR.elemX (s.ft 101 rfl) hx5
  refine qq s rfl (y_elem (sz := 1) (i := i_1) s rfl rfl underlying36 rfl hep21 rfl (lt_of_get hx5)) fun a s => ?_
  obtain ⟨Aq221, nnq22, cq221, rfl, hq221⟩ := hdq22
  obtain rfl := hq221.len
  refine S s <| nsw 107 hq221 <| yw rfl (y_ldp1 · rfl hlq22 hmq22 (hcq22 0 _ rfl) underlying25 rfl) fun a s => ?_
  refine lV s rfl func79 (c_r21_allNames n _ _ s.lt _ _ _ (s.ft 107 rfl) _ _ hr18) fun a w hK s => ?_
  refine S s <| yw rfl (y_not · rfl) <| nw fun a s => c_cond s rfl (fun hc25 => ?_) (fun hc25 => ?_)
  ·replace hg := br_t hg hc25
   refine S s <| vw <| aw rfl <| nw fun a s => ?_
   apply wp_ret
   refine p_inR ?_
   refine p_thenR ?_
   refine p_thenR ?_
   refine p_inR ?_
   refine p_thenR ?_
   obtain rfl := Option.some.inj hg
   exact fin1 (fn := Tryz.f85) s rfl (r_tmp s rfl) rfl
  replace hg := br_n hg hc25
  apply wp_skip
  refine p_inN ?_
  refine S s <| pw <| lw <| mw rfl <| yw rfl (y_addN (i := i_1) (j := 1) · rfl rfl (in64.2 (by omega))) <| aw rfl <| nw fun a s => ?_
  exact ⟨m1, Nat.lt_succ_self _, ⟨(i_1 + 1), hg, (s.sb rfl rfl rfl)⟩⟩
 replace hg := br_f hg hc2
 apply wp_exit
 refine p_then ?_
 refine p_then ?_
 refine p_in ?_
 refine S s <| pw <| vw <| aw rfl <| nw fun a s => ?_
 apply wp_ret
 obtain rfl := Option.some.inj hg
 exact fin1 (fn := Tryz.f85) s rfl (r_tmp s rfl) rfl
set_option maxHeartbeats 1000000 in
theorem c_r21_moduleError (n : Nat) (M : Bs) (w0 : World) (hM : ∀ b, M b → b < w0.heap.size) (m_ : Module) (Ap02 : Option Addr) (cp02 : Nat) (Ap03 : Option Addr) (cp03 : Nat) (Ap04 : Option Addr) (cp04 : Nat) (Ap05 : Option Addr) (cp05 : Nat) (Ap06 : Option Addr) (cp06 : Nat) (Ap07 : Option Addr) (cp07 : Nat) (Ap08 : Option Addr) (cp08 : Nat) (Ap09 : Option Addr) (cp09 : Nat) (Ap010 : Option Addr) (cp010 : Nat) (lp01 : (m_.Name).length ≤ 9223372036854775807) (hp02 : sR Rep.str M w0 Ap02 cp02 m_.Imports) (hp03 : sR RTypeDecl M w0 Ap03 cp03 m_.Types) (hp04 : sR RDef M w0 Ap04 cp04 m_.Templates) (hp05 : sR REntryDecl M w0 Ap05 cp05 m_.Entries) (hp06 : sR RLexDecl M w0 Ap06 cp06 m_.LexRules) (hp07 : sR RDef M w0 Ap07 cp07 m_.Rules) (hp08 : sR RDef M w0 Ap08 cp08 m_.Roots) (hp09 : sR (Rep.list Rep.str) M w0 Ap09 cp09 m_.Checks) (hp010 : sR Rep.str M w0 Ap010 cp010 m_.Drops) (r : Int) (hg : r21_moduleError n m_ = some r) :
    Calls Tryz.prog 53 [.agg #[vT m_.Name, sl Ap02 m_.Imports cp02, sl Ap03 m_.Types cp03, sl Ap04 m_.Templates cp04, sl Ap05 m_.Entries cp05, sl Ap06 m_.LexRules cp06, sl Ap07 m_.Rules cp07, sl Ap08 m_.Roots cp08, sl Ap09 m_.Checks cp09, sl Ap010 m_.Drops cp010]].toArray w0 (Ret noB w0 fun v w => v = .int .i64 (r)) := by
 unfold r21_moduleError at hg
 refine enter M noB func53 rfl rfl hM ?_
 intro a s
 refine S s <| esw 101 hp02 <| esw 102 hp03 <| esw 103 hp04 <| esw 104 hp05 <| esw 105 hp06 <| esw 106 hp07 <| esw 107 hp08 <| esw 108 hp09 <| esw 109 hp010 <| vw fun a s => ?_
 refine l_seq rfl (l_box (zs := [vT m_.Name, sl Ap02 m_.Imports cp02, sl Ap03 m_.Types cp03, sl Ap04 m_.Templates cp04, sl Ap05 m_.Entries cp05, sl Ap06 m_.LexRules cp06, sl Ap07 m_.Rules cp07, sl Ap08 m_.Roots cp08, sl Ap09 m_.Checks cp09, sl Ap010 m_.Drops cp010]) s 1000 rfl rfl rfl rfl fun b2 a w hb hK s => ?_)
 obtain ⟨r3, hr3, hg⟩ := bind_some hg
 refine S s <| aw rfl <| nw <| sw <| sw <| lw <| yw rfl (y_boxField (o' := 0) · rfl underlying38 rfl rfl rfl) <| yw rfl (y_loadBox1 (kk := 1000) · rfl rfl rfl underlying9 rfl) fun a s => ?_
 refine lV s rfl func77 (c_r01_Name n _ _ s.lt _ (by omega) _ hr3) fun a w hK s => ?_
 refine S s <| yw rfl (y_not · rfl) <| nw fun a s => c_cond s rfl (fun hc8 => ?_) (fun hc8 => ?_)
 ·replace hg := br_t hg hc8
  refine S s <| vw <| aw rfl <| nw fun a s => ?_
  apply wp_ret
  refine p_thenR ?_
  obtain rfl := Option.some.inj hg
  exact fin1 (fn := Tryz.f53) s rfl (r_tmp s rfl) rfl
 replace hg := br_n hg hc8
 obtain ⟨r9, hr9, hg⟩ := bind_some hg
 refine S s <| kw <| pw <| sw <| sw <| lw <| yw rfl (y_loadAll (kk := 1000) · rfl rfl underlying38 rfl rfl) fun a s => ?_
 refine lV s rfl func78 (c_r21_long n _ _ s.lt _ _ _ _ _ _ _ _ _ _ _ _ _ _ _ _ _ _ _ (by omega) (s.ft 101 rfl) (s.ft 102 rfl) (s.ft 103 rfl) (s.ft 104 rfl) (s.ft 105 rfl) (s.ft 106 rfl) (s.ft 107 rfl) (s.ft 108 rfl) (s.ft 109 rfl) _ hr9) fun a w hK s => ?_
 apply wN
 refine c_cond s rfl (fun hc14 => ?_) (fun hc14 => ?_)
 ·replace hg := br_t hg hc14
  refine S s <| vw <| aw rfl <| nw fun a s => ?_
  apply wp_ret
  refine p_thenR ?_
  obtain rfl := Option.some.inj hg
  exact fin1 (fn := Tryz.f53) s rfl (r_tmp s rfl) rfl
 replace hg := br_n hg hc14
 obtain ⟨r15, hr15, hg⟩ := bind_some hg
 refine S s <| kw <| pw <| sw <| sw <| lw <| yw rfl (y_boxField (o' := 1) · rfl underlying38 rfl rfl rfl) <| yw rfl (y_loadBox1 (kk := 1000) · rfl rfl rfl underlying25 rfl) fun a s => ?_
 refine lV s rfl func79 (c_r21_allNames n _ _ s.lt _ _ _ (s.ft 101 rfl) _ _ hr15) fun a w hK s => ?_
 refine S s <| yw rfl (y_not · rfl) <| nw fun a s => c_cond s rfl (fun hc20 => ?_) (fun hc20 => ?_)
 ·replace hg := br_t hg hc20
  refine S s <| vw <| aw rfl <| nw fun a s => ?_
  apply wp_ret
  refine p_thenR ?_
  obtain rfl := Option.some.inj hg
  exact fin1 (fn := Tryz.f53) s rfl (r_tmp s rfl) rfl
 replace hg := br_n hg hc20
 obtain ⟨r21, hr21, hg⟩ := bind_some hg
 obtain ⟨r24, hr24, hg⟩ := bind_some hg
 obtain ⟨r27, hr27, hg⟩ := bind_some hg
 obtain ⟨r30, hr30, hg⟩ := bind_some hg
 obtain ⟨r33, hr33, hg⟩ := bind_some hg
 obtain ⟨r36, hr36, hg⟩ := bind_some hg
 obtain ⟨r39, hr39, hg⟩ := bind_some hg
 obtain ⟨r43, hr43, hg⟩ := bind_some hg
 apply wp_skip
 apply pN
 apply wQ
 refine d_plan s [] [(0, some 0), (1, some 1000), (3, some 0), (4, some 1000), (6, some 0), (7, some 1000), (9, some 0), (10, some 1000), (12, some 0), (13, some 1000), (15, some 0), (16, some 1000), (18, some 0), (19, some 1000), (2, none), (5, none), (8, none), (11, none), (14, none), (17, none), (20, none), (21, none), (22, none), (23, none)] rfl (by kernel_rfl) (by kernel_rfl) rfl ?_; clear s; intro wr hZ s; have hR := s.wd
 refine S s <| qw hR rfl (y_boxField (o' := 2) · rfl underlying38 rfl rfl rfl) <| qw hR rfl (y_loadBox1 (kk := 1000) · rfl rfl rfl underlying32 rfl) <| qw hR rfl (y_boxField (o' := 3) · rfl underlying38 rfl rfl rfl) <| qw hR rfl (y_loadBox1 (kk := 1000) · rfl rfl rfl underlying33 rfl) <| qw hR rfl (y_boxField (o' := 4) · rfl underlying38 rfl rfl rfl) <| qw hR rfl (y_loadBox1 (kk := 1000) · rfl rfl rfl underlying34 rfl) <| qw hR rfl (y_boxField (o' := 5) · rfl underlying38 rfl rfl rfl) <| qw hR rfl (y_loadBox1 (kk := 1000) · rfl rfl rfl underlying35 rfl) <| qw hR rfl (y_boxField (o' := 6) · rfl underlying38 rfl rfl rfl) <| qw hR rfl (y_loadBox1 (kk := 1000) · rfl rfl rfl underlying33 rfl) <| qw hR rfl (y_boxField (o' := 7) · rfl underlying38 rfl rfl rfl) <| qw hR rfl (y_loadBox1 (kk := 1000) · rfl rfl rfl underlying33 rfl) <| qw hR rfl (y_boxField (o' := 8) · rfl underlying38 rfl rfl rfl) <| qw hR rfl (y_loadBox1 (kk := 1000) · rfl rfl rfl underlying36 rfl) fun a s => ?_
 refine l_take s rfl rfl (l_call (cap := []) s rfl func81 rfl (by kernel_rfl) rfl rfl (c_r21_typesError n _ _ s.lt _ _ _ (s.ft 102 rfl) _ hr21) fun v46 a w hK hp s => ?_)
 replace hZ := Nat.le_trans hZ hK.size; refine ⟨fun g _ h => h.grow hK, ?_⟩; clear hK
 obtain rfl := hp
 refine l_take s rfl rfl (l_call (cap := []) s rfl func82 rfl (by kernel_rfl) rfl rfl (c_r21_defsError n _ _ s.lt _ _ _ (s.ft 103 rfl) _ hr24) fun v48 a w hK hp s => ?_)
 replace hZ := Nat.le_trans hZ hK.size; refine ⟨fun g _ h => h.grow hK, ?_⟩; clear hK
 obtain rfl := hp
 refine l_take s rfl rfl (l_call (cap := []) s rfl func83 rfl (by kernel_rfl) rfl rfl (c_r21_entriesError n _ _ s.lt _ _ _ (s.ft 104 rfl) _ hr27) fun v50 a w hK hp s => ?_)
 replace hZ := Nat.le_trans hZ hK.size; refine ⟨fun g _ h => h.grow hK, ?_⟩; clear hK
 obtain rfl := hp
 refine l_take s rfl rfl (l_call (cap := []) s rfl func84 rfl (by kernel_rfl) rfl rfl (c_r21_lexError n _ _ s.lt _ _ _ (s.ft 105 rfl) _ hr30) fun v52 a w hK hp s => ?_)
 replace hZ := Nat.le_trans hZ hK.size; refine ⟨fun g _ h => h.grow hK, ?_⟩; clear hK
 obtain rfl := hp
 refine l_take s rfl rfl (l_call (cap := []) s rfl func82 rfl (by kernel_rfl) rfl rfl (c_r21_defsError n _ _ s.lt _ _ _ (s.ft 106 rfl) _ hr33) fun v54 a w hK hp s => ?_)
 replace hZ := Nat.le_trans hZ hK.size; refine ⟨fun g _ h => h.grow hK, ?_⟩; clear hK
 obtain rfl := hp
 refine l_take s rfl rfl (l_call (cap := []) s rfl func82 rfl (by kernel_rfl) rfl rfl (c_r21_defsError n _ _ s.lt _ _ _ (s.ft 107 rfl) _ hr36) fun v56 a w hK hp s => ?_)
 replace hZ := Nat.le_trans hZ hK.size; refine ⟨fun g _ h => h.grow hK, ?_⟩; clear hK
 obtain rfl := hp
 refine l_take s rfl rfl (l_call (cap := []) s rfl func85 rfl (by kernel_rfl) rfl rfl (c_r21_checksError n _ _ s.lt _ _ _ (s.ft 108 rfl) _ hr39) fun v58 a w hK hp s => ?_)
 replace hZ := Nat.le_trans hZ hK.size; refine ⟨fun g _ h => h.grow hK, ?_⟩; clear hK
 obtain rfl := hp
 refine l_take s rfl rfl (l_buildDense (sz := 1) s 1721 rfl rfl rfl underlying113 rfl rfl rfl rfl rfl rfl rfl fun b60 a w hbb60 hK s => ?_)
 have hNb60 := NewA.lit hZ hbb60
 clear hbb60
 replace hZ := Nat.le_trans hZ hK.size; refine ⟨fun g _ h => h.grow hK, ?_⟩; clear hK
 replace s := s.add 112 (rdF (Rep.num .i64) (cellsOfL [vI r21, vI r24, vI r27, vI r30, vI r33, vI r36, vI r39]) ([r21, r24, r27, r30, r33, r36, r39])) (RdAll.cons (by exact rfl) (RdAll.cons (by exact rfl) (RdAll.cons (by exact rfl) (RdAll.cons (by exact rfl) (RdAll.cons (by exact rfl) (RdAll.cons (by exact rfl) (RdAll.cons (by exact rfl) (RdAll.nil _ _ _))))))))
 have hT := s
 replace hT := hT.fz (R := (Rep.num .i64)) (kk := 1721) [1000] 113 rfl rfl (hT.ft 112 rfl) rfl
 refine l_take s rfl rfl (l_call (cap := []) s rfl func80 rfl (by kernel_rfl) rfl rfl (c_r21_first n _ _ hT.lt [r21, r24, r27, r30, r33, r36, r39] (some ⟨b60, 0, none⟩) (7) (hT.ft 113 rfl) _ hr43) fun v61 a w hK hp s => ?_)
 replace hZ := Nat.le_trans hZ hK.size; refine ⟨fun g _ h => h.grow hK, ?_⟩; clear hK
 obtain rfl := hp
 refine S s <| tw rfl (y_assign · rfl) fun a s => ?_
 clear hR hZ
 apply pN
 apply wQ
 apply wQ
 obtain ⟨k63, hg, hk63⟩ := jn_some hg
 refine c_post (fun a w => ∃ (t_64 : Bool), k63 t_64 = some r ∧ St (cx f53 M w0) [(3, vI r43), (44, .bool (t_64))] [] [] a w) ?_ ?_
 ·rcases Decidable.em (r43 = 0) with hs65 | hs65
  ·have hs65e := decide_eq_true hs65
   replace hg := br_t hg hs65
   obtain ⟨r66, hr66, hg⟩ := bind_some hg
   refine S s <| lw <| mw rfl <| yw rfl (fun s => yl_b (y_eql s rfl rfl) hs65e) <| mw rfl <| zw rfl (y_boxField (o' := 9) · rfl underlying38 rfl rfl rfl) <| zw rfl (y_loadBox1 (kk := 1000) · rfl rfl rfl underlying25 rfl) fun a s => ?_
   refine gV s rfl func79 (c_r21_allNames n _ _ s.lt _ _ _ (s.ft 109 rfl) _ _ hr66) fun a w hK s => ?_
   refine S s <| zw rfl (y_not · rfl) <| yw rfl (y_pick_t · rfl rfl) <| nw fun a s => ?_
   exact ⟨(!(r66)), hg, (s.sb rfl rfl rfl)⟩
  have hs65e := decide_eq_false hs65
  replace hg := br_f hg hs65
  refine S s <| lw <| mw rfl <| yw rfl (fun s => yl_b (y_eql s rfl rfl) hs65e) <| mw rfl <| gw rfl <| gw rfl <| gw rfl <| gw rfl <| yw rfl (y_pick_f · rfl rfl) <| nw fun a s => ?_
  exact ⟨(false), hg, (s.sb rfl rfl rfl)⟩
 clear s a; rintro a w ⟨t_64, hg, s⟩
 subst hk63
 refine c_cond s rfl (fun hc71 => ?_) (fun hc71 => ?_)
 ·replace hg := br_t hg hc71
  refine S s <| lw <| aw rfl <| nw <| vw <| mw rfl <| aw rfl <| nw fun a s => ?_
  apply wp_ret
  obtain rfl := Option.some.inj hg
  exact fin1 (fn := Tryz.f53) s rfl (r_tmp s rfl) rfl
 replace hg := br_n hg hc71
 refine S s <| kw <| pw <| vw <| mw rfl <| aw rfl <| nw fun a s => ?_
 apply wp_ret
 obtain rfl := Option.some.inj hg
 exact fin1 (fn := Tryz.f53) s rfl (r_tmp s rfl) rfl
set_option maxHeartbeats 1000000 in
theorem c_r21_joined (n : Nat) (M : Bs) (w0 : World) (hM : ∀ b, M b → b < w0.heap.size) (l_ : (List (List UInt8))) (Ap01 : Option Addr) (cp01 : Nat) (hp01 : sR Rep.str M w0 Ap01 cp01 l_) (between_ : (List UInt8)) (lp11 : (between_).length ≤ 9223372036854775807) (r : (List UInt8)) (hg : r21_joined n l_ between_ = some r) :
    Calls Tryz.prog 88 [sl Ap01 l_ cp01, vT between_].toArray w0 (Ret noB w0 fun v w => v = vT r ∧ ((r).length ≤ 9223372036854775807)) := by
 unfold r21_joined at hg
 refine enter M noB func88 rfl rfl hM ?_
 intro a s
 refine S s <| esw 101 hp01 <| vw <| aw rfl <| nw <| vw <| aw rfl <| nw <| sw <| vw <| aw rfl <| nw <| bw fun a s => ?_
 refine c_loop (σ := Nat) (fun m1 a w => ∃ (s_1 : (List UInt8)) (i_2 : Nat), r21_joined_L0 n l_ between_ m1 s_1 i_2 = some r ∧ ((s_1).length ≤ 9223372036854775807) ∧ St (cx f88 M w0) [(0, sl Ap01 l_ cp01), (1, vT between_), (5, vT s_1), (6, vI (((i_2 : Nat) : Int)))] [] [(101, sF Rep.str Ap01 cp01 l_)] a w) (fun m1 => m1) n ⟨([]), (0), hg, (Nat.le_of_ble_eq_true (by rfl)), (s.sb rfl rfl rfl)⟩ ?_
 clear s a; rintro m1 a w ⟨s_1, i_2, hg, ls_1, s⟩
 rcases m1 with _ | m1
 ·rw [r21_joined_L0] at hg; cases hg
 rw [r21_joined_L0] at hg
 refine S s <| sw <| vw <| mw rfl <| mw rfl <| yw rfl (y_lenSlice · rfl underlying25) <| yw rfl (y_lssN (i := i_2) (j := ((l_).length)) · rfl rfl) <| nw fun a s => c_dec s rfl (fun hc3 => ?_) (fun hc3 => ?_)
 ·replace hg := br_t hg hc3
  have hmx4 := SlR.mx (s.ft 101 rfl)
  refine S s <| kw <| pw <| sw <| bw <| sw <| vw <| mw rfl <| yw rfl (y_gtrN (i := i_2) (j := 0) · rfl rfl) <| nw fun a s => ?_
  obtain ⟨k5, hg, hk5⟩ := jn_some hg
  refine c_post (fun a w => ∃ (s_6 : (List UInt8)), k5 s_6 = some r ∧ ((s_6).length ≤ 9223372036854775807) ∧ St (cx f88 M w0) [(0, sl Ap01 l_ cp01), (1, vT between_), (5, vT s_6), (6, vI (((i_2 : Nat) : Int)))] [] [(101, sF Rep.str Ap01 cp01 l_)] a w) ?_ ?_
  ·refine c_dec s rfl (fun hc7 => ?_) (fun hc7 => ?_)
   ·replace hg := br_t hg hc7
    obtain ⟨hk8, hg⟩ := chk_some hg
    refine S s <| lw <| mw rfl <| mw rfl <| yw rfl (y_concat · rfl rfl hk8) <| aw rfl <| nw fun a s => ?_
    exact ⟨(s_1 ++ between_), hg, (by rw [List.length_append]; omega), (s.sb rfl rfl rfl)⟩
   replace hg := br_f hg hc7
   apply wp_skip
   apply pN
   exact ⟨(s_1), hg, (by omega), (s.sb rfl rfl rfl)⟩
  clear s a; rintro a w ⟨s_6, hg, ls_6, s⟩
  subst hk5
  obtain ⟨x10, hx10, hg⟩ := bind_some hg
  obtain ⟨hk12, hg⟩ := chk_some hg
  refine S s <| lw <| mw rfl <| mw rfl <| mw rfl fun a s => ?_
  obtain ⟨p13, hep13, hlq14, hmq14, csq14, hdq14, hcq14⟩ := SlR.elemX (s.ft 101 rfl) hx10
  refine qq s rfl (y_elem (sz := 1) (i := i_2) s rfl rfl underlying25 rfl hep13 rfl (lt_of_get hx10)) fun a s => ?_
  obtain ⟨rfl, lq141⟩ := hdq14
  refine S s <| yw rfl (y_ldp1 · rfl hlq14 hmq14 (hcq14 0 _ rfl) underlying9 rfl) <| yw rfl (y_concat · rfl rfl hk12) <| aw rfl fun a s => ?_
  apply wO
  refine p_inN ?_
  refine S s <| pw <| lw <| mw rfl <| yw rfl (y_addN (i := i_2) (j := 1) · rfl rfl (in64.2 (by omega))) <| aw rfl <| nw fun a s => ?_
  exact ⟨m1, Nat.lt_succ_self _, ⟨(s_6 ++ x10), (i_2 + 1), hg, (by rw [List.length_append]; omega), (s.sb rfl rfl rfl)⟩⟩
 replace hg := br_f hg hc3
 apply wp_exit
 refine p_then ?_
 refine p_then ?_
 refine p_in ?_
 refine S s <| pw <| vw <| mw rfl <| aw rfl <| nw fun a s => ?_
 apply wp_ret
 obtain rfl := Option.some.inj hg
 refine fin1 (fn := Tryz.f88) s rfl (r_tmp s rfl) ?_
 exact ⟨rfl, (by omega)⟩
set_option maxHeartbeats 1000000 in
theorem c_r21_typed (n : Nat) (M : Bs) (w0 : World) (hM : ∀ b, M b → b < w0.heap.size) (x_ : TypeDecl) (Ap02 : Option Addr) (cp02 : Nat) (Ap03 : Option Addr) (cp03 : Nat) (lp01 : (x_.Name).length ≤ 9223372036854775807) (hp02 : sR Rep.str M w0 Ap02 cp02 x_.Supers) (hp03 : sR RFeatDecl M w0 Ap03 cp03 x_.Feats) (r : (List UInt8)) (hg : r21_typed n x_ = some r) :
    Calls Tryz.prog 86 [.agg #[vT x_.Name, sl Ap02 x_.Supers cp02, sl Ap03 x_.Feats cp03]].toArray w0 (Ret noB w0 fun v w => v = vT r ∧ ((r).length ≤ 9223372036854775807)) := by
 unfold r21_typed at hg
 refine enter M noB func86 rfl rfl hM ?_
 intro a s
 let F : Al Fact := [(101, sF Rep.str Ap02 cp02 x_.Supers), (102, sF RFeatDecl Ap03 cp03 x_.Feats)]
 refine S s <| esw 101 hp02 <| esw 102 hp03 <| vw fun a s => ?_
 refine l_seq rfl (l_box (zs := [vT x_.Name, sl Ap02 x_.Supers cp02, sl Ap03 x_.Feats cp03]) s 1000 rfl rfl rfl rfl fun b2 a w hb hK s => ?_)
 obtain ⟨hk3, hg⟩ := chk_some hg
 refine S s <| aw rfl <| nw <| sw <| lw <| yw rfl (y_boxField (o' := 0) · rfl underlying49 rfl rfl rfl) <| yw rfl (y_loadBox1 (kk := 1000) · rfl rfl rfl underlying9 rfl) <| yw rfl (y_concat · rfl rfl hk3) <| aw rfl <| nw <| sw <| vw <| yw rfl (y_boxField (o' := 1) · rfl underlying49 rfl rfl rfl) <| yw rfl (y_loadBox1 (kk := 1000) · rfl rfl rfl underlying25 rfl) <| yw rfl (y_lenSlice · rfl underlying25) <| yw rfl (y_gtrN (i := ((x_.Supers).length)) (j := 0) · rfl rfl) <| nw fun a s => ?_
 obtain ⟨k4, hg, hk4⟩ := jn_some hg
 refine c_post (fun a w => ∃ (s_5 : (List UInt8)), k4 s_5 = some r ∧ ((s_5).length ≤ 9223372036854775807) ∧ St (cx f86 M w0) [(1, vP b2 0), (3, vT s_5)] [(1000, Ob.box b2 [vT x_.Name, sl Ap02 x_.Supers cp02, sl Ap03 x_.Feats cp03] 49)] F a w) ?_ ?_
 ·refine c_dec s rfl (fun hc6 => ?_) (fun hc6 => ?_)
  ·replace hg := br_t hg hc6
   have hmx7 := SlR.mx (s.ft 101 rfl)
   obtain ⟨hk8, hg⟩ := chk_some hg
   obtain ⟨r9, hr9, hg⟩ := bind_some hg
   obtain ⟨hk12, hg⟩ := chk_some hg
   refine S s <| lw <| mw rfl <| yw rfl (y_concat · rfl rfl hk8) <| yw rfl (y_boxField (o' := 1) · rfl underlying49 rfl rfl rfl) <| yw rfl (y_loadBox1 (kk := 1000) · rfl rfl rfl underlying25 rfl) fun a s => ?_
   refine lC s rfl func88 (c_r21_joined n _ _ s.lt _ _ _ (s.ft 101 rfl) _ (Nat.le_of_ble_eq_true (by rfl)) _ hr9) fun v13 a w hK hp s => ?_
   obtain ⟨rfl, lu14a1⟩ := hp
   refine S s <| yw rfl (y_concat · rfl rfl hk12) <| aw rfl <| nw fun a s => ?_
   exact ⟨((([116, 121, 112, 101, 32] ++ x_.Name) ++ [32, 60, 32]) ++ r9), hg, (by rw [List.length_append]; omega), (s.sb rfl rfl rfl)⟩
  replace hg := br_f hg hc6
  apply wp_skip
  apply pN
  exact ⟨([116, 121, 112, 101, 32] ++ x_.Name), hg, (by rw [List.length_append]; omega), (s.sb rfl rfl rfl)⟩
 clear s a; rintro a w ⟨s_5, hg, ls_5, s⟩
 subst hk4
 refine S s <| sw <| vw <| aw rfl <| nw <| bw fun a s => ?_
 refine c_loop (σ := Nat) (fun m1 a w => ∃ (s_15 : (List UInt8)) (i_16 : Nat), r21_typed_L0 n x_ m1 s_15 i_16 = some r ∧ ((s_15).length ≤ 9223372036854775807) ∧ St (cx f86 M w0) [(1, vP b2 0), (3, vT s_15), (4, vI (((i_16 : Nat) : Int)))] [(1000, Ob.box b2 [vT x_.Name, sl Ap02 x_.Supers cp02, sl Ap03 x_.Feats cp03] 49)] F a w) (fun m1 => m1) n ⟨(s_5), (0), hg, (by omega), (s.sb rfl rfl rfl)⟩ ?_
 clear s a; rintro m1 a w ⟨s_15, i_16, hg, ls_15, s⟩
 rcases m1 with _ | m1
 ·rw [r21_typed_L0] at hg; cases hg
 rw [r21_typed_L0] at hg
 refine S s <| sw <| vw <| mw rfl <| yw rfl (y_boxField (o' := 2) · rfl underlying49 rfl rfl rfl) <| yw rfl (y_loadBox1 (kk := 1000) · rfl rfl rfl underlying47 rfl) <| yw rfl (y_lenSlice · rfl underlying47) <| yw rfl (y_lssN (i := i_16) (j := ((x_.Feats).length)) · rfl rfl) <| nw fun a s => c_dec s rfl (fun hc17 => ?_) (fun hc17 => ?_)
 ·replace hg := br_t hg hc17
  have hmx18 := SlR.mx (s.ft 102 rfl)
  refine S s <| kw <| pw <| sw <| bw <| sw <| vw <| mw rfl <| yw rfl (y_eqlN (i := i_16) (j := 0) · rfl rfl) <| nw fun a s => ?_
  obtain ⟨k19, hg, hk19⟩ := jn_some hg
  refine c_post (fun a w => ∃ (s_20 : (List UInt8)), k19 s_20 = some r ∧ ((s_20).length ≤ 9223372036854775807) ∧ St (cx f86 M w0) [(1, vP b2 0), (3, vT s_20), (4, vI (((i_16 : Nat) : Int)))] [(1000, Ob.box b2 [vT x_.Name, sl Ap02 x_.Supers cp02, sl Ap03 x_.Feats cp03] 49)] F a w) ?_ ?_
  ·refine c_dec s rfl (fun hc21 => ?_) (fun hc21 => ?_)
   ·replace hg := br_t hg hc21
    obtain ⟨hk22, hg⟩ := chk_some hg
    refine S s <| lw <| mw rfl <| yw rfl (y_concat · rfl rfl hk22) <| aw rfl <| nw fun a s => ?_
    exact ⟨(s_15 ++ [32, 58, 32]), hg, (by rw [List.length_append]; omega), (s.sb rfl rfl rfl)⟩
   replace hg := br_f hg hc21
   obtain ⟨hk23, hg⟩ := chk_some hg
   refine S s <| lw <| mw rfl <| yw rfl (y_concat · rfl rfl hk23) <| aw rfl <| nw fun a s => ?_
   exact ⟨(s_15 ++ [44, 32]), hg, (by rw [List.length_append]; omega), (s.sb rfl rfl rfl)⟩
  clear s a; rintro a w ⟨s_20, hg, ls_20, s⟩
  subst hk19
  obtain ⟨x25, hx25, hg⟩ := bind_some hg
  obtain ⟨hk27, hg⟩ := chk_some hg
  obtain ⟨hk28, hg⟩ := chk_some hg
  obtain ⟨hk31, hg⟩ := chk_some hg
  refine d_plan s [] [(0, some 0), (1, some 0), (2, some 1000), (3, some 0), (4, some 0), (5, some 0), (6, some 0), (7, some 0), (8, some 0), (9, some 0), (10, some 1000), (11, some 0), (12, some 0), (13, some 0), (14, some 0), (15, some 0), (16, some 0)] rfl (by kernel_rfl) (by kernel_rfl) rfl ?_; clear s; intro wr hZ s; have hR := s.wd
  refine S s <| qw hR rfl (y_move · rfl) <| qw hR rfl (y_boxField (o' := 2) · rfl underlying49 rfl rfl rfl) <| qw hR rfl (y_loadBox1 (kk := 1000) · rfl rfl rfl underlying47 rfl) <| qw hR rfl (y_move · rfl) fun a s => ?_
  obtain ⟨p32, hep32, hlq33, hmq33, csq33, hdq33, hcq33⟩ := SlR.elemX (s.ft 102 rfl) hx25
  refine S s <| qw hR rfl (y_elem (sz := 2) (i := i_16) · rfl rfl underlying47 rfl hep32 rfl (lt_of_get hx25)) <| qw hR rfl (y_ptrField (o' := 0) · rfl underlying82 rfl rfl rfl) fun a s => ?_
  obtain ⟨rfl, lq331, lq332⟩ := RFeatDecl.open hdq33
  refine S s <| qw hR rfl (y_ldp1 · rfl hlq33 hmq33 (hcq33 0 _ rfl) underlying9 rfl) <| qw hR rfl (y_concat · rfl rfl hk27) <| qw hR rfl (y_concat · rfl rfl hk28) <| qw hR rfl (y_boxField (o' := 2) · rfl underlying49 rfl rfl rfl) <| qw hR rfl (y_loadBox1 (kk := 1000) · rfl rfl rfl underlying47 rfl) <| qw hR rfl (y_move · rfl) fun a s => ?_
  obtain ⟨p34, hep34, hlq35, hmq35, csq35, hdq35, hcq35⟩ := SlR.elemX (s.ft 102 rfl) hx25
  refine S s <| qw hR rfl (y_elem (sz := 2) (i := i_16) · rfl rfl underlying47 rfl hep34 rfl (lt_of_get hx25)) <| qw hR rfl (y_ptrField (o' := 1) · rfl underlying82 rfl rfl rfl) fun a s => ?_
  obtain ⟨rfl, lq351, lq352⟩ := RFeatDecl.open hdq35
  refine S s <| qw hR rfl (y_ldp1 · rfl hlq35 hmq35 (hcq35 1 _ rfl) underlying9 rfl) <| qw hR rfl (y_concat · rfl rfl hk31) <| qw hR rfl (y_assign · rfl) fun a s => ?_
  clear hR hZ
  refine p_inN ?_
  refine S s <| pw <| lw <| mw rfl <| yw rfl (y_addN (i := i_16) (j := 1) · rfl rfl (in64.2 (by omega))) <| aw rfl <| nw fun a s => ?_
  exact ⟨m1, Nat.lt_succ_self _, ⟨(((s_20 ++ x25.Feat) ++ [32]) ++ x25.Value), (i_16 + 1), hg, (by rw [List.length_append]; omega), (s.sb rfl rfl rfl)⟩⟩
 replace hg := br_f hg hc17
 apply wp_exit
 refine p_then ?_
 refine p_then ?_
 refine p_in ?_
 obtain ⟨hk36, hg⟩ := chk_some hg
 refine S s <| pw <| sw <| lw <| mw rfl <| yw rfl (y_concat · rfl rfl hk36) <| aw rfl <| nw fun a s => ?_
 apply wp_ret
 obtain rfl := Option.some.inj hg
 refine fin1 (fn := Tryz.f86) s rfl (r_tmp s rfl) ?_
 exact ⟨rfl, (by rw [List.length_append]; omega)⟩
set_option maxHeartbeats 1000000 in
theorem c_r19_joined (n : Nat) (via_ : Desc → Option (List UInt8)) (c_via : ∀ (M : Bs) (w0 : World) (hM : ∀ b, M b → b < w0.heap.size) (t_ : Desc) (Ap03 : Option Addr) (cp03 : Nat) (Ap04 : Option Addr) (cp04 : Nat) (lp02 : (t_.Name).length ≤ 9223372036854775807) (hp03 : sR Rep.str M w0 Ap03 cp03 t_.Path) (hp04 : sR RDesc M w0 Ap04 cp04 t_.Kids) (r : (List UInt8)) (hg : via_ t_ = some r), Calls Tryz.prog 132 [.agg #[.int .i64 (t_.Op), .string (bs (t_.Name)), .slice (Ap03) ((t_.Path).length) (cp03), .slice (Ap04) ((t_.Kids).length) (cp04)]].toArray w0 (Ret noB w0 fun v w => v = .string (bs (r)) ∧ ((r).length ≤ 9223372036854775807))) (M : Bs) (w0 : World) (hM : ∀ b, M b → b < w0.heap.size) (l_ : (List Desc)) (Ap01 : Option Addr) (cp01 : Nat) (hp01 : sR RDesc M w0 Ap01 cp01 l_) (between_ : (List UInt8)) (lp11 : (between_).length ≤ 9223372036854775807) (last_ : (List UInt8)) (lp21 : (last_).length ≤ 9223372036854775807) (r : (List UInt8)) (hg : r19_joined n via_ l_ between_ last_ = some r) :
    Calls Tryz.prog 138 [sl Ap01 l_ cp01, vT between_, vT last_].toArray w0 (Ret noB w0 fun v w => v = vT r ∧ ((r).length ≤ 9223372036854775807)) := by
 unfold r19_joined at hg
 refine enter M noB func138 rfl rfl hM ?_
 intro a s
 refine S s <| esw 101 hp01 <| vw <| aw rfl <| nw <| vw <| aw rfl <| nw <| sw <| vw <| aw rfl <| nw <| bw fun a s => ?_
 refine c_loop (σ := Nat) (fun m1 a w => ∃ (s_1 : (List UInt8)) (i_2 : Nat), r19_joined_L0 n l_ between_ last_ via_ m1 s_1 i_2 = some r ∧ ((s_1).length ≤ 9223372036854775807) ∧ St (cx f138 M w0) [(0, sl Ap01 l_ cp01), (1, vT between_), (2, vT last_), (7, vT s_1), (8, vI (((i_2 : Nat) : Int)))] [] [(101, sF RDesc Ap01 cp01 l_)] a w) (fun m1 => m1) n ⟨([]), (0), hg, (Nat.le_of_ble_eq_true (by rfl)), (s.sb rfl rfl rfl)⟩ ?_
 clear s a; rintro m1 a w ⟨s_1, i_2, hg, ls_1, s⟩
 rcases m1 with _ | m1
 ·rw [r19_joined_L0] at hg; cases hg
 rw [r19_joined_L0] at hg
 refine S s <| sw <| vw <| mw rfl <| mw rfl <| yw rfl (y_lenSlice · rfl underlying58) <| yw rfl (y_lssN (i := i_2) (j := ((l_).length)) · rfl rfl) <| nw fun a s => c_dec s rfl (fun hc3 => ?_) (fun hc3 => ?_)
 ·replace hg := br_t hg hc3
  have hmx4 := SlR.mx (s.ft 101 rfl)
  refine S s <| kw <| pw <| sw <| bw <| sw fun a s => ?_
  obtain ⟨k5, hg, hk5⟩ := jn_some hg
  refine c_post (fun a w => ∃ (s_6 : (List UInt8)), k5 s_6 = some r ∧ ((s_6).length ≤ 9223372036854775807) ∧ St (cx f138 M w0) [(0, sl Ap01 l_ cp01), (1, vT between_), (2, vT last_), (7, vT s_6), (8, vI (((i_2 : Nat) : Int)))] [] [(101, sF RDesc Ap01 cp01 l_)] a w) ?_ ?_
  ·apply wp_block
   apply wQ
   obtain ⟨k7, hg, hk7⟩ := jn_some hg
   refine c_post (fun a w => ∃ (t_8 : Bool), k7 t_8 = some r ∧ St (cx f138 M w0) [(0, sl Ap01 l_ cp01), (1, vT between_), (2, vT last_), (7, vT s_1), (8, vI (((i_2 : Nat) : Int))), (15, .bool (t_8))] [] [(101, sF RDesc Ap01 cp01 l_)] a w) ?_ ?_
   ·rcases Decidable.em ((0 : Nat) < i_2) with hs9 | hs9
    ·have hs9e := decide_eq_true hs9
     replace hg := br_t hg hs9
     refine S s <| lw <| mw rfl <| yw rfl (fun s => yl_b (y_gtrN (i := i_2) (j := 0) s rfl rfl) hs9e) <| mw rfl <| hw rfl <| hw rfl <| zw rfl (y_lenSlice · rfl underlying58) fun a s => ?_
     have hmx10 := SlR.mx (s.ft 101 rfl)
     refine S s <| zw rfl (y_sub · rfl rfl (in64.2 (by omega))) <| zw rfl (y_eql · rfl rfl) <| yw rfl (y_pick_t · rfl rfl) <| aw rfl <| nw fun a s => ?_
     exact ⟨(decide (((i_2 : Nat) : Int) = ((((l_).length : Nat) : Int) - 1))), hg, (s.sb rfl rfl rfl)⟩
    have hs9e := decide_eq_false hs9
    replace hg := br_f hg hs9
    refine S s <| lw <| mw rfl <| yw rfl (fun s => yl_b (y_gtrN (i := i_2) (j := 0) s rfl rfl) hs9e) <| mw rfl <| gw rfl <| gw rfl <| gw rfl <| gw rfl <| gw rfl <| yw rfl (y_pick_f · rfl rfl) <| aw rfl <| nw fun a s => ?_
    exact ⟨(false), hg, (s.sb rfl rfl rfl)⟩
   clear s a; rintro a w ⟨t_8, hg, s⟩
   subst hk7
   refine c_cond s rfl (fun hc11 => ?_) (fun hc11 => ?_)
   ·replace hg := br_t hg hc11
    obtain ⟨hk12, hg⟩ := chk_some hg
    refine S s <| lw <| mw rfl <| mw rfl <| yw rfl (y_concat · rfl rfl hk12) <| aw rfl fun a s => ?_
    apply wO
    refine p_inN ?_
    apply pN
    exact ⟨(s_1 ++ last_), hg, (by rw [List.length_append]; omega), (s.sb rfl rfl rfl)⟩
   replace hg := br_n hg hc11
   refine S s <| vw <| mw rfl <| yw rfl (y_gtrN (i := i_2) (j := 0) · rfl rfl) <| aw rfl <| nw fun a s => c_dec s rfl (fun hc13 => ?_) (fun hc13 => ?_)
   ·replace hg := br_t hg hc13
    obtain ⟨hk14, hg⟩ := chk_some hg
    refine S s <| lw <| mw rfl <| mw rfl <| yw rfl (y_concat · rfl rfl hk14) <| aw rfl fun a s => ?_
    apply wO
    refine p_inN ?_
    apply pN
    exact ⟨(s_1 ++ between_), hg, (by rw [List.length_append]; omega), (s.sb rfl rfl rfl)⟩
   replace hg := br_f hg hc13
   apply wp_skip
   refine p_inN ?_
   apply pN
   exact ⟨(s_1), hg, (by omega), (s.sb rfl rfl rfl)⟩
  clear s a; rintro a w ⟨s_6, hg, ls_6, s⟩
  subst hk5
  obtain ⟨x16, hx16, hg⟩ := bind_some hg
  obtain ⟨r18, hr18, hg⟩ := bind_some hg
  obtain ⟨hk21, hg⟩ := chk_some hg
  refine S s <| lw <| mw rfl <| mw rfl <| mw rfl fun a s => ?_
  obtain ⟨p22, hep22, hlq23, hmq23, csq23, hdq23, hcq23⟩ := SlR.elemX (s.ft 101 rfl) hx16
  refine qq s rfl (y_elem (sz := 4) (i := i_2) s rfl rfl underlying58 rfl hep22 rfl (lt_of_get hx16)) fun a s => ?_
  obtain ⟨Aq233, cq233, Aq234, cq234, rfl, lq232, hq233, hq234⟩ := RDesc.open hdq23
  refine S s <| nsw 104 hq233 <| nsw 105 hq234 <| yw rfl (y_ldp · rfl hlq23 hmq23 (by simpa using hcq23) underlying60 rfl rfl) fun a s => ?_
  refine lC s rfl func132 (c_via _ _ s.lt _ _ _ _ _ (by omega) (s.ft 104 rfl) (s.ft 105 rfl) _ hr18) fun v24 a w hK hp s => ?_
  obtain ⟨rfl, lu25a1⟩ := hp
  refine S s <| yw rfl (y_concat · rfl rfl hk21) <| aw rfl fun a s => ?_
  apply wO
  refine p_inN ?_
  refine S s <| pw <| lw <| mw rfl <| yw rfl (y_addN (i := i_2) (j := 1) · rfl rfl (in64.2 (by omega))) <| aw rfl <| nw fun a s => ?_
  exact ⟨m1, Nat.lt_succ_self _, ⟨(s_6 ++ r18), (i_2 + 1), hg, (by rw [List.length_append]; omega), (s.sb rfl rfl rfl)⟩⟩
 replace hg := br_f hg hc3
 apply wp_exit
 refine p_then ?_
 refine p_then ?_
 refine p_in ?_
 refine S s <| pw <| vw <| mw rfl <| aw rfl <| nw fun a s => ?_
 apply wp_ret
 obtain rfl := Option.some.inj hg
 refine fin1 (fn := Tryz.f138) s rfl (r_tmp s rfl) ?_
 exact ⟨rfl, (by omega)⟩
set_option maxHeartbeats 1000000 in
theorem c_r19_written (n : Nat) : ∀ (M : Bs) (w0 : World) (hM : ∀ b, M b → b < w0.heap.size) (t_ : Desc) (Ap03 : Option Addr) (cp03 : Nat) (Ap04 : Option Addr) (cp04 : Nat) (lp02 : (t_.Name).length ≤ 9223372036854775807) (hp03 : sR Rep.str M w0 Ap03 cp03 t_.Path) (hp04 : sR RDesc M w0 Ap04 cp04 t_.Kids) (r : (List UInt8)) (hg : r19_written n t_ = some r),
    Calls Tryz.prog 132 [.agg #[.int .i64 (t_.Op), vT t_.Name, sl Ap03 t_.Path cp03, sl Ap04 t_.Kids cp04]].toArray w0 (Ret noB w0 fun v w => v = vT r ∧ ((r).length ≤ 9223372036854775807)) := by
 induction n with
 | zero => intros; rename_i hg; rw [r19_written] at hg; cases hg
 | succ n c_self =>
 intro M w0 hM t_ Ap03 cp03 Ap04 cp04 lp02 hp03 hp04 r hg
 rw [r19_written] at hg
 refine enter M noB func132 rfl rfl hM ?_
 intro a s
 let F : Al Fact := [(101, sF Rep.str Ap03 cp03 t_.Path), (102, sF RDesc Ap04 cp04 t_.Kids)]
 refine S s <| esw 101 hp03 <| esw 102 hp04 <| vw fun a s => ?_
 refine l_seq rfl (l_box (zs := [vI t_.Op, vT t_.Name, sl Ap03 t_.Path cp03, sl Ap04 t_.Kids cp04]) s 1000 rfl rfl rfl rfl fun b2 a w hb hK s => ?_)
 refine S s <| aw rfl <| nw <| sw <| vw <| yw rfl (y_boxField (o' := 0) · rfl underlying60 rfl rfl rfl) <| yw rfl (y_loadBox1 (kk := 1000) · rfl rfl rfl underlying3 rfl) <| nw <| bw <| vw <| yw rfl (y_eql · rfl rfl) <| aw rfl <| nw fun a s => c_dec s rfl (fun hc3 => ?_) (fun hc3 => ?_)
 ·replace hg := br_t hg hc3
  refine S s <| vw <| yw rfl (y_boxField (o' := 1) · rfl underlying60 rfl rfl rfl) <| yw rfl (y_loadBox1 (kk := 1000) · rfl rfl rfl underlying9 rfl) <| aw rfl <| nw fun a s => ?_
  apply wp_ret
  refine p_inR ?_
  refine p_thenR ?_
  obtain rfl := Option.some.inj hg
  refine fin1 (fn := Tryz.f132) s rfl (r_tmp s rfl) ?_
  exact ⟨rfl, (by omega)⟩
 replace hg := br_f hg hc3
 refine S s <| vw <| yw rfl (y_eql · rfl rfl) <| aw rfl <| nw fun a s => c_dec s rfl (fun hc4 => ?_) (fun hc4 => ?_)
 ·replace hg := br_t hg hc4
  obtain ⟨hk5, hg⟩ := chk_some hg
  refine S s <| sw <| lw <| yw rfl (y_boxField (o' := 1) · rfl underlying60 rfl rfl rfl) <| yw rfl (y_loadBox1 (kk := 1000) · rfl rfl rfl underlying9 rfl) <| yw rfl (y_concat · rfl rfl hk5) <| aw rfl <| nw fun a s => ?_
  apply wp_ret
  refine p_inR ?_
  refine p_thenR ?_
  obtain rfl := Option.some.inj hg
  refine fin1 (fn := Tryz.f132) s rfl (r_tmp s rfl) ?_
  exact ⟨rfl, (by rw [List.length_append]; omega)⟩
 replace hg := br_f hg hc4
 refine S s <| vw <| yw rfl (y_eql · rfl rfl) <| aw rfl <| nw fun a s => c_dec s rfl (fun hc6 => ?_) (fun hc6 => ?_)
 ·replace hg := br_t hg hc6
  obtain ⟨hk7, hg⟩ := chk_some hg
  refine S s <| sw <| lw <| yw rfl (y_boxField (o' := 1) · rfl underlying60 rfl rfl rfl) <| yw rfl (y_loadBox1 (kk := 1000) · rfl rfl rfl underlying9 rfl) <| yw rfl (y_concat · rfl rfl hk7) <| aw rfl <| nw fun a s => ?_
  apply wp_ret
  refine p_inR ?_
  refine p_thenR ?_
  obtain rfl := Option.some.inj hg
  refine fin1 (fn := Tryz.f132) s rfl (r_tmp s rfl) ?_
  exact ⟨rfl, (by rw [List.length_append]; omega)⟩
 replace hg := br_f hg hc6
 refine S s <| vw <| yw rfl (y_eql · rfl rfl) <| aw rfl <| nw fun a s => c_dec s rfl (fun hc8 => ?_) (fun hc8 => ?_)
 ·replace hg := br_t hg hc8
  obtain ⟨r9, hr9, hg⟩ := bind_some hg
  refine S s <| sw <| lw <| yw rfl (y_boxField (o' := 3) · rfl underlying60 rfl rfl rfl) <| yw rfl (y_loadBox1 (kk := 1000) · rfl rfl rfl underlying58 rfl) fun a s => ?_
  refine lC s rfl func138 (c_r19_joined n (r19_written n) c_self _ _ s.lt _ _ _ (s.ft 102 rfl) _ (Nat.le_of_ble_eq_true (by rfl)) _ (Nat.le_of_ble_eq_true (by rfl)) _ hr9) fun v12 a w hK hp s => ?_
  obtain ⟨rfl, lu13a1⟩ := hp
  refine S s <| aw rfl <| nw fun a s => ?_
  apply wp_ret
  refine p_inR ?_
  refine p_thenR ?_
  obtain rfl := Option.some.inj hg
  refine fin1 (fn := Tryz.f132) s rfl (r_tmp s rfl) ?_
  exact ⟨rfl, (by omega)⟩
 replace hg := br_f hg hc8
 refine S s <| vw <| yw rfl (y_eql · rfl rfl) <| aw rfl <| nw fun a s => c_dec s rfl (fun hc14 => ?_) (fun hc14 => ?_)
 ·replace hg := br_t hg hc14
  obtain ⟨x16, hx16, hg⟩ := bind_some hg
  obtain ⟨hk18, hg⟩ := chk_some hg
  refine S s <| sw <| lw <| yw rfl (y_boxField (o' := 2) · rfl underlying60 rfl rfl rfl) <| yw rfl (y_loadBox1 (kk := 1000) · rfl rfl rfl underlying25 rfl) fun a s => ?_
  obtain ⟨p19, hep19, hlq20, hmq20, csq20, hdq20, hcq20⟩ := SlR.elemX (s.ft 101 rfl) hx16
  refine qq s rfl (y_elem (sz := 1) (i := 0) s rfl rfl underlying25 rfl hep19 rfl (lt_of_get hx16)) fun a s => ?_
  obtain ⟨rfl, lq201⟩ := hdq20
  refine S s <| yw rfl (y_ldp1 · rfl hlq20 hmq20 (hcq20 0 _ rfl) underlying9 rfl) <| yw rfl (y_concat · rfl rfl hk18) <| aw rfl <| nw <| sw <| vw <| aw rfl <| nw fun a s => ?_
  obtain ⟨k21, hg, hk21⟩ := jn_some hg
  refine c_post (fun a w => ∃ (t_22 : (List UInt8)), k21 t_22 = some r ∧ ((t_22).length ≤ 9223372036854775807) ∧ St (cx f132 M w0) [(1, vP b2 0), (3, vT t_22)] [(1000, Ob.box b2 [vI t_.Op, vT t_.Name, sl Ap03 t_.Path cp03, sl Ap04 t_.Kids cp04] 60)] F a w) ?_ ?_
  ·apply wp_block
   refine c_loop (σ := Nat) (fun m1 a w => ∃ (t_23 : (List UInt8)) (t_24 : Nat), r19_written_L0 n t_ k21 m1 t_23 t_24 = some r ∧ ((t_23).length ≤ 9223372036854775807) ∧ St (cx f132 M w0) [(1, vP b2 0), (3, vT t_23), (4, vI (((t_24 : Nat) : Int)))] [(1000, Ob.box b2 [vI t_.Op, vT t_.Name, sl Ap03 t_.Path cp03, sl Ap04 t_.Kids cp04] 60)] F a w) (fun m1 => m1) n ⟨([91] ++ x16), (1), hg, (by rw [List.length_append]; omega), (s.sb rfl rfl rfl)⟩ ?_
   clear s a; rintro m1 a w ⟨t_23, t_24, hg, lt_23, s⟩
   rcases m1 with _ | m1
   ·rw [r19_written_L0] at hg; cases hg
   rw [r19_written_L0] at hg
   refine S s <| sw <| vw <| mw rfl <| yw rfl (y_boxField (o' := 2) · rfl underlying60 rfl rfl rfl) <| yw rfl (y_loadBox1 (kk := 1000) · rfl rfl rfl underlying25 rfl) <| yw rfl (y_lenSlice · rfl underlying25) <| yw rfl (y_lssN (i := t_24) (j := ((t_.Path).length)) · rfl rfl) <| nw fun a s => c_dec s rfl (fun hc25 => ?_) (fun hc25 => ?_)
   ·replace hg := br_t hg hc25
    have hmx26 := SlR.mx (s.ft 101 rfl)
    obtain ⟨hk27, hg⟩ := chk_some hg
    obtain ⟨x29, hx29, hg⟩ := bind_some hg
    obtain ⟨hk31, hg⟩ := chk_some hg
    refine S s <| kw <| pw <| sw <| bw <| lw <| mw rfl <| yw rfl (y_concat · rfl rfl hk27) <| yw rfl (y_boxField (o' := 2) · rfl underlying60 rfl rfl rfl) <| yw rfl (y_loadBox1 (kk := 1000) · rfl rfl rfl underlying25 rfl) <| mw rfl fun a s => ?_
    obtain ⟨p32, hep32, hlq33, hmq33, csq33, hdq33, hcq33⟩ := SlR.elemX (s.ft 101 rfl) hx29
    refine qq s rfl (y_elem (sz := 1) (i := t_24) s rfl rfl underlying25 rfl hep32 rfl (lt_of_get hx29)) fun a s => ?_
    obtain ⟨rfl, lq331⟩ := hdq33
    refine S s <| yw rfl (y_ldp1 · rfl hlq33 hmq33 (hcq33 0 _ rfl) underlying9 rfl) <| yw rfl (y_concat · rfl rfl hk31) <| aw rfl fun a s => ?_
    apply wO
    refine p_inN ?_
    refine S s <| pw <| lw <| mw rfl <| yw rfl (y_addN (i := t_24) (j := 1) · rfl rfl (in64.2 (by omega))) <| aw rfl <| nw fun a s => ?_
    exact ⟨m1, Nat.lt_succ_self _, ⟨((t_23 ++ [46]) ++ x29), (t_24 + 1), hg, (by rw [List.length_append]; omega), (s.sb rfl rfl rfl)⟩⟩
   replace hg := br_f hg hc25
   apply wp_exit
   refine p_then ?_
   refine p_then ?_
   refine p_in ?_
   apply pN
   exact ⟨(t_23), hg, (by omega), (s.sb rfl rfl rfl)⟩
  clear s a; rintro a w ⟨t_22, hg, lt_22, s⟩
  subst hk21
  obtain ⟨hk34, hg⟩ := chk_some hg
  obtain ⟨x36, hx36, hg⟩ := bind_some hg
  obtain ⟨r38, hr38, hg⟩ := bind_some hg
  obtain ⟨hk41, hg⟩ := chk_some hg
  obtain ⟨hk42, hg⟩ := chk_some hg
  refine S s <| sw <| lw <| mw rfl <| yw rfl (y_concat · rfl rfl hk34) <| yw rfl (y_boxField (o' := 3) · rfl underlying60 rfl rfl rfl) <| yw rfl (y_loadBox1 (kk := 1000) · rfl rfl rfl underlying58 rfl) fun a s => ?_
  obtain ⟨p43, hep43, hlq44, hmq44, csq44, hdq44, hcq44⟩ := SlR.elemX (s.ft 102 rfl) hx36
  refine qq s rfl (y_elem (sz := 4) (i := 0) s rfl rfl underlying58 rfl hep43 rfl (lt_of_get hx36)) fun a s => ?_
  obtain ⟨Aq443, cq443, Aq444, cq444, rfl, lq442, hq443, hq444⟩ := RDesc.open hdq44
  refine S s <| nsw 105 hq443 <| nsw 106 hq444 <| yw rfl (y_ldp · rfl hlq44 hmq44 (by simpa using hcq44) underlying60 rfl rfl) fun a s => ?_
  refine lC s rfl func132 (c_self _ _ s.lt _ _ _ _ _ (by omega) (s.ft 105 rfl) (s.ft 106 rfl) _ hr38) fun v45 a w hK hp s => ?_
  obtain ⟨rfl, lu46a1⟩ := hp
  refine S s <| yw rfl (y_concat · rfl rfl hk41) <| yw rfl (y_concat · rfl rfl hk42) <| aw rfl <| nw fun a s => ?_
  apply wp_ret
  refine p_inR ?_
  refine p_thenR ?_
  obtain rfl := Option.some.inj hg
  refine fin1 (fn := Tryz.f132) s rfl (r_tmp s rfl) ?_
  exact ⟨rfl, (by rw [List.length_append]; omega)⟩
 replace hg := br_f hg hc14
 refine S s <| vw <| yw rfl (y_eql · rfl rfl) <| aw rfl <| nw fun a s => c_dec s rfl (fun hc47 => ?_) (fun hc47 => ?_)
 ·replace hg := br_t hg hc47
  obtain ⟨r48, hr48, hg⟩ := bind_some hg
  obtain ⟨hk51, hg⟩ := chk_some hg
  obtain ⟨hk52, hg⟩ := chk_some hg
  refine S s <| sw <| lw <| yw rfl (y_boxField (o' := 3) · rfl underlying60 rfl rfl rfl) <| yw rfl (y_loadBox1 (kk := 1000) · rfl rfl rfl underlying58 rfl) fun a s => ?_
  refine lC s rfl func138 (c_r19_joined n (r19_written n) c_self _ _ s.lt _ _ _ (s.ft 102 rfl) _ (Nat.le_of_ble_eq_true (by rfl)) _ (Nat.le_of_ble_eq_true (by rfl)) _ hr48) fun v53 a w hK hp s => ?_
  obtain ⟨rfl, lu54a1⟩ := hp
  refine S s <| yw rfl (y_concat · rfl rfl hk51) <| yw rfl (y_concat · rfl rfl hk52) <| aw rfl <| nw fun a s => ?_
  apply wp_ret
  refine p_inR ?_
  refine p_thenR ?_
  obtain rfl := Option.some.inj hg
  refine fin1 (fn := Tryz.f132) s rfl (r_tmp s rfl) ?_
  exact ⟨rfl, (by rw [List.length_append]; omega)⟩
 replace hg := br_f hg hc47
 refine S s <| vw <| yw rfl (y_eql · rfl rfl) <| aw rfl <| nw fun a s => c_dec s rfl (fun hc55 => ?_) (fun hc55 => ?_)
 ·replace hg := br_t hg hc55
  obtain ⟨r56, hr56, hg⟩ := bind_some hg
  obtain ⟨hk59, hg⟩ := chk_some hg
  obtain ⟨hk60, hg⟩ := chk_some hg
  refine S s <| sw <| lw <| yw rfl (y_boxField (o' := 3) · rfl underlying60 rfl rfl rfl) <| yw rfl (y_loadBox1 (kk := 1000) · rfl rfl rfl underlying58 rfl) fun a s => ?_
  refine lC s rfl func138 (c_r19_joined n (r19_written n) c_self _ _ s.lt _ _ _ (s.ft 102 rfl) _ (Nat.le_of_ble_eq_true (by rfl)) _ (Nat.le_of_ble_eq_true (by rfl)) _ hr56) fun v61 a w hK hp s => ?_
  obtain ⟨rfl, lu62a1⟩ := hp
  refine S s <| yw rfl (y_concat · rfl rfl hk59) <| yw rfl (y_concat · rfl rfl hk60) <| aw rfl <| nw fun a s => ?_
  apply wp_ret
  refine p_inR ?_
  refine p_thenR ?_
  obtain rfl := Option.some.inj hg
  refine fin1 (fn := Tryz.f132) s rfl (r_tmp s rfl) ?_
  exact ⟨rfl, (by rw [List.length_append]; omega)⟩
 replace hg := br_f hg hc55
 apply wp_skip
 refine p_inN ?_
 refine S s <| pw <| sw <| vw <| yw rfl (y_boxField (o' := 3) · rfl underlying60 rfl rfl rfl) <| yw rfl (y_loadBox1 (kk := 1000) · rfl rfl rfl underlying58 rfl) <| yw rfl (y_lenSlice · rfl underlying58) <| yw rfl (y_eqlN (i := ((t_.Kids).length)) (j := 0) · rfl rfl) <| nw fun a s => c_dec s rfl (fun hc63 => ?_) (fun hc63 => ?_)
 ·replace hg := br_t hg hc63
  refine S s <| vw <| aw rfl <| nw fun a s => ?_
  apply wp_ret
  refine p_thenR ?_
  obtain rfl := Option.some.inj hg
  refine fin1 (fn := Tryz.f132) s rfl (r_tmp s rfl) ?_
  exact ⟨rfl, (Nat.le_of_ble_eq_true (by rfl))⟩
 replace hg := br_f hg hc63
 obtain ⟨r64, hr64, hg⟩ := bind_some hg
 obtain ⟨hk67, hg⟩ := chk_some hg
 obtain ⟨hk68, hg⟩ := chk_some hg
 refine S s <| kw <| pw <| sw <| lw <| yw rfl (y_boxField (o' := 3) · rfl underlying60 rfl rfl rfl) <| yw rfl (y_loadBox1 (kk := 1000) · rfl rfl rfl underlying58 rfl) fun a s => ?_
 refine lC s rfl func138 (c_r19_joined n (r19_written n) c_self _ _ s.lt _ _ _ (s.ft 102 rfl) _ (Nat.le_of_ble_eq_true (by rfl)) _ (Nat.le_of_ble_eq_true (by rfl)) _ hr64) fun v69 a w hK hp s => ?_
 obtain ⟨rfl, lu70a1⟩ := hp
 refine S s <| yw rfl (y_concat · rfl rfl hk67) <| yw rfl (y_concat · rfl rfl hk68) <| aw rfl <| nw fun a s => ?_
 apply wp_ret
 obtain rfl := Option.some.inj hg
 refine fin1 (fn := Tryz.f132) s rfl (r_tmp s rfl) ?_
 exact ⟨rfl, (by rw [List.length_append]; omega)⟩
set_option maxHeartbeats 1000000 in
theorem c_r19_Print (n : Nat) (M : Bs) (w0 : World) (hM : ∀ b, M b → b < w0.heap.size) (d_ : Desc) (Ap03 : Option Addr) (cp03 : Nat) (Ap04 : Option Addr) (cp04 : Nat) (lp02 : (d_.Name).length ≤ 9223372036854775807) (hp03 : sR Rep.str M w0 Ap03 cp03 d_.Path) (hp04 : sR RDesc M w0 Ap04 cp04 d_.Kids) (r : ((List UInt8) × Int)) (hg : r19_Print n d_ = some r) :
    Calls Tryz.prog 116 [.agg #[.int .i64 (d_.Op), vT d_.Name, sl Ap03 d_.Path cp03, sl Ap04 d_.Kids cp04]].toArray w0 (Ret noB w0 fun v w => v = .tuple #[vT r.1, .int .i64 (r.2)] ∧ ((r.1).length ≤ 9223372036854775807)) := by
 unfold r19_Print at hg
 refine enter M noB func116 rfl rfl hM ?_
 intro a s
 refine S s <| esw 101 hp03 <| esw 102 hp04 <| vw fun a s => ?_
 refine l_seq rfl (l_box (zs := [vI d_.Op, vT d_.Name, sl Ap03 d_.Path cp03, sl Ap04 d_.Kids cp04]) s 1000 rfl rfl rfl rfl fun b2 a w hb hK s => ?_)
 obtain ⟨r3, hr3, hg⟩ := bind_some hg
 refine S s <| aw rfl <| aw rfl <| nw <| sw <| lw <| yw rfl (y_loadAll (kk := 1000) · rfl rfl underlying60 rfl rfl) fun a s => ?_
 refine lV s rfl func129 (c_r19_Check n _ _ s.lt _ _ _ _ _ (by omega) (s.ft 101 rfl) (s.ft 102 rfl) _ hr3) fun a w hK s => ?_
 refine S s <| aw rfl <| nw <| sw <| vw <| mw rfl <| yw rfl (y_neq · rfl rfl) <| nw fun a s => c_dec s rfl (fun hc8 => ?_) (fun hc8 => ?_)
 ·replace hg := br_t hg hc8
  refine S s <| vw <| mw rfl <| aw rfl <| aw rfl <| nw fun a s => ?_
  apply wp_ret
  refine p_thenR ?_
  obtain rfl := Option.some.inj hg
  refine fin2 (fn := Tryz.f116) s rfl (r_tmp s rfl) (r_tmp s rfl) ?_
  exact ⟨rfl, (Nat.le_of_ble_eq_true (by rfl))⟩
 replace hg := br_f hg hc8
 obtain ⟨r9, hr9, hg⟩ := bind_some hg
 refine S s <| kw <| pw <| sw <| lw <| yw rfl (y_loadAll (kk := 1000) · rfl rfl underlying60 rfl rfl) fun a s => ?_
 refine lC s rfl func132 (c_r19_written n _ _ s.lt _ _ _ _ _ (by omega) (s.ft 101 rfl) (s.ft 102 rfl) _ hr9) fun v12 a w hK hp s => ?_
 obtain ⟨rfl, lu13a1⟩ := hp
 refine S s <| aw rfl <| nw <| sw <| vw <| mw rfl <| yw rfl (y_lenStrN · rfl underlying9) <| yw rfl (y_gtrN (i := ((r9).length)) (j := 65536) · rfl rfl) <| nw fun a s => c_dec s rfl (fun hc14 => ?_) (fun hc14 => ?_)
 ·replace hg := br_t hg hc14
  have hmx15 : (r9).length ≤ 9223372036854775807 := (by omega)
  refine S s <| vw <| aw rfl <| aw rfl <| nw fun a s => ?_
  apply wp_ret
  refine p_thenR ?_
  obtain rfl := Option.some.inj hg
  refine fin2 (fn := Tryz.f116) s rfl (r_tmp s rfl) (r_tmp s rfl) ?_
  exact ⟨rfl, (Nat.le_of_ble_eq_true (by rfl))⟩
 replace hg := br_f hg hc14
 refine S s <| kw <| pw <| vw <| mw rfl <| aw rfl <| aw rfl <| nw fun a s => ?_
 apply wp_ret
 obtain rfl := Option.some.inj hg
 refine fin2 (fn := Tryz.f116) s rfl (r_tmp s rfl) (r_tmp s rfl) ?_
 exact ⟨rfl, (by omega)⟩
set_option maxHeartbeats 1000000 in
theorem c_r21_defined (n : Nat) (M : Bs) (w0 : World) (hM : ∀ b, M b → b < w0.heap.size) (x_ : Def) (Ap04 : Option Addr) (cp04 : Nat) (Ap05 : Option Addr) (cp05 : Nat) (Ap06 : Option Addr) (cp06 : Nat) (lp01 : (x_.Name).length ≤ 9223372036854775807) (lp03 : (x_.Strict.Name).length ≤ 9223372036854775807) (hp04 : sR Rep.str M w0 Ap04 cp04 x_.Strict.Path) (hp05 : sR RDesc M w0 Ap05 cp05 x_.Strict.Kids) (hp06 : sR RDesc M w0 Ap06 cp06 x_.Defaults) (r : (List UInt8)) (hg : r21_defined n x_ = some r) :
    Calls Tryz.prog 89 [.agg #[vT x_.Name, .int .i64 (x_.Strict.Op), vT x_.Strict.Name, sl Ap04 x_.Strict.Path cp04, sl Ap05 x_.Strict.Kids cp05, sl Ap06 x_.Defaults cp06]].toArray w0 (Ret noB w0 fun v w => v = vT r ∧ ((r).length ≤ 9223372036854775807)) := by
 unfold r21_defined at hg
 refine enter M noB func89 rfl rfl hM ?_
 intro a s
 refine S s <| esw 101 hp04 <| esw 102 hp05 <| esw 103 hp06 <| vw fun a s => ?_
 refine l_seq rfl (l_box (zs := [vT x_.Name, vI x_.Strict.Op, vT x_.Strict.Name, sl Ap04 x_.Strict.Path cp04, sl Ap05 x_.Strict.Kids cp05, sl Ap06 x_.Defaults cp06]) s 1000 rfl rfl rfl rfl fun b2 a w hb hK s => ?_)
 obtain ⟨r3, hr3, hg⟩ := bind_some hg
 refine S s <| aw rfl <| nw <| sw <| lw <| yw rfl (y_boxField (o' := 1) · rfl underlying62 rfl rfl rfl) <| yw rfl (y_loadBox (kk := 1000) (n := 4) (vs := [vI x_.Strict.Op, vT x_.Strict.Name, sl Ap04 x_.Strict.Path cp04, sl Ap05 x_.Strict.Kids cp05]) · rfl rfl underlying60 rfl rfl rfl rfl) fun a s => ?_
 refine lC s rfl func116 (c_r19_Print n _ _ s.lt _ _ _ _ _ (by omega) (s.ft 101 rfl) (s.ft 102 rfl) _ hr3) fun v6 a w hK hp s => ?_
 obtain ⟨rfl, lu7a1⟩ := hp
 obtain ⟨hk8, hg⟩ := chk_some hg
 refine S s <| mw rfl <| yw rfl (y_extract · rfl rfl) <| yw rfl (y_extract · rfl rfl) <| aw rfl <| aw rfl <| nw <| sw <| lw <| mw rfl <| yw rfl (y_concat · rfl rfl hk8) <| aw rfl <| nw <| sw <| vw <| aw rfl <| nw <| bw fun a s => ?_
 refine c_loop (σ := Nat) (fun m1 a w => ∃ (s_9 : (List UInt8)) (i_10 : Nat), r21_defined_L0 n x_ m1 s_9 i_10 = some r ∧ ((s_9).length ≤ 9223372036854775807) ∧ St (cx f89 M w0) [(1, vP b2 0), (3, vT s_9), (5, vI (((i_10 : Nat) : Int)))] [(1000, Ob.box b2 [vT x_.Name, vI x_.Strict.Op, vT x_.Strict.Name, sl Ap04 x_.Strict.Path cp04, sl Ap05 x_.Strict.Kids cp05, sl Ap06 x_.Defaults cp06] 62)] [(101, sF Rep.str Ap04 cp04 x_.Strict.Path), (102, sF RDesc Ap05 cp05 x_.Strict.Kids), (103, sF RDesc Ap06 cp06 x_.Defaults)] a w) (fun m1 => m1) n ⟨([32, 61, 32] ++ r3.1), (0), hg, (by rw [List.length_append]; omega), (s.sb rfl rfl rfl)⟩ ?_
 clear s a; rintro m1 a w ⟨s_9, i_10, hg, ls_9, s⟩
 rcases m1 with _ | m1
 ·rw [r21_defined_L0] at hg; cases hg
 rw [r21_defined_L0] at hg
 refine S s <| sw <| vw <| mw rfl <| yw rfl (y_boxField (o' := 5) · rfl underlying62 rfl rfl rfl) <| yw rfl (y_loadBox1 (kk := 1000) · rfl rfl rfl underlying58 rfl) <| yw rfl (y_lenSlice · rfl underlying58) <| yw rfl (y_lssN (i := i_10) (j := ((x_.Defaults).length)) · rfl rfl) <| nw fun a s => c_dec s rfl (fun hc11 => ?_) (fun hc11 => ?_)
 ·replace hg := br_t hg hc11
  have hmx12 := SlR.mx (s.ft 103 rfl)
  obtain ⟨x14, hx14, hg⟩ := bind_some hg
  obtain ⟨r16, hr16, hg⟩ := bind_some hg
  refine S s <| kw <| pw <| sw <| bw <| sw <| lw <| yw rfl (y_boxField (o' := 5) · rfl underlying62 rfl rfl rfl) <| yw rfl (y_loadBox1 (kk := 1000) · rfl rfl rfl underlying58 rfl) <| mw rfl fun a s => ?_
  obtain ⟨p19, hep19, hlq20, hmq20, csq20, hdq20, hcq20⟩ := SlR.elemX (s.ft 103 rfl) hx14
  refine qq s rfl (y_elem (sz := 4) (i := i_10) s rfl rfl underlying58 rfl hep19 rfl (lt_of_get hx14)) fun a s => ?_
  obtain ⟨Aq203, cq203, Aq204, cq204, rfl, lq202, hq203, hq204⟩ := RDesc.open hdq20
  refine S s <| nsw 106 hq203 <| nsw 107 hq204 <| yw rfl (y_ldp · rfl hlq20 hmq20 (by simpa using hcq20) underlying60 rfl rfl) fun a s => ?_
  refine lC s rfl func116 (c_r19_Print n _ _ s.lt _ _ _ _ _ (by omega) (s.ft 106 rfl) (s.ft 107 rfl) _ hr16) fun v21 a w hK hp s => ?_
  obtain ⟨rfl, lu22a1⟩ := hp
  obtain ⟨hk23, hg⟩ := chk_some hg
  obtain ⟨hk24, hg⟩ := chk_some hg
  refine S s <| mw rfl <| yw rfl (y_extract · rfl rfl) <| yw rfl (y_extract · rfl rfl) <| aw rfl <| aw rfl <| nw <| lw <| mw rfl <| yw rfl (y_concat · rfl rfl hk23) <| mw rfl <| yw rfl (y_concat · rfl rfl hk24) <| aw rfl fun a s => ?_
  apply wO
  refine p_inN ?_
  refine S s <| pw <| lw <| mw rfl <| yw rfl (y_addN (i := i_10) (j := 1) · rfl rfl (in64.2 (by omega))) <| aw rfl <| nw fun a s => ?_
  exact ⟨m1, Nat.lt_succ_self _, ⟨((s_9 ++ [32, 47, 32]) ++ r16.1), (i_10 + 1), hg, (by rw [List.length_append]; omega), (s.sb rfl rfl rfl)⟩⟩
 replace hg := br_f hg hc11
 apply wp_exit
 refine p_then ?_
 refine p_then ?_
 refine p_in ?_
 obtain ⟨hk25, hg⟩ := chk_some hg
 refine S s <| pw <| sw <| lw <| mw rfl <| yw rfl (y_concat · rfl rfl hk25) <| aw rfl <| nw fun a s => ?_
 apply wp_ret
 obtain rfl := Option.some.inj hg
 refine fin1 (fn := Tryz.f89) s rfl (r_tmp s rfl) ?_
 exact ⟨rfl, (by rw [List.length_append]; omega)⟩
set_option maxHeartbeats 1000000 in
theorem c_r21_defs (n : Nat) (M : Bs) (w0 : World) (hM : ∀ b, M b → b < w0.heap.size) (what_ : (List UInt8)) (lp01 : (what_).length ≤ 9223372036854775807) (l_ : (List Def)) (Ap11 : Option Addr) (cp11 : Nat) (hp11 : sR RDef M w0 Ap11 cp11 l_) (r : (List UInt8)) (hg : r21_defs n what_ l_ = some r) :
    Calls Tryz.prog 87 [vT what_, sl Ap11 l_ cp11].toArray w0 (Ret noB w0 fun v w => v = vT r ∧ ((r).length ≤ 9223372036854775807)) := by
 unfold r21_defs at hg
 refine enter M noB func87 rfl rfl hM ?_
 intro a s
 refine S s <| esw 101 hp11 <| vw <| aw rfl <| nw <| vw <| aw rfl <| nw <| sw <| vw <| aw rfl <| nw <| bw fun a s => ?_
 refine c_loop (σ := Nat) (fun m1 a w => ∃ (s_1 : (List UInt8)) (i_2 : Nat), r21_defs_L0 n what_ l_ m1 s_1 i_2 = some r ∧ ((s_1).length ≤ 9223372036854775807) ∧ St (cx f87 M w0) [(0, vT what_), (1, sl Ap11 l_ cp11), (5, vT s_1), (6, vI (((i_2 : Nat) : Int)))] [] [(101, sF RDef Ap11 cp11 l_)] a w) (fun m1 => m1) n ⟨([]), (0), hg, (Nat.le_of_ble_eq_true (by rfl)), (s.sb rfl rfl rfl)⟩ ?_
 clear s a; rintro m1 a w ⟨s_1, i_2, hg, ls_1, s⟩
 rcases m1 with _ | m1
 ·rw [r21_defs_L0] at hg; cases hg
 rw [r21_defs_L0] at hg
 refine S s <| sw <| vw <| mw rfl <| mw rfl <| yw rfl (y_lenSlice · rfl underlying33) <| yw rfl (y_lssN (i := i_2) (j := ((l_).length)) · rfl rfl) <| nw fun a s => c_dec s rfl (fun hc3 => ?_) (fun hc3 => ?_)
 ·replace hg := br_t hg hc3
  have hmx4 := SlR.mx (s.ft 101 rfl)
  obtain ⟨hk5, hg⟩ := chk_some hg
  obtain ⟨x7, hx7, hg⟩ := bind_some hg
  obtain ⟨hk9, hg⟩ := chk_some hg
  obtain ⟨r12, hr12, hg⟩ := bind_some hg
  obtain ⟨hk15, hg⟩ := chk_some hg
  refine S s <| kw <| pw <| sw <| bw fun a s => ?_
  refine d_plan s [] [(0, some 0), (1, some 0), (2, some 0), (3, some 0), (4, some 0), (5, some 0), (6, some 0), (7, some 0), (8, some 0), (9, some 0), (10, some 0), (11, some 0), (12, some 0), (13, none), (14, none), (15, none)] rfl (by kernel_rfl) (by kernel_rfl) rfl ?_; clear s; intro wr hZ s; have hR := s.wd
  refine S s <| qw hR rfl (y_move · rfl) <| qw hR rfl (y_move · rfl) <| qw hR rfl (y_concat · rfl rfl hk5) <| qw hR rfl (y_move · rfl) <| qw hR rfl (y_move · rfl) fun a s => ?_
  obtain ⟨p16, hep16, hlq17, hmq17, csq17, hdq17, hcq17⟩ := SlR.elemX (s.ft 101 rfl) hx7
  refine S s <| qw hR rfl (y_elem (sz := 6) (i := i_2) · rfl rfl underlying33 rfl hep16 rfl (lt_of_get hx7)) <| qw hR rfl (y_ptrField (o' := 0) · rfl underlying62 rfl rfl rfl) fun a s => ?_
  obtain ⟨Aq174, cq174, Aq175, cq175, Aq176, cq176, rfl, lq171, lq173, hq174, hq175, hq176⟩ := RDef.open hdq17
  refine S s <| nsw 108 hq174 <| nsw 109 hq175 <| nsw 110 hq176 <| qw hR rfl (y_ldp1 · rfl hlq17 hmq17 (hcq17 0 _ rfl) underlying9 rfl) <| qw hR rfl (y_concat · rfl rfl hk9) <| qw hR rfl (y_move · rfl) <| qw hR rfl (y_move · rfl) fun a s => ?_
  obtain ⟨p18, hep18, hlq19, hmq19, csq19, hdq19, hcq19⟩ := SlR.elemX (s.ft 101 rfl) hx7
  refine qt s hR rfl (y_elem (sz := 6) (i := i_2) s rfl rfl underlying33 rfl hep18 rfl (lt_of_get hx7)) fun a s => ?_
  obtain ⟨Aq194, cq194, Aq195, cq195, Aq196, cq196, rfl, lq191, lq193, hq194, hq195, hq196⟩ := RDef.open hdq19
  refine S s <| nsw 111 hq194 <| nsw 112 hq195 <| nsw 113 hq196 <| qw hR rfl (y_ldp · rfl hlq19 hmq19 (by simpa using hcq19) underlying62 rfl rfl) fun a s => ?_
  refine l_take s rfl rfl (l_call (cap := []) s rfl func89 rfl (by kernel_rfl) rfl rfl (c_r21_defined n _ _ s.lt _ _ _ _ _ _ _ (by omega) (by omega) (s.ft 111 rfl) (s.ft 112 rfl) (s.ft 113 rfl) _ hr12) fun v20 a w hK hp s => ?_)
  replace hZ := Nat.le_trans hZ hK.size; refine ⟨fun g _ h => h.grow hK, ?_⟩; clear hK
  obtain ⟨rfl, lu21a1⟩ := hp
  refine S s <| tw rfl (y_concat · rfl rfl hk15) <| tw rfl (y_assign · rfl) fun a s => ?_
  clear hR hZ
  refine p_inN ?_
  refine S s <| pw <| lw <| mw rfl <| yw rfl (y_addN (i := i_2) (j := 1) · rfl rfl (in64.2 (by omega))) <| aw rfl <| nw fun a s => ?_
  exact ⟨m1, Nat.lt_succ_self _, ⟨(((s_1 ++ what_) ++ x7.Name) ++ r12), (i_2 + 1), hg, (by rw [List.length_append]; omega), (s.sb rfl rfl rfl)⟩⟩
 replace hg := br_f hg hc3
 apply wp_exit
 refine p_then ?_
 refine p_then ?_
 refine p_in ?_
 refine S s <| pw <| vw <| mw rfl <| aw rfl <| nw fun a s => ?_
 apply wp_ret
 obtain rfl := Option.some.inj hg
 refine fin1 (fn := Tryz.f87) s rfl (r_tmp s rfl) ?_
 exact ⟨rfl, (by omega)⟩
set_option maxHeartbeats 1000000 in
theorem c_r21_affixed (n : Nat) (M : Bs) (w0 : World) (hM : ∀ b, M b → b < w0.heap.size) (a_ : Affix) (Ap02 : Option Addr) (cp02 : Nat) (hp02 : sR RChange M w0 Ap02 cp02 a_.Pairs) (r : (List UInt8)) (hg : r21_affixed n a_ = some r) :
    Calls Tryz.prog 90 [.agg #[.int .i64 (a_.Kind), sl Ap02 a_.Pairs cp02]].toArray w0 (Ret noB w0 fun v w => v = vT r ∧ ((r).length ≤ 9223372036854775807)) := by
 unfold r21_affixed at hg
 refine enter M noB func90 rfl rfl hM ?_
 intro a s
 replace s := s.es 101 hp02
 apply wR
 refine l_seq rfl (l_box (zs := [vI a_.Kind, sl Ap02 a_.Pairs cp02]) s 1000 rfl rfl rfl rfl fun b2 a w hb hK s => ?_)
 refine S s <| aw rfl <| nw <| vw <| aw rfl <| nw <| sw <| vw <| yw rfl (y_boxField (o' := 0) · rfl underlying92 rfl rfl rfl) <| yw rfl (y_loadBox1 (kk := 1000) · rfl rfl rfl underlying3 rfl) <| nw fun a s => ?_
 obtain ⟨k3, hg, hk3⟩ := jn_some hg
 refine c_post (fun a w => ∃ (s_4 : (List UInt8)), k3 s_4 = some r ∧ ((s_4).length ≤ 9223372036854775807) ∧ St (cx f90 M w0) [(1, vP b2 0), (3, vT s_4)] [(1000, Ob.box b2 [vI a_.Kind, sl Ap02 a_.Pairs cp02] 92)] [(101, sF RChange Ap02 cp02 a_.Pairs)] a w) ?_ ?_
 ·refine S s <| bw <| vw <| yw rfl (y_eql · rfl rfl) <| aw rfl <| nw fun a s => c_dec s rfl (fun hc5 => ?_) (fun hc5 => ?_)
  ·replace hg := br_t hg hc5
   refine S s <| vw <| aw rfl <| nw fun a s => ?_
   apply wp_ret
   refine p_inR ?_
   refine p_thenR ?_
   obtain rfl := Option.some.inj hg
   refine fin1 (fn := Tryz.f90) s rfl (r_tmp s rfl) ?_
   exact ⟨rfl, (Nat.le_of_ble_eq_true (by rfl))⟩
  replace hg := br_f hg hc5
  refine S s <| vw <| yw rfl (y_eql · rfl rfl) <| aw rfl <| nw fun a s => c_dec s rfl (fun hc6 => ?_) (fun hc6 => ?_)
  ·replace hg := br_t hg hc6
   refine S s <| lw <| aw rfl fun a s => ?_
   apply wO
   refine p_inN ?_
   apply pN
   exact ⟨([115, 117, 102, 102, 105, 120]), hg, (Nat.le_of_ble_eq_true (by rfl)), (s.sb rfl rfl rfl)⟩
  replace hg := br_f hg hc6
  apply wp_skip
  refine p_inN ?_
  apply pN
  exact ⟨([112, 114, 101, 102, 105, 120]), hg, (Nat.le_of_ble_eq_true (by rfl)), (s.sb rfl rfl rfl)⟩
 clear s a; rintro a w ⟨s_4, hg, ls_4, s⟩
 subst hk3
 refine S s <| sw <| vw <| aw rfl <| nw <| bw fun a s => ?_
 refine c_loop (σ := Nat) (fun m1 a w => ∃ (s_7 : (List UInt8)) (i_8 : Nat), r21_affixed_L0 n a_ m1 s_7 i_8 = some r ∧ ((s_7).length ≤ 9223372036854775807) ∧ St (cx f90 M w0) [(1, vP b2 0), (3, vT s_7), (4, vI (((i_8 : Nat) : Int)))] [(1000, Ob.box b2 [vI a_.Kind, sl Ap02 a_.Pairs cp02] 92)] [(101, sF RChange Ap02 cp02 a_.Pairs)] a w) (fun m1 => m1) n ⟨(s_4), (0), hg, (by omega), (s.sb rfl rfl rfl)⟩ ?_
 clear s a; rintro m1 a w ⟨s_7, i_8, hg, ls_7, s⟩
 rcases m1 with _ | m1
 ·rw [r21_affixed_L0] at hg; cases hg
 rw [r21_affixed_L0] at hg
 refine S s <| sw <| vw <| mw rfl <| yw rfl (y_boxField (o' := 1) · rfl underlying92 rfl rfl rfl) <| yw rfl (y_loadBox1 (kk := 1000) · rfl rfl rfl underlying90 rfl) <| yw rfl (y_lenSlice · rfl underlying90) <| yw rfl (y_lssN (i := i_8) (j := ((a_.Pairs).length)) · rfl rfl) <| nw fun a s => c_dec s rfl (fun hc9 => ?_) (fun hc9 => ?_)
 ·replace hg := br_t hg hc9
  have hmx10 := SlR.mx (s.ft 101 rfl)
  refine S s <| kw <| pw <| sw <| bw <| sw <| vw <| mw rfl <| yw rfl (y_gtrN (i := i_8) (j := 0) · rfl rfl) <| nw fun a s => ?_
  obtain ⟨k11, hg, hk11⟩ := jn_some hg
  refine c_post (fun a w => ∃ (s_12 : (List UInt8)), k11 s_12 = some r ∧ ((s_12).length ≤ 9223372036854775807) ∧ St (cx f90 M w0) [(1, vP b2 0), (3, vT s_12), (4, vI (((i_8 : Nat) : Int)))] [(1000, Ob.box b2 [vI a_.Kind, sl Ap02 a_.Pairs cp02] 92)] [(101, sF RChange Ap02 cp02 a_.Pairs)] a w) ?_ ?_
  ·refine c_dec s rfl (fun hc13 => ?_) (fun hc13 => ?_)
   ·replace hg := br_t hg hc13
    obtain ⟨hk14, hg⟩ := chk_some hg
    refine S s <| lw <| mw rfl <| yw rfl (y_concat · rfl rfl hk14) <| aw rfl <| nw fun a s => ?_
    exact ⟨(s_7 ++ [44]), hg, (by rw [List.length_append]; omega), (s.sb rfl rfl rfl)⟩
   replace hg := br_f hg hc13
   apply wp_skip
   apply pN
   exact ⟨(s_7), hg, (by omega), (s.sb rfl rfl rfl)⟩
  clear s a; rintro a w ⟨s_12, hg, ls_12, s⟩
  subst hk11
  obtain ⟨hk15, hg⟩ := chk_some hg
  obtain ⟨x17, hx17, hg⟩ := bind_some hg
  obtain ⟨hk19, hg⟩ := chk_some hg
  obtain ⟨hk20, hg⟩ := chk_some hg
  obtain ⟨hk23, hg⟩ := chk_some hg
  obtain ⟨hk24, hg⟩ := chk_some hg
  refine d_plan s [] [(0, some 0), (1, some 0), (2, some 0), (3, some 1000), (4, some 0), (5, some 0), (6, some 0), (7, some 0), (8, some 0), (9, some 0), (10, some 0), (11, some 1000), (12, some 0), (13, some 0), (14, some 0), (15, some 0), (16, some 0), (17, some 0), (18, some 0)] rfl (by kernel_rfl) (by kernel_rfl) rfl ?_; clear s; intro wr hZ s; have hR := s.wd
  refine S s <| qw hR rfl (y_move · rfl) <| qw hR rfl (y_concat · rfl rfl hk15) <| qw hR rfl (y_boxField (o' := 1) · rfl underlying92 rfl rfl rfl) <| qw hR rfl (y_loadBox1 (kk := 1000) · rfl rfl rfl underlying90 rfl) <| qw hR rfl (y_move · rfl) fun a s => ?_
  obtain ⟨p25, hep25, hlq26, hmq26, csq26, hdq26, hcq26⟩ := SlR.elemX (s.ft 101 rfl) hx17
  refine S s <| qw hR rfl (y_elem (sz := 2) (i := i_8) · rfl rfl underlying90 rfl hep25 rfl (lt_of_get hx17)) <| qw hR rfl (y_ptrField (o' := 0) · rfl underlying144 rfl rfl rfl) fun a s => ?_
  obtain ⟨rfl, lq261, lq262⟩ := RChange.open hdq26
  refine S s <| qw hR rfl (y_ldp1 · rfl hlq26 hmq26 (hcq26 0 _ rfl) underlying9 rfl) <| qw hR rfl (y_concat · rfl rfl hk19) <| qw hR rfl (y_concat · rfl rfl hk20) <| qw hR rfl (y_boxField (o' := 1) · rfl underlying92 rfl rfl rfl) <| qw hR rfl (y_loadBox1 (kk := 1000) · rfl rfl rfl underlying90 rfl) <| qw hR rfl (y_move · rfl) fun a s => ?_
  obtain ⟨p27, hep27, hlq28, hmq28, csq28, hdq28, hcq28⟩ := SlR.elemX (s.ft 101 rfl) hx17
  refine S s <| qw hR rfl (y_elem (sz := 2) (i := i_8) · rfl rfl underlying90 rfl hep27 rfl (lt_of_get hx17)) <| qw hR rfl (y_ptrField (o' := 1) · rfl underlying144 rfl rfl rfl) fun a s => ?_
  obtain ⟨rfl, lq281, lq282⟩ := RChange.open hdq28
  refine S s <| qw hR rfl (y_ldp1 · rfl hlq28 hmq28 (hcq28 1 _ rfl) underlying9 rfl) <| qw hR rfl (y_concat · rfl rfl hk23) <| qw hR rfl (y_concat · rfl rfl hk24) <| qw hR rfl (y_assign · rfl) fun a s => ?_
  clear hR hZ
  refine p_inN ?_
  refine S s <| pw <| lw <| mw rfl <| yw rfl (y_addN (i := i_8) (j := 1) · rfl rfl (in64.2 (by omega))) <| aw rfl <| nw fun a s => ?_
  exact ⟨m1, Nat.lt_succ_self _, ⟨(((((s_12 ++ [32, 34]) ++ x17.Old) ++ [34, 32, 34]) ++ x17.New) ++ [34]), (i_8 + 1), hg, (by rw [List.length_append]; omega), (s.sb rfl rfl rfl)⟩⟩
 replace hg := br_f hg hc9
 apply wp_exit
 refine p_then ?_
 refine p_then ?_
 refine p_in ?_
 refine S s <| pw <| vw <| mw rfl <| aw rfl <| nw fun a s => ?_
 apply wp_ret
 obtain rfl := Option.some.inj hg
 refine fin1 (fn := Tryz.f90) s rfl (r_tmp s rfl) ?_
 exact ⟨rfl, (by omega)⟩
set_option maxHeartbeats 1000000 in
theorem c_r21_module (n : Nat) (M : Bs) (w0 : World) (hM : ∀ b, M b → b < w0.heap.size) (t_ : Module) (Ap02 : Option Addr) (cp02 : Nat) (Ap03 : Option Addr) (cp03 : Nat) (Ap04 : Option Addr) (cp04 : Nat) (Ap05 : Option Addr) (cp05 : Nat) (Ap06 : Option Addr) (cp06 : Nat) (Ap07 : Option Addr) (cp07 : Nat) (Ap08 : Option Addr) (cp08 : Nat) (Ap09 : Option Addr) (cp09 : Nat) (Ap010 : Option Addr) (cp010 : Nat) (lp01 : (t_.Name).length ≤ 9223372036854775807) (hp02 : sR Rep.str M w0 Ap02 cp02 t_.Imports) (hp03 : sR RTypeDecl M w0 Ap03 cp03 t_.Types) (hp04 : sR RDef M w0 Ap04 cp04 t_.Templates) (hp05 : sR REntryDecl M w0 Ap05 cp05 t_.Entries) (hp06 : sR RLexDecl M w0 Ap06 cp06 t_.LexRules) (hp07 : sR RDef M w0 Ap07 cp07 t_.Rules) (hp08 : sR RDef M w0 Ap08 cp08 t_.Roots) (hp09 : sR (Rep.list Rep.str) M w0 Ap09 cp09 t_.Checks) (hp010 : sR Rep.str M w0 Ap010 cp010 t_.Drops) (r : (List UInt8)) (hg : r21_module n t_ = some r) :
    Calls Tryz.prog 54 [.agg #[vT t_.Name, sl Ap02 t_.Imports cp02, sl Ap03 t_.Types cp03, sl Ap04 t_.Templates cp04, sl Ap05 t_.Entries cp05, sl Ap06 t_.LexRules cp06, sl Ap07 t_.Rules cp07, sl Ap08 t_.Roots cp08, sl Ap09 t_.Checks cp09, sl Ap010 t_.Drops cp010]].toArray w0 (Ret noB w0 fun v w => v = vT r ∧ ((r).length ≤ 9223372036854775807)) := by
 unfold r21_module at hg
 refine enter M noB func54 rfl rfl hM ?_
 intro a s
 let F : Al Fact := [(101, sF Rep.str Ap02 cp02 t_.Imports), (102, sF RTypeDecl Ap03 cp03 t_.Types), (103, sF RDef Ap04 cp04 t_.Templates), (104, sF REntryDecl Ap05 cp05 t_.Entries), (105, sF RLexDecl Ap06 cp06 t_.LexRules), (106, sF RDef Ap07 cp07 t_.Rules), (107, sF RDef Ap08 cp08 t_.Roots), (108, sF (Rep.list Rep.str) Ap09 cp09 t_.Checks), (109, sF Rep.str Ap010 cp010 t_.Drops)]
 let B : List Value := [vT t_.Name, sl Ap02 t_.Imports cp02, sl Ap03 t_.Types cp03, sl Ap04 t_.Templates cp04, sl Ap05 t_.Entries cp05, sl Ap06 t_.LexRules cp06, sl Ap07 t_.Rules cp07, sl Ap08 t_.Roots cp08, sl Ap09 t_.Checks cp09, sl Ap010 t_.Drops cp010]
 refine S s <| esw 101 hp02 <| esw 102 hp03 <| esw 103 hp04 <| esw 104 hp05 <| esw 105 hp06 <| esw 106 hp07 <| esw 107 hp08 <| esw 108 hp09 <| esw 109 hp010 <| vw fun a s => ?_
 refine l_seq rfl (l_box (zs := B) s 1000 rfl rfl rfl rfl fun b2 a w hb hK s => ?_)
 obtain ⟨hk3, hg⟩ := chk_some hg
 obtain ⟨hk4, hg⟩ := chk_some hg
 refine S s <| aw rfl <| nw <| sw <| lw <| yw rfl (y_boxField (o' := 0) · rfl underlying38 rfl rfl rfl) <| yw rfl (y_loadBox1 (kk := 1000) · rfl rfl rfl underlying9 rfl) <| yw rfl (y_concat · rfl rfl hk3) <| yw rfl (y_concat · rfl rfl hk4) <| aw rfl <| nw <| sw <| vw <| aw rfl <| nw fun a s => ?_
 obtain ⟨k5, hg, hk5⟩ := jn_some hg
 refine c_post (fun a w => ∃ (t_6 : (List UInt8)), k5 t_6 = some r ∧ ((t_6).length ≤ 9223372036854775807) ∧ St (cx f54 M w0) [(1, vP b2 0), (3, vT t_6)] [(1000, Ob.box b2 B 38)] F a w) ?_ ?_
 ·apply wp_block
  refine c_loop (σ := Nat) (fun m1 a w => ∃ (t_7 : (List UInt8)) (t_8 : Nat), r21_module_L0 n t_ k5 m1 t_7 t_8 = some r ∧ ((t_7).length ≤ 9223372036854775807) ∧ St (cx f54 M w0) [(1, vP b2 0), (3, vT t_7), (4, vI (((t_8 : Nat) : Int)))] [(1000, Ob.box b2 B 38)] F a w) (fun m1 => m1) n ⟨(([109, 111, 100, 117, 108, 101, 32] ++ t_.Name) ++ [59, 10]), (0), hg, (by rw [List.length_append]; omega), (s.sb rfl rfl rfl)⟩ ?_
  clear s a; rintro m1 a w ⟨t_7, t_8, hg, lt_7, s⟩
  rcases m1 with _ | m1
  ·rw [r21_module_L0] at hg; cases hg
  rw [r21_module_L0] at hg
  refine S s <| sw <| vw <| mw rfl <| yw rfl (y_boxField (o' := 1) · rfl underlying38 rfl rfl rfl) <| yw rfl (y_loadBox1 (kk := 1000) · rfl rfl rfl underlying25 rfl) <| yw rfl (y_lenSlice · rfl underlying25) <| yw rfl (y_lssN (i := t_8) (j := ((t_.Imports).length)) · rfl rfl) <| nw fun a s => c_dec s rfl (fun hc9 => ?_) (fun hc9 => ?_)
  ·replace hg := br_t hg hc9
   have hmx10 := SlR.mx (s.ft 101 rfl)
   obtain ⟨hk11, hg⟩ := chk_some hg
   obtain ⟨x13, hx13, hg⟩ := bind_some hg
   obtain ⟨hk15, hg⟩ := chk_some hg
   obtain ⟨hk16, hg⟩ := chk_some hg
   refine S s <| kw <| pw <| sw <| bw <| lw <| mw rfl <| yw rfl (y_concat · rfl rfl hk11) <| yw rfl (y_boxField (o' := 1) · rfl underlying38 rfl rfl rfl) <| yw rfl (y_loadBox1 (kk := 1000) · rfl rfl rfl underlying25 rfl) <| mw rfl fun a s => ?_
   obtain ⟨p17, hep17, hlq18, hmq18, csq18, hdq18, hcq18⟩ := SlR.elemX (s.ft 101 rfl) hx13
   refine qq s rfl (y_elem (sz := 1) (i := t_8) s rfl rfl underlying25 rfl hep17 rfl (lt_of_get hx13)) fun a s => ?_
   obtain ⟨rfl, lq181⟩ := hdq18
   refine S s <| yw rfl (y_ldp1 · rfl hlq18 hmq18 (hcq18 0 _ rfl) underlying9 rfl) <| yw rfl (y_concat · rfl rfl hk15) <| yw rfl (y_concat · rfl rfl hk16) <| aw rfl fun a s => ?_
   apply wO
   refine p_inN ?_
   refine S s <| pw <| lw <| mw rfl <| yw rfl (y_addN (i := t_8) (j := 1) · rfl rfl (in64.2 (by omega))) <| aw rfl <| nw fun a s => ?_
   exact ⟨m1, Nat.lt_succ_self _, ⟨(((t_7 ++ [105, 109, 112, 111, 114, 116, 32]) ++ x13) ++ [59, 10]), (t_8 + 1), hg, (by rw [List.length_append]; omega), (s.sb rfl rfl rfl)⟩⟩
  replace hg := br_f hg hc9
  apply wp_exit
  refine p_then ?_
  refine p_then ?_
  refine p_in ?_
  apply pN
  exact ⟨(t_7), hg, (by omega), (s.sb rfl rfl rfl)⟩
 clear s a; rintro a w ⟨t_6, hg, lt_6, s⟩
 subst hk5
 refine S s <| sw <| vw <| aw rfl <| nw fun a s => ?_
 obtain ⟨k19, hg, hk19⟩ := jn_some hg
 refine c_post (fun a w => ∃ (t_20 : (List UInt8)), k19 t_20 = some r ∧ ((t_20).length ≤ 9223372036854775807) ∧ St (cx f54 M w0) [(1, vP b2 0), (3, vT t_20)] [(1000, Ob.box b2 B 38)] F a w) ?_ ?_
 ·apply wp_block
  refine c_loop (σ := Nat) (fun m2 a w => ∃ (t_21 : (List UInt8)) (t_22 : Nat), r21_module_L1 n t_ k19 m2 t_21 t_22 = some r ∧ ((t_21).length ≤ 9223372036854775807) ∧ St (cx f54 M w0) [(1, vP b2 0), (3, vT t_21), (5, vI (((t_22 : Nat) : Int)))] [(1000, Ob.box b2 B 38)] F a w) (fun m2 => m2) n ⟨(t_6), (0), hg, (by omega), (s.sb rfl rfl rfl)⟩ ?_
  clear s a; rintro m2 a w ⟨t_21, t_22, hg, lt_21, s⟩
  rcases m2 with _ | m2
  ·rw [r21_module_L1] at hg; cases hg
  rw [r21_module_L1] at hg
  refine S s <| sw <| vw <| mw rfl <| yw rfl (y_boxField (o' := 2) · rfl underlying38 rfl rfl rfl) <| yw rfl (y_loadBox1 (kk := 1000) · rfl rfl rfl underlying32 rfl) <| yw rfl (y_lenSlice · rfl underlying32) <| yw rfl (y_lssN (i := t_22) (j := ((t_.Types).length)) · rfl rfl) <| nw fun a s => c_dec s rfl (fun hc23 => ?_) (fun hc23 => ?_)
  ·replace hg := br_t hg hc23
   have hmx24 := SlR.mx (s.ft 102 rfl)
   obtain ⟨x26, hx26, hg⟩ := bind_some hg
   obtain ⟨r28, hr28, hg⟩ := bind_some hg
   obtain ⟨hk31, hg⟩ := chk_some hg
   refine S s <| kw <| pw <| sw <| bw <| lw <| mw rfl <| yw rfl (y_boxField (o' := 2) · rfl underlying38 rfl rfl rfl) <| yw rfl (y_loadBox1 (kk := 1000) · rfl rfl rfl underlying32 rfl) <| mw rfl fun a s => ?_
   obtain ⟨p32, hep32, hlq33, hmq33, csq33, hdq33, hcq33⟩ := SlR.elemX (s.ft 102 rfl) hx26
   refine qq s rfl (y_elem (sz := 3) (i := t_22) s rfl rfl underlying32 rfl hep32 rfl (lt_of_get hx26)) fun a s => ?_
   obtain ⟨Aq332, cq332, Aq333, cq333, rfl, lq331, hq332, hq333⟩ := RTypeDecl.open hdq33
   refine S s <| nsw 112 hq332 <| nsw 113 hq333 <| yw rfl (y_ldp · rfl hlq33 hmq33 (by simpa using hcq33) underlying49 rfl rfl) fun a s => ?_
   refine lC s rfl func86 (c_r21_typed n _ _ s.lt _ _ _ _ _ (by omega) (s.ft 112 rfl) (s.ft 113 rfl) _ hr28) fun v34 a w hK hp s => ?_
   obtain ⟨rfl, lu35a1⟩ := hp
   refine S s <| yw rfl (y_concat · rfl rfl hk31) <| aw rfl fun a s => ?_
   apply wO
   refine p_inN ?_
   refine S s <| pw <| lw <| mw rfl <| yw rfl (y_addN (i := t_22) (j := 1) · rfl rfl (in64.2 (by omega))) <| aw rfl <| nw fun a s => ?_
   exact ⟨m2, Nat.lt_succ_self _, ⟨(t_21 ++ r28), (t_22 + 1), hg, (by rw [List.length_append]; omega), (s.sb rfl rfl rfl)⟩⟩
  replace hg := br_f hg hc23
  apply wp_exit
  refine p_then ?_
  refine p_then ?_
  refine p_in ?_
  apply pN
  exact ⟨(t_21), hg, (by omega), (s.sb rfl rfl rfl)⟩
 clear s a; rintro a w ⟨t_20, hg, lt_20, s⟩
 subst hk19
 obtain ⟨r36, hr36, hg⟩ := bind_some hg
 obtain ⟨hk39, hg⟩ := chk_some hg
 refine S s <| sw <| lw <| mw rfl <| yw rfl (y_boxField (o' := 3) · rfl underlying38 rfl rfl rfl) <| yw rfl (y_loadBox1 (kk := 1000) · rfl rfl rfl underlying33 rfl) fun a s => ?_
 refine lC s rfl func87 (c_r21_defs n _ _ s.lt _ (Nat.le_of_ble_eq_true (by rfl)) _ _ _ (s.ft 103 rfl) _ hr36) fun v40 a w hK hp s => ?_
 obtain ⟨rfl, lu41a1⟩ := hp
 refine S s <| yw rfl (y_concat · rfl rfl hk39) <| aw rfl <| nw <| sw <| vw <| aw rfl <| nw fun a s => ?_
 obtain ⟨k42, hg, hk42⟩ := jn_some hg
 refine c_post (fun a w => ∃ (t_43 : (List UInt8)), k42 t_43 = some r ∧ ((t_43).length ≤ 9223372036854775807) ∧ St (cx f54 M w0) [(1, vP b2 0), (3, vT t_43)] [(1000, Ob.box b2 B 38)] F a w) ?_ ?_
 ·apply wp_block
  refine c_loop (σ := Nat) (fun m3 a w => ∃ (t_44 : (List UInt8)) (t_45 : Nat), r21_module_L2 n t_ k42 m3 t_44 t_45 = some r ∧ ((t_44).length ≤ 9223372036854775807) ∧ St (cx f54 M w0) [(1, vP b2 0), (3, vT t_44), (6, vI (((t_45 : Nat) : Int)))] [(1000, Ob.box b2 B 38)] F a w) (fun m3 => m3) n ⟨(t_20 ++ r36), (0), hg, (by rw [List.length_append]; omega), (s.sb rfl rfl rfl)⟩ ?_
  clear s a; rintro m3 a w ⟨t_44, t_45, hg, lt_44, s⟩
  rcases m3 with _ | m3
  ·rw [r21_module_L2] at hg; cases hg
  rw [r21_module_L2] at hg
  refine S s <| sw <| vw <| mw rfl <| yw rfl (y_boxField (o' := 4) · rfl underlying38 rfl rfl rfl) <| yw rfl (y_loadBox1 (kk := 1000) · rfl rfl rfl underlying34 rfl) <| yw rfl (y_lenSlice · rfl underlying34) <| yw rfl (y_lssN (i := t_45) (j := ((t_.Entries).length)) · rfl rfl) <| nw fun a s => c_dec s rfl (fun hc46 => ?_) (fun hc46 => ?_)
  ·replace hg := br_t hg hc46
   have hmx47 := SlR.mx (s.ft 104 rfl)
   obtain ⟨hk48, hg⟩ := chk_some hg
   obtain ⟨x50, hx50, hg⟩ := bind_some hg
   obtain ⟨hk52, hg⟩ := chk_some hg
   obtain ⟨hk53, hg⟩ := chk_some hg
   obtain ⟨r56, hr56, hg⟩ := bind_some hg
   obtain ⟨hk59, hg⟩ := chk_some hg
   obtain ⟨hk60, hg⟩ := chk_some hg
   obtain ⟨r63, hr63, hg⟩ := bind_some hg
   obtain ⟨hk66, hg⟩ := chk_some hg
   refine S s <| kw <| pw <| sw <| bw fun a s => ?_
   refine d_steps s [] rfl ?_; clear s; intro wr hZ s; have hR := s.wd
   refine S s <| nqw 0 0 hR rfl (y_move · rfl) <| nqw 1 0 hR rfl (y_concat · rfl rfl hk48) <| nqw 2 0 hR rfl (y_boxField (o' := 4) · rfl underlying38 rfl rfl rfl) <| nqw 3 1000 hR rfl (y_loadBox1 (kk := 1000) · rfl rfl rfl underlying34 rfl) <| nqw 4 0 hR rfl (y_move · rfl) fun a s => ?_
   obtain ⟨p67, hep67, hlq68, hmq68, csq68, hdq68, hcq68⟩ := SlR.elemX (s.ft 104 rfl) hx50
   refine S s <| nqw 5 0 hR rfl (y_elem (sz := 7) (i := t_45) · rfl rfl underlying34 rfl hep67 rfl (lt_of_get hx50)) <| nqw 6 0 hR rfl (y_ptrField (o' := 1) · rfl underlying89 rfl rfl rfl) <| nqw 7 0 hR rfl (y_ptrField (o' := 1) · rfl underlying62 rfl rfl rfl) fun a s => ?_
   obtain ⟨Aq681, cq681, Aq685, cq685, Aq686, cq686, Aq687, cq687, rfl, hq681, lq682, lq684, hq685, hq686, hq687⟩ := REntryDecl.open hdq68
   refine S s <| nsw 126 hq681 <| nsw 127 hq685 <| nsw 128 hq686 <| nsw 129 hq687 <| nqw 8 0 hR rfl (y_ldp1 · rfl hlq68 hmq68 (hcq68 1 _ rfl) underlying9 rfl) <| nqw 9 0 hR rfl (y_concat · rfl rfl hk52) <| nqw 10 0 hR rfl (y_concat · rfl rfl hk53) <| nqw 11 0 hR rfl (y_boxField (o' := 4) · rfl underlying38 rfl rfl rfl) <| nqw 12 1000 hR rfl (y_loadBox1 (kk := 1000) · rfl rfl rfl underlying34 rfl) <| nqw 13 0 hR rfl (y_move · rfl) fun a s => ?_
   obtain ⟨p69, hep69, hlq70, hmq70, csq70, hdq70, hcq70⟩ := SlR.elemX (s.ft 104 rfl) hx50
   refine S s <| nqw 14 0 hR rfl (y_elem (sz := 7) (i := t_45) · rfl rfl underlying34 rfl hep69 rfl (lt_of_get hx50)) <| nqw 15 0 hR rfl (y_ptrField (o' := 0) · rfl underlying89 rfl rfl rfl) fun a s => ?_
   obtain ⟨Aq701, cq701, Aq705, cq705, Aq706, cq706, Aq707, cq707, rfl, hq701, lq702, lq704, hq705, hq706, hq707⟩ := REntryDecl.open hdq70
   refine S s <| nsw 130 hq701 <| nsw 131 hq705 <| nsw 132 hq706 <| nsw 133 hq707 <| nqw 16 0 hR rfl (y_ldp1 · rfl hlq70 hmq70 (hcq70 0 _ rfl) underlying25 rfl) <| nqw 20 0 hR rfl (y_boxField (o' := 4) · rfl underlying38 rfl rfl rfl) <| nqw 21 1000 hR rfl (y_loadBox1 (kk := 1000) · rfl rfl rfl underlying34 rfl) <| nqw 22 0 hR rfl (y_move · rfl) fun a s => ?_
   obtain ⟨p71, hep71, hlq72, hmq72, csq72, hdq72, hcq72⟩ := SlR.elemX (s.ft 104 rfl) hx50
   refine S s <| nqw 23 0 hR rfl (y_elem (sz := 7) (i := t_45) · rfl rfl underlying34 rfl hep71 rfl (lt_of_get hx50)) <| nqw 24 0 hR rfl (y_ptrField (o' := 1) · rfl underlying89 rfl rfl rfl) fun a s => ?_
   obtain ⟨Aq721, cq721, Aq725, cq725, Aq726, cq726, Aq727, cq727, rfl, hq721, lq722, lq724, hq725, hq726, hq727⟩ := REntryDecl.open hdq72
   refine S s <| nsw 134 hq721 <| nsw 135 hq725 <| nsw 136 hq726 <| nsw 137 hq727 <| nqw 25 0 hR rfl (y_ldp (cs := [vT x50.Def.Name, vI x50.Def.Strict.Op, vT x50.Def.Strict.Name, sl Aq725 x50.Def.Strict.Path cq725, sl Aq726 x50.Def.Strict.Kids cq726, sl Aq727 x50.Def.Defaults cq727]) · rfl hlq72 hmq72 (fun j v hj => hcq72 (1 + j) v (by rcases j with _ | (_ | (_ | (_ | (_ | (_ | _))))) <;> first | exact hj | cases hj)) underlying62 rfl rfl) fun a s => ?_
   refine nC 17 s rfl rfl func88 (c_r21_joined n _ _ s.lt _ _ _ (s.ft 130 rfl) _ (Nat.le_of_ble_eq_true (by rfl)) _ hr56) fun v73 a w hK hp s => ?_
   replace hZ := Nat.le_trans hZ hK.size; refine ⟨fun g _ h => h.grow hK, ?_⟩; clear hK
   obtain ⟨rfl, lu74a1⟩ := hp
   refine n_2 18 26 s (by kernel_rfl) rfl rfl rfl rfl ?_ ?_
   ·refine l_quiet s rfl rfl (y_concat s rfl rfl hk59) fun a s => ?_; refine ⟨fun g _ h => h, ?_⟩
    refine n_2 19 26 s (by kernel_rfl) rfl rfl rfl rfl ?_ ?_
    ·refine l_quiet s rfl rfl (y_concat s rfl rfl hk60) fun a s => ?_; refine ⟨fun g _ h => h, ?_⟩
     refine nC 26 s rfl rfl func89 (c_r21_defined n _ _ s.lt _ _ _ _ _ _ _ (by omega) (by omega) (s.ft 135 rfl) (s.ft 136 rfl) (s.ft 137 rfl) _ hr63) fun v75 a w hK hp s => ?_
     replace hZ := Nat.le_trans hZ hK.size; refine ⟨fun g _ h => h.grow hK, ?_⟩; clear hK
     obtain ⟨rfl, lu76a1⟩ := hp
     refine S s <| nzw 27 rfl (y_concat · rfl rfl hk66) <| nzw 28 rfl (y_assign · rfl) fun a s => ?_
     refine n_end (by kernel_rfl) ?_; clear hR hZ
     refine p_inN ?_
     refine S s <| pw <| lw <| mw rfl <| yw rfl (y_addN (i := t_45) (j := 1) · rfl rfl (in64.2 (by omega))) <| aw rfl <| nw fun a s => ?_
     exact ⟨m3, Nat.lt_succ_self _, ⟨((((((t_44 ++ [101, 110, 116, 114, 121, 32]) ++ x50.Def.Name) ++ [32, 34]) ++ r56) ++ [34]) ++ r63), (t_45 + 1), hg, (by rw [List.length_append]; omega), (s.sb rfl rfl rfl)⟩⟩
    ·refine l_call (cap := []) s rfl func89 rfl (by kernel_rfl) rfl rfl (c_r21_defined n _ _ s.lt _ _ _ _ _ _ _ (by omega) (by omega) (s.ft 135 rfl) (s.ft 136 rfl) (s.ft 137 rfl) _ hr63) fun v77 a w hK hp s => ?_
     replace hZ := Nat.le_trans hZ hK.size; refine ⟨fun g _ h => h.grow hK, ?_⟩; clear hK
     obtain ⟨rfl, lu78a1⟩ := hp
     refine S s <| nzw 19 rfl (y_concat · rfl rfl hk60) <| nzw 27 rfl (y_concat · rfl rfl hk66) <| nzw 28 rfl (y_assign · rfl) fun a s => ?_
     refine n_end (by kernel_rfl) ?_; clear hR hZ
     refine p_inN ?_
     refine S s <| pw <| lw <| mw rfl <| yw rfl (y_addN (i := t_45) (j := 1) · rfl rfl (in64.2 (by omega))) <| aw rfl <| nw fun a s => ?_
     exact ⟨m3, Nat.lt_succ_self _, ⟨((((((t_44 ++ [101, 110, 116, 114, 121, 32]) ++ x50.Def.Name) ++ [32, 34]) ++ r56) ++ [34]) ++ r63), (t_45 + 1), hg, (by rw [List.length_append]; omega), (s.sb rfl rfl rfl)⟩⟩
   ·refine l_call (cap := []) s rfl func89 rfl (by kernel_rfl) rfl rfl (c_r21_defined n _ _ s.lt _ _ _ _ _ _ _ (by omega) (by omega) (s.ft 135 rfl) (s.ft 136 rfl) (s.ft 137 rfl) _ hr63) fun v79 a w hK hp s => ?_
    replace hZ := Nat.le_trans hZ hK.size; refine ⟨fun g _ h => h.grow hK, ?_⟩; clear hK
    obtain ⟨rfl, lu80a1⟩ := hp
    refine S s <| nzw 18 rfl (y_concat · rfl rfl hk59) <| nzw 19 rfl (y_concat · rfl rfl hk60) <| nzw 27 rfl (y_concat · rfl rfl hk66) <| nzw 28 rfl (y_assign · rfl) fun a s => ?_
    refine n_end (by kernel_rfl) ?_; clear hR hZ
    refine p_inN ?_
    refine S s <| pw <| lw <| mw rfl <| yw rfl (y_addN (i := t_45) (j := 1) · rfl rfl (in64.2 (by omega))) <| aw rfl <| nw fun a s => ?_
    exact ⟨m3, Nat.lt_succ_self _, ⟨((((((t_44 ++ [101, 110, 116, 114, 121, 32]) ++ x50.Def.Name) ++ [32, 34]) ++ r56) ++ [34]) ++ r63), (t_45 + 1), hg, (by rw [List.length_append]; omega), (s.sb rfl rfl rfl)⟩⟩
  replace hg := br_f hg hc46
  apply wp_exit
  refine p_then ?_
  refine p_then ?_
  refine p_in ?_
  apply pN
  exact ⟨(t_44), hg, (by omega), (s.sb rfl rfl rfl)⟩
 clear s a; rintro a w ⟨t_43, hg, lt_43, s⟩
 subst hk42
 refine S s <| sw <| vw <| aw rfl <| nw fun a s => ?_
 obtain ⟨k81, hg, hk81⟩ := jn_some hg
 refine c_post (fun a w => ∃ (t_82 : (List UInt8)), k81 t_82 = some r ∧ ((t_82).length ≤ 9223372036854775807) ∧ St (cx f54 M w0) [(1, vP b2 0), (3, vT t_82)] [(1000, Ob.box b2 B 38)] F a w) ?_ ?_
 ·apply wp_block
  refine c_loop (σ := Nat) (fun m4 a w => ∃ (t_83 : (List UInt8)) (t_84 : Nat), r21_module_L3 n t_ k81 m4 t_83 t_84 = some r ∧ ((t_83).length ≤ 9223372036854775807) ∧ St (cx f54 M w0) [(1, vP b2 0), (3, vT t_83), (7, vI (((t_84 : Nat) : Int)))] [(1000, Ob.box b2 B 38)] F a w) (fun m4 => m4) n ⟨(t_43), (0), hg, (by omega), (s.sb rfl rfl rfl)⟩ ?_
  clear s a; rintro m4 a w ⟨t_83, t_84, hg, lt_83, s⟩
  rcases m4 with _ | m4
  ·rw [r21_module_L3] at hg; cases hg
  rw [r21_module_L3] at hg
  refine S s <| sw <| vw <| mw rfl <| yw rfl (y_boxField (o' := 5) · rfl underlying38 rfl rfl rfl) <| yw rfl (y_loadBox1 (kk := 1000) · rfl rfl rfl underlying35 rfl) <| yw rfl (y_lenSlice · rfl underlying35) <| yw rfl (y_lssN (i := t_84) (j := ((t_.LexRules).length)) · rfl rfl) <| nw fun a s => c_dec s rfl (fun hc85 => ?_) (fun hc85 => ?_)
  ·replace hg := br_t hg hc85
   have hmx86 := SlR.mx (s.ft 105 rfl)
   obtain ⟨hk87, hg⟩ := chk_some hg
   obtain ⟨x89, hx89, hg⟩ := bind_some hg
   obtain ⟨hk91, hg⟩ := chk_some hg
   obtain ⟨hk92, hg⟩ := chk_some hg
   obtain ⟨r95, hr95, hg⟩ := bind_some hg
   obtain ⟨hk98, hg⟩ := chk_some hg
   obtain ⟨r101, hr101, hg⟩ := bind_some hg
   obtain ⟨hk104, hg⟩ := chk_some hg
   refine S s <| kw <| pw <| sw <| bw fun a s => ?_
   refine d_steps s [] rfl ?_; clear s; intro wr hZ s; have hR := s.wd
   refine S s <| nqw 0 0 hR rfl (y_move · rfl) <| nqw 1 0 hR rfl (y_concat · rfl rfl hk87) <| nqw 2 0 hR rfl (y_boxField (o' := 5) · rfl underlying38 rfl rfl rfl) <| nqw 3 1000 hR rfl (y_loadBox1 (kk := 1000) · rfl rfl rfl underlying35 rfl) <| nqw 4 0 hR rfl (y_move · rfl) fun a s => ?_
   obtain ⟨p105, hep105, hlq106, hmq106, csq106, hdq106, hcq106⟩ := SlR.elemX (s.ft 105 rfl) hx89
   refine S s <| nqw 5 0 hR rfl (y_elem (sz := 8) (i := t_84) · rfl rfl underlying35 rfl hep105 rfl (lt_of_get hx89)) <| nqw 6 0 hR rfl (y_ptrField (o' := 2) · rfl underlying94 rfl rfl rfl) <| nqw 7 0 hR rfl (y_ptrField (o' := 2) · rfl underlying62 rfl rfl rfl) fun a s => ?_
   obtain ⟨Aq1062, cq1062, Aq1066, cq1066, Aq1067, cq1067, Aq1068, cq1068, rfl, hq1062, lq1063, lq1065, hq1066, hq1067, hq1068⟩ := RLexDecl.open hdq106
   refine S s <| nsw 150 hq1062 <| nsw 151 hq1066 <| nsw 152 hq1067 <| nsw 153 hq1068 <| nqw 8 0 hR rfl (y_ldp1 · rfl hlq106 hmq106 (hcq106 2 _ rfl) underlying9 rfl) <| nqw 9 0 hR rfl (y_concat · rfl rfl hk91) <| nqw 10 0 hR rfl (y_concat · rfl rfl hk92) <| nqw 11 0 hR rfl (y_boxField (o' := 5) · rfl underlying38 rfl rfl rfl) <| nqw 12 1000 hR rfl (y_loadBox1 (kk := 1000) · rfl rfl rfl underlying35 rfl) <| nqw 13 0 hR rfl (y_move · rfl) fun a s => ?_
   obtain ⟨p107, hep107, hlq108, hmq108, csq108, hdq108, hcq108⟩ := SlR.elemX (s.ft 105 rfl) hx89
   refine S s <| nqw 14 0 hR rfl (y_elem (sz := 8) (i := t_84) · rfl rfl underlying35 rfl hep107 rfl (lt_of_get hx89)) <| nqw 15 0 hR rfl (y_ptrField (o' := 0) · rfl underlying94 rfl rfl rfl) fun a s => ?_
   obtain ⟨Aq1082, cq1082, Aq1086, cq1086, Aq1087, cq1087, Aq1088, cq1088, rfl, hq1082, lq1083, lq1085, hq1086, hq1087, hq1088⟩ := RLexDecl.open hdq108
   refine S s <| nsw 154 hq1082 <| nsw 155 hq1086 <| nsw 156 hq1087 <| nsw 157 hq1088 <| nqw 16 0 hR rfl (y_ldp (cs := [vI x89.Affix.Kind, sl Aq1082 x89.Affix.Pairs cq1082]) · rfl hlq108 hmq108 (fun j v hj => hcq108 (0 + j) v (by rcases j with _ | (_ | _) <;> first | exact hj | cases hj)) underlying92 rfl rfl) <| nqw 19 0 hR rfl (y_boxField (o' := 5) · rfl underlying38 rfl rfl rfl) <| nqw 20 1000 hR rfl (y_loadBox1 (kk := 1000) · rfl rfl rfl underlying35 rfl) <| nqw 21 0 hR rfl (y_move · rfl) fun a s => ?_
   obtain ⟨p109, hep109, hlq110, hmq110, csq110, hdq110, hcq110⟩ := SlR.elemX (s.ft 105 rfl) hx89
   refine S s <| nqw 22 0 hR rfl (y_elem (sz := 8) (i := t_84) · rfl rfl underlying35 rfl hep109 rfl (lt_of_get hx89)) <| nqw 23 0 hR rfl (y_ptrField (o' := 2) · rfl underlying94 rfl rfl rfl) fun a s => ?_
   obtain ⟨Aq1102, cq1102, Aq1106, cq1106, Aq1107, cq1107, Aq1108, cq1108, rfl, hq1102, lq1103, lq1105, hq1106, hq1107, hq1108⟩ := RLexDecl.open hdq110
   refine S s <| nsw 158 hq1102 <| nsw 159 hq1106 <| nsw 160 hq1107 <| nsw 161 hq1108 <| nqw 24 0 hR rfl (y_ldp (cs := [vT x89.Def.Name, vI x89.Def.Strict.Op, vT x89.Def.Strict.Name, sl Aq1106 x89.Def.Strict.Path cq1106, sl Aq1107 x89.Def.Strict.Kids cq1107, sl Aq1108 x89.Def.Defaults cq1108]) · rfl hlq110 hmq110 (fun j v hj => hcq110 (2 + j) v (by rcases j with _ | (_ | (_ | (_ | (_ | (_ | _))))) <;> first | exact hj | cases hj)) underlying62 rfl rfl) fun a s => ?_
   refine nC 17 s rfl rfl func90 (c_r21_affixed n _ _ s.lt _ _ _ (s.ft 154 rfl) _ hr95) fun v111 a w hK hp s => ?_
   replace hZ := Nat.le_trans hZ hK.size; refine ⟨fun g _ h => h.grow hK, ?_⟩; clear hK
   obtain ⟨rfl, lu112a1⟩ := hp
   refine n_2 18 25 s (by kernel_rfl) rfl rfl rfl rfl ?_ ?_
   ·refine l_quiet s rfl rfl (y_concat s rfl rfl hk98) fun a s => ?_; refine ⟨fun g _ h => h, ?_⟩
    refine nC 25 s rfl rfl func89 (c_r21_defined n _ _ s.lt _ _ _ _ _ _ _ (by omega) (by omega) (s.ft 159 rfl) (s.ft 160 rfl) (s.ft 161 rfl) _ hr101) fun v113 a w hK hp s => ?_
    replace hZ := Nat.le_trans hZ hK.size; refine ⟨fun g _ h => h.grow hK, ?_⟩; clear hK
    obtain ⟨rfl, lu114a1⟩ := hp
    refine S s <| nzw 26 rfl (y_concat · rfl rfl hk104) <| nzw 27 rfl (y_assign · rfl) fun a s => ?_
    refine n_end (by kernel_rfl) ?_; clear hR hZ
    refine p_inN ?_
    refine S s <| pw <| lw <| mw rfl <| yw rfl (y_addN (i := t_84) (j := 1) · rfl rfl (in64.2 (by omega))) <| aw rfl <| nw fun a s => ?_
    exact ⟨m4, Nat.lt_succ_self _, ⟨(((((t_83 ++ [108, 101, 120, 114, 117, 108, 101, 32]) ++ x89.Def.Name) ++ [32]) ++ r95) ++ r101), (t_84 + 1), hg, (by rw [List.length_append]; omega), (s.sb rfl rfl rfl)⟩⟩
   ·refine l_call (cap := []) s rfl func89 rfl (by kernel_rfl) rfl rfl (c_r21_defined n _ _ s.lt _ _ _ _ _ _ _ (by omega) (by omega) (s.ft 159 rfl) (s.ft 160 rfl) (s.ft 161 rfl) _ hr101) fun v115 a w hK hp s => ?_
    replace hZ := Nat.le_trans hZ hK.size; refine ⟨fun g _ h => h.grow hK, ?_⟩; clear hK
    obtain ⟨rfl, lu116a1⟩ := hp
    refine S s <| nzw 18 rfl (y_concat · rfl rfl hk98) <| nzw 26 rfl (y_concat · rfl rfl hk104) <| nzw 27 rfl (y_assign · rfl) fun a s => ?_
    refine n_end (by kernel_rfl) ?_; clear hR hZ
    refine p_inN ?_
    refine S s <| pw <| lw <| mw rfl <| yw rfl (y_addN (i := t_84) (j := 1) · rfl rfl (in64.2 (by omega))) <| aw rfl <| nw fun a s => ?_
    exact ⟨m4, Nat.lt_succ_self _, ⟨(((((t_83 ++ [108, 101, 120, 114, 117, 108, 101, 32]) ++ x89.Def.Name) ++ [32]) ++ r95) ++ r101), (t_84 + 1), hg, (by rw [List.length_append]; omega), (s.sb rfl rfl rfl)⟩⟩
  replace hg := br_f hg hc85
  apply wp_exit
  refine p_then ?_
  refine p_then ?_
  refine p_in ?_
  apply pN
  exact ⟨(t_83), hg, (by omega), (s.sb rfl rfl rfl)⟩
 clear s a; rintro a w ⟨t_82, hg, lt_82, s⟩
 subst hk81
 apply wQ
 obtain ⟨k117, hg, hk117⟩ := jn_some hg
 refine c_post (fun a w => ∃ (t_118 : (List UInt8)), k117 t_118 = some r ∧ ((t_118).length ≤ 9223372036854775807) ∧ St (cx f54 M w0) [(1, vP b2 0), (3, vT t_118)] [(1000, Ob.box b2 B 38)] F a w) ?_ ?_
 ·obtain ⟨r119, hr119, hg⟩ := bind_some hg
  obtain ⟨hk122, hg⟩ := chk_some hg
  obtain ⟨r123, hr123, hg⟩ := bind_some hg
  obtain ⟨hk126, hg⟩ := chk_some hg
  refine d_steps s [] rfl ?_; clear s; intro wr hZ s; have hR := s.wd
  refine S s <| nqw 0 0 hR rfl (y_move · rfl) <| nqw 1 0 hR rfl (y_boxField (o' := 6) · rfl underlying38 rfl rfl rfl) <| nqw 2 1000 hR rfl (y_loadBox1 (kk := 1000) · rfl rfl rfl underlying33 rfl) <| nqw 5 0 hR rfl (y_boxField (o' := 7) · rfl underlying38 rfl rfl rfl) <| nqw 6 1000 hR rfl (y_loadBox1 (kk := 1000) · rfl rfl rfl underlying33 rfl) fun a s => ?_
  refine nC 3 s rfl rfl func87 (c_r21_defs n _ _ s.lt _ (Nat.le_of_ble_eq_true (by rfl)) _ _ _ (s.ft 106 rfl) _ hr119) fun v127 a w hK hp s => ?_
  replace hZ := Nat.le_trans hZ hK.size; refine ⟨fun g _ h => h.grow hK, ?_⟩; clear hK
  obtain ⟨rfl, lu128a1⟩ := hp
  refine n_2 4 7 s (by kernel_rfl) rfl rfl rfl rfl ?_ ?_
  ·refine l_quiet s rfl rfl (y_concat s rfl rfl hk122) fun a s => ?_; refine ⟨fun g _ h => h, ?_⟩
   refine nC 7 s rfl rfl func87 (c_r21_defs n _ _ s.lt _ (Nat.le_of_ble_eq_true (by rfl)) _ _ _ (s.ft 107 rfl) _ hr123) fun v129 a w hK hp s => ?_
   replace hZ := Nat.le_trans hZ hK.size; refine ⟨fun g _ h => h.grow hK, ?_⟩; clear hK
   obtain ⟨rfl, lu130a1⟩ := hp
   refine S s <| nzw 8 rfl (y_concat · rfl rfl hk126) <| nzw 9 rfl (y_assign · rfl) fun a s => ?_
   refine n_end (by kernel_rfl) ?_; clear hR hZ
   apply pN
   exact ⟨((t_82 ++ r119) ++ r123), hg, (by rw [List.length_append]; omega), (s.sb rfl rfl rfl)⟩
  ·refine l_call (cap := []) s rfl func87 rfl (by kernel_rfl) rfl rfl (c_r21_defs n _ _ s.lt _ (Nat.le_of_ble_eq_true (by rfl)) _ _ _ (s.ft 107 rfl) _ hr123) fun v131 a w hK hp s => ?_
   replace hZ := Nat.le_trans hZ hK.size; refine ⟨fun g _ h => h.grow hK, ?_⟩; clear hK
   obtain ⟨rfl, lu132a1⟩ := hp
   refine S s <| nzw 4 rfl (y_concat · rfl rfl hk122) <| nzw 8 rfl (y_concat · rfl rfl hk126) <| nzw 9 rfl (y_assign · rfl) fun a s => ?_
   refine n_end (by kernel_rfl) ?_; clear hR hZ
   apply pN
   exact ⟨((t_82 ++ r119) ++ r123), hg, (by rw [List.length_append]; omega), (s.sb rfl rfl rfl)⟩
 clear s a; rintro a w ⟨t_118, hg, lt_118, s⟩
 subst hk117
 refine S s <| sw <| vw <| aw rfl <| nw fun a s => ?_
 obtain ⟨k133, hg, hk133⟩ := jn_some hg
 refine c_post (fun a w => ∃ (t_134 : (List UInt8)), k133 t_134 = some r ∧ ((t_134).length ≤ 9223372036854775807) ∧ St (cx f54 M w0) [(1, vP b2 0), (3, vT t_134)] [(1000, Ob.box b2 B 38)] F a w) ?_ ?_
 ·apply wp_block
  refine c_loop (σ := Nat) (fun m5 a w => ∃ (t_135 : (List UInt8)) (t_136 : Nat), r21_module_L4 n t_ k133 m5 t_135 t_136 = some r ∧ ((t_135).length ≤ 9223372036854775807) ∧ St (cx f54 M w0) [(1, vP b2 0), (3, vT t_135), (8, vI (((t_136 : Nat) : Int)))] [(1000, Ob.box b2 B 38)] F a w) (fun m5 => m5) n ⟨(t_118), (0), hg, (by omega), (s.sb rfl rfl rfl)⟩ ?_
  clear s a; rintro m5 a w ⟨t_135, t_136, hg, lt_135, s⟩
  rcases m5 with _ | m5
  ·rw [r21_module_L4] at hg; cases hg
  rw [r21_module_L4] at hg
  refine S s <| sw <| vw <| mw rfl <| yw rfl (y_boxField (o' := 8) · rfl underlying38 rfl rfl rfl) <| yw rfl (y_loadBox1 (kk := 1000) · rfl rfl rfl underlying36 rfl) <| yw rfl (y_lenSlice · rfl underlying36) <| yw rfl (y_lssN (i := t_136) (j := ((t_.Checks).length)) · rfl rfl) <| nw fun a s => c_dec s rfl (fun hc137 => ?_) (fun hc137 => ?_)
  ·replace hg := br_t hg hc137
   have hmx138 := SlR.mx (s.ft 108 rfl)
   obtain ⟨hk139, hg⟩ := chk_some hg
   obtain ⟨x141, hx141, hg⟩ := bind_some hg
   obtain ⟨r143, hr143, hg⟩ := bind_some hg
   obtain ⟨hk146, hg⟩ := chk_some hg
   obtain ⟨hk147, hg⟩ := chk_some hg
   refine S s <| kw <| pw <| sw <| bw <| lw <| mw rfl <| yw rfl (y_concat · rfl rfl hk139) <| yw rfl (y_boxField (o' := 8) · rfl underlying38 rfl rfl rfl) <| yw rfl (y_loadBox1 (kk := 1000) · rfl rfl rfl underlying36 rfl) <| mw rfl fun a s => ?_
   obtain ⟨p148, hep148, hlq149, hmq149, csq149, hdq149, hcq149⟩ := SlR.elemX (s.ft 108 rfl) hx141
   refine qq s rfl (y_elem (sz := 1) (i := t_136) s rfl rfl underlying36 rfl hep148 rfl (lt_of_get hx141)) fun a s => ?_
   obtain ⟨Aq1491, nnq149, cq1491, rfl, hq1491⟩ := hdq149
   obtain rfl := hq1491.len
   refine S s <| nsw 163 hq1491 <| yw rfl (y_ldp1 · rfl hlq149 hmq149 (hcq149 0 _ rfl) underlying25 rfl) fun a s => ?_
   refine lC s rfl func88 (c_r21_joined n _ _ s.lt _ _ _ (s.ft 163 rfl) _ (Nat.le_of_ble_eq_true (by rfl)) _ hr143) fun v150 a w hK hp s => ?_
   obtain ⟨rfl, lu151a1⟩ := hp
   refine S s <| yw rfl (y_concat · rfl rfl hk146) <| yw rfl (y_concat · rfl rfl hk147) <| aw rfl fun a s => ?_
   apply wO
   refine p_inN ?_
   refine S s <| pw <| lw <| mw rfl <| yw rfl (y_addN (i := t_136) (j := 1) · rfl rfl (in64.2 (by omega))) <| aw rfl <| nw fun a s => ?_
   exact ⟨m5, Nat.lt_succ_self _, ⟨(((t_135 ++ [99, 104, 101, 99, 107, 32]) ++ r143) ++ [59, 10]), (t_136 + 1), hg, (by rw [List.length_append]; omega), (s.sb rfl rfl rfl)⟩⟩
  replace hg := br_f hg hc137
  apply wp_exit
  refine p_then ?_
  refine p_then ?_
  refine p_in ?_
  apply pN
  exact ⟨(t_135), hg, (by omega), (s.sb rfl rfl rfl)⟩
 clear s a; rintro a w ⟨t_134, hg, lt_134, s⟩
 subst hk133
 refine S s <| sw <| vw <| aw rfl <| nw <| bw fun a s => ?_
 refine c_loop (σ := Nat) (fun m6 a w => ∃ (t_152 : (List UInt8)) (t_153 : Nat), r21_module_L5 n t_ m6 t_152 t_153 = some r ∧ ((t_152).length ≤ 9223372036854775807) ∧ St (cx f54 M w0) [(1, vP b2 0), (3, vT t_152), (9, vI (((t_153 : Nat) : Int)))] [(1000, Ob.box b2 B 38)] F a w) (fun m6 => m6) n ⟨(t_134), (0), hg, (by omega), (s.sb rfl rfl rfl)⟩ ?_
 clear s a; rintro m6 a w ⟨t_152, t_153, hg, lt_152, s⟩
 rcases m6 with _ | m6
 ·rw [r21_module_L5] at hg; cases hg
 rw [r21_module_L5] at hg
 refine S s <| sw <| vw <| mw rfl <| yw rfl (y_boxField (o' := 9) · rfl underlying38 rfl rfl rfl) <| yw rfl (y_loadBox1 (kk := 1000) · rfl rfl rfl underlying25 rfl) <| yw rfl (y_lenSlice · rfl underlying25) <| yw rfl (y_lssN (i := t_153) (j := ((t_.Drops).length)) · rfl rfl) <| nw fun a s => c_dec s rfl (fun hc154 => ?_) (fun hc154 => ?_)
 ·replace hg := br_t hg hc154
  have hmx155 := SlR.mx (s.ft 109 rfl)
  obtain ⟨hk156, hg⟩ := chk_some hg
  obtain ⟨x158, hx158, hg⟩ := bind_some hg
  obtain ⟨hk160, hg⟩ := chk_some hg
  obtain ⟨hk161, hg⟩ := chk_some hg
  refine S s <| kw <| pw <| sw <| bw <| lw <| mw rfl <| yw rfl (y_concat · rfl rfl hk156) <| yw rfl (y_boxField (o' := 9) · rfl underlying38 rfl rfl rfl) <| yw rfl (y_loadBox1 (kk := 1000) · rfl rfl rfl underlying25 rfl) <| mw rfl fun a s => ?_
  obtain ⟨p162, hep162, hlq163, hmq163, csq163, hdq163, hcq163⟩ := SlR.elemX (s.ft 109 rfl) hx158
  refine qq s rfl (y_elem (sz := 1) (i := t_153) s rfl rfl underlying25 rfl hep162 rfl (lt_of_get hx158)) fun a s => ?_
  obtain ⟨rfl, lq1631⟩ := hdq163
  refine S s <| yw rfl (y_ldp1 · rfl hlq163 hmq163 (hcq163 0 _ rfl) underlying9 rfl) <| yw rfl (y_concat · rfl rfl hk160) <| yw rfl (y_concat · rfl rfl hk161) <| aw rfl fun a s => ?_
  apply wO
  refine p_inN ?_
  refine S s <| pw <| lw <| mw rfl <| yw rfl (y_addN (i := t_153) (j := 1) · rfl rfl (in64.2 (by omega))) <| aw rfl <| nw fun a s => ?_
  exact ⟨m6, Nat.lt_succ_self _, ⟨(((t_152 ++ [100, 114, 111, 112, 32]) ++ x158) ++ [59, 10]), (t_153 + 1), hg, (by rw [List.length_append]; omega), (s.sb rfl rfl rfl)⟩⟩
 replace hg := br_f hg hc154
 apply wp_exit
 refine p_then ?_
 refine p_then ?_
 refine p_in ?_
 refine S s <| pw <| vw <| mw rfl <| aw rfl <| nw fun a s => ?_
 apply wp_ret
 obtain rfl := Option.some.inj hg
 refine fin1 (fn := Tryz.f54) s rfl (r_tmp s rfl) ?_
 exact ⟨rfl, (by omega)⟩
set_option maxHeartbeats 1000000 in
theorem c_r21_Print (n : Nat) (M : Bs) (w0 : World) (hM : ∀ b, M b → b < w0.heap.size) (l_ : (List Module)) (Ap01 : Option Addr) (cp01 : Nat) (hp01 : sR RModule M w0 Ap01 cp01 l_) (r : ((List UInt8) × Int)) (hg : r21_Print n l_ = some r) :
    Calls Tryz.prog 23 [sl Ap01 l_ cp01].toArray w0 (Ret noB w0 fun v w => v = .tuple #[vT r.1, .int .i64 (r.2)] ∧ ((r.1).length ≤ 9223372036854775807)) := by
 unfold r21_Print at hg
 refine enter M noB func23 rfl rfl hM ?_
 intro a s
 refine S s <| esw 101 hp01 <| vw <| aw rfl <| aw rfl <| nw <| sw <| vw <| mw rfl <| yw rfl (y_lenSlice · rfl underlying22) <| yw rfl (y_gtrN (i := ((l_).length)) (j := 256) · rfl rfl) <| nw fun a s => c_dec s rfl (fun hc1 => ?_) (fun hc1 => ?_)
 ·replace hg := br_t hg hc1
  have hmx2 := SlR.mx (s.ft 101 rfl)
  refine S s <| vw <| aw rfl <| aw rfl <| nw fun a s => ?_
  apply wp_ret
  refine p_thenR ?_
  obtain rfl := Option.some.inj hg
  refine fin2 (fn := Tryz.f23) s rfl (r_tmp s rfl) (r_tmp s rfl) ?_
  exact ⟨rfl, (Nat.le_of_ble_eq_true (by rfl))⟩
 replace hg := br_f hg hc1
 refine S s <| kw <| pw <| vw <| aw rfl <| nw <| sw <| vw <| aw rfl <| nw fun a s => ?_
 obtain ⟨k3, hg, hk3⟩ := jn_some hg
 refine c_post (fun a w => k3 = some r ∧ St (cx f23 M w0) [(0, sl Ap01 l_ cp01), (4, vT ([]))] [] [(101, sF RModule Ap01 cp01 l_)] a w) ?_ ?_
 ·apply wp_block
  refine c_loop (σ := Nat) (fun m1 a w => ∃ (i_4 : Nat), r21_Print_L0 n l_ k3 m1 i_4 = some r ∧ St (cx f23 M w0) [(0, sl Ap01 l_ cp01), (4, vT ([])), (5, vI (((i_4 : Nat) : Int)))] [] [(101, sF RModule Ap01 cp01 l_)] a w) (fun m1 => m1) n ⟨(0), hg, (s.sb rfl rfl rfl)⟩ ?_
  clear s a; rintro m1 a w ⟨i_4, hg, s⟩
  rcases m1 with _ | m1
  ·rw [r21_Print_L0] at hg; cases hg
  rw [r21_Print_L0] at hg
  refine S s <| sw <| vw <| mw rfl <| mw rfl <| yw rfl (y_lenSlice · rfl underlying22) <| yw rfl (y_lssN (i := i_4) (j := ((l_).length)) · rfl rfl) <| nw fun a s => c_dec s rfl (fun hc5 => ?_) (fun hc5 => ?_)
  ·replace hg := br_t hg hc5
   have hmx6 := SlR.mx (s.ft 101 rfl)
   obtain ⟨x8, hx8, hg⟩ := bind_some hg
   obtain ⟨r10, hr10, hg⟩ := bind_some hg
   refine S s <| kw <| pw <| sw <| bw <| sw <| lw <| mw rfl <| mw rfl fun a s => ?_
   obtain ⟨p13, hep13, hlq14, hmq14, csq14, hdq14, hcq14⟩ := SlR.elemX (s.ft 101 rfl) hx8
   refine qq s rfl (y_elem (sz := 10) (i := i_4) s rfl rfl underlying22 rfl hep13 rfl (lt_of_get hx8)) fun a s => ?_
   obtain ⟨Aq142, cq142, Aq143, cq143, Aq144, cq144, Aq145, cq145, Aq146, cq146, Aq147, cq147, Aq148, cq148, Aq149, cq149, Aq1410, cq1410, rfl, lq141, hq142, hq143, hq144, hq145, hq146, hq147, hq148, hq149, hq1410⟩ := RModule.open hdq14
   refine S s <| nsw 111 hq142 <| nsw 112 hq143 <| nsw 113 hq144 <| nsw 114 hq145 <| nsw 115 hq146 <| nsw 116 hq147 <| nsw 117 hq148 <| nsw 118 hq149 <| nsw 119 hq1410 <| yw rfl (y_ldp · rfl hlq14 hmq14 (by simpa using hcq14) underlying38 rfl rfl) fun a s => ?_
   refine lV s rfl func53 (c_r21_moduleError n _ _ s.lt _ _ _ _ _ _ _ _ _ _ _ _ _ _ _ _ _ _ _ (by omega) (s.ft 111 rfl) (s.ft 112 rfl) (s.ft 113 rfl) (s.ft 114 rfl) (s.ft 115 rfl) (s.ft 116 rfl) (s.ft 117 rfl) (s.ft 118 rfl) (s.ft 119 rfl) _ hr10) fun a w hK s => ?_
   refine S s <| aw rfl <| nw <| vw <| mw rfl <| yw rfl (y_neq · rfl rfl) <| nw fun a s => c_dec s rfl (fun hc17 => ?_) (fun hc17 => ?_)
   ·replace hg := br_t hg hc17
    refine S s <| vw <| mw rfl <| aw rfl <| aw rfl <| nw fun a s => ?_
    apply wp_ret
    refine p_inR ?_
    refine p_thenR ?_
    refine p_thenR ?_
    refine p_inR ?_
    refine p_thenR ?_
    obtain rfl := Option.some.inj hg
    refine fin2 (fn := Tryz.f23) s rfl (r_tmp s rfl) (r_tmp s rfl) ?_
    exact ⟨rfl, (Nat.le_of_ble_eq_true (by rfl))⟩
   replace hg := br_f hg hc17
   apply wp_skip
   refine p_inN ?_
   refine S s <| pw <| lw <| mw rfl <| yw rfl (y_addN (i := i_4) (j := 1) · rfl rfl (in64.2 (by omega))) <| aw rfl <| nw fun a s => ?_
   exact ⟨m1, Nat.lt_succ_self _, ⟨(i_4 + 1), hg, (s.sb rfl rfl rfl)⟩⟩
  replace hg := br_f hg hc5
  apply wp_exit
  refine p_then ?_
  refine p_then ?_
  refine p_in ?_
  apply pN
  exact ⟨hg, (s.sb rfl rfl rfl)⟩
 clear s a; rintro a w ⟨hg, s⟩
 subst hk3
 refine S s <| sw <| vw <| aw rfl <| nw fun a s => ?_
 obtain ⟨k18, hg, hk18⟩ := jn_some hg
 refine c_post (fun a w => ∃ (s_19 : (List UInt8)), k18 s_19 = some r ∧ ((s_19).length ≤ 9223372036854775807) ∧ St (cx f23 M w0) [(4, vT s_19)] [] [] a w) ?_ ?_
 ·apply wp_block
  refine c_loop (σ := Nat) (fun m2 a w => ∃ (s_20 : (List UInt8)) (i_21 : Nat), r21_Print_L1 n l_ k18 m2 s_20 i_21 = some r ∧ ((s_20).length ≤ 9223372036854775807) ∧ St (cx f23 M w0) [(0, sl Ap01 l_ cp01), (4, vT s_20), (7, vI (((i_21 : Nat) : Int)))] [] [(101, sF RModule Ap01 cp01 l_)] a w) (fun m2 => m2) n ⟨([]), (0), hg, (Nat.le_of_ble_eq_true (by rfl)), (s.sb rfl rfl rfl)⟩ ?_
  clear s a; rintro m2 a w ⟨s_20, i_21, hg, ls_20, s⟩
  rcases m2 with _ | m2
  ·rw [r21_Print_L1] at hg; cases hg
  rw [r21_Print_L1] at hg
  refine S s <| sw <| vw <| mw rfl <| mw rfl <| yw rfl (y_lenSlice · rfl underlying22) <| yw rfl (y_lssN (i := i_21) (j := ((l_).length)) · rfl rfl) <| nw fun a s => c_dec s rfl (fun hc22 => ?_) (fun hc22 => ?_)
  ·replace hg := br_t hg hc22
   have hmx23 := SlR.mx (s.ft 101 rfl)
   obtain ⟨x25, hx25, hg⟩ := bind_some hg
   obtain ⟨r27, hr27, hg⟩ := bind_some hg
   obtain ⟨hk30, hg⟩ := chk_some hg
   refine S s <| kw <| pw <| sw <| bw <| lw <| mw rfl <| mw rfl <| mw rfl fun a s => ?_
   obtain ⟨p31, hep31, hlq32, hmq32, csq32, hdq32, hcq32⟩ := SlR.elemX (s.ft 101 rfl) hx25
   refine qq s rfl (y_elem (sz := 10) (i := i_21) s rfl rfl underlying22 rfl hep31 rfl (lt_of_get hx25)) fun a s => ?_
   obtain ⟨Aq322, cq322, Aq323, cq323, Aq324, cq324, Aq325, cq325, Aq326, cq326, Aq327, cq327, Aq328, cq328, Aq329, cq329, Aq3210, cq3210, rfl, lq321, hq322, hq323, hq324, hq325, hq326, hq327, hq328, hq329, hq3210⟩ := RModule.open hdq32
   refine S s <| nsw 129 hq322 <| nsw 130 hq323 <| nsw 131 hq324 <| nsw 132 hq325 <| nsw 133 hq326 <| nsw 134 hq327 <| nsw 135 hq328 <| nsw 136 hq329 <| nsw 137 hq3210 <| yw rfl (y_ldp · rfl hlq32 hmq32 (by simpa using hcq32) underlying38 rfl rfl) fun a s => ?_
   refine lC s rfl func54 (c_r21_module n _ _ s.lt _ _ _ _ _ _ _ _ _ _ _ _ _ _ _ _ _ _ _ (by omega) (s.ft 129 rfl) (s.ft 130 rfl) (s.ft 131 rfl) (s.ft 132 rfl) (s.ft 133 rfl) (s.ft 134 rfl) (s.ft 135 rfl) (s.ft 136 rfl) (s.ft 137 rfl) _ hr27) fun v33 a w hK hp s => ?_
   obtain ⟨rfl, lu34a1⟩ := hp
   refine S s <| yw rfl (y_concat · rfl rfl hk30) <| aw rfl fun a s => ?_
   apply wO
   refine p_inN ?_
   refine S s <| pw <| lw <| mw rfl <| yw rfl (y_addN (i := i_21) (j := 1) · rfl rfl (in64.2 (by omega))) <| aw rfl <| nw fun a s => ?_
   exact ⟨m2, Nat.lt_succ_self _, ⟨(s_20 ++ r27), (i_21 + 1), hg, (by rw [List.length_append]; omega), (s.sb rfl rfl rfl)⟩⟩
  replace hg := br_f hg hc22
  apply wp_exit
  refine p_then ?_
  refine p_then ?_
  refine p_in ?_
  apply pN
  exact ⟨(s_20), hg, (by omega), (s.sb rfl rfl rfl)⟩
 clear s a; rintro a w ⟨s_19, hg, ls_19, s⟩
 subst hk18
 refine S s <| sw <| vw <| mw rfl <| yw rfl (y_lenStrN · rfl underlying9) <| yw rfl (y_gtrN (i := ((s_19).length)) (j := 65536) · rfl rfl) <| nw fun a s => c_dec s rfl (fun hc35 => ?_) (fun hc35 => ?_)
 ·replace hg := br_t hg hc35
  have hmx36 : (s_19).length ≤ 9223372036854775807 := (by omega)
  refine S s <| vw <| aw rfl <| aw rfl <| nw fun a s => ?_
  apply wp_ret
  refine p_thenR ?_
  obtain rfl := Option.some.inj hg
  refine fin2 (fn := Tryz.f23) s rfl (r_tmp s rfl) (r_tmp s rfl) ?_
  exact ⟨rfl, (Nat.le_of_ble_eq_true (by rfl))⟩
 replace hg := br_f hg hc35
 refine S s <| kw <| pw <| vw <| mw rfl <| aw rfl <| aw rfl <| nw fun a s => ?_
 apply wp_ret
 obtain rfl := Option.some.inj hg
 refine fin2 (fn := Tryz.f23) s rfl (r_tmp s rfl) (r_tmp s rfl) ?_
 exact ⟨rfl, (by omega)⟩
set_option maxHeartbeats 1000000 in
theorem c_law22_light (n : Nat) (M : Bs) (w0 : World) (hM : ∀ b, M b → b < w0.heap.size) (t_ : (List Module)) (Ap01 : Option Addr) (cp01 : Nat) (hp01 : sR RModule M w0 Ap01 cp01 t_) (r : Bool) (hg : law22_light n t_ = some r) :
    Calls Tryz.prog 10 [sl Ap01 t_ cp01].toArray w0 (Ret noB w0 fun v w => v = .bool (r)) := by
 unfold law22_light at hg
 refine enter M noB func10 rfl rfl hM ?_
 intro a s
 refine S s <| esw 101 hp01 <| vw <| aw rfl <| nw <| sw <| sw fun a s => ?_
 obtain ⟨k1, hg, hk1⟩ := jn_some hg
 refine c_post (fun a w => ∃ (t_2 : Bool), k1 t_2 = some r ∧ St (cx f10 M w0) [(0, sl Ap01 t_ cp01), (14, .bool (t_2))] [] [(101, sF RModule Ap01 cp01 t_)] a w) ?_ ?_
 ·rcases Decidable.em ((6 : Nat) < ((t_).length)) with hs3 | hs3
  ·have hs3e := decide_eq_true hs3
   replace hg := br_t hg hs3
   have hmx4 := SlR.mx (s.ft 101 rfl)
   refine S s <| lw <| mw rfl <| yw rfl (y_lenSlice · rfl underlying22) <| yw rfl (fun s => yl_b (y_gtrN (i := ((t_).length)) (j := 6) s rfl rfl) hs3e) <| mw rfl <| gw rfl <| gw rfl <| gw rfl <| yw rfl (y_pick_t · rfl rfl) <| nw fun a s => ?_
   exact ⟨(true), hg, (s.sb rfl rfl rfl)⟩
  have hs3e := decide_eq_false hs3
  replace hg := br_f hg hs3
  obtain ⟨r5, hr5, hg⟩ := bind_some hg
  refine S s <| lw <| mw rfl <| yw rfl (y_lenSlice · rfl underlying22) <| yw rfl (fun s => yl_b (y_gtrN (i := ((t_).length)) (j := 6) s rfl rfl) hs3e) <| mw rfl <| hw rfl fun a s => ?_
  refine gV s rfl func22 (c_r21_Light n _ _ s.lt _ _ _ (s.ft 101 rfl) _ hr5) fun a w hK s => ?_
  refine S s <| zw rfl (y_not · rfl) <| yw rfl (y_pick_f · rfl rfl) <| nw fun a s => ?_
  exact ⟨(!(r5)), hg, (s.sb rfl rfl rfl)⟩
 clear s a; rintro a w ⟨t_2, hg, s⟩
 subst hk1
 refine c_cond s rfl (fun hc10 => ?_) (fun hc10 => ?_)
 ·replace hg := br_t hg hc10
  refine S s <| vw <| aw rfl <| nw fun a s => ?_
  apply wp_ret
  refine p_thenR ?_
  obtain rfl := Option.some.inj hg
  exact fin1 (fn := Tryz.f10) s rfl (r_tmp s rfl) rfl
 replace hg := br_n hg hc10
 refine S s <| kw <| pw <| vw <| aw rfl <| nw <| sw <| vw <| aw rfl <| nw fun a s => ?_
 obtain ⟨k11, hg, hk11⟩ := jn_some hg
 refine c_post (fun a w => ∃ (t_12 : Int), k11 t_12 = some r ∧ St (cx f10 M w0) [(0, sl Ap01 t_ cp01), (3, vI t_12)] [] [(101, sF RModule Ap01 cp01 t_)] a w) ?_ ?_
 ·apply wp_block
  refine c_loop (σ := Nat) (fun m1 a w => ∃ (t_13 : Int) (t_14 : Nat), law22_light_L0 n t_ k11 m1 t_13 t_14 = some r ∧ St (cx f10 M w0) [(0, sl Ap01 t_ cp01), (3, vI t_13), (4, vI (((t_14 : Nat) : Int)))] [] [(101, sF RModule Ap01 cp01 t_)] a w) (fun m1 => m1) n ⟨(0), (0), hg, (s.sb rfl rfl rfl)⟩ ?_
  clear s a; rintro m1 a w ⟨t_13, t_14, hg, s⟩
  rcases m1 with _ | m1
  ·rw [law22_light_L0] at hg; cases hg
  rw [law22_light_L0] at hg
  refine S s <| sw <| vw <| mw rfl <| mw rfl <| yw rfl (y_lenSlice · rfl underlying22) <| yw rfl (y_lssN (i := t_14) (j := ((t_).length)) · rfl rfl) <| nw fun a s => c_dec s rfl (fun hc15 => ?_) (fun hc15 => ?_)
  ·replace hg := br_t hg hc15
   have hmx16 := SlR.mx (s.ft 101 rfl)
   obtain ⟨x18, hx18, hg⟩ := bind_some hg
   refine S s <| kw <| pw <| sw <| bw fun a s => ?_
   refine d_plan s [] [(0, some 0), (1, some 0), (2, some 0), (3, some 0), (4, some 0), (5, some 0), (6, some 0), (7, some 0), (8, some 0), (9, some 0), (10, some 0), (11, some 0), (12, some 0), (13, some 0), (14, some 0), (15, some 0), (16, some 0), (17, some 0), (18, some 0), (19, some 0), (20, some 0), (21, some 0), (22, some 0), (23, some 0), (24, some 0), (25, some 0), (26, some 0), (27, some 0), (28, some 0), (29, some 0), (30, some 0), (31, some 0), (32, some 0), (33, some 0), (34, some 0), (35, some 0), (36, some 0), (37, some 0), (38, some 0), (39, some 0), (40, some 0), (41, some 0), (42, some 0), (43, some 0), (44, some 0), (45, some 0), (46, some 0), (47, some 0), (48, some 0), (49, some 0), (50, some 0)] rfl (by kernel_rfl) (by kernel_rfl) rfl ?_; clear s; intro wr hZ s; have hR := s.wd
   refine S s <| qw hR rfl (y_move · rfl) <| qw hR rfl (y_move · rfl) <| qw hR rfl (y_move · rfl) fun a s => ?_
   obtain ⟨p32, hep32, hlq33, hmq33, csq33, hdq33, hcq33⟩ := SlR.elemX (s.ft 101 rfl) hx18
   refine S s <| qw hR rfl (y_elem (sz := 10) (i := t_14) · rfl rfl underlying22 rfl hep32 rfl (lt_of_get hx18)) <| qw hR rfl (y_ptrField (o' := 2) · rfl underlying38 rfl rfl rfl) fun a s => ?_
   obtain ⟨Aq332, cq332, Aq333, cq333, Aq334, cq334, Aq335, cq335, Aq336, cq336, Aq337, cq337, Aq338, cq338, Aq339, cq339, Aq3310, cq3310, rfl, lq331, hq332, hq333, hq334, hq335, hq336, hq337, hq338, hq339, hq3310⟩ := RModule.open hdq33
   refine S s <| nsw 165 hq332 <| nsw 166 hq333 <| nsw 167 hq334 <| nsw 168 hq335 <| nsw 169 hq336 <| nsw 170 hq337 <| nsw 171 hq338 <| nsw 172 hq339 <| nsw 173 hq3310 <| qw hR rfl (y_ldp1 · rfl hlq33 hmq33 (hcq33 2 _ rfl) underlying32 rfl) <| qw hR rfl (y_lenSlice · rfl underlying32) <| qw hR rfl (y_wadd · rfl rfl) <| qw hR rfl (y_move · rfl) <| qw hR rfl (y_move · rfl) fun a s => ?_
   obtain ⟨p34, hep34, hlq35, hmq35, csq35, hdq35, hcq35⟩ := SlR.elemX (s.ft 101 rfl) hx18
   refine S s <| qw hR rfl (y_elem (sz := 10) (i := t_14) · rfl rfl underlying22 rfl hep34 rfl (lt_of_get hx18)) <| qw hR rfl (y_ptrField (o' := 3) · rfl underlying38 rfl rfl rfl) fun a s => ?_
   obtain ⟨Aq352, cq352, Aq353, cq353, Aq354, cq354, Aq355, cq355, Aq356, cq356, Aq357, cq357, Aq358, cq358, Aq359, cq359, Aq3510, cq3510, rfl, lq351, hq352, hq353, hq354, hq355, hq356, hq357, hq358, hq359, hq3510⟩ := RModule.open hdq35
   refine S s <| nsw 174 hq352 <| nsw 175 hq353 <| nsw 176 hq354 <| nsw 177 hq355 <| nsw 178 hq356 <| nsw 179 hq357 <| nsw 180 hq358 <| nsw 181 hq359 <| nsw 182 hq3510 <| qw hR rfl (y_ldp1 · rfl hlq35 hmq35 (hcq35 3 _ rfl) underlying33 rfl) <| qw hR rfl (y_lenSlice · rfl underlying33) <| qw hR rfl (y_wadd · rfl rfl) <| qw hR rfl (y_move · rfl) <| qw hR rfl (y_move · rfl) fun a s => ?_
   obtain ⟨p36, hep36, hlq37, hmq37, csq37, hdq37, hcq37⟩ := SlR.elemX (s.ft 101 rfl) hx18
   refine S s <| qw hR rfl (y_elem (sz := 10) (i := t_14) · rfl rfl underlying22 rfl hep36 rfl (lt_of_get hx18)) <| qw hR rfl (y_ptrField (o' := 4) · rfl underlying38 rfl rfl rfl) fun a s => ?_
   obtain ⟨Aq372, cq372, Aq373, cq373, Aq374, cq374, Aq375, cq375, Aq376, cq376, Aq377, cq377, Aq378, cq378, Aq379, cq379, Aq3710, cq3710, rfl, lq371, hq372, hq373, hq374, hq375, hq376, hq377, hq378, hq379, hq3710⟩ := RModule.open hdq37
   refine S s <| nsw 183 hq372 <| nsw 184 hq373 <| nsw 185 hq374 <| nsw 186 hq375 <| nsw 187 hq376 <| nsw 188 hq377 <| nsw 189 hq378 <| nsw 190 hq379 <| nsw 191 hq3710 <| qw hR rfl (y_ldp1 · rfl hlq37 hmq37 (hcq37 4 _ rfl) underlying34 rfl) <| qw hR rfl (y_lenSlice · rfl underlying34) <| qw hR rfl (y_wadd · rfl rfl) <| qw hR rfl (y_move · rfl) <| qw hR rfl (y_move · rfl) fun a s => ?_
   obtain ⟨p38, hep38, hlq39, hmq39, csq39, hdq39, hcq39⟩ := SlR.elemX (s.ft 101 rfl) hx18
   refine S s <| qw hR rfl (y_elem (sz := 10) (i := t_14) · rfl rfl underlying22 rfl hep38 rfl (lt_of_get hx18)) <| qw hR rfl (y_ptrField (o' := 5) · rfl underlying38 rfl rfl rfl) fun a s => ?_
   obtain ⟨Aq392, cq392, Aq393, cq393, Aq394, cq394, Aq395, cq395, Aq396, cq396, Aq397, cq397, Aq398, cq398, Aq399, cq399, Aq3910, cq3910, rfl, lq391, hq392, hq393, hq394, hq395, hq396, hq397, hq398, hq399, hq3910⟩ := RModule.open hdq39
   refine S s <| nsw 192 hq392 <| nsw 193 hq393 <| nsw 194 hq394 <| nsw 195 hq395 <| nsw 196 hq396 <| nsw 197 hq397 <| nsw 198 hq398 <| nsw 199 hq399 <| nsw 200 hq3910 <| qw hR rfl (y_ldp1 · rfl hlq39 hmq39 (hcq39 5 _ rfl) underlying35 rfl) <| qw hR rfl (y_lenSlice · rfl underlying35) <| qw hR rfl (y_wadd · rfl rfl) <| qw hR rfl (y_move · rfl) <| qw hR rfl (y_move · rfl) fun a s => ?_
   obtain ⟨p40, hep40, hlq41, hmq41, csq41, hdq41, hcq41⟩ := SlR.elemX (s.ft 101 rfl) hx18
   refine S s <| qw hR rfl (y_elem (sz := 10) (i := t_14) · rfl rfl underlying22 rfl hep40 rfl (lt_of_get hx18)) <| qw hR rfl (y_ptrField (o' := 6) · rfl underlying38 rfl rfl rfl) fun a s => ?_
   obtain ⟨Aq412, cq412, Aq413, cq413, Aq414, cq414, Aq415, cq415, Aq416, cq416, Aq417, cq417, Aq418, cq418, Aq419, cq419, Aq4110, cq4110, rfl, lq411, hq412, hq413, hq414, hq415, hq416, hq417, hq418, hq419, hq4110⟩ := RModule.open hdq41
   refine S s <| nsw 201 hq412 <| nsw 202 hq413 <| nsw 203 hq414 <| nsw 204 hq415 <| nsw 205 hq416 <| nsw 206 hq417 <| nsw 207 hq418 <| nsw 208 hq419 <| nsw 209 hq4110 <| qw hR rfl (y_ldp1 · rfl hlq41 hmq41 (hcq41 6 _ rfl) underlying33 rfl) <| qw hR rfl (y_lenSlice · rfl underlying33) <| qw hR rfl (y_wadd · rfl rfl) <| qw hR rfl (y_move · rfl) <| qw hR rfl (y_move · rfl) fun a s => ?_
   obtain ⟨p42, hep42, hlq43, hmq43, csq43, hdq43, hcq43⟩ := SlR.elemX (s.ft 101 rfl) hx18
   refine S s <| qw hR rfl (y_elem (sz := 10) (i := t_14) · rfl rfl underlying22 rfl hep42 rfl (lt_of_get hx18)) <| qw hR rfl (y_ptrField (o' := 7) · rfl underlying38 rfl rfl rfl) fun a s => ?_
   obtain ⟨Aq432, cq432, Aq433, cq433, Aq434, cq434, Aq435, cq435, Aq436, cq436, Aq437, cq437, Aq438, cq438, Aq439, cq439, Aq4310, cq4310, rfl, lq431, hq432, hq433, hq434, hq435, hq436, hq437, hq438, hq439, hq4310⟩ := RModule.open hdq43
   refine S s <| nsw 210 hq432 <| nsw 211 hq433 <| nsw 212 hq434 <| nsw 213 hq435 <| nsw 214 hq436 <| nsw 215 hq437 <| nsw 216 hq438 <| nsw 217 hq439 <| nsw 218 hq4310 <| qw hR rfl (y_ldp1 · rfl hlq43 hmq43 (hcq43 7 _ rfl) underlying33 rfl) <| qw hR rfl (y_lenSlice · rfl underlying33) <| qw hR rfl (y_wadd · rfl rfl) <| qw hR rfl (y_move · rfl) <| qw hR rfl (y_move · rfl) fun a s => ?_
   obtain ⟨p44, hep44, hlq45, hmq45, csq45, hdq45, hcq45⟩ := SlR.elemX (s.ft 101 rfl) hx18
   refine S s <| qw hR rfl (y_elem (sz := 10) (i := t_14) · rfl rfl underlying22 rfl hep44 rfl (lt_of_get hx18)) <| qw hR rfl (y_ptrField (o' := 1) · rfl underlying38 rfl rfl rfl) fun a s => ?_
   obtain ⟨Aq452, cq452, Aq453, cq453, Aq454, cq454, Aq455, cq455, Aq456, cq456, Aq457, cq457, Aq458, cq458, Aq459, cq459, Aq4510, cq4510, rfl, lq451, hq452, hq453, hq454, hq455, hq456, hq457, hq458, hq459, hq4510⟩ := RModule.open hdq45
   refine S s <| nsw 219 hq452 <| nsw 220 hq453 <| nsw 221 hq454 <| nsw 222 hq455 <| nsw 223 hq456 <| nsw 224 hq457 <| nsw 225 hq458 <| nsw 226 hq459 <| nsw 227 hq4510 <| qw hR rfl (y_ldp1 · rfl hlq45 hmq45 (hcq45 1 _ rfl) underlying25 rfl) <| qw hR rfl (y_lenSlice · rfl underlying25) <| qw hR rfl (y_wadd · rfl rfl) <| qw hR rfl (y_assign · rfl) fun a s => ?_
   clear hR hZ
   refine p_inN ?_
   refine S s <| pw <| lw <| mw rfl <| yw rfl (y_addN (i := t_14) (j := 1) · rfl rfl (in64.2 (by omega))) <| aw rfl <| nw fun a s => ?_
   exact ⟨m1, Nat.lt_succ_self _, ⟨(IntKind.i64.wrap ((IntKind.i64.wrap ((IntKind.i64.wrap ((IntKind.i64.wrap ((IntKind.i64.wrap ((IntKind.i64.wrap ((IntKind.i64.wrap (t_13 + (((x18.Types).length : Nat) : Int))) + (((x18.Templates).length : Nat) : Int))) + (((x18.Entries).length : Nat) : Int))) + (((x18.LexRules).length : Nat) : Int))) + (((x18.Rules).length : Nat) : Int))) + (((x18.Roots).length : Nat) : Int))) + (((x18.Imports).length : Nat) : Int))), (t_14 + 1), hg, (s.sb rfl rfl rfl)⟩⟩
  replace hg := br_f hg hc15
  apply wp_exit
  refine p_then ?_
  refine p_then ?_
  refine p_in ?_
  apply pN
  exact ⟨(t_13), hg, (s.sb rfl rfl rfl)⟩
 clear s a; rintro a w ⟨t_12, hg, s⟩
 subst hk11
 obtain ⟨r46, hr46, hg⟩ := bind_some hg
 refine S s <| sw <| lw <| mw rfl fun a s => ?_
 refine lC s rfl func23 (c_r21_Print n _ _ s.lt _ _ _ (s.ft 101 rfl) _ hr46) fun v49 a w hK hp s => ?_
 obtain ⟨rfl, lu50a1⟩ := hp
 refine S s <| mw rfl <| yw rfl (y_extract · rfl rfl) <| yw rfl (y_extract · rfl rfl) <| aw rfl <| aw rfl <| nw <| sw fun a s => ?_
 rcases Decidable.em (t_12 ≤ 40) with hs51 | hs51
 ·have hs51e := decide_eq_true hs51
  replace hg := br_t hg hs51
  refine S s <| lw <| mw rfl <| yw rfl (fun s => yl_b (y_leq s rfl rfl) hs51e) <| mw rfl <| hw rfl <| zw rfl (y_eql · rfl rfl) <| yw rfl (y_pick_t · rfl rfl) <| aw rfl <| nw fun a s => ?_
  apply wp_ret
  obtain rfl := Option.some.inj hg
  exact fin1 (fn := Tryz.f10) s rfl (r_tmp s rfl) rfl
 have hs51e := decide_eq_false hs51
 replace hg := br_f hg hs51
 refine S s <| lw <| mw rfl <| yw rfl (fun s => yl_b (y_leq s rfl rfl) hs51e) <| mw rfl <| gw rfl <| gw rfl <| yw rfl (y_pick_f · rfl rfl) <| aw rfl <| nw fun a s => ?_
 apply wp_ret
 obtain rfl := Option.some.inj hg
 exact fin1 (fn := Tryz.f10) s rfl (r_tmp s rfl) rfl
set_option maxHeartbeats 1000000 in
theorem c_slices_IndexFunc_Module (n : Nat) (M : Bs) (w0 : World) (hM : ∀ b, M b → b < w0.heap.size) (s_ : (List Module)) (Ap01 : Option Addr) (cp01 : Nat) (hp01 : sR RModule M w0 Ap01 cp01 s_) (f_ : (Module → Option Bool)) (Ap11 : FuncId) (cp11 : List Value) (hp11 : FnR Tryz.prog Ap11 cp11 pre66 post66 (f_) M w0) (r : Int) (hg : slices_IndexFunc_Module n s_ f_ = some r) :
    Calls Tryz.prog 55 [sl Ap01 s_ cp01, .func (.func Ap11) #[] (List.toArray cp11)].toArray w0 (Ret noB w0 fun v w => v = .int .i64 (r)) := by
 unfold slices_IndexFunc_Module at hg
 refine enter M noB func55 rfl rfl hM ?_
 intro a s
 replace s := s.es 101 hp01
 replace s := s.add 102 (fnF Tryz.prog Ap11 cp11 pre66 post66 (f_)) (by exact Fact.change _ enterM hp11)
 refine S s <| vw <| aw rfl <| nw <| sw <| vw <| mw rfl <| yw rfl (y_lenSlice · rfl underlying22) <| mw rfl <| nw <| bw fun a s => ?_
 refine c_loop (σ := Nat) (fun m1 a w => ∃ (t_1 : Nat), slices_IndexFunc_Module_L0 n s_ f_ m1 t_1 = some r ∧ St (cx f55 M w0) [(0, sl Ap01 s_ cp01), (1, .func (.func Ap11) #[] (List.toArray cp11)), (7, vI ((((s_).length : Nat) : Int))), (8, vI (((t_1 : Nat) : Int)))] [] [(101, sF RModule Ap01 cp01 s_), (102, fnF Tryz.prog Ap11 cp11 pre66 post66 (f_))] a w) (fun m1 => m1) n ⟨(0), hg, (s.sb rfl rfl rfl)⟩ ?_
 clear s a; rintro m1 a w ⟨t_1, hg, s⟩
 rcases m1 with _ | m1
 ·rw [slices_IndexFunc_Module_L0] at hg; cases hg
 rw [slices_IndexFunc_Module_L0] at hg
 refine S s <| vw <| yw rfl (y_lssN (i := t_1) (j := ((s_).length)) · rfl rfl) <| nw <| sw fun a s => c_dec s rfl (fun hc2 => ?_) (fun hc2 => ?_)
 ·replace hg := br_t hg hc2
  have hmx3 := SlR.mx (s.ft 101 rfl)
  obtain ⟨x5, hx5, hg⟩ := bind_some hg
  obtain ⟨r7, hr7, hg⟩ := bind_some hg
  refine S s <| kw <| pw <| sw <| bw <| vw <| mw rfl <| aw rfl <| nw <| sw <| lw <| mw rfl <| mw rfl <| mw rfl fun a s => ?_
  obtain ⟨p10, hep10, hlq11, hmq11, csq11, hdq11, hcq11⟩ := SlR.elemX (s.ft 101 rfl) hx5
  refine qq s rfl (y_elem (sz := 10) (i := t_1) s rfl rfl underlying22 rfl hep10 rfl (lt_of_get hx5)) fun a s => ?_
  obtain ⟨Aq112, cq112, Aq113, cq113, Aq114, cq114, Aq115, cq115, Aq116, cq116, Aq117, cq117, Aq118, cq118, Aq119, cq119, Aq1110, cq1110, rfl, lq111, hq112, hq113, hq114, hq115, hq116, hq117, hq118, hq119, hq1110⟩ := RModule.open hdq11
  refine S s <| nsw 112 hq112 <| nsw 113 hq113 <| nsw 114 hq114 <| nsw 115 hq115 <| nsw 116 hq116 <| nsw 117 hq117 <| nsw 118 hq118 <| nsw 119 hq119 <| nsw 120 hq1110 <| yw rfl (y_ldp · rfl hlq11 hmq11 (by simpa using hcq11) underlying38 rfl rfl) fun a s => ?_
  refine l_seq rfl (l_callFn (cap := cp11) (x := x5) s rfl (s.ft 102 rfl) rfl rfl ⟨(Aq112), (cq112), (Aq113), (cq113), (Aq114), (cq114), (Aq115), (cq115), (Aq116), (cq116), (Aq117), (cq117), (Aq118), (cq118), (Aq119), (cq119), (Aq1110), (cq1110), rfl, (by omega), (s.ft 112 rfl), (s.ft 113 rfl), (s.ft 114 rfl), (s.ft 115 rfl), (s.ft 116 rfl), (s.ft 117 rfl), (s.ft 118 rfl), (s.ft 119 rfl), (s.ft 120 rfl)⟩ hr7 fun v12 a w hK hp s => ?_)
  obtain rfl := hp
  apply wN
  refine c_cond s rfl (fun hc14 => ?_) (fun hc14 => ?_)
  ·replace hg := br_t hg hc14
   refine S s <| vw <| mw rfl <| aw rfl <| nw fun a s => ?_
   apply wp_ret
   refine p_inR ?_
   refine p_thenR ?_
   refine p_thenR ?_
   refine p_inR ?_
   refine p_thenR ?_
   obtain rfl := Option.some.inj hg
   exact fin1 (fn := Tryz.f55) s rfl (r_tmp s rfl) rfl
  replace hg := br_n hg hc14
  apply wp_skip
  refine p_inN ?_
  refine S s <| pw <| lw <| yw rfl (y_addN (i := t_1) (j := 1) · rfl rfl (in64.2 (by omega))) <| mw rfl <| nw fun a s => ?_
  exact ⟨m1, Nat.lt_succ_self _, ⟨(t_1 + 1), hg, (s.sb rfl rfl rfl)⟩⟩
 replace hg := br_f hg hc2
 apply wp_exit
 refine p_then ?_
 refine p_then ?_
 refine p_in ?_
 refine S s <| pw <| vw <| aw rfl <| nw fun a s => ?_
 apply wp_ret
 obtain rfl := Option.some.inj hg
 exact fin1 (fn := Tryz.f55) s rfl (r_tmp s rfl) rfl
set_option maxHeartbeats 1000000 in
theorem c_module_find_1 (n : Nat) (M : Bs) (w0 : World) (hM : ∀ b, M b → b < w0.heap.size) (m_ : Module) (Ap02 : Option Addr) (cp02 : Nat) (Ap03 : Option Addr) (cp03 : Nat) (Ap04 : Option Addr) (cp04 : Nat) (Ap05 : Option Addr) (cp05 : Nat) (Ap06 : Option Addr) (cp06 : Nat) (Ap07 : Option Addr) (cp07 : Nat) (Ap08 : Option Addr) (cp08 : Nat) (Ap09 : Option Addr) (cp09 : Nat) (Ap010 : Option Addr) (cp010 : Nat) (lp01 : (m_.Name).length ≤ 9223372036854775807) (hp02 : sR Rep.str M w0 Ap02 cp02 m_.Imports) (hp03 : sR RTypeDecl M w0 Ap03 cp03 m_.Types) (hp04 : sR RDef M w0 Ap04 cp04 m_.Templates) (hp05 : sR REntryDecl M w0 Ap05 cp05 m_.Entries) (hp06 : sR RLexDecl M w0 Ap06 cp06 m_.LexRules) (hp07 : sR RDef M w0 Ap07 cp07 m_.Rules) (hp08 : sR RDef M w0 Ap08 cp08 m_.Roots) (hp09 : sR (Rep.list Rep.str) M w0 Ap09 cp09 m_.Checks) (hp010 : sR Rep.str M w0 Ap010 cp010 m_.Drops) (bf0 : Nat) (c0_ : (List UInt8)) (lf01 : (c0_).length ≤ 9223372036854775807) (hb0 : BoxR bf0 [.string (bs (c0_))] 9 M w0) (r : Bool) (hg : module_find_1 n m_ c0_ = some r) :
    Calls Tryz.prog 56 [.agg #[vT m_.Name, sl Ap02 m_.Imports cp02, sl Ap03 m_.Types cp03, sl Ap04 m_.Templates cp04, sl Ap05 m_.Entries cp05, sl Ap06 m_.LexRules cp06, sl Ap07 m_.Rules cp07, sl Ap08 m_.Roots cp08, sl Ap09 m_.Checks cp09, sl Ap010 m_.Drops cp010], .pointer (some ⟨bf0, 0, none⟩)].toArray w0 (Ret noB w0 fun v w => v = .bool (r)) := by
 unfold module_find_1 at hg
 refine enter M noB func56 rfl rfl hM ?_
 intro a s
 replace s := s.es 101 hp02 |>.es 102 hp03 |>.es 103 hp04 |>.es 104 hp05 |>.es 105 hp06 |>.es 106 hp07 |>.es 107 hp08 |>.es 108 hp09 |>.es 109 hp010
 replace s := s.ebx 110 hb0
 apply wR
 refine l_seq rfl (l_box (zs := [vT m_.Name, sl Ap02 m_.Imports cp02, sl Ap03 m_.Types cp03, sl Ap04 m_.Templates cp04, sl Ap05 m_.Entries cp05, sl Ap06 m_.LexRules cp06, sl Ap07 m_.Rules cp07, sl Ap08 m_.Roots cp08, sl Ap09 m_.Checks cp09, sl Ap010 m_.Drops cp010]) s 1000 rfl rfl rfl rfl fun b2 a w hb hK s => ?_)
 refine S s <| aw rfl <| nw <| vw <| yw rfl (y_boxField (o' := 0) · rfl underlying38 rfl rfl rfl) <| yw rfl (y_loadBox1 (kk := 1000) · rfl rfl rfl underlying9 rfl) <| yw rfl (fun s => y_loadF1 s rfl (s.ft 110 rfl) rfl underlying9 rfl) <| yw rfl (y_seq · rfl rfl) <| aw rfl <| nw fun a s => ?_
 apply wp_ret
 obtain rfl := Option.some.inj hg
 exact fin1 (fn := Tryz.f56) s rfl (r_tmp s rfl) rfl
end Go.Proofs.YtbhjplflnkidgaaGreat


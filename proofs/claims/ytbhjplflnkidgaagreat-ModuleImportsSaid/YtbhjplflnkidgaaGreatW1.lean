/- Chapter 22: the walks, part 1 -/
import Derived.Test.YtbhjplflnkidgaaGreatA2
namespace Go.Proofs.YtbhjplflnkidgaaGreat
open Go.Gl Go.RowKit Tryz
set_option linter.unusedVariables false
set_option linter.unusedSimpArgs false
set_option maxRecDepth 4000

set_option maxHeartbeats 1000000 in
theorem c_r21_count (n : Nat) (M : Bs) (w0 : World) (hM : ∀ b, M b → b < w0.heap.size) (m_ : Module) (Ap02 : Option Addr) (cp02 : Nat) (Ap03 : Option Addr) (cp03 : Nat) (Ap04 : Option Addr) (cp04 : Nat) (Ap05 : Option Addr) (cp05 : Nat) (Ap06 : Option Addr) (cp06 : Nat) (Ap07 : Option Addr) (cp07 : Nat) (Ap08 : Option Addr) (cp08 : Nat) (Ap09 : Option Addr) (cp09 : Nat) (Ap010 : Option Addr) (cp010 : Nat) (lp01 : (m_.Name).length ≤ 9223372036854775807) (hp02 : sR Rep.str M w0 Ap02 cp02 m_.Imports) (hp03 : sR RTypeDecl M w0 Ap03 cp03 m_.Types) (hp04 : sR RDef M w0 Ap04 cp04 m_.Templates) (hp05 : sR REntryDecl M w0 Ap05 cp05 m_.Entries) (hp06 : sR RLexDecl M w0 Ap06 cp06 m_.LexRules) (hp07 : sR RDef M w0 Ap07 cp07 m_.Rules) (hp08 : sR RDef M w0 Ap08 cp08 m_.Roots) (hp09 : sR (Rep.list Rep.str) M w0 Ap09 cp09 m_.Checks) (hp010 : sR Rep.str M w0 Ap010 cp010 m_.Drops) (r : Int) (hg : r21_count n m_ = some r) :
    Calls Tryz.prog 52 [.agg #[vT m_.Name, sl Ap02 m_.Imports cp02, sl Ap03 m_.Types cp03, sl Ap04 m_.Templates cp04, sl Ap05 m_.Entries cp05, sl Ap06 m_.LexRules cp06, sl Ap07 m_.Rules cp07, sl Ap08 m_.Roots cp08, sl Ap09 m_.Checks cp09, sl Ap010 m_.Drops cp010]].toArray w0 (Ret noB w0 fun v w => v = .int .i64 (r)) := by
 unfold r21_count at hg
 refine enter M noB func52 rfl rfl hM ?_
 intro a s
 refine S s <| esw 101 hp02 <| esw 102 hp03 <| esw 103 hp04 <| esw 104 hp05 <| esw 105 hp06 <| esw 106 hp07 <| esw 107 hp08 <| esw 108 hp09 <| esw 109 hp010 <| vw fun a s => ?_
 refine l_seq rfl (l_box (zs := [vT m_.Name, sl Ap02 m_.Imports cp02, sl Ap03 m_.Types cp03, sl Ap04 m_.Templates cp04, sl Ap05 m_.Entries cp05, sl Ap06 m_.LexRules cp06, sl Ap07 m_.Rules cp07, sl Ap08 m_.Roots cp08, sl Ap09 m_.Checks cp09, sl Ap010 m_.Drops cp010]) s 1000 rfl rfl rfl rfl fun b2 a w hb hK s => ?_)
 refine S s <| aw rfl <| nw <| vw <| yw rfl (y_boxField (o' := 2) · rfl underlying38 rfl rfl rfl) <| yw rfl (y_loadBox1 (kk := 1000) · rfl rfl rfl underlying32 rfl) <| yw rfl (y_lenSlice · rfl underlying32) <| yw rfl (y_boxField (o' := 3) · rfl underlying38 rfl rfl rfl) <| yw rfl (y_loadBox1 (kk := 1000) · rfl rfl rfl underlying33 rfl) <| yw rfl (y_lenSlice · rfl underlying33) <| yw rfl (y_wadd · rfl rfl) <| yw rfl (y_boxField (o' := 4) · rfl underlying38 rfl rfl rfl) <| yw rfl (y_loadBox1 (kk := 1000) · rfl rfl rfl underlying34 rfl) <| yw rfl (y_lenSlice · rfl underlying34) <| yw rfl (y_wadd · rfl rfl) <| yw rfl (y_boxField (o' := 5) · rfl underlying38 rfl rfl rfl) <| yw rfl (y_loadBox1 (kk := 1000) · rfl rfl rfl underlying35 rfl) <| yw rfl (y_lenSlice · rfl underlying35) <| yw rfl (y_wadd · rfl rfl) <| yw rfl (y_boxField (o' := 6) · rfl underlying38 rfl rfl rfl) <| yw rfl (y_loadBox1 (kk := 1000) · rfl rfl rfl underlying33 rfl) <| yw rfl (y_lenSlice · rfl underlying33) <| yw rfl (y_wadd · rfl rfl) <| yw rfl (y_boxField (o' := 7) · rfl underlying38 rfl rfl rfl) <| yw rfl (y_loadBox1 (kk := 1000) · rfl rfl rfl underlying33 rfl) <| yw rfl (y_lenSlice · rfl underlying33) <| yw rfl (y_wadd · rfl rfl) <| yw rfl (y_boxField (o' := 8) · rfl underlying38 rfl rfl rfl) <| yw rfl (y_loadBox1 (kk := 1000) · rfl rfl rfl underlying36 rfl) <| yw rfl (y_lenSlice · rfl underlying36) <| yw rfl (y_wadd · rfl rfl) <| aw rfl <| nw fun a s => ?_
 apply wp_ret
 obtain rfl := Option.some.inj hg
 exact fin1 (fn := Tryz.f52) s rfl (r_tmp s rfl) rfl
set_option maxHeartbeats 1000000 in
theorem c_r21_lightNames (n : Nat) (M : Bs) (w0 : World) (hM : ∀ b, M b → b < w0.heap.size) (l_ : (List (List UInt8))) (Ap01 : Option Addr) (cp01 : Nat) (hp01 : sR Rep.str M w0 Ap01 cp01 l_) (most_ : Int) (r : Bool) (hg : r21_lightNames n l_ most_ = some r) :
    Calls Tryz.prog 73 [sl Ap01 l_ cp01, .int .i64 (most_)].toArray w0 (Ret noB w0 fun v w => v = .bool (r)) := by
 unfold r21_lightNames at hg
 refine enter M noB func73 rfl rfl hM ?_
 intro a s
 refine S s <| esw 101 hp01 <| vw <| aw rfl <| nw <| sw <| vw <| mw rfl <| yw rfl (y_lenSlice · rfl underlying25) <| mw rfl <| yw rfl (y_gtr · rfl rfl) <| nw fun a s => c_dec s rfl (fun hc1 => ?_) (fun hc1 => ?_)
 ·replace hg := br_t hg hc1
  refine S s <| vw <| aw rfl <| nw fun a s => ?_
  apply wp_ret
  refine p_thenR ?_
  obtain rfl := Option.some.inj hg
  exact fin1 (fn := Tryz.f73) s rfl (r_tmp s rfl) rfl
 replace hg := br_f hg hc1
 refine S s <| kw <| pw <| sw <| vw <| aw rfl <| nw <| bw fun a s => ?_
 refine c_loop (σ := Nat) (fun m1 a w => ∃ (i_2 : Nat), r21_lightNames_L0 n l_ m1 i_2 = some r ∧ St (cx f73 M w0) [(0, sl Ap01 l_ cp01), (5, vI (((i_2 : Nat) : Int)))] [] [(101, sF Rep.str Ap01 cp01 l_)] a w) (fun m1 => m1) n ⟨(0), hg, (s.sb rfl rfl rfl)⟩ ?_
 clear s a; rintro m1 a w ⟨i_2, hg, s⟩
 rcases m1 with _ | m1
 ·rw [r21_lightNames_L0] at hg; cases hg
 rw [r21_lightNames_L0] at hg
 refine S s <| sw <| vw <| mw rfl <| mw rfl <| yw rfl (y_lenSlice · rfl underlying25) <| yw rfl (y_lssN (i := i_2) (j := ((l_).length)) · rfl rfl) <| nw fun a s => c_dec s rfl (fun hc3 => ?_) (fun hc3 => ?_)
 ·replace hg := br_t hg hc3
  have hmx4 := SlR.mx (s.ft 101 rfl)
  obtain ⟨x6, hx6, hg⟩ := bind_some hg
  refine S s <| kw <| pw <| sw <| bw <| sw <| lw <| mw rfl <| mw rfl fun a s => ?_
  obtain ⟨p8, hep8, hlq9, hmq9, csq9, hdq9, hcq9⟩ := SlR.elemX (s.ft 101 rfl) hx6
  refine qq s rfl (y_elem (sz := 1) (i := i_2) s rfl rfl underlying25 rfl hep8 rfl (lt_of_get hx6)) fun a s => ?_
  obtain ⟨rfl, lq91⟩ := hdq9
  refine S s <| yw rfl (y_ldp1 · rfl hlq9 hmq9 (hcq9 0 _ rfl) underlying9 rfl) <| yw rfl (y_lenStrN · rfl underlying9) <| yw rfl (y_gtrN (i := ((x6).length)) (j := 100) · rfl rfl) <| nw fun a s => c_dec s rfl (fun hc10 => ?_) (fun hc10 => ?_)
  ·replace hg := br_t hg hc10
   have hmx11 : (x6).length ≤ 9223372036854775807 := (by omega)
   refine S s <| vw <| aw rfl <| nw fun a s => ?_
   apply wp_ret
   refine p_inR ?_
   refine p_thenR ?_
   refine p_thenR ?_
   refine p_inR ?_
   refine p_thenR ?_
   obtain rfl := Option.some.inj hg
   exact fin1 (fn := Tryz.f73) s rfl (r_tmp s rfl) rfl
  replace hg := br_f hg hc10
  apply wp_skip
  refine p_inN ?_
  refine S s <| pw <| lw <| mw rfl <| yw rfl (y_addN (i := i_2) (j := 1) · rfl rfl (in64.2 (by omega))) <| aw rfl <| nw fun a s => ?_
  exact ⟨m1, Nat.lt_succ_self _, ⟨(i_2 + 1), hg, (s.sb rfl rfl rfl)⟩⟩
 replace hg := br_f hg hc3
 apply wp_exit
 refine p_then ?_
 refine p_then ?_
 refine p_in ?_
 refine S s <| pw <| vw <| aw rfl <| nw fun a s => ?_
 apply wp_ret
 obtain rfl := Option.some.inj hg
 exact fin1 (fn := Tryz.f73) s rfl (r_tmp s rfl) rfl
set_option maxHeartbeats 1000000 in
theorem c_r21_lightTypes (n : Nat) (M : Bs) (w0 : World) (hM : ∀ b, M b → b < w0.heap.size) (t_ : (List TypeDecl)) (Ap01 : Option Addr) (cp01 : Nat) (hp01 : sR RTypeDecl M w0 Ap01 cp01 t_) (r : Bool) (hg : r21_lightTypes n t_ = some r) :
    Calls Tryz.prog 74 [sl Ap01 t_ cp01].toArray w0 (Ret noB w0 fun v w => v = .bool (r)) := by
 unfold r21_lightTypes at hg
 refine enter M noB func74 rfl rfl hM ?_
 intro a s
 refine S s <| esw 101 hp01 <| vw <| aw rfl <| nw <| sw <| vw <| aw rfl <| nw <| bw fun a s => ?_
 refine c_loop (σ := Nat) (fun m1 a w => ∃ (t_1 : Nat), r21_lightTypes_L0 n t_ m1 t_1 = some r ∧ St (cx f74 M w0) [(0, sl Ap01 t_ cp01), (3, vI (((t_1 : Nat) : Int)))] [] [(101, sF RTypeDecl Ap01 cp01 t_)] a w) (fun m1 => m1) n ⟨(0), hg, (s.sb rfl rfl rfl)⟩ ?_
 clear s a; rintro m1 a w ⟨t_1, hg, s⟩
 rcases m1 with _ | m1
 ·rw [r21_lightTypes_L0] at hg; cases hg
 rw [r21_lightTypes_L0] at hg
 refine S s <| sw <| vw <| mw rfl <| mw rfl <| yw rfl (y_lenSlice · rfl underlying32) <| yw rfl (y_lssN (i := t_1) (j := ((t_).length)) · rfl rfl) <| nw fun a s => c_dec s rfl (fun hc2 => ?_) (fun hc2 => ?_)
 ·replace hg := br_t hg hc2
  have hmx3 := SlR.mx (s.ft 101 rfl)
  apply wp_skip
  apply pN
  apply wQ
  obtain ⟨k4, hg, hk4⟩ := jn_some hg
  refine c_post (fun a w => k4 = some r ∧ St (cx f74 M w0) [(0, sl Ap01 t_ cp01), (3, vI (((t_1 : Nat) : Int)))] [] [(101, sF RTypeDecl Ap01 cp01 t_)] a w) ?_ ?_
  ·apply wp_block
   apply wQ
   apply wQ
   obtain ⟨k5, hg, hk5⟩ := jn_some hg
   refine c_post (fun a w => ∃ (t_6 : Bool), k5 t_6 = some r ∧ St (cx f74 M w0) [(0, sl Ap01 t_ cp01), (3, vI (((t_1 : Nat) : Int))), (35, .bool (t_6))] [] [(101, sF RTypeDecl Ap01 cp01 t_)] a w) ?_ ?_
   ·obtain ⟨x8, hx8, hg⟩ := bind_some hg
    rcases Decidable.em ((100 : Nat) < ((x8.Name).length)) with hs10 | hs10
    ·have hs10e := decide_eq_true hs10
     replace hg := br_t hg hs10
     refine S s <| lw <| mw rfl <| mw rfl fun a s => ?_
     obtain ⟨p11, hep11, hlq12, hmq12, csq12, hdq12, hcq12⟩ := SlR.elemX (s.ft 101 rfl) hx8
     refine S s <| yw rfl (y_elem (sz := 3) (i := t_1) · rfl rfl underlying32 rfl hep11 rfl (lt_of_get hx8)) <| yw rfl (y_ptrField (o' := 0) · rfl underlying49 rfl rfl rfl) fun a s => ?_
     obtain ⟨Aq122, cq122, Aq123, cq123, rfl, lq121, hq122, hq123⟩ := RTypeDecl.open hdq12
     refine S s <| nsw 104 hq122 <| nsw 105 hq123 <| yw rfl (y_ldp1 · rfl hlq12 hmq12 (hcq12 0 _ rfl) underlying9 rfl) <| yw rfl (y_lenStrN · rfl underlying9) <| yw rfl (fun s => yl_b (y_gtrN (i := ((x8.Name).length)) (j := 100) s rfl rfl) hs10e) <| mw rfl <| gw rfl <| gw rfl <| gw rfl <| gw rfl <| gw rfl <| gw rfl <| gw rfl <| yw rfl (y_pick_t · rfl rfl) <| mw rfl <| gw rfl <| gw rfl <| gw rfl <| gw rfl <| gw rfl <| gw rfl <| gw rfl <| yw rfl (y_pick_t · rfl rfl) <| nw fun a s => ?_
     exact ⟨(true), hg, (s.sb rfl rfl rfl)⟩
    have hs10e := decide_eq_false hs10
    replace hg := br_f hg hs10
    obtain ⟨r15, hr15, hg⟩ := bind_some hg
    rcases Bool.eq_false_or_eq_true (!(r15)) with hs18 | hs18
    ·replace hg := br_t hg hs18
     refine S s <| lw <| mw rfl <| mw rfl fun a s => ?_
     obtain ⟨p19, hep19, hlq20, hmq20, csq20, hdq20, hcq20⟩ := SlR.elemX (s.ft 101 rfl) hx8
     refine S s <| yw rfl (y_elem (sz := 3) (i := t_1) · rfl rfl underlying32 rfl hep19 rfl (lt_of_get hx8)) <| yw rfl (y_ptrField (o' := 0) · rfl underlying49 rfl rfl rfl) fun a s => ?_
     obtain ⟨Aq202, cq202, Aq203, cq203, rfl, lq201, hq202, hq203⟩ := RTypeDecl.open hdq20
     refine S s <| nsw 108 hq202 <| nsw 109 hq203 <| yw rfl (y_ldp1 · rfl hlq20 hmq20 (hcq20 0 _ rfl) underlying9 rfl) <| yw rfl (y_lenStrN · rfl underlying9) <| yw rfl (fun s => yl_b (y_gtrN (i := ((x8.Name).length)) (j := 100) s rfl rfl) hs10e) <| mw rfl <| hw rfl <| hw rfl fun a s => ?_
     obtain ⟨p21, hep21, hlq22, hmq22, csq22, hdq22, hcq22⟩ := SlR.elemX (s.ft 101 rfl) hx8
     refine S s <| zw rfl (y_elem (sz := 3) (i := t_1) · rfl rfl underlying32 rfl hep21 rfl (lt_of_get hx8)) <| zw rfl (y_ptrField (o' := 1) · rfl underlying49 rfl rfl rfl) fun a s => ?_
     obtain ⟨Aq222, cq222, Aq223, cq223, rfl, lq221, hq222, hq223⟩ := RTypeDecl.open hdq22
     refine S s <| nsw 110 hq222 <| nsw 111 hq223 <| zw rfl (y_ldp1 · rfl hlq22 hmq22 (hcq22 1 _ rfl) underlying25 rfl) fun a s => ?_
     refine gV s rfl func73 (c_r21_lightNames n _ _ s.lt _ _ _ (s.ft 110 rfl) _ _ hr15) fun a w hK s => ?_
     refine S s <| zw rfl (fun s => yl_b (y_not s rfl) hs18) <| yw rfl (y_pick_f · rfl rfl) <| mw rfl <| gw rfl <| gw rfl <| gw rfl <| gw rfl <| gw rfl <| gw rfl <| gw rfl <| yw rfl (y_pick_t · rfl rfl) <| nw fun a s => ?_
     exact ⟨(true), hg, (s.sb rfl rfl rfl)⟩
    replace hg := br_n hg hs18
    refine S s <| lw <| mw rfl <| mw rfl fun a s => ?_
    obtain ⟨p27, hep27, hlq28, hmq28, csq28, hdq28, hcq28⟩ := SlR.elemX (s.ft 101 rfl) hx8
    refine S s <| yw rfl (y_elem (sz := 3) (i := t_1) · rfl rfl underlying32 rfl hep27 rfl (lt_of_get hx8)) <| yw rfl (y_ptrField (o' := 0) · rfl underlying49 rfl rfl rfl) fun a s => ?_
    obtain ⟨Aq282, cq282, Aq283, cq283, rfl, lq281, hq282, hq283⟩ := RTypeDecl.open hdq28
    refine S s <| nsw 114 hq282 <| nsw 115 hq283 <| yw rfl (y_ldp1 · rfl hlq28 hmq28 (hcq28 0 _ rfl) underlying9 rfl) <| yw rfl (y_lenStrN · rfl underlying9) <| yw rfl (fun s => yl_b (y_gtrN (i := ((x8.Name).length)) (j := 100) s rfl rfl) hs10e) <| mw rfl <| hw rfl <| hw rfl fun a s => ?_
    obtain ⟨p29, hep29, hlq30, hmq30, csq30, hdq30, hcq30⟩ := SlR.elemX (s.ft 101 rfl) hx8
    refine S s <| zw rfl (y_elem (sz := 3) (i := t_1) · rfl rfl underlying32 rfl hep29 rfl (lt_of_get hx8)) <| zw rfl (y_ptrField (o' := 1) · rfl underlying49 rfl rfl rfl) fun a s => ?_
    obtain ⟨Aq302, cq302, Aq303, cq303, rfl, lq301, hq302, hq303⟩ := RTypeDecl.open hdq30
    refine S s <| nsw 116 hq302 <| nsw 117 hq303 <| zw rfl (y_ldp1 · rfl hlq30 hmq30 (hcq30 1 _ rfl) underlying25 rfl) fun a s => ?_
    refine gV s rfl func73 (c_r21_lightNames n _ _ s.lt _ _ _ (s.ft 116 rfl) _ _ hr15) fun a w hK s => ?_
    refine S s <| zw rfl (fun s => yl_b (y_not s rfl) hs18) <| yw rfl (y_pick_f · rfl rfl) <| mw rfl <| hw rfl <| hw rfl fun a s => ?_
    obtain ⟨p33, hep33, hlq34, hmq34, csq34, hdq34, hcq34⟩ := SlR.elemX (s.ft 101 rfl) hx8
    refine S s <| zw rfl (y_elem (sz := 3) (i := t_1) · rfl rfl underlying32 rfl hep33 rfl (lt_of_get hx8)) <| zw rfl (y_ptrField (o' := 2) · rfl underlying49 rfl rfl rfl) fun a s => ?_
    obtain ⟨Aq342, cq342, Aq343, cq343, rfl, lq341, hq342, hq343⟩ := RTypeDecl.open hdq34
    refine S s <| nsw 118 hq342 <| nsw 119 hq343 <| zw rfl (y_ldp1 · rfl hlq34 hmq34 (hcq34 2 _ rfl) underlying47 rfl) <| zw rfl (y_lenSlice · rfl underlying47) <| zw rfl (y_gtrN (i := ((x8.Feats).length)) (j := 260) · rfl rfl) <| yw rfl (y_pick_f · rfl rfl) <| nw fun a s => ?_
    exact ⟨(decide ((260 : Nat) < ((x8.Feats).length))), hg, (s.sb rfl rfl rfl)⟩
   clear s a; rintro a w ⟨t_6, hg, s⟩
   subst hk5
   refine c_cond s rfl (fun hc35 => ?_) (fun hc35 => ?_)
   ·replace hg := br_t hg hc35
    refine S s <| vw <| aw rfl <| nw fun a s => ?_
    apply wp_ret
    refine p_thenR ?_
    refine p_inR ?_
    refine p_thenR ?_
    refine p_thenR ?_
    refine p_inR ?_
    refine p_thenR ?_
    obtain rfl := Option.some.inj hg
    exact fin1 (fn := Tryz.f74) s rfl (r_tmp s rfl) rfl
   replace hg := br_n hg hc35
   refine S s <| kw <| pw <| vw <| aw rfl <| nw <| bw fun a s => ?_
   refine c_loop (σ := Nat) (fun m2 a w => ∃ (t_36 : Nat), r21_lightTypes_L1 n t_ t_1 k4 m2 t_36 = some r ∧ St (cx f74 M w0) [(0, sl Ap01 t_ cp01), (3, vI (((t_1 : Nat) : Int))), (4, vI (((t_36 : Nat) : Int)))] [] [(101, sF RTypeDecl Ap01 cp01 t_)] a w) (fun m2 => m2) n ⟨(0), hg, (s.sb rfl rfl rfl)⟩ ?_
   clear s a; rintro m2 a w ⟨t_36, hg, s⟩
   rcases m2 with _ | m2
   ·rw [r21_lightTypes_L1] at hg; cases hg
   rw [r21_lightTypes_L1] at hg
   obtain ⟨x38, hx38, hg⟩ := bind_some hg
   refine S s <| sw <| sw <| lw <| mw rfl <| mw rfl <| mw rfl fun a s => ?_
   obtain ⟨p40, hep40, hlq41, hmq41, csq41, hdq41, hcq41⟩ := SlR.elemX (s.ft 101 rfl) hx38
   refine S s <| yw rfl (y_elem (sz := 3) (i := t_1) · rfl rfl underlying32 rfl hep40 rfl (lt_of_get hx38)) <| yw rfl (y_ptrField (o' := 2) · rfl underlying49 rfl rfl rfl) fun a s => ?_
   obtain ⟨Aq412, cq412, Aq413, cq413, rfl, lq411, hq412, hq413⟩ := RTypeDecl.open hdq41
   refine S s <| nsw 122 hq412 <| nsw 123 hq413 <| yw rfl (y_ldp1 · rfl hlq41 hmq41 (hcq41 2 _ rfl) underlying47 rfl) <| yw rfl (y_lenSlice · rfl underlying47) <| yw rfl (y_lssN (i := t_36) (j := ((x38.Feats).length)) · rfl rfl) <| nw fun a s => c_dec s rfl (fun hc42 => ?_) (fun hc42 => ?_)
   ·replace hg := br_t hg hc42
    have hmx43 := SlR.mx (s.ft 123 rfl)
    refine S s <| kw <| pw <| sw <| bw <| sw fun a s => ?_
    obtain ⟨k44, hg, hk44⟩ := jn_some hg
    refine c_post (fun a w => ∃ (t_45 : Bool), k44 t_45 = some r ∧ St (cx f74 M w0) [(0, sl Ap01 t_ cp01), (3, vI (((t_1 : Nat) : Int))), (4, vI (((t_36 : Nat) : Int))), (69, .bool (t_45))] [] [(101, sF RTypeDecl Ap01 cp01 t_)] a w) ?_ ?_
    ·obtain ⟨x49, hx49, hg⟩ := bind_some hg
     rcases Decidable.em ((100 : Nat) < ((x49.Feat).length)) with hs51 | hs51
     ·have hs51e := decide_eq_true hs51
      replace hg := br_t hg hs51
      refine S s <| lw <| mw rfl <| mw rfl fun a s => ?_
      obtain ⟨p52, hep52, hlq53, hmq53, csq53, hdq53, hcq53⟩ := SlR.elemX (s.ft 101 rfl) hx38
      refine S s <| yw rfl (y_elem (sz := 3) (i := t_1) · rfl rfl underlying32 rfl hep52 rfl (lt_of_get hx38)) <| yw rfl (y_ptrField (o' := 2) · rfl underlying49 rfl rfl rfl) fun a s => ?_
      obtain ⟨Aq532, cq532, Aq533, cq533, rfl, lq531, hq532, hq533⟩ := RTypeDecl.open hdq53
      refine S s <| nsw 126 hq532 <| nsw 127 hq533 <| yw rfl (y_ldp1 · rfl hlq53 hmq53 (hcq53 2 _ rfl) underlying47 rfl) <| mw rfl fun a s => ?_
      obtain ⟨p54, hep54, hlq55, hmq55, csq55, hdq55, hcq55⟩ := SlR.elemX (s.ft 127 rfl) hx49
      refine S s <| yw rfl (y_elem (sz := 2) (i := t_36) · rfl rfl underlying47 rfl hep54 rfl (lt_of_get hx49)) <| yw rfl (y_ptrField (o' := 0) · rfl underlying82 rfl rfl rfl) fun a s => ?_
      obtain ⟨rfl, lq551, lq552⟩ := RFeatDecl.open hdq55
      refine S s <| yw rfl (y_ldp1 · rfl hlq55 hmq55 (hcq55 0 _ rfl) underlying9 rfl) <| yw rfl (y_lenStrN · rfl underlying9) <| yw rfl (fun s => yl_b (y_gtrN (i := ((x49.Feat).length)) (j := 100) s rfl rfl) hs51e) <| mw rfl <| gw rfl <| gw rfl <| gw rfl <| gw rfl <| gw rfl <| gw rfl <| gw rfl <| gw rfl <| gw rfl <| gw rfl <| gw rfl <| yw rfl (y_pick_t · rfl rfl) <| nw fun a s => ?_
      exact ⟨(true), hg, (s.sb rfl rfl rfl)⟩
     have hs51e := decide_eq_false hs51
     replace hg := br_f hg hs51
     refine S s <| lw <| mw rfl <| mw rfl fun a s => ?_
     obtain ⟨p60, hep60, hlq61, hmq61, csq61, hdq61, hcq61⟩ := SlR.elemX (s.ft 101 rfl) hx38
     refine S s <| yw rfl (y_elem (sz := 3) (i := t_1) · rfl rfl underlying32 rfl hep60 rfl (lt_of_get hx38)) <| yw rfl (y_ptrField (o' := 2) · rfl underlying49 rfl rfl rfl) fun a s => ?_
     obtain ⟨Aq612, cq612, Aq613, cq613, rfl, lq611, hq612, hq613⟩ := RTypeDecl.open hdq61
     refine S s <| nsw 130 hq612 <| nsw 131 hq613 <| yw rfl (y_ldp1 · rfl hlq61 hmq61 (hcq61 2 _ rfl) underlying47 rfl) <| mw rfl fun a s => ?_
     obtain ⟨p62, hep62, hlq63, hmq63, csq63, hdq63, hcq63⟩ := SlR.elemX (s.ft 131 rfl) hx49
     refine S s <| yw rfl (y_elem (sz := 2) (i := t_36) · rfl rfl underlying47 rfl hep62 rfl (lt_of_get hx49)) <| yw rfl (y_ptrField (o' := 0) · rfl underlying82 rfl rfl rfl) fun a s => ?_
     obtain ⟨rfl, lq631, lq632⟩ := RFeatDecl.open hdq63
     refine S s <| yw rfl (y_ldp1 · rfl hlq63 hmq63 (hcq63 0 _ rfl) underlying9 rfl) <| yw rfl (y_lenStrN · rfl underlying9) <| yw rfl (fun s => yl_b (y_gtrN (i := ((x49.Feat).length)) (j := 100) s rfl rfl) hs51e) <| mw rfl <| hw rfl <| hw rfl fun a s => ?_
     obtain ⟨p64, hep64, hlq65, hmq65, csq65, hdq65, hcq65⟩ := SlR.elemX (s.ft 101 rfl) hx38
     refine S s <| zw rfl (y_elem (sz := 3) (i := t_1) · rfl rfl underlying32 rfl hep64 rfl (lt_of_get hx38)) <| zw rfl (y_ptrField (o' := 2) · rfl underlying49 rfl rfl rfl) fun a s => ?_
     obtain ⟨Aq652, cq652, Aq653, cq653, rfl, lq651, hq652, hq653⟩ := RTypeDecl.open hdq65
     refine S s <| nsw 132 hq652 <| nsw 133 hq653 <| zw rfl (y_ldp1 · rfl hlq65 hmq65 (hcq65 2 _ rfl) underlying47 rfl) <| hw rfl fun a s => ?_
     obtain ⟨p66, hep66, hlq67, hmq67, csq67, hdq67, hcq67⟩ := SlR.elemX (s.ft 133 rfl) hx49
     refine S s <| zw rfl (y_elem (sz := 2) (i := t_36) · rfl rfl underlying47 rfl hep66 rfl (lt_of_get hx49)) <| zw rfl (y_ptrField (o' := 1) · rfl underlying82 rfl rfl rfl) fun a s => ?_
     obtain ⟨rfl, lq671, lq672⟩ := RFeatDecl.open hdq67
     refine S s <| zw rfl (y_ldp1 · rfl hlq67 hmq67 (hcq67 1 _ rfl) underlying9 rfl) <| zw rfl (y_lenStrN · rfl underlying9) <| zw rfl (y_gtrN (i := ((x49.Value).length)) (j := 100) · rfl rfl) <| yw rfl (y_pick_f · rfl rfl) <| nw fun a s => ?_
     exact ⟨(decide ((100 : Nat) < ((x49.Value).length))), hg, (s.sb rfl rfl rfl)⟩
    clear s a; rintro a w ⟨t_45, hg, s⟩
    subst hk44
    refine c_cond s rfl (fun hc68 => ?_) (fun hc68 => ?_)
    ·replace hg := br_t hg hc68
     refine S s <| vw <| aw rfl <| nw fun a s => ?_
     apply wp_ret
     refine p_inR ?_
     refine p_thenR ?_
     refine p_thenR ?_
     refine p_inR ?_
     refine p_inR ?_
     refine p_thenR ?_
     refine p_thenR ?_
     refine p_inR ?_
     refine p_thenR ?_
     obtain rfl := Option.some.inj hg
     exact fin1 (fn := Tryz.f74) s rfl (r_tmp s rfl) rfl
    replace hg := br_n hg hc68
    apply wp_skip
    refine p_inN ?_
    refine S s <| pw <| lw <| mw rfl <| yw rfl (y_addN (i := t_36) (j := 1) · rfl rfl (in64.2 (by omega))) <| aw rfl <| nw fun a s => ?_
    exact ⟨m2, Nat.lt_succ_self _, ⟨(t_36 + 1), hg, (s.sb rfl rfl rfl)⟩⟩
   replace hg := br_f hg hc42
   apply wp_exit
   refine p_then ?_
   refine p_then ?_
   refine p_in ?_
   refine p_inN ?_
   apply pN
   exact ⟨hg, (s.sb rfl rfl rfl)⟩
  clear s a; rintro a w ⟨hg, s⟩
  subst hk4
  refine S s <| lw <| mw rfl <| yw rfl (y_addN (i := t_1) (j := 1) · rfl rfl (in64.2 (by omega))) <| aw rfl <| nw fun a s => ?_
  exact ⟨m1, Nat.lt_succ_self _, ⟨(t_1 + 1), hg, (s.sb rfl rfl rfl)⟩⟩
 replace hg := br_f hg hc2
 apply wp_exit
 refine p_then ?_
 refine p_then ?_
 refine p_in ?_
 refine S s <| pw <| vw <| aw rfl <| nw fun a s => ?_
 apply wp_ret
 obtain rfl := Option.some.inj hg
 exact fin1 (fn := Tryz.f74) s rfl (r_tmp s rfl) rfl
set_option maxHeartbeats 1000000 in
theorem c_r19_weight (n : Nat) : ∀ (M : Bs) (w0 : World) (hM : ∀ b, M b → b < w0.heap.size) (t_ : Desc) (Ap03 : Option Addr) (cp03 : Nat) (Ap04 : Option Addr) (cp04 : Nat) (lp02 : (t_.Name).length ≤ 9223372036854775807) (hp03 : sR Rep.str M w0 Ap03 cp03 t_.Path) (hp04 : sR RDesc M w0 Ap04 cp04 t_.Kids) (t_' : Int) (t_'' : Int) (r : Int) (hg : r19_weight n t_ t_' t_'' = some r),
    Calls Tryz.prog 135 [.agg #[.int .i64 (t_.Op), vT t_.Name, sl Ap03 t_.Path cp03, sl Ap04 t_.Kids cp04], .int .i64 (t_'), .int .i64 (t_'')].toArray w0 (Ret noB w0 fun v w => v = .int .i64 (r)) := by
 induction n with
 | zero => intros; rename_i hg; rw [r19_weight] at hg; cases hg
 | succ n c_self =>
 intro M w0 hM t_ Ap03 cp03 Ap04 cp04 lp02 hp03 hp04 t_' t_'' r hg
 rw [r19_weight] at hg
 refine enter M noB func135 rfl rfl hM ?_
 intro a s
 let F : Al Fact := [(101, sF Rep.str Ap03 cp03 t_.Path), (102, sF RDesc Ap04 cp04 t_.Kids)]
 refine S s <| esw 101 hp03 <| esw 102 hp04 <| vw fun a s => ?_
 refine l_seq rfl (l_box (zs := [vI t_.Op, vT t_.Name, sl Ap03 t_.Path cp03, sl Ap04 t_.Kids cp04]) s 1000 rfl rfl rfl rfl fun b2 a w hb hK s => ?_)
 refine S s <| aw rfl <| nw <| sw <| sw fun a s => ?_
 obtain ⟨k3, hg, hk3⟩ := jn_some hg
 refine c_post (fun a w => ∃ (t_4 : Bool), k3 t_4 = some r ∧ St (cx f135 M w0) [(1, vI (t_')), (2, vI (t_'')), (3, vP b2 0), (30, .bool (t_4))] [(1000, Ob.box b2 [vI t_.Op, vT t_.Name, sl Ap03 t_.Path cp03, sl Ap04 t_.Kids cp04] 60)] F a w) ?_ ?_
 ·rcases Decidable.em ((80 : Int) < t_') with hs5 | hs5
  ·have hs5e := decide_eq_true hs5
   replace hg := br_t hg hs5
   refine S s <| lw <| mw rfl <| yw rfl (fun s => yl_b (y_gtr s rfl rfl) hs5e) <| mw rfl <| gw rfl <| gw rfl <| gw rfl <| gw rfl <| yw rfl (y_pick_t · rfl rfl) <| mw rfl <| gw rfl <| gw rfl <| gw rfl <| gw rfl <| yw rfl (y_pick_t · rfl rfl) <| mw rfl <| gw rfl <| gw rfl <| gw rfl <| gw rfl <| gw rfl <| yw rfl (y_pick_t · rfl rfl) <| nw fun a s => ?_
   exact ⟨(true), hg, (s.sb rfl rfl rfl)⟩
  have hs5e := decide_eq_false hs5
  replace hg := br_f hg hs5
  rcases Decidable.em ((60 : Nat) < ((t_.Name).length)) with hs6 | hs6
  ·have hs6e := decide_eq_true hs6
   replace hg := br_t hg hs6
   refine S s <| lw <| mw rfl <| yw rfl (fun s => yl_b (y_gtr s rfl rfl) hs5e) <| mw rfl <| zw rfl (y_boxField (o' := 1) · rfl underlying60 rfl rfl rfl) <| zw rfl (y_loadBox1 (kk := 1000) · rfl rfl rfl underlying9 rfl) <| zw rfl (y_lenStrN · rfl underlying9) <| zw rfl (fun s => yl_b (y_gtrN (i := ((t_.Name).length)) (j := 60) s rfl rfl) hs6e) <| yw rfl (y_pick_f · rfl rfl) <| mw rfl <| gw rfl <| gw rfl <| gw rfl <| gw rfl <| yw rfl (y_pick_t · rfl rfl) <| mw rfl <| gw rfl <| gw rfl <| gw rfl <| gw rfl <| gw rfl <| yw rfl (y_pick_t · rfl rfl) <| nw fun a s => ?_
   exact ⟨(true), hg, (s.sb rfl rfl rfl)⟩
  have hs6e := decide_eq_false hs6
  replace hg := br_f hg hs6
  rcases Decidable.em ((80 : Nat) < ((t_.Path).length)) with hs7 | hs7
  ·have hs7e := decide_eq_true hs7
   replace hg := br_t hg hs7
   have hmx8 := SlR.mx (s.ft 101 rfl)
   refine S s <| lw <| mw rfl <| yw rfl (fun s => yl_b (y_gtr s rfl rfl) hs5e) <| mw rfl <| zw rfl (y_boxField (o' := 1) · rfl underlying60 rfl rfl rfl) <| zw rfl (y_loadBox1 (kk := 1000) · rfl rfl rfl underlying9 rfl) <| zw rfl (y_lenStrN · rfl underlying9) <| zw rfl (fun s => yl_b (y_gtrN (i := ((t_.Name).length)) (j := 60) s rfl rfl) hs6e) <| yw rfl (y_pick_f · rfl rfl) <| mw rfl <| zw rfl (y_boxField (o' := 2) · rfl underlying60 rfl rfl rfl) <| zw rfl (y_loadBox1 (kk := 1000) · rfl rfl rfl underlying25 rfl) <| zw rfl (y_lenSlice · rfl underlying25) <| zw rfl (fun s => yl_b (y_gtrN (i := ((t_.Path).length)) (j := 80) s rfl rfl) hs7e) <| yw rfl (y_pick_f · rfl rfl) <| mw rfl <| gw rfl <| gw rfl <| gw rfl <| gw rfl <| gw rfl <| yw rfl (y_pick_t · rfl rfl) <| nw fun a s => ?_
   exact ⟨(true), hg, (s.sb rfl rfl rfl)⟩
  have hs7e := decide_eq_false hs7
  replace hg := br_f hg hs7
  refine S s <| lw <| mw rfl <| yw rfl (fun s => yl_b (y_gtr s rfl rfl) hs5e) <| mw rfl <| zw rfl (y_boxField (o' := 1) · rfl underlying60 rfl rfl rfl) <| zw rfl (y_loadBox1 (kk := 1000) · rfl rfl rfl underlying9 rfl) <| zw rfl (y_lenStrN · rfl underlying9) <| zw rfl (fun s => yl_b (y_gtrN (i := ((t_.Name).length)) (j := 60) s rfl rfl) hs6e) <| yw rfl (y_pick_f · rfl rfl) <| mw rfl <| zw rfl (y_boxField (o' := 2) · rfl underlying60 rfl rfl rfl) <| zw rfl (y_loadBox1 (kk := 1000) · rfl rfl rfl underlying25 rfl) <| zw rfl (y_lenSlice · rfl underlying25) <| zw rfl (fun s => yl_b (y_gtrN (i := ((t_.Path).length)) (j := 80) s rfl rfl) hs7e) <| yw rfl (y_pick_f · rfl rfl) <| mw rfl <| zw rfl (y_boxField (o' := 3) · rfl underlying60 rfl rfl rfl) <| zw rfl (y_loadBox1 (kk := 1000) · rfl rfl rfl underlying58 rfl) <| zw rfl (y_lenSlice · rfl underlying58) <| hw rfl <| zw rfl (y_gtr · rfl rfl) <| yw rfl (y_pick_f · rfl rfl) <| nw fun a s => ?_
  exact ⟨(decide (t_'' < (((t_.Kids).length : Nat) : Int))), hg, (s.sb rfl rfl rfl)⟩
 clear s a; rintro a w ⟨t_4, hg, s⟩
 subst hk3
 refine c_cond s rfl (fun hc9 => ?_) (fun hc9 => ?_)
 ·replace hg := br_t hg hc9
  obtain ⟨hk10, hg⟩ := chk_some hg
  refine S s <| sw <| lw <| mw rfl <| yw rfl (y_add · rfl rfl (in64.2 hk10)) <| aw rfl <| nw fun a s => ?_
  apply wp_ret
  refine p_thenR ?_
  obtain rfl := Option.some.inj hg
  exact fin1 (fn := Tryz.f135) s rfl (r_tmp s rfl) rfl
 replace hg := br_n hg hc9
 refine S s <| kw <| pw <| sw <| vw <| aw rfl <| nw fun a s => ?_
 obtain ⟨k11, hg, hk11⟩ := jn_some hg
 refine c_post (fun a w => k11 = some r ∧ St (cx f135 M w0) [(1, vI (t_')), (2, vI (t_'')), (3, vP b2 0)] [(1000, Ob.box b2 [vI t_.Op, vT t_.Name, sl Ap03 t_.Path cp03, sl Ap04 t_.Kids cp04] 60)] F a w) ?_ ?_
 ·apply wp_block
  refine c_loop (σ := Nat) (fun m1 a w => ∃ (t_12 : Nat), r19_weight_L0 n t_ t_'' k11 m1 t_12 = some r ∧ St (cx f135 M w0) [(1, vI (t_')), (2, vI (t_'')), (3, vP b2 0), (7, vI (((t_12 : Nat) : Int)))] [(1000, Ob.box b2 [vI t_.Op, vT t_.Name, sl Ap03 t_.Path cp03, sl Ap04 t_.Kids cp04] 60)] F a w) (fun m1 => m1) n ⟨(0), hg, (s.sb rfl rfl rfl)⟩ ?_
  clear s a; rintro m1 a w ⟨t_12, hg, s⟩
  rcases m1 with _ | m1
  ·rw [r19_weight_L0] at hg; cases hg
  rw [r19_weight_L0] at hg
  refine S s <| sw <| vw <| mw rfl <| yw rfl (y_boxField (o' := 2) · rfl underlying60 rfl rfl rfl) <| yw rfl (y_loadBox1 (kk := 1000) · rfl rfl rfl underlying25 rfl) <| yw rfl (y_lenSlice · rfl underlying25) <| yw rfl (y_lssN (i := t_12) (j := ((t_.Path).length)) · rfl rfl) <| nw fun a s => c_dec s rfl (fun hc13 => ?_) (fun hc13 => ?_)
  ·replace hg := br_t hg hc13
   have hmx14 := SlR.mx (s.ft 101 rfl)
   obtain ⟨x16, hx16, hg⟩ := bind_some hg
   refine S s <| kw <| pw <| sw <| bw <| sw <| lw <| yw rfl (y_boxField (o' := 2) · rfl underlying60 rfl rfl rfl) <| yw rfl (y_loadBox1 (kk := 1000) · rfl rfl rfl underlying25 rfl) <| mw rfl fun a s => ?_
   obtain ⟨p18, hep18, hlq19, hmq19, csq19, hdq19, hcq19⟩ := SlR.elemX (s.ft 101 rfl) hx16
   refine qq s rfl (y_elem (sz := 1) (i := t_12) s rfl rfl underlying25 rfl hep18 rfl (lt_of_get hx16)) fun a s => ?_
   obtain ⟨rfl, lq191⟩ := hdq19
   refine S s <| yw rfl (y_ldp1 · rfl hlq19 hmq19 (hcq19 0 _ rfl) underlying9 rfl) <| yw rfl (y_lenStrN · rfl underlying9) <| yw rfl (y_gtrN (i := ((x16).length)) (j := 60) · rfl rfl) <| nw fun a s => c_dec s rfl (fun hc20 => ?_) (fun hc20 => ?_)
   ·replace hg := br_t hg hc20
    have hmx21 : (x16).length ≤ 9223372036854775807 := (by omega)
    obtain ⟨hk22, hg⟩ := chk_some hg
    refine S s <| sw <| lw <| mw rfl <| yw rfl (y_add · rfl rfl (in64.2 hk22)) <| aw rfl <| nw fun a s => ?_
    apply wp_ret
    refine p_inR ?_
    refine p_thenR ?_
    refine p_thenR ?_
    refine p_inR ?_
    refine p_thenR ?_
    obtain rfl := Option.some.inj hg
    exact fin1 (fn := Tryz.f135) s rfl (r_tmp s rfl) rfl
   replace hg := br_f hg hc20
   apply wp_skip
   refine p_inN ?_
   refine S s <| pw <| lw <| mw rfl <| yw rfl (y_addN (i := t_12) (j := 1) · rfl rfl (in64.2 (by omega))) <| aw rfl <| nw fun a s => ?_
   exact ⟨m1, Nat.lt_succ_self _, ⟨(t_12 + 1), hg, (s.sb rfl rfl rfl)⟩⟩
  replace hg := br_f hg hc13
  apply wp_exit
  refine p_then ?_
  refine p_then ?_
  refine p_in ?_
  apply pN
  exact ⟨hg, (s.sb rfl rfl rfl)⟩
 clear s a; rintro a w ⟨hg, s⟩
 subst hk11
 refine S s <| vw <| aw rfl <| nw <| sw <| vw <| aw rfl <| nw <| bw fun a s => ?_
 refine c_loop (σ := Nat) (fun m2 a w => ∃ (t_23 : Int) (t_24 : Nat), r19_weight_L1 n t_ t_' t_'' (r19_weight n) m2 t_23 t_24 = some r ∧ St (cx f135 M w0) [(1, vI (t_')), (2, vI (t_'')), (3, vP b2 0), (8, vI t_23), (9, vI (((t_24 : Nat) : Int)))] [(1000, Ob.box b2 [vI t_.Op, vT t_.Name, sl Ap03 t_.Path cp03, sl Ap04 t_.Kids cp04] 60)] F a w) (fun m2 => m2) n ⟨(1), (0), hg, (s.sb rfl rfl rfl)⟩ ?_
 clear s a; rintro m2 a w ⟨t_23, t_24, hg, s⟩
 rcases m2 with _ | m2
 ·rw [r19_weight_L1] at hg; cases hg
 rw [r19_weight_L1] at hg
 apply wQ
 apply wQ
 obtain ⟨k25, hg, hk25⟩ := jn_some hg
 refine c_post (fun a w => ∃ (t_26 : Bool), k25 t_26 = some r ∧ St (cx f135 M w0) [(1, vI (t_')), (2, vI (t_'')), (3, vP b2 0), (8, vI t_23), (9, vI (((t_24 : Nat) : Int))), (58, .bool (t_26))] [(1000, Ob.box b2 [vI t_.Op, vT t_.Name, sl Ap03 t_.Path cp03, sl Ap04 t_.Kids cp04] 60)] F a w) ?_ ?_
 ·rcases Decidable.em (t_24 < ((t_.Kids).length)) with hs27 | hs27
  ·have hs27e := decide_eq_true hs27
   replace hg := br_t hg hs27
   have hmx28 := SlR.mx (s.ft 102 rfl)
   refine S s <| lw <| mw rfl <| yw rfl (y_boxField (o' := 3) · rfl underlying60 rfl rfl rfl) <| yw rfl (y_loadBox1 (kk := 1000) · rfl rfl rfl underlying58 rfl) <| yw rfl (y_lenSlice · rfl underlying58) <| yw rfl (fun s => yl_b (y_lssN (i := t_24) (j := ((t_.Kids).length)) s rfl rfl) hs27e) <| mw rfl <| hw rfl <| hw rfl <| zw rfl (y_leq · rfl rfl) <| yw rfl (y_pick_t · rfl rfl) <| nw fun a s => ?_
   exact ⟨(decide (t_23 ≤ t_'')), hg, (s.sb rfl rfl rfl)⟩
  have hs27e := decide_eq_false hs27
  replace hg := br_f hg hs27
  refine S s <| lw <| mw rfl <| yw rfl (y_boxField (o' := 3) · rfl underlying60 rfl rfl rfl) <| yw rfl (y_loadBox1 (kk := 1000) · rfl rfl rfl underlying58 rfl) <| yw rfl (y_lenSlice · rfl underlying58) <| yw rfl (fun s => yl_b (y_lssN (i := t_24) (j := ((t_.Kids).length)) s rfl rfl) hs27e) <| mw rfl <| gw rfl <| gw rfl <| gw rfl <| yw rfl (y_pick_f · rfl rfl) <| nw fun a s => ?_
  exact ⟨(false), hg, (s.sb rfl rfl rfl)⟩
 clear s a; rintro a w ⟨t_26, hg, s⟩
 subst hk25
 refine c_cond s rfl (fun hc29 => ?_) (fun hc29 => ?_)
 ·replace hg := br_t hg hc29
  obtain ⟨x31, hx31, hg⟩ := bind_some hg
  obtain ⟨hk33, hg⟩ := chk_some hg
  obtain ⟨r34, hr34, hg⟩ := bind_some hg
  obtain ⟨hk37, hg⟩ := chk_some hg
  refine S s <| kw <| pw <| sw <| bw <| lw <| mw rfl <| yw rfl (y_boxField (o' := 3) · rfl underlying60 rfl rfl rfl) <| yw rfl (y_loadBox1 (kk := 1000) · rfl rfl rfl underlying58 rfl) <| mw rfl fun a s => ?_
  obtain ⟨p38, hep38, hlq39, hmq39, csq39, hdq39, hcq39⟩ := SlR.elemX (s.ft 102 rfl) hx31
  refine qq s rfl (y_elem (sz := 4) (i := t_24) s rfl rfl underlying58 rfl hep38 rfl (lt_of_get hx31)) fun a s => ?_
  obtain ⟨Aq393, cq393, Aq394, cq394, rfl, lq392, hq393, hq394⟩ := RDesc.open hdq39
  refine S s <| nsw 105 hq393 <| nsw 106 hq394 <| yw rfl (y_ldp · rfl hlq39 hmq39 (by simpa using hcq39) underlying60 rfl rfl) <| mw rfl <| yw rfl (y_add · rfl rfl (in64.2 hk33)) <| mw rfl fun a s => ?_
  refine lV s rfl func135 (c_self _ _ s.lt _ _ _ _ _ (by omega) (s.ft 105 rfl) (s.ft 106 rfl) _ _ _ hr34) fun a w hK s => ?_
  refine S s <| yw rfl (y_add · rfl rfl (in64.2 hk37)) <| aw rfl fun a s => ?_
  apply wO
  refine p_inN ?_
  obtain ⟨hk42, hg⟩ := chk_some hg
  refine S s <| pw <| lw <| mw rfl <| yw rfl (y_addN (i := t_24) (j := 1) · rfl rfl (in64.2 (by omega))) <| aw rfl <| nw fun a s => ?_
  exact ⟨m2, Nat.lt_succ_self _, ⟨(t_23 + r34), (t_24 + 1), hg, (s.sb rfl rfl rfl)⟩⟩
 replace hg := br_n hg hc29
 apply wp_exit
 refine p_then ?_
 refine p_then ?_
 refine p_in ?_
 refine S s <| pw <| vw <| mw rfl <| aw rfl <| nw fun a s => ?_
 apply wp_ret
 obtain rfl := Option.some.inj hg
 exact fin1 (fn := Tryz.f135) s rfl (r_tmp s rfl) rfl
set_option maxHeartbeats 1000000 in
theorem c_r19_Light (n : Nat) (M : Bs) (w0 : World) (hM : ∀ b, M b → b < w0.heap.size) (d_ : Desc) (Ap03 : Option Addr) (cp03 : Nat) (Ap04 : Option Addr) (cp04 : Nat) (lp02 : (d_.Name).length ≤ 9223372036854775807) (hp03 : sR Rep.str M w0 Ap03 cp03 d_.Path) (hp04 : sR RDesc M w0 Ap04 cp04 d_.Kids) (most_ : Int) (r : Bool) (hg : r19_Light n d_ most_ = some r) :
    Calls Tryz.prog 126 [.agg #[.int .i64 (d_.Op), vT d_.Name, sl Ap03 d_.Path cp03, sl Ap04 d_.Kids cp04], .int .i64 (most_)].toArray w0 (Ret noB w0 fun v w => v = .bool (r)) := by
 unfold r19_Light at hg
 refine enter M noB func126 rfl rfl hM ?_
 intro a s
 refine S s <| esw 101 hp03 <| esw 102 hp04 <| vw fun a s => ?_
 refine l_seq rfl (l_box (zs := [vI d_.Op, vT d_.Name, sl Ap03 d_.Path cp03, sl Ap04 d_.Kids cp04]) s 1000 rfl rfl rfl rfl fun b2 a w hb hK s => ?_)
 obtain ⟨r3, hr3, hg⟩ := bind_some hg
 refine S s <| aw rfl <| nw <| sw <| lw <| yw rfl (y_loadAll (kk := 1000) · rfl rfl underlying60 rfl rfl) <| mw rfl fun a s => ?_
 refine lV s rfl func135 (c_r19_weight n _ _ s.lt _ _ _ _ _ (by omega) (s.ft 101 rfl) (s.ft 102 rfl) _ _ _ hr3) fun a w hK s => ?_
 refine S s <| mw rfl <| yw rfl (y_leq · rfl rfl) <| aw rfl <| nw fun a s => ?_
 apply wp_ret
 obtain rfl := Option.some.inj hg
 exact fin1 (fn := Tryz.f126) s rfl (r_tmp s rfl) rfl
set_option maxHeartbeats 1000000 in
theorem c_r21_lightDef (n : Nat) (M : Bs) (w0 : World) (hM : ∀ b, M b → b < w0.heap.size) (x_ : Def) (Ap04 : Option Addr) (cp04 : Nat) (Ap05 : Option Addr) (cp05 : Nat) (Ap06 : Option Addr) (cp06 : Nat) (lp01 : (x_.Name).length ≤ 9223372036854775807) (lp03 : (x_.Strict.Name).length ≤ 9223372036854775807) (hp04 : sR Rep.str M w0 Ap04 cp04 x_.Strict.Path) (hp05 : sR RDesc M w0 Ap05 cp05 x_.Strict.Kids) (hp06 : sR RDesc M w0 Ap06 cp06 x_.Defaults) (r : Bool) (hg : r21_lightDef n x_ = some r) :
    Calls Tryz.prog 109 [.agg #[vT x_.Name, .int .i64 (x_.Strict.Op), vT x_.Strict.Name, sl Ap04 x_.Strict.Path cp04, sl Ap05 x_.Strict.Kids cp05, sl Ap06 x_.Defaults cp06]].toArray w0 (Ret noB w0 fun v w => v = .bool (r)) := by
 unfold r21_lightDef at hg
 refine enter M noB func109 rfl rfl hM ?_
 intro a s
 let F : Al Fact := [(101, sF Rep.str Ap04 cp04 x_.Strict.Path), (102, sF RDesc Ap05 cp05 x_.Strict.Kids), (103, sF RDesc Ap06 cp06 x_.Defaults)]
 let B : List Value := [vT x_.Name, vI x_.Strict.Op, vT x_.Strict.Name, sl Ap04 x_.Strict.Path cp04, sl Ap05 x_.Strict.Kids cp05, sl Ap06 x_.Defaults cp06]
 refine S s <| esw 101 hp04 <| esw 102 hp05 <| esw 103 hp06 <| vw fun a s => ?_
 refine l_seq rfl (l_box (zs := B) s 1000 rfl rfl rfl rfl fun b2 a w hb hK s => ?_)
 refine S s <| aw rfl <| nw <| sw <| sw fun a s => ?_
 obtain ⟨k3, hg, hk3⟩ := jn_some hg
 refine c_post (fun a w => ∃ (t_4 : Bool), k3 t_4 = some r ∧ St (cx f109 M w0) [(1, vP b2 0), (19, .bool (t_4))] [(1000, Ob.box b2 B 62)] F a w) ?_ ?_
 ·rcases Decidable.em ((60 : Nat) < ((x_.Name).length)) with hs5 | hs5
  ·have hs5e := decide_eq_true hs5
   replace hg := br_t hg hs5
   refine S s <| lw <| yw rfl (y_boxField (o' := 0) · rfl underlying62 rfl rfl rfl) <| yw rfl (y_loadBox1 (kk := 1000) · rfl rfl rfl underlying9 rfl) <| yw rfl (y_lenStrN · rfl underlying9) <| yw rfl (fun s => yl_b (y_gtrN (i := ((x_.Name).length)) (j := 60) s rfl rfl) hs5e) <| mw rfl <| gw rfl <| gw rfl <| gw rfl <| gw rfl <| yw rfl (y_pick_t · rfl rfl) <| mw rfl <| gw rfl <| gw rfl <| gw rfl <| gw rfl <| yw rfl (y_pick_t · rfl rfl) <| nw fun a s => ?_
   exact ⟨(true), hg, (s.sb rfl rfl rfl)⟩
  have hs5e := decide_eq_false hs5
  replace hg := br_f hg hs5
  rcases Decidable.em ((8 : Nat) < ((x_.Defaults).length)) with hs6 | hs6
  ·have hs6e := decide_eq_true hs6
   replace hg := br_t hg hs6
   have hmx7 := SlR.mx (s.ft 103 rfl)
   refine S s <| lw <| yw rfl (y_boxField (o' := 0) · rfl underlying62 rfl rfl rfl) <| yw rfl (y_loadBox1 (kk := 1000) · rfl rfl rfl underlying9 rfl) <| yw rfl (y_lenStrN · rfl underlying9) <| yw rfl (fun s => yl_b (y_gtrN (i := ((x_.Name).length)) (j := 60) s rfl rfl) hs5e) <| mw rfl <| zw rfl (y_boxField (o' := 5) · rfl underlying62 rfl rfl rfl) <| zw rfl (y_loadBox1 (kk := 1000) · rfl rfl rfl underlying58 rfl) <| zw rfl (y_lenSlice · rfl underlying58) <| zw rfl (fun s => yl_b (y_gtrN (i := ((x_.Defaults).length)) (j := 8) s rfl rfl) hs6e) <| yw rfl (y_pick_f · rfl rfl) <| mw rfl <| gw rfl <| gw rfl <| gw rfl <| gw rfl <| yw rfl (y_pick_t · rfl rfl) <| nw fun a s => ?_
   exact ⟨(true), hg, (s.sb rfl rfl rfl)⟩
  have hs6e := decide_eq_false hs6
  replace hg := br_f hg hs6
  obtain ⟨r8, hr8, hg⟩ := bind_some hg
  refine S s <| lw <| yw rfl (y_boxField (o' := 0) · rfl underlying62 rfl rfl rfl) <| yw rfl (y_loadBox1 (kk := 1000) · rfl rfl rfl underlying9 rfl) <| yw rfl (y_lenStrN · rfl underlying9) <| yw rfl (fun s => yl_b (y_gtrN (i := ((x_.Name).length)) (j := 60) s rfl rfl) hs5e) <| mw rfl <| zw rfl (y_boxField (o' := 5) · rfl underlying62 rfl rfl rfl) <| zw rfl (y_loadBox1 (kk := 1000) · rfl rfl rfl underlying58 rfl) <| zw rfl (y_lenSlice · rfl underlying58) <| zw rfl (fun s => yl_b (y_gtrN (i := ((x_.Defaults).length)) (j := 8) s rfl rfl) hs6e) <| yw rfl (y_pick_f · rfl rfl) <| mw rfl <| zw rfl (y_boxField (o' := 1) · rfl underlying62 rfl rfl rfl) <| zw rfl (y_loadBox (kk := 1000) (n := 4) (vs := [vI x_.Strict.Op, vT x_.Strict.Name, sl Ap04 x_.Strict.Path cp04, sl Ap05 x_.Strict.Kids cp05]) · rfl rfl underlying60 rfl rfl rfl rfl) fun a s => ?_
  refine gV s rfl func126 (c_r19_Light n _ _ s.lt _ _ _ _ _ (by omega) (s.ft 101 rfl) (s.ft 102 rfl) _ _ hr8) fun a w hK s => ?_
  refine S s <| zw rfl (y_not · rfl) <| yw rfl (y_pick_f · rfl rfl) <| nw fun a s => ?_
  exact ⟨(!(r8)), hg, (s.sb rfl rfl rfl)⟩
 clear s a; rintro a w ⟨t_4, hg, s⟩
 subst hk3
 refine c_cond s rfl (fun hc13 => ?_) (fun hc13 => ?_)
 ·replace hg := br_t hg hc13
  refine S s <| vw <| aw rfl <| nw fun a s => ?_
  apply wp_ret
  refine p_thenR ?_
  obtain rfl := Option.some.inj hg
  exact fin1 (fn := Tryz.f109) s rfl (r_tmp s rfl) rfl
 replace hg := br_n hg hc13
 refine S s <| kw <| pw <| sw <| vw <| aw rfl <| nw <| bw fun a s => ?_
 refine c_loop (σ := Nat) (fun m1 a w => ∃ (i_14 : Nat), r21_lightDef_L0 n x_ m1 i_14 = some r ∧ St (cx f109 M w0) [(1, vP b2 0), (3, vI (((i_14 : Nat) : Int)))] [(1000, Ob.box b2 B 62)] F a w) (fun m1 => m1) n ⟨(0), hg, (s.sb rfl rfl rfl)⟩ ?_
 clear s a; rintro m1 a w ⟨i_14, hg, s⟩
 rcases m1 with _ | m1
 ·rw [r21_lightDef_L0] at hg; cases hg
 rw [r21_lightDef_L0] at hg
 refine S s <| sw <| vw <| mw rfl <| yw rfl (y_boxField (o' := 5) · rfl underlying62 rfl rfl rfl) <| yw rfl (y_loadBox1 (kk := 1000) · rfl rfl rfl underlying58 rfl) <| yw rfl (y_lenSlice · rfl underlying58) <| yw rfl (y_lssN (i := i_14) (j := ((x_.Defaults).length)) · rfl rfl) <| nw fun a s => c_dec s rfl (fun hc15 => ?_) (fun hc15 => ?_)
 ·replace hg := br_t hg hc15
  have hmx16 := SlR.mx (s.ft 103 rfl)
  obtain ⟨x18, hx18, hg⟩ := bind_some hg
  obtain ⟨r20, hr20, hg⟩ := bind_some hg
  refine S s <| kw <| pw <| sw <| bw <| sw <| lw <| yw rfl (y_boxField (o' := 5) · rfl underlying62 rfl rfl rfl) <| yw rfl (y_loadBox1 (kk := 1000) · rfl rfl rfl underlying58 rfl) <| mw rfl fun a s => ?_
  obtain ⟨p23, hep23, hlq24, hmq24, csq24, hdq24, hcq24⟩ := SlR.elemX (s.ft 103 rfl) hx18
  refine qq s rfl (y_elem (sz := 4) (i := i_14) s rfl rfl underlying58 rfl hep23 rfl (lt_of_get hx18)) fun a s => ?_
  obtain ⟨Aq243, cq243, Aq244, cq244, rfl, lq242, hq243, hq244⟩ := RDesc.open hdq24
  refine S s <| nsw 106 hq243 <| nsw 107 hq244 <| yw rfl (y_ldp · rfl hlq24 hmq24 (by simpa using hcq24) underlying60 rfl rfl) fun a s => ?_
  refine lV s rfl func126 (c_r19_Light n _ _ s.lt _ _ _ _ _ (by omega) (s.ft 106 rfl) (s.ft 107 rfl) _ _ hr20) fun a w hK s => ?_
  refine S s <| yw rfl (y_not · rfl) <| nw fun a s => c_cond s rfl (fun hc27 => ?_) (fun hc27 => ?_)
  ·replace hg := br_t hg hc27
   refine S s <| vw <| aw rfl <| nw fun a s => ?_
   apply wp_ret
   refine p_inR ?_
   refine p_thenR ?_
   refine p_thenR ?_
   refine p_inR ?_
   refine p_thenR ?_
   obtain rfl := Option.some.inj hg
   exact fin1 (fn := Tryz.f109) s rfl (r_tmp s rfl) rfl
  replace hg := br_n hg hc27
  apply wp_skip
  refine p_inN ?_
  refine S s <| pw <| lw <| mw rfl <| yw rfl (y_addN (i := i_14) (j := 1) · rfl rfl (in64.2 (by omega))) <| aw rfl <| nw fun a s => ?_
  exact ⟨m1, Nat.lt_succ_self _, ⟨(i_14 + 1), hg, (s.sb rfl rfl rfl)⟩⟩
 replace hg := br_f hg hc15
 apply wp_exit
 refine p_then ?_
 refine p_then ?_
 refine p_in ?_
 refine S s <| pw <| vw <| aw rfl <| nw fun a s => ?_
 apply wp_ret
 obtain rfl := Option.some.inj hg
 exact fin1 (fn := Tryz.f109) s rfl (r_tmp s rfl) rfl
set_option maxHeartbeats 1000000 in
theorem c_r21_lightDefs (n : Nat) (M : Bs) (w0 : World) (hM : ∀ b, M b → b < w0.heap.size) (l_ : (List Def)) (Ap01 : Option Addr) (cp01 : Nat) (hp01 : sR RDef M w0 Ap01 cp01 l_) (r : Bool) (hg : r21_lightDefs n l_ = some r) :
    Calls Tryz.prog 75 [sl Ap01 l_ cp01].toArray w0 (Ret noB w0 fun v w => v = .bool (r)) := by
 unfold r21_lightDefs at hg
 refine enter M noB func75 rfl rfl hM ?_
 intro a s
 refine S s <| esw 101 hp01 <| vw <| aw rfl <| nw <| sw <| vw <| aw rfl <| nw <| bw fun a s => ?_
 refine c_loop (σ := Nat) (fun m1 a w => ∃ (i_1 : Nat), r21_lightDefs_L0 n l_ m1 i_1 = some r ∧ St (cx f75 M w0) [(0, sl Ap01 l_ cp01), (3, vI (((i_1 : Nat) : Int)))] [] [(101, sF RDef Ap01 cp01 l_)] a w) (fun m1 => m1) n ⟨(0), hg, (s.sb rfl rfl rfl)⟩ ?_
 clear s a; rintro m1 a w ⟨i_1, hg, s⟩
 rcases m1 with _ | m1
 ·rw [r21_lightDefs_L0] at hg; cases hg
 rw [r21_lightDefs_L0] at hg
 refine S s <| sw <| vw <| mw rfl <| mw rfl <| yw rfl (y_lenSlice · rfl underlying33) <| yw rfl (y_lssN (i := i_1) (j := ((l_).length)) · rfl rfl) <| nw fun a s => c_dec s rfl (fun hc2 => ?_) (fun hc2 => ?_)
 ·replace hg := br_t hg hc2
  have hmx3 := SlR.mx (s.ft 101 rfl)
  obtain ⟨x5, hx5, hg⟩ := bind_some hg
  obtain ⟨r7, hr7, hg⟩ := bind_some hg
  refine S s <| kw <| pw <| sw <| bw <| sw <| lw <| mw rfl <| mw rfl fun a s => ?_
  obtain ⟨p10, hep10, hlq11, hmq11, csq11, hdq11, hcq11⟩ := SlR.elemX (s.ft 101 rfl) hx5
  refine qq s rfl (y_elem (sz := 6) (i := i_1) s rfl rfl underlying33 rfl hep10 rfl (lt_of_get hx5)) fun a s => ?_
  obtain ⟨Aq114, cq114, Aq115, cq115, Aq116, cq116, rfl, lq111, lq113, hq114, hq115, hq116⟩ := RDef.open hdq11
  refine S s <| nsw 105 hq114 <| nsw 106 hq115 <| nsw 107 hq116 <| yw rfl (y_ldp · rfl hlq11 hmq11 (by simpa using hcq11) underlying62 rfl rfl) fun a s => ?_
  refine lV s rfl func109 (c_r21_lightDef n _ _ s.lt _ _ _ _ _ _ _ (by omega) (by omega) (s.ft 105 rfl) (s.ft 106 rfl) (s.ft 107 rfl) _ hr7) fun a w hK s => ?_
  refine S s <| yw rfl (y_not · rfl) <| nw fun a s => c_cond s rfl (fun hc14 => ?_) (fun hc14 => ?_)
  ·replace hg := br_t hg hc14
   refine S s <| vw <| aw rfl <| nw fun a s => ?_
   apply wp_ret
   refine p_inR ?_
   refine p_thenR ?_
   refine p_thenR ?_
   refine p_inR ?_
   refine p_thenR ?_
   obtain rfl := Option.some.inj hg
   exact fin1 (fn := Tryz.f75) s rfl (r_tmp s rfl) rfl
  replace hg := br_n hg hc14
  apply wp_skip
  refine p_inN ?_
  refine S s <| pw <| lw <| mw rfl <| yw rfl (y_addN (i := i_1) (j := 1) · rfl rfl (in64.2 (by omega))) <| aw rfl <| nw fun a s => ?_
  exact ⟨m1, Nat.lt_succ_self _, ⟨(i_1 + 1), hg, (s.sb rfl rfl rfl)⟩⟩
 replace hg := br_f hg hc2
 apply wp_exit
 refine p_then ?_
 refine p_then ?_
 refine p_in ?_
 refine S s <| pw <| vw <| aw rfl <| nw fun a s => ?_
 apply wp_ret
 obtain rfl := Option.some.inj hg
 exact fin1 (fn := Tryz.f75) s rfl (r_tmp s rfl) rfl
set_option maxHeartbeats 1000000 in
theorem c_r21_lightWords (n : Nat) (M : Bs) (w0 : World) (hM : ∀ b, M b → b < w0.heap.size) (t_ : Module) (Ap02 : Option Addr) (cp02 : Nat) (Ap03 : Option Addr) (cp03 : Nat) (Ap04 : Option Addr) (cp04 : Nat) (Ap05 : Option Addr) (cp05 : Nat) (Ap06 : Option Addr) (cp06 : Nat) (Ap07 : Option Addr) (cp07 : Nat) (Ap08 : Option Addr) (cp08 : Nat) (Ap09 : Option Addr) (cp09 : Nat) (Ap010 : Option Addr) (cp010 : Nat) (lp01 : (t_.Name).length ≤ 9223372036854775807) (hp02 : sR Rep.str M w0 Ap02 cp02 t_.Imports) (hp03 : sR RTypeDecl M w0 Ap03 cp03 t_.Types) (hp04 : sR RDef M w0 Ap04 cp04 t_.Templates) (hp05 : sR REntryDecl M w0 Ap05 cp05 t_.Entries) (hp06 : sR RLexDecl M w0 Ap06 cp06 t_.LexRules) (hp07 : sR RDef M w0 Ap07 cp07 t_.Rules) (hp08 : sR RDef M w0 Ap08 cp08 t_.Roots) (hp09 : sR (Rep.list Rep.str) M w0 Ap09 cp09 t_.Checks) (hp010 : sR Rep.str M w0 Ap010 cp010 t_.Drops) (r : Bool) (hg : r21_lightWords n t_ = some r) :
    Calls Tryz.prog 76 [.agg #[vT t_.Name, sl Ap02 t_.Imports cp02, sl Ap03 t_.Types cp03, sl Ap04 t_.Templates cp04, sl Ap05 t_.Entries cp05, sl Ap06 t_.LexRules cp06, sl Ap07 t_.Rules cp07, sl Ap08 t_.Roots cp08, sl Ap09 t_.Checks cp09, sl Ap010 t_.Drops cp010]].toArray w0 (Ret noB w0 fun v w => v = .bool (r)) := by
 unfold r21_lightWords at hg
 refine enter M noB func76 rfl rfl hM ?_
 intro a s
 let F : Al Fact := [(101, sF Rep.str Ap02 cp02 t_.Imports), (102, sF RTypeDecl Ap03 cp03 t_.Types), (103, sF RDef Ap04 cp04 t_.Templates), (104, sF REntryDecl Ap05 cp05 t_.Entries), (105, sF RLexDecl Ap06 cp06 t_.LexRules), (106, sF RDef Ap07 cp07 t_.Rules), (107, sF RDef Ap08 cp08 t_.Roots), (108, sF (Rep.list Rep.str) Ap09 cp09 t_.Checks), (109, sF Rep.str Ap010 cp010 t_.Drops)]
 let B : List Value := [vT t_.Name, sl Ap02 t_.Imports cp02, sl Ap03 t_.Types cp03, sl Ap04 t_.Templates cp04, sl Ap05 t_.Entries cp05, sl Ap06 t_.LexRules cp06, sl Ap07 t_.Rules cp07, sl Ap08 t_.Roots cp08, sl Ap09 t_.Checks cp09, sl Ap010 t_.Drops cp010]
 refine S s <| esw 101 hp02 <| esw 102 hp03 <| esw 103 hp04 <| esw 104 hp05 <| esw 105 hp06 <| esw 106 hp07 <| esw 107 hp08 <| esw 108 hp09 <| esw 109 hp010 <| vw fun a s => ?_
 refine l_seq rfl (l_box (zs := B) s 1000 rfl rfl rfl rfl fun b2 a w hb hK s => ?_)
 refine S s <| aw rfl <| nw <| sw <| vw <| aw rfl <| nw fun a s => ?_
 obtain ⟨k3, hg, hk3⟩ := jn_some hg
 refine c_post (fun a w => k3 = some r ∧ St (cx f76 M w0) [(1, vP b2 0)] [(1000, Ob.box b2 B 38)] F a w) ?_ ?_
 ·apply wp_block
  refine c_loop (σ := Nat) (fun m1 a w => ∃ (t_4 : Nat), r21_lightWords_L0 n t_ k3 m1 t_4 = some r ∧ St (cx f76 M w0) [(1, vP b2 0), (3, vI (((t_4 : Nat) : Int)))] [(1000, Ob.box b2 B 38)] F a w) (fun m1 => m1) n ⟨(0), hg, (s.sb rfl rfl rfl)⟩ ?_
  clear s a; rintro m1 a w ⟨t_4, hg, s⟩
  rcases m1 with _ | m1
  ·rw [r21_lightWords_L0] at hg; cases hg
  rw [r21_lightWords_L0] at hg
  refine S s <| sw <| vw <| mw rfl <| yw rfl (y_boxField (o' := 4) · rfl underlying38 rfl rfl rfl) <| yw rfl (y_loadBox1 (kk := 1000) · rfl rfl rfl underlying34 rfl) <| yw rfl (y_lenSlice · rfl underlying34) <| yw rfl (y_lssN (i := t_4) (j := ((t_.Entries).length)) · rfl rfl) <| nw fun a s => c_dec s rfl (fun hc5 => ?_) (fun hc5 => ?_)
  ·replace hg := br_t hg hc5
   have hmx6 := SlR.mx (s.ft 104 rfl)
   refine S s <| kw <| pw <| sw <| bw <| sw fun a s => ?_
   obtain ⟨k7, hg, hk7⟩ := jn_some hg
   refine c_post (fun a w => ∃ (t_8 : Bool), k7 t_8 = some r ∧ St (cx f76 M w0) [(1, vP b2 0), (3, vI (((t_4 : Nat) : Int))), (31, .bool (t_8))] [(1000, Ob.box b2 B 38)] F a w) ?_ ?_
   ·obtain ⟨x10, hx10, hg⟩ := bind_some hg
    obtain ⟨r12, hr12, hg⟩ := bind_some hg
    rcases Bool.eq_false_or_eq_true (!(r12)) with hs15 | hs15
    ·replace hg := br_t hg hs15
     refine S s <| lw <| yw rfl (y_boxField (o' := 4) · rfl underlying38 rfl rfl rfl) <| yw rfl (y_loadBox1 (kk := 1000) · rfl rfl rfl underlying34 rfl) <| mw rfl fun a s => ?_
     obtain ⟨p16, hep16, hlq17, hmq17, csq17, hdq17, hcq17⟩ := SlR.elemX (s.ft 104 rfl) hx10
     refine S s <| yw rfl (y_elem (sz := 7) (i := t_4) · rfl rfl underlying34 rfl hep16 rfl (lt_of_get hx10)) <| yw rfl (y_ptrField (o' := 0) · rfl underlying89 rfl rfl rfl) fun a s => ?_
     obtain ⟨Aq171, cq171, Aq175, cq175, Aq176, cq176, Aq177, cq177, rfl, hq171, lq172, lq174, hq175, hq176, hq177⟩ := REntryDecl.open hdq17
     refine S s <| nsw 114 hq171 <| nsw 115 hq175 <| nsw 116 hq176 <| nsw 117 hq177 <| yw rfl (y_ldp1 · rfl hlq17 hmq17 (hcq17 0 _ rfl) underlying25 rfl) fun a s => ?_
     refine lV s rfl func73 (c_r21_lightNames n _ _ s.lt _ _ _ (s.ft 114 rfl) _ _ hr12) fun a w hK s => ?_
     refine S s <| yw rfl (fun s => yl_b (y_not s rfl) hs15) <| mw rfl <| gw rfl <| gw rfl <| gw rfl <| gw rfl <| gw rfl <| gw rfl <| gw rfl <| gw rfl <| yw rfl (y_pick_t · rfl rfl) <| nw fun a s => ?_
     exact ⟨(true), hg, (s.sb rfl rfl rfl)⟩
    replace hg := br_n hg hs15
    obtain ⟨r22, hr22, hg⟩ := bind_some hg
    refine S s <| lw <| yw rfl (y_boxField (o' := 4) · rfl underlying38 rfl rfl rfl) <| yw rfl (y_loadBox1 (kk := 1000) · rfl rfl rfl underlying34 rfl) <| mw rfl fun a s => ?_
    obtain ⟨p25, hep25, hlq26, hmq26, csq26, hdq26, hcq26⟩ := SlR.elemX (s.ft 104 rfl) hx10
    refine S s <| yw rfl (y_elem (sz := 7) (i := t_4) · rfl rfl underlying34 rfl hep25 rfl (lt_of_get hx10)) <| yw rfl (y_ptrField (o' := 0) · rfl underlying89 rfl rfl rfl) fun a s => ?_
    obtain ⟨Aq261, cq261, Aq265, cq265, Aq266, cq266, Aq267, cq267, rfl, hq261, lq262, lq264, hq265, hq266, hq267⟩ := REntryDecl.open hdq26
    refine S s <| nsw 122 hq261 <| nsw 123 hq265 <| nsw 124 hq266 <| nsw 125 hq267 <| yw rfl (y_ldp1 · rfl hlq26 hmq26 (hcq26 0 _ rfl) underlying25 rfl) fun a s => ?_
    refine lV s rfl func73 (c_r21_lightNames n _ _ s.lt _ _ _ (s.ft 122 rfl) _ _ hr12) fun a w hK s => ?_
    refine S s <| yw rfl (fun s => yl_b (y_not s rfl) hs15) <| mw rfl <| zw rfl (y_boxField (o' := 4) · rfl underlying38 rfl rfl rfl) <| zw rfl (y_loadBox1 (kk := 1000) · rfl rfl rfl underlying34 rfl) <| hw rfl fun a s => ?_
    obtain ⟨p29, hep29, hlq30, hmq30, csq30, hdq30, hcq30⟩ := SlR.elemX (s.ft 104 rfl) hx10
    refine S s <| zw rfl (y_elem (sz := 7) (i := t_4) · rfl rfl underlying34 rfl hep29 rfl (lt_of_get hx10)) <| zw rfl (y_ptrField (o' := 1) · rfl underlying89 rfl rfl rfl) fun a s => ?_
    obtain ⟨Aq301, cq301, Aq305, cq305, Aq306, cq306, Aq307, cq307, rfl, hq301, lq302, lq304, hq305, hq306, hq307⟩ := REntryDecl.open hdq30
    refine S s <| nsw 126 hq301 <| nsw 127 hq305 <| nsw 128 hq306 <| nsw 129 hq307 <| zw rfl (y_ldp (cs := [vT x10.Def.Name, vI x10.Def.Strict.Op, vT x10.Def.Strict.Name, sl Aq305 x10.Def.Strict.Path cq305, sl Aq306 x10.Def.Strict.Kids cq306, sl Aq307 x10.Def.Defaults cq307]) · rfl hlq30 hmq30 (fun j v hj => hcq30 (1 + j) v (by rcases j with _ | (_ | (_ | (_ | (_ | (_ | _))))) <;> first | exact hj | cases hj)) underlying62 rfl rfl) fun a s => ?_
    refine gV s rfl func109 (c_r21_lightDef n _ _ s.lt _ _ _ _ _ _ _ (by omega) (by omega) (s.ft 127 rfl) (s.ft 128 rfl) (s.ft 129 rfl) _ hr22) fun a w hK s => ?_
    refine S s <| zw rfl (y_not · rfl) <| yw rfl (y_pick_f · rfl rfl) <| nw fun a s => ?_
    exact ⟨(!(r22)), hg, (s.sb rfl rfl rfl)⟩
   clear s a; rintro a w ⟨t_8, hg, s⟩
   subst hk7
   refine c_cond s rfl (fun hc33 => ?_) (fun hc33 => ?_)
   ·replace hg := br_t hg hc33
    refine S s <| vw <| aw rfl <| nw fun a s => ?_
    apply wp_ret
    refine p_inR ?_
    refine p_thenR ?_
    refine p_thenR ?_
    refine p_inR ?_
    refine p_thenR ?_
    obtain rfl := Option.some.inj hg
    exact fin1 (fn := Tryz.f76) s rfl (r_tmp s rfl) rfl
   replace hg := br_n hg hc33
   apply wp_skip
   refine p_inN ?_
   refine S s <| pw <| lw <| mw rfl <| yw rfl (y_addN (i := t_4) (j := 1) · rfl rfl (in64.2 (by omega))) <| aw rfl <| nw fun a s => ?_
   exact ⟨m1, Nat.lt_succ_self _, ⟨(t_4 + 1), hg, (s.sb rfl rfl rfl)⟩⟩
  replace hg := br_f hg hc5
  apply wp_exit
  refine p_then ?_
  refine p_then ?_
  refine p_in ?_
  apply pN
  exact ⟨hg, (s.sb rfl rfl rfl)⟩
 clear s a; rintro a w ⟨hg, s⟩
 subst hk3
 refine S s <| sw <| vw <| aw rfl <| nw fun a s => ?_
 obtain ⟨k34, hg, hk34⟩ := jn_some hg
 refine c_post (fun a w => k34 = some r ∧ St (cx f76 M w0) [(1, vP b2 0)] [(1000, Ob.box b2 B 38)] F a w) ?_ ?_
 ·apply wp_block
  refine c_loop (σ := Nat) (fun m2 a w => ∃ (t_35 : Nat), r21_lightWords_L1 n t_ k34 m2 t_35 = some r ∧ St (cx f76 M w0) [(1, vP b2 0), (4, vI (((t_35 : Nat) : Int)))] [(1000, Ob.box b2 B 38)] F a w) (fun m2 => m2) n ⟨(0), hg, (s.sb rfl rfl rfl)⟩ ?_
  clear s a; rintro m2 a w ⟨t_35, hg, s⟩
  rcases m2 with _ | m2
  ·rw [r21_lightWords_L1] at hg; cases hg
  rw [r21_lightWords_L1] at hg
  refine S s <| sw <| vw <| mw rfl <| yw rfl (y_boxField (o' := 5) · rfl underlying38 rfl rfl rfl) <| yw rfl (y_loadBox1 (kk := 1000) · rfl rfl rfl underlying35 rfl) <| yw rfl (y_lenSlice · rfl underlying35) <| yw rfl (y_lssN (i := t_35) (j := ((t_.LexRules).length)) · rfl rfl) <| nw fun a s => c_dec s rfl (fun hc36 => ?_) (fun hc36 => ?_)
  ·replace hg := br_t hg hc36
   have hmx37 := SlR.mx (s.ft 105 rfl)
   apply wp_skip
   apply pN
   apply wQ
   obtain ⟨k38, hg, hk38⟩ := jn_some hg
   refine c_post (fun a w => k38 = some r ∧ St (cx f76 M w0) [(1, vP b2 0), (4, vI (((t_35 : Nat) : Int)))] [(1000, Ob.box b2 B 38)] F a w) ?_ ?_
   ·apply wp_block
    apply wQ
    apply wQ
    obtain ⟨k39, hg, hk39⟩ := jn_some hg
    refine c_post (fun a w => ∃ (t_40 : Bool), k39 t_40 = some r ∧ St (cx f76 M w0) [(1, vP b2 0), (4, vI (((t_35 : Nat) : Int))), (57, .bool (t_40))] [(1000, Ob.box b2 B 38)] F a w) ?_ ?_
    ·obtain ⟨x42, hx42, hg⟩ := bind_some hg
     rcases Decidable.em ((20 : Nat) < ((x42.Affix.Pairs).length)) with hs44 | hs44
     ·have hs44e := decide_eq_true hs44
      replace hg := br_t hg hs44
      refine S s <| lw <| yw rfl (y_boxField (o' := 5) · rfl underlying38 rfl rfl rfl) <| yw rfl (y_loadBox1 (kk := 1000) · rfl rfl rfl underlying35 rfl) <| mw rfl fun a s => ?_
      obtain ⟨p45, hep45, hlq46, hmq46, csq46, hdq46, hcq46⟩ := SlR.elemX (s.ft 105 rfl) hx42
      refine S s <| yw rfl (y_elem (sz := 8) (i := t_35) · rfl rfl underlying35 rfl hep45 rfl (lt_of_get hx42)) <| yw rfl (y_ptrField (o' := 0) · rfl underlying94 rfl rfl rfl) <| yw rfl (y_ptrField (o' := 1) · rfl underlying92 rfl rfl rfl) fun a s => ?_
      obtain ⟨Aq462, cq462, Aq466, cq466, Aq467, cq467, Aq468, cq468, rfl, hq462, lq463, lq465, hq466, hq467, hq468⟩ := RLexDecl.open hdq46
      refine S s <| nsw 134 hq462 <| nsw 135 hq466 <| nsw 136 hq467 <| nsw 137 hq468 <| yw rfl (y_ldp1 · rfl hlq46 hmq46 (hcq46 1 _ rfl) underlying90 rfl) <| yw rfl (y_lenSlice · rfl underlying90) <| yw rfl (fun s => yl_b (y_gtrN (i := ((x42.Affix.Pairs).length)) (j := 20) s rfl rfl) hs44e) <| mw rfl <| gw rfl <| gw rfl <| gw rfl <| gw rfl <| gw rfl <| gw rfl <| gw rfl <| gw rfl <| yw rfl (y_pick_t · rfl rfl) <| nw fun a s => ?_
      exact ⟨(true), hg, (s.sb rfl rfl rfl)⟩
     have hs44e := decide_eq_false hs44
     replace hg := br_f hg hs44
     obtain ⟨r49, hr49, hg⟩ := bind_some hg
     refine S s <| lw <| yw rfl (y_boxField (o' := 5) · rfl underlying38 rfl rfl rfl) <| yw rfl (y_loadBox1 (kk := 1000) · rfl rfl rfl underlying35 rfl) <| mw rfl fun a s => ?_
     obtain ⟨p52, hep52, hlq53, hmq53, csq53, hdq53, hcq53⟩ := SlR.elemX (s.ft 105 rfl) hx42
     refine S s <| yw rfl (y_elem (sz := 8) (i := t_35) · rfl rfl underlying35 rfl hep52 rfl (lt_of_get hx42)) <| yw rfl (y_ptrField (o' := 0) · rfl underlying94 rfl rfl rfl) <| yw rfl (y_ptrField (o' := 1) · rfl underlying92 rfl rfl rfl) fun a s => ?_
     obtain ⟨Aq532, cq532, Aq536, cq536, Aq537, cq537, Aq538, cq538, rfl, hq532, lq533, lq535, hq536, hq537, hq538⟩ := RLexDecl.open hdq53
     refine S s <| nsw 142 hq532 <| nsw 143 hq536 <| nsw 144 hq537 <| nsw 145 hq538 <| yw rfl (y_ldp1 · rfl hlq53 hmq53 (hcq53 1 _ rfl) underlying90 rfl) <| yw rfl (y_lenSlice · rfl underlying90) <| yw rfl (fun s => yl_b (y_gtrN (i := ((x42.Affix.Pairs).length)) (j := 20) s rfl rfl) hs44e) <| mw rfl <| zw rfl (y_boxField (o' := 5) · rfl underlying38 rfl rfl rfl) <| zw rfl (y_loadBox1 (kk := 1000) · rfl rfl rfl underlying35 rfl) <| hw rfl fun a s => ?_
     obtain ⟨p54, hep54, hlq55, hmq55, csq55, hdq55, hcq55⟩ := SlR.elemX (s.ft 105 rfl) hx42
     refine S s <| zw rfl (y_elem (sz := 8) (i := t_35) · rfl rfl underlying35 rfl hep54 rfl (lt_of_get hx42)) <| zw rfl (y_ptrField (o' := 2) · rfl underlying94 rfl rfl rfl) fun a s => ?_
     obtain ⟨Aq552, cq552, Aq556, cq556, Aq557, cq557, Aq558, cq558, rfl, hq552, lq553, lq555, hq556, hq557, hq558⟩ := RLexDecl.open hdq55
     refine S s <| nsw 146 hq552 <| nsw 147 hq556 <| nsw 148 hq557 <| nsw 149 hq558 <| zw rfl (y_ldp (cs := [vT x42.Def.Name, vI x42.Def.Strict.Op, vT x42.Def.Strict.Name, sl Aq556 x42.Def.Strict.Path cq556, sl Aq557 x42.Def.Strict.Kids cq557, sl Aq558 x42.Def.Defaults cq558]) · rfl hlq55 hmq55 (fun j v hj => hcq55 (2 + j) v (by rcases j with _ | (_ | (_ | (_ | (_ | (_ | _))))) <;> first | exact hj | cases hj)) underlying62 rfl rfl) fun a s => ?_
     refine gV s rfl func109 (c_r21_lightDef n _ _ s.lt _ _ _ _ _ _ _ (by omega) (by omega) (s.ft 147 rfl) (s.ft 148 rfl) (s.ft 149 rfl) _ hr49) fun a w hK s => ?_
     refine S s <| zw rfl (y_not · rfl) <| yw rfl (y_pick_f · rfl rfl) <| nw fun a s => ?_
     exact ⟨(!(r49)), hg, (s.sb rfl rfl rfl)⟩
    clear s a; rintro a w ⟨t_40, hg, s⟩
    subst hk39
    refine c_cond s rfl (fun hc58 => ?_) (fun hc58 => ?_)
    ·replace hg := br_t hg hc58
     refine S s <| vw <| aw rfl <| nw fun a s => ?_
     apply wp_ret
     refine p_thenR ?_
     refine p_inR ?_
     refine p_thenR ?_
     refine p_thenR ?_
     refine p_inR ?_
     refine p_thenR ?_
     obtain rfl := Option.some.inj hg
     exact fin1 (fn := Tryz.f76) s rfl (r_tmp s rfl) rfl
    replace hg := br_n hg hc58
    refine S s <| kw <| pw <| vw <| aw rfl <| nw <| bw fun a s => ?_
    refine c_loop (σ := Nat) (fun m3 a w => ∃ (t_59 : Nat), r21_lightWords_L2 n t_ t_35 k38 m3 t_59 = some r ∧ St (cx f76 M w0) [(1, vP b2 0), (4, vI (((t_35 : Nat) : Int))), (5, vI (((t_59 : Nat) : Int)))] [(1000, Ob.box b2 B 38)] F a w) (fun m3 => m3) n ⟨(0), hg, (s.sb rfl rfl rfl)⟩ ?_
    clear s a; rintro m3 a w ⟨t_59, hg, s⟩
    rcases m3 with _ | m3
    ·rw [r21_lightWords_L2] at hg; cases hg
    rw [r21_lightWords_L2] at hg
    obtain ⟨x61, hx61, hg⟩ := bind_some hg
    refine S s <| sw <| sw <| lw <| mw rfl <| yw rfl (y_boxField (o' := 5) · rfl underlying38 rfl rfl rfl) <| yw rfl (y_loadBox1 (kk := 1000) · rfl rfl rfl underlying35 rfl) <| mw rfl fun a s => ?_
    obtain ⟨p63, hep63, hlq64, hmq64, csq64, hdq64, hcq64⟩ := SlR.elemX (s.ft 105 rfl) hx61
    refine S s <| yw rfl (y_elem (sz := 8) (i := t_35) · rfl rfl underlying35 rfl hep63 rfl (lt_of_get hx61)) <| yw rfl (y_ptrField (o' := 0) · rfl underlying94 rfl rfl rfl) <| yw rfl (y_ptrField (o' := 1) · rfl underlying92 rfl rfl rfl) fun a s => ?_
    obtain ⟨Aq642, cq642, Aq646, cq646, Aq647, cq647, Aq648, cq648, rfl, hq642, lq643, lq645, hq646, hq647, hq648⟩ := RLexDecl.open hdq64
    refine S s <| nsw 154 hq642 <| nsw 155 hq646 <| nsw 156 hq647 <| nsw 157 hq648 <| yw rfl (y_ldp1 · rfl hlq64 hmq64 (hcq64 1 _ rfl) underlying90 rfl) <| yw rfl (y_lenSlice · rfl underlying90) <| yw rfl (y_lssN (i := t_59) (j := ((x61.Affix.Pairs).length)) · rfl rfl) <| nw fun a s => c_dec s rfl (fun hc65 => ?_) (fun hc65 => ?_)
    ·replace hg := br_t hg hc65
     have hmx66 := SlR.mx (s.ft 154 rfl)
     refine S s <| kw <| pw <| sw <| bw <| sw fun a s => ?_
     obtain ⟨k67, hg, hk67⟩ := jn_some hg
     refine c_post (fun a w => ∃ (t_68 : Bool), k67 t_68 = some r ∧ St (cx f76 M w0) [(1, vP b2 0), (4, vI (((t_35 : Nat) : Int))), (5, vI (((t_59 : Nat) : Int))), (97, .bool (t_68))] [(1000, Ob.box b2 B 38)] F a w) ?_ ?_
     ·obtain ⟨x72, hx72, hg⟩ := bind_some hg
      rcases Decidable.em ((100 : Nat) < ((x72.Old).length)) with hs74 | hs74
      ·have hs74e := decide_eq_true hs74
       replace hg := br_t hg hs74
       refine S s <| lw <| yw rfl (y_boxField (o' := 5) · rfl underlying38 rfl rfl rfl) <| yw rfl (y_loadBox1 (kk := 1000) · rfl rfl rfl underlying35 rfl) <| mw rfl fun a s => ?_
       obtain ⟨p75, hep75, hlq76, hmq76, csq76, hdq76, hcq76⟩ := SlR.elemX (s.ft 105 rfl) hx61
       refine S s <| yw rfl (y_elem (sz := 8) (i := t_35) · rfl rfl underlying35 rfl hep75 rfl (lt_of_get hx61)) <| yw rfl (y_ptrField (o' := 0) · rfl underlying94 rfl rfl rfl) <| yw rfl (y_ptrField (o' := 1) · rfl underlying92 rfl rfl rfl) fun a s => ?_
       obtain ⟨Aq762, cq762, Aq766, cq766, Aq767, cq767, Aq768, cq768, rfl, hq762, lq763, lq765, hq766, hq767, hq768⟩ := RLexDecl.open hdq76
       refine S s <| nsw 162 hq762 <| nsw 163 hq766 <| nsw 164 hq767 <| nsw 165 hq768 <| yw rfl (y_ldp1 · rfl hlq76 hmq76 (hcq76 1 _ rfl) underlying90 rfl) <| mw rfl fun a s => ?_
       obtain ⟨p77, hep77, hlq78, hmq78, csq78, hdq78, hcq78⟩ := SlR.elemX (s.ft 162 rfl) hx72
       refine S s <| yw rfl (y_elem (sz := 2) (i := t_59) · rfl rfl underlying90 rfl hep77 rfl (lt_of_get hx72)) <| yw rfl (y_ptrField (o' := 0) · rfl underlying144 rfl rfl rfl) fun a s => ?_
       obtain ⟨rfl, lq781, lq782⟩ := RChange.open hdq78
       refine S s <| yw rfl (y_ldp1 · rfl hlq78 hmq78 (hcq78 0 _ rfl) underlying9 rfl) <| yw rfl (y_lenStrN · rfl underlying9) <| yw rfl (fun s => yl_b (y_gtrN (i := ((x72.Old).length)) (j := 100) s rfl rfl) hs74e) <| mw rfl <| gw rfl <| gw rfl <| gw rfl <| gw rfl <| gw rfl <| gw rfl <| gw rfl <| gw rfl <| gw rfl <| gw rfl <| gw rfl <| gw rfl <| gw rfl <| yw rfl (y_pick_t · rfl rfl) <| nw fun a s => ?_
       exact ⟨(true), hg, (s.sb rfl rfl rfl)⟩
      have hs74e := decide_eq_false hs74
      replace hg := br_f hg hs74
      refine S s <| lw <| yw rfl (y_boxField (o' := 5) · rfl underlying38 rfl rfl rfl) <| yw rfl (y_loadBox1 (kk := 1000) · rfl rfl rfl underlying35 rfl) <| mw rfl fun a s => ?_
      obtain ⟨p83, hep83, hlq84, hmq84, csq84, hdq84, hcq84⟩ := SlR.elemX (s.ft 105 rfl) hx61
      refine S s <| yw rfl (y_elem (sz := 8) (i := t_35) · rfl rfl underlying35 rfl hep83 rfl (lt_of_get hx61)) <| yw rfl (y_ptrField (o' := 0) · rfl underlying94 rfl rfl rfl) <| yw rfl (y_ptrField (o' := 1) · rfl underlying92 rfl rfl rfl) fun a s => ?_
      obtain ⟨Aq842, cq842, Aq846, cq846, Aq847, cq847, Aq848, cq848, rfl, hq842, lq843, lq845, hq846, hq847, hq848⟩ := RLexDecl.open hdq84
      refine S s <| nsw 170 hq842 <| nsw 171 hq846 <| nsw 172 hq847 <| nsw 173 hq848 <| yw rfl (y_ldp1 · rfl hlq84 hmq84 (hcq84 1 _ rfl) underlying90 rfl) <| mw rfl fun a s => ?_
      obtain ⟨p85, hep85, hlq86, hmq86, csq86, hdq86, hcq86⟩ := SlR.elemX (s.ft 170 rfl) hx72
      refine S s <| yw rfl (y_elem (sz := 2) (i := t_59) · rfl rfl underlying90 rfl hep85 rfl (lt_of_get hx72)) <| yw rfl (y_ptrField (o' := 0) · rfl underlying144 rfl rfl rfl) fun a s => ?_
      obtain ⟨rfl, lq861, lq862⟩ := RChange.open hdq86
      refine S s <| yw rfl (y_ldp1 · rfl hlq86 hmq86 (hcq86 0 _ rfl) underlying9 rfl) <| yw rfl (y_lenStrN · rfl underlying9) <| yw rfl (fun s => yl_b (y_gtrN (i := ((x72.Old).length)) (j := 100) s rfl rfl) hs74e) <| mw rfl <| zw rfl (y_boxField (o' := 5) · rfl underlying38 rfl rfl rfl) <| zw rfl (y_loadBox1 (kk := 1000) · rfl rfl rfl underlying35 rfl) <| hw rfl fun a s => ?_
      obtain ⟨p87, hep87, hlq88, hmq88, csq88, hdq88, hcq88⟩ := SlR.elemX (s.ft 105 rfl) hx61
      refine S s <| zw rfl (y_elem (sz := 8) (i := t_35) · rfl rfl underlying35 rfl hep87 rfl (lt_of_get hx61)) <| zw rfl (y_ptrField (o' := 0) · rfl underlying94 rfl rfl rfl) <| zw rfl (y_ptrField (o' := 1) · rfl underlying92 rfl rfl rfl) fun a s => ?_
      obtain ⟨Aq882, cq882, Aq886, cq886, Aq887, cq887, Aq888, cq888, rfl, hq882, lq883, lq885, hq886, hq887, hq888⟩ := RLexDecl.open hdq88
      refine S s <| nsw 174 hq882 <| nsw 175 hq886 <| nsw 176 hq887 <| nsw 177 hq888 <| zw rfl (y_ldp1 · rfl hlq88 hmq88 (hcq88 1 _ rfl) underlying90 rfl) <| hw rfl fun a s => ?_
      obtain ⟨p89, hep89, hlq90, hmq90, csq90, hdq90, hcq90⟩ := SlR.elemX (s.ft 174 rfl) hx72
      refine S s <| zw rfl (y_elem (sz := 2) (i := t_59) · rfl rfl underlying90 rfl hep89 rfl (lt_of_get hx72)) <| zw rfl (y_ptrField (o' := 1) · rfl underlying144 rfl rfl rfl) fun a s => ?_
      obtain ⟨rfl, lq901, lq902⟩ := RChange.open hdq90
      refine S s <| zw rfl (y_ldp1 · rfl hlq90 hmq90 (hcq90 1 _ rfl) underlying9 rfl) <| zw rfl (y_lenStrN · rfl underlying9) <| zw rfl (y_gtrN (i := ((x72.New).length)) (j := 100) · rfl rfl) <| yw rfl (y_pick_f · rfl rfl) <| nw fun a s => ?_
      exact ⟨(decide ((100 : Nat) < ((x72.New).length))), hg, (s.sb rfl rfl rfl)⟩
     clear s a; rintro a w ⟨t_68, hg, s⟩
     subst hk67
     refine c_cond s rfl (fun hc91 => ?_) (fun hc91 => ?_)
     ·replace hg := br_t hg hc91
      refine S s <| vw <| aw rfl <| nw fun a s => ?_
      apply wp_ret
      refine p_inR ?_
      refine p_thenR ?_
      refine p_thenR ?_
      refine p_inR ?_
      refine p_inR ?_
      refine p_thenR ?_
      refine p_thenR ?_
      refine p_inR ?_
      refine p_thenR ?_
      obtain rfl := Option.some.inj hg
      exact fin1 (fn := Tryz.f76) s rfl (r_tmp s rfl) rfl
     replace hg := br_n hg hc91
     apply wp_skip
     refine p_inN ?_
     refine S s <| pw <| lw <| mw rfl <| yw rfl (y_addN (i := t_59) (j := 1) · rfl rfl (in64.2 (by omega))) <| aw rfl <| nw fun a s => ?_
     exact ⟨m3, Nat.lt_succ_self _, ⟨(t_59 + 1), hg, (s.sb rfl rfl rfl)⟩⟩
    replace hg := br_f hg hc65
    apply wp_exit
    refine p_then ?_
    refine p_then ?_
    refine p_in ?_
    refine p_inN ?_
    apply pN
    exact ⟨hg, (s.sb rfl rfl rfl)⟩
   clear s a; rintro a w ⟨hg, s⟩
   subst hk38
   refine S s <| lw <| mw rfl <| yw rfl (y_addN (i := t_35) (j := 1) · rfl rfl (in64.2 (by omega))) <| aw rfl <| nw fun a s => ?_
   exact ⟨m2, Nat.lt_succ_self _, ⟨(t_35 + 1), hg, (s.sb rfl rfl rfl)⟩⟩
  replace hg := br_f hg hc36
  apply wp_exit
  refine p_then ?_
  refine p_then ?_
  refine p_in ?_
  apply pN
  exact ⟨hg, (s.sb rfl rfl rfl)⟩
 clear s a; rintro a w ⟨hg, s⟩
 subst hk34
 refine S s <| sw <| vw <| aw rfl <| nw <| bw fun a s => ?_
 refine c_loop (σ := Nat) (fun m4 a w => ∃ (t_92 : Nat), r21_lightWords_L3 n t_ m4 t_92 = some r ∧ St (cx f76 M w0) [(1, vP b2 0), (6, vI (((t_92 : Nat) : Int)))] [(1000, Ob.box b2 B 38)] F a w) (fun m4 => m4) n ⟨(0), hg, (s.sb rfl rfl rfl)⟩ ?_
 clear s a; rintro m4 a w ⟨t_92, hg, s⟩
 rcases m4 with _ | m4
 ·rw [r21_lightWords_L3] at hg; cases hg
 rw [r21_lightWords_L3] at hg
 refine S s <| sw <| vw <| mw rfl <| yw rfl (y_boxField (o' := 8) · rfl underlying38 rfl rfl rfl) <| yw rfl (y_loadBox1 (kk := 1000) · rfl rfl rfl underlying36 rfl) <| yw rfl (y_lenSlice · rfl underlying36) <| yw rfl (y_lssN (i := t_92) (j := ((t_.Checks).length)) · rfl rfl) <| nw fun a s => c_dec s rfl (fun hc93 => ?_) (fun hc93 => ?_)
 ·replace hg := br_t hg hc93
  have hmx94 := SlR.mx (s.ft 108 rfl)
  obtain ⟨x96, hx96, hg⟩ := bind_some hg
  obtain ⟨r98, hr98, hg⟩ := bind_some hg
  refine S s <| kw <| pw <| sw <| bw <| sw <| lw <| yw rfl (y_boxField (o' := 8) · rfl underlying38 rfl rfl rfl) <| yw rfl (y_loadBox1 (kk := 1000) · rfl rfl rfl underlying36 rfl) <| mw rfl fun a s => ?_
  obtain ⟨p101, hep101, hlq102, hmq102, csq102, hdq102, hcq102⟩ := SlR.elemX (s.ft 108 rfl) hx96
  refine qq s rfl (y_elem (sz := 1) (i := t_92) s rfl rfl underlying36 rfl hep101 rfl (lt_of_get hx96)) fun a s => ?_
  obtain ⟨Aq1021, nnq102, cq1021, rfl, hq1021⟩ := hdq102
  obtain rfl := hq1021.len
  refine S s <| nsw 179 hq1021 <| yw rfl (y_ldp1 · rfl hlq102 hmq102 (hcq102 0 _ rfl) underlying25 rfl) fun a s => ?_
  refine lV s rfl func73 (c_r21_lightNames n _ _ s.lt _ _ _ (s.ft 179 rfl) _ _ hr98) fun a w hK s => ?_
  refine S s <| yw rfl (y_not · rfl) <| nw fun a s => c_cond s rfl (fun hc105 => ?_) (fun hc105 => ?_)
  ·replace hg := br_t hg hc105
   refine S s <| vw <| aw rfl <| nw fun a s => ?_
   apply wp_ret
   refine p_inR ?_
   refine p_thenR ?_
   refine p_thenR ?_
   refine p_inR ?_
   refine p_thenR ?_
   obtain rfl := Option.some.inj hg
   exact fin1 (fn := Tryz.f76) s rfl (r_tmp s rfl) rfl
  replace hg := br_n hg hc105
  apply wp_skip
  refine p_inN ?_
  refine S s <| pw <| lw <| mw rfl <| yw rfl (y_addN (i := t_92) (j := 1) · rfl rfl (in64.2 (by omega))) <| aw rfl <| nw fun a s => ?_
  exact ⟨m4, Nat.lt_succ_self _, ⟨(t_92 + 1), hg, (s.sb rfl rfl rfl)⟩⟩
 replace hg := br_f hg hc93
 apply wp_exit
 refine p_then ?_
 refine p_then ?_
 refine p_in ?_
 refine S s <| pw <| vw <| aw rfl <| nw fun a s => ?_
 apply wp_ret
 obtain rfl := Option.some.inj hg
 exact fin1 (fn := Tryz.f76) s rfl (r_tmp s rfl) rfl
set_option maxHeartbeats 1000000 in
theorem c_r21_LightModule (n : Nat) (M : Bs) (w0 : World) (hM : ∀ b, M b → b < w0.heap.size) (m_ : Module) (Ap02 : Option Addr) (cp02 : Nat) (Ap03 : Option Addr) (cp03 : Nat) (Ap04 : Option Addr) (cp04 : Nat) (Ap05 : Option Addr) (cp05 : Nat) (Ap06 : Option Addr) (cp06 : Nat) (Ap07 : Option Addr) (cp07 : Nat) (Ap08 : Option Addr) (cp08 : Nat) (Ap09 : Option Addr) (cp09 : Nat) (Ap010 : Option Addr) (cp010 : Nat) (lp01 : (m_.Name).length ≤ 9223372036854775807) (hp02 : sR Rep.str M w0 Ap02 cp02 m_.Imports) (hp03 : sR RTypeDecl M w0 Ap03 cp03 m_.Types) (hp04 : sR RDef M w0 Ap04 cp04 m_.Templates) (hp05 : sR REntryDecl M w0 Ap05 cp05 m_.Entries) (hp06 : sR RLexDecl M w0 Ap06 cp06 m_.LexRules) (hp07 : sR RDef M w0 Ap07 cp07 m_.Rules) (hp08 : sR RDef M w0 Ap08 cp08 m_.Roots) (hp09 : sR (Rep.list Rep.str) M w0 Ap09 cp09 m_.Checks) (hp010 : sR Rep.str M w0 Ap010 cp010 m_.Drops) (r : Bool) (hg : r21_LightModule n m_ = some r) :
    Calls Tryz.prog 51 [.agg #[vT m_.Name, sl Ap02 m_.Imports cp02, sl Ap03 m_.Types cp03, sl Ap04 m_.Templates cp04, sl Ap05 m_.Entries cp05, sl Ap06 m_.LexRules cp06, sl Ap07 m_.Rules cp07, sl Ap08 m_.Roots cp08, sl Ap09 m_.Checks cp09, sl Ap010 m_.Drops cp010]].toArray w0 (Ret noB w0 fun v w => v = .bool (r)) := by
 unfold r21_LightModule at hg
 refine enter M noB func51 rfl rfl hM ?_
 intro a s
 refine S s <| esw 101 hp02 <| esw 102 hp03 <| esw 103 hp04 <| esw 104 hp05 <| esw 105 hp06 <| esw 106 hp07 <| esw 107 hp08 <| esw 108 hp09 <| esw 109 hp010 <| vw fun a s => ?_
 refine l_seq rfl (l_box (zs := [vT m_.Name, sl Ap02 m_.Imports cp02, sl Ap03 m_.Types cp03, sl Ap04 m_.Templates cp04, sl Ap05 m_.Entries cp05, sl Ap06 m_.LexRules cp06, sl Ap07 m_.Rules cp07, sl Ap08 m_.Roots cp08, sl Ap09 m_.Checks cp09, sl Ap010 m_.Drops cp010]) s 1000 rfl rfl rfl rfl fun b2 a w hb hK s => ?_)
 refine S s <| aw rfl <| nw <| sw fun a s => ?_
 rcases Decidable.em (((m_.Name).length) ≤ 100) with hs3 | hs3
 ·have hs3e := decide_eq_true hs3
  replace hg := br_t hg hs3
  obtain ⟨r4, hr4, hg⟩ := bind_some hg
  rcases Decidable.em (r4 ≤ 300) with hs7 | hs7
  ·have hs7e := decide_eq_true hs7
   replace hg := br_t hg hs7
   obtain ⟨r8, hr8, hg⟩ := bind_some hg
   rcases Bool.eq_false_or_eq_true (r8) with hs11 | hs11
   ·replace hg := br_t hg hs11
    obtain ⟨r12, hr12, hg⟩ := bind_some hg
    rcases Bool.eq_false_or_eq_true (r12) with hs15 | hs15
    ·replace hg := br_t hg hs15
     obtain ⟨r16, hr16, hg⟩ := bind_some hg
     rcases Bool.eq_false_or_eq_true (r16) with hs19 | hs19
     ·replace hg := br_t hg hs19
      obtain ⟨r20, hr20, hg⟩ := bind_some hg
      rcases Bool.eq_false_or_eq_true (r20) with hs23 | hs23
      ·replace hg := br_t hg hs23
       obtain ⟨r24, hr24, hg⟩ := bind_some hg
       rcases Bool.eq_false_or_eq_true (r24) with hs27 | hs27
       ·replace hg := br_t hg hs27
        obtain ⟨r28, hr28, hg⟩ := bind_some hg
        rcases Bool.eq_false_or_eq_true (r28) with hs31 | hs31
        ·replace hg := br_t hg hs31
         obtain ⟨r32, hr32, hg⟩ := bind_some hg
         refine S s <| lw <| yw rfl (y_boxField (o' := 0) · rfl underlying38 rfl rfl rfl) <| yw rfl (y_loadBox1 (kk := 1000) · rfl rfl rfl underlying9 rfl) <| yw rfl (y_lenStrN · rfl underlying9) <| yw rfl (fun s => yl_b (y_leqN (i := ((m_.Name).length)) (j := 100) s rfl rfl) hs3e) <| mw rfl <| zw rfl (y_loadAll (kk := 1000) · rfl rfl underlying38 rfl rfl) fun a s => ?_
         refine gV s rfl func52 (c_r21_count n _ _ s.lt _ _ _ _ _ _ _ _ _ _ _ _ _ _ _ _ _ _ _ (by omega) (s.ft 101 rfl) (s.ft 102 rfl) (s.ft 103 rfl) (s.ft 104 rfl) (s.ft 105 rfl) (s.ft 106 rfl) (s.ft 107 rfl) (s.ft 108 rfl) (s.ft 109 rfl) _ hr4) fun a w hK s => ?_
         refine S s <| zw rfl (fun s => yl_b (y_leq s rfl rfl) hs7e) <| yw rfl (y_pick_t · rfl rfl) <| mw rfl <| zw rfl (y_boxField (o' := 1) · rfl underlying38 rfl rfl rfl) <| zw rfl (y_loadBox1 (kk := 1000) · rfl rfl rfl underlying25 rfl) fun a s => ?_
         refine gC s rfl func73 (c_r21_lightNames n _ _ s.lt _ _ _ (s.ft 101 rfl) _ _ hr8) fun v37 a w hK hp s => ?_
         obtain rfl := hp.trans (congrArg Value.bool hs11)
         refine S s <| yw rfl (y_pick_t · rfl rfl) <| mw rfl <| zw rfl (y_boxField (o' := 9) · rfl underlying38 rfl rfl rfl) <| zw rfl (y_loadBox1 (kk := 1000) · rfl rfl rfl underlying25 rfl) fun a s => ?_
         refine gC s rfl func73 (c_r21_lightNames n _ _ s.lt _ _ _ (s.ft 109 rfl) _ _ hr12) fun v39 a w hK hp s => ?_
         obtain rfl := hp.trans (congrArg Value.bool hs15)
         refine S s <| yw rfl (y_pick_t · rfl rfl) <| mw rfl <| zw rfl (y_boxField (o' := 2) · rfl underlying38 rfl rfl rfl) <| zw rfl (y_loadBox1 (kk := 1000) · rfl rfl rfl underlying32 rfl) fun a s => ?_
         refine gC s rfl func74 (c_r21_lightTypes n _ _ s.lt _ _ _ (s.ft 102 rfl) _ hr16) fun v41 a w hK hp s => ?_
         obtain rfl := hp.trans (congrArg Value.bool hs19)
         refine S s <| yw rfl (y_pick_t · rfl rfl) <| mw rfl <| zw rfl (y_boxField (o' := 3) · rfl underlying38 rfl rfl rfl) <| zw rfl (y_loadBox1 (kk := 1000) · rfl rfl rfl underlying33 rfl) fun a s => ?_
         refine gC s rfl func75 (c_r21_lightDefs n _ _ s.lt _ _ _ (s.ft 103 rfl) _ hr20) fun v43 a w hK hp s => ?_
         obtain rfl := hp.trans (congrArg Value.bool hs23)
         refine S s <| yw rfl (y_pick_t · rfl rfl) <| mw rfl <| zw rfl (y_boxField (o' := 6) · rfl underlying38 rfl rfl rfl) <| zw rfl (y_loadBox1 (kk := 1000) · rfl rfl rfl underlying33 rfl) fun a s => ?_
         refine gC s rfl func75 (c_r21_lightDefs n _ _ s.lt _ _ _ (s.ft 106 rfl) _ hr24) fun v45 a w hK hp s => ?_
         obtain rfl := hp.trans (congrArg Value.bool hs27)
         refine S s <| yw rfl (y_pick_t · rfl rfl) <| mw rfl <| zw rfl (y_boxField (o' := 7) · rfl underlying38 rfl rfl rfl) <| zw rfl (y_loadBox1 (kk := 1000) · rfl rfl rfl underlying33 rfl) fun a s => ?_
         refine gC s rfl func75 (c_r21_lightDefs n _ _ s.lt _ _ _ (s.ft 107 rfl) _ hr28) fun v47 a w hK hp s => ?_
         obtain rfl := hp.trans (congrArg Value.bool hs31)
         refine S s <| yw rfl (y_pick_t · rfl rfl) <| mw rfl <| zw rfl (y_loadAll (kk := 1000) · rfl rfl underlying38 rfl rfl) fun a s => ?_
         refine gV s rfl func76 (c_r21_lightWords n _ _ s.lt _ _ _ _ _ _ _ _ _ _ _ _ _ _ _ _ _ _ _ (by omega) (s.ft 101 rfl) (s.ft 102 rfl) (s.ft 103 rfl) (s.ft 104 rfl) (s.ft 105 rfl) (s.ft 106 rfl) (s.ft 107 rfl) (s.ft 108 rfl) (s.ft 109 rfl) _ hr32) fun a w hK s => ?_
         refine S s <| yw rfl (y_pick_t · rfl rfl) <| aw rfl <| nw fun a s => ?_
         apply wp_ret
         obtain rfl := Option.some.inj hg
         exact fin1 (fn := Tryz.f51) s rfl (r_tmp s rfl) rfl
        replace hg := br_n hg hs31
        refine S s <| lw <| yw rfl (y_boxField (o' := 0) · rfl underlying38 rfl rfl rfl) <| yw rfl (y_loadBox1 (kk := 1000) · rfl rfl rfl underlying9 rfl) <| yw rfl (y_lenStrN · rfl underlying9) <| yw rfl (fun s => yl_b (y_leqN (i := ((m_.Name).length)) (j := 100) s rfl rfl) hs3e) <| mw rfl <| zw rfl (y_loadAll (kk := 1000) · rfl rfl underlying38 rfl rfl) fun a s => ?_
        refine gV s rfl func52 (c_r21_count n _ _ s.lt _ _ _ _ _ _ _ _ _ _ _ _ _ _ _ _ _ _ _ (by omega) (s.ft 101 rfl) (s.ft 102 rfl) (s.ft 103 rfl) (s.ft 104 rfl) (s.ft 105 rfl) (s.ft 106 rfl) (s.ft 107 rfl) (s.ft 108 rfl) (s.ft 109 rfl) _ hr4) fun a w hK s => ?_
        refine S s <| zw rfl (fun s => yl_b (y_leq s rfl rfl) hs7e) <| yw rfl (y_pick_t · rfl rfl) <| mw rfl <| zw rfl (y_boxField (o' := 1) · rfl underlying38 rfl rfl rfl) <| zw rfl (y_loadBox1 (kk := 1000) · rfl rfl rfl underlying25 rfl) fun a s => ?_
        refine gC s rfl func73 (c_r21_lightNames n _ _ s.lt _ _ _ (s.ft 101 rfl) _ _ hr8) fun v53 a w hK hp s => ?_
        obtain rfl := hp.trans (congrArg Value.bool hs11)
        refine S s <| yw rfl (y_pick_t · rfl rfl) <| mw rfl <| zw rfl (y_boxField (o' := 9) · rfl underlying38 rfl rfl rfl) <| zw rfl (y_loadBox1 (kk := 1000) · rfl rfl rfl underlying25 rfl) fun a s => ?_
        refine gC s rfl func73 (c_r21_lightNames n _ _ s.lt _ _ _ (s.ft 109 rfl) _ _ hr12) fun v55 a w hK hp s => ?_
        obtain rfl := hp.trans (congrArg Value.bool hs15)
        refine S s <| yw rfl (y_pick_t · rfl rfl) <| mw rfl <| zw rfl (y_boxField (o' := 2) · rfl underlying38 rfl rfl rfl) <| zw rfl (y_loadBox1 (kk := 1000) · rfl rfl rfl underlying32 rfl) fun a s => ?_
        refine gC s rfl func74 (c_r21_lightTypes n _ _ s.lt _ _ _ (s.ft 102 rfl) _ hr16) fun v57 a w hK hp s => ?_
        obtain rfl := hp.trans (congrArg Value.bool hs19)
        refine S s <| yw rfl (y_pick_t · rfl rfl) <| mw rfl <| zw rfl (y_boxField (o' := 3) · rfl underlying38 rfl rfl rfl) <| zw rfl (y_loadBox1 (kk := 1000) · rfl rfl rfl underlying33 rfl) fun a s => ?_
        refine gC s rfl func75 (c_r21_lightDefs n _ _ s.lt _ _ _ (s.ft 103 rfl) _ hr20) fun v59 a w hK hp s => ?_
        obtain rfl := hp.trans (congrArg Value.bool hs23)
        refine S s <| yw rfl (y_pick_t · rfl rfl) <| mw rfl <| zw rfl (y_boxField (o' := 6) · rfl underlying38 rfl rfl rfl) <| zw rfl (y_loadBox1 (kk := 1000) · rfl rfl rfl underlying33 rfl) fun a s => ?_
        refine gC s rfl func75 (c_r21_lightDefs n _ _ s.lt _ _ _ (s.ft 106 rfl) _ hr24) fun v61 a w hK hp s => ?_
        obtain rfl := hp.trans (congrArg Value.bool hs27)
        refine S s <| yw rfl (y_pick_t · rfl rfl) <| mw rfl <| zw rfl (y_boxField (o' := 7) · rfl underlying38 rfl rfl rfl) <| zw rfl (y_loadBox1 (kk := 1000) · rfl rfl rfl underlying33 rfl) fun a s => ?_
        refine gC s rfl func75 (c_r21_lightDefs n _ _ s.lt _ _ _ (s.ft 107 rfl) _ hr28) fun v63 a w hK hp s => ?_
        obtain rfl := hp.trans (congrArg Value.bool hs31)
        refine S s <| yw rfl (y_pick_t · rfl rfl) <| mw rfl <| gw rfl <| gw rfl <| yw rfl (y_pick_f · rfl rfl) <| aw rfl <| nw fun a s => ?_
        apply wp_ret
        obtain rfl := Option.some.inj hg
        exact fin1 (fn := Tryz.f51) s rfl (r_tmp s rfl) rfl
       replace hg := br_n hg hs27
       refine S s <| lw <| yw rfl (y_boxField (o' := 0) · rfl underlying38 rfl rfl rfl) <| yw rfl (y_loadBox1 (kk := 1000) · rfl rfl rfl underlying9 rfl) <| yw rfl (y_lenStrN · rfl underlying9) <| yw rfl (fun s => yl_b (y_leqN (i := ((m_.Name).length)) (j := 100) s rfl rfl) hs3e) <| mw rfl <| zw rfl (y_loadAll (kk := 1000) · rfl rfl underlying38 rfl rfl) fun a s => ?_
       refine gV s rfl func52 (c_r21_count n _ _ s.lt _ _ _ _ _ _ _ _ _ _ _ _ _ _ _ _ _ _ _ (by omega) (s.ft 101 rfl) (s.ft 102 rfl) (s.ft 103 rfl) (s.ft 104 rfl) (s.ft 105 rfl) (s.ft 106 rfl) (s.ft 107 rfl) (s.ft 108 rfl) (s.ft 109 rfl) _ hr4) fun a w hK s => ?_
       refine S s <| zw rfl (fun s => yl_b (y_leq s rfl rfl) hs7e) <| yw rfl (y_pick_t · rfl rfl) <| mw rfl <| zw rfl (y_boxField (o' := 1) · rfl underlying38 rfl rfl rfl) <| zw rfl (y_loadBox1 (kk := 1000) · rfl rfl rfl underlying25 rfl) fun a s => ?_
       refine gC s rfl func73 (c_r21_lightNames n _ _ s.lt _ _ _ (s.ft 101 rfl) _ _ hr8) fun v67 a w hK hp s => ?_
       obtain rfl := hp.trans (congrArg Value.bool hs11)
       refine S s <| yw rfl (y_pick_t · rfl rfl) <| mw rfl <| zw rfl (y_boxField (o' := 9) · rfl underlying38 rfl rfl rfl) <| zw rfl (y_loadBox1 (kk := 1000) · rfl rfl rfl underlying25 rfl) fun a s => ?_
       refine gC s rfl func73 (c_r21_lightNames n _ _ s.lt _ _ _ (s.ft 109 rfl) _ _ hr12) fun v69 a w hK hp s => ?_
       obtain rfl := hp.trans (congrArg Value.bool hs15)
       refine S s <| yw rfl (y_pick_t · rfl rfl) <| mw rfl <| zw rfl (y_boxField (o' := 2) · rfl underlying38 rfl rfl rfl) <| zw rfl (y_loadBox1 (kk := 1000) · rfl rfl rfl underlying32 rfl) fun a s => ?_
       refine gC s rfl func74 (c_r21_lightTypes n _ _ s.lt _ _ _ (s.ft 102 rfl) _ hr16) fun v71 a w hK hp s => ?_
       obtain rfl := hp.trans (congrArg Value.bool hs19)
       refine S s <| yw rfl (y_pick_t · rfl rfl) <| mw rfl <| zw rfl (y_boxField (o' := 3) · rfl underlying38 rfl rfl rfl) <| zw rfl (y_loadBox1 (kk := 1000) · rfl rfl rfl underlying33 rfl) fun a s => ?_
       refine gC s rfl func75 (c_r21_lightDefs n _ _ s.lt _ _ _ (s.ft 103 rfl) _ hr20) fun v73 a w hK hp s => ?_
       obtain rfl := hp.trans (congrArg Value.bool hs23)
       refine S s <| yw rfl (y_pick_t · rfl rfl) <| mw rfl <| zw rfl (y_boxField (o' := 6) · rfl underlying38 rfl rfl rfl) <| zw rfl (y_loadBox1 (kk := 1000) · rfl rfl rfl underlying33 rfl) fun a s => ?_
       refine gC s rfl func75 (c_r21_lightDefs n _ _ s.lt _ _ _ (s.ft 106 rfl) _ hr24) fun v75 a w hK hp s => ?_
       obtain rfl := hp.trans (congrArg Value.bool hs27)
       refine S s <| yw rfl (y_pick_t · rfl rfl) <| mw rfl <| gw rfl <| gw rfl <| gw rfl <| yw rfl (y_pick_f · rfl rfl) <| mw rfl <| gw rfl <| gw rfl <| yw rfl (y_pick_f · rfl rfl) <| aw rfl <| nw fun a s => ?_
       apply wp_ret
       obtain rfl := Option.some.inj hg
       exact fin1 (fn := Tryz.f51) s rfl (r_tmp s rfl) rfl
      replace hg := br_n hg hs23
      refine S s <| lw <| yw rfl (y_boxField (o' := 0) · rfl underlying38 rfl rfl rfl) <| yw rfl (y_loadBox1 (kk := 1000) · rfl rfl rfl underlying9 rfl) <| yw rfl (y_lenStrN · rfl underlying9) <| yw rfl (fun s => yl_b (y_leqN (i := ((m_.Name).length)) (j := 100) s rfl rfl) hs3e) <| mw rfl <| zw rfl (y_loadAll (kk := 1000) · rfl rfl underlying38 rfl rfl) fun a s => ?_
      refine gV s rfl func52 (c_r21_count n _ _ s.lt _ _ _ _ _ _ _ _ _ _ _ _ _ _ _ _ _ _ _ (by omega) (s.ft 101 rfl) (s.ft 102 rfl) (s.ft 103 rfl) (s.ft 104 rfl) (s.ft 105 rfl) (s.ft 106 rfl) (s.ft 107 rfl) (s.ft 108 rfl) (s.ft 109 rfl) _ hr4) fun a w hK s => ?_
      refine S s <| zw rfl (fun s => yl_b (y_leq s rfl rfl) hs7e) <| yw rfl (y_pick_t · rfl rfl) <| mw rfl <| zw rfl (y_boxField (o' := 1) · rfl underlying38 rfl rfl rfl) <| zw rfl (y_loadBox1 (kk := 1000) · rfl rfl rfl underlying25 rfl) fun a s => ?_
      refine gC s rfl func73 (c_r21_lightNames n _ _ s.lt _ _ _ (s.ft 101 rfl) _ _ hr8) fun v79 a w hK hp s => ?_
      obtain rfl := hp.trans (congrArg Value.bool hs11)
      refine S s <| yw rfl (y_pick_t · rfl rfl) <| mw rfl <| zw rfl (y_boxField (o' := 9) · rfl underlying38 rfl rfl rfl) <| zw rfl (y_loadBox1 (kk := 1000) · rfl rfl rfl underlying25 rfl) fun a s => ?_
      refine gC s rfl func73 (c_r21_lightNames n _ _ s.lt _ _ _ (s.ft 109 rfl) _ _ hr12) fun v81 a w hK hp s => ?_
      obtain rfl := hp.trans (congrArg Value.bool hs15)
      refine S s <| yw rfl (y_pick_t · rfl rfl) <| mw rfl <| zw rfl (y_boxField (o' := 2) · rfl underlying38 rfl rfl rfl) <| zw rfl (y_loadBox1 (kk := 1000) · rfl rfl rfl underlying32 rfl) fun a s => ?_
      refine gC s rfl func74 (c_r21_lightTypes n _ _ s.lt _ _ _ (s.ft 102 rfl) _ hr16) fun v83 a w hK hp s => ?_
      obtain rfl := hp.trans (congrArg Value.bool hs19)
      refine S s <| yw rfl (y_pick_t · rfl rfl) <| mw rfl <| zw rfl (y_boxField (o' := 3) · rfl underlying38 rfl rfl rfl) <| zw rfl (y_loadBox1 (kk := 1000) · rfl rfl rfl underlying33 rfl) fun a s => ?_
      refine gC s rfl func75 (c_r21_lightDefs n _ _ s.lt _ _ _ (s.ft 103 rfl) _ hr20) fun v85 a w hK hp s => ?_
      obtain rfl := hp.trans (congrArg Value.bool hs23)
      refine S s <| yw rfl (y_pick_t · rfl rfl) <| mw rfl <| gw rfl <| gw rfl <| gw rfl <| yw rfl (y_pick_f · rfl rfl) <| mw rfl <| gw rfl <| gw rfl <| gw rfl <| yw rfl (y_pick_f · rfl rfl) <| mw rfl <| gw rfl <| gw rfl <| yw rfl (y_pick_f · rfl rfl) <| aw rfl <| nw fun a s => ?_
      apply wp_ret
      obtain rfl := Option.some.inj hg
      exact fin1 (fn := Tryz.f51) s rfl (r_tmp s rfl) rfl
     replace hg := br_n hg hs19
     refine S s <| lw <| yw rfl (y_boxField (o' := 0) · rfl underlying38 rfl rfl rfl) <| yw rfl (y_loadBox1 (kk := 1000) · rfl rfl rfl underlying9 rfl) <| yw rfl (y_lenStrN · rfl underlying9) <| yw rfl (fun s => yl_b (y_leqN (i := ((m_.Name).length)) (j := 100) s rfl rfl) hs3e) <| mw rfl <| zw rfl (y_loadAll (kk := 1000) · rfl rfl underlying38 rfl rfl) fun a s => ?_
     refine gV s rfl func52 (c_r21_count n _ _ s.lt _ _ _ _ _ _ _ _ _ _ _ _ _ _ _ _ _ _ _ (by omega) (s.ft 101 rfl) (s.ft 102 rfl) (s.ft 103 rfl) (s.ft 104 rfl) (s.ft 105 rfl) (s.ft 106 rfl) (s.ft 107 rfl) (s.ft 108 rfl) (s.ft 109 rfl) _ hr4) fun a w hK s => ?_
     refine S s <| zw rfl (fun s => yl_b (y_leq s rfl rfl) hs7e) <| yw rfl (y_pick_t · rfl rfl) <| mw rfl <| zw rfl (y_boxField (o' := 1) · rfl underlying38 rfl rfl rfl) <| zw rfl (y_loadBox1 (kk := 1000) · rfl rfl rfl underlying25 rfl) fun a s => ?_
     refine gC s rfl func73 (c_r21_lightNames n _ _ s.lt _ _ _ (s.ft 101 rfl) _ _ hr8) fun v89 a w hK hp s => ?_
     obtain rfl := hp.trans (congrArg Value.bool hs11)
     refine S s <| yw rfl (y_pick_t · rfl rfl) <| mw rfl <| zw rfl (y_boxField (o' := 9) · rfl underlying38 rfl rfl rfl) <| zw rfl (y_loadBox1 (kk := 1000) · rfl rfl rfl underlying25 rfl) fun a s => ?_
     refine gC s rfl func73 (c_r21_lightNames n _ _ s.lt _ _ _ (s.ft 109 rfl) _ _ hr12) fun v91 a w hK hp s => ?_
     obtain rfl := hp.trans (congrArg Value.bool hs15)
     refine S s <| yw rfl (y_pick_t · rfl rfl) <| mw rfl <| zw rfl (y_boxField (o' := 2) · rfl underlying38 rfl rfl rfl) <| zw rfl (y_loadBox1 (kk := 1000) · rfl rfl rfl underlying32 rfl) fun a s => ?_
     refine gC s rfl func74 (c_r21_lightTypes n _ _ s.lt _ _ _ (s.ft 102 rfl) _ hr16) fun v93 a w hK hp s => ?_
     obtain rfl := hp.trans (congrArg Value.bool hs19)
     refine S s <| yw rfl (y_pick_t · rfl rfl) <| mw rfl <| gw rfl <| gw rfl <| gw rfl <| yw rfl (y_pick_f · rfl rfl) <| mw rfl <| gw rfl <| gw rfl <| gw rfl <| yw rfl (y_pick_f · rfl rfl) <| mw rfl <| gw rfl <| gw rfl <| gw rfl <| yw rfl (y_pick_f · rfl rfl) <| mw rfl <| gw rfl <| gw rfl <| yw rfl (y_pick_f · rfl rfl) <| aw rfl <| nw fun a s => ?_
     apply wp_ret
     obtain rfl := Option.some.inj hg
     exact fin1 (fn := Tryz.f51) s rfl (r_tmp s rfl) rfl
    replace hg := br_n hg hs15
    refine S s <| lw <| yw rfl (y_boxField (o' := 0) · rfl underlying38 rfl rfl rfl) <| yw rfl (y_loadBox1 (kk := 1000) · rfl rfl rfl underlying9 rfl) <| yw rfl (y_lenStrN · rfl underlying9) <| yw rfl (fun s => yl_b (y_leqN (i := ((m_.Name).length)) (j := 100) s rfl rfl) hs3e) <| mw rfl <| zw rfl (y_loadAll (kk := 1000) · rfl rfl underlying38 rfl rfl) fun a s => ?_
    refine gV s rfl func52 (c_r21_count n _ _ s.lt _ _ _ _ _ _ _ _ _ _ _ _ _ _ _ _ _ _ _ (by omega) (s.ft 101 rfl) (s.ft 102 rfl) (s.ft 103 rfl) (s.ft 104 rfl) (s.ft 105 rfl) (s.ft 106 rfl) (s.ft 107 rfl) (s.ft 108 rfl) (s.ft 109 rfl) _ hr4) fun a w hK s => ?_
    refine S s <| zw rfl (fun s => yl_b (y_leq s rfl rfl) hs7e) <| yw rfl (y_pick_t · rfl rfl) <| mw rfl <| zw rfl (y_boxField (o' := 1) · rfl underlying38 rfl rfl rfl) <| zw rfl (y_loadBox1 (kk := 1000) · rfl rfl rfl underlying25 rfl) fun a s => ?_
    refine gC s rfl func73 (c_r21_lightNames n _ _ s.lt _ _ _ (s.ft 101 rfl) _ _ hr8) fun v97 a w hK hp s => ?_
    obtain rfl := hp.trans (congrArg Value.bool hs11)
    refine S s <| yw rfl (y_pick_t · rfl rfl) <| mw rfl <| zw rfl (y_boxField (o' := 9) · rfl underlying38 rfl rfl rfl) <| zw rfl (y_loadBox1 (kk := 1000) · rfl rfl rfl underlying25 rfl) fun a s => ?_
    refine gC s rfl func73 (c_r21_lightNames n _ _ s.lt _ _ _ (s.ft 109 rfl) _ _ hr12) fun v99 a w hK hp s => ?_
    obtain rfl := hp.trans (congrArg Value.bool hs15)
    refine S s <| yw rfl (y_pick_t · rfl rfl) <| mw rfl <| gw rfl <| gw rfl <| gw rfl <| yw rfl (y_pick_f · rfl rfl) <| mw rfl <| gw rfl <| gw rfl <| gw rfl <| yw rfl (y_pick_f · rfl rfl) <| mw rfl <| gw rfl <| gw rfl <| gw rfl <| yw rfl (y_pick_f · rfl rfl) <| mw rfl <| gw rfl <| gw rfl <| gw rfl <| yw rfl (y_pick_f · rfl rfl) <| mw rfl <| gw rfl <| gw rfl <| yw rfl (y_pick_f · rfl rfl) <| aw rfl <| nw fun a s => ?_
    apply wp_ret
    obtain rfl := Option.some.inj hg
    exact fin1 (fn := Tryz.f51) s rfl (r_tmp s rfl) rfl
   replace hg := br_n hg hs11
   refine S s <| lw <| yw rfl (y_boxField (o' := 0) · rfl underlying38 rfl rfl rfl) <| yw rfl (y_loadBox1 (kk := 1000) · rfl rfl rfl underlying9 rfl) <| yw rfl (y_lenStrN · rfl underlying9) <| yw rfl (fun s => yl_b (y_leqN (i := ((m_.Name).length)) (j := 100) s rfl rfl) hs3e) <| mw rfl <| zw rfl (y_loadAll (kk := 1000) · rfl rfl underlying38 rfl rfl) fun a s => ?_
   refine gV s rfl func52 (c_r21_count n _ _ s.lt _ _ _ _ _ _ _ _ _ _ _ _ _ _ _ _ _ _ _ (by omega) (s.ft 101 rfl) (s.ft 102 rfl) (s.ft 103 rfl) (s.ft 104 rfl) (s.ft 105 rfl) (s.ft 106 rfl) (s.ft 107 rfl) (s.ft 108 rfl) (s.ft 109 rfl) _ hr4) fun a w hK s => ?_
   refine S s <| zw rfl (fun s => yl_b (y_leq s rfl rfl) hs7e) <| yw rfl (y_pick_t · rfl rfl) <| mw rfl <| zw rfl (y_boxField (o' := 1) · rfl underlying38 rfl rfl rfl) <| zw rfl (y_loadBox1 (kk := 1000) · rfl rfl rfl underlying25 rfl) fun a s => ?_
   refine gC s rfl func73 (c_r21_lightNames n _ _ s.lt _ _ _ (s.ft 101 rfl) _ _ hr8) fun v103 a w hK hp s => ?_
   obtain rfl := hp.trans (congrArg Value.bool hs11)
   refine S s <| yw rfl (y_pick_t · rfl rfl) <| mw rfl <| gw rfl <| gw rfl <| gw rfl <| yw rfl (y_pick_f · rfl rfl) <| mw rfl <| gw rfl <| gw rfl <| gw rfl <| yw rfl (y_pick_f · rfl rfl) <| mw rfl <| gw rfl <| gw rfl <| gw rfl <| yw rfl (y_pick_f · rfl rfl) <| mw rfl <| gw rfl <| gw rfl <| gw rfl <| yw rfl (y_pick_f · rfl rfl) <| mw rfl <| gw rfl <| gw rfl <| gw rfl <| yw rfl (y_pick_f · rfl rfl) <| mw rfl <| gw rfl <| gw rfl <| yw rfl (y_pick_f · rfl rfl) <| aw rfl <| nw fun a s => ?_
   apply wp_ret
   obtain rfl := Option.some.inj hg
   exact fin1 (fn := Tryz.f51) s rfl (r_tmp s rfl) rfl
  have hs7e := decide_eq_false hs7
  replace hg := br_f hg hs7
  refine S s <| lw <| yw rfl (y_boxField (o' := 0) · rfl underlying38 rfl rfl rfl) <| yw rfl (y_loadBox1 (kk := 1000) · rfl rfl rfl underlying9 rfl) <| yw rfl (y_lenStrN · rfl underlying9) <| yw rfl (fun s => yl_b (y_leqN (i := ((m_.Name).length)) (j := 100) s rfl rfl) hs3e) <| mw rfl <| zw rfl (y_loadAll (kk := 1000) · rfl rfl underlying38 rfl rfl) fun a s => ?_
  refine gV s rfl func52 (c_r21_count n _ _ s.lt _ _ _ _ _ _ _ _ _ _ _ _ _ _ _ _ _ _ _ (by omega) (s.ft 101 rfl) (s.ft 102 rfl) (s.ft 103 rfl) (s.ft 104 rfl) (s.ft 105 rfl) (s.ft 106 rfl) (s.ft 107 rfl) (s.ft 108 rfl) (s.ft 109 rfl) _ hr4) fun a w hK s => ?_
  refine S s <| zw rfl (fun s => yl_b (y_leq s rfl rfl) hs7e) <| yw rfl (y_pick_t · rfl rfl) <| mw rfl <| gw rfl <| gw rfl <| gw rfl <| yw rfl (y_pick_f · rfl rfl) <| mw rfl <| gw rfl <| gw rfl <| gw rfl <| yw rfl (y_pick_f · rfl rfl) <| mw rfl <| gw rfl <| gw rfl <| gw rfl <| yw rfl (y_pick_f · rfl rfl) <| mw rfl <| gw rfl <| gw rfl <| gw rfl <| yw rfl (y_pick_f · rfl rfl) <| mw rfl <| gw rfl <| gw rfl <| gw rfl <| yw rfl (y_pick_f · rfl rfl) <| mw rfl <| gw rfl <| gw rfl <| gw rfl <| yw rfl (y_pick_f · rfl rfl) <| mw rfl <| gw rfl <| gw rfl <| yw rfl (y_pick_f · rfl rfl) <| aw rfl <| nw fun a s => ?_
  apply wp_ret
  obtain rfl := Option.some.inj hg
  exact fin1 (fn := Tryz.f51) s rfl (r_tmp s rfl) rfl
 have hs3e := decide_eq_false hs3
 replace hg := br_f hg hs3
 refine S s <| lw <| yw rfl (y_boxField (o' := 0) · rfl underlying38 rfl rfl rfl) <| yw rfl (y_loadBox1 (kk := 1000) · rfl rfl rfl underlying9 rfl) <| yw rfl (y_lenStrN · rfl underlying9) <| yw rfl (fun s => yl_b (y_leqN (i := ((m_.Name).length)) (j := 100) s rfl rfl) hs3e) <| mw rfl <| gw rfl <| gw rfl <| gw rfl <| yw rfl (y_pick_f · rfl rfl) <| mw rfl <| gw rfl <| gw rfl <| gw rfl <| yw rfl (y_pick_f · rfl rfl) <| mw rfl <| gw rfl <| gw rfl <| gw rfl <| yw rfl (y_pick_f · rfl rfl) <| mw rfl <| gw rfl <| gw rfl <| gw rfl <| yw rfl (y_pick_f · rfl rfl) <| mw rfl <| gw rfl <| gw rfl <| gw rfl <| yw rfl (y_pick_f · rfl rfl) <| mw rfl <| gw rfl <| gw rfl <| gw rfl <| yw rfl (y_pick_f · rfl rfl) <| mw rfl <| gw rfl <| gw rfl <| gw rfl <| yw rfl (y_pick_f · rfl rfl) <| mw rfl <| gw rfl <| gw rfl <| yw rfl (y_pick_f · rfl rfl) <| aw rfl <| nw fun a s => ?_
 apply wp_ret
 obtain rfl := Option.some.inj hg
 exact fin1 (fn := Tryz.f51) s rfl (r_tmp s rfl) rfl
set_option maxHeartbeats 1000000 in
theorem c_r21_Light (n : Nat) (M : Bs) (w0 : World) (hM : ∀ b, M b → b < w0.heap.size) (l_ : (List Module)) (Ap01 : Option Addr) (cp01 : Nat) (hp01 : sR RModule M w0 Ap01 cp01 l_) (r : Bool) (hg : r21_Light n l_ = some r) :
    Calls Tryz.prog 22 [sl Ap01 l_ cp01].toArray w0 (Ret noB w0 fun v w => v = .bool (r)) := by
 unfold r21_Light at hg
 refine enter M noB func22 rfl rfl hM ?_
 intro a s
 refine S s <| esw 101 hp01 <| vw <| aw rfl <| nw <| sw <| vw <| mw rfl <| yw rfl (y_lenSlice · rfl underlying22) <| yw rfl (y_gtrN (i := ((l_).length)) (j := 300) · rfl rfl) <| nw fun a s => c_dec s rfl (fun hc1 => ?_) (fun hc1 => ?_)
 ·replace hg := br_t hg hc1
  have hmx2 := SlR.mx (s.ft 101 rfl)
  refine S s <| vw <| aw rfl <| nw fun a s => ?_
  apply wp_ret
  refine p_thenR ?_
  obtain rfl := Option.some.inj hg
  exact fin1 (fn := Tryz.f22) s rfl (r_tmp s rfl) rfl
 replace hg := br_f hg hc1
 refine S s <| kw <| pw <| vw <| aw rfl <| nw <| sw <| vw <| aw rfl <| nw <| bw fun a s => ?_
 refine c_loop (σ := Nat) (fun m1 a w => ∃ (n_3 : Int) (i_4 : Nat), r21_Light_L0 n l_ m1 n_3 i_4 = some r ∧ St (cx f22 M w0) [(0, sl Ap01 l_ cp01), (3, vI n_3), (4, vI (((i_4 : Nat) : Int)))] [] [(101, sF RModule Ap01 cp01 l_)] a w) (fun m1 => m1) n ⟨(0), (0), hg, (s.sb rfl rfl rfl)⟩ ?_
 clear s a; rintro m1 a w ⟨n_3, i_4, hg, s⟩
 rcases m1 with _ | m1
 ·rw [r21_Light_L0] at hg; cases hg
 rw [r21_Light_L0] at hg
 refine S s <| sw <| vw <| mw rfl <| mw rfl <| yw rfl (y_lenSlice · rfl underlying22) <| yw rfl (y_lssN (i := i_4) (j := ((l_).length)) · rfl rfl) <| nw fun a s => c_dec s rfl (fun hc5 => ?_) (fun hc5 => ?_)
 ·replace hg := br_t hg hc5
  have hmx6 := SlR.mx (s.ft 101 rfl)
  obtain ⟨x8, hx8, hg⟩ := bind_some hg
  obtain ⟨r10, hr10, hg⟩ := bind_some hg
  refine S s <| kw <| pw <| sw <| bw <| sw <| sw <| lw <| mw rfl <| mw rfl fun a s => ?_
  obtain ⟨p13, hep13, hlq14, hmq14, csq14, hdq14, hcq14⟩ := SlR.elemX (s.ft 101 rfl) hx8
  refine qq s rfl (y_elem (sz := 10) (i := i_4) s rfl rfl underlying22 rfl hep13 rfl (lt_of_get hx8)) fun a s => ?_
  obtain ⟨Aq142, cq142, Aq143, cq143, Aq144, cq144, Aq145, cq145, Aq146, cq146, Aq147, cq147, Aq148, cq148, Aq149, cq149, Aq1410, cq1410, rfl, lq141, hq142, hq143, hq144, hq145, hq146, hq147, hq148, hq149, hq1410⟩ := RModule.open hdq14
  refine S s <| nsw 111 hq142 <| nsw 112 hq143 <| nsw 113 hq144 <| nsw 114 hq145 <| nsw 115 hq146 <| nsw 116 hq147 <| nsw 117 hq148 <| nsw 118 hq149 <| nsw 119 hq1410 <| yw rfl (y_ldp · rfl hlq14 hmq14 (by simpa using hcq14) underlying38 rfl rfl) fun a s => ?_
  refine lV s rfl func51 (c_r21_LightModule n _ _ s.lt _ _ _ _ _ _ _ _ _ _ _ _ _ _ _ _ _ _ _ (by omega) (s.ft 111 rfl) (s.ft 112 rfl) (s.ft 113 rfl) (s.ft 114 rfl) (s.ft 115 rfl) (s.ft 116 rfl) (s.ft 117 rfl) (s.ft 118 rfl) (s.ft 119 rfl) _ hr10) fun a w hK s => ?_
  refine S s <| yw rfl (y_not · rfl) <| nw fun a s => c_cond s rfl (fun hc17 => ?_) (fun hc17 => ?_)
  ·replace hg := br_t hg hc17
   refine S s <| vw <| aw rfl <| nw fun a s => ?_
   apply wp_ret
   refine p_thenR ?_
   refine p_inR ?_
   refine p_thenR ?_
   refine p_thenR ?_
   refine p_inR ?_
   refine p_thenR ?_
   obtain rfl := Option.some.inj hg
   exact fin1 (fn := Tryz.f22) s rfl (r_tmp s rfl) rfl
  replace hg := br_n hg hc17
  obtain ⟨r20, hr20, hg⟩ := bind_some hg
  apply wp_skip
  apply pN
  apply wQ
  refine d_plan s [] [(0, some 0), (1, some 0), (2, some 0), (3, some 0), (4, some 0), (7, some 0), (8, some 0), (9, some 0), (10, some 0), (11, some 0), (12, some 0), (14, some 0), (15, some 0), (16, some 0), (17, some 0), (18, some 0), (19, some 0), (5, none), (6, none), (13, none), (20, none), (21, none)] rfl (by kernel_rfl) (by kernel_rfl) rfl ?_; clear s; intro wr hZ s; have hR := s.wd
  refine S s <| qw hR rfl (y_move · rfl) <| qw hR rfl (y_move · rfl) <| qw hR rfl (y_move · rfl) fun a s => ?_
  obtain ⟨p27, hep27, hlq28, hmq28, csq28, hdq28, hcq28⟩ := SlR.elemX (s.ft 101 rfl) hx8
  refine qt s hR rfl (y_elem (sz := 10) (i := i_4) s rfl rfl underlying22 rfl hep27 rfl (lt_of_get hx8)) fun a s => ?_
  obtain ⟨Aq282, cq282, Aq283, cq283, Aq284, cq284, Aq285, cq285, Aq286, cq286, Aq287, cq287, Aq288, cq288, Aq289, cq289, Aq2810, cq2810, rfl, lq281, hq282, hq283, hq284, hq285, hq286, hq287, hq288, hq289, hq2810⟩ := RModule.open hdq28
  refine S s <| nsw 147 hq282 <| nsw 148 hq283 <| nsw 149 hq284 <| nsw 150 hq285 <| nsw 151 hq286 <| nsw 152 hq287 <| nsw 153 hq288 <| nsw 154 hq289 <| nsw 155 hq2810 <| qw hR rfl (y_ldp · rfl hlq28 hmq28 (by simpa using hcq28) underlying38 rfl rfl) <| qw hR rfl (y_move · rfl) <| qw hR rfl (y_move · rfl) fun a s => ?_
  obtain ⟨p29, hep29, hlq30, hmq30, csq30, hdq30, hcq30⟩ := SlR.elemX (s.ft 101 rfl) hx8
  refine S s <| qw hR rfl (y_elem (sz := 10) (i := i_4) · rfl rfl underlying22 rfl hep29 rfl (lt_of_get hx8)) <| qw hR rfl (y_ptrField (o' := 1) · rfl underlying38 rfl rfl rfl) fun a s => ?_
  obtain ⟨Aq302, cq302, Aq303, cq303, Aq304, cq304, Aq305, cq305, Aq306, cq306, Aq307, cq307, Aq308, cq308, Aq309, cq309, Aq3010, cq3010, rfl, lq301, hq302, hq303, hq304, hq305, hq306, hq307, hq308, hq309, hq3010⟩ := RModule.open hdq30
  refine S s <| nsw 156 hq302 <| nsw 157 hq303 <| nsw 158 hq304 <| nsw 159 hq305 <| nsw 160 hq306 <| nsw 161 hq307 <| nsw 162 hq308 <| nsw 163 hq309 <| nsw 164 hq3010 <| qw hR rfl (y_ldp1 · rfl hlq30 hmq30 (hcq30 1 _ rfl) underlying25 rfl) <| qw hR rfl (y_lenSlice · rfl underlying25) <| qw hR rfl (y_move · rfl) <| qw hR rfl (y_move · rfl) fun a s => ?_
  obtain ⟨p31, hep31, hlq32, hmq32, csq32, hdq32, hcq32⟩ := SlR.elemX (s.ft 101 rfl) hx8
  refine S s <| qw hR rfl (y_elem (sz := 10) (i := i_4) · rfl rfl underlying22 rfl hep31 rfl (lt_of_get hx8)) <| qw hR rfl (y_ptrField (o' := 9) · rfl underlying38 rfl rfl rfl) fun a s => ?_
  obtain ⟨Aq322, cq322, Aq323, cq323, Aq324, cq324, Aq325, cq325, Aq326, cq326, Aq327, cq327, Aq328, cq328, Aq329, cq329, Aq3210, cq3210, rfl, lq321, hq322, hq323, hq324, hq325, hq326, hq327, hq328, hq329, hq3210⟩ := RModule.open hdq32
  refine S s <| nsw 165 hq322 <| nsw 166 hq323 <| nsw 167 hq324 <| nsw 168 hq325 <| nsw 169 hq326 <| nsw 170 hq327 <| nsw 171 hq328 <| nsw 172 hq329 <| nsw 173 hq3210 <| qw hR rfl (y_ldp1 · rfl hlq32 hmq32 (hcq32 9 _ rfl) underlying25 rfl) <| qw hR rfl (y_lenSlice · rfl underlying25) fun a s => ?_
  refine l_take s rfl rfl (l_call (cap := []) s rfl func52 rfl (by kernel_rfl) rfl rfl (c_r21_count n _ _ s.lt _ _ _ _ _ _ _ _ _ _ _ _ _ _ _ _ _ _ _ (by omega) (s.ft 147 rfl) (s.ft 148 rfl) (s.ft 149 rfl) (s.ft 150 rfl) (s.ft 151 rfl) (s.ft 152 rfl) (s.ft 153 rfl) (s.ft 154 rfl) (s.ft 155 rfl) _ hr20) fun v33 a w hK hp s => ?_)
  replace hZ := Nat.le_trans hZ hK.size; refine ⟨fun g _ h => h.grow hK, ?_⟩; clear hK
  obtain rfl := hp
  refine S s <| tw rfl (y_wadd · rfl rfl) <| tw rfl (y_wadd · rfl rfl) <| tw rfl (y_wadd · rfl rfl) <| tw rfl (y_assign · rfl) fun a s => ?_
  clear hR hZ
  refine S s <| pw <| vw <| mw rfl <| yw rfl (y_gtr · rfl rfl) <| nw fun a s => c_dec s rfl (fun hc35 => ?_) (fun hc35 => ?_)
  ·replace hg := br_t hg hc35
   refine S s <| vw <| aw rfl <| nw fun a s => ?_
   apply wp_ret
   refine p_inR ?_
   refine p_thenR ?_
   refine p_thenR ?_
   refine p_inR ?_
   refine p_thenR ?_
   obtain rfl := Option.some.inj hg
   exact fin1 (fn := Tryz.f22) s rfl (r_tmp s rfl) rfl
  replace hg := br_f hg hc35
  apply wp_skip
  refine p_inN ?_
  refine S s <| pw <| lw <| mw rfl <| yw rfl (y_addN (i := i_4) (j := 1) · rfl rfl (in64.2 (by omega))) <| aw rfl <| nw fun a s => ?_
  exact ⟨m1, Nat.lt_succ_self _, ⟨(IntKind.i64.wrap ((IntKind.i64.wrap ((IntKind.i64.wrap (n_3 + r20)) + (((x8.Imports).length : Nat) : Int))) + (((x8.Drops).length : Nat) : Int))), (i_4 + 1), hg, (s.sb rfl rfl rfl)⟩⟩
 replace hg := br_f hg hc5
 apply wp_exit
 refine p_then ?_
 refine p_then ?_
 refine p_in ?_
 refine S s <| pw <| vw <| aw rfl <| nw fun a s => ?_
 apply wp_ret
 obtain rfl := Option.some.inj hg
 exact fin1 (fn := Tryz.f22) s rfl (r_tmp s rfl) rfl
set_option maxHeartbeats 1000000 in
theorem c_r01_digit (n : Nat) (M : Bs) (w0 : World) (hM : ∀ b, M b → b < w0.heap.size) (c_ : UInt8) (r : Bool) (hg : r01_digit n c_ = some r) :
    Calls Tryz.prog 127 [.int .u8 (((c_.toNat : Nat) : Int))].toArray w0 (Ret noB w0 fun v w => v = .bool (r)) := by
 unfold r01_digit at hg
 refine enter M noB func127 rfl rfl hM ?_
 intro a s
 refine S s <| vw <| aw rfl <| nw <| sw fun a s => ?_
 rcases Decidable.em ((48 : Nat) ≤ c_.toNat) with hs1 | hs1
 ·have hs1e := decide_eq_true hs1
  replace hg := br_t hg hs1
  refine S s <| lw <| mw rfl <| yw rfl (fun s => yl_b (y_geqN (i := c_.toNat) (j := 48) s rfl rfl) hs1e) <| mw rfl <| hw rfl <| zw rfl (y_leqN (i := c_.toNat) (j := 57) · rfl rfl) <| yw rfl (y_pick_t · rfl rfl) <| aw rfl <| nw fun a s => ?_
  apply wp_ret
  obtain rfl := Option.some.inj hg
  exact fin1 (fn := Tryz.f127) s rfl (r_tmp s rfl) rfl
 have hs1e := decide_eq_false hs1
 replace hg := br_f hg hs1
 refine S s <| lw <| mw rfl <| yw rfl (fun s => yl_b (y_geqN (i := c_.toNat) (j := 48) s rfl rfl) hs1e) <| mw rfl <| gw rfl <| gw rfl <| yw rfl (y_pick_f · rfl rfl) <| aw rfl <| nw fun a s => ?_
 apply wp_ret
 obtain rfl := Option.some.inj hg
 exact fin1 (fn := Tryz.f127) s rfl (r_tmp s rfl) rfl
set_option maxHeartbeats 1000000 in
theorem c_r01_upper (n : Nat) (M : Bs) (w0 : World) (hM : ∀ b, M b → b < w0.heap.size) (c_ : UInt8) (r : Bool) (hg : r01_upper n c_ = some r) :
    Calls Tryz.prog 130 [.int .u8 (((c_.toNat : Nat) : Int))].toArray w0 (Ret noB w0 fun v w => v = .bool (r)) := by
 unfold r01_upper at hg
 refine enter M noB func130 rfl rfl hM ?_
 intro a s
 refine S s <| vw <| aw rfl <| nw <| sw fun a s => ?_
 rcases Decidable.em ((65 : Nat) ≤ c_.toNat) with hs1 | hs1
 ·have hs1e := decide_eq_true hs1
  replace hg := br_t hg hs1
  refine S s <| lw <| mw rfl <| yw rfl (fun s => yl_b (y_geqN (i := c_.toNat) (j := 65) s rfl rfl) hs1e) <| mw rfl <| hw rfl <| zw rfl (y_leqN (i := c_.toNat) (j := 90) · rfl rfl) <| yw rfl (y_pick_t · rfl rfl) <| aw rfl <| nw fun a s => ?_
  apply wp_ret
  obtain rfl := Option.some.inj hg
  exact fin1 (fn := Tryz.f130) s rfl (r_tmp s rfl) rfl
 have hs1e := decide_eq_false hs1
 replace hg := br_f hg hs1
 refine S s <| lw <| mw rfl <| yw rfl (fun s => yl_b (y_geqN (i := c_.toNat) (j := 65) s rfl rfl) hs1e) <| mw rfl <| gw rfl <| gw rfl <| yw rfl (y_pick_f · rfl rfl) <| aw rfl <| nw fun a s => ?_
 apply wp_ret
 obtain rfl := Option.some.inj hg
 exact fin1 (fn := Tryz.f130) s rfl (r_tmp s rfl) rfl
set_option maxHeartbeats 1000000 in
theorem c_r01_lower (n : Nat) (M : Bs) (w0 : World) (hM : ∀ b, M b → b < w0.heap.size) (c_ : UInt8) (r : Bool) (hg : r01_lower n c_ = some r) :
    Calls Tryz.prog 136 [.int .u8 (((c_.toNat : Nat) : Int))].toArray w0 (Ret noB w0 fun v w => v = .bool (r)) := by
 unfold r01_lower at hg
 refine enter M noB func136 rfl rfl hM ?_
 intro a s
 refine S s <| vw <| aw rfl <| nw <| sw fun a s => ?_
 rcases Decidable.em ((97 : Nat) ≤ c_.toNat) with hs1 | hs1
 ·have hs1e := decide_eq_true hs1
  replace hg := br_t hg hs1
  refine S s <| lw <| mw rfl <| yw rfl (fun s => yl_b (y_geqN (i := c_.toNat) (j := 97) s rfl rfl) hs1e) <| mw rfl <| hw rfl <| zw rfl (y_leqN (i := c_.toNat) (j := 122) · rfl rfl) <| yw rfl (y_pick_t · rfl rfl) <| aw rfl <| nw fun a s => ?_
  apply wp_ret
  obtain rfl := Option.some.inj hg
  exact fin1 (fn := Tryz.f136) s rfl (r_tmp s rfl) rfl
 have hs1e := decide_eq_false hs1
 replace hg := br_f hg hs1
 refine S s <| lw <| mw rfl <| yw rfl (fun s => yl_b (y_geqN (i := c_.toNat) (j := 97) s rfl rfl) hs1e) <| mw rfl <| gw rfl <| gw rfl <| yw rfl (y_pick_f · rfl rfl) <| aw rfl <| nw fun a s => ?_
 apply wp_ret
 obtain rfl := Option.some.inj hg
 exact fin1 (fn := Tryz.f136) s rfl (r_tmp s rfl) rfl
set_option maxHeartbeats 1000000 in
theorem c_r01_part (n : Nat) (M : Bs) (w0 : World) (hM : ∀ b, M b → b < w0.heap.size) (c_ : UInt8) (big_ : Bool) (r : Bool) (hg : r01_part n c_ big_ = some r) :
    Calls Tryz.prog 128 [.int .u8 (((c_.toNat : Nat) : Int)), .bool (big_)].toArray w0 (Ret noB w0 fun v w => v = .bool (r)) := by
 unfold r01_part at hg
 refine enter M noB func128 rfl rfl hM ?_
 intro a s
 obtain ⟨r1, hr1, hg⟩ := bind_some hg
 refine S s <| vw <| aw rfl <| nw <| sw fun a s => ?_
 rcases Bool.eq_false_or_eq_true (r1) with hs4 | hs4
 ·replace hg := br_t hg hs4
  refine S s <| lw <| mw rfl fun a s => ?_
  refine lC s rfl func127 (c_r01_digit n _ _ s.lt _ _ hr1) fun v5 a w hK hp s => ?_
  obtain rfl := hp.trans (congrArg Value.bool hs4)
  refine S s <| mw rfl <| gw rfl <| gw rfl <| yw rfl (y_pick_t · rfl rfl) <| mw rfl <| gw rfl <| gw rfl <| gw rfl <| gw rfl <| gw rfl <| yw rfl (y_pick_t · rfl rfl) <| mw rfl <| gw rfl <| gw rfl <| gw rfl <| gw rfl <| gw rfl <| gw rfl <| yw rfl (y_pick_t · rfl rfl) <| aw rfl <| nw fun a s => ?_
  apply wp_ret
  obtain rfl := Option.some.inj hg
  exact fin1 (fn := Tryz.f128) s rfl (r_tmp s rfl) rfl
 replace hg := br_n hg hs4
 rcases Decidable.em (c_.toNat = 45) with hs7 | hs7
 ·have hs7e := decide_eq_true hs7
  replace hg := br_t hg hs7
  refine S s <| lw <| mw rfl fun a s => ?_
  refine lC s rfl func127 (c_r01_digit n _ _ s.lt _ _ hr1) fun v8 a w hK hp s => ?_
  obtain rfl := hp.trans (congrArg Value.bool hs4)
  refine S s <| mw rfl <| hw rfl <| zw rfl (fun s => yl_b (y_eqlN (i := c_.toNat) (j := 45) s rfl rfl) hs7e) <| yw rfl (y_pick_f · rfl rfl) <| mw rfl <| gw rfl <| gw rfl <| gw rfl <| gw rfl <| gw rfl <| yw rfl (y_pick_t · rfl rfl) <| mw rfl <| gw rfl <| gw rfl <| gw rfl <| gw rfl <| gw rfl <| gw rfl <| yw rfl (y_pick_t · rfl rfl) <| aw rfl <| nw fun a s => ?_
  apply wp_ret
  obtain rfl := Option.some.inj hg
  exact fin1 (fn := Tryz.f128) s rfl (r_tmp s rfl) rfl
 have hs7e := decide_eq_false hs7
 replace hg := br_f hg hs7
 rcases Bool.eq_false_or_eq_true (big_) with hs10 | hs10
 ·replace hg := br_t hg hs10
  obtain ⟨r11, hr11, hg⟩ := bind_some hg
  rcases Bool.eq_false_or_eq_true (r11) with hs14 | hs14
  ·replace hg := br_t hg hs14
   refine S s <| lw <| mw rfl fun a s => ?_
   refine lC s rfl func127 (c_r01_digit n _ _ s.lt _ _ hr1) fun v15 a w hK hp s => ?_
   obtain rfl := hp.trans (congrArg Value.bool hs4)
   refine S s <| mw rfl <| hw rfl <| zw rfl (fun s => yl_b (y_eqlN (i := c_.toNat) (j := 45) s rfl rfl) hs7e) <| yw rfl (y_pick_f · rfl rfl) <| mw rfl <| zw rfl (fun s => yl_b (y_move s rfl) hs10) <| hw rfl <| hw rfl fun a s => ?_
   refine gC s rfl func130 (c_r01_upper n _ _ s.lt _ _ hr11) fun v17 a w hK hp s => ?_
   obtain rfl := hp.trans (congrArg Value.bool hs14)
   refine S s <| zw rfl (y_pick_t · rfl rfl) <| yw rfl (y_pick_f · rfl rfl) <| mw rfl <| gw rfl <| gw rfl <| gw rfl <| gw rfl <| gw rfl <| gw rfl <| yw rfl (y_pick_t · rfl rfl) <| aw rfl <| nw fun a s => ?_
   apply wp_ret
   obtain rfl := Option.some.inj hg
   exact fin1 (fn := Tryz.f128) s rfl (r_tmp s rfl) rfl
  replace hg := br_n hg hs14
  refine S s <| lw <| mw rfl fun a s => ?_
  refine lC s rfl func127 (c_r01_digit n _ _ s.lt _ _ hr1) fun v19 a w hK hp s => ?_
  obtain rfl := hp.trans (congrArg Value.bool hs4)
  refine S s <| mw rfl <| hw rfl <| zw rfl (fun s => yl_b (y_eqlN (i := c_.toNat) (j := 45) s rfl rfl) hs7e) <| yw rfl (y_pick_f · rfl rfl) <| mw rfl <| zw rfl (fun s => yl_b (y_move s rfl) hs10) <| hw rfl <| hw rfl fun a s => ?_
  refine gC s rfl func130 (c_r01_upper n _ _ s.lt _ _ hr11) fun v21 a w hK hp s => ?_
  obtain rfl := hp.trans (congrArg Value.bool hs14)
  refine S s <| zw rfl (y_pick_t · rfl rfl) <| yw rfl (y_pick_f · rfl rfl) <| mw rfl <| zw rfl (fun s => yl_b (y_move s rfl) hs10) <| zw rfl (y_not · rfl) <| hw rfl <| gw rfl <| gw rfl <| zw rfl (y_pick_f · rfl rfl) <| yw rfl (y_pick_f · rfl rfl) <| aw rfl <| nw fun a s => ?_
  apply wp_ret
  obtain rfl := Option.some.inj hg
  exact fin1 (fn := Tryz.f128) s rfl (r_tmp s rfl) rfl
 replace hg := br_n hg hs10
 obtain ⟨r23, hr23, hg⟩ := bind_some hg
 refine S s <| lw <| mw rfl fun a s => ?_
 refine lC s rfl func127 (c_r01_digit n _ _ s.lt _ _ hr1) fun v26 a w hK hp s => ?_
 obtain rfl := hp.trans (congrArg Value.bool hs4)
 refine S s <| mw rfl <| hw rfl <| zw rfl (fun s => yl_b (y_eqlN (i := c_.toNat) (j := 45) s rfl rfl) hs7e) <| yw rfl (y_pick_f · rfl rfl) <| mw rfl <| zw rfl (fun s => yl_b (y_move s rfl) hs10) <| hw rfl <| gw rfl <| gw rfl <| zw rfl (y_pick_f · rfl rfl) <| yw rfl (y_pick_f · rfl rfl) <| mw rfl <| zw rfl (fun s => yl_b (y_move s rfl) hs10) <| zw rfl (y_not · rfl) <| hw rfl <| hw rfl fun a s => ?_
 refine gV s rfl func136 (c_r01_lower n _ _ s.lt _ _ hr23) fun a w hK s => ?_
 refine S s <| zw rfl (y_pick_t · rfl rfl) <| yw rfl (y_pick_f · rfl rfl) <| aw rfl <| nw fun a s => ?_
 apply wp_ret
 obtain rfl := Option.some.inj hg
 exact fin1 (fn := Tryz.f128) s rfl (r_tmp s rfl) rfl
set_option maxHeartbeats 1000000 in
theorem c_r01_named (n : Nat) (M : Bs) (w0 : World) (hM : ∀ b, M b → b < w0.heap.size) (s_ : (List UInt8)) (lp01 : (s_).length ≤ 9223372036854775807) (big_ : Bool) (r : Bool) (hg : r01_named n s_ big_ = some r) :
    Calls Tryz.prog 110 [vT s_, .bool (big_)].toArray w0 (Ret noB w0 fun v w => v = .bool (r)) := by
 unfold r01_named at hg
 refine enter M noB func110 rfl rfl hM ?_
 intro a s
 refine S s <| vw <| aw rfl <| nw <| sw <| sw fun a s => ?_
 obtain ⟨k1, hg, hk1⟩ := jn_some hg
 refine c_post (fun a w => ∃ (t_2 : Bool), k1 t_2 = some r ∧ St (cx f110 M w0) [(0, vT s_), (1, .bool (big_)), (23, .bool (t_2))] [] [] a w) ?_ ?_
 ·rcases Decidable.em (((s_).length) < 1) with hs3 | hs3
  ·have hs3e := decide_eq_true hs3
   replace hg := br_t hg hs3
   refine S s <| lw <| mw rfl <| yw rfl (y_lenStrN · rfl underlying9) <| yw rfl (fun s => yl_b (y_lssN (i := ((s_).length)) (j := 1) s rfl rfl) hs3e) <| mw rfl <| gw rfl <| gw rfl <| gw rfl <| yw rfl (y_pick_t · rfl rfl) <| mw rfl <| gw rfl <| gw rfl <| gw rfl <| yw rfl (y_pick_t · rfl rfl) <| mw rfl <| gw rfl <| gw rfl <| gw rfl <| yw rfl (y_pick_t · rfl rfl) <| nw fun a s => ?_
   exact ⟨(true), hg, (s.sb rfl rfl rfl)⟩
  have hs3e := decide_eq_false hs3
  replace hg := br_f hg hs3
  rcases Decidable.em ((32 : Nat) < ((s_).length)) with hs4 | hs4
  ·have hs4e := decide_eq_true hs4
   replace hg := br_t hg hs4
   refine S s <| lw <| mw rfl <| yw rfl (y_lenStrN · rfl underlying9) <| yw rfl (fun s => yl_b (y_lssN (i := ((s_).length)) (j := 1) s rfl rfl) hs3e) <| mw rfl <| hw rfl <| zw rfl (y_lenStrN · rfl underlying9) <| zw rfl (fun s => yl_b (y_gtrN (i := ((s_).length)) (j := 32) s rfl rfl) hs4e) <| yw rfl (y_pick_f · rfl rfl) <| mw rfl <| gw rfl <| gw rfl <| gw rfl <| yw rfl (y_pick_t · rfl rfl) <| mw rfl <| gw rfl <| gw rfl <| gw rfl <| yw rfl (y_pick_t · rfl rfl) <| nw fun a s => ?_
   exact ⟨(true), hg, (s.sb rfl rfl rfl)⟩
  have hs4e := decide_eq_false hs4
  replace hg := br_f hg hs4
  obtain ⟨c5, hc5, hg⟩ := bind_some hg
  obtain ⟨r6, hr6, hg⟩ := bind_some hg
  rcases Bool.eq_false_or_eq_true (r6) with hs9 | hs9
  ·replace hg := br_t hg hs9
   refine S s <| lw <| mw rfl <| yw rfl (y_lenStrN · rfl underlying9) <| yw rfl (fun s => yl_b (y_lssN (i := ((s_).length)) (j := 1) s rfl rfl) hs3e) <| mw rfl <| hw rfl <| zw rfl (y_lenStrN · rfl underlying9) <| zw rfl (fun s => yl_b (y_gtrN (i := ((s_).length)) (j := 32) s rfl rfl) hs4e) <| yw rfl (y_pick_f · rfl rfl) <| mw rfl <| hw rfl <| zw rfl (y_indexN (i := 0) · rfl rfl underlying9 rfl hc5) fun a s => ?_
   refine gC s rfl func127 (c_r01_digit n _ _ s.lt _ _ hr6) fun v10 a w hK hp s => ?_
   obtain rfl := hp.trans (congrArg Value.bool hs9)
   refine S s <| yw rfl (y_pick_f · rfl rfl) <| mw rfl <| gw rfl <| gw rfl <| gw rfl <| yw rfl (y_pick_t · rfl rfl) <| nw fun a s => ?_
   exact ⟨(true), hg, (s.sb rfl rfl rfl)⟩
  replace hg := br_n hg hs9
  refine S s <| lw <| mw rfl <| yw rfl (y_lenStrN · rfl underlying9) <| yw rfl (fun s => yl_b (y_lssN (i := ((s_).length)) (j := 1) s rfl rfl) hs3e) <| mw rfl <| hw rfl <| zw rfl (y_lenStrN · rfl underlying9) <| zw rfl (fun s => yl_b (y_gtrN (i := ((s_).length)) (j := 32) s rfl rfl) hs4e) <| yw rfl (y_pick_f · rfl rfl) <| mw rfl <| hw rfl <| zw rfl (y_indexN (i := 0) · rfl rfl underlying9 rfl hc5) fun a s => ?_
  refine gC s rfl func127 (c_r01_digit n _ _ s.lt _ _ hr6) fun v12 a w hK hp s => ?_
  obtain rfl := hp.trans (congrArg Value.bool hs9)
  refine S s <| yw rfl (y_pick_f · rfl rfl) <| mw rfl <| hw rfl <| zw rfl (y_indexN (i := 0) · rfl rfl underlying9 rfl hc5) <| zw rfl (y_eqlN (i := c5.toNat) (j := 45) · rfl rfl) <| yw rfl (y_pick_f · rfl rfl) <| nw fun a s => ?_
  exact ⟨(decide (c5.toNat = 45)), hg, (s.sb rfl rfl rfl)⟩
 clear s a; rintro a w ⟨t_2, hg, s⟩
 subst hk1
 refine c_cond s rfl (fun hc14 => ?_) (fun hc14 => ?_)
 ·replace hg := br_t hg hc14
  refine S s <| vw <| aw rfl <| nw fun a s => ?_
  apply wp_ret
  refine p_thenR ?_
  obtain rfl := Option.some.inj hg
  exact fin1 (fn := Tryz.f110) s rfl (r_tmp s rfl) rfl
 replace hg := br_n hg hc14
 refine S s <| kw <| pw <| sw <| vw <| aw rfl <| nw <| bw fun a s => ?_
 refine c_loop (σ := Nat) (fun m1 a w => ∃ (i_15 : Nat), r01_named_L0 n s_ big_ m1 i_15 = some r ∧ St (cx f110 M w0) [(0, vT s_), (1, .bool (big_)), (5, vI (((i_15 : Nat) : Int)))] [] [] a w) (fun m1 => m1) n ⟨(0), hg, (s.sb rfl rfl rfl)⟩ ?_
 clear s a; rintro m1 a w ⟨i_15, hg, s⟩
 rcases m1 with _ | m1
 ·rw [r01_named_L0] at hg; cases hg
 rw [r01_named_L0] at hg
 refine S s <| sw <| vw <| mw rfl <| mw rfl <| yw rfl (y_lenStrN · rfl underlying9) <| yw rfl (y_lssN (i := i_15) (j := ((s_).length)) · rfl rfl) <| nw fun a s => c_dec s rfl (fun hc16 => ?_) (fun hc16 => ?_)
 ·replace hg := br_t hg hc16
  have hmx17 : (s_).length ≤ 9223372036854775807 := (by omega)
  obtain ⟨c18, hc18, hg⟩ := bind_some hg
  obtain ⟨r19, hr19, hg⟩ := bind_some hg
  refine S s <| kw <| pw <| sw <| bw <| sw <| lw <| mw rfl <| mw rfl <| yw rfl (y_indexN (i := i_15) · rfl rfl underlying9 rfl hc18) <| mw rfl fun a s => ?_
  refine lV s rfl func128 (c_r01_part n _ _ s.lt _ _ _ hr19) fun a w hK s => ?_
  refine S s <| yw rfl (y_not · rfl) <| nw fun a s => c_cond s rfl (fun hc24 => ?_) (fun hc24 => ?_)
  ·replace hg := br_t hg hc24
   refine S s <| vw <| aw rfl <| nw fun a s => ?_
   apply wp_ret
   refine p_inR ?_
   refine p_thenR ?_
   refine p_thenR ?_
   refine p_inR ?_
   refine p_thenR ?_
   obtain rfl := Option.some.inj hg
   exact fin1 (fn := Tryz.f110) s rfl (r_tmp s rfl) rfl
  replace hg := br_n hg hc24
  apply wp_skip
  refine p_inN ?_
  refine S s <| pw <| lw <| mw rfl <| yw rfl (y_addN (i := i_15) (j := 1) · rfl rfl (in64.2 (by omega))) <| aw rfl <| nw fun a s => ?_
  exact ⟨m1, Nat.lt_succ_self _, ⟨(i_15 + 1), hg, (s.sb rfl rfl rfl)⟩⟩
 replace hg := br_f hg hc16
 apply wp_exit
 refine p_then ?_
 refine p_then ?_
 refine p_in ?_
 refine S s <| pw <| vw <| aw rfl <| nw fun a s => ?_
 apply wp_ret
 obtain rfl := Option.some.inj hg
 exact fin1 (fn := Tryz.f110) s rfl (r_tmp s rfl) rfl
set_option maxHeartbeats 1000000 in
theorem c_r01_Name (n : Nat) (M : Bs) (w0 : World) (hM : ∀ b, M b → b < w0.heap.size) (s_ : (List UInt8)) (lp01 : (s_).length ≤ 9223372036854775807) (r : Bool) (hg : r01_Name n s_ = some r) :
    Calls Tryz.prog 77 [vT s_].toArray w0 (Ret noB w0 fun v w => v = .bool (r)) := by
 unfold r01_Name at hg
 refine enter M noB func77 rfl rfl hM ?_
 intro a s
 obtain ⟨r1, hr1, hg⟩ := bind_some hg
 refine S s <| vw <| aw rfl <| nw <| sw <| lw <| mw rfl fun a s => ?_
 refine lV s rfl func110 (c_r01_named n _ _ s.lt _ (by omega) _ _ hr1) fun a w hK s => ?_
 refine S s <| aw rfl <| nw fun a s => ?_
 apply wp_ret
 obtain rfl := Option.some.inj hg
 exact fin1 (fn := Tryz.f77) s rfl (r_tmp s rfl) rfl
set_option maxHeartbeats 1000000 in
theorem c_r21_long (n : Nat) (M : Bs) (w0 : World) (hM : ∀ b, M b → b < w0.heap.size) (m_ : Module) (Ap02 : Option Addr) (cp02 : Nat) (Ap03 : Option Addr) (cp03 : Nat) (Ap04 : Option Addr) (cp04 : Nat) (Ap05 : Option Addr) (cp05 : Nat) (Ap06 : Option Addr) (cp06 : Nat) (Ap07 : Option Addr) (cp07 : Nat) (Ap08 : Option Addr) (cp08 : Nat) (Ap09 : Option Addr) (cp09 : Nat) (Ap010 : Option Addr) (cp010 : Nat) (lp01 : (m_.Name).length ≤ 9223372036854775807) (hp02 : sR Rep.str M w0 Ap02 cp02 m_.Imports) (hp03 : sR RTypeDecl M w0 Ap03 cp03 m_.Types) (hp04 : sR RDef M w0 Ap04 cp04 m_.Templates) (hp05 : sR REntryDecl M w0 Ap05 cp05 m_.Entries) (hp06 : sR RLexDecl M w0 Ap06 cp06 m_.LexRules) (hp07 : sR RDef M w0 Ap07 cp07 m_.Rules) (hp08 : sR RDef M w0 Ap08 cp08 m_.Roots) (hp09 : sR (Rep.list Rep.str) M w0 Ap09 cp09 m_.Checks) (hp010 : sR Rep.str M w0 Ap010 cp010 m_.Drops) (r : Bool) (hg : r21_long n m_ = some r) :
    Calls Tryz.prog 78 [.agg #[vT m_.Name, sl Ap02 m_.Imports cp02, sl Ap03 m_.Types cp03, sl Ap04 m_.Templates cp04, sl Ap05 m_.Entries cp05, sl Ap06 m_.LexRules cp06, sl Ap07 m_.Rules cp07, sl Ap08 m_.Roots cp08, sl Ap09 m_.Checks cp09, sl Ap010 m_.Drops cp010]].toArray w0 (Ret noB w0 fun v w => v = .bool (r)) := by
 unfold r21_long at hg
 refine enter M noB func78 rfl rfl hM ?_
 intro a s
 refine S s <| esw 101 hp02 <| esw 102 hp03 <| esw 103 hp04 <| esw 104 hp05 <| esw 105 hp06 <| esw 106 hp07 <| esw 107 hp08 <| esw 108 hp09 <| esw 109 hp010 <| vw fun a s => ?_
 refine l_seq rfl (l_box (zs := [vT m_.Name, sl Ap02 m_.Imports cp02, sl Ap03 m_.Types cp03, sl Ap04 m_.Templates cp04, sl Ap05 m_.Entries cp05, sl Ap06 m_.LexRules cp06, sl Ap07 m_.Rules cp07, sl Ap08 m_.Roots cp08, sl Ap09 m_.Checks cp09, sl Ap010 m_.Drops cp010]) s 1000 rfl rfl rfl rfl fun b2 a w hb hK s => ?_)
 refine S s <| aw rfl <| nw <| vw <| yw rfl (y_boxField (o' := 1) · rfl underlying38 rfl rfl rfl) <| yw rfl (y_loadBox1 (kk := 1000) · rfl rfl rfl underlying25 rfl) <| yw rfl (y_lenSlice · rfl underlying25) <| yw rfl (y_boxField (o' := 2) · rfl underlying38 rfl rfl rfl) <| yw rfl (y_loadBox1 (kk := 1000) · rfl rfl rfl underlying32 rfl) <| yw rfl (y_lenSlice · rfl underlying32) <| yw rfl (y_boxField (o' := 3) · rfl underlying38 rfl rfl rfl) <| yw rfl (y_loadBox1 (kk := 1000) · rfl rfl rfl underlying33 rfl) <| yw rfl (y_lenSlice · rfl underlying33) <| yw rfl (y_boxField (o' := 4) · rfl underlying38 rfl rfl rfl) <| yw rfl (y_loadBox1 (kk := 1000) · rfl rfl rfl underlying34 rfl) <| yw rfl (y_lenSlice · rfl underlying34) <| yw rfl (y_boxField (o' := 5) · rfl underlying38 rfl rfl rfl) <| yw rfl (y_loadBox1 (kk := 1000) · rfl rfl rfl underlying35 rfl) <| yw rfl (y_lenSlice · rfl underlying35) <| yw rfl (y_boxField (o' := 6) · rfl underlying38 rfl rfl rfl) <| yw rfl (y_loadBox1 (kk := 1000) · rfl rfl rfl underlying33 rfl) <| yw rfl (y_lenSlice · rfl underlying33) <| yw rfl (y_boxField (o' := 7) · rfl underlying38 rfl rfl rfl) <| yw rfl (y_loadBox1 (kk := 1000) · rfl rfl rfl underlying33 rfl) <| yw rfl (y_lenSlice · rfl underlying33) <| yw rfl (y_boxField (o' := 8) · rfl underlying38 rfl rfl rfl) <| yw rfl (y_loadBox1 (kk := 1000) · rfl rfl rfl underlying36 rfl) <| yw rfl (y_lenSlice · rfl underlying36) <| yw rfl (y_boxField (o' := 9) · rfl underlying38 rfl rfl rfl) <| yw rfl (y_loadBox1 (kk := 1000) · rfl rfl rfl underlying25 rfl) <| yw rfl (y_lenSlice · rfl underlying25) fun a s => ?_
 refine l_seq rfl (l_buildDense (sz := 1) s 1127 rfl rfl rfl underlying147 rfl rfl rfl rfl rfl rfl rfl fun b4 a w hbb4 hK s => ?_)
 clear hbb4
 refine S s <| aw rfl <| nw <| sw <| vw <| aw rfl <| nw <| bw fun a s => ?_
 replace s := s.add 112 (rdF (Rep.num .i64) (cellsOfL [vI ((((m_.Imports).length : Nat) : Int)), vI ((((m_.Types).length : Nat) : Int)), vI ((((m_.Templates).length : Nat) : Int)), vI ((((m_.Entries).length : Nat) : Int)), vI ((((m_.LexRules).length : Nat) : Int)), vI ((((m_.Rules).length : Nat) : Int)), vI ((((m_.Roots).length : Nat) : Int)), vI ((((m_.Checks).length : Nat) : Int)), vI ((((m_.Drops).length : Nat) : Int))]) ([(((m_.Imports).length : Nat) : Int), (((m_.Types).length : Nat) : Int), (((m_.Templates).length : Nat) : Int), (((m_.Entries).length : Nat) : Int), (((m_.LexRules).length : Nat) : Int), (((m_.Rules).length : Nat) : Int), (((m_.Roots).length : Nat) : Int), (((m_.Checks).length : Nat) : Int), (((m_.Drops).length : Nat) : Int)])) (RdAll.cons (by exact rfl) (RdAll.cons (by exact rfl) (RdAll.cons (by exact rfl) (RdAll.cons (by exact rfl) (RdAll.cons (by exact rfl) (RdAll.cons (by exact rfl) (RdAll.cons (by exact rfl) (RdAll.cons (by exact rfl) (RdAll.cons (by exact rfl) (RdAll.nil _ _ _))))))))))
 replace s := s.al 111 112 rfl
 replace s := s.pk [(1000, 1000), (700110, 1127)] (by decide)
 refine c_loop (σ := Nat) (fun m1 a w => ∃ (l_5 : (List Int)) (i_9 : Nat) (A6 : Option Addr) (c7 : Nat) (cs8 : List Value), r21_long_L0 n  m1 l_5 i_9 = some r ∧ St (cx f78 M w0) [(3, sl A6 l_5 c7), (4, vI (((i_9 : Nat) : Int)))] [(700110, Ob.row (A6) ((l_5).length) (c7) 3 1 (cs8))] [(111, rdF (Rep.num .i64) (cs8) (l_5))] a w) (fun m1 => m1) n ⟨([(((m_.Imports).length : Nat) : Int), (((m_.Types).length : Nat) : Int), (((m_.Templates).length : Nat) : Int), (((m_.Entries).length : Nat) : Int), (((m_.LexRules).length : Nat) : Int), (((m_.Rules).length : Nat) : Int), (((m_.Roots).length : Nat) : Int), (((m_.Checks).length : Nat) : Int), (((m_.Drops).length : Nat) : Int)]), (0), (some ⟨b4, 0, none⟩), (9), (cellsOfL [vI ((((m_.Imports).length : Nat) : Int)), vI ((((m_.Types).length : Nat) : Int)), vI ((((m_.Templates).length : Nat) : Int)), vI ((((m_.Entries).length : Nat) : Int)), vI ((((m_.LexRules).length : Nat) : Int)), vI ((((m_.Rules).length : Nat) : Int)), vI ((((m_.Roots).length : Nat) : Int)), vI ((((m_.Checks).length : Nat) : Int)), vI ((((m_.Drops).length : Nat) : Int))]), hg, (s.sb rfl rfl rfl)⟩ ?_
 clear s a; rintro m1 a w ⟨l_5, i_9, A6, c7, cs8, hg, s⟩
 rcases m1 with _ | m1
 ·rw [r21_long_L0] at hg; cases hg
 rw [r21_long_L0] at hg
 refine S s <| sw <| vw <| mw rfl <| mw rfl <| yw rfl (y_lenSlice · rfl underlying147) <| yw rfl (y_lssN (i := i_9) (j := ((l_5).length)) · rfl rfl) <| nw fun a s => c_dec s rfl (fun hc10 => ?_) (fun hc10 => ?_)
 ·replace hg := br_t hg hc10
  have hmx11 := row_mx (s.wd.holds 700110 _ rfl)
  obtain ⟨x13, hx13, hg⟩ := bind_some hg
  refine S s <| kw <| pw <| sw <| bw <| sw <| lw <| mw rfl <| mw rfl fun a s => ?_
  obtain ⟨hiq15, bq15, hAq15⟩ := SlR.row1 (s.wd.holds 700110 _ rfl) (s.ft 111 rfl) rfl rfl hx13
  refine qq s rfl (y_rowIndex (sz := 1) (i := i_9) s rfl rfl underlying147 rfl hAq15 rfl hiq15) fun a s => ?_
  have hz16 := (s.ft 111 rfl).at_ _ _ hx13
  have ez16 := hz16
  refine S s <| yw rfl (y_loadRow1 (kk := 700110) · rfl rfl hAq15 (take1 ez16) underlying3 rfl) <| yw rfl (y_gtr · rfl rfl) <| nw fun a s => c_dec s rfl (fun hc17 => ?_) (fun hc17 => ?_)
  ·replace hg := br_t hg hc17
   refine S s <| vw <| aw rfl <| nw fun a s => ?_
   apply wp_ret
   refine p_inR ?_
   refine p_thenR ?_
   refine p_thenR ?_
   refine p_inR ?_
   refine p_thenR ?_
   obtain rfl := Option.some.inj hg
   exact fin1 (fn := Tryz.f78) s rfl (r_tmp s rfl) rfl
  replace hg := br_f hg hc17
  apply wp_skip
  refine p_inN ?_
  refine S s <| pw <| lw <| mw rfl <| yw rfl (y_addN (i := i_9) (j := 1) · rfl rfl (in64.2 (by omega))) <| aw rfl <| nw <| alw 111 111 rfl fun a s => ?_
  exact ⟨m1, Nat.lt_succ_self _, ⟨(l_5), (i_9 + 1), (A6), (c7), (cs8), hg, (s.sb rfl rfl rfl)⟩⟩
 replace hg := br_f hg hc10
 apply wp_exit
 refine p_then ?_
 refine p_then ?_
 refine p_in ?_
 refine S s <| pw <| vw <| aw rfl <| nw fun a s => ?_
 apply wp_ret
 obtain rfl := Option.some.inj hg
 exact fin1 (fn := Tryz.f78) s rfl (r_tmp s rfl) rfl
set_option maxHeartbeats 1000000 in
theorem c_r01_Feature (n : Nat) (M : Bs) (w0 : World) (hM : ∀ b, M b → b < w0.heap.size) (s_ : (List UInt8)) (lp01 : (s_).length ≤ 9223372036854775807) (r : Bool) (hg : r01_Feature n s_ = some r) :
    Calls Tryz.prog 111 [vT s_].toArray w0 (Ret noB w0 fun v w => v = .bool (r)) := by
 unfold r01_Feature at hg
 refine enter M noB func111 rfl rfl hM ?_
 intro a s
 obtain ⟨r1, hr1, hg⟩ := bind_some hg
 refine S s <| vw <| aw rfl <| nw <| sw <| lw <| mw rfl fun a s => ?_
 refine lV s rfl func110 (c_r01_named n _ _ s.lt _ (by omega) _ _ hr1) fun a w hK s => ?_
 refine S s <| aw rfl <| nw fun a s => ?_
 apply wp_ret
 obtain rfl := Option.some.inj hg
 exact fin1 (fn := Tryz.f111) s rfl (r_tmp s rfl) rfl
set_option maxHeartbeats 1000000 in
theorem c_r21_allNames (n : Nat) (M : Bs) (w0 : World) (hM : ∀ b, M b → b < w0.heap.size) (l_ : (List (List UInt8))) (Ap01 : Option Addr) (cp01 : Nat) (hp01 : sR Rep.str M w0 Ap01 cp01 l_) (big_ : Bool) (r : Bool) (hg : r21_allNames n l_ big_ = some r) :
    Calls Tryz.prog 79 [sl Ap01 l_ cp01, .bool (big_)].toArray w0 (Ret noB w0 fun v w => v = .bool (r)) := by
 unfold r21_allNames at hg
 refine enter M noB func79 rfl rfl hM ?_
 intro a s
 refine S s <| esw 101 hp01 <| vw <| aw rfl <| nw <| sw <| vw <| aw rfl <| nw <| bw fun a s => ?_
 refine c_loop (σ := Nat) (fun m1 a w => ∃ (i_1 : Nat), r21_allNames_L0 n l_ big_ m1 i_1 = some r ∧ St (cx f79 M w0) [(0, sl Ap01 l_ cp01), (1, .bool (big_)), (5, vI (((i_1 : Nat) : Int)))] [] [(101, sF Rep.str Ap01 cp01 l_)] a w) (fun m1 => m1) n ⟨(0), hg, (s.sb rfl rfl rfl)⟩ ?_
 clear s a; rintro m1 a w ⟨i_1, hg, s⟩
 rcases m1 with _ | m1
 ·rw [r21_allNames_L0] at hg; cases hg
 rw [r21_allNames_L0] at hg
 refine S s <| sw <| vw <| mw rfl <| mw rfl <| yw rfl (y_lenSlice · rfl underlying25) <| yw rfl (y_lssN (i := i_1) (j := ((l_).length)) · rfl rfl) <| nw fun a s => c_dec s rfl (fun hc2 => ?_) (fun hc2 => ?_)
 ·replace hg := br_t hg hc2
  have hmx3 := SlR.mx (s.ft 101 rfl)
  refine S s <| kw <| pw <| sw <| bw <| sw fun a s => ?_
  obtain ⟨k4, hg, hk4⟩ := jn_some hg
  refine c_post (fun a w => ∃ (t_5 : Bool), k4 t_5 = some r ∧ St (cx f79 M w0) [(0, sl Ap01 l_ cp01), (1, .bool (big_)), (5, vI (((i_1 : Nat) : Int))), (32, .bool (t_5))] [] [(101, sF Rep.str Ap01 cp01 l_)] a w) ?_ ?_
  ·rcases Bool.eq_false_or_eq_true (big_) with hs6 | hs6
   ·replace hg := br_t hg hs6
    obtain ⟨x8, hx8, hg⟩ := bind_some hg
    obtain ⟨r10, hr10, hg⟩ := bind_some hg
    rcases Bool.eq_false_or_eq_true (!(r10)) with hs13 | hs13
    ·replace hg := br_t hg hs13
     refine S s <| lw <| yw rfl (fun s => yl_b (y_move s rfl) hs6) <| mw rfl <| hw rfl <| hw rfl fun a s => ?_
     obtain ⟨p14, hep14, hlq15, hmq15, csq15, hdq15, hcq15⟩ := SlR.elemX (s.ft 101 rfl) hx8
     refine gy s rfl (y_elem (sz := 1) (i := i_1) s rfl rfl underlying25 rfl hep14 rfl (lt_of_get hx8)) fun a s => ?_
     obtain ⟨rfl, lq151⟩ := hdq15
     refine gy s rfl (y_ldp1 s rfl hlq15 hmq15 (hcq15 0 _ rfl) underlying9 rfl) fun a s => ?_
     refine gV s rfl func111 (c_r01_Feature n _ _ s.lt _ (by omega) _ hr10) fun a w hK s => ?_
     refine S s <| zw rfl (fun s => yl_b (y_not s rfl) hs13) <| yw rfl (y_pick_t · rfl rfl) <| mw rfl <| gw rfl <| gw rfl <| gw rfl <| gw rfl <| gw rfl <| gw rfl <| gw rfl <| gw rfl <| gw rfl <| gw rfl <| yw rfl (y_pick_t · rfl rfl) <| nw fun a s => ?_
     exact ⟨(true), hg, (s.sb rfl rfl rfl)⟩
    replace hg := br_n hg hs13
    refine S s <| lw <| yw rfl (fun s => yl_b (y_move s rfl) hs6) <| mw rfl <| hw rfl <| hw rfl fun a s => ?_
    obtain ⟨p18, hep18, hlq19, hmq19, csq19, hdq19, hcq19⟩ := SlR.elemX (s.ft 101 rfl) hx8
    refine gy s rfl (y_elem (sz := 1) (i := i_1) s rfl rfl underlying25 rfl hep18 rfl (lt_of_get hx8)) fun a s => ?_
    obtain ⟨rfl, lq191⟩ := hdq19
    refine gy s rfl (y_ldp1 s rfl hlq19 hmq19 (hcq19 0 _ rfl) underlying9 rfl) fun a s => ?_
    refine gV s rfl func111 (c_r01_Feature n _ _ s.lt _ (by omega) _ hr10) fun a w hK s => ?_
    refine S s <| zw rfl (fun s => yl_b (y_not s rfl) hs13) <| yw rfl (y_pick_t · rfl rfl) <| mw rfl <| zw rfl (fun s => yl_b (y_move s rfl) hs6) <| zw rfl (y_not · rfl) <| hw rfl <| gw rfl <| gw rfl <| gw rfl <| gw rfl <| gw rfl <| gw rfl <| zw rfl (y_pick_f · rfl rfl) <| yw rfl (y_pick_f · rfl rfl) <| nw fun a s => ?_
    exact ⟨(false), hg, (s.sb rfl rfl rfl)⟩
   replace hg := br_n hg hs6
   obtain ⟨x23, hx23, hg⟩ := bind_some hg
   obtain ⟨r25, hr25, hg⟩ := bind_some hg
   refine S s <| lw <| yw rfl (fun s => yl_b (y_move s rfl) hs6) <| mw rfl <| gw rfl <| gw rfl <| gw rfl <| gw rfl <| gw rfl <| gw rfl <| yw rfl (y_pick_f · rfl rfl) <| mw rfl <| zw rfl (fun s => yl_b (y_move s rfl) hs6) <| zw rfl (y_not · rfl) <| hw rfl <| hw rfl <| hw rfl fun a s => ?_
   obtain ⟨p28, hep28, hlq29, hmq29, csq29, hdq29, hcq29⟩ := SlR.elemX (s.ft 101 rfl) hx23
   refine gy s rfl (y_elem (sz := 1) (i := i_1) s rfl rfl underlying25 rfl hep28 rfl (lt_of_get hx23)) fun a s => ?_
   obtain ⟨rfl, lq291⟩ := hdq29
   refine gy s rfl (y_ldp1 s rfl hlq29 hmq29 (hcq29 0 _ rfl) underlying9 rfl) fun a s => ?_
   refine gV s rfl func77 (c_r01_Name n _ _ s.lt _ (by omega) _ hr25) fun a w hK s => ?_
   refine S s <| zw rfl (y_not · rfl) <| zw rfl (y_pick_t · rfl rfl) <| yw rfl (y_pick_f · rfl rfl) <| nw fun a s => ?_
   exact ⟨(!(r25)), hg, (s.sb rfl rfl rfl)⟩
  clear s a; rintro a w ⟨t_5, hg, s⟩
  subst hk4
  refine c_cond s rfl (fun hc32 => ?_) (fun hc32 => ?_)
  ·replace hg := br_t hg hc32
   refine S s <| vw <| aw rfl <| nw fun a s => ?_
   apply wp_ret
   refine p_inR ?_
   refine p_thenR ?_
   refine p_thenR ?_
   refine p_inR ?_
   refine p_thenR ?_
   obtain rfl := Option.some.inj hg
   exact fin1 (fn := Tryz.f79) s rfl (r_tmp s rfl) rfl
  replace hg := br_n hg hc32
  apply wp_skip
  refine p_inN ?_
  refine S s <| pw <| lw <| mw rfl <| yw rfl (y_addN (i := i_1) (j := 1) · rfl rfl (in64.2 (by omega))) <| aw rfl <| nw fun a s => ?_
  exact ⟨m1, Nat.lt_succ_self _, ⟨(i_1 + 1), hg, (s.sb rfl rfl rfl)⟩⟩
 replace hg := br_f hg hc2
 apply wp_exit
 refine p_then ?_
 refine p_then ?_
 refine p_in ?_
 refine S s <| pw <| vw <| aw rfl <| nw fun a s => ?_
 apply wp_ret
 obtain rfl := Option.some.inj hg
 exact fin1 (fn := Tryz.f79) s rfl (r_tmp s rfl) rfl
set_option maxHeartbeats 1000000 in
theorem c_r21_first (n : Nat) (M : Bs) (w0 : World) (hM : ∀ b, M b → b < w0.heap.size) (l_ : (List Int)) (Ap01 : Option Addr) (cp01 : Nat) (hp01 : sR (Rep.num .i64) M w0 Ap01 cp01 l_) (r : Int) (hg : r21_first n l_ = some r) :
    Calls Tryz.prog 80 [sl Ap01 l_ cp01].toArray w0 (Ret noB w0 fun v w => v = .int .i64 (r)) := by
 unfold r21_first at hg
 refine enter M noB func80 rfl rfl hM ?_
 intro a s
 refine S s <| esw 101 hp01 <| vw <| aw rfl <| nw <| sw <| vw <| aw rfl <| nw <| bw fun a s => ?_
 refine c_loop (σ := Nat) (fun m1 a w => ∃ (i_1 : Nat), r21_first_L0 n l_ m1 i_1 = some r ∧ St (cx f80 M w0) [(0, sl Ap01 l_ cp01), (3, vI (((i_1 : Nat) : Int)))] [] [(101, sF (Rep.num .i64) Ap01 cp01 l_)] a w) (fun m1 => m1) n ⟨(0), hg, (s.sb rfl rfl rfl)⟩ ?_
 clear s a; rintro m1 a w ⟨i_1, hg, s⟩
 rcases m1 with _ | m1
 ·rw [r21_first_L0] at hg; cases hg
 rw [r21_first_L0] at hg
 refine S s <| sw <| vw <| mw rfl <| mw rfl <| yw rfl (y_lenSlice · rfl underlying113) <| yw rfl (y_lssN (i := i_1) (j := ((l_).length)) · rfl rfl) <| nw fun a s => c_dec s rfl (fun hc2 => ?_) (fun hc2 => ?_)
 ·replace hg := br_t hg hc2
  have hmx3 := SlR.mx (s.ft 101 rfl)
  obtain ⟨x5, hx5, hg⟩ := bind_some hg
  refine S s <| kw <| pw <| sw <| bw <| sw <| lw <| mw rfl <| mw rfl fun a s => ?_
  obtain ⟨p7, hep7, hlq8, hmq8, csq8, hdq8, hcq8⟩ := SlR.elemX (s.ft 101 rfl) hx5
  refine qq s rfl (y_elem (sz := 1) (i := i_1) s rfl rfl underlying113 rfl hep7 rfl (lt_of_get hx5)) fun a s => ?_
  obtain rfl := hdq8
  refine S s <| yw rfl (y_ldp1 · rfl hlq8 hmq8 (hcq8 0 _ rfl) underlying26 rfl) <| yw rfl (y_neq · rfl rfl) <| nw fun a s => c_dec s rfl (fun hc9 => ?_) (fun hc9 => ?_)
  ·replace hg := br_t hg hc9
   refine S s <| vw <| mw rfl <| mw rfl fun a s => ?_
   obtain ⟨p12, hep12, hlq13, hmq13, csq13, hdq13, hcq13⟩ := SlR.elemX (s.ft 101 rfl) hx5
   refine qq s rfl (y_elem (sz := 1) (i := i_1) s rfl rfl underlying113 rfl hep12 rfl (lt_of_get hx5)) fun a s => ?_
   obtain rfl := hdq13
   refine S s <| yw rfl (y_ldp1 · rfl hlq13 hmq13 (hcq13 0 _ rfl) underlying26 rfl) <| aw rfl <| nw fun a s => ?_
   apply wp_ret
   refine p_inR ?_
   refine p_thenR ?_
   refine p_thenR ?_
   refine p_inR ?_
   refine p_thenR ?_
   obtain rfl := Option.some.inj hg
   exact fin1 (fn := Tryz.f80) s rfl (r_tmp s rfl) rfl
  replace hg := br_f hg hc9
  apply wp_skip
  refine p_inN ?_
  refine S s <| pw <| lw <| mw rfl <| yw rfl (y_addN (i := i_1) (j := 1) · rfl rfl (in64.2 (by omega))) <| aw rfl <| nw fun a s => ?_
  exact ⟨m1, Nat.lt_succ_self _, ⟨(i_1 + 1), hg, (s.sb rfl rfl rfl)⟩⟩
 replace hg := br_f hg hc2
 apply wp_exit
 refine p_then ?_
 refine p_then ?_
 refine p_in ?_
 refine S s <| pw <| vw <| aw rfl <| nw fun a s => ?_
 apply wp_ret
 obtain rfl := Option.some.inj hg
 exact fin1 (fn := Tryz.f80) s rfl (r_tmp s rfl) rfl
set_option maxHeartbeats 1000000 in
theorem c_r21_typeError (n : Nat) (M : Bs) (w0 : World) (hM : ∀ b, M b → b < w0.heap.size) (x_ : TypeDecl) (Ap02 : Option Addr) (cp02 : Nat) (Ap03 : Option Addr) (cp03 : Nat) (lp01 : (x_.Name).length ≤ 9223372036854775807) (hp02 : sR Rep.str M w0 Ap02 cp02 x_.Supers) (hp03 : sR RFeatDecl M w0 Ap03 cp03 x_.Feats) (r : Int) (hg : r21_typeError n x_ = some r) :
    Calls Tryz.prog 112 [.agg #[vT x_.Name, sl Ap02 x_.Supers cp02, sl Ap03 x_.Feats cp03]].toArray w0 (Ret noB w0 fun v w => v = .int .i64 (r)) := by
 unfold r21_typeError at hg
 refine enter M noB func112 rfl rfl hM ?_
 intro a s
 let F : Al Fact := [(101, sF Rep.str Ap02 cp02 x_.Supers), (102, sF RFeatDecl Ap03 cp03 x_.Feats)]
 refine S s <| esw 101 hp02 <| esw 102 hp03 <| vw fun a s => ?_
 refine l_seq rfl (l_box (zs := [vT x_.Name, sl Ap02 x_.Supers cp02, sl Ap03 x_.Feats cp03]) s 1000 rfl rfl rfl rfl fun b2 a w hb hK s => ?_)
 obtain ⟨r3, hr3, hg⟩ := bind_some hg
 refine S s <| aw rfl <| nw <| sw <| sw <| lw <| yw rfl (y_boxField (o' := 0) · rfl underlying49 rfl rfl rfl) <| yw rfl (y_loadBox1 (kk := 1000) · rfl rfl rfl underlying9 rfl) fun a s => ?_
 refine lV s rfl func77 (c_r01_Name n _ _ s.lt _ (by omega) _ hr3) fun a w hK s => ?_
 refine S s <| yw rfl (y_not · rfl) <| nw fun a s => c_cond s rfl (fun hc8 => ?_) (fun hc8 => ?_)
 ·replace hg := br_t hg hc8
  refine S s <| vw <| aw rfl <| nw fun a s => ?_
  apply wp_ret
  refine p_thenR ?_
  obtain rfl := Option.some.inj hg
  exact fin1 (fn := Tryz.f112) s rfl (r_tmp s rfl) rfl
 replace hg := br_n hg hc8
 apply wp_skip
 apply pN
 apply wQ
 apply wQ
 obtain ⟨k9, hg, hk9⟩ := jn_some hg
 refine c_post (fun a w => ∃ (t_10 : Bool), k9 t_10 = some r ∧ St (cx f112 M w0) [(1, vP b2 0), (17, .bool (t_10))] [(1000, Ob.box b2 [vT x_.Name, sl Ap02 x_.Supers cp02, sl Ap03 x_.Feats cp03] 49)] F a w) ?_ ?_
 ·rcases Decidable.em ((256 : Nat) < ((x_.Supers).length)) with hs11 | hs11
  ·have hs11e := decide_eq_true hs11
   replace hg := br_t hg hs11
   have hmx12 := SlR.mx (s.ft 101 rfl)
   refine S s <| lw <| yw rfl (y_boxField (o' := 1) · rfl underlying49 rfl rfl rfl) <| yw rfl (y_loadBox1 (kk := 1000) · rfl rfl rfl underlying25 rfl) <| yw rfl (y_lenSlice · rfl underlying25) <| yw rfl (fun s => yl_b (y_gtrN (i := ((x_.Supers).length)) (j := 256) s rfl rfl) hs11e) <| mw rfl <| gw rfl <| gw rfl <| gw rfl <| gw rfl <| yw rfl (y_pick_t · rfl rfl) <| nw fun a s => ?_
   exact ⟨(true), hg, (s.sb rfl rfl rfl)⟩
  have hs11e := decide_eq_false hs11
  replace hg := br_f hg hs11
  refine S s <| lw <| yw rfl (y_boxField (o' := 1) · rfl underlying49 rfl rfl rfl) <| yw rfl (y_loadBox1 (kk := 1000) · rfl rfl rfl underlying25 rfl) <| yw rfl (y_lenSlice · rfl underlying25) <| yw rfl (fun s => yl_b (y_gtrN (i := ((x_.Supers).length)) (j := 256) s rfl rfl) hs11e) <| mw rfl <| zw rfl (y_boxField (o' := 2) · rfl underlying49 rfl rfl rfl) <| zw rfl (y_loadBox1 (kk := 1000) · rfl rfl rfl underlying47 rfl) <| zw rfl (y_lenSlice · rfl underlying47) <| zw rfl (y_gtrN (i := ((x_.Feats).length)) (j := 256) · rfl rfl) <| yw rfl (y_pick_f · rfl rfl) <| nw fun a s => ?_
  exact ⟨(decide ((256 : Nat) < ((x_.Feats).length))), hg, (s.sb rfl rfl rfl)⟩
 clear s a; rintro a w ⟨t_10, hg, s⟩
 subst hk9
 refine c_cond s rfl (fun hc13 => ?_) (fun hc13 => ?_)
 ·replace hg := br_t hg hc13
  refine S s <| vw <| aw rfl <| nw fun a s => ?_
  apply wp_ret
  refine p_thenR ?_
  obtain rfl := Option.some.inj hg
  exact fin1 (fn := Tryz.f112) s rfl (r_tmp s rfl) rfl
 replace hg := br_n hg hc13
 obtain ⟨r14, hr14, hg⟩ := bind_some hg
 refine S s <| kw <| pw <| sw <| sw <| lw <| yw rfl (y_boxField (o' := 1) · rfl underlying49 rfl rfl rfl) <| yw rfl (y_loadBox1 (kk := 1000) · rfl rfl rfl underlying25 rfl) fun a s => ?_
 refine lV s rfl func79 (c_r21_allNames n _ _ s.lt _ _ _ (s.ft 101 rfl) _ _ hr14) fun a w hK s => ?_
 refine S s <| yw rfl (y_not · rfl) <| nw fun a s => c_cond s rfl (fun hc19 => ?_) (fun hc19 => ?_)
 ·replace hg := br_t hg hc19
  refine S s <| vw <| aw rfl <| nw fun a s => ?_
  apply wp_ret
  refine p_thenR ?_
  obtain rfl := Option.some.inj hg
  exact fin1 (fn := Tryz.f112) s rfl (r_tmp s rfl) rfl
 replace hg := br_n hg hc19
 refine S s <| kw <| pw <| sw <| vw <| aw rfl <| nw <| bw fun a s => ?_
 refine c_loop (σ := Nat) (fun m1 a w => ∃ (i_20 : Nat), r21_typeError_L0 n x_ m1 i_20 = some r ∧ St (cx f112 M w0) [(1, vP b2 0), (3, vI (((i_20 : Nat) : Int)))] [(1000, Ob.box b2 [vT x_.Name, sl Ap02 x_.Supers cp02, sl Ap03 x_.Feats cp03] 49)] F a w) (fun m1 => m1) n ⟨(0), hg, (s.sb rfl rfl rfl)⟩ ?_
 clear s a; rintro m1 a w ⟨i_20, hg, s⟩
 rcases m1 with _ | m1
 ·rw [r21_typeError_L0] at hg; cases hg
 rw [r21_typeError_L0] at hg
 refine S s <| sw <| vw <| mw rfl <| yw rfl (y_boxField (o' := 2) · rfl underlying49 rfl rfl rfl) <| yw rfl (y_loadBox1 (kk := 1000) · rfl rfl rfl underlying47 rfl) <| yw rfl (y_lenSlice · rfl underlying47) <| yw rfl (y_lssN (i := i_20) (j := ((x_.Feats).length)) · rfl rfl) <| nw fun a s => c_dec s rfl (fun hc21 => ?_) (fun hc21 => ?_)
 ·replace hg := br_t hg hc21
  have hmx22 := SlR.mx (s.ft 102 rfl)
  refine S s <| kw <| pw <| sw <| bw <| sw fun a s => ?_
  obtain ⟨k23, hg, hk23⟩ := jn_some hg
  refine c_post (fun a w => ∃ (t_24 : Bool), k23 t_24 = some r ∧ St (cx f112 M w0) [(1, vP b2 0), (3, vI (((i_20 : Nat) : Int))), (46, .bool (t_24))] [(1000, Ob.box b2 [vT x_.Name, sl Ap02 x_.Supers cp02, sl Ap03 x_.Feats cp03] 49)] F a w) ?_ ?_
  ·obtain ⟨x26, hx26, hg⟩ := bind_some hg
   obtain ⟨r28, hr28, hg⟩ := bind_some hg
   rcases Bool.eq_false_or_eq_true (!(r28)) with hs31 | hs31
   ·replace hg := br_t hg hs31
    refine S s <| lw <| yw rfl (y_boxField (o' := 2) · rfl underlying49 rfl rfl rfl) <| yw rfl (y_loadBox1 (kk := 1000) · rfl rfl rfl underlying47 rfl) <| mw rfl fun a s => ?_
    obtain ⟨p32, hep32, hlq33, hmq33, csq33, hdq33, hcq33⟩ := SlR.elemX (s.ft 102 rfl) hx26
    refine S s <| yw rfl (y_elem (sz := 2) (i := i_20) · rfl rfl underlying47 rfl hep32 rfl (lt_of_get hx26)) <| yw rfl (y_ptrField (o' := 0) · rfl underlying82 rfl rfl rfl) fun a s => ?_
    obtain ⟨rfl, lq331, lq332⟩ := RFeatDecl.open hdq33
    refine qq s rfl (y_ldp1 s rfl hlq33 hmq33 (hcq33 0 _ rfl) underlying9 rfl) fun a s => ?_
    refine lV s rfl func111 (c_r01_Feature n _ _ s.lt _ (by omega) _ hr28) fun a w hK s => ?_
    refine S s <| yw rfl (fun s => yl_b (y_not s rfl) hs31) <| mw rfl <| gw rfl <| gw rfl <| gw rfl <| gw rfl <| gw rfl <| gw rfl <| gw rfl <| gw rfl <| yw rfl (y_pick_t · rfl rfl) <| nw fun a s => ?_
    exact ⟨(true), hg, (s.sb rfl rfl rfl)⟩
   replace hg := br_n hg hs31
   obtain ⟨r38, hr38, hg⟩ := bind_some hg
   refine S s <| lw <| yw rfl (y_boxField (o' := 2) · rfl underlying49 rfl rfl rfl) <| yw rfl (y_loadBox1 (kk := 1000) · rfl rfl rfl underlying47 rfl) <| mw rfl fun a s => ?_
   obtain ⟨p41, hep41, hlq42, hmq42, csq42, hdq42, hcq42⟩ := SlR.elemX (s.ft 102 rfl) hx26
   refine S s <| yw rfl (y_elem (sz := 2) (i := i_20) · rfl rfl underlying47 rfl hep41 rfl (lt_of_get hx26)) <| yw rfl (y_ptrField (o' := 0) · rfl underlying82 rfl rfl rfl) fun a s => ?_
   obtain ⟨rfl, lq421, lq422⟩ := RFeatDecl.open hdq42
   refine qq s rfl (y_ldp1 s rfl hlq42 hmq42 (hcq42 0 _ rfl) underlying9 rfl) fun a s => ?_
   refine lV s rfl func111 (c_r01_Feature n _ _ s.lt _ (by omega) _ hr28) fun a w hK s => ?_
   refine S s <| yw rfl (fun s => yl_b (y_not s rfl) hs31) <| mw rfl <| zw rfl (y_boxField (o' := 2) · rfl underlying49 rfl rfl rfl) <| zw rfl (y_loadBox1 (kk := 1000) · rfl rfl rfl underlying47 rfl) <| hw rfl fun a s => ?_
   obtain ⟨p45, hep45, hlq46, hmq46, csq46, hdq46, hcq46⟩ := SlR.elemX (s.ft 102 rfl) hx26
   refine S s <| zw rfl (y_elem (sz := 2) (i := i_20) · rfl rfl underlying47 rfl hep45 rfl (lt_of_get hx26)) <| zw rfl (y_ptrField (o' := 1) · rfl underlying82 rfl rfl rfl) fun a s => ?_
   obtain ⟨rfl, lq461, lq462⟩ := RFeatDecl.open hdq46
   refine gy s rfl (y_ldp1 s rfl hlq46 hmq46 (hcq46 1 _ rfl) underlying9 rfl) fun a s => ?_
   refine gV s rfl func77 (c_r01_Name n _ _ s.lt _ (by omega) _ hr38) fun a w hK s => ?_
   refine S s <| zw rfl (y_not · rfl) <| yw rfl (y_pick_f · rfl rfl) <| nw fun a s => ?_
   exact ⟨(!(r38)), hg, (s.sb rfl rfl rfl)⟩
  clear s a; rintro a w ⟨t_24, hg, s⟩
  subst hk23
  refine c_cond s rfl (fun hc49 => ?_) (fun hc49 => ?_)
  ·replace hg := br_t hg hc49
   refine S s <| vw <| aw rfl <| nw fun a s => ?_
   apply wp_ret
   refine p_inR ?_
   refine p_thenR ?_
   refine p_thenR ?_
   refine p_inR ?_
   refine p_thenR ?_
   obtain rfl := Option.some.inj hg
   exact fin1 (fn := Tryz.f112) s rfl (r_tmp s rfl) rfl
  replace hg := br_n hg hc49
  apply wp_skip
  refine p_inN ?_
  refine S s <| pw <| lw <| mw rfl <| yw rfl (y_addN (i := i_20) (j := 1) · rfl rfl (in64.2 (by omega))) <| aw rfl <| nw fun a s => ?_
  exact ⟨m1, Nat.lt_succ_self _, ⟨(i_20 + 1), hg, (s.sb rfl rfl rfl)⟩⟩
 replace hg := br_f hg hc21
 apply wp_exit
 refine p_then ?_
 refine p_then ?_
 refine p_in ?_
 refine S s <| pw <| vw <| aw rfl <| nw fun a s => ?_
 apply wp_ret
 obtain rfl := Option.some.inj hg
 exact fin1 (fn := Tryz.f112) s rfl (r_tmp s rfl) rfl
set_option maxHeartbeats 1000000 in
theorem c_r21_typesError (n : Nat) (M : Bs) (w0 : World) (hM : ∀ b, M b → b < w0.heap.size) (l_ : (List TypeDecl)) (Ap01 : Option Addr) (cp01 : Nat) (hp01 : sR RTypeDecl M w0 Ap01 cp01 l_) (r : Int) (hg : r21_typesError n l_ = some r) :
    Calls Tryz.prog 81 [sl Ap01 l_ cp01].toArray w0 (Ret noB w0 fun v w => v = .int .i64 (r)) := by
 unfold r21_typesError at hg
 refine enter M noB func81 rfl rfl hM ?_
 intro a s
 refine S s <| esw 101 hp01 <| vw <| aw rfl <| nw <| sw <| vw <| aw rfl <| nw <| bw fun a s => ?_
 refine c_loop (σ := Nat) (fun m1 a w => ∃ (i_1 : Nat), r21_typesError_L0 n l_ m1 i_1 = some r ∧ St (cx f81 M w0) [(0, sl Ap01 l_ cp01), (3, vI (((i_1 : Nat) : Int)))] [] [(101, sF RTypeDecl Ap01 cp01 l_)] a w) (fun m1 => m1) n ⟨(0), hg, (s.sb rfl rfl rfl)⟩ ?_
 clear s a; rintro m1 a w ⟨i_1, hg, s⟩
 rcases m1 with _ | m1
 ·rw [r21_typesError_L0] at hg; cases hg
 rw [r21_typesError_L0] at hg
 refine S s <| sw <| vw <| mw rfl <| mw rfl <| yw rfl (y_lenSlice · rfl underlying32) <| yw rfl (y_lssN (i := i_1) (j := ((l_).length)) · rfl rfl) <| nw fun a s => c_dec s rfl (fun hc2 => ?_) (fun hc2 => ?_)
 ·replace hg := br_t hg hc2
  have hmx3 := SlR.mx (s.ft 101 rfl)
  obtain ⟨x5, hx5, hg⟩ := bind_some hg
  obtain ⟨r7, hr7, hg⟩ := bind_some hg
  refine S s <| kw <| pw <| sw <| bw <| sw <| lw <| mw rfl <| mw rfl fun a s => ?_
  obtain ⟨p10, hep10, hlq11, hmq11, csq11, hdq11, hcq11⟩ := SlR.elemX (s.ft 101 rfl) hx5
  refine qq s rfl (y_elem (sz := 3) (i := i_1) s rfl rfl underlying32 rfl hep10 rfl (lt_of_get hx5)) fun a s => ?_
  obtain ⟨Aq112, cq112, Aq113, cq113, rfl, lq111, hq112, hq113⟩ := RTypeDecl.open hdq11
  refine S s <| nsw 104 hq112 <| nsw 105 hq113 <| yw rfl (y_ldp · rfl hlq11 hmq11 (by simpa using hcq11) underlying49 rfl rfl) fun a s => ?_
  refine lV s rfl func112 (c_r21_typeError n _ _ s.lt _ _ _ _ _ (by omega) (s.ft 104 rfl) (s.ft 105 rfl) _ hr7) fun a w hK s => ?_
  refine S s <| aw rfl <| nw <| vw <| mw rfl <| yw rfl (y_neq · rfl rfl) <| nw fun a s => c_dec s rfl (fun hc14 => ?_) (fun hc14 => ?_)
  ·replace hg := br_t hg hc14
   refine S s <| vw <| mw rfl <| aw rfl <| nw fun a s => ?_
   apply wp_ret
   refine p_inR ?_
   refine p_thenR ?_
   refine p_thenR ?_
   refine p_inR ?_
   refine p_thenR ?_
   obtain rfl := Option.some.inj hg
   exact fin1 (fn := Tryz.f81) s rfl (r_tmp s rfl) rfl
  replace hg := br_f hg hc14
  apply wp_skip
  refine p_inN ?_
  refine S s <| pw <| lw <| mw rfl <| yw rfl (y_addN (i := i_1) (j := 1) · rfl rfl (in64.2 (by omega))) <| aw rfl <| nw fun a s => ?_
  exact ⟨m1, Nat.lt_succ_self _, ⟨(i_1 + 1), hg, (s.sb rfl rfl rfl)⟩⟩
 replace hg := br_f hg hc2
 apply wp_exit
 refine p_then ?_
 refine p_then ?_
 refine p_in ?_
 refine S s <| pw <| vw <| aw rfl <| nw fun a s => ?_
 apply wp_ret
 obtain rfl := Option.some.inj hg
 exact fin1 (fn := Tryz.f81) s rfl (r_tmp s rfl) rfl
set_option maxHeartbeats 1000000 in
theorem c_r19_leaf (n : Nat) (M : Bs) (w0 : World) (hM : ∀ b, M b → b < w0.heap.size) (op_ : Int) (r : Bool) (hg : r19_leaf n op_ = some r) :
    Calls Tryz.prog 140 [.int .i64 (op_)].toArray w0 (Ret noB w0 fun v w => v = .bool (r)) := by
 unfold r19_leaf at hg
 refine enter M noB func140 rfl rfl hM ?_
 intro a s
 refine S s <| vw <| aw rfl <| nw <| sw fun a s => ?_
 rcases Decidable.em (op_ = 1) with hs1 | hs1
 ·have hs1e := decide_eq_true hs1
  replace hg := br_t hg hs1
  refine S s <| lw <| mw rfl <| yw rfl (fun s => yl_b (y_eql s rfl rfl) hs1e) <| mw rfl <| gw rfl <| gw rfl <| yw rfl (y_pick_t · rfl rfl) <| mw rfl <| gw rfl <| gw rfl <| yw rfl (y_pick_t · rfl rfl) <| aw rfl <| nw fun a s => ?_
  apply wp_ret
  obtain rfl := Option.some.inj hg
  exact fin1 (fn := Tryz.f140) s rfl (r_tmp s rfl) rfl
 have hs1e := decide_eq_false hs1
 replace hg := br_f hg hs1
 rcases Decidable.em (op_ = 2) with hs2 | hs2
 ·have hs2e := decide_eq_true hs2
  replace hg := br_t hg hs2
  refine S s <| lw <| mw rfl <| yw rfl (fun s => yl_b (y_eql s rfl rfl) hs1e) <| mw rfl <| hw rfl <| zw rfl (fun s => yl_b (y_eql s rfl rfl) hs2e) <| yw rfl (y_pick_f · rfl rfl) <| mw rfl <| gw rfl <| gw rfl <| yw rfl (y_pick_t · rfl rfl) <| aw rfl <| nw fun a s => ?_
  apply wp_ret
  obtain rfl := Option.some.inj hg
  exact fin1 (fn := Tryz.f140) s rfl (r_tmp s rfl) rfl
 have hs2e := decide_eq_false hs2
 replace hg := br_f hg hs2
 refine S s <| lw <| mw rfl <| yw rfl (fun s => yl_b (y_eql s rfl rfl) hs1e) <| mw rfl <| hw rfl <| zw rfl (fun s => yl_b (y_eql s rfl rfl) hs2e) <| yw rfl (y_pick_f · rfl rfl) <| mw rfl <| hw rfl <| zw rfl (y_eql · rfl rfl) <| yw rfl (y_pick_f · rfl rfl) <| aw rfl <| nw fun a s => ?_
 apply wp_ret
 obtain rfl := Option.some.inj hg
 exact fin1 (fn := Tryz.f140) s rfl (r_tmp s rfl) rfl
set_option maxHeartbeats 1000000 in
theorem c_r19_kids (n : Nat) (M : Bs) (w0 : World) (hM : ∀ b, M b → b < w0.heap.size) (d_ : Desc) (Ap03 : Option Addr) (cp03 : Nat) (Ap04 : Option Addr) (cp04 : Nat) (lp02 : (d_.Name).length ≤ 9223372036854775807) (hp03 : sR Rep.str M w0 Ap03 cp03 d_.Path) (hp04 : sR RDesc M w0 Ap04 cp04 d_.Kids) (r : Bool) (hg : r19_kids n d_ = some r) :
    Calls Tryz.prog 141 [.agg #[.int .i64 (d_.Op), vT d_.Name, sl Ap03 d_.Path cp03, sl Ap04 d_.Kids cp04]].toArray w0 (Ret noB w0 fun v w => v = .bool (r)) := by
 unfold r19_kids at hg
 refine enter M noB func141 rfl rfl hM ?_
 intro a s
 let F : Al Fact := [(101, sF Rep.str Ap03 cp03 d_.Path), (102, sF RDesc Ap04 cp04 d_.Kids)]
 refine S s <| esw 101 hp03 <| esw 102 hp04 <| vw fun a s => ?_
 refine l_seq rfl (l_box (zs := [vI d_.Op, vT d_.Name, sl Ap03 d_.Path cp03, sl Ap04 d_.Kids cp04]) s 1000 rfl rfl rfl rfl fun b2 a w hb hK s => ?_)
 refine S s <| aw rfl <| nw <| vw <| yw rfl (y_boxField (o' := 3) · rfl underlying60 rfl rfl rfl) <| yw rfl (y_loadBox1 (kk := 1000) · rfl rfl rfl underlying58 rfl) <| yw rfl (y_lenSlice · rfl underlying58) <| aw rfl <| nw <| sw <| vw <| yw rfl (y_boxField (o' := 0) · rfl underlying60 rfl rfl rfl) <| yw rfl (y_loadBox1 (kk := 1000) · rfl rfl rfl underlying3 rfl) <| nw <| bw <| sw <| vw <| yw rfl (y_eql · rfl rfl) <| aw rfl <| nw fun a s => ?_
 obtain ⟨k3, hg, hk3⟩ := jn_some hg
 refine c_post (fun a w => ∃ (t_4 : Bool), k3 t_4 = some r ∧ St (cx f141 M w0) [(1, vP b2 0), (3, vI ((((d_.Kids).length : Nat) : Int))), (9, vI d_.Op), (10, .bool (t_4))] [(1000, Ob.box b2 [vI d_.Op, vT d_.Name, sl Ap03 d_.Path cp03, sl Ap04 d_.Kids cp04] 60)] F a w) ?_ ?_
 ·refine c_dec s rfl (fun hc5 => ?_) (fun hc5 => ?_)
  ·replace hg := br_t hg hc5
   apply wp_skip
   apply pN
   exact ⟨(decide (d_.Op = 1)), hg, (s.sb rfl rfl rfl)⟩
  replace hg := br_f hg hc5
  refine S s <| vw <| yw rfl (y_eql · rfl rfl) <| aw rfl <| nw fun a s => c_dec s rfl (fun hc6 => ?_) (fun hc6 => ?_)
  ·replace hg := br_t hg hc6
   apply wp_skip
   apply pN
   exact ⟨(decide (d_.Op = 2)), hg, (s.sb rfl rfl rfl)⟩
  replace hg := br_f hg hc6
  refine S s <| lw <| yw rfl (y_eql · rfl rfl) <| aw rfl <| nw fun a s => ?_
  exact ⟨(decide (d_.Op = 3)), hg, (s.sb rfl rfl rfl)⟩
 clear s a; rintro a w ⟨t_4, hg, s⟩
 subst hk3
 refine c_cond s rfl (fun hc7 => ?_) (fun hc7 => ?_)
 ·replace hg := br_t hg hc7
  refine S s <| vw <| mw rfl <| yw rfl (y_eqlN (i := ((d_.Kids).length)) (j := 0) · rfl rfl) <| aw rfl <| nw fun a s => ?_
  apply wp_ret
  refine p_inR ?_
  refine p_thenR ?_
  obtain rfl := Option.some.inj hg
  exact fin1 (fn := Tryz.f141) s rfl (r_tmp s rfl) rfl
 replace hg := br_n hg hc7
 refine S s <| vw <| yw rfl (y_eql · rfl rfl) <| aw rfl <| nw fun a s => c_dec s rfl (fun hc8 => ?_) (fun hc8 => ?_)
 ·replace hg := br_t hg hc8
  refine S s <| vw <| mw rfl <| yw rfl (y_eqlN (i := ((d_.Kids).length)) (j := 1) · rfl rfl) <| aw rfl <| nw fun a s => ?_
  apply wp_ret
  refine p_inR ?_
  refine p_thenR ?_
  obtain rfl := Option.some.inj hg
  exact fin1 (fn := Tryz.f141) s rfl (r_tmp s rfl) rfl
 replace hg := br_f hg hc8
 refine S s <| vw <| yw rfl (y_eql · rfl rfl) <| aw rfl <| nw fun a s => c_dec s rfl (fun hc9 => ?_) (fun hc9 => ?_)
 ·replace hg := br_t hg hc9
  refine S s <| vw <| mw rfl <| yw rfl (y_geqN (i := ((d_.Kids).length)) (j := 2) · rfl rfl) <| aw rfl <| nw fun a s => ?_
  apply wp_ret
  refine p_inR ?_
  refine p_thenR ?_
  obtain rfl := Option.some.inj hg
  exact fin1 (fn := Tryz.f141) s rfl (r_tmp s rfl) rfl
 replace hg := br_f hg hc9
 refine S s <| vw <| yw rfl (y_eql · rfl rfl) <| aw rfl <| nw fun a s => c_dec s rfl (fun hc10 => ?_) (fun hc10 => ?_)
 ·replace hg := br_t hg hc10
  refine S s <| sw <| vw <| aw rfl <| nw <| bw fun a s => ?_
  refine c_loop (σ := Nat) (fun m1 a w => ∃ (i_11 : Nat), r19_kids_L0 n d_ m1 i_11 = some r ∧ St (cx f141 M w0) [(1, vP b2 0), (3, vI ((((d_.Kids).length : Nat) : Int))), (4, vI (((i_11 : Nat) : Int)))] [(1000, Ob.box b2 [vI d_.Op, vT d_.Name, sl Ap03 d_.Path cp03, sl Ap04 d_.Kids cp04] 60)] F a w) (fun m1 => m1) n ⟨(0), hg, (s.sb rfl rfl rfl)⟩ ?_
  clear s a; rintro m1 a w ⟨i_11, hg, s⟩
  rcases m1 with _ | m1
  ·rw [r19_kids_L0] at hg; cases hg
  rw [r19_kids_L0] at hg
  refine S s <| sw <| vw <| mw rfl <| mw rfl <| yw rfl (y_lssN (i := i_11) (j := ((d_.Kids).length)) · rfl rfl) <| nw fun a s => c_dec s rfl (fun hc12 => ?_) (fun hc12 => ?_)
  ·replace hg := br_t hg hc12
   have hmx13 := SlR.mx (s.ft 102 rfl)
   obtain ⟨x15, hx15, hg⟩ := bind_some hg
   refine S s <| kw <| pw <| sw <| bw <| sw <| lw <| yw rfl (y_boxField (o' := 3) · rfl underlying60 rfl rfl rfl) <| yw rfl (y_loadBox1 (kk := 1000) · rfl rfl rfl underlying58 rfl) <| mw rfl fun a s => ?_
   obtain ⟨p17, hep17, hlq18, hmq18, csq18, hdq18, hcq18⟩ := SlR.elemX (s.ft 102 rfl) hx15
   refine S s <| yw rfl (y_elem (sz := 4) (i := i_11) · rfl rfl underlying58 rfl hep17 rfl (lt_of_get hx15)) <| yw rfl (y_ptrField (o' := 0) · rfl underlying60 rfl rfl rfl) fun a s => ?_
   obtain ⟨Aq183, cq183, Aq184, cq184, rfl, lq182, hq183, hq184⟩ := RDesc.open hdq18
   refine S s <| nsw 105 hq183 <| nsw 106 hq184 <| yw rfl (y_ldp1 · rfl hlq18 hmq18 (hcq18 0 _ rfl) underlying3 rfl) <| yw rfl (y_eql · rfl rfl) <| nw fun a s => c_dec s rfl (fun hc19 => ?_) (fun hc19 => ?_)
   ·replace hg := br_t hg hc19
    refine S s <| vw <| aw rfl <| nw fun a s => ?_
    apply wp_ret
    refine p_inR ?_
    refine p_thenR ?_
    refine p_thenR ?_
    refine p_inR ?_
    refine p_thenR ?_
    refine p_inR ?_
    refine p_thenR ?_
    obtain rfl := Option.some.inj hg
    exact fin1 (fn := Tryz.f141) s rfl (r_tmp s rfl) rfl
   replace hg := br_f hg hc19
   apply wp_skip
   refine p_inN ?_
   refine S s <| pw <| lw <| mw rfl <| yw rfl (y_addN (i := i_11) (j := 1) · rfl rfl (in64.2 (by omega))) <| aw rfl <| nw fun a s => ?_
   exact ⟨m1, Nat.lt_succ_self _, ⟨(i_11 + 1), hg, (s.sb rfl rfl rfl)⟩⟩
  replace hg := br_f hg hc12
  apply wp_exit
  refine p_then ?_
  refine p_then ?_
  refine p_in ?_
  refine S s <| pw <| vw <| mw rfl <| yw rfl (y_geqN (i := ((d_.Kids).length)) (j := 2) · rfl rfl) <| aw rfl <| nw fun a s => ?_
  apply wp_ret
  refine p_inR ?_
  refine p_thenR ?_
  obtain rfl := Option.some.inj hg
  exact fin1 (fn := Tryz.f141) s rfl (r_tmp s rfl) rfl
 replace hg := br_f hg hc10
 apply wp_skip
 refine p_inN ?_
 refine S s <| pw <| vw <| aw rfl <| nw fun a s => ?_
 apply wp_ret
 obtain rfl := Option.some.inj hg
 exact fin1 (fn := Tryz.f141) s rfl (r_tmp s rfl) rfl
set_option maxHeartbeats 1000000 in
theorem c_r19_formed (n : Nat) (M : Bs) (w0 : World) (hM : ∀ b, M b → b < w0.heap.size) (d_ : Desc) (Ap03 : Option Addr) (cp03 : Nat) (Ap04 : Option Addr) (cp04 : Nat) (lp02 : (d_.Name).length ≤ 9223372036854775807) (hp03 : sR Rep.str M w0 Ap03 cp03 d_.Path) (hp04 : sR RDesc M w0 Ap04 cp04 d_.Kids) (r : Bool) (hg : r19_formed n d_ = some r) :
    Calls Tryz.prog 139 [.agg #[.int .i64 (d_.Op), vT d_.Name, sl Ap03 d_.Path cp03, sl Ap04 d_.Kids cp04]].toArray w0 (Ret noB w0 fun v w => v = .bool (r)) := by
 unfold r19_formed at hg
 refine enter M noB func139 rfl rfl hM ?_
 intro a s
 let F : Al Fact := [(101, sF Rep.str Ap03 cp03 d_.Path), (102, sF RDesc Ap04 cp04 d_.Kids)]
 refine S s <| esw 101 hp03 <| esw 102 hp04 <| vw fun a s => ?_
 refine l_seq rfl (l_box (zs := [vI d_.Op, vT d_.Name, sl Ap03 d_.Path cp03, sl Ap04 d_.Kids cp04]) s 1000 rfl rfl rfl rfl fun b2 a w hb hK s => ?_)
 refine S s <| aw rfl <| nw <| sw <| sw fun a s => ?_
 obtain ⟨k3, hg, hk3⟩ := jn_some hg
 refine c_post (fun a w => ∃ (t_4 : Bool), k3 t_4 = some r ∧ St (cx f139 M w0) [(1, vP b2 0), (21, .bool (t_4))] [(1000, Ob.box b2 [vI d_.Op, vT d_.Name, sl Ap03 d_.Path cp03, sl Ap04 d_.Kids cp04] 60)] F a w) ?_ ?_
 ·obtain ⟨r5, hr5, hg⟩ := bind_some hg
  obtain ⟨r8, hr8, hg⟩ := bind_some hg
  rcases Bool.eq_false_or_eq_true (!(r5 == r8)) with hs11 | hs11
  ·replace hg := br_t hg hs11
   refine d_plan s [] [(0, some 0), (1, some 1000), (3, some 0), (4, some 1000), (2, none), (5, none), (6, none), (7, none), (8, none), (9, none), (10, none), (11, none), (12, none), (13, none), (14, none), (15, none), (16, none), (17, none)] rfl (by kernel_rfl) (by kernel_rfl) rfl ?_; clear s; intro wr hZ s; have hR := s.wd
   refine S s <| qw hR rfl (y_boxField (o' := 0) · rfl underlying60 rfl rfl rfl) <| qw hR rfl (y_loadBox1 (kk := 1000) · rfl rfl rfl underlying3 rfl) <| qw hR rfl (y_boxField (o' := 1) · rfl underlying60 rfl rfl rfl) <| qw hR rfl (y_loadBox1 (kk := 1000) · rfl rfl rfl underlying9 rfl) fun a s => ?_
   refine l_take s rfl rfl (l_call (cap := []) s rfl func140 rfl (by kernel_rfl) rfl rfl (c_r19_leaf n _ _ s.lt _ _ hr5) fun v12 a w hK hp s => ?_)
   replace hZ := Nat.le_trans hZ hK.size; refine ⟨fun g _ h => h.grow hK, ?_⟩; clear hK
   obtain rfl := hp
   refine l_take s rfl rfl (l_call (cap := []) s rfl func77 rfl (by kernel_rfl) rfl rfl (c_r01_Name n _ _ s.lt _ (by omega) _ hr8) fun v14 a w hK hp s => ?_)
   replace hZ := Nat.le_trans hZ hK.size; refine ⟨fun g _ h => h.grow hK, ?_⟩; clear hK
   obtain rfl := hp
   refine S s <| tw rfl (fun s => yl_b (y_bne s rfl rfl underlying4) hs11) <| tw rfl (y_move · rfl) fun a s => ?_
   refine l_pass s rfl ⟨_, _, _, rfl, rfl, rfl, rfl⟩ rfl rfl fun a s => ?_
   refine l_pass s rfl ⟨_, _, _, rfl, rfl, rfl, rfl⟩ rfl rfl fun a s => ?_
   refine l_pass s rfl ⟨_, _, _, rfl, rfl, rfl, rfl⟩ rfl rfl fun a s => ?_
   refine l_pass s rfl ⟨_, _, _, rfl, rfl, rfl, rfl⟩ rfl rfl fun a s => ?_
   refine l_pass s rfl ⟨_, _, _, rfl, rfl, rfl, rfl⟩ rfl rfl fun a s => ?_
   refine l_pass s rfl ⟨_, _, _, rfl, rfl, rfl, rfl⟩ rfl rfl fun a s => ?_
   refine l_pass s rfl ⟨_, _, _, rfl, rfl, rfl, rfl⟩ rfl rfl fun a s => ?_
   refine l_pass s rfl ⟨_, _, _, rfl, rfl, rfl, rfl⟩ rfl rfl fun a s => ?_
   refine l_pass s rfl ⟨_, _, _, rfl, rfl, rfl, rfl⟩ rfl rfl fun a s => ?_
   refine S s <| tw rfl (y_pick_t · rfl rfl) fun a s => ?_
   clear hR hZ
   apply pN
   exact ⟨(true), hg, (s.sb rfl rfl rfl)⟩
  replace hg := br_n hg hs11
  rcases Bool.eq_false_or_eq_true (!(r5)) with hs18 | hs18
  ·replace hg := br_t hg hs18
   refine d_plan s [] [(0, some 0), (1, some 1000), (3, some 0), (4, some 1000), (2, none), (5, none), (6, none), (7, none), (8, none), (9, none), (10, none), (11, none), (12, none), (13, none), (14, none), (15, none), (16, none), (17, none)] rfl (by kernel_rfl) (by kernel_rfl) rfl ?_; clear s; intro wr hZ s; have hR := s.wd
   refine S s <| qw hR rfl (y_boxField (o' := 0) · rfl underlying60 rfl rfl rfl) <| qw hR rfl (y_loadBox1 (kk := 1000) · rfl rfl rfl underlying3 rfl) <| qw hR rfl (y_boxField (o' := 1) · rfl underlying60 rfl rfl rfl) <| qw hR rfl (y_loadBox1 (kk := 1000) · rfl rfl rfl underlying9 rfl) fun a s => ?_
   refine l_take s rfl rfl (l_call (cap := []) s rfl func140 rfl (by kernel_rfl) rfl rfl (c_r19_leaf n _ _ s.lt _ _ hr5) fun v19 a w hK hp s => ?_)
   replace hZ := Nat.le_trans hZ hK.size; refine ⟨fun g _ h => h.grow hK, ?_⟩; clear hK
   obtain rfl := hp
   refine l_take s rfl rfl (l_call (cap := []) s rfl func77 rfl (by kernel_rfl) rfl rfl (c_r01_Name n _ _ s.lt _ (by omega) _ hr8) fun v21 a w hK hp s => ?_)
   replace hZ := Nat.le_trans hZ hK.size; refine ⟨fun g _ h => h.grow hK, ?_⟩; clear hK
   obtain rfl := hp
   refine S s <| tw rfl (fun s => yl_b (y_bne s rfl rfl underlying4) hs11) <| tw rfl (y_move · rfl) <| tw rfl (y_boxField (o' := 0) · rfl underlying60 rfl rfl rfl) <| tw rfl (y_loadBox1 (kk := 1000) · rfl rfl rfl underlying3 rfl) fun a s => ?_
   refine l_take s rfl ⟨_, _, _, rfl, rfl, rfl, rfl⟩ (l_call (cap := []) s rfl func140 rfl (by kernel_rfl) rfl rfl (c_r19_leaf n _ _ s.lt _ _ hr5) fun v23 a w hK hp s => ?_)
   replace hZ := Nat.le_trans hZ hK.size; refine ⟨fun g _ h => h.grow hK, ?_⟩; clear hK
   obtain rfl := hp
   refine S s <| tw rfl (fun s => yl_b (y_not s rfl) hs18) <| tw rfl (y_move · rfl) <| tw rfl (y_boxField (o' := 1) · rfl underlying60 rfl rfl rfl) <| tw rfl (y_loadBox1 (kk := 1000) · rfl rfl rfl underlying9 rfl) <| tw rfl (y_sne · rfl rfl) <| tw rfl (y_pick_t · rfl rfl) <| tw rfl (y_pick_f · rfl rfl) fun a s => ?_
   clear hR hZ
   apply pN
   exact ⟨(decide ((d_.Name : List UInt8) ≠ [])), hg, (s.sb rfl rfl rfl)⟩
  replace hg := br_n hg hs18
  refine d_plan s [] [(0, some 0), (1, some 1000), (3, some 0), (4, some 1000), (2, none), (5, none), (6, none), (7, none), (8, none), (9, none), (10, none), (11, none), (12, none), (13, none), (14, none), (15, none), (16, none), (17, none)] rfl (by kernel_rfl) (by kernel_rfl) rfl ?_; clear s; intro wr hZ s; have hR := s.wd
  refine S s <| qw hR rfl (y_boxField (o' := 0) · rfl underlying60 rfl rfl rfl) <| qw hR rfl (y_loadBox1 (kk := 1000) · rfl rfl rfl underlying3 rfl) <| qw hR rfl (y_boxField (o' := 1) · rfl underlying60 rfl rfl rfl) <| qw hR rfl (y_loadBox1 (kk := 1000) · rfl rfl rfl underlying9 rfl) fun a s => ?_
  refine l_take s rfl rfl (l_call (cap := []) s rfl func140 rfl (by kernel_rfl) rfl rfl (c_r19_leaf n _ _ s.lt _ _ hr5) fun v25 a w hK hp s => ?_)
  replace hZ := Nat.le_trans hZ hK.size; refine ⟨fun g _ h => h.grow hK, ?_⟩; clear hK
  obtain rfl := hp
  refine l_take s rfl rfl (l_call (cap := []) s rfl func77 rfl (by kernel_rfl) rfl rfl (c_r01_Name n _ _ s.lt _ (by omega) _ hr8) fun v27 a w hK hp s => ?_)
  replace hZ := Nat.le_trans hZ hK.size; refine ⟨fun g _ h => h.grow hK, ?_⟩; clear hK
  obtain rfl := hp
  refine S s <| tw rfl (fun s => yl_b (y_bne s rfl rfl underlying4) hs11) <| tw rfl (y_move · rfl) <| tw rfl (y_boxField (o' := 0) · rfl underlying60 rfl rfl rfl) <| tw rfl (y_loadBox1 (kk := 1000) · rfl rfl rfl underlying3 rfl) fun a s => ?_
  refine l_take s rfl ⟨_, _, _, rfl, rfl, rfl, rfl⟩ (l_call (cap := []) s rfl func140 rfl (by kernel_rfl) rfl rfl (c_r19_leaf n _ _ s.lt _ _ hr5) fun v29 a w hK hp s => ?_)
  replace hZ := Nat.le_trans hZ hK.size; refine ⟨fun g _ h => h.grow hK, ?_⟩; clear hK
  obtain rfl := hp
  refine S s <| tw rfl (fun s => yl_b (y_not s rfl) hs18) <| tw rfl (y_move · rfl) fun a s => ?_
  refine l_pass s rfl ⟨_, _, _, rfl, rfl, rfl, rfl⟩ rfl rfl fun a s => ?_
  refine l_pass s rfl ⟨_, _, _, rfl, rfl, rfl, rfl⟩ rfl rfl fun a s => ?_
  refine l_pass s rfl ⟨_, _, _, rfl, rfl, rfl, rfl⟩ rfl rfl fun a s => ?_
  refine S s <| tw rfl (y_pick_f · rfl rfl) <| tw rfl (y_pick_f · rfl rfl) fun a s => ?_
  clear hR hZ
  apply pN
  exact ⟨(false), hg, (s.sb rfl rfl rfl)⟩
 clear s a; rintro a w ⟨t_4, hg, s⟩
 subst hk3
 refine c_cond s rfl (fun hc31 => ?_) (fun hc31 => ?_)
 ·replace hg := br_t hg hc31
  refine S s <| vw <| aw rfl <| nw fun a s => ?_
  apply wp_ret
  refine p_thenR ?_
  obtain rfl := Option.some.inj hg
  exact fin1 (fn := Tryz.f139) s rfl (r_tmp s rfl) rfl
 replace hg := br_n hg hc31
 refine S s <| kw <| pw <| sw <| vw <| yw rfl (y_boxField (o' := 0) · rfl underlying60 rfl rfl rfl) <| yw rfl (y_loadBox1 (kk := 1000) · rfl rfl rfl underlying3 rfl) <| yw rfl (y_eql · rfl rfl) <| yw rfl (y_boxField (o' := 2) · rfl underlying60 rfl rfl rfl) <| yw rfl (y_loadBox1 (kk := 1000) · rfl rfl rfl underlying25 rfl) <| yw rfl (y_lenSlice · rfl underlying25) <| yw rfl (y_gtrN (i := ((d_.Path).length)) (j := 0) · rfl rfl) <| yw rfl (y_bne · rfl rfl underlying4) <| nw fun a s => c_cond s rfl (fun hc32 => ?_) (fun hc32 => ?_)
 ·replace hg := br_t hg hc32
  refine S s <| vw <| aw rfl <| nw fun a s => ?_
  apply wp_ret
  refine p_thenR ?_
  obtain rfl := Option.some.inj hg
  exact fin1 (fn := Tryz.f139) s rfl (r_tmp s rfl) rfl
 replace hg := br_n hg hc32
 refine S s <| kw <| pw <| sw <| vw <| aw rfl <| nw fun a s => ?_
 obtain ⟨k33, hg, hk33⟩ := jn_some hg
 refine c_post (fun a w => k33 = some r ∧ St (cx f139 M w0) [(1, vP b2 0)] [(1000, Ob.box b2 [vI d_.Op, vT d_.Name, sl Ap03 d_.Path cp03, sl Ap04 d_.Kids cp04] 60)] F a w) ?_ ?_
 ·apply wp_block
  refine c_loop (σ := Nat) (fun m1 a w => ∃ (i_34 : Nat), r19_formed_L0 n d_ k33 m1 i_34 = some r ∧ St (cx f139 M w0) [(1, vP b2 0), (3, vI (((i_34 : Nat) : Int)))] [(1000, Ob.box b2 [vI d_.Op, vT d_.Name, sl Ap03 d_.Path cp03, sl Ap04 d_.Kids cp04] 60)] F a w) (fun m1 => m1) n ⟨(0), hg, (s.sb rfl rfl rfl)⟩ ?_
  clear s a; rintro m1 a w ⟨i_34, hg, s⟩
  rcases m1 with _ | m1
  ·rw [r19_formed_L0] at hg; cases hg
  rw [r19_formed_L0] at hg
  refine S s <| sw <| vw <| mw rfl <| yw rfl (y_boxField (o' := 2) · rfl underlying60 rfl rfl rfl) <| yw rfl (y_loadBox1 (kk := 1000) · rfl rfl rfl underlying25 rfl) <| yw rfl (y_lenSlice · rfl underlying25) <| yw rfl (y_lssN (i := i_34) (j := ((d_.Path).length)) · rfl rfl) <| nw fun a s => c_dec s rfl (fun hc35 => ?_) (fun hc35 => ?_)
  ·replace hg := br_t hg hc35
   have hmx36 := SlR.mx (s.ft 101 rfl)
   obtain ⟨x38, hx38, hg⟩ := bind_some hg
   obtain ⟨r40, hr40, hg⟩ := bind_some hg
   refine S s <| kw <| pw <| sw <| bw <| sw <| lw <| yw rfl (y_boxField (o' := 2) · rfl underlying60 rfl rfl rfl) <| yw rfl (y_loadBox1 (kk := 1000) · rfl rfl rfl underlying25 rfl) <| mw rfl fun a s => ?_
   obtain ⟨p43, hep43, hlq44, hmq44, csq44, hdq44, hcq44⟩ := SlR.elemX (s.ft 101 rfl) hx38
   refine qq s rfl (y_elem (sz := 1) (i := i_34) s rfl rfl underlying25 rfl hep43 rfl (lt_of_get hx38)) fun a s => ?_
   obtain ⟨rfl, lq441⟩ := hdq44
   refine qq s rfl (y_ldp1 s rfl hlq44 hmq44 (hcq44 0 _ rfl) underlying9 rfl) fun a s => ?_
   refine lV s rfl func111 (c_r01_Feature n _ _ s.lt _ (by omega) _ hr40) fun a w hK s => ?_
   refine S s <| yw rfl (y_not · rfl) <| nw fun a s => c_cond s rfl (fun hc47 => ?_) (fun hc47 => ?_)
   ·replace hg := br_t hg hc47
    refine S s <| vw <| aw rfl <| nw fun a s => ?_
    apply wp_ret
    refine p_inR ?_
    refine p_thenR ?_
    refine p_thenR ?_
    refine p_inR ?_
    refine p_thenR ?_
    obtain rfl := Option.some.inj hg
    exact fin1 (fn := Tryz.f139) s rfl (r_tmp s rfl) rfl
   replace hg := br_n hg hc47
   apply wp_skip
   refine p_inN ?_
   refine S s <| pw <| lw <| mw rfl <| yw rfl (y_addN (i := i_34) (j := 1) · rfl rfl (in64.2 (by omega))) <| aw rfl <| nw fun a s => ?_
   exact ⟨m1, Nat.lt_succ_self _, ⟨(i_34 + 1), hg, (s.sb rfl rfl rfl)⟩⟩
  replace hg := br_f hg hc35
  apply wp_exit
  refine p_then ?_
  refine p_then ?_
  refine p_in ?_
  apply pN
  exact ⟨hg, (s.sb rfl rfl rfl)⟩
 clear s a; rintro a w ⟨hg, s⟩
 subst hk33
 obtain ⟨r48, hr48, hg⟩ := bind_some hg
 refine S s <| sw <| lw <| yw rfl (y_loadAll (kk := 1000) · rfl rfl underlying60 rfl rfl) fun a s => ?_
 refine lV s rfl func141 (c_r19_kids n _ _ s.lt _ _ _ _ _ (by omega) (s.ft 101 rfl) (s.ft 102 rfl) _ hr48) fun a w hK s => ?_
 refine S s <| aw rfl <| nw fun a s => ?_
 apply wp_ret
 obtain rfl := Option.some.inj hg
 exact fin1 (fn := Tryz.f139) s rfl (r_tmp s rfl) rfl
end Go.Proofs.YtbhjplflnkidgaaGreat


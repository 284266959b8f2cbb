/- Chapter 22: the walks, part 3 -/
import Derived.Test.YtbhjplflnkidgaaGreatW2
namespace Go.Proofs.YtbhjplflnkidgaaGreat
open Go.Gl Go.RowKit Tryz
set_option linter.unusedVariables false
set_option linter.unusedSimpArgs false
set_option maxRecDepth 4000

set_option maxHeartbeats 1000000 in
theorem c_module_find (n : Nat) (M : Bs) (w0 : World) (hM : ∀ b, M b → b < w0.heap.size) (l_ : (List Module)) (Ap01 : Option Addr) (cp01 : Nat) (hp01 : sR RModule M w0 Ap01 cp01 l_) (name_ : (List UInt8)) (lp11 : (name_).length ≤ 9223372036854775807) (r : (Module × Bool)) (hg : module_find n l_ name_ = some r) :
    Calls Tryz.prog 27 [sl Ap01 l_ cp01, vT name_].toArray w0 (Ret noB w0 fun v w => ∃ (Aa2 : Option Addr), ∃ (ca2 : Nat), ∃ (Aa3 : Option Addr), ∃ (ca3 : Nat), ∃ (Aa4 : Option Addr), ∃ (ca4 : Nat), ∃ (Aa5 : Option Addr), ∃ (ca5 : Nat), ∃ (Aa6 : Option Addr), ∃ (ca6 : Nat), ∃ (Aa7 : Option Addr), ∃ (ca7 : Nat), ∃ (Aa8 : Option Addr), ∃ (ca8 : Nat), ∃ (Aa9 : Option Addr), ∃ (ca9 : Nat), ∃ (Aa10 : Option Addr), ∃ (ca10 : Nat), v = .tuple #[.agg #[vT r.1.Name, sl Aa2 r.1.Imports ca2, sl Aa3 r.1.Types ca3, sl Aa4 r.1.Templates ca4, sl Aa5 r.1.Entries ca5, sl Aa6 r.1.LexRules ca6, sl Aa7 r.1.Rules ca7, sl Aa8 r.1.Roots ca8, sl Aa9 r.1.Checks ca9, sl Aa10 r.1.Drops ca10], .bool (r.2)] ∧ ((r.1.Name).length ≤ 9223372036854775807) ∧ (SlR Rep.str M w Aa2 (r.1.Imports).length ca2 (r.1.Imports)) ∧ (SlR RTypeDecl M w Aa3 (r.1.Types).length ca3 (r.1.Types)) ∧ (SlR RDef M w Aa4 (r.1.Templates).length ca4 (r.1.Templates)) ∧ (SlR REntryDecl M w Aa5 (r.1.Entries).length ca5 (r.1.Entries)) ∧ (SlR RLexDecl M w Aa6 (r.1.LexRules).length ca6 (r.1.LexRules)) ∧ (SlR RDef M w Aa7 (r.1.Rules).length ca7 (r.1.Rules)) ∧ (SlR RDef M w Aa8 (r.1.Roots).length ca8 (r.1.Roots)) ∧ (SlR (Rep.list Rep.str) M w Aa9 (r.1.Checks).length ca9 (r.1.Checks)) ∧ (SlR Rep.str M w Aa10 (r.1.Drops).length ca10 (r.1.Drops))) := by
 unfold module_find at hg
 refine enter M noB func27 rfl rfl hM ?_
 intro a s
 replace s := s.es 101 hp01
 apply wR
 refine l_seq rfl (l_box (zs := [vT name_]) s 1000 rfl rfl rfl rfl fun b3 a w hb hK s => ?_)
 refine l_seq rfl (l_alloc (zs := [vT ([]), .slice none 0 0, .slice none 0 0, .slice none 0 0, .slice none 0 0, .slice none 0 0, .slice none 0 0, .slice none 0 0, .slice none 0 0, .slice none 0 0]) s 1001 rfl rfl rfl rfl fun b4 a w hb hK s => ?_)
 obtain ⟨r5, hr5, hg⟩ := bind_some hg
 refine S s <| aw rfl <| nw <| sw <| lw <| mw rfl fun a s => ?_
 replace s := s.freezeBox (L' := [(1001, Ob.box b4 [vT ([]), .slice none 0 0, .slice none 0 0, .slice none 0 0, .slice none 0 0, .slice none 0 0, .slice none 0 0, .slice none 0 0, .slice none 0 0, .slice none 0 0] 38)]) 103 1000 rfl ⟨rfl, trivial⟩ rfl
 refine qq s rfl (y_makeFunc (xs := [.tmp 3]) (vs := [vP b3 0]) s rfl) fun a s => ?_
 refine lV s rfl func55 (c_slices_IndexFunc_Module n _ _ s.lt _ _ _ (s.ft 101 rfl) _ _ _ ⟨⟨_, _, func56, rfl, by kernel_rfl⟩, fun M1 w1 hk hm hlt vs x r hp hr => by obtain ⟨Aa2, ca2, Aa3, ca3, Aa4, ca4, Aa5, ca5, Aa6, ca6, Aa7, ca7, Aa8, ca8, Aa9, ca9, Aa10, ca10, rfl, la1, ha2, ha3, ha4, ha5, ha6, ha7, ha8, ha9, ha10⟩ := hp; exact c_module_find_1 n M1 w1 hlt (x) Aa2 ca2 Aa3 ca3 Aa4 ca4 Aa5 ca5 Aa6 ca6 Aa7 ca7 Aa8 ca8 Aa9 ca9 Aa10 ca10 la1 ha2 ha3 ha4 ha5 ha6 ha7 ha8 ha9 ha10 b3 (name_) (by omega) (Fact.move (boxF b3 [vT name_] 9) hk hm (s.ft 103 rfl)) r hr⟩ _ hr5) fun a w hK s => ?_
 refine S s <| aw rfl <| nw <| sw <| vw <| mw rfl <| yw rfl (y_lss · rfl rfl) <| nw fun a s => c_dec s rfl (fun hc10 => ?_) (fun hc10 => ?_)
 ·replace hg := br_t hg hc10
  apply wR
  refine qq s rfl (y_build (parts := []) (ps := []) (cells := #[vT ([]), .slice none 0 0, .slice none 0 0, .slice none 0 0, .slice none 0 0, .slice none 0 0, .slice none 0 0, .slice none 0 0, .slice none 0 0, .slice none 0 0]) s rfl (by kernel_rfl)) fun a s => ?_
  refine l_seq rfl (l_store (n := 10) (cs' := [vT ([]), .slice none 0 0, .slice none 0 0, .slice none 0 0, .slice none 0 0, .slice none 0 0, .slice none 0 0, .slice none 0 0, .slice none 0 0, .slice none 0 0]) s 1001 rfl rfl rfl rfl rfl rfl rfl rfl ?_); clear s; intro w hK s; clear hK
  refine S s <| aw rfl <| nw fun a s => ?_
  apply wp_ret
  refine p_thenR ?_
  obtain rfl := Option.some.inj hg
  refine fin2 (fn := Tryz.f27) s rfl (r_cell (kk := 1001) (n := 10) (vs := [vT ([]), .slice none 0 0, .slice none 0 0, .slice none 0 0, .slice none 0 0, .slice none 0 0, .slice none 0 0, .slice none 0 0, .slice none 0 0, .slice none 0 0]) s rfl rfl underlying38 rfl rfl rfl rfl) (r_tmp s rfl) ?_
  exact ⟨(none), (0), (none), (0), (none), (0), (none), (0), (none), (0), (none), (0), (none), (0), (none), (0), (none), (0), rfl, (Nat.le_of_ble_eq_true (by rfl)), (SlR.nil_ _ _ _), (SlR.nil_ _ _ _), (SlR.nil_ _ _ _), (SlR.nil_ _ _ _), (SlR.nil_ _ _ _), (SlR.nil_ _ _ _), (SlR.nil_ _ _ _), (SlR.nil_ _ _ _), (SlR.nil_ _ _ _)⟩
 replace hg := br_f hg hc10
 obtain ⟨x12, hx12, hg⟩ := bind_some hg
 refine S s <| kw <| pw <| sw <| lw <| mw rfl <| mw rfl fun a s => ?_
 obtain ⟨p14, hep14, hlq15, hmq15, csq15, hdq15, hcq15⟩ := SlR.elemX (s.ft 101 rfl) (ix_some hx12).1
 refine qq s rfl (y_elem (sz := 10) (i := ((r5).toNat)) s rfl rfl underlying22 rfl hep14 (ix_some hx12).2.1 (lt_of_get (ix_some hx12).1)) fun a s => ?_
 obtain ⟨Aq152, cq152, Aq153, cq153, Aq154, cq154, Aq155, cq155, Aq156, cq156, Aq157, cq157, Aq158, cq158, Aq159, cq159, Aq1510, cq1510, rfl, lq151, hq152, hq153, hq154, hq155, hq156, hq157, hq158, hq159, hq1510⟩ := RModule.open hdq15
 refine S s <| nsw 113 hq152 <| nsw 114 hq153 <| nsw 115 hq154 <| nsw 116 hq155 <| nsw 117 hq156 <| nsw 118 hq157 <| nsw 119 hq158 <| nsw 120 hq159 <| nsw 121 hq1510 <| yw rfl (y_ldp · rfl hlq15 hmq15 (by simpa using hcq15) underlying38 rfl rfl) fun a s => ?_
 refine l_seq rfl (l_store (n := 10) (cs' := [vT x12.Name, sl Aq152 x12.Imports cq152, sl Aq153 x12.Types cq153, sl Aq154 x12.Templates cq154, sl Aq155 x12.Entries cq155, sl Aq156 x12.LexRules cq156, sl Aq157 x12.Rules cq157, sl Aq158 x12.Roots cq158, sl Aq159 x12.Checks cq159, sl Aq1510 x12.Drops cq1510]) s 1001 rfl rfl rfl rfl rfl rfl rfl rfl ?_); clear s; intro w hK s; clear hK
 refine S s <| aw rfl <| nw fun a s => ?_
 apply wp_ret
 obtain rfl := Option.some.inj hg
 refine fin2 (fn := Tryz.f27) s rfl (r_cell (kk := 1001) (n := 10) (vs := [vT x12.Name, sl Aq152 x12.Imports cq152, sl Aq153 x12.Types cq153, sl Aq154 x12.Templates cq154, sl Aq155 x12.Entries cq155, sl Aq156 x12.LexRules cq156, sl Aq157 x12.Rules cq157, sl Aq158 x12.Roots cq158, sl Aq159 x12.Checks cq159, sl Aq1510 x12.Drops cq1510]) s rfl rfl underlying38 rfl rfl rfl rfl) (r_tmp s rfl) ?_
 exact ⟨(Aq152), (cq152), (Aq153), (cq153), (Aq154), (cq154), (Aq155), (cq155), (Aq156), (cq156), (Aq157), (cq157), (Aq158), (cq158), (Aq159), (cq159), (Aq1510), (cq1510), rfl, (by omega), (s.out (k := 113) rfl), (s.out (k := 114) rfl), (s.out (k := 115) rfl), (s.out (k := 116) rfl), (s.out (k := 117) rfl), (s.out (k := 118) rfl), (s.out (k := 119) rfl), (s.out (k := 120) rfl), (s.out (k := 121) rfl)⟩
set_option maxHeartbeats 1000000 in
theorem c_slices_Index_string (n : Nat) (M : Bs) (w0 : World) (hM : ∀ b, M b → b < w0.heap.size) (s_ : (List (List UInt8))) (Ap01 : Option Addr) (cp01 : Nat) (hp01 : sR Rep.str M w0 Ap01 cp01 s_) (v_ : (List UInt8)) (lp11 : (v_).length ≤ 9223372036854775807) (r : Int) (hg : slices_Index_string n s_ v_ = some r) :
    Calls Tryz.prog 67 [sl Ap01 s_ cp01, vT v_].toArray w0 (Ret noB w0 fun v w => v = .int .i64 (r)) := by
 unfold slices_Index_string at hg
 refine enter M noB func67 rfl rfl hM ?_
 intro a s
 refine S s <| esw 101 hp01 <| vw <| aw rfl <| nw <| sw <| vw <| mw rfl <| yw rfl (y_lenSlice · rfl underlying25) <| mw rfl <| nw <| bw fun a s => ?_
 refine c_loop (σ := Nat) (fun m1 a w => ∃ (t_1 : Nat), slices_Index_string_L0 n s_ v_ m1 t_1 = some r ∧ St (cx f67 M w0) [(0, sl Ap01 s_ cp01), (1, vT v_), (7, vI ((((s_).length : Nat) : Int))), (8, vI (((t_1 : Nat) : Int)))] [] [(101, sF Rep.str Ap01 cp01 s_)] a w) (fun m1 => m1) n ⟨(0), hg, (s.sb rfl rfl rfl)⟩ ?_
 clear s a; rintro m1 a w ⟨t_1, hg, s⟩
 rcases m1 with _ | m1
 ·rw [slices_Index_string_L0] at hg; cases hg
 rw [slices_Index_string_L0] at hg
 refine S s <| vw <| yw rfl (y_lssN (i := t_1) (j := ((s_).length)) · rfl rfl) <| nw <| sw fun a s => c_dec s rfl (fun hc2 => ?_) (fun hc2 => ?_)
 ·replace hg := br_t hg hc2
  have hmx3 := SlR.mx (s.ft 101 rfl)
  obtain ⟨x5, hx5, hg⟩ := bind_some hg
  refine S s <| kw <| pw <| sw <| bw <| vw <| mw rfl <| aw rfl <| nw <| sw <| lw <| mw rfl <| mw rfl <| mw rfl fun a s => ?_
  obtain ⟨p7, hep7, hlq8, hmq8, csq8, hdq8, hcq8⟩ := SlR.elemX (s.ft 101 rfl) hx5
  refine qq s rfl (y_elem (sz := 1) (i := t_1) s rfl rfl underlying25 rfl hep7 rfl (lt_of_get hx5)) fun a s => ?_
  obtain ⟨rfl, lq81⟩ := hdq8
  refine S s <| yw rfl (y_ldp1 · rfl hlq8 hmq8 (hcq8 0 _ rfl) underlying9 rfl) <| yw rfl (y_seq · rfl rfl) <| nw fun a s => c_dec s rfl (fun hc9 => ?_) (fun hc9 => ?_)
  ·replace hg := br_t hg hc9
   refine S s <| vw <| mw rfl <| aw rfl <| nw fun a s => ?_
   apply wp_ret
   refine p_inR ?_
   refine p_thenR ?_
   refine p_thenR ?_
   refine p_inR ?_
   refine p_thenR ?_
   obtain rfl := Option.some.inj hg
   exact fin1 (fn := Tryz.f67) s rfl (r_tmp s rfl) rfl
  replace hg := br_f hg hc9
  apply wp_skip
  refine p_inN ?_
  refine S s <| pw <| lw <| yw rfl (y_addN (i := t_1) (j := 1) · rfl rfl (in64.2 (by omega))) <| mw rfl <| nw fun a s => ?_
  exact ⟨m1, Nat.lt_succ_self _, ⟨(t_1 + 1), hg, (s.sb rfl rfl rfl)⟩⟩
 replace hg := br_f hg hc2
 apply wp_exit
 refine p_then ?_
 refine p_then ?_
 refine p_in ?_
 refine S s <| pw <| vw <| aw rfl <| nw fun a s => ?_
 apply wp_ret
 obtain rfl := Option.some.inj hg
 exact fin1 (fn := Tryz.f67) s rfl (r_tmp s rfl) rfl
set_option maxHeartbeats 1000000 in
theorem c_slices_Contains_string (n : Nat) (M : Bs) (w0 : World) (hM : ∀ b, M b → b < w0.heap.size) (s_ : (List (List UInt8))) (Ap01 : Option Addr) (cp01 : Nat) (hp01 : sR Rep.str M w0 Ap01 cp01 s_) (v_ : (List UInt8)) (lp11 : (v_).length ≤ 9223372036854775807) (r : Bool) (hg : slices_Contains_string n s_ v_ = some r) :
    Calls Tryz.prog 40 [sl Ap01 s_ cp01, vT v_].toArray w0 (Ret noB w0 fun v w => v = .bool (r)) := by
 unfold slices_Contains_string at hg
 refine enter M noB func40 rfl rfl hM ?_
 intro a s
 obtain ⟨r1, hr1, hg⟩ := bind_some hg
 refine S s <| esw 101 hp01 <| vw <| aw rfl <| nw <| sw <| lw <| mw rfl <| mw rfl fun a s => ?_
 refine lV s rfl func67 (c_slices_Index_string n _ _ s.lt _ _ _ (s.ft 101 rfl) _ (by omega) _ hr1) fun a w hK s => ?_
 refine S s <| yw rfl (y_geq · rfl rfl) <| aw rfl <| nw fun a s => ?_
 apply wp_ret
 obtain rfl := Option.some.inj hg
 exact fin1 (fn := Tryz.f40) s rfl (r_tmp s rfl) rfl
set_option maxHeartbeats 1000000 in
theorem c_module_needs (n : Nat) (M : Bs) (w0 : World) (hM : ∀ b, M b → b < w0.heap.size) (t_ : (List Module)) (Ap01 : Option Addr) (cp01 : Nat) (hp01 : sR RModule M w0 Ap01 cp01 t_) (t_' : (List UInt8)) (lp11 : (t_').length ≤ 9223372036854775807) (r : (List (List UInt8))) (hg : module_needs n t_ t_' = some r) :
    Calls Tryz.prog 25 [sl Ap01 t_ cp01, vT t_'].toArray w0 (Ret noB w0 fun v w => ∃ (Aa1 : Option Addr), ∃ (ca1 : Nat), v = sl Aa1 r ca1 ∧ (SlR Rep.str M w Aa1 (r).length ca1 (r))) := by
 unfold module_needs at hg
 refine enter M noB func25 rfl rfl hM ?_
 intro a s
 obtain ⟨r1, hr1, hg⟩ := bind_some hg
 refine S s <| esw 101 hp01 <| vw <| aw rfl <| nw <| sw <| sw <| lw <| mw rfl <| mw rfl fun a s => ?_
 refine lC s rfl func27 (c_module_find n _ _ s.lt _ _ _ (s.ft 101 rfl) _ (by omega) _ hr1) fun v5 a w hK hp s => ?_
 obtain ⟨Au6a2, cu6a2, Au6a3, cu6a3, Au6a4, cu6a4, Au6a5, cu6a5, Au6a6, cu6a6, Au6a7, cu6a7, Au6a8, cu6a8, Au6a9, cu6a9, Au6a10, cu6a10, rfl, lu6a1, hu6a2, hu6a3, hu6a4, hu6a5, hu6a6, hu6a7, hu6a8, hu6a9, hu6a10⟩ := hp
 refine S s <| nsw 111 hu6a2 <| nsw 112 hu6a3 <| nsw 113 hu6a4 <| nsw 114 hu6a5 <| nsw 115 hu6a6 <| nsw 116 hu6a7 <| nsw 117 hu6a8 <| nsw 118 hu6a9 <| nsw 119 hu6a10 <| mw rfl <| yw rfl (y_extract · rfl rfl) <| yw rfl (y_extract · rfl rfl) fun a s => ?_
 refine l_seq rfl (l_alloc (zs := [vT ([]), .slice none 0 0, .slice none 0 0, .slice none 0 0, .slice none 0 0, .slice none 0 0, .slice none 0 0, .slice none 0 0, .slice none 0 0, .slice none 0 0]) s 1106 rfl rfl rfl rfl fun b7 a w hb hK s => ?_)
 refine l_seq rfl (l_store (n := 10) (cs' := [vT r1.1.Name, sl Au6a2 r1.1.Imports cu6a2, sl Au6a3 r1.1.Types cu6a3, sl Au6a4 r1.1.Templates cu6a4, sl Au6a5 r1.1.Entries cu6a5, sl Au6a6 r1.1.LexRules cu6a6, sl Au6a7 r1.1.Rules cu6a7, sl Au6a8 r1.1.Roots cu6a8, sl Au6a9 r1.1.Checks cu6a9, sl Au6a10 r1.1.Drops cu6a10]) s 1106 rfl rfl rfl rfl rfl rfl rfl rfl ?_); clear s; intro w hK s; clear hK
 refine S s <| aw rfl <| nw <| vw <| mw rfl <| yw rfl (y_not · rfl) <| nw fun a s => c_cond s rfl (fun hc8 => ?_) (fun hc8 => ?_)
 ·replace hg := br_t hg hc8
  refine S s <| vw <| aw rfl <| nw fun a s => ?_
  apply wp_ret
  refine p_thenR ?_
  obtain rfl := Option.some.inj hg
  refine fin1 (fn := Tryz.f25) s rfl (r_tmp s rfl) ?_
  exact ⟨(none), (0), rfl, (SlR.nil_ _ _ _)⟩
 replace hg := br_n hg hc8
 refine S s <| kw <| pw <| vw <| mw rfl fun a s => ?_
 refine l_seq rfl (l_buildDense (sz := 1) s 1401 rfl rfl rfl underlying25 rfl rfl rfl rfl rfl rfl rfl fun b10 a w hbb10 hK s => ?_)
 clear hbb10
 refine S s <| aw rfl <| nw <| sw <| vw <| aw rfl <| nw <| bw fun a s => ?_
 replace s := s.add 122 (rdF Rep.str (cellsOfL [vT (t_')]) ([t_'])) (RdAll.cons (by exact ⟨rfl, (by omega)⟩) (RdAll.nil _ _ _))
 replace s := s.al 121 122 rfl
 replace s := s.pk [(1106, 1106), (700120, 1401)] (by decide)
 refine c_loop (σ := Nat) (fun m1 a w => ∃ (t_11 : (List (List UInt8))) (t_15 : Nat) (A12 : Option Addr) (c13 : Nat) (cs14 : List Value), module_needs_L0 n t_ m1 t_11 t_15 = some r ∧ St (cx f25 M w0) [(0, sl Ap01 t_ cp01), (7, sl A12 t_11 c13), (8, vI (((t_15 : Nat) : Int)))] [(700120, Ob.row (A12) ((t_11).length) (c13) 9 1 (cs14))] [(101, sF RModule Ap01 cp01 t_), (121, rdF Rep.str (cs14) (t_11))] a w) (fun m1 => m1) n ⟨([t_']), (0), (some ⟨b10, 0, none⟩), (1), (cellsOfL [vT (t_')]), hg, (s.sb rfl rfl rfl)⟩ ?_
 clear s a; rintro m1 a w ⟨t_11, t_15, A12, c13, cs14, hg, s⟩
 rcases m1 with _ | m1
 ·rw [module_needs_L0] at hg; cases hg
 rw [module_needs_L0] at hg
 refine S s <| sw <| vw <| mw rfl <| mw rfl <| yw rfl (y_lenSlice · rfl underlying25) <| yw rfl (y_lssN (i := t_15) (j := ((t_11).length)) · rfl rfl) <| nw fun a s => c_dec s rfl (fun hc16 => ?_) (fun hc16 => ?_)
 ·replace hg := br_t hg hc16
  have hmx17 := row_mx (s.wd.holds 700120 _ rfl)
  apply wp_skip
  apply pN
  apply wQ
  obtain ⟨k18, hg, hk18⟩ := jn_some hg
  refine c_post (fun a w => ∃ (t_19 : (List (List UInt8))) (A20 : Option Addr) (c21 : Nat) (cs22 : List Value), k18 t_19 = some r ∧ St (cx f25 M w0) [(0, sl Ap01 t_ cp01), (7, sl A20 t_19 c21), (8, vI (((t_15 : Nat) : Int)))] [(700123, Ob.row (A20) ((t_19).length) (c21) 9 1 (cs22))] [(101, sF RModule Ap01 cp01 t_), (124, rdF Rep.str (cs22) (t_19))] a w) ?_ ?_
  ·obtain ⟨x24, hx24, hg⟩ := bind_some hg
   obtain ⟨r26, hr26, hg⟩ := bind_some hg
   refine S s <| bw <| sw <| lw <| mw rfl <| mw rfl <| mw rfl fun a s => ?_
   obtain ⟨hiq30, bq30, hAq30⟩ := SlR.row1 (s.wd.holds 700120 _ rfl) (s.ft 121 rfl) rfl rfl hx24
   refine qq s rfl (y_rowIndex (sz := 1) (i := t_15) s rfl rfl underlying25 rfl hAq30 rfl hiq30) fun a s => ?_
   have hz31 := (s.ft 121 rfl).at_ _ _ hx24
   obtain ⟨ez31, lz311⟩ := hz31
   refine qq s rfl (y_loadRow1 (kk := 700120) s rfl rfl hAq30 (take1 ez31) underlying9 rfl) fun a s => ?_
   refine lC s rfl func27 (c_module_find n _ _ s.lt _ _ _ (s.ft 101 rfl) _ (by omega) _ hr26) fun v32 a w hK hp s => ?_
   obtain ⟨Au33a2, cu33a2, Au33a3, cu33a3, Au33a4, cu33a4, Au33a5, cu33a5, Au33a6, cu33a6, Au33a7, cu33a7, Au33a8, cu33a8, Au33a9, cu33a9, Au33a10, cu33a10, rfl, lu33a1, hu33a2, hu33a3, hu33a4, hu33a5, hu33a6, hu33a7, hu33a8, hu33a9, hu33a10⟩ := hp
   refine S s <| nsw 134 hu33a2 <| nsw 135 hu33a3 <| nsw 136 hu33a4 <| nsw 137 hu33a5 <| nsw 138 hu33a6 <| nsw 139 hu33a7 <| nsw 140 hu33a8 <| nsw 141 hu33a9 <| nsw 142 hu33a10 <| mw rfl <| yw rfl (y_extract · rfl rfl) <| yw rfl (y_extract · rfl rfl) fun a s => ?_
   refine l_seq rfl (l_alloc (zs := [vT ([]), .slice none 0 0, .slice none 0 0, .slice none 0 0, .slice none 0 0, .slice none 0 0, .slice none 0 0, .slice none 0 0, .slice none 0 0, .slice none 0 0]) s 1809 rfl rfl rfl rfl fun b34 a w hb hK s => ?_)
   refine l_seq rfl (l_store (n := 10) (cs' := [vT r26.1.Name, sl Au33a2 r26.1.Imports cu33a2, sl Au33a3 r26.1.Types cu33a3, sl Au33a4 r26.1.Templates cu33a4, sl Au33a5 r26.1.Entries cu33a5, sl Au33a6 r26.1.LexRules cu33a6, sl Au33a7 r26.1.Rules cu33a7, sl Au33a8 r26.1.Roots cu33a8, sl Au33a9 r26.1.Checks cu33a9, sl Au33a10 r26.1.Drops cu33a10]) s 1809 rfl rfl rfl rfl rfl rfl rfl rfl ?_); clear s; intro w hK s; clear hK
   refine S s <| aw rfl <| nw <| vw <| yw rfl (y_boxField (o' := 1) · rfl underlying38 rfl rfl rfl) <| yw rfl (y_loadBox1 (kk := 1809) · rfl rfl rfl underlying25 rfl) <| yw rfl (y_lenSlice · rfl underlying25) <| mw rfl <| nw <| bw <| alw 144 121 rfl fun a s => ?_
   replace s := s.pk [(1809, 1809), (700143, 700120)] (by decide)
   refine c_loop (σ := Nat) (fun m2 a w => ∃ (t_35 : (List (List UInt8))) (t_39 : Nat) (A36 : Option Addr) (c37 : Nat) (cs38 : List Value), module_needs_L1 n t_ k18 r26 m2 t_35 t_39 = some r ∧ St (cx f25 M w0) [(0, sl Ap01 t_ cp01), (7, sl A36 t_35 c37), (8, vI (((t_15 : Nat) : Int))), (41, sl Au33a2 r26.1.Imports cu33a2), (42, vI ((((r26.1.Imports).length : Nat) : Int))), (43, vI (((t_39 : Nat) : Int)))] [(700143, Ob.row (A36) ((t_35).length) (c37) 9 1 (cs38))] [(101, sF RModule Ap01 cp01 t_), (134, sF Rep.str Au33a2 cu33a2 r26.1.Imports), (144, rdF Rep.str (cs38) (t_35))] a w) (fun m2 => m2) n ⟨(t_11), (0), (A12), (c13), (cs14), hg, (s.sb rfl rfl rfl)⟩ ?_
   clear s a; rintro m2 a w ⟨t_35, t_39, A36, c37, cs38, hg, s⟩
   rcases m2 with _ | m2
   ·rw [module_needs_L1] at hg; cases hg
   rw [module_needs_L1] at hg
   refine S s <| vw <| yw rfl (y_lssN (i := t_39) (j := ((r26.1.Imports).length)) · rfl rfl) <| nw <| sw fun a s => c_dec s rfl (fun hc40 => ?_) (fun hc40 => ?_)
   ·replace hg := br_t hg hc40
    have hmx41 := SlR.mx (s.ft 134 rfl)
    obtain ⟨x43, hx43, hg⟩ := bind_some hg
    refine S s <| kw <| pw <| sw <| bw <| sw <| lw fun a s => ?_
    obtain ⟨p45, hep45, hlq46, hmq46, csq46, hdq46, hcq46⟩ := SlR.elemX (s.ft 134 rfl) hx43
    refine qq s rfl (y_elem (sz := 1) (i := t_39) s rfl rfl underlying25 rfl hep45 rfl (lt_of_get hx43)) fun a s => ?_
    obtain ⟨rfl, lq461⟩ := hdq46
    obtain ⟨r47, hr47, hg⟩ := bind_some hg
    refine S s <| yw rfl (y_ldp1 · rfl hlq46 hmq46 (hcq46 0 _ rfl) underlying9 rfl) <| aw rfl <| nw <| sw <| lw <| mw rfl <| mw rfl fun a s => ?_
    refine lC s rfl func27 (c_module_find n _ _ s.lt _ _ _ (s.ft 101 rfl) _ (by omega) _ hr47) fun v51 a w hK hp s => ?_
    obtain ⟨Au52a2, cu52a2, Au52a3, cu52a3, Au52a4, cu52a4, Au52a5, cu52a5, Au52a6, cu52a6, Au52a7, cu52a7, Au52a8, cu52a8, Au52a9, cu52a9, Au52a10, cu52a10, rfl, lu52a1, hu52a2, hu52a3, hu52a4, hu52a5, hu52a6, hu52a7, hu52a8, hu52a9, hu52a10⟩ := hp
    refine S s <| nsw 154 hu52a2 <| nsw 155 hu52a3 <| nsw 156 hu52a4 <| nsw 157 hu52a5 <| nsw 158 hu52a6 <| nsw 159 hu52a7 <| nsw 160 hu52a8 <| nsw 161 hu52a9 <| nsw 162 hu52a10 <| mw rfl <| yw rfl (y_extract · rfl rfl) <| yw rfl (y_extract · rfl rfl) fun a s => ?_
    refine l_seq rfl (l_alloc (zs := [vT ([]), .slice none 0 0, .slice none 0 0, .slice none 0 0, .slice none 0 0, .slice none 0 0, .slice none 0 0, .slice none 0 0, .slice none 0 0, .slice none 0 0]) s 2206 rfl rfl rfl rfl fun b53 a w hb hK s => ?_)
    refine l_seq rfl (l_store (n := 10) (cs' := [vT r47.1.Name, sl Au52a2 r47.1.Imports cu52a2, sl Au52a3 r47.1.Types cu52a3, sl Au52a4 r47.1.Templates cu52a4, sl Au52a5 r47.1.Entries cu52a5, sl Au52a6 r47.1.LexRules cu52a6, sl Au52a7 r47.1.Rules cu52a7, sl Au52a8 r47.1.Roots cu52a8, sl Au52a9 r47.1.Checks cu52a9, sl Au52a10 r47.1.Drops cu52a10]) s 2206 rfl rfl rfl rfl rfl rfl rfl rfl ?_); clear s; intro w hK s; clear hK
    refine S s <| aw rfl <| nw <| sw fun a s => ?_
    obtain ⟨k54, hg, hk54⟩ := jn_some hg
    refine c_post (fun a w => ∃ (t_55 : Bool), k54 t_55 = some r ∧ St (cx f25 M w0) [(0, sl Ap01 t_ cp01), (7, sl A36 t_35 c37), (8, vI (((t_15 : Nat) : Int))), (12, vT x43), (41, sl Au33a2 r26.1.Imports cu33a2), (42, vI ((((r26.1.Imports).length : Nat) : Int))), (43, vI (((t_39 : Nat) : Int))), (59, .bool (t_55))] [(700143, Ob.row (A36) ((t_35).length) (c37) 9 1 (cs38))] [(101, sF RModule Ap01 cp01 t_), (134, sF Rep.str Au33a2 cu33a2 r26.1.Imports), (144, rdF Rep.str (cs38) (t_35))] a w) ?_ ?_
    ·rcases Bool.eq_false_or_eq_true (r47.2) with hs56 | hs56
     ·replace hg := br_t hg hs56
      obtain ⟨r57, hr57, hg⟩ := bind_some hg
      refine S s <| lw <| yw rfl (fun s => yl_b (y_move s rfl) hs56) <| mw rfl <| hw rfl <| hw rfl fun a s => ?_
      have hT := s
      replace hT := hT.fz (R := Rep.str) (kk := 700143) [2206] 164 rfl rfl (hT.ft 144 rfl) rfl
      refine gV s rfl func40 (c_slices_Contains_string n _ _ hT.lt _ _ _ (hT.ft 164 rfl) _ (by omega) _ hr57) fun a w hK s => ?_
      refine S s <| zw rfl (y_not · rfl) <| yw rfl (y_pick_t · rfl rfl) <| nw fun a s => ?_
      exact ⟨(!(r57)), hg, (s.sb rfl rfl rfl)⟩
     replace hg := br_n hg hs56
     refine S s <| lw <| yw rfl (fun s => yl_b (y_move s rfl) hs56) <| mw rfl <| gw rfl <| gw rfl <| gw rfl <| gw rfl <| yw rfl (y_pick_f · rfl rfl) <| nw fun a s => ?_
     exact ⟨(false), hg, (s.sb rfl rfl rfl)⟩
    clear s a; rintro a w ⟨t_55, hg, s⟩
    subst hk54
    refine c_cond s rfl (fun hc62 => ?_) (fun hc62 => ?_)
    ·replace hg := br_t hg hc62
     obtain ⟨hk64, hg⟩ := chk_some hg
     refine S s <| lw <| mw rfl <| mw rfl fun a s => ?_
     refine l_seq rfl (l_buildDense (sz := 1) s 2402 rfl rfl rfl underlying25 rfl rfl rfl rfl rfl rfl rfl fun b67 a w hbb67 hK s => ?_)
     clear hbb67
     replace s := s.add 167 (rdF Rep.str (cellsOfL [vT x43]) ([x43])) (RdAll.cons (by exact ⟨rfl, (by omega)⟩) (RdAll.nil _ _ _))
     have hs69 := row_src (s.wd.holds 2402 _ rfl) (RdAll.one (s.ft 167 rfl))
     refine l_seq rfl (l_append (sz := 1) (by_ := 16) (N := (t_35 ++ [x43]).length) s 700143 rfl rfl rfl underlying25 rfl rfl rfl rfl rfl hs69 (by rw [List.length_append]; try rfl) rfl (rmA hk64 rfl) (rmB hk64) rfl fun Aq68 cq68 a w hA hK s => ?_)
     replace s := s.add 168 (rdF Rep.str (cs38 ++ (cellsOfL [vT x43])) (t_35 ++ [x43])) (RdAll.append (s.ft 144 rfl) (s.ft 167 rfl))
     refine asg s rfl rfl fun a s => ?_
     apply wO
     refine p_inN ?_
     refine S s <| pw <| lw <| yw rfl (y_addN (i := t_39) (j := 1) · rfl rfl (in64.2 (by omega))) <| mw rfl <| nw <| alw 144 168 rfl fun a s => ?_
     exact ⟨m2, Nat.lt_succ_self _, ⟨(t_35 ++ [x43]), (t_39 + 1), (Aq68), (cq68), (cs38 ++ (cellsOfL [vT x43])), hg, (s.sb rfl rfl rfl)⟩⟩
    replace hg := br_n hg hc62
    apply wp_skip
    refine p_inN ?_
    refine S s <| pw <| lw <| yw rfl (y_addN (i := t_39) (j := 1) · rfl rfl (in64.2 (by omega))) <| mw rfl <| nw <| alw 144 144 rfl fun a s => ?_
    exact ⟨m2, Nat.lt_succ_self _, ⟨(t_35), (t_39 + 1), (A36), (c37), (cs38), hg, (s.sb rfl rfl rfl)⟩⟩
   replace hg := br_f hg hc40
   apply wp_exit
   refine p_then ?_
   refine p_then ?_
   refine p_in ?_
   refine p_inN ?_
   apply pN
   replace s := s.al 124 144 rfl
   replace s := s.pk [(700123, 700143)] (by decide)
   exact ⟨(t_35), (A36), (c37), (cs38), hg, (s.sb rfl rfl rfl)⟩
  clear s a; rintro a w ⟨t_19, A20, c21, cs22, hg, s⟩
  subst hk18
  refine S s <| lw <| mw rfl <| yw rfl (y_addN (i := t_15) (j := 1) · rfl rfl (in64.2 (by omega))) <| aw rfl <| nw <| alw 121 124 rfl fun a s => ?_
  replace s := s.pk [(700120, 700123)] (by decide)
  exact ⟨m1, Nat.lt_succ_self _, ⟨(t_19), (t_15 + 1), (A20), (c21), (cs22), hg, (s.sb rfl rfl rfl)⟩⟩
 replace hg := br_f hg hc16
 apply wp_exit
 refine p_then ?_
 refine p_then ?_
 refine p_in ?_
 refine S s <| pw <| vw <| mw rfl <| aw rfl <| nw fun a s => ?_
 apply wp_ret
 obtain rfl := Option.some.inj hg
 refine fin1 (fn := Tryz.f25) s rfl (r_tmp s rfl) ?_
 exact ⟨(A12), (c13), rfl, (s.rowOut (R := Rep.str) (kk := 700120) rfl rfl (s.ft 121 rfl))⟩
set_option maxHeartbeats 1000000 in
theorem c_module_check (n : Nat) (M : Bs) (w0 : World) (hM : ∀ b, M b → b < w0.heap.size) (t_ : (List Module)) (Ap01 : Option Addr) (cp01 : Nat) (hp01 : sR RModule M w0 Ap01 cp01 t_) (t_' : (List UInt8)) (lp11 : (t_').length ≤ 9223372036854775807) (r : Int) (hg : module_check n t_ t_' = some r) :
    Calls Tryz.prog 24 [sl Ap01 t_ cp01, vT t_'].toArray w0 (Ret noB w0 fun v w => v = .int .i64 (r)) := by
 unfold module_check at hg
 refine enter M noB func24 rfl rfl hM ?_
 intro a s
 refine S s <| esw 101 hp01 <| vw <| aw rfl <| nw <| sw <| vw <| mw rfl <| yw rfl (y_lenSlice · rfl underlying22) <| mw rfl <| nw fun a s => ?_
 obtain ⟨k1, hg, hk1⟩ := jn_some hg
 refine c_post (fun a w => k1 = some r ∧ St (cx f24 M w0) [(0, sl Ap01 t_ cp01), (1, vT (t_'))] [] [(101, sF RModule Ap01 cp01 t_)] a w) ?_ ?_
 ·apply wp_block
  refine c_loop (σ := Nat) (fun m1 a w => ∃ (t_2 : Nat), module_check_L0 n t_ k1 m1 t_2 = some r ∧ St (cx f24 M w0) [(0, sl Ap01 t_ cp01), (1, vT (t_')), (26, vI ((((t_).length : Nat) : Int))), (27, vI (((t_2 : Nat) : Int)))] [] [(101, sF RModule Ap01 cp01 t_)] a w) (fun m1 => m1) n ⟨(0), hg, (s.sb rfl rfl rfl)⟩ ?_
  clear s a; rintro m1 a w ⟨t_2, hg, s⟩
  rcases m1 with _ | m1
  ·rw [module_check_L0] at hg; cases hg
  rw [module_check_L0] at hg
  refine S s <| vw <| yw rfl (y_lssN (i := t_2) (j := ((t_).length)) · rfl rfl) <| nw <| sw fun a s => c_dec s rfl (fun hc3 => ?_) (fun hc3 => ?_)
  ·replace hg := br_t hg hc3
   have hmx4 := SlR.mx (s.ft 101 rfl)
   refine S s <| kw <| pw <| sw <| bw <| vw <| mw rfl <| aw rfl <| nw <| sw fun a s => ?_
   obtain ⟨k5, hg, hk5⟩ := jn_some hg
   refine c_post (fun a w => ∃ (t_6 : Bool), k5 t_6 = some r ∧ St (cx f24 M w0) [(0, sl Ap01 t_ cp01), (1, vT (t_')), (7, .bool (t_6)), (26, vI ((((t_).length : Nat) : Int))), (27, vI (((t_2 : Nat) : Int)))] [] [(101, sF RModule Ap01 cp01 t_)] a w) ?_ ?_
   ·obtain ⟨hk7, hg⟩ := chk_some hg
    obtain ⟨x9, hx9, hg⟩ := bind_some hg
    obtain ⟨r11, hr11, hg⟩ := bind_some hg
    refine d_steps s [] rfl ?_; clear s; intro wr hZ s; have hR := s.wd
    refine S s <| nqw 0 0 hR rfl (y_move · rfl) <| nqw 1 0 hR rfl (y_move · rfl) fun a s => ?_
    have hcap121 := (s.ft 101 rfl).cap
    refine S s <| nqw 2 0 hR rfl (y_cutH (xs := t_) (sz := 10) (i := t_2) · rfl rfl underlying22 rfl rfl hk7 hcap121) fun a s => ?_
    replace s := s.add 121 (sF RModule Ap01 cp01 ((t_).take t_2)) (SlR.cutH (s.ft 101 rfl) t_2 hk7)
    refine S s <| nqw 3 0 hR rfl (y_move · rfl) <| nqw 4 0 hR rfl (y_move · rfl) fun a s => ?_
    obtain ⟨p15, hep15, hlq16, hmq16, csq16, hdq16, hcq16⟩ := SlR.elemX (s.ft 101 rfl) hx9
    refine S s <| nqw 5 0 hR rfl (y_elem (sz := 10) (i := t_2) · rfl rfl underlying22 rfl hep15 rfl (lt_of_get hx9)) <| nqw 6 0 hR rfl (y_ptrField (o' := 0) · rfl underlying38 rfl rfl rfl) fun a s => ?_
    obtain ⟨Aq162, cq162, Aq163, cq163, Aq164, cq164, Aq165, cq165, Aq166, cq166, Aq167, cq167, Aq168, cq168, Aq169, cq169, Aq1610, cq1610, rfl, lq161, hq162, hq163, hq164, hq165, hq166, hq167, hq168, hq169, hq1610⟩ := RModule.open hdq16
    refine S s <| nsw 122 hq162 <| nsw 123 hq163 <| nsw 124 hq164 <| nsw 125 hq165 <| nsw 126 hq166 <| nsw 127 hq167 <| nsw 128 hq168 <| nsw 129 hq169 <| nsw 130 hq1610 <| nqw 7 0 hR rfl (y_ldp1 · rfl hlq16 hmq16 (hcq16 0 _ rfl) underlying9 rfl) fun a s => ?_
    refine n_2 8 12 s (by kernel_rfl) rfl rfl rfl rfl ?_ ?_
    ·refine l_call (cap := []) s rfl func27 rfl (by kernel_rfl) rfl rfl (c_module_find n _ _ s.lt _ _ _ (s.ft 121 rfl) _ (by omega) _ hr11) fun v17 a w hK hp s => ?_
     replace hZ := Nat.le_trans hZ hK.size; refine ⟨fun g _ h => h.grow hK, ?_⟩; clear hK
     obtain ⟨Au18a2, cu18a2, Au18a3, cu18a3, Au18a4, cu18a4, Au18a5, cu18a5, Au18a6, cu18a6, Au18a7, cu18a7, Au18a8, cu18a8, Au18a9, cu18a9, Au18a10, cu18a10, rfl, lu18a1, hu18a2, hu18a3, hu18a4, hu18a5, hu18a6, hu18a7, hu18a8, hu18a9, hu18a10⟩ := hp
     replace s := s.ns 131 hu18a2 |>.ns 132 hu18a3 |>.ns 133 hu18a4 |>.ns 134 hu18a5 |>.ns 135 hu18a6 |>.ns 136 hu18a7 |>.ns 137 hu18a8 |>.ns 138 hu18a9 |>.ns 139 hu18a10
     refine n_2 9 12 s (by kernel_rfl) rfl rfl rfl rfl ?_ ?_
     ·refine l_quiet s rfl rfl (y_move s rfl) fun a s => ?_; refine ⟨fun g _ h => h, ?_⟩
      refine n_3 10 11 12 s (by kernel_rfl) rfl rfl rfl rfl rfl rfl ?_ ?_ ?_
      ·refine l_quiet s rfl rfl (y_extract s rfl rfl) fun a s => ?_; refine ⟨fun g _ h => h, ?_⟩
       refine n_2 11 12 s (by kernel_rfl) rfl rfl rfl rfl ?_ ?_
       ·refine l_quiet s rfl rfl (y_extract s rfl rfl) fun a s => ?_; refine ⟨fun g _ h => h, ?_⟩
        refine n_1 12 s (by kernel_rfl) rfl rfl (l_alloc (zs := [vT ([]), .slice none 0 0, .slice none 0 0, .slice none 0 0, .slice none 0 0, .slice none 0 0, .slice none 0 0, .slice none 0 0, .slice none 0 0, .slice none 0 0]) s 1412 rfl rfl rfl rfl fun b19 a w hb hK s => ?_)
        have hNb19 := Nat.le_trans hZ hb
        replace hZ := Nat.le_trans hZ hK.size; refine ⟨fun g _ h => h.grow hK, ?_⟩; clear hK
        refine n_1 13 s (by kernel_rfl) rfl rfl (l_store (n := 10) (cs' := [vT r11.1.Name, sl Au18a2 r11.1.Imports cu18a2, sl Au18a3 r11.1.Types cu18a3, sl Au18a4 r11.1.Templates cu18a4, sl Au18a5 r11.1.Entries cu18a5, sl Au18a6 r11.1.LexRules cu18a6, sl Au18a7 r11.1.Rules cu18a7, sl Au18a8 r11.1.Roots cu18a8, sl Au18a9 r11.1.Checks cu18a9, sl Au18a10 r11.1.Drops cu18a10]) s 1412 rfl rfl rfl rfl rfl rfl rfl rfl ?_); clear s; intro w hK s; replace hZ := Nat.le_trans hZ hK.size
        refine ⟨fun g _ h => h.app hR hK (fun x e => by cases e; exact hNb19), ?_⟩; clear hK
        refine S s <| nzw 14 rfl (y_assign · rfl) fun a s => ?_
        refine n_end (by kernel_rfl) ?_; clear hR hZ
        apply pN
        exact ⟨(r11.2), hg, (s.sb rfl rfl rfl)⟩
       ·refine l_alloc (zs := [vT ([]), .slice none 0 0, .slice none 0 0, .slice none 0 0, .slice none 0 0, .slice none 0 0, .slice none 0 0, .slice none 0 0, .slice none 0 0, .slice none 0 0]) s 1412 rfl rfl rfl rfl fun b20 a w hb hK s => ?_
        have hNb20 := Nat.le_trans hZ hb
        replace hZ := Nat.le_trans hZ hK.size; refine ⟨fun g _ h => h.grow hK, ?_⟩; clear hK
        refine n_2 11 13 s (by kernel_rfl) rfl rfl rfl rfl ?_ ?_
        ·refine l_quiet s rfl rfl (y_extract s rfl rfl) fun a s => ?_; refine ⟨fun g _ h => h, ?_⟩
         refine n_1 13 s (by kernel_rfl) rfl rfl (l_store (n := 10) (cs' := [vT r11.1.Name, sl Au18a2 r11.1.Imports cu18a2, sl Au18a3 r11.1.Types cu18a3, sl Au18a4 r11.1.Templates cu18a4, sl Au18a5 r11.1.Entries cu18a5, sl Au18a6 r11.1.LexRules cu18a6, sl Au18a7 r11.1.Rules cu18a7, sl Au18a8 r11.1.Roots cu18a8, sl Au18a9 r11.1.Checks cu18a9, sl Au18a10 r11.1.Drops cu18a10]) s 1412 rfl rfl rfl rfl rfl rfl rfl rfl ?_); clear s; intro w hK s; replace hZ := Nat.le_trans hZ hK.size
         refine ⟨fun g _ h => h.app hR hK (fun x e => by cases e; exact hNb20), ?_⟩; clear hK
         refine S s <| nzw 14 rfl (y_assign · rfl) fun a s => ?_
         refine n_end (by kernel_rfl) ?_; clear hR hZ
         apply pN
         exact ⟨(r11.2), hg, (s.sb rfl rfl rfl)⟩
        ·refine l_store (n := 10) (cs' := [vT r11.1.Name, sl Au18a2 r11.1.Imports cu18a2, sl Au18a3 r11.1.Types cu18a3, sl Au18a4 r11.1.Templates cu18a4, sl Au18a5 r11.1.Entries cu18a5, sl Au18a6 r11.1.LexRules cu18a6, sl Au18a7 r11.1.Rules cu18a7, sl Au18a8 r11.1.Roots cu18a8, sl Au18a9 r11.1.Checks cu18a9, sl Au18a10 r11.1.Drops cu18a10]) s 1412 rfl rfl rfl rfl rfl rfl rfl rfl ?_; clear s; intro w hK s; replace hZ := Nat.le_trans hZ hK.size
         refine ⟨fun g _ h => h.app hR hK (fun x e => by cases e; exact hNb20), ?_⟩; clear hK
         refine S s <| nzw 11 rfl (y_extract · rfl rfl) <| nzw 14 rfl (y_assign · rfl) fun a s => ?_
         refine n_end (by kernel_rfl) ?_; clear hR hZ
         apply pN
         exact ⟨(r11.2), hg, (s.sb rfl rfl rfl)⟩
      ·refine l_quiet s rfl rfl (y_extract s rfl rfl) fun a s => ?_; refine ⟨fun g _ h => h, ?_⟩
       refine n_2 10 12 s (by kernel_rfl) rfl rfl rfl rfl ?_ ?_
       ·refine l_quiet s rfl rfl (y_extract s rfl rfl) fun a s => ?_; refine ⟨fun g _ h => h, ?_⟩
        refine n_1 12 s (by kernel_rfl) rfl rfl (l_alloc (zs := [vT ([]), .slice none 0 0, .slice none 0 0, .slice none 0 0, .slice none 0 0, .slice none 0 0, .slice none 0 0, .slice none 0 0, .slice none 0 0, .slice none 0 0]) s 1412 rfl rfl rfl rfl fun b21 a w hb hK s => ?_)
        have hNb21 := Nat.le_trans hZ hb
        replace hZ := Nat.le_trans hZ hK.size; refine ⟨fun g _ h => h.grow hK, ?_⟩; clear hK
        refine n_1 13 s (by kernel_rfl) rfl rfl (l_store (n := 10) (cs' := [vT r11.1.Name, sl Au18a2 r11.1.Imports cu18a2, sl Au18a3 r11.1.Types cu18a3, sl Au18a4 r11.1.Templates cu18a4, sl Au18a5 r11.1.Entries cu18a5, sl Au18a6 r11.1.LexRules cu18a6, sl Au18a7 r11.1.Rules cu18a7, sl Au18a8 r11.1.Roots cu18a8, sl Au18a9 r11.1.Checks cu18a9, sl Au18a10 r11.1.Drops cu18a10]) s 1412 rfl rfl rfl rfl rfl rfl rfl rfl ?_); clear s; intro w hK s; replace hZ := Nat.le_trans hZ hK.size
        refine ⟨fun g _ h => h.app hR hK (fun x e => by cases e; exact hNb21), ?_⟩; clear hK
        refine S s <| nzw 14 rfl (y_assign · rfl) fun a s => ?_
        refine n_end (by kernel_rfl) ?_; clear hR hZ
        apply pN
        exact ⟨(r11.2), hg, (s.sb rfl rfl rfl)⟩
       ·refine l_alloc (zs := [vT ([]), .slice none 0 0, .slice none 0 0, .slice none 0 0, .slice none 0 0, .slice none 0 0, .slice none 0 0, .slice none 0 0, .slice none 0 0, .slice none 0 0]) s 1412 rfl rfl rfl rfl fun b22 a w hb hK s => ?_
        have hNb22 := Nat.le_trans hZ hb
        replace hZ := Nat.le_trans hZ hK.size; refine ⟨fun g _ h => h.grow hK, ?_⟩; clear hK
        refine S s <| nzw 10 rfl (y_extract · rfl rfl) fun a s => ?_
        refine n_1 13 s (by kernel_rfl) rfl rfl (l_store (n := 10) (cs' := [vT r11.1.Name, sl Au18a2 r11.1.Imports cu18a2, sl Au18a3 r11.1.Types cu18a3, sl Au18a4 r11.1.Templates cu18a4, sl Au18a5 r11.1.Entries cu18a5, sl Au18a6 r11.1.LexRules cu18a6, sl Au18a7 r11.1.Rules cu18a7, sl Au18a8 r11.1.Roots cu18a8, sl Au18a9 r11.1.Checks cu18a9, sl Au18a10 r11.1.Drops cu18a10]) s 1412 rfl rfl rfl rfl rfl rfl rfl rfl ?_); clear s; intro w hK s; replace hZ := Nat.le_trans hZ hK.size
        refine ⟨fun g _ h => h.app hR hK (fun x e => by cases e; exact hNb22), ?_⟩; clear hK
        refine S s <| nzw 14 rfl (y_assign · rfl) fun a s => ?_
        refine n_end (by kernel_rfl) ?_; clear hR hZ
        apply pN
        exact ⟨(r11.2), hg, (s.sb rfl rfl rfl)⟩
      ·refine l_alloc (zs := [vT ([]), .slice none 0 0, .slice none 0 0, .slice none 0 0, .slice none 0 0, .slice none 0 0, .slice none 0 0, .slice none 0 0, .slice none 0 0, .slice none 0 0]) s 1412 rfl rfl rfl rfl fun b23 a w hb hK s => ?_
       have hNb23 := Nat.le_trans hZ hb
       replace hZ := Nat.le_trans hZ hK.size; refine ⟨fun g _ h => h.grow hK, ?_⟩; clear hK
       refine n_2 10 11 s (by kernel_rfl) rfl rfl rfl rfl ?_ ?_
       ·refine l_quiet s rfl rfl (y_extract s rfl rfl) fun a s => ?_; refine ⟨fun g _ h => h, ?_⟩
        refine n_2 11 13 s (by kernel_rfl) rfl rfl rfl rfl ?_ ?_
        ·refine l_quiet s rfl rfl (y_extract s rfl rfl) fun a s => ?_; refine ⟨fun g _ h => h, ?_⟩
         refine n_1 13 s (by kernel_rfl) rfl rfl (l_store (n := 10) (cs' := [vT r11.1.Name, sl Au18a2 r11.1.Imports cu18a2, sl Au18a3 r11.1.Types cu18a3, sl Au18a4 r11.1.Templates cu18a4, sl Au18a5 r11.1.Entries cu18a5, sl Au18a6 r11.1.LexRules cu18a6, sl Au18a7 r11.1.Rules cu18a7, sl Au18a8 r11.1.Roots cu18a8, sl Au18a9 r11.1.Checks cu18a9, sl Au18a10 r11.1.Drops cu18a10]) s 1412 rfl rfl rfl rfl rfl rfl rfl rfl ?_); clear s; intro w hK s; replace hZ := Nat.le_trans hZ hK.size
         refine ⟨fun g _ h => h.app hR hK (fun x e => by cases e; exact hNb23), ?_⟩; clear hK
         refine S s <| nzw 14 rfl (y_assign · rfl) fun a s => ?_
         refine n_end (by kernel_rfl) ?_; clear hR hZ
         apply pN
         exact ⟨(r11.2), hg, (s.sb rfl rfl rfl)⟩
        ·refine l_store (n := 10) (cs' := [vT r11.1.Name, sl Au18a2 r11.1.Imports cu18a2, sl Au18a3 r11.1.Types cu18a3, sl Au18a4 r11.1.Templates cu18a4, sl Au18a5 r11.1.Entries cu18a5, sl Au18a6 r11.1.LexRules cu18a6, sl Au18a7 r11.1.Rules cu18a7, sl Au18a8 r11.1.Roots cu18a8, sl Au18a9 r11.1.Checks cu18a9, sl Au18a10 r11.1.Drops cu18a10]) s 1412 rfl rfl rfl rfl rfl rfl rfl rfl ?_; clear s; intro w hK s; replace hZ := Nat.le_trans hZ hK.size
         refine ⟨fun g _ h => h.app hR hK (fun x e => by cases e; exact hNb23), ?_⟩; clear hK
         refine S s <| nzw 11 rfl (y_extract · rfl rfl) <| nzw 14 rfl (y_assign · rfl) fun a s => ?_
         refine n_end (by kernel_rfl) ?_; clear hR hZ
         apply pN
         exact ⟨(r11.2), hg, (s.sb rfl rfl rfl)⟩
       ·refine l_quiet s rfl rfl (y_extract s rfl rfl) fun a s => ?_; refine ⟨fun g _ h => h, ?_⟩
        refine S s <| nzw 10 rfl (y_extract · rfl rfl) fun a s => ?_
        refine n_1 13 s (by kernel_rfl) rfl rfl (l_store (n := 10) (cs' := [vT r11.1.Name, sl Au18a2 r11.1.Imports cu18a2, sl Au18a3 r11.1.Types cu18a3, sl Au18a4 r11.1.Templates cu18a4, sl Au18a5 r11.1.Entries cu18a5, sl Au18a6 r11.1.LexRules cu18a6, sl Au18a7 r11.1.Rules cu18a7, sl Au18a8 r11.1.Roots cu18a8, sl Au18a9 r11.1.Checks cu18a9, sl Au18a10 r11.1.Drops cu18a10]) s 1412 rfl rfl rfl rfl rfl rfl rfl rfl ?_); clear s; intro w hK s; replace hZ := Nat.le_trans hZ hK.size
        refine ⟨fun g _ h => h.app hR hK (fun x e => by cases e; exact hNb23), ?_⟩; clear hK
        refine S s <| nzw 14 rfl (y_assign · rfl) fun a s => ?_
        refine n_end (by kernel_rfl) ?_; clear hR hZ
        apply pN
        exact ⟨(r11.2), hg, (s.sb rfl rfl rfl)⟩
     ·refine l_alloc (zs := [vT ([]), .slice none 0 0, .slice none 0 0, .slice none 0 0, .slice none 0 0, .slice none 0 0, .slice none 0 0, .slice none 0 0, .slice none 0 0, .slice none 0 0]) s 1412 rfl rfl rfl rfl fun b24 a w hb hK s => ?_
      have hNb24 := Nat.le_trans hZ hb
      replace hZ := Nat.le_trans hZ hK.size; refine ⟨fun g _ h => h.grow hK, ?_⟩; clear hK
      refine S s <| nzw 9 rfl (y_move · rfl) fun a s => ?_
      refine n_2 10 11 s (by kernel_rfl) rfl rfl rfl rfl ?_ ?_
      ·refine l_quiet s rfl rfl (y_extract s rfl rfl) fun a s => ?_; refine ⟨fun g _ h => h, ?_⟩
       refine n_2 11 13 s (by kernel_rfl) rfl rfl rfl rfl ?_ ?_
       ·refine l_quiet s rfl rfl (y_extract s rfl rfl) fun a s => ?_; refine ⟨fun g _ h => h, ?_⟩
        refine n_1 13 s (by kernel_rfl) rfl rfl (l_store (n := 10) (cs' := [vT r11.1.Name, sl Au18a2 r11.1.Imports cu18a2, sl Au18a3 r11.1.Types cu18a3, sl Au18a4 r11.1.Templates cu18a4, sl Au18a5 r11.1.Entries cu18a5, sl Au18a6 r11.1.LexRules cu18a6, sl Au18a7 r11.1.Rules cu18a7, sl Au18a8 r11.1.Roots cu18a8, sl Au18a9 r11.1.Checks cu18a9, sl Au18a10 r11.1.Drops cu18a10]) s 1412 rfl rfl rfl rfl rfl rfl rfl rfl ?_); clear s; intro w hK s; replace hZ := Nat.le_trans hZ hK.size
        refine ⟨fun g _ h => h.app hR hK (fun x e => by cases e; exact hNb24), ?_⟩; clear hK
        refine S s <| nzw 14 rfl (y_assign · rfl) fun a s => ?_
        refine n_end (by kernel_rfl) ?_; clear hR hZ
        apply pN
        exact ⟨(r11.2), hg, (s.sb rfl rfl rfl)⟩
       ·refine l_store (n := 10) (cs' := [vT r11.1.Name, sl Au18a2 r11.1.Imports cu18a2, sl Au18a3 r11.1.Types cu18a3, sl Au18a4 r11.1.Templates cu18a4, sl Au18a5 r11.1.Entries cu18a5, sl Au18a6 r11.1.LexRules cu18a6, sl Au18a7 r11.1.Rules cu18a7, sl Au18a8 r11.1.Roots cu18a8, sl Au18a9 r11.1.Checks cu18a9, sl Au18a10 r11.1.Drops cu18a10]) s 1412 rfl rfl rfl rfl rfl rfl rfl rfl ?_; clear s; intro w hK s; replace hZ := Nat.le_trans hZ hK.size
        refine ⟨fun g _ h => h.app hR hK (fun x e => by cases e; exact hNb24), ?_⟩; clear hK
        refine S s <| nzw 11 rfl (y_extract · rfl rfl) <| nzw 14 rfl (y_assign · rfl) fun a s => ?_
        refine n_end (by kernel_rfl) ?_; clear hR hZ
        apply pN
        exact ⟨(r11.2), hg, (s.sb rfl rfl rfl)⟩
      ·refine l_quiet s rfl rfl (y_extract s rfl rfl) fun a s => ?_; refine ⟨fun g _ h => h, ?_⟩
       refine S s <| nzw 10 rfl (y_extract · rfl rfl) fun a s => ?_
       refine n_1 13 s (by kernel_rfl) rfl rfl (l_store (n := 10) (cs' := [vT r11.1.Name, sl Au18a2 r11.1.Imports cu18a2, sl Au18a3 r11.1.Types cu18a3, sl Au18a4 r11.1.Templates cu18a4, sl Au18a5 r11.1.Entries cu18a5, sl Au18a6 r11.1.LexRules cu18a6, sl Au18a7 r11.1.Rules cu18a7, sl Au18a8 r11.1.Roots cu18a8, sl Au18a9 r11.1.Checks cu18a9, sl Au18a10 r11.1.Drops cu18a10]) s 1412 rfl rfl rfl rfl rfl rfl rfl rfl ?_); clear s; intro w hK s; replace hZ := Nat.le_trans hZ hK.size
       refine ⟨fun g _ h => h.app hR hK (fun x e => by cases e; exact hNb24), ?_⟩; clear hK
       refine S s <| nzw 14 rfl (y_assign · rfl) fun a s => ?_
       refine n_end (by kernel_rfl) ?_; clear hR hZ
       apply pN
       exact ⟨(r11.2), hg, (s.sb rfl rfl rfl)⟩
    ·refine l_alloc (zs := [vT ([]), .slice none 0 0, .slice none 0 0, .slice none 0 0, .slice none 0 0, .slice none 0 0, .slice none 0 0, .slice none 0 0, .slice none 0 0, .slice none 0 0]) s 1412 rfl rfl rfl rfl fun b25 a w hb hK s => ?_
     have hNb25 := Nat.le_trans hZ hb
     replace hZ := Nat.le_trans hZ hK.size; refine ⟨fun g _ h => h.grow hK, ?_⟩; clear hK
     refine nC 8 s rfl rfl func27 (c_module_find n _ _ s.lt _ _ _ (s.ft 121 rfl) _ (by omega) _ hr11) fun v26 a w hK hp s => ?_
     replace hZ := Nat.le_trans hZ hK.size; refine ⟨fun g _ h => h.grow hK, ?_⟩; clear hK
     obtain ⟨Au27a2, cu27a2, Au27a3, cu27a3, Au27a4, cu27a4, Au27a5, cu27a5, Au27a6, cu27a6, Au27a7, cu27a7, Au27a8, cu27a8, Au27a9, cu27a9, Au27a10, cu27a10, rfl, lu27a1, hu27a2, hu27a3, hu27a4, hu27a5, hu27a6, hu27a7, hu27a8, hu27a9, hu27a10⟩ := hp
     refine S s <| nsw 140 hu27a2 <| nsw 141 hu27a3 <| nsw 142 hu27a4 <| nsw 143 hu27a5 <| nsw 144 hu27a6 <| nsw 145 hu27a7 <| nsw 146 hu27a8 <| nsw 147 hu27a9 <| nsw 148 hu27a10 <| nzw 9 rfl (y_move · rfl) fun a s => ?_
     refine n_2 10 11 s (by kernel_rfl) rfl rfl rfl rfl ?_ ?_
     ·refine l_quiet s rfl rfl (y_extract s rfl rfl) fun a s => ?_; refine ⟨fun g _ h => h, ?_⟩
      refine n_2 11 13 s (by kernel_rfl) rfl rfl rfl rfl ?_ ?_
      ·refine l_quiet s rfl rfl (y_extract s rfl rfl) fun a s => ?_; refine ⟨fun g _ h => h, ?_⟩
       refine n_1 13 s (by kernel_rfl) rfl rfl (l_store (n := 10) (cs' := [vT r11.1.Name, sl Au27a2 r11.1.Imports cu27a2, sl Au27a3 r11.1.Types cu27a3, sl Au27a4 r11.1.Templates cu27a4, sl Au27a5 r11.1.Entries cu27a5, sl Au27a6 r11.1.LexRules cu27a6, sl Au27a7 r11.1.Rules cu27a7, sl Au27a8 r11.1.Roots cu27a8, sl Au27a9 r11.1.Checks cu27a9, sl Au27a10 r11.1.Drops cu27a10]) s 1412 rfl rfl rfl rfl rfl rfl rfl rfl ?_); clear s; intro w hK s; replace hZ := Nat.le_trans hZ hK.size
       refine ⟨fun g _ h => h.app hR hK (fun x e => by cases e; exact hNb25), ?_⟩; clear hK
       refine S s <| nzw 14 rfl (y_assign · rfl) fun a s => ?_
       refine n_end (by kernel_rfl) ?_; clear hR hZ
       apply pN
       exact ⟨(r11.2), hg, (s.sb rfl rfl rfl)⟩
      ·refine l_store (n := 10) (cs' := [vT r11.1.Name, sl Au27a2 r11.1.Imports cu27a2, sl Au27a3 r11.1.Types cu27a3, sl Au27a4 r11.1.Templates cu27a4, sl Au27a5 r11.1.Entries cu27a5, sl Au27a6 r11.1.LexRules cu27a6, sl Au27a7 r11.1.Rules cu27a7, sl Au27a8 r11.1.Roots cu27a8, sl Au27a9 r11.1.Checks cu27a9, sl Au27a10 r11.1.Drops cu27a10]) s 1412 rfl rfl rfl rfl rfl rfl rfl rfl ?_; clear s; intro w hK s; replace hZ := Nat.le_trans hZ hK.size
       refine ⟨fun g _ h => h.app hR hK (fun x e => by cases e; exact hNb25), ?_⟩; clear hK
       refine S s <| nzw 11 rfl (y_extract · rfl rfl) <| nzw 14 rfl (y_assign · rfl) fun a s => ?_
       refine n_end (by kernel_rfl) ?_; clear hR hZ
       apply pN
       exact ⟨(r11.2), hg, (s.sb rfl rfl rfl)⟩
     ·refine l_quiet s rfl rfl (y_extract s rfl rfl) fun a s => ?_; refine ⟨fun g _ h => h, ?_⟩
      refine S s <| nzw 10 rfl (y_extract · rfl rfl) fun a s => ?_
      refine n_1 13 s (by kernel_rfl) rfl rfl (l_store (n := 10) (cs' := [vT r11.1.Name, sl Au27a2 r11.1.Imports cu27a2, sl Au27a3 r11.1.Types cu27a3, sl Au27a4 r11.1.Templates cu27a4, sl Au27a5 r11.1.Entries cu27a5, sl Au27a6 r11.1.LexRules cu27a6, sl Au27a7 r11.1.Rules cu27a7, sl Au27a8 r11.1.Roots cu27a8, sl Au27a9 r11.1.Checks cu27a9, sl Au27a10 r11.1.Drops cu27a10]) s 1412 rfl rfl rfl rfl rfl rfl rfl rfl ?_); clear s; intro w hK s; replace hZ := Nat.le_trans hZ hK.size
      refine ⟨fun g _ h => h.app hR hK (fun x e => by cases e; exact hNb25), ?_⟩; clear hK
      refine S s <| nzw 14 rfl (y_assign · rfl) fun a s => ?_
      refine n_end (by kernel_rfl) ?_; clear hR hZ
      apply pN
      exact ⟨(r11.2), hg, (s.sb rfl rfl rfl)⟩
   clear s a; rintro a w ⟨t_6, hg, s⟩
   subst hk5
   refine S s <| vw <| mw rfl <| nw fun a s => c_cond s rfl (fun hc28 => ?_) (fun hc28 => ?_)
   ·replace hg := br_t hg hc28
    refine S s <| vw <| aw rfl <| nw fun a s => ?_
    apply wp_ret
    refine p_inR ?_
    refine p_thenR ?_
    refine p_thenR ?_
    refine p_inR ?_
    refine p_thenR ?_
    obtain rfl := Option.some.inj hg
    exact fin1 (fn := Tryz.f24) s rfl (r_tmp s rfl) rfl
   replace hg := br_n hg hc28
   apply wp_skip
   refine p_inN ?_
   refine S s <| pw <| lw <| yw rfl (y_addN (i := t_2) (j := 1) · rfl rfl (in64.2 (by omega))) <| mw rfl <| nw fun a s => ?_
   exact ⟨m1, Nat.lt_succ_self _, ⟨(t_2 + 1), hg, (s.sb rfl rfl rfl)⟩⟩
  replace hg := br_f hg hc3
  apply wp_exit
  refine p_then ?_
  refine p_then ?_
  refine p_in ?_
  apply pN
  exact ⟨hg, (s.sb rfl rfl rfl)⟩
 clear s a; rintro a w ⟨hg, s⟩
 subst hk1
 obtain ⟨r29, hr29, hg⟩ := bind_some hg
 refine S s <| sw <| sw <| lw <| mw rfl <| mw rfl fun a s => ?_
 refine lC s rfl func27 (c_module_find n _ _ s.lt _ _ _ (s.ft 101 rfl) _ (by omega) _ hr29) fun v33 a w hK hp s => ?_
 obtain ⟨Au34a2, cu34a2, Au34a3, cu34a3, Au34a4, cu34a4, Au34a5, cu34a5, Au34a6, cu34a6, Au34a7, cu34a7, Au34a8, cu34a8, Au34a9, cu34a9, Au34a10, cu34a10, rfl, lu34a1, hu34a2, hu34a3, hu34a4, hu34a5, hu34a6, hu34a7, hu34a8, hu34a9, hu34a10⟩ := hp
 refine S s <| nsw 158 hu34a2 <| nsw 159 hu34a3 <| nsw 160 hu34a4 <| nsw 161 hu34a5 <| nsw 162 hu34a6 <| nsw 163 hu34a7 <| nsw 164 hu34a8 <| nsw 165 hu34a9 <| nsw 166 hu34a10 <| mw rfl <| yw rfl (y_extract · rfl rfl) <| yw rfl (y_extract · rfl rfl) fun a s => ?_
 refine l_seq rfl (l_alloc (zs := [vT ([]), .slice none 0 0, .slice none 0 0, .slice none 0 0, .slice none 0 0, .slice none 0 0, .slice none 0 0, .slice none 0 0, .slice none 0 0, .slice none 0 0]) s 1806 rfl rfl rfl rfl fun b35 a w hb hK s => ?_)
 refine l_seq rfl (l_store (n := 10) (cs' := [vT r29.1.Name, sl Au34a2 r29.1.Imports cu34a2, sl Au34a3 r29.1.Types cu34a3, sl Au34a4 r29.1.Templates cu34a4, sl Au34a5 r29.1.Entries cu34a5, sl Au34a6 r29.1.LexRules cu34a6, sl Au34a7 r29.1.Rules cu34a7, sl Au34a8 r29.1.Roots cu34a8, sl Au34a9 r29.1.Checks cu34a9, sl Au34a10 r29.1.Drops cu34a10]) s 1806 rfl rfl rfl rfl rfl rfl rfl rfl ?_); clear s; intro w hK s; clear hK
 refine S s <| aw rfl <| nw <| vw <| mw rfl <| yw rfl (y_not · rfl) <| nw fun a s => c_cond s rfl (fun hc36 => ?_) (fun hc36 => ?_)
 ·replace hg := br_t hg hc36
  refine S s <| vw <| aw rfl <| nw fun a s => ?_
  apply wp_ret
  refine p_thenR ?_
  obtain rfl := Option.some.inj hg
  exact fin1 (fn := Tryz.f24) s rfl (r_tmp s rfl) rfl
 replace hg := br_n hg hc36
 obtain ⟨r37, hr37, hg⟩ := bind_some hg
 refine S s <| kw <| pw <| sw <| lw <| mw rfl <| mw rfl fun a s => ?_
 refine lC s rfl func25 (c_module_needs n _ _ s.lt _ _ _ (s.ft 101 rfl) _ (by omega) _ hr37) fun v40 a w hK hp s => ?_
 obtain ⟨Au41a1, cu41a1, rfl, hu41a1⟩ := hp
 refine S s <| nsw 168 hu41a1 <| aw rfl <| nw <| sw <| vw <| mw rfl <| yw rfl (y_lenSlice · rfl underlying25) <| mw rfl <| nw fun a s => ?_
 obtain ⟨k42, hg, hk42⟩ := jn_some hg
 refine c_post (fun a w => k42 = some r ∧ St (cx f24 M w0) [(0, sl Ap01 t_ cp01), (10, sl Au41a1 r37 cu41a1)] [] [(101, sF RModule Ap01 cp01 t_), (168, sF Rep.str Au41a1 cu41a1 r37)] a w) ?_ ?_
 ·apply wp_block
  refine c_loop (σ := Nat) (fun m2 a w => ∃ (t_43 : Nat), module_check_L1 n t_ r37 k42 m2 t_43 = some r ∧ St (cx f24 M w0) [(0, sl Ap01 t_ cp01), (10, sl Au41a1 r37 cu41a1), (55, sl Au41a1 r37 cu41a1), (56, vI ((((r37).length : Nat) : Int))), (57, vI (((t_43 : Nat) : Int)))] [] [(101, sF RModule Ap01 cp01 t_), (168, sF Rep.str Au41a1 cu41a1 r37)] a w) (fun m2 => m2) n ⟨(0), hg, (s.sb rfl rfl rfl)⟩ ?_
  clear s a; rintro m2 a w ⟨t_43, hg, s⟩
  rcases m2 with _ | m2
  ·rw [module_check_L1] at hg; cases hg
  rw [module_check_L1] at hg
  refine S s <| vw <| yw rfl (y_lssN (i := t_43) (j := ((r37).length)) · rfl rfl) <| nw <| sw fun a s => c_dec s rfl (fun hc44 => ?_) (fun hc44 => ?_)
  ·replace hg := br_t hg hc44
   have hmx45 := SlR.mx (s.ft 168 rfl)
   apply wp_skip
   apply pN
   apply wQ
   obtain ⟨k46, hg, hk46⟩ := jn_some hg
   refine c_post (fun a w => k46 = some r ∧ St (cx f24 M w0) [(0, sl Ap01 t_ cp01), (10, sl Au41a1 r37 cu41a1), (55, sl Au41a1 r37 cu41a1), (56, vI ((((r37).length : Nat) : Int))), (57, vI (((t_43 : Nat) : Int)))] [] [(101, sF RModule Ap01 cp01 t_), (168, sF Rep.str Au41a1 cu41a1 r37)] a w) ?_ ?_
   ·obtain ⟨x48, hx48, hg⟩ := bind_some hg
    apply wp_block
    apply wQ
    apply wL
    obtain ⟨p50, hep50, hlq51, hmq51, csq51, hdq51, hcq51⟩ := SlR.elemX (s.ft 168 rfl) hx48
    refine qq s rfl (y_elem (sz := 1) (i := t_43) s rfl rfl underlying25 rfl hep50 rfl (lt_of_get hx48)) fun a s => ?_
    obtain ⟨rfl, lq511⟩ := hdq51
    obtain ⟨r52, hr52, hg⟩ := bind_some hg
    refine S s <| yw rfl (y_ldp1 · rfl hlq51 hmq51 (hcq51 0 _ rfl) underlying9 rfl) <| aw rfl <| nw <| sw <| lw <| mw rfl <| mw rfl fun a s => ?_
    refine lC s rfl func27 (c_module_find n _ _ s.lt _ _ _ (s.ft 101 rfl) _ (by omega) _ hr52) fun v56 a w hK hp s => ?_
    obtain ⟨Au57a2, cu57a2, Au57a3, cu57a3, Au57a4, cu57a4, Au57a5, cu57a5, Au57a6, cu57a6, Au57a7, cu57a7, Au57a8, cu57a8, Au57a9, cu57a9, Au57a10, cu57a10, rfl, lu57a1, hu57a2, hu57a3, hu57a4, hu57a5, hu57a6, hu57a7, hu57a8, hu57a9, hu57a10⟩ := hp
    refine S s <| nsw 178 hu57a2 <| nsw 179 hu57a3 <| nsw 180 hu57a4 <| nsw 181 hu57a5 <| nsw 182 hu57a6 <| nsw 183 hu57a7 <| nsw 184 hu57a8 <| nsw 185 hu57a9 <| nsw 186 hu57a10 <| mw rfl <| yw rfl (y_extract · rfl rfl) <| yw rfl (y_extract · rfl rfl) fun a s => ?_
    refine l_seq rfl (l_alloc (zs := [vT ([]), .slice none 0 0, .slice none 0 0, .slice none 0 0, .slice none 0 0, .slice none 0 0, .slice none 0 0, .slice none 0 0, .slice none 0 0, .slice none 0 0]) s 2506 rfl rfl rfl rfl fun b58 a w hb hK s => ?_)
    refine l_seq rfl (l_store (n := 10) (cs' := [vT r52.1.Name, sl Au57a2 r52.1.Imports cu57a2, sl Au57a3 r52.1.Types cu57a3, sl Au57a4 r52.1.Templates cu57a4, sl Au57a5 r52.1.Entries cu57a5, sl Au57a6 r52.1.LexRules cu57a6, sl Au57a7 r52.1.Rules cu57a7, sl Au57a8 r52.1.Roots cu57a8, sl Au57a9 r52.1.Checks cu57a9, sl Au57a10 r52.1.Drops cu57a10]) s 2506 rfl rfl rfl rfl rfl rfl rfl rfl ?_); clear s; intro w hK s; clear hK
    refine S s <| aw rfl <| nw <| vw <| yw rfl (y_boxField (o' := 1) · rfl underlying38 rfl rfl rfl) <| yw rfl (y_loadBox1 (kk := 2506) · rfl rfl rfl underlying25 rfl) <| yw rfl (y_lenSlice · rfl underlying25) <| mw rfl <| nw <| bw fun a s => ?_
    refine c_loop (σ := Nat) (fun m3 a w => ∃ (t_59 : Nat), module_check_L2 n t_ k46 r52 m3 t_59 = some r ∧ St (cx f24 M w0) [(0, sl Ap01 t_ cp01), (10, sl Au41a1 r37 cu41a1), (55, sl Au41a1 r37 cu41a1), (56, vI ((((r37).length : Nat) : Int))), (57, vI (((t_43 : Nat) : Int))), (68, sl Au57a2 r52.1.Imports cu57a2), (69, vI ((((r52.1.Imports).length : Nat) : Int))), (70, vI (((t_59 : Nat) : Int)))] [] [(101, sF RModule Ap01 cp01 t_), (168, sF Rep.str Au41a1 cu41a1 r37), (178, sF Rep.str Au57a2 cu57a2 r52.1.Imports)] a w) (fun m3 => m3) n ⟨(0), hg, (s.sb rfl rfl rfl)⟩ ?_
    clear s a; rintro m3 a w ⟨t_59, hg, s⟩
    rcases m3 with _ | m3
    ·rw [module_check_L2] at hg; cases hg
    rw [module_check_L2] at hg
    refine S s <| vw <| yw rfl (y_lssN (i := t_59) (j := ((r52.1.Imports).length)) · rfl rfl) <| nw <| sw fun a s => c_dec s rfl (fun hc60 => ?_) (fun hc60 => ?_)
    ·replace hg := br_t hg hc60
     have hmx61 := SlR.mx (s.ft 178 rfl)
     obtain ⟨x63, hx63, hg⟩ := bind_some hg
     refine S s <| kw <| pw <| sw <| bw <| sw <| lw fun a s => ?_
     obtain ⟨p65, hep65, hlq66, hmq66, csq66, hdq66, hcq66⟩ := SlR.elemX (s.ft 178 rfl) hx63
     refine qq s rfl (y_elem (sz := 1) (i := t_59) s rfl rfl underlying25 rfl hep65 rfl (lt_of_get hx63)) fun a s => ?_
     obtain ⟨rfl, lq661⟩ := hdq66
     obtain ⟨r67, hr67, hg⟩ := bind_some hg
     refine S s <| yw rfl (y_ldp1 · rfl hlq66 hmq66 (hcq66 0 _ rfl) underlying9 rfl) <| aw rfl <| nw <| sw <| lw <| mw rfl <| mw rfl fun a s => ?_
     refine lC s rfl func27 (c_module_find n _ _ s.lt _ _ _ (s.ft 101 rfl) _ (by omega) _ hr67) fun v71 a w hK hp s => ?_
     obtain ⟨Au72a2, cu72a2, Au72a3, cu72a3, Au72a4, cu72a4, Au72a5, cu72a5, Au72a6, cu72a6, Au72a7, cu72a7, Au72a8, cu72a8, Au72a9, cu72a9, Au72a10, cu72a10, rfl, lu72a1, hu72a2, hu72a3, hu72a4, hu72a5, hu72a6, hu72a7, hu72a8, hu72a9, hu72a10⟩ := hp
     refine S s <| nsw 196 hu72a2 <| nsw 197 hu72a3 <| nsw 198 hu72a4 <| nsw 199 hu72a5 <| nsw 200 hu72a6 <| nsw 201 hu72a7 <| nsw 202 hu72a8 <| nsw 203 hu72a9 <| nsw 204 hu72a10 <| mw rfl <| yw rfl (y_extract · rfl rfl) <| yw rfl (y_extract · rfl rfl) fun a s => ?_
     refine l_seq rfl (l_alloc (zs := [vT ([]), .slice none 0 0, .slice none 0 0, .slice none 0 0, .slice none 0 0, .slice none 0 0, .slice none 0 0, .slice none 0 0, .slice none 0 0, .slice none 0 0]) s 2906 rfl rfl rfl rfl fun b73 a w hb hK s => ?_)
     refine l_seq rfl (l_store (n := 10) (cs' := [vT r67.1.Name, sl Au72a2 r67.1.Imports cu72a2, sl Au72a3 r67.1.Types cu72a3, sl Au72a4 r67.1.Templates cu72a4, sl Au72a5 r67.1.Entries cu72a5, sl Au72a6 r67.1.LexRules cu72a6, sl Au72a7 r67.1.Rules cu72a7, sl Au72a8 r67.1.Roots cu72a8, sl Au72a9 r67.1.Checks cu72a9, sl Au72a10 r67.1.Drops cu72a10]) s 2906 rfl rfl rfl rfl rfl rfl rfl rfl ?_); clear s; intro w hK s; clear hK
     refine S s <| aw rfl <| nw <| vw <| mw rfl <| yw rfl (y_not · rfl) <| nw fun a s => c_cond s rfl (fun hc74 => ?_) (fun hc74 => ?_)
     ·replace hg := br_t hg hc74
      refine S s <| vw <| aw rfl <| nw fun a s => ?_
      apply wp_ret
      refine p_inR ?_
      refine p_thenR ?_
      refine p_thenR ?_
      refine p_inR ?_
      refine p_inR ?_
      refine p_thenR ?_
      refine p_thenR ?_
      refine p_inR ?_
      refine p_thenR ?_
      obtain rfl := Option.some.inj hg
      exact fin1 (fn := Tryz.f24) s rfl (r_tmp s rfl) rfl
     replace hg := br_n hg hc74
     apply wp_skip
     refine p_inN ?_
     refine S s <| pw <| lw <| yw rfl (y_addN (i := t_59) (j := 1) · rfl rfl (in64.2 (by omega))) <| mw rfl <| nw fun a s => ?_
     exact ⟨m3, Nat.lt_succ_self _, ⟨(t_59 + 1), hg, (s.sb rfl rfl rfl)⟩⟩
    replace hg := br_f hg hc60
    apply wp_exit
    refine p_then ?_
    refine p_then ?_
    refine p_in ?_
    refine p_inN ?_
    apply pN
    exact ⟨hg, (s.sb rfl rfl rfl)⟩
   clear s a; rintro a w ⟨hg, s⟩
   subst hk46
   refine S s <| lw <| yw rfl (y_addN (i := t_43) (j := 1) · rfl rfl (in64.2 (by omega))) <| mw rfl <| nw fun a s => ?_
   exact ⟨m2, Nat.lt_succ_self _, ⟨(t_43 + 1), hg, (s.sb rfl rfl rfl)⟩⟩
  replace hg := br_f hg hc44
  apply wp_exit
  refine p_then ?_
  refine p_then ?_
  refine p_in ?_
  apply pN
  exact ⟨hg, (s.sb rfl rfl rfl)⟩
 clear s a; rintro a w ⟨hg, s⟩
 subst hk42
 refine S s <| sw <| vw <| mw rfl <| yw rfl (y_lenSlice · rfl underlying25) <| mw rfl <| nw <| bw fun a s => ?_
 refine c_loop (σ := Nat) (fun m4 a w => ∃ (t_75 : Nat), module_check_L3 n t_ r37 m4 t_75 = some r ∧ St (cx f24 M w0) [(0, sl Ap01 t_ cp01), (84, sl Au41a1 r37 cu41a1), (85, vI ((((r37).length : Nat) : Int))), (86, vI (((t_75 : Nat) : Int)))] [] [(101, sF RModule Ap01 cp01 t_), (168, sF Rep.str Au41a1 cu41a1 r37)] a w) (fun m4 => m4) n ⟨(0), hg, (s.sb rfl rfl rfl)⟩ ?_
 clear s a; rintro m4 a w ⟨t_75, hg, s⟩
 rcases m4 with _ | m4
 ·rw [module_check_L3] at hg; cases hg
 rw [module_check_L3] at hg
 refine S s <| vw <| yw rfl (y_lssN (i := t_75) (j := ((r37).length)) · rfl rfl) <| nw <| sw fun a s => c_dec s rfl (fun hc76 => ?_) (fun hc76 => ?_)
 ·replace hg := br_t hg hc76
  have hmx77 := SlR.mx (s.ft 168 rfl)
  apply wp_skip
  apply pN
  apply wQ
  obtain ⟨k78, hg, hk78⟩ := jn_some hg
  refine c_post (fun a w => k78 = some r ∧ St (cx f24 M w0) [(0, sl Ap01 t_ cp01), (84, sl Au41a1 r37 cu41a1), (85, vI ((((r37).length : Nat) : Int))), (86, vI (((t_75 : Nat) : Int)))] [] [(101, sF RModule Ap01 cp01 t_), (168, sF Rep.str Au41a1 cu41a1 r37)] a w) ?_ ?_
  ·obtain ⟨x80, hx80, hg⟩ := bind_some hg
   apply wp_block
   apply wQ
   apply wL
   obtain ⟨p82, hep82, hlq83, hmq83, csq83, hdq83, hcq83⟩ := SlR.elemX (s.ft 168 rfl) hx80
   refine qq s rfl (y_elem (sz := 1) (i := t_75) s rfl rfl underlying25 rfl hep82 rfl (lt_of_get hx80)) fun a s => ?_
   obtain ⟨rfl, lq831⟩ := hdq83
   obtain ⟨r84, hr84, hg⟩ := bind_some hg
   refine S s <| yw rfl (y_ldp1 · rfl hlq83 hmq83 (hcq83 0 _ rfl) underlying9 rfl) <| aw rfl <| nw <| sw <| lw <| mw rfl <| mw rfl fun a s => ?_
   refine lC s rfl func27 (c_module_find n _ _ s.lt _ _ _ (s.ft 101 rfl) _ (by omega) _ hr84) fun v88 a w hK hp s => ?_
   obtain ⟨Au89a2, cu89a2, Au89a3, cu89a3, Au89a4, cu89a4, Au89a5, cu89a5, Au89a6, cu89a6, Au89a7, cu89a7, Au89a8, cu89a8, Au89a9, cu89a9, Au89a10, cu89a10, rfl, lu89a1, hu89a2, hu89a3, hu89a4, hu89a5, hu89a6, hu89a7, hu89a8, hu89a9, hu89a10⟩ := hp
   refine S s <| nsw 214 hu89a2 <| nsw 215 hu89a3 <| nsw 216 hu89a4 <| nsw 217 hu89a5 <| nsw 218 hu89a6 <| nsw 219 hu89a7 <| nsw 220 hu89a8 <| nsw 221 hu89a9 <| nsw 222 hu89a10 <| mw rfl <| yw rfl (y_extract · rfl rfl) <| yw rfl (y_extract · rfl rfl) fun a s => ?_
   refine l_seq rfl (l_alloc (zs := [vT ([]), .slice none 0 0, .slice none 0 0, .slice none 0 0, .slice none 0 0, .slice none 0 0, .slice none 0 0, .slice none 0 0, .slice none 0 0, .slice none 0 0]) s 3706 rfl rfl rfl rfl fun b90 a w hb hK s => ?_)
   refine l_seq rfl (l_store (n := 10) (cs' := [vT r84.1.Name, sl Au89a2 r84.1.Imports cu89a2, sl Au89a3 r84.1.Types cu89a3, sl Au89a4 r84.1.Templates cu89a4, sl Au89a5 r84.1.Entries cu89a5, sl Au89a6 r84.1.LexRules cu89a6, sl Au89a7 r84.1.Rules cu89a7, sl Au89a8 r84.1.Roots cu89a8, sl Au89a9 r84.1.Checks cu89a9, sl Au89a10 r84.1.Drops cu89a10]) s 3706 rfl rfl rfl rfl rfl rfl rfl rfl ?_); clear s; intro w hK s; clear hK
   refine S s <| aw rfl <| nw <| vw <| yw rfl (y_boxField (o' := 1) · rfl underlying38 rfl rfl rfl) <| yw rfl (y_loadBox1 (kk := 3706) · rfl rfl rfl underlying25 rfl) <| yw rfl (y_lenSlice · rfl underlying25) <| mw rfl <| nw <| bw fun a s => ?_
   refine c_loop (σ := Nat) (fun m5 a w => ∃ (t_91 : Nat), module_check_L4 n t_ k78 x80 r84 m5 t_91 = some r ∧ St (cx f24 M w0) [(0, sl Ap01 t_ cp01), (20, vT x80), (84, sl Au41a1 r37 cu41a1), (85, vI ((((r37).length : Nat) : Int))), (86, vI (((t_75 : Nat) : Int))), (97, sl Au89a2 r84.1.Imports cu89a2), (98, vI ((((r84.1.Imports).length : Nat) : Int))), (99, vI (((t_91 : Nat) : Int)))] [] [(101, sF RModule Ap01 cp01 t_), (168, sF Rep.str Au41a1 cu41a1 r37), (214, sF Rep.str Au89a2 cu89a2 r84.1.Imports)] a w) (fun m5 => m5) n ⟨(0), hg, (s.sb rfl rfl rfl)⟩ ?_
   clear s a; rintro m5 a w ⟨t_91, hg, s⟩
   rcases m5 with _ | m5
   ·rw [module_check_L4] at hg; cases hg
   rw [module_check_L4] at hg
   refine S s <| vw <| yw rfl (y_lssN (i := t_91) (j := ((r84.1.Imports).length)) · rfl rfl) <| nw <| sw fun a s => c_dec s rfl (fun hc92 => ?_) (fun hc92 => ?_)
   ·replace hg := br_t hg hc92
    have hmx93 := SlR.mx (s.ft 214 rfl)
    obtain ⟨x95, hx95, hg⟩ := bind_some hg
    refine S s <| kw <| pw <| sw <| bw <| sw <| lw fun a s => ?_
    obtain ⟨p97, hep97, hlq98, hmq98, csq98, hdq98, hcq98⟩ := SlR.elemX (s.ft 214 rfl) hx95
    refine qq s rfl (y_elem (sz := 1) (i := t_91) s rfl rfl underlying25 rfl hep97 rfl (lt_of_get hx95)) fun a s => ?_
    obtain ⟨rfl, lq981⟩ := hdq98
    obtain ⟨r99, hr99, hg⟩ := bind_some hg
    obtain ⟨r102, hr102, hg⟩ := bind_some hg
    refine S s <| yw rfl (y_ldp1 · rfl hlq98 hmq98 (hcq98 0 _ rfl) underlying9 rfl) <| aw rfl <| nw <| sw <| lw <| mw rfl <| mw rfl fun a s => ?_
    refine lC s rfl func25 (c_module_needs n _ _ s.lt _ _ _ (s.ft 101 rfl) _ (by omega) _ hr99) fun v105 a w hK hp s => ?_
    obtain ⟨Au106a1, cu106a1, rfl, hu106a1⟩ := hp
    refine S s <| nsw 224 hu106a1 <| mw rfl fun a s => ?_
    refine lV s rfl func40 (c_slices_Contains_string n _ _ s.lt _ _ _ (s.ft 224 rfl) _ (by omega) _ hr102) fun a w hK s => ?_
    apply wN
    refine c_cond s rfl (fun hc109 => ?_) (fun hc109 => ?_)
    ·replace hg := br_t hg hc109
     refine S s <| vw <| aw rfl <| nw fun a s => ?_
     apply wp_ret
     refine p_inR ?_
     refine p_thenR ?_
     refine p_thenR ?_
     refine p_inR ?_
     refine p_inR ?_
     refine p_thenR ?_
     refine p_thenR ?_
     refine p_inR ?_
     refine p_thenR ?_
     obtain rfl := Option.some.inj hg
     exact fin1 (fn := Tryz.f24) s rfl (r_tmp s rfl) rfl
    replace hg := br_n hg hc109
    apply wp_skip
    refine p_inN ?_
    refine S s <| pw <| lw <| yw rfl (y_addN (i := t_91) (j := 1) · rfl rfl (in64.2 (by omega))) <| mw rfl <| nw fun a s => ?_
    exact ⟨m5, Nat.lt_succ_self _, ⟨(t_91 + 1), hg, (s.sb rfl rfl rfl)⟩⟩
   replace hg := br_f hg hc92
   apply wp_exit
   refine p_then ?_
   refine p_then ?_
   refine p_in ?_
   refine p_inN ?_
   apply pN
   exact ⟨hg, (s.sb rfl rfl rfl)⟩
  clear s a; rintro a w ⟨hg, s⟩
  subst hk78
  refine S s <| lw <| yw rfl (y_addN (i := t_75) (j := 1) · rfl rfl (in64.2 (by omega))) <| mw rfl <| nw fun a s => ?_
  exact ⟨m4, Nat.lt_succ_self _, ⟨(t_75 + 1), hg, (s.sb rfl rfl rfl)⟩⟩
 replace hg := br_f hg hc76
 apply wp_exit
 refine p_then ?_
 refine p_then ?_
 refine p_in ?_
 refine S s <| pw <| vw <| aw rfl <| nw fun a s => ?_
 apply wp_ret
 obtain rfl := Option.some.inj hg
 exact fin1 (fn := Tryz.f24) s rfl (r_tmp s rfl) rfl
set_option maxHeartbeats 1000000 in
theorem c_module_Order_1 (n : Nat) : ∀ (M : Bs) (w0 : World) (hM : ∀ b, M b → b < w0.heap.size) (C : Bs) (name_ : (List UInt8)) (lp01 : (name_).length ≤ 9223372036854775807) (bf0 : Nat) (c0_ : (List (List UInt8 × Bool))) (bf01 : Nat) (csf00 : List (List UInt8 × Value)) (bf1 : Nat) (c1_ : (List Module)) (Af11 : Option Addr) (cf11 : Nat) (bf2 : Nat) (bf3 : Nat) (c3_ : (List (List UInt8))) (Af31 : Option Addr) (cf31 : Nat) (csf30 : List Value) (hW : Wd ⟨0, M, C, w0⟩ [(9100000, Ob.box bf0 [.map (some bf01)] 51), (9100100, Ob.box bf3 [.slice (Af31) ((c3_).length) (cf31)] 25), (9200000, Ob.smap bf01 (csf00)), (9200100, Ob.row (Af31) ((c3_).length) (cf31) 9 1 (csf30))] [(9300000, kvF Rep.bool (csf00) (c0_)), (9300100, rdF Rep.str (csf30) (c3_)), (9400000, slF RModule (Af11) ((c1_).length) (cf11) (c1_)), (9400001, boxF bf1 [.slice (Af11) ((c1_).length) (cf11)] 22), (9400002, boxF bf2 [.func (.func 26) #[] #[.pointer (some ⟨bf0, 0, none⟩), .pointer (some ⟨bf1, 0, none⟩), .pointer (some ⟨bf2, 0, none⟩), .pointer (some ⟨bf3, 0, none⟩)]] 52)] w0) (r : ((List (List UInt8 × Bool)) × (List (List UInt8)))) (hg : module_Order_1 n name_ c0_ c1_ c3_ = some r),
    Calls Tryz.prog 26 [vT name_, .pointer (some ⟨bf0, 0, none⟩), .pointer (some ⟨bf1, 0, none⟩), .pointer (some ⟨bf2, 0, none⟩), .pointer (some ⟨bf3, 0, none⟩)].toArray w0 (Ret C w0 fun v w => ∃ (csm0_0 : List (List UInt8 × Value)), ∃ (Am11 : Option Addr), ∃ (cm11 : Nat), ∃ (csm1_0 : List Value), v = .tuple #[] ∧ (Wd ⟨0, M, C, w0⟩ [(9100000, Ob.box bf0 [.map (some bf01)] 51), (9100100, Ob.box bf3 [sl Am11 r.2 cm11] 25), (9200000, Ob.smap bf01 (csm0_0)), (9200100, Ob.row (Am11) ((r.2).length) (cm11) 9 1 (csm1_0))] [(9300000, kvF Rep.bool (csm0_0) (r.1)), (9300100, rdF Rep.str (csm1_0) (r.2))] w)) := by
 induction n with
 | zero => intros; rename_i hg; rw [module_Order_1] at hg; cases hg
 | succ n c_self =>
 intro M w0 hM C name_ lp01 bf0 c0_ bf01 csf00 bf1 c1_ Af11 cf11 bf2 bf3 c3_ Af31 cf31 csf30 hW r hg
 rw [module_Order_1] at hg
 refine enterL M C func26 rfl rfl hW ?_
 intro a s
 refine S s <| alw 104 9400000 rfl <| alw 105 9400001 rfl <| alw 106 9400002 rfl <| sw <| vw <| yw rfl (y_loadBox1 (kk := 9100000) · rfl rfl rfl underlying51 rfl) <| mw rfl fun a s => ?_
 have hm2 := kvF_getD (R := Rep.bool) (k := name_) (z := .bool (false)) (zx := false) (s.ft 9300000 rfl) (by exact rfl)
 have em2 := hm2
 refine S s <| yw rfl (y_lookupV (kk := 9200000) · rfl rfl rfl underlying51 underlying9 rfl em2) <| yw rfl (y_not · rfl) <| nw fun a s => c_cond s rfl (fun hc3 => ?_) (fun hc3 => ?_)
 ·replace hg := br_t hg hc3
  apply wp_ret
  refine p_thenR ?_
  replace s := s.al 9300000 9300000 rfl |>.al 9300100 9300100 rfl
  obtain rfl := Option.some.inj hg
  refine fin0 (fn := Tryz.f26) s rfl ?_ (.inl rfl)
  exact ⟨(csf00), (Af31), (cf31), (csf30), rfl, ((s.ren [(9100000, Ob.box bf0 [.map (some bf01)] 51), (9100100, Ob.box bf3 [sl Af31 c3_ cf31] 25), (9200000, Ob.smap bf01 (csf00)), (9200100, Ob.row (Af31) ((c3_).length) (cf31) 9 1 (csf30))] [9100000, 9100100, 9200000, 9200100] ⟨rfl, rfl, rfl, rfl, trivial⟩ (by decide)).outL ⟨rfl, rfl, rfl, rfl, trivial⟩ ⟨rfl, rfl, trivial⟩)⟩
 replace hg := br_n hg hc3
 refine S s <| kw <| pw <| vw <| yw rfl (y_loadBox1 (kk := 9100000) · rfl rfl rfl underlying51 rfl) <| mw rfl fun a s => ?_
 refine l_seq rfl (l_mapDelete s 9200000 rfl rfl rfl underlying51 underlying9 fun w hK s => ?_)
 replace s := s.add 108 (kvF Rep.bool (mdel (csf00) (name_)) (mdel (c0_) (name_))) (kvF_del (s.ft 9300000 rfl))
 obtain ⟨r4, hr4, hg⟩ := bind_some hg
 refine S s <| nw <| sw <| lw <| yw rfl (fun s => y_loadF1 s rfl (s.ft 105 rfl) rfl underlying22 rfl) <| mw rfl fun a s => ?_
 refine lC s rfl func27 (c_module_find n _ _ s.lt _ _ _ (s.ft 104 rfl) _ (by omega) _ hr4) fun v8 a w hK hp s => ?_
 obtain ⟨Au9a2, cu9a2, Au9a3, cu9a3, Au9a4, cu9a4, Au9a5, cu9a5, Au9a6, cu9a6, Au9a7, cu9a7, Au9a8, cu9a8, Au9a9, cu9a9, Au9a10, cu9a10, rfl, lu9a1, hu9a2, hu9a3, hu9a4, hu9a5, hu9a6, hu9a7, hu9a8, hu9a9, hu9a10⟩ := hp
 refine S s <| nsw 118 hu9a2 <| nsw 119 hu9a3 <| nsw 120 hu9a4 <| nsw 121 hu9a5 <| nsw 122 hu9a6 <| nsw 123 hu9a7 <| nsw 124 hu9a8 <| nsw 125 hu9a9 <| nsw 126 hu9a10 <| mw rfl <| yw rfl (y_extract · rfl rfl) <| yw rfl (y_extract · rfl rfl) fun a s => ?_
 refine l_seq rfl (l_alloc (zs := [vT ([]), .slice none 0 0, .slice none 0 0, .slice none 0 0, .slice none 0 0, .slice none 0 0, .slice none 0 0, .slice none 0 0, .slice none 0 0, .slice none 0 0]) s 1206 rfl rfl rfl rfl fun b10 a w hb hK s => ?_)
 refine l_seq rfl (l_store (n := 10) (cs' := [vT r4.1.Name, sl Au9a2 r4.1.Imports cu9a2, sl Au9a3 r4.1.Types cu9a3, sl Au9a4 r4.1.Templates cu9a4, sl Au9a5 r4.1.Entries cu9a5, sl Au9a6 r4.1.LexRules cu9a6, sl Au9a7 r4.1.Rules cu9a7, sl Au9a8 r4.1.Roots cu9a8, sl Au9a9 r4.1.Checks cu9a9, sl Au9a10 r4.1.Drops cu9a10]) s 1206 rfl rfl rfl rfl rfl rfl rfl rfl ?_); clear s; intro w hK s; clear hK
 refine S s <| aw rfl <| nw <| sw <| vw <| yw rfl (y_boxField (o' := 1) · rfl underlying38 rfl rfl rfl) <| yw rfl (y_loadBox1 (kk := 1206) · rfl rfl rfl underlying25 rfl) <| yw rfl (y_lenSlice · rfl underlying25) <| mw rfl <| nw fun a s => ?_
 obtain ⟨k11, hg, hk11⟩ := jn_some hg
 refine c_post (fun a w => ∃ (b_12 : (List (List UInt8 × Bool))) (b_14 : (List (List UInt8))) (kv13 : List (List UInt8 × Value)) (A15 : Option Addr) (c16 : Nat) (cs17 : List Value), k11 b_12 b_14 = some r ∧ St (⟨Tryz.f26.ntmps, M, C, w0⟩ : Ctx) [(0, vT name_), (1, vP bf0 0), (4, vP bf3 0)] [(700128, Ob.row (A15) ((b_14).length) (c16) 9 1 (cs17)), (9100000, Ob.box bf0 [.map (some bf01)] 51), (9100100, Ob.box bf3 [sl A15 b_14 c16] 25), (9200000, Ob.smap bf01 (kv13))] [(127, kvF Rep.bool (kv13) (b_12)), (129, rdF Rep.str (cs17) (b_14))] a w) ?_ ?_
 ·refine S s <| bw <| alw 130 108 rfl <| alw 132 9300100 rfl fun a s => ?_
  replace s := s.pk [(1206, 1206), (700131, 9200100), (9100000, 9100000), (9100100, 9100100), (9200000, 9200000)] (by decide)
  refine c_loop (σ := Nat) (fun m1 a w => ∃ (t_18 : Nat) (b_19 : (List (List UInt8 × Bool))) (b_21 : (List (List UInt8))) (kv20 : List (List UInt8 × Value)) (A22 : Option Addr) (c23 : Nat) (cs24 : List Value), module_Order_1_L0 n c1_ (module_Order_1 n) r4 k11 m1 t_18 b_19 b_21 = some r ∧ St (⟨Tryz.f26.ntmps, M, C, w0⟩ : Ctx) [(0, vT name_), (1, vP bf0 0), (3, vP bf2 0), (4, vP bf3 0), (23, sl Au9a2 r4.1.Imports cu9a2), (24, vI ((((r4.1.Imports).length : Nat) : Int))), (25, vI (((t_18 : Nat) : Int)))] [(700131, Ob.row (A22) ((b_21).length) (c23) 9 1 (cs24)), (9100000, Ob.box bf0 [.map (some bf01)] 51), (9100100, Ob.box bf3 [sl A22 b_21 c23] 25), (9200000, Ob.smap bf01 (kv20))] [(104, sF RModule Af11 cf11 c1_), (105, boxF bf1 [sl Af11 c1_ cf11] 22), (106, boxF bf2 [.func (.func 26) #[] #[vP bf0 0, vP bf1 0, vP bf2 0, vP bf3 0]] 52), (118, sF Rep.str Au9a2 cu9a2 r4.1.Imports), (130, kvF Rep.bool (kv20) (b_19)), (132, rdF Rep.str (cs24) (b_21))] a w) (fun m1 => m1) n ⟨(0), (mdel (c0_) (name_)), (c3_), (mdel (csf00) (name_)), (Af31), (cf31), (csf30), hg, (s.sb rfl rfl rfl)⟩ ?_
  clear s a; rintro m1 a w ⟨t_18, b_19, b_21, kv20, A22, c23, cs24, hg, s⟩
  rcases m1 with _ | m1
  ·rw [module_Order_1_L0] at hg; cases hg
  rw [module_Order_1_L0] at hg
  refine S s <| vw <| yw rfl (y_lssN (i := t_18) (j := ((r4.1.Imports).length)) · rfl rfl) <| nw <| sw fun a s => c_dec s rfl (fun hc25 => ?_) (fun hc25 => ?_)
  ·replace hg := br_t hg hc25
   have hmx26 := SlR.mx (s.ft 118 rfl)
   obtain ⟨x28, hx28, hg⟩ := bind_some hg
   refine S s <| kw <| pw <| sw <| bw <| sw <| lw fun a s => ?_
   obtain ⟨p30, hep30, hlq31, hmq31, csq31, hdq31, hcq31⟩ := SlR.elemX (s.ft 118 rfl) hx28
   refine qq s rfl (y_elem (sz := 1) (i := t_18) s rfl rfl underlying25 rfl hep30 rfl (lt_of_get hx28)) fun a s => ?_
   obtain ⟨rfl, lq311⟩ := hdq31
   obtain ⟨r32, hr32, hg⟩ := bind_some hg
   refine S s <| yw rfl (y_ldp1 · rfl hlq31 hmq31 (hcq31 0 _ rfl) underlying9 rfl) <| aw rfl <| nw <| lw <| yw rfl (fun s => y_loadF1 s rfl (s.ft 106 rfl) rfl underlying52 rfl) <| mw rfl fun a s => ?_
   have hT := s.pk [(9100000, 9100000), (9100100, 9100100), (9200000, 9200000), (9200100, 700131)] (by decide)
   replace hT := hT.al 9300000 130 rfl
   replace hT := hT.al 9300100 132 rfl
   replace hT := hT.al 9400000 104 rfl
   replace hT := hT.al 9400001 105 rfl
   replace hT := hT.al 9400002 106 rfl
   refine l_seq rfl (l_callMut (cap := [vP bf0 0, vP bf1 0, vP bf2 0, vP bf3 0]) hT _ [] (sbA (by rfl)) trivial (by rfl) rfl func26 rfl (by kernel_rfl) rfl rfl (c_self _ _ (hT.restLt []) _ x28 (by omega) bf0 b_19 bf01 (kv20) bf1 c1_ (Af11) (cf11) bf2 bf3 b_21 (A22) (c23) (cs24) (hT.wd.lendL _ _ _ (sbA (by rfl)) (keep_sub []) (by rfl) (sbA (by rfl))) r32 hr32) ?_); intro v35 a' w' hK hp hF
   obtain ⟨csm0_0u36, Am11u36, cm11u36, csm1_0u36, rfl, hWu36⟩ := hp
   have hS2 := St.mk hF (hT.wd.back (sbA (by rfl)) (keep_sub []) (by rfl) hWu36 (by rfl))
   clear s hT hF hWu36 hK; revert hS2; revert w'; revert a'; intro a w s
   replace s := s.al 135 9300000 rfl |>.al 136 9300100 rfl
   replace s := s.ren [(700131, Ob.row (Am11u36) ((r32.2).length) (cm11u36) 9 1 (csm1_0u36)), (9100000, Ob.box bf0 [.map (some bf01)] 51), (9100100, Ob.box bf3 [sl Am11u36 r32.2 cm11u36] 25), (9200000, Ob.smap bf01 (csm0_0u36))] [9200100, 9100000, 9100100, 9200000] ⟨rfl, rfl, rfl, rfl, trivial⟩ (by decide)
   apply wO
   refine p_inN ?_
   refine S s <| pw <| lw <| yw rfl (y_addN (i := t_18) (j := 1) · rfl rfl (in64.2 (by omega))) <| mw rfl <| nw <| alw 130 135 rfl <| alw 132 136 rfl fun a s => ?_
   exact ⟨m1, Nat.lt_succ_self _, ⟨(t_18 + 1), (r32.1), (r32.2), (csm0_0u36), (Am11u36), (cm11u36), (csm1_0u36), hg, (s.sb rfl rfl rfl)⟩⟩
  replace hg := br_f hg hc25
  apply wp_exit
  refine p_then ?_
  refine p_then ?_
  refine p_in ?_
  refine S s <| pw <| alw 127 130 rfl <| alw 129 132 rfl fun a s => ?_
  replace s := s.pk [(700128, 700131), (9100000, 9100000), (9100100, 9100100), (9200000, 9200000)] (by decide)
  exact ⟨(b_19), (b_21), (kv20), (A22), (c23), (cs24), hg, (s.sb rfl rfl rfl)⟩
 clear s a; rintro a w ⟨b_12, b_14, kv13, A15, c16, cs17, hg, s⟩
 subst hk11
 obtain ⟨hk38, hg⟩ := chk_some hg
 refine S s <| lw <| yw rfl (y_loadBox1 (kk := 9100100) · rfl rfl rfl underlying25 rfl) <| mw rfl fun a s => ?_
 refine l_seq rfl (l_buildDense (sz := 1) s 1802 rfl rfl rfl underlying25 rfl rfl rfl rfl rfl rfl rfl fun b41 a w hbb41 hK s => ?_)
 clear hbb41
 replace s := s.add 139 (rdF Rep.str (cellsOfL [vT name_]) ([name_])) (RdAll.cons (by exact ⟨rfl, (by omega)⟩) (RdAll.nil _ _ _))
 have hs43 := row_src (s.wd.holds 1802 _ rfl) (RdAll.one (s.ft 139 rfl))
 refine l_seq rfl (l_append (sz := 1) (by_ := 16) (N := (b_14 ++ [name_]).length) s 700128 rfl rfl rfl underlying25 rfl rfl rfl rfl rfl hs43 (by rw [List.length_append]; try rfl) rfl (rmA hk38 rfl) (rmB hk38) rfl fun Aq42 cq42 a w hA hK s => ?_)
 replace s := s.add 140 (rdF Rep.str (cs17 ++ (cellsOfL [vT name_])) (b_14 ++ [name_])) (RdAll.append (s.ft 129 rfl) (s.ft 139 rfl))
 refine l_seq rfl (l_store (n := 1) (cs' := [sl Aq42 (b_14 ++ [name_]) cq42]) s 9100100 rfl rfl rfl rfl rfl rfl rfl rfl ?_); clear s; intro w hK s; clear hK
 apply wO
 replace s := s.al 9300000 127 rfl |>.al 9300100 140 rfl
 obtain rfl := Option.some.inj hg
 refine fin0 (fn := Tryz.f26) s rfl ?_ (.inr rfl)
 exact ⟨(kv13), (Aq42), (cq42), (cs17 ++ (cellsOfL [vT name_])), rfl, ((s.ren [(9100000, Ob.box bf0 [.map (some bf01)] 51), (9100100, Ob.box bf3 [sl Aq42 (b_14 ++ [name_]) cq42] 25), (9200000, Ob.smap bf01 (kv13)), (9200100, Ob.row (Aq42) ((b_14 ++ [name_]).length) (cq42) 9 1 (cs17 ++ (cellsOfL [vT name_])))] [9100000, 9100100, 9200000, 700128] ⟨rfl, rfl, rfl, rfl, trivial⟩ (by decide)).outL ⟨rfl, rfl, rfl, rfl, trivial⟩ ⟨rfl, rfl, trivial⟩)⟩
set_option maxHeartbeats 1000000 in
theorem c_module_Order (n : Nat) (M : Bs) (w0 : World) (hM : ∀ b, M b → b < w0.heap.size) (l_ : (List Module)) (Ap01 : Option Addr) (cp01 : Nat) (hp01 : sR RModule M w0 Ap01 cp01 l_) (main_ : (List UInt8)) (lp11 : (main_).length ≤ 9223372036854775807) (r : ((List (List UInt8)) × Int)) (hg : module_Order n l_ main_ = some r) :
    Calls Tryz.prog 12 [sl Ap01 l_ cp01, vT main_].toArray w0 (Ret noB w0 fun v w => ∃ (Aa1 : Option Addr), ∃ (ca1 : Nat), v = .tuple #[sl Aa1 r.1 ca1, .int .i64 (r.2)] ∧ (SlR Rep.str M w Aa1 (r.1).length ca1 (r.1))) := by
 unfold module_Order at hg
 refine enter M noB func12 rfl rfl hM ?_
 intro a s
 replace s := s.es 101 hp01
 apply wR
 refine l_seq rfl (l_box (zs := [sl Ap01 l_ cp01]) s 1000 rfl rfl rfl rfl fun b2 a w hb hK s => ?_)
 obtain ⟨r3, hr3, hg⟩ := bind_some hg
 refine S s <| aw rfl <| aw rfl <| nw <| sw <| sw <| lw <| yw rfl (y_loadBox1 (kk := 1000) · rfl rfl rfl underlying22 rfl) <| mw rfl fun a s => ?_
 refine lV s rfl func24 (c_module_check n _ _ s.lt _ _ _ (s.ft 101 rfl) _ (by omega) _ hr3) fun a w hK s => ?_
 refine S s <| aw rfl <| nw <| vw <| mw rfl <| yw rfl (y_neq · rfl rfl) <| nw fun a s => c_dec s rfl (fun hc8 => ?_) (fun hc8 => ?_)
 ·replace hg := br_t hg hc8
  refine S s <| vw <| mw rfl <| aw rfl <| aw rfl <| nw fun a s => ?_
  apply wp_ret
  refine p_thenR ?_
  obtain rfl := Option.some.inj hg
  refine fin2 (fn := Tryz.f12) s rfl (r_tmp s rfl) (r_tmp s rfl) ?_
  exact ⟨(none), (0), rfl, (SlR.nil_ _ _ _)⟩
 replace hg := br_f hg hc8
 apply wp_skip
 apply pN
 apply wR
 refine l_seq rfl (l_makeMap (n := 0) s 1400 underlying51 (.inl rfl) rfl rfl fun b11 a w hb hK s => ?_)
 replace s := s.add 103 (kvF Rep.bool ([]) ([])) (KvRel.nil)
 refine l_seq rfl (l_alloc (zs := [.map none]) s 1401 rfl rfl rfl rfl fun b12 a w hb hK s => ?_)
 refine l_seq rfl (l_store (n := 1) (cs' := [.map (some b11)]) s 1401 rfl rfl rfl rfl rfl rfl rfl rfl ?_); clear s; intro w hK s; clear hK
 obtain ⟨r13, hr13, hg⟩ := bind_some hg
 refine S s <| nw <| sw <| sw <| lw <| yw rfl (y_loadBox1 (kk := 1000) · rfl rfl rfl underlying22 rfl) <| mw rfl fun a s => ?_
 refine lC s rfl func25 (c_module_needs n _ _ s.lt _ _ _ (s.ft 101 rfl) _ (by omega) _ hr13) fun v16 a w hK hp s => ?_
 obtain ⟨Au17a1, cu17a1, rfl, hu17a1⟩ := hp
 refine S s <| nsw 105 hu17a1 <| yw rfl (y_lenSlice · rfl underlying25) <| mw rfl <| nw fun a s => ?_
 obtain ⟨k18, hg, hk18⟩ := jn_some hg
 refine c_post (fun a w => ∃ (wait_19 : (List (List UInt8 × Bool))) (kv20 : List (List UInt8 × Value)), k18 wait_19 = some r ∧ St (cx f12 M w0) [(1, vT main_), (2, vP b2 0), (7, vP b12 0)] [(1000, Ob.box b2 [sl Ap01 l_ cp01] 22), (1400, Ob.smap b11 (kv20)), (1401, Ob.box b12 [.map (some b11)] 51)] [(101, sF RModule Ap01 cp01 l_), (106, kvF Rep.bool (kv20) (wait_19))] a w) ?_ ?_
 ·apply wp_block
  replace s := s.al 107 103 rfl
  refine c_loop (σ := Nat) (fun m1 a w => ∃ (t_21 : Nat) (wait_22 : (List (List UInt8 × Bool))) (kv23 : List (List UInt8 × Value)), module_Order_L0 n r13 k18 m1 t_21 wait_22 = some r ∧ St (cx f12 M w0) [(1, vT main_), (2, vP b2 0), (7, vP b12 0), (21, sl Au17a1 r13 cu17a1), (22, vI ((((r13).length : Nat) : Int))), (23, vI (((t_21 : Nat) : Int)))] [(1000, Ob.box b2 [sl Ap01 l_ cp01] 22), (1400, Ob.smap b11 (kv23)), (1401, Ob.box b12 [.map (some b11)] 51)] [(101, sF RModule Ap01 cp01 l_), (105, sF Rep.str Au17a1 cu17a1 r13), (107, kvF Rep.bool (kv23) (wait_22))] a w) (fun m1 => m1) n ⟨(0), ([]), ([]), hg, (s.sb rfl rfl rfl)⟩ ?_
  clear s a; rintro m1 a w ⟨t_21, wait_22, kv23, hg, s⟩
  rcases m1 with _ | m1
  ·rw [module_Order_L0] at hg; cases hg
  rw [module_Order_L0] at hg
  refine S s <| vw <| yw rfl (y_lssN (i := t_21) (j := ((r13).length)) · rfl rfl) <| nw <| sw fun a s => c_dec s rfl (fun hc24 => ?_) (fun hc24 => ?_)
  ·replace hg := br_t hg hc24
   have hmx25 := SlR.mx (s.ft 105 rfl)
   obtain ⟨x27, hx27, hg⟩ := bind_some hg
   refine S s <| kw <| pw <| sw <| bw <| sw <| lw fun a s => ?_
   obtain ⟨p29, hep29, hlq30, hmq30, csq30, hdq30, hcq30⟩ := SlR.elemX (s.ft 105 rfl) hx27
   refine qq s rfl (y_elem (sz := 1) (i := t_21) s rfl rfl underlying25 rfl hep29 rfl (lt_of_get hx27)) fun a s => ?_
   obtain ⟨rfl, lq301⟩ := hdq30
   refine S s <| yw rfl (y_ldp1 · rfl hlq30 hmq30 (hcq30 0 _ rfl) underlying9 rfl) <| aw rfl <| nw <| lw <| yw rfl (y_loadBox1 (kk := 1401) · rfl rfl rfl underlying51 rfl) <| mw rfl fun a s => ?_
   refine l_seq rfl (l_mapUpdate s 1400 rfl rfl rfl rfl underlying51 underlying9 fun w hK s => ?_)
   replace s := s.add 109 (kvF Rep.bool (mset (kv23) (x27) (.bool (true))) (mset (wait_22) (x27) (true))) (kvF_set (s.ft 107 rfl) (by exact rfl))
   apply wO
   refine p_inN ?_
   refine S s <| pw <| lw <| yw rfl (y_addN (i := t_21) (j := 1) · rfl rfl (in64.2 (by omega))) <| mw rfl <| nw <| alw 107 109 rfl fun a s => ?_
   exact ⟨m1, Nat.lt_succ_self _, ⟨(t_21 + 1), (mset (wait_22) (x27) (true)), (mset (kv23) (x27) (.bool (true))), hg, (s.sb rfl rfl rfl)⟩⟩
  replace hg := br_f hg hc24
  apply wp_exit
  refine p_then ?_
  refine p_then ?_
  refine p_in ?_
  apply pN
  replace s := s.al 106 107 rfl
  exact ⟨(wait_22), (kv23), hg, (s.sb rfl rfl rfl)⟩
 clear s a; rintro a w ⟨wait_19, kv20, hg, s⟩
 subst hk18
 apply wR
 refine l_seq rfl (l_alloc (zs := [.slice none 0 0]) s 2000 rfl rfl rfl rfl fun b32 a w hb hK s => ?_)
 apply wN
 apply wR
 refine l_seq rfl (l_alloc (zs := [.nilFunc]) s 2100 rfl rfl rfl rfl fun b34 a w hb hK s => ?_)
 apply wN
 apply wR
 replace s := s.freezeBox (L' := [(1400, Ob.smap b11 (kv20)), (1401, Ob.box b12 [.map (some b11)] 51), (2000, Ob.box b32 [.slice none 0 0] 25), (2100, Ob.box b34 [.nilFunc] 52)]) 111 1000 rfl ⟨rfl, rfl, rfl, rfl, trivial⟩ rfl
 refine qq s rfl (y_makeFunc (xs := [.tmp 7, .tmp 2, .tmp 11, .tmp 10]) (vs := [vP b12 0, vP b2 0, vP b34 0, vP b32 0]) s rfl) fun a s => ?_
 refine l_seq rfl (l_store (n := 1) (cs' := [.func (.func 26) #[] #[vP b12 0, vP b2 0, vP b34 0, vP b32 0]]) s 2100 rfl rfl rfl rfl rfl rfl rfl rfl ?_); clear s; intro w hK s; clear hK
 obtain ⟨r35, hr35, hg⟩ := bind_some hg
 refine S s <| nw <| sw <| lw <| yw rfl (y_loadBox1 (kk := 2100) · rfl rfl rfl underlying52 rfl) <| mw rfl fun a s => ?_
 replace s := s.freezeBox (L' := [(1400, Ob.smap b11 (kv20)), (1401, Ob.box b12 [.map (some b11)] 51), (2000, Ob.box b32 [.slice none 0 0] 25)]) 117 2100 rfl ⟨rfl, rfl, rfl, trivial⟩ rfl
 replace s := s.nilRow 800118 9 1 rfl
 replace s := s.add 119 (rdF Rep.str ([]) ([])) (RdAll.nil _ _ _)
 have hT := s.pk [(9100000, 1401), (9100100, 2000), (9200000, 1400), (9200100, 800118)] (by decide)
 replace hT := hT.al 9300000 106 rfl
 replace hT := hT.al 9300100 119 rfl
 replace hT := hT.al 9400000 101 rfl
 replace hT := hT.al 9400001 111 rfl
 replace hT := hT.al 9400002 117 rfl
 refine l_seq rfl (l_callMut (cap := [vP b12 0, vP b2 0, vP b34 0, vP b32 0]) hT _ [] (sbA (by rfl)) trivial (by rfl) rfl func26 rfl (by kernel_rfl) rfl rfl (c_module_Order_1 n _ _ (hT.restLt []) _ main_ (by omega) b12 wait_19 b11 (kv20) b2 l_ (Ap01) (cp01) b34 b32 [] (none) (0) ([]) (hT.wd.lendL _ _ _ (sbA (by rfl)) (keep_sub []) (by rfl) (sbA (by rfl))) r35 hr35) ?_); intro v38 a' w' hK hp hF
 obtain ⟨csm0_0u39, Am11u39, cm11u39, csm1_0u39, rfl, hWu39⟩ := hp
 have hS2 := St.mk hF (hT.wd.back (sbA (by rfl)) (keep_sub []) (by rfl) hWu39 (by rfl))
 clear s hT hF hWu39 hK; revert hS2; revert w'; revert a'; intro a w s
 replace s := s.al 120 9300000 rfl |>.al 121 9300100 rfl
 replace s := s.ren [(1400, Ob.smap b11 (csm0_0u39)), (1401, Ob.box b12 [.map (some b11)] 51), (2000, Ob.box b32 [sl Am11u39 r35.2 cm11u39] 25), (800118, Ob.row (Am11u39) ((r35.2).length) (cm11u39) 9 1 (csm1_0u39))] [9200000, 9100000, 9100100, 9200100] ⟨rfl, rfl, rfl, rfl, trivial⟩ (by decide)
 refine S s <| nw <| vw <| yw rfl (y_loadBox1 (kk := 2000) · rfl rfl rfl underlying25 rfl) <| aw rfl <| aw rfl <| nw fun a s => ?_
 apply wp_ret
 obtain rfl := Option.some.inj hg
 refine fin2 (fn := Tryz.f12) s rfl (r_tmp s rfl) (r_tmp s rfl) ?_
 exact ⟨(Am11u39), (cm11u39), rfl, (s.rowOut (R := Rep.str) (kk := 800118) rfl rfl (s.ft 121 rfl))⟩
set_option maxHeartbeats 1000000 in
theorem c_r01_Same (n : Nat) (M : Bs) (w0 : World) (hM : ∀ b, M b → b < w0.heap.size) (a_ : (List (List UInt8))) (Ap01 : Option Addr) (cp01 : Nat) (hp01 : sR Rep.str M w0 Ap01 cp01 a_) (b_ : (List (List UInt8))) (Ap11 : Option Addr) (cp11 : Nat) (hp11 : sR Rep.str M w0 Ap11 cp11 b_) (r : Bool) (hg : r01_Same n a_ b_ = some r) :
    Calls Tryz.prog 14 [sl Ap01 a_ cp01, sl Ap11 b_ cp11].toArray w0 (Ret noB w0 fun v w => v = .bool (r)) := by
 unfold r01_Same at hg
 refine enter M noB func14 rfl rfl hM ?_
 intro a s
 refine S s <| esw 101 hp01 <| esw 102 hp11 <| vw <| aw rfl <| nw <| sw <| vw <| mw rfl <| yw rfl (y_lenSlice · rfl underlying25) <| mw rfl <| yw rfl (y_lenSlice · rfl underlying25) <| yw rfl (y_neqN (i := ((a_).length)) (j := ((b_).length)) · rfl rfl) <| nw fun a s => c_dec s rfl (fun hc1 => ?_) (fun hc1 => ?_)
 ·replace hg := br_t hg hc1
  refine S s <| vw <| aw rfl <| nw fun a s => ?_
  apply wp_ret
  refine p_thenR ?_
  obtain rfl := Option.some.inj hg
  exact fin1 (fn := Tryz.f14) s rfl (r_tmp s rfl) rfl
 replace hg := br_f hg hc1
 refine S s <| kw <| pw <| sw <| vw <| aw rfl <| nw <| bw fun a s => ?_
 refine c_loop (σ := Nat) (fun m1 a w => ∃ (i_2 : Nat), r01_Same_L0 n a_ b_ m1 i_2 = some r ∧ St (cx f14 M w0) [(0, sl Ap01 a_ cp01), (1, sl Ap11 b_ cp11), (5, vI (((i_2 : Nat) : Int)))] [] [(101, sF Rep.str Ap01 cp01 a_), (102, sF Rep.str Ap11 cp11 b_)] a w) (fun m1 => m1) n ⟨(0), hg, (s.sb rfl rfl rfl)⟩ ?_
 clear s a; rintro m1 a w ⟨i_2, hg, s⟩
 rcases m1 with _ | m1
 ·rw [r01_Same_L0] at hg; cases hg
 rw [r01_Same_L0] at hg
 refine S s <| sw <| vw <| mw rfl <| mw rfl <| yw rfl (y_lenSlice · rfl underlying25) <| yw rfl (y_lssN (i := i_2) (j := ((a_).length)) · rfl rfl) <| nw fun a s => c_dec s rfl (fun hc3 => ?_) (fun hc3 => ?_)
 ·replace hg := br_t hg hc3
  have hmx4 := SlR.mx (s.ft 101 rfl)
  obtain ⟨x6, hx6, hg⟩ := bind_some hg
  obtain ⟨x9, hx9, hg⟩ := bind_some hg
  refine S s <| kw <| pw <| sw <| bw <| sw fun a s => ?_
  refine d_plan s [] [(0, some 0), (1, some 0), (2, some 0), (3, some 0), (4, some 0), (5, some 0), (6, some 0), (7, some 0), (8, some 0)] rfl (by kernel_rfl) (by kernel_rfl) rfl ?_; clear s; intro wr hZ s; have hR := s.wd
  refine S s <| qw hR rfl (y_move · rfl) <| qw hR rfl (y_move · rfl) fun a s => ?_
  obtain ⟨p11, hep11, hlq12, hmq12, csq12, hdq12, hcq12⟩ := SlR.elemX (s.ft 101 rfl) hx6
  refine qt s hR rfl (y_elem (sz := 1) (i := i_2) s rfl rfl underlying25 rfl hep11 rfl (lt_of_get hx6)) fun a s => ?_
  obtain ⟨rfl, lq121⟩ := hdq12
  refine S s <| qw hR rfl (y_ldp1 · rfl hlq12 hmq12 (hcq12 0 _ rfl) underlying9 rfl) <| qw hR rfl (y_move · rfl) <| qw hR rfl (y_move · rfl) fun a s => ?_
  obtain ⟨p13, hep13, hlq14, hmq14, csq14, hdq14, hcq14⟩ := SlR.elemX (s.ft 102 rfl) hx9
  refine qt s hR rfl (y_elem (sz := 1) (i := i_2) s rfl rfl underlying25 rfl hep13 rfl (lt_of_get hx9)) fun a s => ?_
  obtain ⟨rfl, lq141⟩ := hdq14
  refine S s <| qw hR rfl (y_ldp1 · rfl hlq14 hmq14 (hcq14 0 _ rfl) underlying9 rfl) <| qw hR rfl (y_sne · rfl rfl) fun a s => ?_
  clear hR hZ
  apply pN
  refine c_dec s rfl (fun hc15 => ?_) (fun hc15 => ?_)
  ·replace hg := br_t hg hc15
   refine S s <| vw <| aw rfl <| nw fun a s => ?_
   apply wp_ret
   refine p_inR ?_
   refine p_thenR ?_
   refine p_thenR ?_
   refine p_inR ?_
   refine p_thenR ?_
   obtain rfl := Option.some.inj hg
   exact fin1 (fn := Tryz.f14) s rfl (r_tmp s rfl) rfl
  replace hg := br_f hg hc15
  apply wp_skip
  refine p_inN ?_
  refine S s <| pw <| lw <| mw rfl <| yw rfl (y_addN (i := i_2) (j := 1) · rfl rfl (in64.2 (by omega))) <| aw rfl <| nw fun a s => ?_
  exact ⟨m1, Nat.lt_succ_self _, ⟨(i_2 + 1), hg, (s.sb rfl rfl rfl)⟩⟩
 replace hg := br_f hg hc3
 apply wp_exit
 refine p_then ?_
 refine p_then ?_
 refine p_in ?_
 refine S s <| pw <| vw <| aw rfl <| nw fun a s => ?_
 apply wp_ret
 obtain rfl := Option.some.inj hg
 exact fin1 (fn := Tryz.f14) s rfl (r_tmp s rfl) rfl
set_option maxHeartbeats 1000000 in
theorem c_hier_decl (n : Nat) (M : Bs) (w0 : World) (hM : ∀ b, M b → b < w0.heap.size) (name_ : (List UInt8)) (lp01 : (name_).length ≤ 9223372036854775807) (super_ : (List UInt8)) (lp11 : (super_).length ≤ 9223372036854775807) (feats_ : (List FeatDecl)) (Ap21 : Option Addr) (cp21 : Nat) (hp21 : sR RFeatDecl M w0 Ap21 cp21 feats_) (r : TypeDecl) (hg : hier_decl n name_ super_ feats_ = some r) :
    Calls Tryz.prog 57 [vT name_, vT super_, sl Ap21 feats_ cp21].toArray w0 (Ret noB w0 fun v w => ∃ (Aa2 : Option Addr), ∃ (ca2 : Nat), ∃ (Aa3 : Option Addr), ∃ (ca3 : Nat), v = .agg #[vT r.Name, sl Aa2 r.Supers ca2, sl Aa3 r.Feats ca3] ∧ ((r.Name).length ≤ 9223372036854775807) ∧ (SlR Rep.str M w Aa2 (r.Supers).length ca2 (r.Supers)) ∧ (SlR RFeatDecl M w Aa3 (r.Feats).length ca3 (r.Feats))) := by
 unfold hier_decl at hg
 refine enter M noB func57 rfl rfl hM ?_
 intro a s
 replace s := s.es 101 hp21
 apply wR
 refine l_seq rfl (l_alloc (zs := [vT ([]), .slice none 0 0, .slice none 0 0]) s 1000 rfl rfl rfl rfl fun b2 a w hb hK s => ?_)
 refine S s <| nw <| vw <| mw rfl <| mw rfl fun a s => ?_
 refine l_seq rfl (l_buildDense (sz := 1) s 1102 rfl rfl rfl underlying25 rfl rfl rfl rfl rfl rfl rfl fun b4 a w hbb4 hK s => ?_)
 clear hbb4
 refine mv s rfl rfl fun a s => ?_
 replace s := s.add 104 (rdF Rep.str (cellsOfL [vT super_]) ([super_])) (RdAll.cons (by exact ⟨rfl, (by omega)⟩) (RdAll.nil _ _ _))
 replace s := s.freeze (R := Rep.str) (kk := 1102) (L' := [(1000, Ob.box b2 [vT ([]), .slice none 0 0, .slice none 0 0] 49)]) 105 rfl rfl (s.ft 104 rfl) ⟨rfl, trivial⟩ rfl
 refine qq s rfl (y_build (parts := [(0, .tmp 7), (1, .tmp 9), (2, .tmp 10)]) (ps := [(0, vT name_), (1, .slice (some ⟨b4, 0, none⟩) (1) (1)), (2, sl Ap21 feats_ cp21)]) (cells := #[vT name_, .slice (some ⟨b4, 0, none⟩) (1) (1), sl Ap21 feats_ cp21]) s rfl (by kernel_rfl)) fun a s => ?_
 refine l_seq rfl (l_store (n := 3) (cs' := [vT name_, .slice (some ⟨b4, 0, none⟩) (1) (1), sl Ap21 feats_ cp21]) s 1000 rfl rfl rfl rfl rfl rfl rfl rfl ?_); clear s; intro w hK s; clear hK
 apply wN
 apply wp_ret
 obtain rfl := Option.some.inj hg
 refine fin1 (fn := Tryz.f57) s rfl (r_cell (kk := 1000) (n := 3) (vs := [vT name_, .slice (some ⟨b4, 0, none⟩) (1) (1), sl Ap21 feats_ cp21]) s rfl rfl underlying49 rfl rfl rfl rfl) ?_
 exact ⟨(some ⟨b4, 0, none⟩), (1), (Ap21), (cp21), rfl, (by omega), (s.out (k := 105) rfl), (s.out (k := 101) rfl)⟩
set_option maxHeartbeats 1000000 in
theorem c_hier_Prelude (n : Nat) (M : Bs) (w0 : World) (hM : ∀ b, M b → b < w0.heap.size)  (r : (List TypeDecl)) (hg : hier_Prelude n = some r) :
    Calls Tryz.prog 31 [].toArray w0 (Ret noB w0 fun v w => ∃ (Aa1 : Option Addr), ∃ (ca1 : Nat), v = sl Aa1 r ca1 ∧ (SlR RTypeDecl M w Aa1 (r).length ca1 (r))) := by
 unfold hier_Prelude at hg
 refine enter M noB func31 rfl rfl hM ?_
 intro a s
 obtain ⟨r1, hr1, hg⟩ := bind_some hg
 obtain ⟨r5, hr5, hg⟩ := bind_some hg
 obtain ⟨r8, hr8, hg⟩ := bind_some hg
 obtain ⟨r12, hr12, hg⟩ := bind_some hg
 obtain ⟨r15, hr15, hg⟩ := bind_some hg
 obtain ⟨r18, hr18, hg⟩ := bind_some hg
 obtain ⟨r21, hr21, hg⟩ := bind_some hg
 obtain ⟨r24, hr24, hg⟩ := bind_some hg
 obtain ⟨r28, hr28, hg⟩ := bind_some hg
 obtain ⟨r32, hr32, hg⟩ := bind_some hg
 obtain ⟨r36, hr36, hg⟩ := bind_some hg
 obtain ⟨r40, hr40, hg⟩ := bind_some hg
 refine S s <| vw <| aw rfl <| nw <| sw <| lw <| yw rfl (y_build (parts := [(0, .const (vT ([116, 111, 112])))]) (ps := [(0, vT ([116, 111, 112]))]) (cells := #[vT ([116, 111, 112]), .slice none 0 0, .slice none 0 0]) · rfl (by kernel_rfl)) fun a s => ?_
 refine lC s rfl func57 (c_hier_decl n _ _ s.lt _ (Nat.le_of_ble_eq_true (by rfl)) _ (Nat.le_of_ble_eq_true (by rfl)) [] (none) (0) (SlR.nil_ _ _ _) _ hr1) fun v44 a w hK hp s => ?_
 obtain ⟨Au45a2, cu45a2, Au45a3, cu45a3, rfl, lu45a1, hu45a2, hu45a3⟩ := hp
 refine S s <| nsw 137 hu45a2 <| nsw 138 hu45a3 <| yw rfl (y_build (parts := [(0, .const (vT ([70, 73, 82, 83, 84]))), (1, .const (vT ([116, 111, 112])))]) (ps := [(0, vT ([70, 73, 82, 83, 84])), (1, vT ([116, 111, 112]))]) (cells := #[vT ([70, 73, 82, 83, 84]), vT ([116, 111, 112])]) · rfl (by kernel_rfl)) <| yw rfl (y_build (parts := [(0, .const (vT ([82, 69, 83, 84]))), (1, .const (vT ([108, 105, 115, 116])))]) (ps := [(0, vT ([82, 69, 83, 84])), (1, vT ([108, 105, 115, 116]))]) (cells := #[vT ([82, 69, 83, 84]), vT ([108, 105, 115, 116])]) · rfl (by kernel_rfl)) fun a s => ?_
 refine l_seq rfl (l_buildDense (sz := 2) s 1104 rfl rfl rfl underlying47 rfl rfl rfl rfl rfl rfl rfl fun b46 a w hbb46 hK s => ?_)
 clear hbb46
 replace s := s.add 139 (rdF RFeatDecl (cellsOfL [.agg #[vT ([70, 73, 82, 83, 84]), vT ([116, 111, 112])], .agg #[vT ([82, 69, 83, 84]), vT ([108, 105, 115, 116])]]) ([(FeatDecl.mk [70, 73, 82, 83, 84] [116, 111, 112]), (FeatDecl.mk [82, 69, 83, 84] [108, 105, 115, 116])])) (RdAll.cons (by exact (RFeatDecl.mk' (x := (FeatDecl.mk [70, 73, 82, 83, 84] [116, 111, 112])) (Nat.le_of_ble_eq_true (by rfl)) (Nat.le_of_ble_eq_true (by rfl)))) (RdAll.cons (by exact (RFeatDecl.mk' (x := (FeatDecl.mk [82, 69, 83, 84] [108, 105, 115, 116])) (Nat.le_of_ble_eq_true (by rfl)) (Nat.le_of_ble_eq_true (by rfl)))) (RdAll.nil _ _ _)))
 replace s := s.freeze (R := RFeatDecl) (kk := 1104) (L' := []) 140 rfl rfl (s.ft 139 rfl) trivial rfl
 refine lC s rfl func57 (c_hier_decl n _ _ s.lt _ (Nat.le_of_ble_eq_true (by rfl)) _ (Nat.le_of_ble_eq_true (by rfl)) [(FeatDecl.mk [70, 73, 82, 83, 84] [116, 111, 112]), (FeatDecl.mk [82, 69, 83, 84] [108, 105, 115, 116])] (some ⟨b46, 0, none⟩) (2) (s.ft 140 rfl) _ hr5) fun v47 a w hK hp s => ?_
 obtain ⟨Au48a2, cu48a2, Au48a3, cu48a3, rfl, lu48a1, hu48a2, hu48a3⟩ := hp
 replace s := s.ns 141 hu48a2 |>.ns 142 hu48a3
 refine lC s rfl func57 (c_hier_decl n _ _ s.lt _ (Nat.le_of_ble_eq_true (by rfl)) _ (Nat.le_of_ble_eq_true (by rfl)) [] (none) (0) (SlR.nil_ _ _ _) _ hr8) fun v49 a w hK hp s => ?_
 obtain ⟨Au50a2, cu50a2, Au50a3, cu50a3, rfl, lu50a1, hu50a2, hu50a3⟩ := hp
 refine S s <| nsw 143 hu50a2 <| nsw 144 hu50a3 <| yw rfl (y_build (parts := [(0, .const (vT ([76, 73, 83, 84]))), (1, .const (vT ([108, 105, 115, 116])))]) (ps := [(0, vT ([76, 73, 83, 84])), (1, vT ([108, 105, 115, 116]))]) (cells := #[vT ([76, 73, 83, 84]), vT ([108, 105, 115, 116])]) · rfl (by kernel_rfl)) <| yw rfl (y_build (parts := [(0, .const (vT ([76, 65, 83, 84]))), (1, .const (vT ([108, 105, 115, 116])))]) (ps := [(0, vT ([76, 65, 83, 84])), (1, vT ([108, 105, 115, 116]))]) (cells := #[vT ([76, 65, 83, 84]), vT ([108, 105, 115, 116])]) · rfl (by kernel_rfl)) fun a s => ?_
 refine l_seq rfl (l_buildDense (sz := 2) s 1109 rfl rfl rfl underlying47 rfl rfl rfl rfl rfl rfl rfl fun b51 a w hbb51 hK s => ?_)
 clear hbb51
 replace s := s.add 145 (rdF RFeatDecl (cellsOfL [.agg #[vT ([76, 73, 83, 84]), vT ([108, 105, 115, 116])], .agg #[vT ([76, 65, 83, 84]), vT ([108, 105, 115, 116])]]) ([(FeatDecl.mk [76, 73, 83, 84] [108, 105, 115, 116]), (FeatDecl.mk [76, 65, 83, 84] [108, 105, 115, 116])])) (RdAll.cons (by exact (RFeatDecl.mk' (x := (FeatDecl.mk [76, 73, 83, 84] [108, 105, 115, 116])) (Nat.le_of_ble_eq_true (by rfl)) (Nat.le_of_ble_eq_true (by rfl)))) (RdAll.cons (by exact (RFeatDecl.mk' (x := (FeatDecl.mk [76, 65, 83, 84] [108, 105, 115, 116])) (Nat.le_of_ble_eq_true (by rfl)) (Nat.le_of_ble_eq_true (by rfl)))) (RdAll.nil _ _ _)))
 replace s := s.freeze (R := RFeatDecl) (kk := 1109) (L' := []) 146 rfl rfl (s.ft 145 rfl) trivial rfl
 refine lC s rfl func57 (c_hier_decl n _ _ s.lt _ (Nat.le_of_ble_eq_true (by rfl)) _ (Nat.le_of_ble_eq_true (by rfl)) [(FeatDecl.mk [76, 73, 83, 84] [108, 105, 115, 116]), (FeatDecl.mk [76, 65, 83, 84] [108, 105, 115, 116])] (some ⟨b51, 0, none⟩) (2) (s.ft 146 rfl) _ hr12) fun v52 a w hK hp s => ?_
 obtain ⟨Au53a2, cu53a2, Au53a3, cu53a3, rfl, lu53a1, hu53a2, hu53a3⟩ := hp
 replace s := s.ns 147 hu53a2 |>.ns 148 hu53a3
 refine lC s rfl func57 (c_hier_decl n _ _ s.lt _ (Nat.le_of_ble_eq_true (by rfl)) _ (Nat.le_of_ble_eq_true (by rfl)) [] (none) (0) (SlR.nil_ _ _ _) _ hr15) fun v54 a w hK hp s => ?_
 obtain ⟨Au55a2, cu55a2, Au55a3, cu55a3, rfl, lu55a1, hu55a2, hu55a3⟩ := hp
 replace s := s.ns 149 hu55a2 |>.ns 150 hu55a3
 refine lC s rfl func57 (c_hier_decl n _ _ s.lt _ (Nat.le_of_ble_eq_true (by rfl)) _ (Nat.le_of_ble_eq_true (by rfl)) [] (none) (0) (SlR.nil_ _ _ _) _ hr18) fun v56 a w hK hp s => ?_
 obtain ⟨Au57a2, cu57a2, Au57a3, cu57a3, rfl, lu57a1, hu57a2, hu57a3⟩ := hp
 replace s := s.ns 151 hu57a2 |>.ns 152 hu57a3
 refine lC s rfl func57 (c_hier_decl n _ _ s.lt _ (Nat.le_of_ble_eq_true (by rfl)) _ (Nat.le_of_ble_eq_true (by rfl)) [] (none) (0) (SlR.nil_ _ _ _) _ hr21) fun v58 a w hK hp s => ?_
 obtain ⟨Au59a2, cu59a2, Au59a3, cu59a3, rfl, lu59a1, hu59a2, hu59a3⟩ := hp
 replace s := s.ns 153 hu59a2 |>.ns 154 hu59a3
 refine lC s rfl func57 (c_hier_decl n _ _ s.lt _ (Nat.le_of_ble_eq_true (by rfl)) _ (Nat.le_of_ble_eq_true (by rfl)) [] (none) (0) (SlR.nil_ _ _ _) _ hr24) fun v60 a w hK hp s => ?_
 obtain ⟨Au61a2, cu61a2, Au61a3, cu61a3, rfl, lu61a1, hu61a2, hu61a3⟩ := hp
 refine S s <| nsw 155 hu61a2 <| nsw 156 hu61a3 <| yw rfl (y_build (parts := [(0, .const (vT ([76, 65, 66, 69, 76]))), (1, .const (vT ([104, 97, 110, 100, 108, 101])))]) (ps := [(0, vT ([76, 65, 66, 69, 76])), (1, vT ([104, 97, 110, 100, 108, 101]))]) (cells := #[vT ([76, 65, 66, 69, 76]), vT ([104, 97, 110, 100, 108, 101])]) · rfl (by kernel_rfl)) fun a s => ?_
 refine l_seq rfl (l_buildDense (sz := 2) s 1116 rfl rfl rfl underlying47 rfl rfl rfl rfl rfl rfl rfl fun b62 a w hbb62 hK s => ?_)
 clear hbb62
 replace s := s.add 157 (rdF RFeatDecl (cellsOfL [.agg #[vT ([76, 65, 66, 69, 76]), vT ([104, 97, 110, 100, 108, 101])]]) ([(FeatDecl.mk [76, 65, 66, 69, 76] [104, 97, 110, 100, 108, 101])])) (RdAll.cons (by exact (RFeatDecl.mk' (x := (FeatDecl.mk [76, 65, 66, 69, 76] [104, 97, 110, 100, 108, 101])) (Nat.le_of_ble_eq_true (by rfl)) (Nat.le_of_ble_eq_true (by rfl)))) (RdAll.nil _ _ _))
 replace s := s.freeze (R := RFeatDecl) (kk := 1116) (L' := []) 158 rfl rfl (s.ft 157 rfl) trivial rfl
 refine lC s rfl func57 (c_hier_decl n _ _ s.lt _ (Nat.le_of_ble_eq_true (by rfl)) _ (Nat.le_of_ble_eq_true (by rfl)) [(FeatDecl.mk [76, 65, 66, 69, 76] [104, 97, 110, 100, 108, 101])] (some ⟨b62, 0, none⟩) (1) (s.ft 158 rfl) _ hr28) fun v63 a w hK hp s => ?_
 obtain ⟨Au64a2, cu64a2, Au64a3, cu64a3, rfl, lu64a1, hu64a2, hu64a3⟩ := hp
 refine S s <| nsw 159 hu64a2 <| nsw 160 hu64a3 <| yw rfl (y_build (parts := [(0, .const (vT ([72, 73, 71, 72]))), (1, .const (vT ([104, 97, 110, 100, 108, 101])))]) (ps := [(0, vT ([72, 73, 71, 72])), (1, vT ([104, 97, 110, 100, 108, 101]))]) (cells := #[vT ([72, 73, 71, 72]), vT ([104, 97, 110, 100, 108, 101])]) · rfl (by kernel_rfl)) <| yw rfl (y_build (parts := [(0, .const (vT ([76, 79, 87]))), (1, .const (vT ([104, 97, 110, 100, 108, 101])))]) (ps := [(0, vT ([76, 79, 87])), (1, vT ([104, 97, 110, 100, 108, 101]))]) (cells := #[vT ([76, 79, 87]), vT ([104, 97, 110, 100, 108, 101])]) · rfl (by kernel_rfl)) fun a s => ?_
 refine l_seq rfl (l_buildDense (sz := 2) s 1120 rfl rfl rfl underlying47 rfl rfl rfl rfl rfl rfl rfl fun b65 a w hbb65 hK s => ?_)
 clear hbb65
 replace s := s.add 161 (rdF RFeatDecl (cellsOfL [.agg #[vT ([72, 73, 71, 72]), vT ([104, 97, 110, 100, 108, 101])], .agg #[vT ([76, 79, 87]), vT ([104, 97, 110, 100, 108, 101])]]) ([(FeatDecl.mk [72, 73, 71, 72] [104, 97, 110, 100, 108, 101]), (FeatDecl.mk [76, 79, 87] [104, 97, 110, 100, 108, 101])])) (RdAll.cons (by exact (RFeatDecl.mk' (x := (FeatDecl.mk [72, 73, 71, 72] [104, 97, 110, 100, 108, 101])) (Nat.le_of_ble_eq_true (by rfl)) (Nat.le_of_ble_eq_true (by rfl)))) (RdAll.cons (by exact (RFeatDecl.mk' (x := (FeatDecl.mk [76, 79, 87] [104, 97, 110, 100, 108, 101])) (Nat.le_of_ble_eq_true (by rfl)) (Nat.le_of_ble_eq_true (by rfl)))) (RdAll.nil _ _ _)))
 replace s := s.freeze (R := RFeatDecl) (kk := 1120) (L' := []) 162 rfl rfl (s.ft 161 rfl) trivial rfl
 refine lC s rfl func57 (c_hier_decl n _ _ s.lt _ (Nat.le_of_ble_eq_true (by rfl)) _ (Nat.le_of_ble_eq_true (by rfl)) [(FeatDecl.mk [72, 73, 71, 72] [104, 97, 110, 100, 108, 101]), (FeatDecl.mk [76, 79, 87] [104, 97, 110, 100, 108, 101])] (some ⟨b65, 0, none⟩) (2) (s.ft 162 rfl) _ hr32) fun v66 a w hK hp s => ?_
 obtain ⟨Au67a2, cu67a2, Au67a3, cu67a3, rfl, lu67a1, hu67a2, hu67a3⟩ := hp
 refine S s <| nsw 163 hu67a2 <| nsw 164 hu67a3 <| yw rfl (y_build (parts := [(0, .const (vT ([84, 79, 80]))), (1, .const (vT ([104, 97, 110, 100, 108, 101])))]) (ps := [(0, vT ([84, 79, 80])), (1, vT ([104, 97, 110, 100, 108, 101]))]) (cells := #[vT ([84, 79, 80]), vT ([104, 97, 110, 100, 108, 101])]) · rfl (by kernel_rfl)) <| yw rfl (y_build (parts := [(0, .const (vT ([73, 78, 68, 69, 88]))), (1, .const (vT ([105, 110, 100, 101, 120])))]) (ps := [(0, vT ([73, 78, 68, 69, 88])), (1, vT ([105, 110, 100, 101, 120]))]) (cells := #[vT ([73, 78, 68, 69, 88]), vT ([105, 110, 100, 101, 120])]) · rfl (by kernel_rfl)) <| yw rfl (y_build (parts := [(0, .const (vT ([82, 69, 76, 83]))), (1, .const (vT ([100, 108, 105, 115, 116])))]) (ps := [(0, vT ([82, 69, 76, 83])), (1, vT ([100, 108, 105, 115, 116]))]) (cells := #[vT ([82, 69, 76, 83]), vT ([100, 108, 105, 115, 116])]) · rfl (by kernel_rfl)) <| yw rfl (y_build (parts := [(0, .const (vT ([67, 79, 78, 83]))), (1, .const (vT ([100, 108, 105, 115, 116])))]) (ps := [(0, vT ([67, 79, 78, 83])), (1, vT ([100, 108, 105, 115, 116]))]) (cells := #[vT ([67, 79, 78, 83]), vT ([100, 108, 105, 115, 116])]) · rfl (by kernel_rfl)) fun a s => ?_
 refine l_seq rfl (l_buildDense (sz := 2) s 1126 rfl rfl rfl underlying47 rfl rfl rfl rfl rfl rfl rfl fun b68 a w hbb68 hK s => ?_)
 clear hbb68
 replace s := s.add 165 (rdF RFeatDecl (cellsOfL [.agg #[vT ([84, 79, 80]), vT ([104, 97, 110, 100, 108, 101])], .agg #[vT ([73, 78, 68, 69, 88]), vT ([105, 110, 100, 101, 120])], .agg #[vT ([82, 69, 76, 83]), vT ([100, 108, 105, 115, 116])], .agg #[vT ([67, 79, 78, 83]), vT ([100, 108, 105, 115, 116])]]) ([(FeatDecl.mk [84, 79, 80] [104, 97, 110, 100, 108, 101]), (FeatDecl.mk [73, 78, 68, 69, 88] [105, 110, 100, 101, 120]), (FeatDecl.mk [82, 69, 76, 83] [100, 108, 105, 115, 116]), (FeatDecl.mk [67, 79, 78, 83] [100, 108, 105, 115, 116])])) (RdAll.cons (by exact (RFeatDecl.mk' (x := (FeatDecl.mk [84, 79, 80] [104, 97, 110, 100, 108, 101])) (Nat.le_of_ble_eq_true (by rfl)) (Nat.le_of_ble_eq_true (by rfl)))) (RdAll.cons (by exact (RFeatDecl.mk' (x := (FeatDecl.mk [73, 78, 68, 69, 88] [105, 110, 100, 101, 120])) (Nat.le_of_ble_eq_true (by rfl)) (Nat.le_of_ble_eq_true (by rfl)))) (RdAll.cons (by exact (RFeatDecl.mk' (x := (FeatDecl.mk [82, 69, 76, 83] [100, 108, 105, 115, 116])) (Nat.le_of_ble_eq_true (by rfl)) (Nat.le_of_ble_eq_true (by rfl)))) (RdAll.cons (by exact (RFeatDecl.mk' (x := (FeatDecl.mk [67, 79, 78, 83] [100, 108, 105, 115, 116])) (Nat.le_of_ble_eq_true (by rfl)) (Nat.le_of_ble_eq_true (by rfl)))) (RdAll.nil _ _ _)))))
 replace s := s.freeze (R := RFeatDecl) (kk := 1126) (L' := []) 166 rfl rfl (s.ft 165 rfl) trivial rfl
 refine lC s rfl func57 (c_hier_decl n _ _ s.lt _ (Nat.le_of_ble_eq_true (by rfl)) _ (Nat.le_of_ble_eq_true (by rfl)) [(FeatDecl.mk [84, 79, 80] [104, 97, 110, 100, 108, 101]), (FeatDecl.mk [73, 78, 68, 69, 88] [105, 110, 100, 101, 120]), (FeatDecl.mk [82, 69, 76, 83] [100, 108, 105, 115, 116]), (FeatDecl.mk [67, 79, 78, 83] [100, 108, 105, 115, 116])] (some ⟨b68, 0, none⟩) (4) (s.ft 166 rfl) _ hr36) fun v69 a w hK hp s => ?_
 obtain ⟨Au70a2, cu70a2, Au70a3, cu70a3, rfl, lu70a1, hu70a2, hu70a3⟩ := hp
 refine S s <| nsw 167 hu70a2 <| nsw 168 hu70a3 <| yw rfl (y_build (parts := [(0, .const (vT ([83, 69, 77]))), (1, .const (vT ([115, 101, 109])))]) (ps := [(0, vT ([83, 69, 77])), (1, vT ([115, 101, 109]))]) (cells := #[vT ([83, 69, 77]), vT ([115, 101, 109])]) · rfl (by kernel_rfl)) <| yw rfl (y_build (parts := [(0, .const (vT ([65, 82, 71, 83]))), (1, .const (vT ([108, 105, 115, 116])))]) (ps := [(0, vT ([65, 82, 71, 83])), (1, vT ([108, 105, 115, 116]))]) (cells := #[vT ([65, 82, 71, 83]), vT ([108, 105, 115, 116])]) · rfl (by kernel_rfl)) fun a s => ?_
 refine l_seq rfl (l_buildDense (sz := 2) s 1130 rfl rfl rfl underlying47 rfl rfl rfl rfl rfl rfl rfl fun b71 a w hbb71 hK s => ?_)
 clear hbb71
 replace s := s.add 169 (rdF RFeatDecl (cellsOfL [.agg #[vT ([83, 69, 77]), vT ([115, 101, 109])], .agg #[vT ([65, 82, 71, 83]), vT ([108, 105, 115, 116])]]) ([(FeatDecl.mk [83, 69, 77] [115, 101, 109]), (FeatDecl.mk [65, 82, 71, 83] [108, 105, 115, 116])])) (RdAll.cons (by exact (RFeatDecl.mk' (x := (FeatDecl.mk [83, 69, 77] [115, 101, 109])) (Nat.le_of_ble_eq_true (by rfl)) (Nat.le_of_ble_eq_true (by rfl)))) (RdAll.cons (by exact (RFeatDecl.mk' (x := (FeatDecl.mk [65, 82, 71, 83] [108, 105, 115, 116])) (Nat.le_of_ble_eq_true (by rfl)) (Nat.le_of_ble_eq_true (by rfl)))) (RdAll.nil _ _ _)))
 replace s := s.freeze (R := RFeatDecl) (kk := 1130) (L' := []) 170 rfl rfl (s.ft 169 rfl) trivial rfl
 refine lC s rfl func57 (c_hier_decl n _ _ s.lt _ (Nat.le_of_ble_eq_true (by rfl)) _ (Nat.le_of_ble_eq_true (by rfl)) [(FeatDecl.mk [83, 69, 77] [115, 101, 109]), (FeatDecl.mk [65, 82, 71, 83] [108, 105, 115, 116])] (some ⟨b71, 0, none⟩) (2) (s.ft 170 rfl) _ hr40) fun v72 a w hK hp s => ?_
 obtain ⟨Au73a2, cu73a2, Au73a3, cu73a3, rfl, lu73a1, hu73a2, hu73a3⟩ := hp
 replace s := s.ns 171 hu73a2 |>.ns 172 hu73a3
 refine l_seq rfl (l_buildDense (sz := 3) s 1132 rfl rfl rfl underlying32 rfl rfl rfl rfl rfl rfl rfl fun b74 a w hbb74 hK s => ?_)
 clear hbb74
 refine S s <| aw rfl <| nw fun a s => ?_
 apply wp_ret
 obtain rfl := Option.some.inj hg
 refine fin1 (fn := Tryz.f31) s rfl (r_tmp s rfl) ?_
 replace s := s.add 173 (rdF RTypeDecl (cellsOfL [.agg #[vT ([116, 111, 112]), .slice none 0 0, .slice none 0 0], .agg #[vT r1.Name, sl Au45a2 r1.Supers cu45a2, sl Au45a3 r1.Feats cu45a3], .agg #[vT r5.Name, sl Au48a2 r5.Supers cu48a2, sl Au48a3 r5.Feats cu48a3], .agg #[vT r8.Name, sl Au50a2 r8.Supers cu50a2, sl Au50a3 r8.Feats cu50a3], .agg #[vT r12.Name, sl Au53a2 r12.Supers cu53a2, sl Au53a3 r12.Feats cu53a3], .agg #[vT r15.Name, sl Au55a2 r15.Supers cu55a2, sl Au55a3 r15.Feats cu55a3], .agg #[vT r18.Name, sl Au57a2 r18.Supers cu57a2, sl Au57a3 r18.Feats cu57a3], .agg #[vT r21.Name, sl Au59a2 r21.Supers cu59a2, sl Au59a3 r21.Feats cu59a3], .agg #[vT r24.Name, sl Au61a2 r24.Supers cu61a2, sl Au61a3 r24.Feats cu61a3], .agg #[vT r28.Name, sl Au64a2 r28.Supers cu64a2, sl Au64a3 r28.Feats cu64a3], .agg #[vT r32.Name, sl Au67a2 r32.Supers cu67a2, sl Au67a3 r32.Feats cu67a3], .agg #[vT r36.Name, sl Au70a2 r36.Supers cu70a2, sl Au70a3 r36.Feats cu70a3], .agg #[vT r40.Name, sl Au73a2 r40.Supers cu73a2, sl Au73a3 r40.Feats cu73a3]]) ([(TypeDecl.mk [116, 111, 112] [] []), r1, r5, r8, r12, r15, r18, r21, r24, r28, r32, r36, r40])) (RdAll.cons (by exact (RTypeDecl.mk' (x := (TypeDecl.mk [116, 111, 112] [] [])) (Nat.le_of_ble_eq_true (by rfl)) (SlR.nil_ _ _ _) (SlR.nil_ _ _ _))) (RdAll.cons (by exact (RTypeDecl.mk' (x := r1) (by omega) (s.ft 137 rfl) (s.ft 138 rfl))) (RdAll.cons (by exact (RTypeDecl.mk' (x := r5) (by omega) (s.ft 141 rfl) (s.ft 142 rfl))) (RdAll.cons (by exact (RTypeDecl.mk' (x := r8) (by omega) (s.ft 143 rfl) (s.ft 144 rfl))) (RdAll.cons (by exact (RTypeDecl.mk' (x := r12) (by omega) (s.ft 147 rfl) (s.ft 148 rfl))) (RdAll.cons (by exact (RTypeDecl.mk' (x := r15) (by omega) (s.ft 149 rfl) (s.ft 150 rfl))) (RdAll.cons (by exact (RTypeDecl.mk' (x := r18) (by omega) (s.ft 151 rfl) (s.ft 152 rfl))) (RdAll.cons (by exact (RTypeDecl.mk' (x := r21) (by omega) (s.ft 153 rfl) (s.ft 154 rfl))) (RdAll.cons (by exact (RTypeDecl.mk' (x := r24) (by omega) (s.ft 155 rfl) (s.ft 156 rfl))) (RdAll.cons (by exact (RTypeDecl.mk' (x := r28) (by omega) (s.ft 159 rfl) (s.ft 160 rfl))) (RdAll.cons (by exact (RTypeDecl.mk' (x := r32) (by omega) (s.ft 163 rfl) (s.ft 164 rfl))) (RdAll.cons (by exact (RTypeDecl.mk' (x := r36) (by omega) (s.ft 167 rfl) (s.ft 168 rfl))) (RdAll.cons (by exact (RTypeDecl.mk' (x := r40) (by omega) (s.ft 171 rfl) (s.ft 172 rfl))) (RdAll.nil _ _ _))))))))))))))
 exact ⟨(some ⟨b74, 0, none⟩), (13), rfl, (s.rowOut (R := RTypeDecl) (kk := 1132) rfl rfl (s.ft 173 rfl))⟩
set_option maxHeartbeats 1000000 in
theorem c_module_Visible (n : Nat) (M : Bs) (w0 : World) (hM : ∀ b, M b → b < w0.heap.size) (t_ : (List Module)) (Ap01 : Option Addr) (cp01 : Nat) (hp01 : sR RModule M w0 Ap01 cp01 t_) (t_' : (List UInt8)) (lp11 : (t_').length ≤ 9223372036854775807) (r : (List (List UInt8))) (hg : module_Visible n t_ t_' = some r) :
    Calls Tryz.prog 15 [sl Ap01 t_ cp01, vT t_'].toArray w0 (Ret noB w0 fun v w => ∃ (Aa1 : Option Addr), ∃ (ca1 : Nat), v = sl Aa1 r ca1 ∧ (SlR Rep.str M w Aa1 (r).length ca1 (r))) := by
 unfold module_Visible at hg
 refine enter M noB func15 rfl rfl hM ?_
 intro a s
 obtain ⟨r1, hr1, hg⟩ := bind_some hg
 refine S s <| esw 101 hp01 <| vw <| aw rfl <| nw <| vw <| aw rfl <| nw <| sw <| sw <| lw fun a s => ?_
 refine lC s rfl func31 (c_hier_Prelude n _ _ s.lt  _ hr1) fun v4 a w hK hp s => ?_
 obtain ⟨Au5a1, cu5a1, rfl, hu5a1⟩ := hp
 refine S s <| nsw 103 hu5a1 <| yw rfl (y_lenSlice · rfl underlying32) <| mw rfl <| nw fun a s => ?_
 obtain ⟨k6, hg, hk6⟩ := jn_some hg
 refine c_post (fun a w => ∃ (t_7 : (List (List UInt8))) (A8 : Option Addr) (c9 : Nat) (cs10 : List Value), k6 t_7 = some r ∧ St (cx f15 M w0) [(0, sl Ap01 t_ cp01), (1, vT (t_')), (5, sl A8 t_7 c9)] [(700104, Ob.row (A8) ((t_7).length) (c9) 9 1 (cs10))] [(101, sF RModule Ap01 cp01 t_), (105, rdF Rep.str (cs10) (t_7))] a w) ?_ ?_
 ·apply wp_block
  replace s := s.nilRow 700106 9 1 rfl
  replace s := s.add 107 (rdF Rep.str [] []) (RdAll.nil _ _ _)
  refine c_loop (σ := Nat) (fun m1 a w => ∃ (t_11 : (List (List UInt8))) (t_15 : Nat) (A12 : Option Addr) (c13 : Nat) (cs14 : List Value), module_Visible_L0 n r1 k6 m1 t_11 t_15 = some r ∧ St (cx f15 M w0) [(0, sl Ap01 t_ cp01), (1, vT (t_')), (5, sl A12 t_11 c13), (16, sl Au5a1 r1 cu5a1), (17, vI ((((r1).length : Nat) : Int))), (18, vI (((t_15 : Nat) : Int)))] [(700106, Ob.row (A12) ((t_11).length) (c13) 9 1 (cs14))] [(101, sF RModule Ap01 cp01 t_), (103, sF RTypeDecl Au5a1 cu5a1 r1), (107, rdF Rep.str (cs14) (t_11))] a w) (fun m1 => m1) n ⟨([]), (0), (none), (0), ([]), hg, (s.sb rfl rfl rfl)⟩ ?_
  clear s a; rintro m1 a w ⟨t_11, t_15, A12, c13, cs14, hg, s⟩
  rcases m1 with _ | m1
  ·rw [module_Visible_L0] at hg; cases hg
  rw [module_Visible_L0] at hg
  refine S s <| vw <| yw rfl (y_lssN (i := t_15) (j := ((r1).length)) · rfl rfl) <| nw <| sw fun a s => c_dec s rfl (fun hc16 => ?_) (fun hc16 => ?_)
  ·replace hg := br_t hg hc16
   have hmx17 := SlR.mx (s.ft 103 rfl)
   obtain ⟨x19, hx19, hg⟩ := bind_some hg
   refine S s <| kw <| pw <| sw <| bw <| sw <| lw fun a s => ?_
   obtain ⟨p22, hep22, hlq23, hmq23, csq23, hdq23, hcq23⟩ := SlR.elemX (s.ft 103 rfl) hx19
   refine qq s rfl (y_elem (sz := 3) (i := t_15) s rfl rfl underlying32 rfl hep22 rfl (lt_of_get hx19)) fun a s => ?_
   obtain ⟨Aq232, cq232, Aq233, cq233, rfl, lq231, hq232, hq233⟩ := RTypeDecl.open hdq23
   refine S s <| nsw 110 hq232 <| nsw 111 hq233 <| yw rfl (y_ldp · rfl hlq23 hmq23 (by simpa using hcq23) underlying49 rfl rfl) fun a s => ?_
   refine l_seq rfl (l_alloc (zs := [vT ([]), .slice none 0 0, .slice none 0 0]) s 1402 rfl rfl rfl rfl fun b24 a w hb hK s => ?_)
   refine l_seq rfl (l_store (n := 3) (cs' := [vT x19.Name, sl Aq232 x19.Supers cq232, sl Aq233 x19.Feats cq233]) s 1402 rfl rfl rfl rfl rfl rfl rfl rfl ?_); clear s; intro w hK s; clear hK
   obtain ⟨hk26, hg⟩ := chk_some hg
   refine S s <| nw <| lw <| mw rfl <| yw rfl (y_boxField (o' := 0) · rfl underlying49 rfl rfl rfl) <| yw rfl (y_loadBox1 (kk := 1402) · rfl rfl rfl underlying9 rfl) fun a s => ?_
   refine l_seq rfl (l_buildDense (sz := 1) s 1503 rfl rfl rfl underlying25 rfl rfl rfl rfl rfl rfl rfl fun b29 a w hbb29 hK s => ?_)
   clear hbb29
   replace s := s.add 114 (rdF Rep.str (cellsOfL [vT x19.Name]) ([x19.Name])) (RdAll.cons (by exact ⟨rfl, (by omega)⟩) (RdAll.nil _ _ _))
   have hs31 := row_src (s.wd.holds 1503 _ rfl) (RdAll.one (s.ft 114 rfl))
   refine l_seq rfl (l_append (sz := 1) (by_ := 16) (N := (t_11 ++ [x19.Name]).length) s 700106 rfl rfl rfl underlying25 rfl rfl rfl rfl rfl hs31 (by rw [List.length_append]; try rfl) rfl (rmA hk26 rfl) (rmB hk26) rfl fun Aq30 cq30 a w hA hK s => ?_)
   replace s := s.add 115 (rdF Rep.str (cs14 ++ (cellsOfL [vT x19.Name])) (t_11 ++ [x19.Name])) (RdAll.append (s.ft 107 rfl) (s.ft 114 rfl))
   refine asg s rfl rfl fun a s => ?_
   apply wO
   refine p_inN ?_
   refine S s <| pw <| lw <| yw rfl (y_addN (i := t_15) (j := 1) · rfl rfl (in64.2 (by omega))) <| mw rfl <| nw <| alw 107 115 rfl fun a s => ?_
   exact ⟨m1, Nat.lt_succ_self _, ⟨(t_11 ++ [x19.Name]), (t_15 + 1), (Aq30), (cq30), (cs14 ++ (cellsOfL [vT x19.Name])), hg, (s.sb rfl rfl rfl)⟩⟩
  replace hg := br_f hg hc16
  apply wp_exit
  refine p_then ?_
  refine p_then ?_
  refine p_in ?_
  apply pN
  replace s := s.al 105 107 rfl
  replace s := s.pk [(700104, 700106)] (by decide)
  exact ⟨(t_11), (A12), (c13), (cs14), hg, (s.sb rfl rfl rfl)⟩
 clear s a; rintro a w ⟨t_7, A8, c9, cs10, hg, s⟩
 subst hk6
 obtain ⟨r32, hr32, hg⟩ := bind_some hg
 refine S s <| sw <| sw <| lw <| mw rfl <| mw rfl fun a s => ?_
 refine lC s rfl func25 (c_module_needs n _ _ s.lt _ _ _ (s.ft 101 rfl) _ (by omega) _ hr32) fun v35 a w hK hp s => ?_
 obtain ⟨Au36a1, cu36a1, rfl, hu36a1⟩ := hp
 refine S s <| nsw 117 hu36a1 <| yw rfl (y_lenSlice · rfl underlying25) <| mw rfl <| nw fun a s => ?_
 obtain ⟨k37, hg, hk37⟩ := jn_some hg
 refine c_post (fun a w => ∃ (t_38 : (List (List UInt8))) (A39 : Option Addr) (c40 : Nat) (cs41 : List Value), k37 t_38 = some r ∧ St (cx f15 M w0) [(5, sl A39 t_38 c40)] [(700118, Ob.row (A39) ((t_38).length) (c40) 9 1 (cs41))] [(119, rdF Rep.str (cs41) (t_38))] a w) ?_ ?_
 ·apply wp_block
  replace s := s.al 121 105 rfl
  replace s := s.pk [(700120, 700104)] (by decide)
  refine c_loop (σ := Nat) (fun m2 a w => ∃ (t_42 : (List (List UInt8))) (t_46 : Nat) (A43 : Option Addr) (c44 : Nat) (cs45 : List Value), module_Visible_L1 n t_ r32 k37 m2 t_42 t_46 = some r ∧ St (cx f15 M w0) [(0, sl Ap01 t_ cp01), (5, sl A43 t_42 c44), (30, sl Au36a1 r32 cu36a1), (31, vI ((((r32).length : Nat) : Int))), (32, vI (((t_46 : Nat) : Int)))] [(700120, Ob.row (A43) ((t_42).length) (c44) 9 1 (cs45))] [(101, sF RModule Ap01 cp01 t_), (117, sF Rep.str Au36a1 cu36a1 r32), (121, rdF Rep.str (cs45) (t_42))] a w) (fun m2 => m2) n ⟨(t_7), (0), (A8), (c9), (cs10), hg, (s.sb rfl rfl rfl)⟩ ?_
  clear s a; rintro m2 a w ⟨t_42, t_46, A43, c44, cs45, hg, s⟩
  rcases m2 with _ | m2
  ·rw [module_Visible_L1] at hg; cases hg
  rw [module_Visible_L1] at hg
  refine S s <| vw <| yw rfl (y_lssN (i := t_46) (j := ((r32).length)) · rfl rfl) <| nw <| sw fun a s => c_dec s rfl (fun hc47 => ?_) (fun hc47 => ?_)
  ·replace hg := br_t hg hc47
   have hmx48 := SlR.mx (s.ft 117 rfl)
   apply wp_skip
   apply pN
   apply wQ
   obtain ⟨k49, hg, hk49⟩ := jn_some hg
   refine c_post (fun a w => ∃ (t_50 : (List (List UInt8))) (A51 : Option Addr) (c52 : Nat) (cs53 : List Value), k49 t_50 = some r ∧ St (cx f15 M w0) [(0, sl Ap01 t_ cp01), (5, sl A51 t_50 c52), (30, sl Au36a1 r32 cu36a1), (31, vI ((((r32).length : Nat) : Int))), (32, vI (((t_46 : Nat) : Int)))] [(700122, Ob.row (A51) ((t_50).length) (c52) 9 1 (cs53))] [(101, sF RModule Ap01 cp01 t_), (117, sF Rep.str Au36a1 cu36a1 r32), (123, rdF Rep.str (cs53) (t_50))] a w) ?_ ?_
   ·obtain ⟨x55, hx55, hg⟩ := bind_some hg
    apply wp_block
    apply wQ
    apply wL
    obtain ⟨p57, hep57, hlq58, hmq58, csq58, hdq58, hcq58⟩ := SlR.elemX (s.ft 117 rfl) hx55
    refine qq s rfl (y_elem (sz := 1) (i := t_46) s rfl rfl underlying25 rfl hep57 rfl (lt_of_get hx55)) fun a s => ?_
    obtain ⟨rfl, lq581⟩ := hdq58
    obtain ⟨r59, hr59, hg⟩ := bind_some hg
    refine S s <| yw rfl (y_ldp1 · rfl hlq58 hmq58 (hcq58 0 _ rfl) underlying9 rfl) <| aw rfl <| nw <| sw <| lw <| mw rfl <| mw rfl fun a s => ?_
    refine lC s rfl func27 (c_module_find n _ _ s.lt _ _ _ (s.ft 101 rfl) _ (by omega) _ hr59) fun v63 a w hK hp s => ?_
    obtain ⟨Au64a2, cu64a2, Au64a3, cu64a3, Au64a4, cu64a4, Au64a5, cu64a5, Au64a6, cu64a6, Au64a7, cu64a7, Au64a8, cu64a8, Au64a9, cu64a9, Au64a10, cu64a10, rfl, lu64a1, hu64a2, hu64a3, hu64a4, hu64a5, hu64a6, hu64a7, hu64a8, hu64a9, hu64a10⟩ := hp
    refine S s <| nsw 133 hu64a2 <| nsw 134 hu64a3 <| nsw 135 hu64a4 <| nsw 136 hu64a5 <| nsw 137 hu64a6 <| nsw 138 hu64a7 <| nsw 139 hu64a8 <| nsw 140 hu64a9 <| nsw 141 hu64a10 <| mw rfl <| yw rfl (y_extract · rfl rfl) <| yw rfl (y_extract · rfl rfl) fun a s => ?_
    refine l_seq rfl (l_alloc (zs := [vT ([]), .slice none 0 0, .slice none 0 0, .slice none 0 0, .slice none 0 0, .slice none 0 0, .slice none 0 0, .slice none 0 0, .slice none 0 0, .slice none 0 0]) s 2006 rfl rfl rfl rfl fun b65 a w hb hK s => ?_)
    refine l_seq rfl (l_store (n := 10) (cs' := [vT r59.1.Name, sl Au64a2 r59.1.Imports cu64a2, sl Au64a3 r59.1.Types cu64a3, sl Au64a4 r59.1.Templates cu64a4, sl Au64a5 r59.1.Entries cu64a5, sl Au64a6 r59.1.LexRules cu64a6, sl Au64a7 r59.1.Rules cu64a7, sl Au64a8 r59.1.Roots cu64a8, sl Au64a9 r59.1.Checks cu64a9, sl Au64a10 r59.1.Drops cu64a10]) s 2006 rfl rfl rfl rfl rfl rfl rfl rfl ?_); clear s; intro w hK s; clear hK
    refine S s <| aw rfl <| nw <| sw <| vw <| yw rfl (y_boxField (o' := 2) · rfl underlying38 rfl rfl rfl) <| yw rfl (y_loadBox1 (kk := 2006) · rfl rfl rfl underlying32 rfl) <| yw rfl (y_lenSlice · rfl underlying32) <| mw rfl <| nw fun a s => ?_
    obtain ⟨k66, hg, hk66⟩ := jn_some hg
    refine c_post (fun a w => ∃ (t_67 : (List (List UInt8))) (A68 : Option Addr) (c69 : Nat) (cs70 : List Value), k66 t_67 = some r ∧ St (cx f15 M w0) [(0, sl Ap01 t_ cp01), (5, sl A68 t_67 c69), (10, vP b65 0), (30, sl Au36a1 r32 cu36a1), (31, vI ((((r32).length : Nat) : Int))), (32, vI (((t_46 : Nat) : Int)))] [(2006, Ob.box b65 [vT r59.1.Name, sl Au64a2 r59.1.Imports cu64a2, sl Au64a3 r59.1.Types cu64a3, sl Au64a4 r59.1.Templates cu64a4, sl Au64a5 r59.1.Entries cu64a5, sl Au64a6 r59.1.LexRules cu64a6, sl Au64a7 r59.1.Rules cu64a7, sl Au64a8 r59.1.Roots cu64a8, sl Au64a9 r59.1.Checks cu64a9, sl Au64a10 r59.1.Drops cu64a10] 38), (700142, Ob.row (A68) ((t_67).length) (c69) 9 1 (cs70))] [(101, sF RModule Ap01 cp01 t_), (117, sF Rep.str Au36a1 cu36a1 r32), (133, sF Rep.str Au64a2 cu64a2 r59.1.Imports), (134, sF RTypeDecl Au64a3 cu64a3 r59.1.Types), (135, sF RDef Au64a4 cu64a4 r59.1.Templates), (136, sF REntryDecl Au64a5 cu64a5 r59.1.Entries), (137, sF RLexDecl Au64a6 cu64a6 r59.1.LexRules), (138, sF RDef Au64a7 cu64a7 r59.1.Rules), (139, sF RDef Au64a8 cu64a8 r59.1.Roots), (140, sF (Rep.list Rep.str) Au64a9 cu64a9 r59.1.Checks), (141, sF Rep.str Au64a10 cu64a10 r59.1.Drops), (143, rdF Rep.str (cs70) (t_67))] a w) ?_ ?_
    ·apply wp_block
     replace s := s.al 145 121 rfl
     replace s := s.pk [(2006, 2006), (700144, 700120)] (by decide)
     refine c_loop (σ := Nat) (fun m3 a w => ∃ (t_71 : (List (List UInt8))) (t_75 : Nat) (A72 : Option Addr) (c73 : Nat) (cs74 : List Value), module_Visible_L2 n r59 k66 m3 t_71 t_75 = some r ∧ St (cx f15 M w0) [(0, sl Ap01 t_ cp01), (5, sl A72 t_71 c73), (10, vP b65 0), (30, sl Au36a1 r32 cu36a1), (31, vI ((((r32).length : Nat) : Int))), (32, vI (((t_46 : Nat) : Int))), (43, sl Au64a3 r59.1.Types cu64a3), (44, vI ((((r59.1.Types).length : Nat) : Int))), (45, vI (((t_75 : Nat) : Int)))] [(2006, Ob.box b65 [vT r59.1.Name, sl Au64a2 r59.1.Imports cu64a2, sl Au64a3 r59.1.Types cu64a3, sl Au64a4 r59.1.Templates cu64a4, sl Au64a5 r59.1.Entries cu64a5, sl Au64a6 r59.1.LexRules cu64a6, sl Au64a7 r59.1.Rules cu64a7, sl Au64a8 r59.1.Roots cu64a8, sl Au64a9 r59.1.Checks cu64a9, sl Au64a10 r59.1.Drops cu64a10] 38), (700144, Ob.row (A72) ((t_71).length) (c73) 9 1 (cs74))] [(101, sF RModule Ap01 cp01 t_), (117, sF Rep.str Au36a1 cu36a1 r32), (133, sF Rep.str Au64a2 cu64a2 r59.1.Imports), (134, sF RTypeDecl Au64a3 cu64a3 r59.1.Types), (135, sF RDef Au64a4 cu64a4 r59.1.Templates), (136, sF REntryDecl Au64a5 cu64a5 r59.1.Entries), (137, sF RLexDecl Au64a6 cu64a6 r59.1.LexRules), (138, sF RDef Au64a7 cu64a7 r59.1.Rules), (139, sF RDef Au64a8 cu64a8 r59.1.Roots), (140, sF (Rep.list Rep.str) Au64a9 cu64a9 r59.1.Checks), (141, sF Rep.str Au64a10 cu64a10 r59.1.Drops), (145, rdF Rep.str (cs74) (t_71))] a w) (fun m3 => m3) n ⟨(t_42), (0), (A43), (c44), (cs45), hg, (s.sb rfl rfl rfl)⟩ ?_
     clear s a; rintro m3 a w ⟨t_71, t_75, A72, c73, cs74, hg, s⟩
     rcases m3 with _ | m3
     ·rw [module_Visible_L2] at hg; cases hg
     rw [module_Visible_L2] at hg
     refine S s <| vw <| yw rfl (y_lssN (i := t_75) (j := ((r59.1.Types).length)) · rfl rfl) <| nw <| sw fun a s => c_dec s rfl (fun hc76 => ?_) (fun hc76 => ?_)
     ·replace hg := br_t hg hc76
      have hmx77 := SlR.mx (s.ft 134 rfl)
      obtain ⟨x79, hx79, hg⟩ := bind_some hg
      refine S s <| kw <| pw <| sw <| bw <| sw <| lw fun a s => ?_
      obtain ⟨p82, hep82, hlq83, hmq83, csq83, hdq83, hcq83⟩ := SlR.elemX (s.ft 134 rfl) hx79
      refine qq s rfl (y_elem (sz := 3) (i := t_75) s rfl rfl underlying32 rfl hep82 rfl (lt_of_get hx79)) fun a s => ?_
      obtain ⟨Aq832, cq832, Aq833, cq833, rfl, lq831, hq832, hq833⟩ := RTypeDecl.open hdq83
      refine S s <| nsw 148 hq832 <| nsw 149 hq833 <| yw rfl (y_ldp · rfl hlq83 hmq83 (by simpa using hcq83) underlying49 rfl rfl) fun a s => ?_
      refine l_seq rfl (l_alloc (zs := [vT ([]), .slice none 0 0, .slice none 0 0]) s 2302 rfl rfl rfl rfl fun b84 a w hb hK s => ?_)
      refine l_seq rfl (l_store (n := 3) (cs' := [vT x79.Name, sl Aq832 x79.Supers cq832, sl Aq833 x79.Feats cq833]) s 2302 rfl rfl rfl rfl rfl rfl rfl rfl ?_); clear s; intro w hK s; clear hK
      obtain ⟨hk86, hg⟩ := chk_some hg
      refine S s <| nw <| lw <| mw rfl <| yw rfl (y_boxField (o' := 0) · rfl underlying49 rfl rfl rfl) <| yw rfl (y_loadBox1 (kk := 2302) · rfl rfl rfl underlying9 rfl) fun a s => ?_
      refine l_seq rfl (l_buildDense (sz := 1) s 2403 rfl rfl rfl underlying25 rfl rfl rfl rfl rfl rfl rfl fun b89 a w hbb89 hK s => ?_)
      clear hbb89
      replace s := s.add 152 (rdF Rep.str (cellsOfL [vT x79.Name]) ([x79.Name])) (RdAll.cons (by exact ⟨rfl, (by omega)⟩) (RdAll.nil _ _ _))
      have hs91 := row_src (s.wd.holds 2403 _ rfl) (RdAll.one (s.ft 152 rfl))
      refine l_seq rfl (l_append (sz := 1) (by_ := 16) (N := (t_71 ++ [x79.Name]).length) s 700144 rfl rfl rfl underlying25 rfl rfl rfl rfl rfl hs91 (by rw [List.length_append]; try rfl) rfl (rmA hk86 rfl) (rmB hk86) rfl fun Aq90 cq90 a w hA hK s => ?_)
      replace s := s.add 153 (rdF Rep.str (cs74 ++ (cellsOfL [vT x79.Name])) (t_71 ++ [x79.Name])) (RdAll.append (s.ft 145 rfl) (s.ft 152 rfl))
      refine asg s rfl rfl fun a s => ?_
      apply wO
      refine p_inN ?_
      refine S s <| pw <| lw <| yw rfl (y_addN (i := t_75) (j := 1) · rfl rfl (in64.2 (by omega))) <| mw rfl <| nw <| alw 145 153 rfl fun a s => ?_
      exact ⟨m3, Nat.lt_succ_self _, ⟨(t_71 ++ [x79.Name]), (t_75 + 1), (Aq90), (cq90), (cs74 ++ (cellsOfL [vT x79.Name])), hg, (s.sb rfl rfl rfl)⟩⟩
     replace hg := br_f hg hc76
     apply wp_exit
     refine p_then ?_
     refine p_then ?_
     refine p_in ?_
     apply pN
     replace s := s.al 143 145 rfl
     replace s := s.pk [(2006, 2006), (700142, 700144)] (by decide)
     exact ⟨(t_71), (A72), (c73), (cs74), hg, (s.sb rfl rfl rfl)⟩
    clear s a; rintro a w ⟨t_67, A68, c69, cs70, hg, s⟩
    subst hk66
    refine S s <| vw <| yw rfl (y_boxField (o' := 3) · rfl underlying38 rfl rfl rfl) <| yw rfl (y_loadBox1 (kk := 2006) · rfl rfl rfl underlying33 rfl) <| yw rfl (y_lenSlice · rfl underlying33) <| mw rfl <| nw <| bw <| alw 155 143 rfl fun a s => ?_
    replace s := s.pk [(2006, 2006), (700154, 700142)] (by decide)
    refine c_loop (σ := Nat) (fun m4 a w => ∃ (t_92 : (List (List UInt8))) (t_96 : Nat) (A93 : Option Addr) (c94 : Nat) (cs95 : List Value), module_Visible_L3 n k49 r59 m4 t_92 t_96 = some r ∧ St (cx f15 M w0) [(0, sl Ap01 t_ cp01), (5, sl A93 t_92 c94), (30, sl Au36a1 r32 cu36a1), (31, vI ((((r32).length : Nat) : Int))), (32, vI (((t_46 : Nat) : Int))), (56, sl Au64a4 r59.1.Templates cu64a4), (57, vI ((((r59.1.Templates).length : Nat) : Int))), (58, vI (((t_96 : Nat) : Int)))] [(700154, Ob.row (A93) ((t_92).length) (c94) 9 1 (cs95))] [(101, sF RModule Ap01 cp01 t_), (117, sF Rep.str Au36a1 cu36a1 r32), (135, sF RDef Au64a4 cu64a4 r59.1.Templates), (155, rdF Rep.str (cs95) (t_92))] a w) (fun m4 => m4) n ⟨(t_67), (0), (A68), (c69), (cs70), hg, (s.sb rfl rfl rfl)⟩ ?_
    clear s a; rintro m4 a w ⟨t_92, t_96, A93, c94, cs95, hg, s⟩
    rcases m4 with _ | m4
    ·rw [module_Visible_L3] at hg; cases hg
    rw [module_Visible_L3] at hg
    refine S s <| vw <| yw rfl (y_lssN (i := t_96) (j := ((r59.1.Templates).length)) · rfl rfl) <| nw <| sw fun a s => c_dec s rfl (fun hc97 => ?_) (fun hc97 => ?_)
    ·replace hg := br_t hg hc97
     have hmx98 := SlR.mx (s.ft 135 rfl)
     obtain ⟨x100, hx100, hg⟩ := bind_some hg
     refine S s <| kw <| pw <| sw <| bw <| sw <| lw fun a s => ?_
     obtain ⟨p103, hep103, hlq104, hmq104, csq104, hdq104, hcq104⟩ := SlR.elemX (s.ft 135 rfl) hx100
     refine qq s rfl (y_elem (sz := 6) (i := t_96) s rfl rfl underlying33 rfl hep103 rfl (lt_of_get hx100)) fun a s => ?_
     obtain ⟨Aq1044, cq1044, Aq1045, cq1045, Aq1046, cq1046, rfl, lq1041, lq1043, hq1044, hq1045, hq1046⟩ := RDef.open hdq104
     refine S s <| nsw 159 hq1044 <| nsw 160 hq1045 <| nsw 161 hq1046 <| yw rfl (y_ldp · rfl hlq104 hmq104 (by simpa using hcq104) underlying62 rfl rfl) fun a s => ?_
     refine l_seq rfl (l_alloc (zs := [vT ([]), vI 0, vT ([]), .slice none 0 0, .slice none 0 0, .slice none 0 0]) s 2802 rfl rfl rfl rfl fun b105 a w hb hK s => ?_)
     refine l_seq rfl (l_store (n := 6) (cs' := [vT x100.Name, vI x100.Strict.Op, vT x100.Strict.Name, sl Aq1044 x100.Strict.Path cq1044, sl Aq1045 x100.Strict.Kids cq1045, sl Aq1046 x100.Defaults cq1046]) s 2802 rfl rfl rfl rfl rfl rfl rfl rfl ?_); clear s; intro w hK s; clear hK
     obtain ⟨hk106, hg⟩ := chk_some hg
     obtain ⟨hk108, hg⟩ := chk_some hg
     refine S s <| nw <| lw <| mw rfl <| yw rfl (y_boxField (o' := 0) · rfl underlying62 rfl rfl rfl) <| yw rfl (y_loadBox1 (kk := 2802) · rfl rfl rfl underlying9 rfl) <| yw rfl (y_concat · rfl rfl hk106) fun a s => ?_
     refine l_seq rfl (l_buildDense (sz := 1) s 2904 rfl rfl rfl underlying25 rfl rfl rfl rfl rfl rfl rfl fun b111 a w hbb111 hK s => ?_)
     clear hbb111
     replace s := s.add 164 (rdF Rep.str (cellsOfL [vT ([64] ++ x100.Name)]) ([[64] ++ x100.Name])) (RdAll.cons (by exact ⟨rfl, (by rw [List.length_append]; omega)⟩) (RdAll.nil _ _ _))
     have hs113 := row_src (s.wd.holds 2904 _ rfl) (RdAll.one (s.ft 164 rfl))
     refine l_seq rfl (l_append (sz := 1) (by_ := 16) (N := (t_92 ++ [[64] ++ x100.Name]).length) s 700154 rfl rfl rfl underlying25 rfl rfl rfl rfl rfl hs113 (by simp only [List.length_append]; try rfl) rfl (rmA hk108 rfl) (rmB hk108) rfl fun Aq112 cq112 a w hA hK s => ?_)
     replace s := s.add 165 (rdF Rep.str (cs95 ++ (cellsOfL [vT ([64] ++ x100.Name)])) (t_92 ++ [[64] ++ x100.Name])) (RdAll.append (s.ft 155 rfl) (s.ft 164 rfl))
     refine asg s rfl rfl fun a s => ?_
     apply wO
     refine p_inN ?_
     refine S s <| pw <| lw <| yw rfl (y_addN (i := t_96) (j := 1) · rfl rfl (in64.2 (by omega))) <| mw rfl <| nw <| alw 155 165 rfl fun a s => ?_
     exact ⟨m4, Nat.lt_succ_self _, ⟨(t_92 ++ [[64] ++ x100.Name]), (t_96 + 1), (Aq112), (cq112), (cs95 ++ (cellsOfL [vT ([64] ++ x100.Name)])), hg, (s.sb rfl rfl rfl)⟩⟩
    replace hg := br_f hg hc97
    apply wp_exit
    refine p_then ?_
    refine p_then ?_
    refine p_in ?_
    refine p_inN ?_
    apply pN
    replace s := s.al 123 155 rfl
    replace s := s.pk [(700122, 700154)] (by decide)
    exact ⟨(t_92), (A93), (c94), (cs95), hg, (s.sb rfl rfl rfl)⟩
   clear s a; rintro a w ⟨t_50, A51, c52, cs53, hg, s⟩
   subst hk49
   refine S s <| lw <| yw rfl (y_addN (i := t_46) (j := 1) · rfl rfl (in64.2 (by omega))) <| mw rfl <| nw <| alw 121 123 rfl fun a s => ?_
   replace s := s.pk [(700120, 700122)] (by decide)
   exact ⟨m2, Nat.lt_succ_self _, ⟨(t_50), (t_46 + 1), (A51), (c52), (cs53), hg, (s.sb rfl rfl rfl)⟩⟩
  replace hg := br_f hg hc47
  apply wp_exit
  refine p_then ?_
  refine p_then ?_
  refine p_in ?_
  apply pN
  replace s := s.al 119 121 rfl
  replace s := s.pk [(700118, 700120)] (by decide)
  exact ⟨(t_42), (A43), (c44), (cs45), hg, (s.sb rfl rfl rfl)⟩
 clear s a; rintro a w ⟨t_38, A39, c40, cs41, hg, s⟩
 subst hk37
 obtain ⟨r114, hr114, hg⟩ := bind_some hg
 refine S s <| sw <| lw <| mw rfl fun a s => ?_
 have hT := s.pk [(9200000, 700118)] (by decide)
 replace hT := hT.al 9300000 119 rfl
 refine l_seq rfl (l_callMut (cap := []) hT _ [] (sbA (by rfl)) trivial (by rfl) rfl func32 rfl (by kernel_rfl) rfl rfl (c_slices_Sort_string n _ _ (hT.restLt []) _ t_38 (A39) (c40) (cs41) (hT.wd.lendL _ _ _ (sbA (by rfl)) (keep_sub []) (by rfl) (sbA (by rfl))) r114 hr114) ?_); intro v117 a' w' hK hp hF
 obtain ⟨csm0_0u118, rfl, hWu118⟩ := hp
 have hS2 := St.mk hF (hT.wd.back (sbA (by rfl)) (keep_sub []) (by rfl) hWu118 (by rfl))
 clear s hT hF hWu118 hK; revert hS2; revert w'; revert a'; intro a w s
 replace s := s.al 167 9300000 rfl
 replace s := s.ren [(700118, Ob.row (A39) ((t_38).length) (c40) 9 1 (csm0_0u118))] [9200000] ⟨rfl, trivial⟩ (by decide)
 replace s := s.sub (l' := [(5, .slice (A39) ((t_38).length) (c40)), (70, .slice (A39) ((t_38).length) (c40)), (71, .tuple #[])]) (L' := [(700118, Ob.row (A39) ((t_38).length) (c40) 9 1 (csm0_0u118))]) (D' := [(119, rdF Rep.str (cs41) (t_38)), (167, rdF Rep.str (csm0_0u118) (r114))]) ⟨rfl, rfl, rfl, trivial⟩ ⟨rfl, trivial⟩ ⟨rfl, rfl, trivial⟩
 have hrlu1180 := rowN (s.wd.holds 700118 _ rfl) (s.ft 167 rfl) rfl rfl
 replace s := s.eqs (l' := [(5, .slice (A39) ((r114).length) (c40)), (70, .slice (A39) ((r114).length) (c40)), (71, .tuple #[])]) (L' := [(700118, Ob.row (A39) ((r114).length) (c40) 9 1 (csm0_0u118))]) (by simp only [hrlu1180]) (by simp only [hrlu1180])
 obtain ⟨r119, hr119, hg⟩ := bind_some hg
 refine S s <| nw <| sw <| lw <| mw rfl fun a s => ?_
 have hT := s.pk [(9200000, 700118)] (by decide)
 replace hT := hT.al 9300000 167 rfl
 refine l_seq rfl (l_callMut (cap := []) hT _ [] (sbA (by rfl)) trivial (by rfl) rfl func33 rfl (by kernel_rfl) rfl rfl (c_slices_Compact_string n _ _ (hT.restLt []) _ r114 (A39) (c40) (csm0_0u118) (hT.wd.lendL _ _ _ (sbA (by rfl)) (keep_sub []) (by rfl) (sbA (by rfl))) r119 hr119) ?_); intro v122 a' w' hK hp hF
 obtain ⟨Aou123, cou123, csou123, rfl, hWu123⟩ := hp
 have hS2 := St.mk hF (hT.wd.back (sbA (by rfl)) (keep_sub []) (by rfl) hWu123 (by rfl))
 clear s hT hF hWu123 hK; revert hS2; revert w'; revert a'; intro a w s
 replace s := s.al 169 9300000 rfl
 replace s := s.ren [(700118, Ob.row (Aou123) ((r119).length) (cou123) 9 1 (csou123))] [9200000] ⟨rfl, trivial⟩ (by decide)
 refine S s <| aw rfl <| nw fun a s => ?_
 apply wp_ret
 obtain rfl := Option.some.inj hg
 refine fin1 (fn := Tryz.f15) s rfl (r_tmp s rfl) ?_
 exact ⟨(Aou123), (cou123), rfl, (s.rowOut (R := Rep.str) (kk := 700118) rfl rfl (s.ft 169 rfl))⟩
set_option maxHeartbeats 1000000 in
theorem c_slices_Concat_TypeDecl (n : Nat) (M : Bs) (w0 : World) (hM : ∀ b, M b → b < w0.heap.size) (slices_ : (List (List TypeDecl))) (Ap01 : Option Addr) (cp01 : Nat) (hp01 : sR (Rep.list RTypeDecl) M w0 Ap01 cp01 slices_) (r : (List TypeDecl)) (hg : slices_Concat_TypeDecl n slices_ = some r) :
    Calls Tryz.prog 61 [sl Ap01 slices_ cp01].toArray w0 (Ret noB w0 fun v w => ∃ (Ao : Option Addr), ∃ (co : Nat), ∃ (cso : List Value), v = sl Ao r co ∧ ((Ob.row Ao (r).length co 49 3 cso).holds w) ∧ (∀ b, (Ob.row Ao (r).length co 49 3 cso).ids b → w0.heap.size ≤ b) ∧ (RdAll RTypeDecl (fun b => M b ∨ (Ob.row Ao (r).length co 49 3 cso).ids b) w cso (r))) := by
 unfold slices_Concat_TypeDecl at hg
 refine enter M noB func61 rfl rfl hM ?_
 intro a s
 refine S s <| esw 101 hp01 <| vw <| aw rfl <| nw <| vw <| aw rfl <| nw <| sw <| vw <| mw rfl <| yw rfl (y_lenSlice · rfl underlying132) <| mw rfl <| nw fun a s => ?_
 obtain ⟨k1, hg, hk1⟩ := jn_some hg
 refine c_post (fun a w => ∃ (size_2 : Nat), k1 size_2 = some r ∧ St (cx f61 M w0) [(0, sl Ap01 slices_ cp01), (3, vI (((size_2 : Nat) : Int)))] [] [(101, sF (Rep.list RTypeDecl) Ap01 cp01 slices_)] a w) ?_ ?_
 ·apply wp_block
  refine c_loop (σ := Nat) (fun m1 a w => ∃ (size_3 : Nat) (t_4 : Nat), slices_Concat_TypeDecl_L0 n slices_ k1 m1 size_3 t_4 = some r ∧ St (cx f61 M w0) [(0, sl Ap01 slices_ cp01), (3, vI (((size_3 : Nat) : Int))), (9, sl Ap01 slices_ cp01), (10, vI ((((slices_).length : Nat) : Int))), (11, vI (((t_4 : Nat) : Int)))] [] [(101, sF (Rep.list RTypeDecl) Ap01 cp01 slices_)] a w) (fun m1 => m1) n ⟨(0), (0), hg, (s.sb rfl rfl rfl)⟩ ?_
  clear s a; rintro m1 a w ⟨size_3, t_4, hg, s⟩
  rcases m1 with _ | m1
  ·rw [slices_Concat_TypeDecl_L0] at hg; cases hg
  rw [slices_Concat_TypeDecl_L0] at hg
  refine S s <| vw <| yw rfl (y_lssN (i := t_4) (j := ((slices_).length)) · rfl rfl) <| nw <| sw fun a s => c_dec s rfl (fun hc5 => ?_) (fun hc5 => ?_)
  ·replace hg := br_t hg hc5
   have hmx6 := SlR.mx (s.ft 101 rfl)
   obtain ⟨x8, hx8, hg⟩ := bind_some hg
   refine S s <| kw <| pw <| sw <| bw <| sw <| lw fun a s => ?_
   obtain ⟨p10, hep10, hlq11, hmq11, csq11, hdq11, hcq11⟩ := SlR.elemX (s.ft 101 rfl) hx8
   refine qq s rfl (y_elem (sz := 1) (i := t_4) s rfl rfl underlying132 rfl hep10 rfl (lt_of_get hx8)) fun a s => ?_
   obtain ⟨Aq111, nnq11, cq111, rfl, hq111⟩ := hdq11
   obtain rfl := hq111.len
   obtain ⟨hk12, hg⟩ := chk_some hg
   refine S s <| nsw 103 hq111 <| yw rfl (y_ldp1 · rfl hlq11 hmq11 (hcq11 0 _ rfl) underlying32 rfl) <| aw rfl <| nw <| sw <| lw <| mw rfl <| mw rfl <| yw rfl (y_lenSlice · rfl underlying32) <| yw rfl (y_addN (i := size_3) (j := ((x8).length)) · rfl rfl (in64.2 (by omega))) <| aw rfl <| nw <| vw <| mw rfl <| yw rfl (y_lssN (i := (size_3 + (x8).length)) (j := 0) · rfl rfl) <| nw fun a s => c_dec s rfl (fun hc13 => ?_) (fun hc13 => ?_)
   ·replace hg := br_t hg hc13
    cases hg
   replace hg := br_f hg hc13
   apply wp_skip
   refine p_inN ?_
   refine S s <| pw <| lw <| yw rfl (y_addN (i := t_4) (j := 1) · rfl rfl (in64.2 (by omega))) <| mw rfl <| nw fun a s => ?_
   exact ⟨m1, Nat.lt_succ_self _, ⟨(size_3 + (x8).length), (t_4 + 1), hg, (s.sb rfl rfl rfl)⟩⟩
  replace hg := br_f hg hc5
  apply wp_exit
  refine p_then ?_
  refine p_then ?_
  refine p_in ?_
  apply pN
  exact ⟨(size_3), hg, (s.sb rfl rfl rfl)⟩
 clear s a; rintro a w ⟨size_2, hg, s⟩
 subst hk1
 obtain ⟨r14, hr14, hg⟩ := bind_some hg
 refine S s <| sw <| lw <| mw rfl fun a s => ?_
 refine l_seq rfl (l_callOwn (cap := []) (post := (fun v ob w' => ∃ Ao co cso, ob = Ob.row Ao (r14).length co 49 3 cso ∧ v = sl Ao r14 co ∧ RdAll RTypeDecl (fun b => mtb _ _ b ∨ ob.ids b) w' cso (r14))) s 1901 rfl rfl func102 rfl (by kernel_rfl) rfl rfl ((c_slices_Grow_TypeDecl n _ _ s.lt ((size_2 : Nat) : Int) r14 hr14).mono (fun e w' h => by obtain ⟨v, he, hk, Ao, co, cso, hv, ho1, ho2, ho3⟩ := h; exact ⟨v, he, hk, _, ho1, ho2, ⟨Ao, co, cso, rfl, hv, ho3⟩⟩)) fun v18 ob a w hK hp s => ?_)
 obtain ⟨Au17, cu17, csu17, rfl, rfl, hou17⟩ := hp
 replace s := s.add 105 (rdF RTypeDecl csu17 (r14)) (RdAll.up2 s hou17)
 refine S s <| aw rfl <| nw <| sw <| vw <| mw rfl <| yw rfl (y_lenSlice · rfl underlying132) <| mw rfl <| nw <| bw <| alw 107 105 rfl fun a s => ?_
 replace s := s.pk [(700106, 1901)] (by decide)
 refine c_loop (σ := Nat) (fun m2 a w => ∃ (newslice_19 : (List TypeDecl)) (t_23 : Nat) (A20 : Option Addr) (c21 : Nat) (cs22 : List Value), slices_Concat_TypeDecl_L1 n slices_ m2 newslice_19 t_23 = some r ∧ St (cx f61 M w0) [(6, sl A20 newslice_19 c21), (25, sl Ap01 slices_ cp01), (26, vI ((((slices_).length : Nat) : Int))), (27, vI (((t_23 : Nat) : Int)))] [(700106, Ob.row (A20) ((newslice_19).length) (c21) 49 3 (cs22))] [(101, sF (Rep.list RTypeDecl) Ap01 cp01 slices_), (107, rdF RTypeDecl (cs22) (newslice_19))] a w) (fun m2 => m2) n ⟨(r14), (0), (Au17), (cu17), (csu17), hg, (s.sb rfl rfl rfl)⟩ ?_
 clear s a; rintro m2 a w ⟨newslice_19, t_23, A20, c21, cs22, hg, s⟩
 rcases m2 with _ | m2
 ·rw [slices_Concat_TypeDecl_L1] at hg; cases hg
 rw [slices_Concat_TypeDecl_L1] at hg
 refine S s <| vw <| yw rfl (y_lssN (i := t_23) (j := ((slices_).length)) · rfl rfl) <| nw <| sw fun a s => c_dec s rfl (fun hc24 => ?_) (fun hc24 => ?_)
 ·replace hg := br_t hg hc24
  have hmx25 := SlR.mx (s.ft 101 rfl)
  obtain ⟨x27, hx27, hg⟩ := bind_some hg
  refine S s <| kw <| pw <| sw <| bw <| sw <| lw fun a s => ?_
  obtain ⟨p29, hep29, hlq30, hmq30, csq30, hdq30, hcq30⟩ := SlR.elemX (s.ft 101 rfl) hx27
  refine qq s rfl (y_elem (sz := 1) (i := t_23) s rfl rfl underlying132 rfl hep29 rfl (lt_of_get hx27)) fun a s => ?_
  obtain ⟨Aq301, nnq30, cq301, rfl, hq301⟩ := hdq30
  obtain rfl := hq301.len
  obtain ⟨hk31, hg⟩ := chk_some hg
  refine S s <| nsw 109 hq301 <| yw rfl (y_ldp1 · rfl hlq30 hmq30 (hcq30 0 _ rfl) underlying32 rfl) <| aw rfl <| nw <| lw <| mw rfl <| mw rfl fun a s => ?_
  obtain ⟨ns35, hs35, hns35⟩ := SlR.src (s.ft 109 rfl)
  replace s := s.add 112 (rdF RTypeDecl ns35 (x27)) hns35
  refine l_seq rfl (l_append (sz := 3) (by_ := 64) (N := (newslice_19 ++ x27).length) s 700106 rfl rfl rfl underlying32 rfl rfl rfl rfl rfl hs35 (by rw [List.length_append]; try rfl) rfl (rmA hk31 rfl) (rmB hk31) rfl fun Aq34 cq34 a w hA hK s => ?_)
  replace s := s.add 113 (rdF RTypeDecl (cs22 ++ ns35) (newslice_19 ++ x27)) (RdAll.append (s.ft 107 rfl) (s.ft 112 rfl))
  refine asg s rfl rfl fun a s => ?_
  apply wO
  refine p_inN ?_
  refine S s <| pw <| lw <| yw rfl (y_addN (i := t_23) (j := 1) · rfl rfl (in64.2 (by omega))) <| mw rfl <| nw <| alw 107 113 rfl fun a s => ?_
  exact ⟨m2, Nat.lt_succ_self _, ⟨(newslice_19 ++ x27), (t_23 + 1), (Aq34), (cq34), (cs22 ++ ns35), hg, (s.sb rfl rfl rfl)⟩⟩
 replace hg := br_f hg hc24
 apply wp_exit
 refine p_then ?_
 refine p_then ?_
 refine p_in ?_
 refine S s <| pw <| vw <| mw rfl <| aw rfl <| nw fun a s => ?_
 apply wp_ret
 obtain rfl := Option.some.inj hg
 refine fin1 (fn := Tryz.f61) s rfl (r_tmp s rfl) ?_
 exact ⟨(A20), (c21), (cs22), rfl, (s.wd.holds 700106 _ rfl), (row_new s (kk := 700106) rfl rfl), (RdAll.own s (kk := 700106) rfl (s.ft 107 rfl))⟩
set_option maxHeartbeats 1000000 in
theorem c_slices_Clone_string (n : Nat) (M : Bs) (w0 : World) (hM : ∀ b, M b → b < w0.heap.size) (s_ : (List (List UInt8))) (Ap01 : Option Addr) (cp01 : Nat) (hp01 : sR Rep.str M w0 Ap01 cp01 s_) (r : (List (List UInt8))) (hg : slices_Clone_string n s_ = some r) :
    Calls Tryz.prog 105 [sl Ap01 s_ cp01].toArray w0 (Ret noB w0 fun v w => ∃ (Ao : Option Addr), ∃ (co : Nat), ∃ (cso : List Value), v = sl Ao r co ∧ ((Ob.row Ao (r).length co 9 1 cso).holds w) ∧ (∀ b, (Ob.row Ao (r).length co 9 1 cso).ids b → w0.heap.size ≤ b) ∧ (RdAll Rep.str (fun b => M b ∨ (Ob.row Ao (r).length co 9 1 cso).ids b) w cso (r))) := by
 unfold slices_Clone_string at hg
 refine enter M noB func105 rfl rfl hM ?_
 intro a s
 refine S s <| esw 101 hp01 <| vw <| aw rfl <| nw <| sw <| vw <| mw rfl <| yw rfl (y_slnil · rfl rfl underlying25) <| nw fun a s => c_cond s rfl (fun hc1 => ?_) (fun hc1 => ?_)
 ·have hnil := SlR.nil0 (s.ft 101 rfl) (by simpa using hc1)
  replace hg : (some []) = some r := by have h0 := hg; rw [hnil] at h0; simpa [chk] using h0
  refine S s <| vw <| aw rfl <| nw fun a s => ?_
  apply wp_ret
  refine p_thenR ?_
  obtain rfl := Option.some.inj hg
  refine fin1 (fn := Tryz.f105) s rfl (r_tmp s rfl) ?_
  exact ⟨none, 0, [], rfl, (World.ownsRow_nil _ 0 9 1), (fun b hb => by obtain ⟨p, hp, _⟩ := hb; cases hp), RdAll.nil _ _ _⟩
 obtain ⟨hk3, hg⟩ := chk_some hg
 apply wp_skip
 apply pN
 apply wQ
 apply wL
 refine l_seq rfl (l_buildEmpty (sz := 1) s 1300 underlying25 rfl rfl rfl fun b6 a w hbb6 hK s => ?_)
 clear hbb6
 refine mv s rfl rfl fun a s => ?_
 replace s := s.add 105 (rdF Rep.str ([]) ([])) (RdAll.nil _ _ _)
 obtain ⟨ns8, hs8, hns8⟩ := SlR.src (s.ft 101 rfl)
 replace s := s.add 106 (rdF Rep.str ns8 (s_)) hns8
 refine l_seq rfl (l_append (sz := 1) (by_ := 16) (N := (s_).length) (ys := ns8) s 1300 rfl rfl rfl underlying25 rfl rfl rfl rfl rfl hs8 (Nat.zero_add _) rfl (rmC hk3 rfl) (rmD hk3) rfl fun Aq7 cq7 a w hA hK s => ?_)
 refine S s <| alw 107 106 rfl <| aw rfl <| nw fun a s => ?_
 apply wp_ret
 obtain rfl := Option.some.inj hg
 refine fin1 (fn := Tryz.f105) s rfl (r_tmp s rfl) ?_
 exact ⟨(Aq7), (cq7), (ns8), rfl, (s.wd.holds 1300 _ rfl), (row_new s (kk := 1300) rfl rfl), (RdAll.own s (kk := 1300) rfl (s.ft 107 rfl))⟩
set_option maxHeartbeats 1000000 in
theorem c_module_twice (n : Nat) (M : Bs) (w0 : World) (hM : ∀ b, M b → b < w0.heap.size) (l_ : (List (List UInt8))) (Ap01 : Option Addr) (cp01 : Nat) (hp01 : sR Rep.str M w0 Ap01 cp01 l_) (r : Bool) (hg : module_twice n l_ = some r) :
    Calls Tryz.prog 62 [sl Ap01 l_ cp01].toArray w0 (Ret noB w0 fun v w => v = .bool (r)) := by
 unfold module_twice at hg
 refine enter M noB func62 rfl rfl hM ?_
 intro a s
 obtain ⟨r3, hr3, hg⟩ := bind_some hg
 refine S s <| esw 101 hp01 <| vw <| aw rfl <| nw <| sw <| lw <| mw rfl fun a s => ?_
 refine l_seq rfl (l_callOwn (cap := []) (post := (fun v ob w' => ∃ B, ob = Ob.box B [sl Ap01 l_ cp01] 25 ∧ v = .func (.func 124) #[] #[vP B 0])) s 1101 rfl rfl func104 rfl (by kernel_rfl) rfl rfl (c_slicesValues _ _ _ _) fun v7 ob a w hK hp s => ?_)
 obtain ⟨b6, rfl, rfl⟩ := hp
 refine lC s rfl func103 (c_sortedValues n _ _ s.lt b6 Ap01 cp01 l_ (s.wd.holds 1101 _ rfl) (s.ft 101 rfl) r3 hr3) fun v8 a w hK hp s => ?_
 obtain ⟨Au9a1, cu9a1, rfl, hu9a1⟩ := hp
 obtain ⟨r10, hr10, hg⟩ := bind_some hg
 obtain ⟨r13, hr13, hg⟩ := bind_some hg
 refine S s <| nsw 103 hu9a1 <| aw rfl <| nw <| sw <| lw <| mw rfl fun a s => ?_
 refine l_seq rfl (l_callOwn (cap := []) (post := (fun v ob w' => ∃ Ao co cso, ob = Ob.row Ao (r10).length co 9 1 cso ∧ v = sl Ao r10 co ∧ RdAll Rep.str (fun b => mtb _ _ b ∨ ob.ids b) w' cso (r10))) s 1201 rfl rfl func105 rfl (by kernel_rfl) rfl rfl ((c_slices_Clone_string n _ _ s.lt _ _ _ (s.ft 103 rfl) _ hr10).mono (fun e w' h => by obtain ⟨v, he, hk, Ao, co, cso, hv, ho1, ho2, ho3⟩ := h; exact ⟨v, he, hk, _, ho1, ho2, ⟨Ao, co, cso, rfl, hv, ho3⟩⟩)) fun v17 ob a w hK hp s => ?_)
 obtain ⟨Au16, cu16, csu16, rfl, rfl, hou16⟩ := hp
 replace s := s.add 106 (rdF Rep.str csu16 (r10)) (RdAll.up2 s hou16)
 have hT := s.pk [(1101, 1101), (9200000, 1201)] (by decide)
 replace hT := hT.al 9300000 106 rfl
 refine l_seq rfl (l_callMut (cap := []) hT _ [] (sbA (by rfl)) trivial (by rfl) rfl func33 rfl (by kernel_rfl) rfl rfl (c_slices_Compact_string n _ _ (hT.restLt [1101]) _ r10 (Au16) (cu16) (csu16) (hT.wd.lendL _ _ _ (sbA (by rfl)) (keep_sub [1101]) (by rfl) (sbA (by rfl))) r13 hr13) ?_); intro v18 a' w' hK hp hF
 obtain ⟨Aou19, cou19, csou19, rfl, hWu19⟩ := hp
 have hS2 := St.mk hF (hT.wd.back (sbA (by rfl)) (keep_sub [1101]) (by rfl) hWu19 (by rfl))
 clear s hT hF hWu19 hK; revert hS2; revert w'; revert a'; intro a w s
 replace s := s.al 107 9300000 rfl
 replace s := s.ren [(1101, Ob.box b6 [sl Ap01 l_ cp01] 25), (1201, Ob.row (Aou19) ((r13).length) (cou19) 9 1 (csou19))] [1101, 9200000] ⟨rfl, rfl, trivial⟩ (by decide)
 refine S s <| yw rfl (y_lenSlice · rfl underlying25) <| mw rfl <| yw rfl (y_lenSlice · rfl underlying25) <| yw rfl (y_lssN (i := ((r13).length)) (j := ((r3).length)) · rfl rfl) <| aw rfl <| nw fun a s => ?_
 apply wp_ret
 obtain rfl := Option.some.inj hg
 exact fin1 (fn := Tryz.f62) s rfl (r_tmp s rfl) rfl
set_option maxHeartbeats 1000000 in
theorem c_module_names (n : Nat) (M : Bs) (w0 : World) (hM : ∀ b, M b → b < w0.heap.size) (l_ : (List Def)) (Ap01 : Option Addr) (cp01 : Nat) (hp01 : sR RDef M w0 Ap01 cp01 l_) (r : (List (List UInt8))) (hg : module_names n l_ = some r) :
    Calls Tryz.prog 63 [sl Ap01 l_ cp01].toArray w0 (Ret noB w0 fun v w => ∃ (Aa1 : Option Addr), ∃ (ca1 : Nat), v = sl Aa1 r ca1 ∧ (SlR Rep.str M w Aa1 (r).length ca1 (r))) := by
 unfold module_names at hg
 refine enter M noB func63 rfl rfl hM ?_
 intro a s
 refine S s <| esw 101 hp01 <| vw <| aw rfl <| nw <| vw <| aw rfl <| nw <| sw <| vw <| mw rfl <| yw rfl (y_lenSlice · rfl underlying33) <| mw rfl <| nw <| bw fun a s => ?_
 replace s := s.nilRow 700102 9 1 rfl
 replace s := s.add 103 (rdF Rep.str [] []) (RdAll.nil _ _ _)
 refine c_loop (σ := Nat) (fun m1 a w => ∃ (out_1 : (List (List UInt8))) (t_5 : Nat) (A2 : Option Addr) (c3 : Nat) (cs4 : List Value), module_names_L0 n l_ m1 out_1 t_5 = some r ∧ St (cx f63 M w0) [(3, sl A2 out_1 c3), (6, sl Ap01 l_ cp01), (7, vI ((((l_).length : Nat) : Int))), (8, vI (((t_5 : Nat) : Int)))] [(700102, Ob.row (A2) ((out_1).length) (c3) 9 1 (cs4))] [(101, sF RDef Ap01 cp01 l_), (103, rdF Rep.str (cs4) (out_1))] a w) (fun m1 => m1) n ⟨([]), (0), (none), (0), ([]), hg, (s.sb rfl rfl rfl)⟩ ?_
 clear s a; rintro m1 a w ⟨out_1, t_5, A2, c3, cs4, hg, s⟩
 rcases m1 with _ | m1
 ·rw [module_names_L0] at hg; cases hg
 rw [module_names_L0] at hg
 refine S s <| vw <| yw rfl (y_lssN (i := t_5) (j := ((l_).length)) · rfl rfl) <| nw <| sw fun a s => c_dec s rfl (fun hc6 => ?_) (fun hc6 => ?_)
 ·replace hg := br_t hg hc6
  have hmx7 := SlR.mx (s.ft 101 rfl)
  obtain ⟨x9, hx9, hg⟩ := bind_some hg
  refine S s <| kw <| pw <| sw <| bw <| sw <| lw fun a s => ?_
  obtain ⟨p12, hep12, hlq13, hmq13, csq13, hdq13, hcq13⟩ := SlR.elemX (s.ft 101 rfl) hx9
  refine qq s rfl (y_elem (sz := 6) (i := t_5) s rfl rfl underlying33 rfl hep12 rfl (lt_of_get hx9)) fun a s => ?_
  obtain ⟨Aq134, cq134, Aq135, cq135, Aq136, cq136, rfl, lq131, lq133, hq134, hq135, hq136⟩ := RDef.open hdq13
  refine S s <| nsw 107 hq134 <| nsw 108 hq135 <| nsw 109 hq136 <| yw rfl (y_ldp · rfl hlq13 hmq13 (by simpa using hcq13) underlying62 rfl rfl) fun a s => ?_
  refine l_seq rfl (l_alloc (zs := [vT ([]), vI 0, vT ([]), .slice none 0 0, .slice none 0 0, .slice none 0 0]) s 1402 rfl rfl rfl rfl fun b14 a w hb hK s => ?_)
  refine l_seq rfl (l_store (n := 6) (cs' := [vT x9.Name, vI x9.Strict.Op, vT x9.Strict.Name, sl Aq134 x9.Strict.Path cq134, sl Aq135 x9.Strict.Kids cq135, sl Aq136 x9.Defaults cq136]) s 1402 rfl rfl rfl rfl rfl rfl rfl rfl ?_); clear s; intro w hK s; clear hK
  obtain ⟨hk16, hg⟩ := chk_some hg
  refine S s <| nw <| lw <| mw rfl <| yw rfl (y_boxField (o' := 0) · rfl underlying62 rfl rfl rfl) <| yw rfl (y_loadBox1 (kk := 1402) · rfl rfl rfl underlying9 rfl) fun a s => ?_
  refine l_seq rfl (l_buildDense (sz := 1) s 1503 rfl rfl rfl underlying25 rfl rfl rfl rfl rfl rfl rfl fun b19 a w hbb19 hK s => ?_)
  clear hbb19
  replace s := s.add 112 (rdF Rep.str (cellsOfL [vT x9.Name]) ([x9.Name])) (RdAll.cons (by exact ⟨rfl, (by omega)⟩) (RdAll.nil _ _ _))
  have hs21 := row_src (s.wd.holds 1503 _ rfl) (RdAll.one (s.ft 112 rfl))
  refine l_seq rfl (l_append (sz := 1) (by_ := 16) (N := (out_1 ++ [x9.Name]).length) s 700102 rfl rfl rfl underlying25 rfl rfl rfl rfl rfl hs21 (by rw [List.length_append]; try rfl) rfl (rmA hk16 rfl) (rmB hk16) rfl fun Aq20 cq20 a w hA hK s => ?_)
  replace s := s.add 113 (rdF Rep.str (cs4 ++ (cellsOfL [vT x9.Name])) (out_1 ++ [x9.Name])) (RdAll.append (s.ft 103 rfl) (s.ft 112 rfl))
  refine asg s rfl rfl fun a s => ?_
  apply wO
  refine p_inN ?_
  refine S s <| pw <| lw <| yw rfl (y_addN (i := t_5) (j := 1) · rfl rfl (in64.2 (by omega))) <| mw rfl <| nw <| alw 103 113 rfl fun a s => ?_
  exact ⟨m1, Nat.lt_succ_self _, ⟨(out_1 ++ [x9.Name]), (t_5 + 1), (Aq20), (cq20), (cs4 ++ (cellsOfL [vT x9.Name])), hg, (s.sb rfl rfl rfl)⟩⟩
 replace hg := br_f hg hc6
 apply wp_exit
 refine p_then ?_
 refine p_then ?_
 refine p_in ?_
 refine S s <| pw <| vw <| mw rfl <| aw rfl <| nw fun a s => ?_
 apply wp_ret
 obtain rfl := Option.some.inj hg
 refine fin1 (fn := Tryz.f63) s rfl (r_tmp s rfl) ?_
 exact ⟨(A2), (c3), rfl, (s.rowOut (R := Rep.str) (kk := 700102) rfl rfl (s.ft 103 rfl))⟩
set_option maxHeartbeats 1000000 in
theorem c_module_repeats (n : Nat) (M : Bs) (w0 : World) (hM : ∀ b, M b → b < w0.heap.size) (t_ : Module) (Ap02 : Option Addr) (cp02 : Nat) (Ap03 : Option Addr) (cp03 : Nat) (Ap04 : Option Addr) (cp04 : Nat) (Ap05 : Option Addr) (cp05 : Nat) (Ap06 : Option Addr) (cp06 : Nat) (Ap07 : Option Addr) (cp07 : Nat) (Ap08 : Option Addr) (cp08 : Nat) (Ap09 : Option Addr) (cp09 : Nat) (Ap010 : Option Addr) (cp010 : Nat) (lp01 : (t_.Name).length ≤ 9223372036854775807) (hp02 : sR Rep.str M w0 Ap02 cp02 t_.Imports) (hp03 : sR RTypeDecl M w0 Ap03 cp03 t_.Types) (hp04 : sR RDef M w0 Ap04 cp04 t_.Templates) (hp05 : sR REntryDecl M w0 Ap05 cp05 t_.Entries) (hp06 : sR RLexDecl M w0 Ap06 cp06 t_.LexRules) (hp07 : sR RDef M w0 Ap07 cp07 t_.Rules) (hp08 : sR RDef M w0 Ap08 cp08 t_.Roots) (hp09 : sR (Rep.list Rep.str) M w0 Ap09 cp09 t_.Checks) (hp010 : sR Rep.str M w0 Ap010 cp010 t_.Drops) (r : Bool) (hg : module_repeats n t_ = some r) :
    Calls Tryz.prog 36 [.agg #[vT t_.Name, sl Ap02 t_.Imports cp02, sl Ap03 t_.Types cp03, sl Ap04 t_.Templates cp04, sl Ap05 t_.Entries cp05, sl Ap06 t_.LexRules cp06, sl Ap07 t_.Rules cp07, sl Ap08 t_.Roots cp08, sl Ap09 t_.Checks cp09, sl Ap010 t_.Drops cp010]].toArray w0 (Ret noB w0 fun v w => v = .bool (r)) := by
 unfold module_repeats at hg
 refine enter M noB func36 rfl rfl hM ?_
 intro a s
 let F : Al Fact := [(101, sF Rep.str Ap02 cp02 t_.Imports), (102, sF RTypeDecl Ap03 cp03 t_.Types), (103, sF RDef Ap04 cp04 t_.Templates), (104, sF REntryDecl Ap05 cp05 t_.Entries), (105, sF RLexDecl Ap06 cp06 t_.LexRules), (106, sF RDef Ap07 cp07 t_.Rules), (107, sF RDef Ap08 cp08 t_.Roots), (108, sF (Rep.list Rep.str) Ap09 cp09 t_.Checks), (109, sF Rep.str Ap010 cp010 t_.Drops)]
 let B : List Value := [vT t_.Name, sl Ap02 t_.Imports cp02, sl Ap03 t_.Types cp03, sl Ap04 t_.Templates cp04, sl Ap05 t_.Entries cp05, sl Ap06 t_.LexRules cp06, sl Ap07 t_.Rules cp07, sl Ap08 t_.Roots cp08, sl Ap09 t_.Checks cp09, sl Ap010 t_.Drops cp010]
 refine S s <| esw 101 hp02 <| esw 102 hp03 <| esw 103 hp04 <| esw 104 hp05 <| esw 105 hp06 <| esw 106 hp07 <| esw 107 hp08 <| esw 108 hp09 <| esw 109 hp010 <| vw fun a s => ?_
 refine l_seq rfl (l_box (zs := B) s 1000 rfl rfl rfl rfl fun b2 a w hb hK s => ?_)
 obtain ⟨r3, hr3, hg⟩ := bind_some hg
 obtain ⟨r7, hr7, hg⟩ := bind_some hg
 refine S s <| aw rfl <| nw <| vw <| aw rfl <| aw rfl <| nw <| sw <| sw fun a s => ?_
 refine d_plan s [] [(1, some 0), (2, some 1000), (6, some 0), (0, none), (3, none), (4, none), (5, none)] rfl (by kernel_rfl) (by kernel_rfl) rfl ?_; clear s; intro wr hZ s; have hR := s.wd
 refine S s <| qw hR rfl (y_boxField (o' := 2) · rfl underlying38 rfl rfl rfl) <| qw hR rfl (y_loadBox1 (kk := 1000) · rfl rfl rfl underlying32 rfl) <| qw hR rfl (y_move · rfl) fun a s => ?_
 refine l_take s rfl rfl (l_call (cap := []) s rfl func31 rfl (by kernel_rfl) rfl rfl (c_hier_Prelude n _ _ s.lt  _ hr3) fun v10 a w hK hp s => ?_)
 replace hZ := Nat.le_trans hZ hK.size; refine ⟨fun g _ h => h.grow hK, ?_⟩; clear hK
 obtain ⟨Au11a1, cu11a1, rfl, hu11a1⟩ := hp
 replace s := s.ns 114 hu11a1
 refine l_take s rfl rfl (l_buildDense (sz := 1) s 1203 rfl rfl rfl underlying132 rfl rfl rfl rfl rfl rfl rfl fun b12 a w hbb12 hK s => ?_)
 have hNb12 := NewA.lit hZ hbb12
 clear hbb12
 replace hZ := Nat.le_trans hZ hK.size; refine ⟨fun g _ h => h.grow hK, ?_⟩; clear hK
 replace s := s.add 115 (rdF (Rep.list RTypeDecl) (cellsOfL [sl Au11a1 r3 cu11a1, sl Ap03 t_.Types cp03]) ([r3, t_.Types])) (RdAll.cons (by exact ⟨_, _, _, rfl, (s.ft 114 rfl)⟩) (RdAll.cons (by exact ⟨_, _, _, rfl, (s.ft 102 rfl)⟩) (RdAll.nil _ _ _)))
 replace s := s.freeze (R := (Rep.list RTypeDecl)) (kk := 1203) (L' := [(1000, Ob.box b2 B 38)]) 116 rfl rfl (s.ft 115 rfl) ⟨rfl, trivial⟩ rfl
 refine l_take s rfl rfl (l_callOwn (cap := []) (post := (fun v ob w' => ∃ Ao co cso, ob = Ob.row Ao (r7).length co 49 3 cso ∧ v = sl Ao r7 co ∧ RdAll RTypeDecl (fun b => mtb _ _ b ∨ ob.ids b) w' cso (r7))) s 1204 rfl rfl func61 rfl (by kernel_rfl) rfl rfl ((c_slices_Concat_TypeDecl n _ _ s.lt [r3, t_.Types] (some ⟨b12, 0, none⟩) (2) (s.ft 116 rfl) _ hr7).mono (fun e w' h => by obtain ⟨v, he, hk, Ao, co, cso, hv, ho1, ho2, ho3⟩ := h; exact ⟨v, he, hk, _, ho1, ho2, ⟨Ao, co, cso, rfl, hv, ho3⟩⟩)) fun v14 ob a w hK hp s => ?_)
 obtain ⟨Au13, cu13, csu13, rfl, rfl, hou13⟩ := hp
 replace hZ := Nat.le_trans hZ hK.size; refine ⟨fun g _ h => h.grow hK, ?_⟩; clear hK
 replace s := s.add 117 (rdF RTypeDecl csu13 (r7)) (RdAll.up2 s hou13)
 refine S s <| tw rfl (y_lenSlice · rfl underlying32) fun a s => ?_
 clear hR hZ
 apply pN
 obtain ⟨k15, hg, hk15⟩ := jn_some hg
 refine c_post (fun a w => ∃ (t_16 : (List (List UInt8))) (A17 : Option Addr) (c18 : Nat) (cs19 : List Value), k15 t_16 = some r ∧ St (cx f36 M w0) [(1, vP b2 0), (3, sl A17 t_16 c18), (4, .slice none 0 0)] [(1000, Ob.box b2 B 38), (700118, Ob.row (A17) ((t_16).length) (c18) 9 1 (cs19))] (F ++ [(119, rdF Rep.str (cs19) (t_16))]) a w) ?_ ?_
 ·apply wp_block
  replace s := s.nilRow 700120 9 1 rfl
  replace s := s.add 121 (rdF Rep.str [] []) (RdAll.nil _ _ _)
  refine c_loop (σ := Nat) (fun m1 a w => ∃ (t_20 : (List (List UInt8))) (t_24 : Nat) (A21 : Option Addr) (c22 : Nat) (cs23 : List Value), module_repeats_L0 n r7 k15 m1 t_20 t_24 = some r ∧ St (cx f36 M w0) [(1, vP b2 0), (3, sl A21 t_20 c22), (4, .slice none 0 0), (15, sl Au13 r7 cu13), (16, vI ((((r7).length : Nat) : Int))), (17, vI (((t_24 : Nat) : Int)))] [(1000, Ob.box b2 B 38), (1204, Ob.row (Au13) ((r7).length) (cu13) 49 3 (csu13)), (700120, Ob.row (A21) ((t_20).length) (c22) 9 1 (cs23))] (F ++ [(117, rdF RTypeDecl (csu13) (r7)), (121, rdF Rep.str (cs23) (t_20))]) a w) (fun m1 => m1) n ⟨([]), (0), (none), (0), ([]), hg, (s.sb rfl rfl rfl)⟩ ?_
  clear s a; rintro m1 a w ⟨t_20, t_24, A21, c22, cs23, hg, s⟩
  rcases m1 with _ | m1
  ·rw [module_repeats_L0] at hg; cases hg
  rw [module_repeats_L0] at hg
  refine S s <| vw <| yw rfl (y_lssN (i := t_24) (j := ((r7).length)) · rfl rfl) <| nw <| sw fun a s => c_dec s rfl (fun hc25 => ?_) (fun hc25 => ?_)
  ·replace hg := br_t hg hc25
   have hmx26 := row_mx (s.wd.holds 1204 _ rfl)
   obtain ⟨x28, hx28, hg⟩ := bind_some hg
   refine S s <| kw <| pw <| sw <| bw <| sw <| lw fun a s => ?_
   obtain ⟨hiq31, bq31, hAq31⟩ := SlR.row1 (s.wd.holds 1204 _ rfl) (s.ft 117 rfl) rfl rfl hx28
   refine qq s rfl (y_rowIndex (sz := 3) (i := t_24) s rfl rfl underlying32 rfl hAq31 rfl hiq31) fun a s => ?_
   have hz32 := (s.ft 117 rfl).at_ _ _ hx28
   obtain ⟨Az322, cz322, Az323, cz323, ez32, lz321, hz322, hz323⟩ := RTypeDecl.open hz32
   refine S s <| nsw 124 hz322 <| nsw 125 hz323 <| yw rfl (y_loadRow (kk := 1204) (vs := [vT x28.Name, sl Az322 x28.Supers cz322, sl Az323 x28.Feats cz323]) · rfl rfl hAq31 ez32 underlying49 rfl rfl) fun a s => ?_
   refine l_seq rfl (l_alloc (zs := [vT ([]), .slice none 0 0, .slice none 0 0]) s 1402 rfl rfl rfl rfl fun b33 a w hb hK s => ?_)
   refine l_seq rfl (l_store (n := 3) (cs' := [vT x28.Name, sl Az322 x28.Supers cz322, sl Az323 x28.Feats cz323]) s 1402 rfl rfl rfl rfl rfl rfl rfl rfl ?_); clear s; intro w hK s; clear hK
   obtain ⟨hk35, hg⟩ := chk_some hg
   refine S s <| nw <| lw <| mw rfl <| yw rfl (y_boxField (o' := 0) · rfl underlying49 rfl rfl rfl) <| yw rfl (y_loadBox1 (kk := 1402) · rfl rfl rfl underlying9 rfl) fun a s => ?_
   refine l_seq rfl (l_buildDense (sz := 1) s 1503 rfl rfl rfl underlying25 rfl rfl rfl rfl rfl rfl rfl fun b38 a w hbb38 hK s => ?_)
   clear hbb38
   replace s := s.add 128 (rdF Rep.str (cellsOfL [vT x28.Name]) ([x28.Name])) (RdAll.cons (by exact ⟨rfl, (by omega)⟩) (RdAll.nil _ _ _))
   have hs40 := row_src (s.wd.holds 1503 _ rfl) (RdAll.one (s.ft 128 rfl))
   refine l_seq rfl (l_append (sz := 1) (by_ := 16) (N := (t_20 ++ [x28.Name]).length) s 700120 rfl rfl rfl underlying25 rfl rfl rfl rfl rfl hs40 (by rw [List.length_append]; try rfl) rfl (rmA hk35 rfl) (rmB hk35) rfl fun Aq39 cq39 a w hA hK s => ?_)
   replace s := s.add 129 (rdF Rep.str (cs23 ++ (cellsOfL [vT x28.Name])) (t_20 ++ [x28.Name])) (RdAll.append (s.ft 121 rfl) (s.ft 128 rfl))
   refine asg s rfl rfl fun a s => ?_
   apply wO
   refine p_inN ?_
   refine S s <| pw <| lw <| yw rfl (y_addN (i := t_24) (j := 1) · rfl rfl (in64.2 (by omega))) <| mw rfl <| nw <| alw 121 129 rfl fun a s => ?_
   exact ⟨m1, Nat.lt_succ_self _, ⟨(t_20 ++ [x28.Name]), (t_24 + 1), (Aq39), (cq39), (cs23 ++ (cellsOfL [vT x28.Name])), hg, (s.sb rfl rfl rfl)⟩⟩
  replace hg := br_f hg hc25
  apply wp_exit
  refine p_then ?_
  refine p_then ?_
  refine p_in ?_
  apply pN
  replace s := s.al 119 121 rfl
  replace s := s.pk [(1000, 1000), (1204, 1204), (700118, 700120)] (by decide)
  exact ⟨(t_20), (A21), (c22), (cs23), hg, (s.sb rfl rfl rfl)⟩
 clear s a; rintro a w ⟨t_16, A17, c18, cs19, hg, s⟩
 subst hk15
 refine S s <| sw <| vw <| yw rfl (y_boxField (o' := 4) · rfl underlying38 rfl rfl rfl) <| yw rfl (y_loadBox1 (kk := 1000) · rfl rfl rfl underlying34 rfl) <| yw rfl (y_lenSlice · rfl underlying34) <| mw rfl <| nw fun a s => ?_
 obtain ⟨k41, hg, hk41⟩ := jn_some hg
 refine c_post (fun a w => ∃ (t_42 : (List (List UInt8))) (A43 : Option Addr) (c44 : Nat) (cs45 : List Value), k41 t_42 = some r ∧ St (cx f36 M w0) [(1, vP b2 0), (3, sl A17 t_16 c18), (4, sl A43 t_42 c44)] [(1000, Ob.box b2 B 38), (700118, Ob.row (A17) ((t_16).length) (c18) 9 1 (cs19)), (700130, Ob.row (A43) ((t_42).length) (c44) 9 1 (cs45))] (F ++ [(119, rdF Rep.str (cs19) (t_16)), (131, rdF Rep.str (cs45) (t_42))]) a w) ?_ ?_
 ·apply wp_block
  replace s := s.nilRow 700132 9 1 rfl
  replace s := s.add 133 (rdF Rep.str [] []) (RdAll.nil _ _ _)
  refine c_loop (σ := Nat) (fun m2 a w => ∃ (t_46 : (List (List UInt8))) (t_50 : Nat) (A47 : Option Addr) (c48 : Nat) (cs49 : List Value), module_repeats_L1 n t_ k41 m2 t_46 t_50 = some r ∧ St (cx f36 M w0) [(1, vP b2 0), (3, sl A17 t_16 c18), (4, sl A47 t_46 c48), (28, sl Ap05 t_.Entries cp05), (29, vI ((((t_.Entries).length : Nat) : Int))), (30, vI (((t_50 : Nat) : Int)))] [(1000, Ob.box b2 B 38), (700118, Ob.row (A17) ((t_16).length) (c18) 9 1 (cs19)), (700132, Ob.row (A47) ((t_46).length) (c48) 9 1 (cs49))] (F ++ [(119, rdF Rep.str (cs19) (t_16)), (133, rdF Rep.str (cs49) (t_46))]) a w) (fun m2 => m2) n ⟨([]), (0), (none), (0), ([]), hg, (s.sb rfl rfl rfl)⟩ ?_
  clear s a; rintro m2 a w ⟨t_46, t_50, A47, c48, cs49, hg, s⟩
  rcases m2 with _ | m2
  ·rw [module_repeats_L1] at hg; cases hg
  rw [module_repeats_L1] at hg
  refine S s <| vw <| yw rfl (y_lssN (i := t_50) (j := ((t_.Entries).length)) · rfl rfl) <| nw <| sw fun a s => c_dec s rfl (fun hc51 => ?_) (fun hc51 => ?_)
  ·replace hg := br_t hg hc51
   have hmx52 := SlR.mx (s.ft 104 rfl)
   obtain ⟨x54, hx54, hg⟩ := bind_some hg
   refine S s <| kw <| pw <| sw <| bw <| sw <| lw fun a s => ?_
   obtain ⟨p57, hep57, hlq58, hmq58, csq58, hdq58, hcq58⟩ := SlR.elemX (s.ft 104 rfl) hx54
   refine qq s rfl (y_elem (sz := 7) (i := t_50) s rfl rfl underlying34 rfl hep57 rfl (lt_of_get hx54)) fun a s => ?_
   obtain ⟨Aq581, cq581, Aq585, cq585, Aq586, cq586, Aq587, cq587, rfl, hq581, lq582, lq584, hq585, hq586, hq587⟩ := REntryDecl.open hdq58
   refine S s <| nsw 138 hq581 <| nsw 139 hq585 <| nsw 140 hq586 <| nsw 141 hq587 <| yw rfl (y_ldp · rfl hlq58 hmq58 (by simpa using hcq58) underlying89 rfl rfl) fun a s => ?_
   refine l_seq rfl (l_alloc (zs := [.slice none 0 0, vT ([]), vI 0, vT ([]), .slice none 0 0, .slice none 0 0, .slice none 0 0]) s 1902 rfl rfl rfl rfl fun b59 a w hb hK s => ?_)
   refine l_seq rfl (l_store (n := 7) (cs' := [sl Aq581 x54.Words cq581, vT x54.Def.Name, vI x54.Def.Strict.Op, vT x54.Def.Strict.Name, sl Aq585 x54.Def.Strict.Path cq585, sl Aq586 x54.Def.Strict.Kids cq586, sl Aq587 x54.Def.Defaults cq587]) s 1902 rfl rfl rfl rfl rfl rfl rfl rfl ?_); clear s; intro w hK s; clear hK
   obtain ⟨hk61, hg⟩ := chk_some hg
   refine S s <| nw <| lw <| mw rfl <| yw rfl (y_boxField (o' := 1) · rfl underlying89 rfl rfl rfl) <| yw rfl (y_boxField (o' := 1) · rfl underlying62 rfl rfl rfl) <| yw rfl (y_loadBox1 (kk := 1902) · rfl rfl rfl underlying9 rfl) fun a s => ?_
   refine l_seq rfl (l_buildDense (sz := 1) s 2004 rfl rfl rfl underlying25 rfl rfl rfl rfl rfl rfl rfl fun b64 a w hbb64 hK s => ?_)
   clear hbb64
   replace s := s.add 144 (rdF Rep.str (cellsOfL [vT x54.Def.Name]) ([x54.Def.Name])) (RdAll.cons (by exact ⟨rfl, (by omega)⟩) (RdAll.nil _ _ _))
   have hs66 := row_src (s.wd.holds 2004 _ rfl) (RdAll.one (s.ft 144 rfl))
   refine l_seq rfl (l_append (sz := 1) (by_ := 16) (N := (t_46 ++ [x54.Def.Name]).length) s 700132 rfl rfl rfl underlying25 rfl rfl rfl rfl rfl hs66 (by rw [List.length_append]; try rfl) rfl (rmA hk61 rfl) (rmB hk61) rfl fun Aq65 cq65 a w hA hK s => ?_)
   replace s := s.add 145 (rdF Rep.str (cs49 ++ (cellsOfL [vT x54.Def.Name])) (t_46 ++ [x54.Def.Name])) (RdAll.append (s.ft 133 rfl) (s.ft 144 rfl))
   refine asg s rfl rfl fun a s => ?_
   apply wO
   refine p_inN ?_
   refine S s <| pw <| lw <| yw rfl (y_addN (i := t_50) (j := 1) · rfl rfl (in64.2 (by omega))) <| mw rfl <| nw <| alw 133 145 rfl fun a s => ?_
   exact ⟨m2, Nat.lt_succ_self _, ⟨(t_46 ++ [x54.Def.Name]), (t_50 + 1), (Aq65), (cq65), (cs49 ++ (cellsOfL [vT x54.Def.Name])), hg, (s.sb rfl rfl rfl)⟩⟩
  replace hg := br_f hg hc51
  apply wp_exit
  refine p_then ?_
  refine p_then ?_
  refine p_in ?_
  apply pN
  replace s := s.al 131 133 rfl
  replace s := s.pk [(1000, 1000), (700118, 700118), (700130, 700132)] (by decide)
  exact ⟨(t_46), (A47), (c48), (cs49), hg, (s.sb rfl rfl rfl)⟩
 clear s a; rintro a w ⟨t_42, A43, c44, cs45, hg, s⟩
 subst hk41
 refine S s <| sw <| vw <| yw rfl (y_boxField (o' := 5) · rfl underlying38 rfl rfl rfl) <| yw rfl (y_loadBox1 (kk := 1000) · rfl rfl rfl underlying35 rfl) <| yw rfl (y_lenSlice · rfl underlying35) <| mw rfl <| nw fun a s => ?_
 obtain ⟨k67, hg, hk67⟩ := jn_some hg
 refine c_post (fun a w => ∃ (t_68 : (List (List UInt8))) (A69 : Option Addr) (c70 : Nat) (cs71 : List Value), k67 t_68 = some r ∧ St (cx f36 M w0) [(1, vP b2 0), (3, sl A17 t_16 c18), (4, sl A69 t_68 c70)] [(1000, Ob.box b2 B 38), (700118, Ob.row (A17) ((t_16).length) (c18) 9 1 (cs19)), (700146, Ob.row (A69) ((t_68).length) (c70) 9 1 (cs71))] (F ++ [(119, rdF Rep.str (cs19) (t_16)), (147, rdF Rep.str (cs71) (t_68))]) a w) ?_ ?_
 ·apply wp_block
  replace s := s.al 149 131 rfl
  replace s := s.pk [(1000, 1000), (700118, 700118), (700148, 700130)] (by decide)
  refine c_loop (σ := Nat) (fun m3 a w => ∃ (t_72 : (List (List UInt8))) (t_76 : Nat) (A73 : Option Addr) (c74 : Nat) (cs75 : List Value), module_repeats_L2 n t_ k67 m3 t_72 t_76 = some r ∧ St (cx f36 M w0) [(1, vP b2 0), (3, sl A17 t_16 c18), (4, sl A73 t_72 c74), (42, sl Ap06 t_.LexRules cp06), (43, vI ((((t_.LexRules).length : Nat) : Int))), (44, vI (((t_76 : Nat) : Int)))] [(1000, Ob.box b2 B 38), (700118, Ob.row (A17) ((t_16).length) (c18) 9 1 (cs19)), (700148, Ob.row (A73) ((t_72).length) (c74) 9 1 (cs75))] (F ++ [(119, rdF Rep.str (cs19) (t_16)), (149, rdF Rep.str (cs75) (t_72))]) a w) (fun m3 => m3) n ⟨(t_42), (0), (A43), (c44), (cs45), hg, (s.sb rfl rfl rfl)⟩ ?_
  clear s a; rintro m3 a w ⟨t_72, t_76, A73, c74, cs75, hg, s⟩
  rcases m3 with _ | m3
  ·rw [module_repeats_L2] at hg; cases hg
  rw [module_repeats_L2] at hg
  refine S s <| vw <| yw rfl (y_lssN (i := t_76) (j := ((t_.LexRules).length)) · rfl rfl) <| nw <| sw fun a s => c_dec s rfl (fun hc77 => ?_) (fun hc77 => ?_)
  ·replace hg := br_t hg hc77
   have hmx78 := SlR.mx (s.ft 105 rfl)
   obtain ⟨x80, hx80, hg⟩ := bind_some hg
   refine S s <| kw <| pw <| sw <| bw <| sw <| lw fun a s => ?_
   obtain ⟨p83, hep83, hlq84, hmq84, csq84, hdq84, hcq84⟩ := SlR.elemX (s.ft 105 rfl) hx80
   refine qq s rfl (y_elem (sz := 8) (i := t_76) s rfl rfl underlying35 rfl hep83 rfl (lt_of_get hx80)) fun a s => ?_
   obtain ⟨Aq842, cq842, Aq846, cq846, Aq847, cq847, Aq848, cq848, rfl, hq842, lq843, lq845, hq846, hq847, hq848⟩ := RLexDecl.open hdq84
   refine S s <| nsw 154 hq842 <| nsw 155 hq846 <| nsw 156 hq847 <| nsw 157 hq848 <| yw rfl (y_ldp · rfl hlq84 hmq84 (by simpa using hcq84) underlying94 rfl rfl) fun a s => ?_
   refine l_seq rfl (l_alloc (zs := [vI 0, .slice none 0 0, vT ([]), vI 0, vT ([]), .slice none 0 0, .slice none 0 0, .slice none 0 0]) s 2402 rfl rfl rfl rfl fun b85 a w hb hK s => ?_)
   refine l_seq rfl (l_store (n := 8) (cs' := [vI x80.Affix.Kind, sl Aq842 x80.Affix.Pairs cq842, vT x80.Def.Name, vI x80.Def.Strict.Op, vT x80.Def.Strict.Name, sl Aq846 x80.Def.Strict.Path cq846, sl Aq847 x80.Def.Strict.Kids cq847, sl Aq848 x80.Def.Defaults cq848]) s 2402 rfl rfl rfl rfl rfl rfl rfl rfl ?_); clear s; intro w hK s; clear hK
   obtain ⟨hk87, hg⟩ := chk_some hg
   refine S s <| nw <| lw <| mw rfl <| yw rfl (y_boxField (o' := 2) · rfl underlying94 rfl rfl rfl) <| yw rfl (y_boxField (o' := 2) · rfl underlying62 rfl rfl rfl) <| yw rfl (y_loadBox1 (kk := 2402) · rfl rfl rfl underlying9 rfl) fun a s => ?_
   refine l_seq rfl (l_buildDense (sz := 1) s 2504 rfl rfl rfl underlying25 rfl rfl rfl rfl rfl rfl rfl fun b90 a w hbb90 hK s => ?_)
   clear hbb90
   replace s := s.add 160 (rdF Rep.str (cellsOfL [vT x80.Def.Name]) ([x80.Def.Name])) (RdAll.cons (by exact ⟨rfl, (by omega)⟩) (RdAll.nil _ _ _))
   have hs92 := row_src (s.wd.holds 2504 _ rfl) (RdAll.one (s.ft 160 rfl))
   refine l_seq rfl (l_append (sz := 1) (by_ := 16) (N := (t_72 ++ [x80.Def.Name]).length) s 700148 rfl rfl rfl underlying25 rfl rfl rfl rfl rfl hs92 (by rw [List.length_append]; try rfl) rfl (rmA hk87 rfl) (rmB hk87) rfl fun Aq91 cq91 a w hA hK s => ?_)
   replace s := s.add 161 (rdF Rep.str (cs75 ++ (cellsOfL [vT x80.Def.Name])) (t_72 ++ [x80.Def.Name])) (RdAll.append (s.ft 149 rfl) (s.ft 160 rfl))
   refine asg s rfl rfl fun a s => ?_
   apply wO
   refine p_inN ?_
   refine S s <| pw <| lw <| yw rfl (y_addN (i := t_76) (j := 1) · rfl rfl (in64.2 (by omega))) <| mw rfl <| nw <| alw 149 161 rfl fun a s => ?_
   exact ⟨m3, Nat.lt_succ_self _, ⟨(t_72 ++ [x80.Def.Name]), (t_76 + 1), (Aq91), (cq91), (cs75 ++ (cellsOfL [vT x80.Def.Name])), hg, (s.sb rfl rfl rfl)⟩⟩
  replace hg := br_f hg hc77
  apply wp_exit
  refine p_then ?_
  refine p_then ?_
  refine p_in ?_
  apply pN
  replace s := s.al 147 149 rfl
  replace s := s.pk [(1000, 1000), (700118, 700118), (700146, 700148)] (by decide)
  exact ⟨(t_72), (A73), (c74), (cs75), hg, (s.sb rfl rfl rfl)⟩
 clear s a; rintro a w ⟨t_68, A69, c70, cs71, hg, s⟩
 subst hk67
 obtain ⟨r93, hr93, hg⟩ := bind_some hg
 apply wQ
 rcases Bool.eq_false_or_eq_true (r93) with hs96 | hs96
 ·replace hg := br_t hg hs96
  refine S s <| lw <| mw rfl fun a s => ?_
  have hT := s
  replace hT := hT.fz (R := Rep.str) (kk := 700118) [1000, 700146] 163 rfl rfl (hT.ft 119 rfl) rfl
  refine lC s rfl func62 (c_module_twice n _ _ hT.lt _ _ _ (hT.ft 163 rfl) _ hr93) fun v97 a w hK hp s => ?_
  obtain rfl := hp.trans (congrArg Value.bool hs96)
  refine S s <| mw rfl <| gw rfl <| gw rfl <| gw rfl <| gw rfl <| yw rfl (y_pick_t · rfl rfl) <| mw rfl <| gw rfl <| gw rfl <| gw rfl <| gw rfl <| gw rfl <| gw rfl <| yw rfl (y_pick_t · rfl rfl) <| mw rfl <| gw rfl <| gw rfl <| gw rfl <| gw rfl <| yw rfl (y_pick_t · rfl rfl) <| aw rfl <| nw fun a s => ?_
  apply wp_ret
  obtain rfl := Option.some.inj hg
  exact fin1 (fn := Tryz.f36) s rfl (r_tmp s rfl) rfl
 replace hg := br_n hg hs96
 obtain ⟨r99, hr99, hg⟩ := bind_some hg
 obtain ⟨r102, hr102, hg⟩ := bind_some hg
 rcases Bool.eq_false_or_eq_true (r102) with hs105 | hs105
 ·replace hg := br_t hg hs105
  refine S s <| lw <| mw rfl fun a s => ?_
  have hT := s
  replace hT := hT.fz (R := Rep.str) (kk := 700118) [1000, 700146] 165 rfl rfl (hT.ft 119 rfl) rfl
  refine lC s rfl func62 (c_module_twice n _ _ hT.lt _ _ _ (hT.ft 165 rfl) _ hr93) fun v106 a w hK hp s => ?_
  obtain rfl := hp.trans (congrArg Value.bool hs96)
  refine S s <| mw rfl <| zw rfl (y_boxField (o' := 3) · rfl underlying38 rfl rfl rfl) <| zw rfl (y_loadBox1 (kk := 1000) · rfl rfl rfl underlying33 rfl) fun a s => ?_
  refine gC s rfl func63 (c_module_names n _ _ s.lt _ _ _ (s.ft 103 rfl) _ hr99) fun v108 a w hK hp s => ?_
  obtain ⟨Au109a1, cu109a1, rfl, hu109a1⟩ := hp
  replace s := s.ns 166 hu109a1
  refine gC s rfl func62 (c_module_twice n _ _ s.lt _ _ _ (s.ft 166 rfl) _ hr102) fun v110 a w hK hp s => ?_
  obtain rfl := hp.trans (congrArg Value.bool hs105)
  refine S s <| yw rfl (y_pick_f · rfl rfl) <| mw rfl <| gw rfl <| gw rfl <| gw rfl <| gw rfl <| gw rfl <| gw rfl <| yw rfl (y_pick_t · rfl rfl) <| mw rfl <| gw rfl <| gw rfl <| gw rfl <| gw rfl <| yw rfl (y_pick_t · rfl rfl) <| aw rfl <| nw fun a s => ?_
  apply wp_ret
  obtain rfl := Option.some.inj hg
  exact fin1 (fn := Tryz.f36) s rfl (r_tmp s rfl) rfl
 replace hg := br_n hg hs105
 obtain ⟨r112, hr112, hg⟩ := bind_some hg
 obtain ⟨hk115, hg⟩ := chk_some hg
 obtain ⟨r118, hr118, hg⟩ := bind_some hg
 rcases Bool.eq_false_or_eq_true (r118) with hs121 | hs121
 ·replace hg := br_t hg hs121
  refine S s <| lw <| mw rfl fun a s => ?_
  have hT := s
  replace hT := hT.fz (R := Rep.str) (kk := 700118) [1000, 700146] 171 rfl rfl (hT.ft 119 rfl) rfl
  refine lC s rfl func62 (c_module_twice n _ _ hT.lt _ _ _ (hT.ft 171 rfl) _ hr93) fun v122 a w hK hp s => ?_
  obtain rfl := hp.trans (congrArg Value.bool hs96)
  refine S s <| mw rfl <| zw rfl (y_boxField (o' := 3) · rfl underlying38 rfl rfl rfl) <| zw rfl (y_loadBox1 (kk := 1000) · rfl rfl rfl underlying33 rfl) fun a s => ?_
  refine gC s rfl func63 (c_module_names n _ _ s.lt _ _ _ (s.ft 103 rfl) _ hr99) fun v124 a w hK hp s => ?_
  obtain ⟨Au125a1, cu125a1, rfl, hu125a1⟩ := hp
  replace s := s.ns 172 hu125a1
  refine gC s rfl func62 (c_module_twice n _ _ s.lt _ _ _ (s.ft 172 rfl) _ hr102) fun v126 a w hK hp s => ?_
  obtain rfl := hp.trans (congrArg Value.bool hs105)
  refine S s <| yw rfl (y_pick_f · rfl rfl) <| mw rfl <| hw rfl <| zw rfl (y_boxField (o' := 6) · rfl underlying38 rfl rfl rfl) <| zw rfl (y_loadBox1 (kk := 1000) · rfl rfl rfl underlying33 rfl) fun a s => ?_
  refine gC s rfl func63 (c_module_names n _ _ s.lt _ _ _ (s.ft 106 rfl) _ hr112) fun v128 a w hK hp s => ?_
  obtain ⟨Au129a1, cu129a1, rfl, hu129a1⟩ := hp
  replace s := s.ns 173 hu129a1
  obtain ⟨ns131, hs131, hns131⟩ := SlR.src (s.ft 173 rfl)
  replace s := s.add 174 (rdF Rep.str ns131 (r112)) hns131
  refine gl s rfl (l_append (sz := 1) (by_ := 16) (N := (t_68 ++ r112).length) s 700146 rfl rfl rfl underlying25 rfl rfl rfl rfl rfl hs131 (by rw [List.length_append]; try rfl) rfl (rmA hk115 rfl) (rmB hk115) rfl fun Aq130 cq130 a w hA hK s => ?_)
  replace s := s.add 175 (rdF Rep.str (cs71 ++ ns131) (t_68 ++ r112)) (RdAll.append (s.ft 147 rfl) (s.ft 174 rfl))
  have hT := s
  replace hT := hT.fz (R := Rep.str) (kk := 700146) [1000, 700118] 176 rfl rfl (hT.ft 175 rfl) rfl
  refine gC s rfl func62 (c_module_twice n _ _ hT.lt _ _ _ (hT.ft 176 rfl) _ hr118) fun v132 a w hK hp s => ?_
  obtain rfl := hp.trans (congrArg Value.bool hs121)
  refine S s <| yw rfl (y_pick_f · rfl rfl) <| mw rfl <| gw rfl <| gw rfl <| gw rfl <| gw rfl <| yw rfl (y_pick_t · rfl rfl) <| aw rfl <| nw fun a s => ?_
  apply wp_ret
  obtain rfl := Option.some.inj hg
  exact fin1 (fn := Tryz.f36) s rfl (r_tmp s rfl) rfl
 replace hg := br_n hg hs121
 obtain ⟨r134, hr134, hg⟩ := bind_some hg
 obtain ⟨r137, hr137, hg⟩ := bind_some hg
 refine S s <| lw <| mw rfl fun a s => ?_
 have hT := s
 replace hT := hT.fz (R := Rep.str) (kk := 700118) [1000, 700146] 178 rfl rfl (hT.ft 119 rfl) rfl
 refine lC s rfl func62 (c_module_twice n _ _ hT.lt _ _ _ (hT.ft 178 rfl) _ hr93) fun v140 a w hK hp s => ?_
 obtain rfl := hp.trans (congrArg Value.bool hs96)
 refine S s <| mw rfl <| zw rfl (y_boxField (o' := 3) · rfl underlying38 rfl rfl rfl) <| zw rfl (y_loadBox1 (kk := 1000) · rfl rfl rfl underlying33 rfl) fun a s => ?_
 refine gC s rfl func63 (c_module_names n _ _ s.lt _ _ _ (s.ft 103 rfl) _ hr99) fun v142 a w hK hp s => ?_
 obtain ⟨Au143a1, cu143a1, rfl, hu143a1⟩ := hp
 replace s := s.ns 179 hu143a1
 refine gC s rfl func62 (c_module_twice n _ _ s.lt _ _ _ (s.ft 179 rfl) _ hr102) fun v144 a w hK hp s => ?_
 obtain rfl := hp.trans (congrArg Value.bool hs105)
 refine S s <| yw rfl (y_pick_f · rfl rfl) <| mw rfl <| hw rfl <| zw rfl (y_boxField (o' := 6) · rfl underlying38 rfl rfl rfl) <| zw rfl (y_loadBox1 (kk := 1000) · rfl rfl rfl underlying33 rfl) fun a s => ?_
 refine gC s rfl func63 (c_module_names n _ _ s.lt _ _ _ (s.ft 106 rfl) _ hr112) fun v146 a w hK hp s => ?_
 obtain ⟨Au147a1, cu147a1, rfl, hu147a1⟩ := hp
 replace s := s.ns 180 hu147a1
 obtain ⟨ns149, hs149, hns149⟩ := SlR.src (s.ft 180 rfl)
 replace s := s.add 181 (rdF Rep.str ns149 (r112)) hns149
 refine gl s rfl (l_append (sz := 1) (by_ := 16) (N := (t_68 ++ r112).length) s 700146 rfl rfl rfl underlying25 rfl rfl rfl rfl rfl hs149 (by rw [List.length_append]; try rfl) rfl (rmA hk115 rfl) (rmB hk115) rfl fun Aq148 cq148 a w hA hK s => ?_)
 replace s := s.add 182 (rdF Rep.str (cs71 ++ ns149) (t_68 ++ r112)) (RdAll.append (s.ft 147 rfl) (s.ft 181 rfl))
 have hT := s
 replace hT := hT.fz (R := Rep.str) (kk := 700146) [1000, 700118] 183 rfl rfl (hT.ft 182 rfl) rfl
 refine gC s rfl func62 (c_module_twice n _ _ hT.lt _ _ _ (hT.ft 183 rfl) _ hr118) fun v150 a w hK hp s => ?_
 obtain rfl := hp.trans (congrArg Value.bool hs121)
 refine S s <| yw rfl (y_pick_f · rfl rfl) <| mw rfl <| zw rfl (y_boxField (o' := 7) · rfl underlying38 rfl rfl rfl) <| zw rfl (y_loadBox1 (kk := 1000) · rfl rfl rfl underlying33 rfl) fun a s => ?_
 refine gC s rfl func63 (c_module_names n _ _ s.lt _ _ _ (s.ft 107 rfl) _ hr134) fun v152 a w hK hp s => ?_
 obtain ⟨Au153a1, cu153a1, rfl, hu153a1⟩ := hp
 replace s := s.ns 184 hu153a1
 refine gV s rfl func62 (c_module_twice n _ _ s.lt _ _ _ (s.ft 184 rfl) _ hr137) fun a w hK s => ?_
 refine S s <| yw rfl (y_pick_f · rfl rfl) <| aw rfl <| nw fun a s => ?_
 apply wp_ret
 obtain rfl := Option.some.inj hg
 exact fin1 (fn := Tryz.f36) s rfl (r_tmp s rfl) rfl
set_option maxHeartbeats 1000000 in
theorem c_slices_IndexFunc_string (n : Nat) (M : Bs) (w0 : World) (hM : ∀ b, M b → b < w0.heap.size) (s_ : (List (List UInt8))) (Ap01 : Option Addr) (cp01 : Nat) (hp01 : sR Rep.str M w0 Ap01 cp01 s_) (f_ : ((List UInt8) → Option Bool)) (Ap11 : FuncId) (cp11 : List Value) (hp11 : FnR Tryz.prog Ap11 cp11 pre69 post69 (f_) M w0) (r : Int) (hg : slices_IndexFunc_string n s_ f_ = some r) :
    Calls Tryz.prog 64 [sl Ap01 s_ cp01, .func (.func Ap11) #[] (List.toArray cp11)].toArray w0 (Ret noB w0 fun v w => v = .int .i64 (r)) := by
 unfold slices_IndexFunc_string at hg
 refine enter M noB func64 rfl rfl hM ?_
 intro a s
 replace s := s.es 101 hp01
 replace s := s.add 102 (fnF Tryz.prog Ap11 cp11 pre69 post69 (f_)) (by exact Fact.change _ enterM hp11)
 refine S s <| vw <| aw rfl <| nw <| sw <| vw <| mw rfl <| yw rfl (y_lenSlice · rfl underlying25) <| mw rfl <| nw <| bw fun a s => ?_
 refine c_loop (σ := Nat) (fun m1 a w => ∃ (t_1 : Nat), slices_IndexFunc_string_L0 n s_ f_ m1 t_1 = some r ∧ St (cx f64 M w0) [(0, sl Ap01 s_ cp01), (1, .func (.func Ap11) #[] (List.toArray cp11)), (7, vI ((((s_).length : Nat) : Int))), (8, vI (((t_1 : Nat) : Int)))] [] [(101, sF Rep.str Ap01 cp01 s_), (102, fnF Tryz.prog Ap11 cp11 pre69 post69 (f_))] a w) (fun m1 => m1) n ⟨(0), hg, (s.sb rfl rfl rfl)⟩ ?_
 clear s a; rintro m1 a w ⟨t_1, hg, s⟩
 rcases m1 with _ | m1
 ·rw [slices_IndexFunc_string_L0] at hg; cases hg
 rw [slices_IndexFunc_string_L0] at hg
 refine S s <| vw <| yw rfl (y_lssN (i := t_1) (j := ((s_).length)) · rfl rfl) <| nw <| sw fun a s => c_dec s rfl (fun hc2 => ?_) (fun hc2 => ?_)
 ·replace hg := br_t hg hc2
  have hmx3 := SlR.mx (s.ft 101 rfl)
  obtain ⟨x5, hx5, hg⟩ := bind_some hg
  obtain ⟨r7, hr7, hg⟩ := bind_some hg
  refine S s <| kw <| pw <| sw <| bw <| vw <| mw rfl <| aw rfl <| nw <| sw <| lw <| mw rfl <| mw rfl <| mw rfl fun a s => ?_
  obtain ⟨p10, hep10, hlq11, hmq11, csq11, hdq11, hcq11⟩ := SlR.elemX (s.ft 101 rfl) hx5
  refine qq s rfl (y_elem (sz := 1) (i := t_1) s rfl rfl underlying25 rfl hep10 rfl (lt_of_get hx5)) fun a s => ?_
  obtain ⟨rfl, lq111⟩ := hdq11
  refine qq s rfl (y_ldp1 s rfl hlq11 hmq11 (hcq11 0 _ rfl) underlying9 rfl) fun a s => ?_
  refine l_seq rfl (l_callFn (cap := cp11) (x := x5) s rfl (s.ft 102 rfl) rfl rfl ⟨rfl, (by omega)⟩ hr7 fun v12 a w hK hp s => ?_)
  obtain rfl := hp
  apply wN
  refine c_cond s rfl (fun hc14 => ?_) (fun hc14 => ?_)
  ·replace hg := br_t hg hc14
   refine S s <| vw <| mw rfl <| aw rfl <| nw fun a s => ?_
   apply wp_ret
   refine p_inR ?_
   refine p_thenR ?_
   refine p_thenR ?_
   refine p_inR ?_
   refine p_thenR ?_
   obtain rfl := Option.some.inj hg
   exact fin1 (fn := Tryz.f64) s rfl (r_tmp s rfl) rfl
  replace hg := br_n hg hc14
  apply wp_skip
  refine p_inN ?_
  refine S s <| pw <| lw <| yw rfl (y_addN (i := t_1) (j := 1) · rfl rfl (in64.2 (by omega))) <| mw rfl <| nw fun a s => ?_
  exact ⟨m1, Nat.lt_succ_self _, ⟨(t_1 + 1), hg, (s.sb rfl rfl rfl)⟩⟩
 replace hg := br_f hg hc2
 apply wp_exit
 refine p_then ?_
 refine p_then ?_
 refine p_in ?_
 refine S s <| pw <| vw <| aw rfl <| nw fun a s => ?_
 apply wp_ret
 obtain rfl := Option.some.inj hg
 exact fin1 (fn := Tryz.f64) s rfl (r_tmp s rfl) rfl
set_option maxHeartbeats 1000000 in
theorem c_slices_ContainsFunc_string (n : Nat) (M : Bs) (w0 : World) (hM : ∀ b, M b → b < w0.heap.size) (s_ : (List (List UInt8))) (Ap01 : Option Addr) (cp01 : Nat) (hp01 : sR Rep.str M w0 Ap01 cp01 s_) (f_ : ((List UInt8) → Option Bool)) (Ap11 : FuncId) (cp11 : List Value) (hp11 : FnR Tryz.prog Ap11 cp11 pre69 post69 (f_) M w0) (r : Bool) (hg : slices_ContainsFunc_string n s_ f_ = some r) :
    Calls Tryz.prog 37 [sl Ap01 s_ cp01, .func (.func Ap11) #[] (List.toArray cp11)].toArray w0 (Ret noB w0 fun v w => v = .bool (r)) := by
 unfold slices_ContainsFunc_string at hg
 refine enter M noB func37 rfl rfl hM ?_
 intro a s
 replace s := s.es 101 hp01
 replace s := s.add 102 (fnF Tryz.prog Ap11 cp11 pre69 post69 (f_)) (by exact Fact.change _ enterM hp11)
 obtain ⟨r1, hr1, hg⟩ := bind_some hg
 refine S s <| vw <| aw rfl <| nw <| sw <| lw <| mw rfl <| mw rfl fun a s => ?_
 refine lV s rfl func64 (c_slices_IndexFunc_string n _ _ s.lt _ _ _ (s.ft 101 rfl) _ _ _ (s.ft 102 rfl) _ hr1) fun a w hK s => ?_
 refine S s <| yw rfl (y_geq · rfl rfl) <| aw rfl <| nw fun a s => ?_
 apply wp_ret
 obtain rfl := Option.some.inj hg
 exact fin1 (fn := Tryz.f37) s rfl (r_tmp s rfl) rfl
set_option maxHeartbeats 1000000 in
theorem c_slices_Concat_Def (n : Nat) (M : Bs) (w0 : World) (hM : ∀ b, M b → b < w0.heap.size) (slices_ : (List (List Def))) (Ap01 : Option Addr) (cp01 : Nat) (hp01 : sR (Rep.list RDef) M w0 Ap01 cp01 slices_) (r : (List Def)) (hg : slices_Concat_Def n slices_ = some r) :
    Calls Tryz.prog 106 [sl Ap01 slices_ cp01].toArray w0 (Ret noB w0 fun v w => ∃ (Ao : Option Addr), ∃ (co : Nat), ∃ (cso : List Value), v = sl Ao r co ∧ ((Ob.row Ao (r).length co 62 6 cso).holds w) ∧ (∀ b, (Ob.row Ao (r).length co 62 6 cso).ids b → w0.heap.size ≤ b) ∧ (RdAll RDef (fun b => M b ∨ (Ob.row Ao (r).length co 62 6 cso).ids b) w cso (r))) := by
 unfold slices_Concat_Def at hg
 refine enter M noB func106 rfl rfl hM ?_
 intro a s
 refine S s <| esw 101 hp01 <| vw <| aw rfl <| nw <| vw <| aw rfl <| nw <| sw <| vw <| mw rfl <| yw rfl (y_lenSlice · rfl underlying158) <| mw rfl <| nw fun a s => ?_
 obtain ⟨k1, hg, hk1⟩ := jn_some hg
 refine c_post (fun a w => ∃ (size_2 : Nat), k1 size_2 = some r ∧ St (cx f106 M w0) [(0, sl Ap01 slices_ cp01), (3, vI (((size_2 : Nat) : Int)))] [] [(101, sF (Rep.list RDef) Ap01 cp01 slices_)] a w) ?_ ?_
 ·apply wp_block
  refine c_loop (σ := Nat) (fun m1 a w => ∃ (size_3 : Nat) (t_4 : Nat), slices_Concat_Def_L0 n slices_ k1 m1 size_3 t_4 = some r ∧ St (cx f106 M w0) [(0, sl Ap01 slices_ cp01), (3, vI (((size_3 : Nat) : Int))), (9, sl Ap01 slices_ cp01), (10, vI ((((slices_).length : Nat) : Int))), (11, vI (((t_4 : Nat) : Int)))] [] [(101, sF (Rep.list RDef) Ap01 cp01 slices_)] a w) (fun m1 => m1) n ⟨(0), (0), hg, (s.sb rfl rfl rfl)⟩ ?_
  clear s a; rintro m1 a w ⟨size_3, t_4, hg, s⟩
  rcases m1 with _ | m1
  ·rw [slices_Concat_Def_L0] at hg; cases hg
  rw [slices_Concat_Def_L0] at hg
  refine S s <| vw <| yw rfl (y_lssN (i := t_4) (j := ((slices_).length)) · rfl rfl) <| nw <| sw fun a s => c_dec s rfl (fun hc5 => ?_) (fun hc5 => ?_)
  ·replace hg := br_t hg hc5
   have hmx6 := SlR.mx (s.ft 101 rfl)
   obtain ⟨x8, hx8, hg⟩ := bind_some hg
   refine S s <| kw <| pw <| sw <| bw <| sw <| lw fun a s => ?_
   obtain ⟨p10, hep10, hlq11, hmq11, csq11, hdq11, hcq11⟩ := SlR.elemX (s.ft 101 rfl) hx8
   refine qq s rfl (y_elem (sz := 1) (i := t_4) s rfl rfl underlying158 rfl hep10 rfl (lt_of_get hx8)) fun a s => ?_
   obtain ⟨Aq111, nnq11, cq111, rfl, hq111⟩ := hdq11
   obtain rfl := hq111.len
   obtain ⟨hk12, hg⟩ := chk_some hg
   refine S s <| nsw 103 hq111 <| yw rfl (y_ldp1 · rfl hlq11 hmq11 (hcq11 0 _ rfl) underlying33 rfl) <| aw rfl <| nw <| sw <| lw <| mw rfl <| mw rfl <| yw rfl (y_lenSlice · rfl underlying33) <| yw rfl (y_addN (i := size_3) (j := ((x8).length)) · rfl rfl (in64.2 (by omega))) <| aw rfl <| nw <| vw <| mw rfl <| yw rfl (y_lssN (i := (size_3 + (x8).length)) (j := 0) · rfl rfl) <| nw fun a s => c_dec s rfl (fun hc13 => ?_) (fun hc13 => ?_)
   ·replace hg := br_t hg hc13
    cases hg
   replace hg := br_f hg hc13
   apply wp_skip
   refine p_inN ?_
   refine S s <| pw <| lw <| yw rfl (y_addN (i := t_4) (j := 1) · rfl rfl (in64.2 (by omega))) <| mw rfl <| nw fun a s => ?_
   exact ⟨m1, Nat.lt_succ_self _, ⟨(size_3 + (x8).length), (t_4 + 1), hg, (s.sb rfl rfl rfl)⟩⟩
  replace hg := br_f hg hc5
  apply wp_exit
  refine p_then ?_
  refine p_then ?_
  refine p_in ?_
  apply pN
  exact ⟨(size_3), hg, (s.sb rfl rfl rfl)⟩
 clear s a; rintro a w ⟨size_2, hg, s⟩
 subst hk1
 obtain ⟨r14, hr14, hg⟩ := bind_some hg
 refine S s <| sw <| lw <| mw rfl fun a s => ?_
 refine l_seq rfl (l_callOwn (cap := []) (post := (fun v ob w' => ∃ Ao co cso, ob = Ob.row Ao (r14).length co 62 6 cso ∧ v = sl Ao r14 co ∧ RdAll RDef (fun b => mtb _ _ b ∨ ob.ids b) w' cso (r14))) s 1901 rfl rfl func125 rfl (by kernel_rfl) rfl rfl ((c_slices_Grow_Def n _ _ s.lt ((size_2 : Nat) : Int) r14 hr14).mono (fun e w' h => by obtain ⟨v, he, hk, Ao, co, cso, hv, ho1, ho2, ho3⟩ := h; exact ⟨v, he, hk, _, ho1, ho2, ⟨Ao, co, cso, rfl, hv, ho3⟩⟩)) fun v18 ob a w hK hp s => ?_)
 obtain ⟨Au17, cu17, csu17, rfl, rfl, hou17⟩ := hp
 replace s := s.add 105 (rdF RDef csu17 (r14)) (RdAll.up2 s hou17)
 refine S s <| aw rfl <| nw <| sw <| vw <| mw rfl <| yw rfl (y_lenSlice · rfl underlying158) <| mw rfl <| nw <| bw <| alw 107 105 rfl fun a s => ?_
 replace s := s.pk [(700106, 1901)] (by decide)
 refine c_loop (σ := Nat) (fun m2 a w => ∃ (newslice_19 : (List Def)) (t_23 : Nat) (A20 : Option Addr) (c21 : Nat) (cs22 : List Value), slices_Concat_Def_L1 n slices_ m2 newslice_19 t_23 = some r ∧ St (cx f106 M w0) [(6, sl A20 newslice_19 c21), (25, sl Ap01 slices_ cp01), (26, vI ((((slices_).length : Nat) : Int))), (27, vI (((t_23 : Nat) : Int)))] [(700106, Ob.row (A20) ((newslice_19).length) (c21) 62 6 (cs22))] [(101, sF (Rep.list RDef) Ap01 cp01 slices_), (107, rdF RDef (cs22) (newslice_19))] a w) (fun m2 => m2) n ⟨(r14), (0), (Au17), (cu17), (csu17), hg, (s.sb rfl rfl rfl)⟩ ?_
 clear s a; rintro m2 a w ⟨newslice_19, t_23, A20, c21, cs22, hg, s⟩
 rcases m2 with _ | m2
 ·rw [slices_Concat_Def_L1] at hg; cases hg
 rw [slices_Concat_Def_L1] at hg
 refine S s <| vw <| yw rfl (y_lssN (i := t_23) (j := ((slices_).length)) · rfl rfl) <| nw <| sw fun a s => c_dec s rfl (fun hc24 => ?_) (fun hc24 => ?_)
 ·replace hg := br_t hg hc24
  have hmx25 := SlR.mx (s.ft 101 rfl)
  obtain ⟨x27, hx27, hg⟩ := bind_some hg
  refine S s <| kw <| pw <| sw <| bw <| sw <| lw fun a s => ?_
  obtain ⟨p29, hep29, hlq30, hmq30, csq30, hdq30, hcq30⟩ := SlR.elemX (s.ft 101 rfl) hx27
  refine qq s rfl (y_elem (sz := 1) (i := t_23) s rfl rfl underlying158 rfl hep29 rfl (lt_of_get hx27)) fun a s => ?_
  obtain ⟨Aq301, nnq30, cq301, rfl, hq301⟩ := hdq30
  obtain rfl := hq301.len
  obtain ⟨hk31, hg⟩ := chk_some hg
  refine S s <| nsw 109 hq301 <| yw rfl (y_ldp1 · rfl hlq30 hmq30 (hcq30 0 _ rfl) underlying33 rfl) <| aw rfl <| nw <| lw <| mw rfl <| mw rfl fun a s => ?_
  obtain ⟨ns35, hs35, hns35⟩ := SlR.src (s.ft 109 rfl)
  replace s := s.add 112 (rdF RDef ns35 (x27)) hns35
  refine l_seq rfl (l_append (sz := 6) (by_ := 112) (N := (newslice_19 ++ x27).length) s 700106 rfl rfl rfl underlying33 rfl rfl rfl rfl rfl hs35 (by rw [List.length_append]; try rfl) rfl (rmA hk31 rfl) (rmB hk31) rfl fun Aq34 cq34 a w hA hK s => ?_)
  replace s := s.add 113 (rdF RDef (cs22 ++ ns35) (newslice_19 ++ x27)) (RdAll.append (s.ft 107 rfl) (s.ft 112 rfl))
  refine asg s rfl rfl fun a s => ?_
  apply wO
  refine p_inN ?_
  refine S s <| pw <| lw <| yw rfl (y_addN (i := t_23) (j := 1) · rfl rfl (in64.2 (by omega))) <| mw rfl <| nw <| alw 107 113 rfl fun a s => ?_
  exact ⟨m2, Nat.lt_succ_self _, ⟨(newslice_19 ++ x27), (t_23 + 1), (Aq34), (cq34), (cs22 ++ ns35), hg, (s.sb rfl rfl rfl)⟩⟩
 replace hg := br_f hg hc24
 apply wp_exit
 refine p_then ?_
 refine p_then ?_
 refine p_in ?_
 refine S s <| pw <| vw <| mw rfl <| aw rfl <| nw fun a s => ?_
 apply wp_ret
 obtain rfl := Option.some.inj hg
 refine fin1 (fn := Tryz.f106) s rfl (r_tmp s rfl) ?_
 exact ⟨(A20), (c21), (cs22), rfl, (s.wd.holds 700106 _ rfl), (row_new s (kk := 700106) rfl rfl), (RdAll.own s (kk := 700106) rfl (s.ft 107 rfl))⟩
set_option maxHeartbeats 1000000 in
theorem c_module_definitions (n : Nat) (M : Bs) (w0 : World) (hM : ∀ b, M b → b < w0.heap.size) (m_ : Module) (Ap02 : Option Addr) (cp02 : Nat) (Ap03 : Option Addr) (cp03 : Nat) (Ap04 : Option Addr) (cp04 : Nat) (Ap05 : Option Addr) (cp05 : Nat) (Ap06 : Option Addr) (cp06 : Nat) (Ap07 : Option Addr) (cp07 : Nat) (Ap08 : Option Addr) (cp08 : Nat) (Ap09 : Option Addr) (cp09 : Nat) (Ap010 : Option Addr) (cp010 : Nat) (lp01 : (m_.Name).length ≤ 9223372036854775807) (hp02 : sR Rep.str M w0 Ap02 cp02 m_.Imports) (hp03 : sR RTypeDecl M w0 Ap03 cp03 m_.Types) (hp04 : sR RDef M w0 Ap04 cp04 m_.Templates) (hp05 : sR REntryDecl M w0 Ap05 cp05 m_.Entries) (hp06 : sR RLexDecl M w0 Ap06 cp06 m_.LexRules) (hp07 : sR RDef M w0 Ap07 cp07 m_.Rules) (hp08 : sR RDef M w0 Ap08 cp08 m_.Roots) (hp09 : sR (Rep.list Rep.str) M w0 Ap09 cp09 m_.Checks) (hp010 : sR Rep.str M w0 Ap010 cp010 m_.Drops) (r : (List Def)) (hg : module_definitions n m_ = some r) :
    Calls Tryz.prog 65 [.agg #[vT m_.Name, sl Ap02 m_.Imports cp02, sl Ap03 m_.Types cp03, sl Ap04 m_.Templates cp04, sl Ap05 m_.Entries cp05, sl Ap06 m_.LexRules cp06, sl Ap07 m_.Rules cp07, sl Ap08 m_.Roots cp08, sl Ap09 m_.Checks cp09, sl Ap010 m_.Drops cp010]].toArray w0 (Ret noB w0 fun v w => ∃ (Aa1 : Option Addr), ∃ (ca1 : Nat), v = sl Aa1 r ca1 ∧ (SlR RDef M w Aa1 (r).length ca1 (r))) := by
 unfold module_definitions at hg
 refine enter M noB func65 rfl rfl hM ?_
 intro a s
 let F : Al Fact := [(101, sF Rep.str Ap02 cp02 m_.Imports), (102, sF RTypeDecl Ap03 cp03 m_.Types), (103, sF RDef Ap04 cp04 m_.Templates), (104, sF REntryDecl Ap05 cp05 m_.Entries), (105, sF RLexDecl Ap06 cp06 m_.LexRules), (106, sF RDef Ap07 cp07 m_.Rules), (107, sF RDef Ap08 cp08 m_.Roots), (108, sF (Rep.list Rep.str) Ap09 cp09 m_.Checks), (109, sF Rep.str Ap010 cp010 m_.Drops)]
 let B : List Value := [vT m_.Name, sl Ap02 m_.Imports cp02, sl Ap03 m_.Types cp03, sl Ap04 m_.Templates cp04, sl Ap05 m_.Entries cp05, sl Ap06 m_.LexRules cp06, sl Ap07 m_.Rules cp07, sl Ap08 m_.Roots cp08, sl Ap09 m_.Checks cp09, sl Ap010 m_.Drops cp010]
 refine S s <| esw 101 hp02 <| esw 102 hp03 <| esw 103 hp04 <| esw 104 hp05 <| esw 105 hp06 <| esw 106 hp07 <| esw 107 hp08 <| esw 108 hp09 <| esw 109 hp010 <| vw fun a s => ?_
 refine l_seq rfl (l_box (zs := B) s 1000 rfl rfl rfl rfl fun b2 a w hb hK s => ?_)
 obtain ⟨r4, hr4, hg⟩ := bind_some hg
 refine S s <| aw rfl <| nw <| sw <| lw <| yw rfl (y_boxField (o' := 3) · rfl underlying38 rfl rfl rfl) <| yw rfl (y_loadBox1 (kk := 1000) · rfl rfl rfl underlying33 rfl) <| yw rfl (y_boxField (o' := 6) · rfl underlying38 rfl rfl rfl) <| yw rfl (y_loadBox1 (kk := 1000) · rfl rfl rfl underlying33 rfl) <| yw rfl (y_boxField (o' := 7) · rfl underlying38 rfl rfl rfl) <| yw rfl (y_loadBox1 (kk := 1000) · rfl rfl rfl underlying33 rfl) fun a s => ?_
 refine l_seq rfl (l_buildDense (sz := 1) s 1106 rfl rfl rfl underlying158 rfl rfl rfl rfl rfl rfl rfl fun b7 a w hbb7 hK s => ?_)
 clear hbb7
 replace s := s.add 113 (rdF (Rep.list RDef) (cellsOfL [sl Ap04 m_.Templates cp04, sl Ap07 m_.Rules cp07, sl Ap08 m_.Roots cp08]) ([m_.Templates, m_.Rules, m_.Roots])) (RdAll.cons (by exact ⟨_, _, _, rfl, (s.ft 103 rfl)⟩) (RdAll.cons (by exact ⟨_, _, _, rfl, (s.ft 106 rfl)⟩) (RdAll.cons (by exact ⟨_, _, _, rfl, (s.ft 107 rfl)⟩) (RdAll.nil _ _ _))))
 replace s := s.freeze (R := (Rep.list RDef)) (kk := 1106) (L' := [(1000, Ob.box b2 B 38)]) 114 rfl rfl (s.ft 113 rfl) ⟨rfl, trivial⟩ rfl
 refine l_seq rfl (l_callOwn (cap := []) (post := (fun v ob w' => ∃ Ao co cso, ob = Ob.row Ao (r4).length co 62 6 cso ∧ v = sl Ao r4 co ∧ RdAll RDef (fun b => mtb _ _ b ∨ ob.ids b) w' cso (r4))) s 1107 rfl rfl func106 rfl (by kernel_rfl) rfl rfl ((c_slices_Concat_Def n _ _ s.lt [m_.Templates, m_.Rules, m_.Roots] (some ⟨b7, 0, none⟩) (3) (s.ft 114 rfl) _ hr4).mono (fun e w' h => by obtain ⟨v, he, hk, Ao, co, cso, hv, ho1, ho2, ho3⟩ := h; exact ⟨v, he, hk, _, ho1, ho2, ⟨Ao, co, cso, rfl, hv, ho3⟩⟩)) fun v9 ob a w hK hp s => ?_)
 obtain ⟨Au8, cu8, csu8, rfl, rfl, hou8⟩ := hp
 replace s := s.add 115 (rdF RDef csu8 (r4)) (RdAll.up2 s hou8)
 refine S s <| aw rfl <| nw <| sw <| vw <| yw rfl (y_boxField (o' := 4) · rfl underlying38 rfl rfl rfl) <| yw rfl (y_loadBox1 (kk := 1000) · rfl rfl rfl underlying34 rfl) <| yw rfl (y_lenSlice · rfl underlying34) <| mw rfl <| nw fun a s => ?_
 obtain ⟨k10, hg, hk10⟩ := jn_some hg
 refine c_post (fun a w => ∃ (out_11 : (List Def)) (A12 : Option Addr) (c13 : Nat) (cs14 : List Value), k10 out_11 = some r ∧ St (cx f65 M w0) [(1, vP b2 0), (3, sl A12 out_11 c13)] [(1000, Ob.box b2 B 38), (700116, Ob.row (A12) ((out_11).length) (c13) 62 6 (cs14))] (F ++ [(117, rdF RDef (cs14) (out_11))]) a w) ?_ ?_
 ·apply wp_block
  replace s := s.al 119 115 rfl
  replace s := s.pk [(1000, 1000), (700118, 1107)] (by decide)
  refine c_loop (σ := Nat) (fun m1 a w => ∃ (out_15 : (List Def)) (t_19 : Nat) (A16 : Option Addr) (c17 : Nat) (cs18 : List Value), module_definitions_L0 n m_ k10 m1 out_15 t_19 = some r ∧ St (cx f65 M w0) [(1, vP b2 0), (3, sl A16 out_15 c17), (17, sl Ap05 m_.Entries cp05), (18, vI ((((m_.Entries).length : Nat) : Int))), (19, vI (((t_19 : Nat) : Int)))] [(1000, Ob.box b2 B 38), (700118, Ob.row (A16) ((out_15).length) (c17) 62 6 (cs18))] (F ++ [(119, rdF RDef (cs18) (out_15))]) a w) (fun m1 => m1) n ⟨(r4), (0), (Au8), (cu8), (csu8), hg, (s.sb rfl rfl rfl)⟩ ?_
  clear s a; rintro m1 a w ⟨out_15, t_19, A16, c17, cs18, hg, s⟩
  rcases m1 with _ | m1
  ·rw [module_definitions_L0] at hg; cases hg
  rw [module_definitions_L0] at hg
  refine S s <| vw <| yw rfl (y_lssN (i := t_19) (j := ((m_.Entries).length)) · rfl rfl) <| nw <| sw fun a s => c_dec s rfl (fun hc20 => ?_) (fun hc20 => ?_)
  ·replace hg := br_t hg hc20
   have hmx21 := SlR.mx (s.ft 104 rfl)
   obtain ⟨x23, hx23, hg⟩ := bind_some hg
   refine S s <| kw <| pw <| sw <| bw <| sw <| lw fun a s => ?_
   obtain ⟨p26, hep26, hlq27, hmq27, csq27, hdq27, hcq27⟩ := SlR.elemX (s.ft 104 rfl) hx23
   refine qq s rfl (y_elem (sz := 7) (i := t_19) s rfl rfl underlying34 rfl hep26 rfl (lt_of_get hx23)) fun a s => ?_
   obtain ⟨Aq271, cq271, Aq275, cq275, Aq276, cq276, Aq277, cq277, rfl, hq271, lq272, lq274, hq275, hq276, hq277⟩ := REntryDecl.open hdq27
   refine S s <| nsw 124 hq271 <| nsw 125 hq275 <| nsw 126 hq276 <| nsw 127 hq277 <| yw rfl (y_ldp · rfl hlq27 hmq27 (by simpa using hcq27) underlying89 rfl rfl) fun a s => ?_
   refine l_seq rfl (l_alloc (zs := [.slice none 0 0, vT ([]), vI 0, vT ([]), .slice none 0 0, .slice none 0 0, .slice none 0 0]) s 1402 rfl rfl rfl rfl fun b28 a w hb hK s => ?_)
   refine l_seq rfl (l_store (n := 7) (cs' := [sl Aq271 x23.Words cq271, vT x23.Def.Name, vI x23.Def.Strict.Op, vT x23.Def.Strict.Name, sl Aq275 x23.Def.Strict.Path cq275, sl Aq276 x23.Def.Strict.Kids cq276, sl Aq277 x23.Def.Defaults cq277]) s 1402 rfl rfl rfl rfl rfl rfl rfl rfl ?_); clear s; intro w hK s; clear hK
   obtain ⟨hk30, hg⟩ := chk_some hg
   refine S s <| nw <| lw <| mw rfl <| yw rfl (y_boxField (o' := 1) · rfl underlying89 rfl rfl rfl) <| yw rfl (y_loadBox (kk := 1402) (n := 6) (vs := [vT x23.Def.Name, vI x23.Def.Strict.Op, vT x23.Def.Strict.Name, sl Aq275 x23.Def.Strict.Path cq275, sl Aq276 x23.Def.Strict.Kids cq276, sl Aq277 x23.Def.Defaults cq277]) · rfl rfl underlying62 rfl rfl rfl rfl) fun a s => ?_
   refine l_seq rfl (l_buildDense (sz := 6) s 1503 rfl rfl rfl underlying33 rfl rfl rfl rfl rfl rfl rfl fun b33 a w hbb33 hK s => ?_)
   clear hbb33
   replace s := s.add 130 (rdF RDef (cellsOfL [.agg #[vT x23.Def.Name, vI x23.Def.Strict.Op, vT x23.Def.Strict.Name, sl Aq275 x23.Def.Strict.Path cq275, sl Aq276 x23.Def.Strict.Kids cq276, sl Aq277 x23.Def.Defaults cq277]]) ([x23.Def])) (RdAll.cons (by exact (RDef.mk' (x := x23.Def) (by omega) (by omega) (s.ft 125 rfl) (s.ft 126 rfl) (s.ft 127 rfl))) (RdAll.nil _ _ _))
   have hs35 := row_src (s.wd.holds 1503 _ rfl) (RdAll.one (s.ft 130 rfl))
   refine l_seq rfl (l_append (sz := 6) (by_ := 112) (N := (out_15 ++ [x23.Def]).length) s 700118 rfl rfl rfl underlying33 rfl rfl rfl rfl rfl hs35 (by rw [List.length_append]; try rfl) rfl (rmA hk30 rfl) (rmB hk30) rfl fun Aq34 cq34 a w hA hK s => ?_)
   replace s := s.add 131 (rdF RDef (cs18 ++ (cellsOfL [.agg #[vT x23.Def.Name, vI x23.Def.Strict.Op, vT x23.Def.Strict.Name, sl Aq275 x23.Def.Strict.Path cq275, sl Aq276 x23.Def.Strict.Kids cq276, sl Aq277 x23.Def.Defaults cq277]])) (out_15 ++ [x23.Def])) (RdAll.append (s.ft 119 rfl) (s.ft 130 rfl))
   refine asg s rfl rfl fun a s => ?_
   apply wO
   refine p_inN ?_
   refine S s <| pw <| lw <| yw rfl (y_addN (i := t_19) (j := 1) · rfl rfl (in64.2 (by omega))) <| mw rfl <| nw <| alw 119 131 rfl fun a s => ?_
   exact ⟨m1, Nat.lt_succ_self _, ⟨(out_15 ++ [x23.Def]), (t_19 + 1), (Aq34), (cq34), (cs18 ++ (cellsOfL [.agg #[vT x23.Def.Name, vI x23.Def.Strict.Op, vT x23.Def.Strict.Name, sl Aq275 x23.Def.Strict.Path cq275, sl Aq276 x23.Def.Strict.Kids cq276, sl Aq277 x23.Def.Defaults cq277]])), hg, (s.sb rfl rfl rfl)⟩⟩
  replace hg := br_f hg hc20
  apply wp_exit
  refine p_then ?_
  refine p_then ?_
  refine p_in ?_
  apply pN
  replace s := s.al 117 119 rfl
  replace s := s.pk [(1000, 1000), (700116, 700118)] (by decide)
  exact ⟨(out_15), (A16), (c17), (cs18), hg, (s.sb rfl rfl rfl)⟩
 clear s a; rintro a w ⟨out_11, A12, c13, cs14, hg, s⟩
 subst hk10
 refine S s <| sw <| vw <| yw rfl (y_boxField (o' := 5) · rfl underlying38 rfl rfl rfl) <| yw rfl (y_loadBox1 (kk := 1000) · rfl rfl rfl underlying35 rfl) <| yw rfl (y_lenSlice · rfl underlying35) <| mw rfl <| nw <| bw <| alw 133 117 rfl fun a s => ?_
 replace s := s.pk [(1000, 1000), (700132, 700116)] (by decide)
 refine c_loop (σ := Nat) (fun m2 a w => ∃ (out_36 : (List Def)) (t_40 : Nat) (A37 : Option Addr) (c38 : Nat) (cs39 : List Value), module_definitions_L1 n m_ m2 out_36 t_40 = some r ∧ St (cx f65 M w0) [(3, sl A37 out_36 c38), (30, sl Ap06 m_.LexRules cp06), (31, vI ((((m_.LexRules).length : Nat) : Int))), (32, vI (((t_40 : Nat) : Int)))] [(700132, Ob.row (A37) ((out_36).length) (c38) 62 6 (cs39))] [(105, sF RLexDecl Ap06 cp06 m_.LexRules), (133, rdF RDef (cs39) (out_36))] a w) (fun m2 => m2) n ⟨(out_11), (0), (A12), (c13), (cs14), hg, (s.sb rfl rfl rfl)⟩ ?_
 clear s a; rintro m2 a w ⟨out_36, t_40, A37, c38, cs39, hg, s⟩
 rcases m2 with _ | m2
 ·rw [module_definitions_L1] at hg; cases hg
 rw [module_definitions_L1] at hg
 refine S s <| vw <| yw rfl (y_lssN (i := t_40) (j := ((m_.LexRules).length)) · rfl rfl) <| nw <| sw fun a s => c_dec s rfl (fun hc41 => ?_) (fun hc41 => ?_)
 ·replace hg := br_t hg hc41
  have hmx42 := SlR.mx (s.ft 105 rfl)
  obtain ⟨x44, hx44, hg⟩ := bind_some hg
  refine S s <| kw <| pw <| sw <| bw <| sw <| lw fun a s => ?_
  obtain ⟨p47, hep47, hlq48, hmq48, csq48, hdq48, hcq48⟩ := SlR.elemX (s.ft 105 rfl) hx44
  refine qq s rfl (y_elem (sz := 8) (i := t_40) s rfl rfl underlying35 rfl hep47 rfl (lt_of_get hx44)) fun a s => ?_
  obtain ⟨Aq482, cq482, Aq486, cq486, Aq487, cq487, Aq488, cq488, rfl, hq482, lq483, lq485, hq486, hq487, hq488⟩ := RLexDecl.open hdq48
  refine S s <| nsw 138 hq482 <| nsw 139 hq486 <| nsw 140 hq487 <| nsw 141 hq488 <| yw rfl (y_ldp · rfl hlq48 hmq48 (by simpa using hcq48) underlying94 rfl rfl) fun a s => ?_
  refine l_seq rfl (l_alloc (zs := [vI 0, .slice none 0 0, vT ([]), vI 0, vT ([]), .slice none 0 0, .slice none 0 0, .slice none 0 0]) s 1902 rfl rfl rfl rfl fun b49 a w hb hK s => ?_)
  refine l_seq rfl (l_store (n := 8) (cs' := [vI x44.Affix.Kind, sl Aq482 x44.Affix.Pairs cq482, vT x44.Def.Name, vI x44.Def.Strict.Op, vT x44.Def.Strict.Name, sl Aq486 x44.Def.Strict.Path cq486, sl Aq487 x44.Def.Strict.Kids cq487, sl Aq488 x44.Def.Defaults cq488]) s 1902 rfl rfl rfl rfl rfl rfl rfl rfl ?_); clear s; intro w hK s; clear hK
  obtain ⟨hk51, hg⟩ := chk_some hg
  refine S s <| nw <| lw <| mw rfl <| yw rfl (y_boxField (o' := 2) · rfl underlying94 rfl rfl rfl) <| yw rfl (y_loadBox (kk := 1902) (n := 6) (vs := [vT x44.Def.Name, vI x44.Def.Strict.Op, vT x44.Def.Strict.Name, sl Aq486 x44.Def.Strict.Path cq486, sl Aq487 x44.Def.Strict.Kids cq487, sl Aq488 x44.Def.Defaults cq488]) · rfl rfl underlying62 rfl rfl rfl rfl) fun a s => ?_
  refine l_seq rfl (l_buildDense (sz := 6) s 2003 rfl rfl rfl underlying33 rfl rfl rfl rfl rfl rfl rfl fun b54 a w hbb54 hK s => ?_)
  clear hbb54
  replace s := s.add 144 (rdF RDef (cellsOfL [.agg #[vT x44.Def.Name, vI x44.Def.Strict.Op, vT x44.Def.Strict.Name, sl Aq486 x44.Def.Strict.Path cq486, sl Aq487 x44.Def.Strict.Kids cq487, sl Aq488 x44.Def.Defaults cq488]]) ([x44.Def])) (RdAll.cons (by exact (RDef.mk' (x := x44.Def) (by omega) (by omega) (s.ft 139 rfl) (s.ft 140 rfl) (s.ft 141 rfl))) (RdAll.nil _ _ _))
  have hs56 := row_src (s.wd.holds 2003 _ rfl) (RdAll.one (s.ft 144 rfl))
  refine l_seq rfl (l_append (sz := 6) (by_ := 112) (N := (out_36 ++ [x44.Def]).length) s 700132 rfl rfl rfl underlying33 rfl rfl rfl rfl rfl hs56 (by rw [List.length_append]; try rfl) rfl (rmA hk51 rfl) (rmB hk51) rfl fun Aq55 cq55 a w hA hK s => ?_)
  replace s := s.add 145 (rdF RDef (cs39 ++ (cellsOfL [.agg #[vT x44.Def.Name, vI x44.Def.Strict.Op, vT x44.Def.Strict.Name, sl Aq486 x44.Def.Strict.Path cq486, sl Aq487 x44.Def.Strict.Kids cq487, sl Aq488 x44.Def.Defaults cq488]])) (out_36 ++ [x44.Def])) (RdAll.append (s.ft 133 rfl) (s.ft 144 rfl))
  refine asg s rfl rfl fun a s => ?_
  apply wO
  refine p_inN ?_
  refine S s <| pw <| lw <| yw rfl (y_addN (i := t_40) (j := 1) · rfl rfl (in64.2 (by omega))) <| mw rfl <| nw <| alw 133 145 rfl fun a s => ?_
  exact ⟨m2, Nat.lt_succ_self _, ⟨(out_36 ++ [x44.Def]), (t_40 + 1), (Aq55), (cq55), (cs39 ++ (cellsOfL [.agg #[vT x44.Def.Name, vI x44.Def.Strict.Op, vT x44.Def.Strict.Name, sl Aq486 x44.Def.Strict.Path cq486, sl Aq487 x44.Def.Strict.Kids cq487, sl Aq488 x44.Def.Defaults cq488]])), hg, (s.sb rfl rfl rfl)⟩⟩
 replace hg := br_f hg hc41
 apply wp_exit
 refine p_then ?_
 refine p_then ?_
 refine p_in ?_
 refine S s <| pw <| vw <| mw rfl <| aw rfl <| nw fun a s => ?_
 apply wp_ret
 obtain rfl := Option.some.inj hg
 refine fin1 (fn := Tryz.f65) s rfl (r_tmp s rfl) ?_
 exact ⟨(A37), (c38), rfl, (s.rowOut (R := RDef) (kk := 700132) rfl rfl (s.ft 133 rfl))⟩
end Go.Proofs.YtbhjplflnkidgaaGreat


/- Chapter 22: the walk of ModuleAgain -/
import Derived.Test.YtbhjplflnkidgaaGreatAU
import Derived.Test.YtbhjplflnkidgaaGreatWEx
import Derived.Test.YtbhjplflnkidgaaGreatWSMod
namespace Go.Proofs.YtbhjplflnkidgaaGreat
open Go.Gl Go.RowKit Tryz
set_option linter.unusedVariables false
set_option linter.unusedSimpArgs false
set_option maxRecDepth 4000

set_option maxHeartbeats 1000000 in
theorem c_law22_ModuleAgain (n : Nat) (M : Bs) (w0 : World) (hM : ∀ b, M b → b < w0.heap.size) (l_ : (List Module)) (o0 : Option Addr) (z0 : Nat) (j1 : sR RModule M w0 o0 z0 l_) (main_ : (List UInt8)) (O1 : (main_).length ≤ 9223372036854775807) (r : Bool) (hg : law22_ModuleAgain n l_ main_ = some r) :
    Calls Tryz.prog 7 [sl o0 l_ z0, vT main_].toArray w0 (Ret noB w0 fun v w => v = .bool (r)) := by
 unfold law22_ModuleAgain at hg
 refine enter M noB func7 q q hM ?_
 intro a s
 obtain ⟨r1, k1, hg⟩ := bind_some hg
 refine S s<|esw 101 j1<|vw<|aw q<|nw<|sw<|sw<|lw<|mw q fun a s => ?_
 refine lV s q func10 (c_law22_light n _ _ s.lt _ _ _ (s.ft 101 q) _ k1) fun a w hK s => ?_
 refine S s<|yw q (y_not · q)<|nw fun a s => c_cond s q (fun m0 => ?_) (fun m0 => ?_)
 ·replace hg := br_t hg m0
  obtain ⟨r7, p1, hg⟩ := bind_some hg
  apply wQ
  apply wL
  refine lV s q func11 (c_law22_exampleHolds n _ _ s.lt  _ p1) fun a w hK s => ?_
  refine S s<|aw q<|nw fun a s => ?_
  apply wp_ret
  refine p_thenR ?_
  obtain rfl := si hg
  exact fin1 (fn := Tryz.f7) s q (r_tmp s q) q
 replace hg := br_n hg m0
 obtain ⟨a0, l1, hg⟩ := bind_some hg
 refine S s<|kw<|pw<|sw<|lw<|mw q<|mw q fun a s => ?_
 refine lC s q func17 (c_module_Link n _ _ s.lt _ _ _ (s.ft 101 q) _ (by omega) _ l1) fun T1 a w hK hp s => ?_
 obtain ⟨q0, C0, r0, D0, s0, E0, t0, F0, u0, G0, v0, H0, x0, I0, y0, J0, p0, B0, rfl, P1, s1, t1, u1, v1, w1, x1, y1, z1, q1⟩ := hp
 refine S s<|nsw 111 s1<|nsw 112 t1<|nsw 113 u1<|nsw 114 v1<|nsw 115 w1<|nsw 116 x1<|nsw 117 y1<|nsw 118 z1<|nsw 119 q1<|mw q<|yw q (y_extract · q q)<|yw q (y_extract · q q) fun a s => ?_
 refine l_seq q (l_alloc (zs := [vT ([]), nS, nS, nS, nS, nS, nS, nS, nS, nS]) s 1306 q q q q fun V0 a w hb hK s => ?_)
 refine l_seq q (l_store (n := 10) (cs' := [vT a0.1.Name, sl q0 a0.1.Imports C0, sl r0 a0.1.Types D0, sl s0 a0.1.Templates E0, sl t0 a0.1.Entries F0, sl u0 a0.1.LexRules G0, sl v0 a0.1.Rules H0, sl x0 a0.1.Roots I0, sl y0 a0.1.Checks J0, sl p0 a0.1.Drops B0]) s 1306 q q q q q q q q ?_); clear s; intro w hK s; clear hK
 refine S s<|aw q<|nw<|sw<|vw<|mw q<|yw q (y_neq · q q)<|nw fun a s => c_dec s q (fun l0 => ?_) (fun l0 => ?_)
 ·replace hg := br_t hg l0
  obtain ⟨K1, K0, hg⟩ := bind_some hg
  apply wQ
  rcases Bool.eq_false_or_eq_true (K1) with e0 | e0
  ·replace hg := br_t hg e0
   obtain ⟨R1, m1, hg⟩ := bind_some hg
   refine S s<|lw<|yw q (y_loadAll (kk := 1306) · q q u38 q q)<|yw q (y_build (parts := []) (ps := []) (cells := #[vT ([]), nS, nS, nS, nS, nS, nS, nS, nS, nS]) · q (by kernel_rfl)) fun a s => ?_
   refine lC s q func19 (c_r21_SameModule n _ _ s.lt _ _ _ _ _ _ _ _ _ _ _ _ _ _ _ _ _ _ _ (by omega) (s.ft 111 q) (s.ft 112 q) (s.ft 113 q) (s.ft 114 q) (s.ft 115 q) (s.ft 116 q) (s.ft 117 q) (s.ft 118 q) (s.ft 119 q) (Module.mk [] [] [] [] [] [] [] [] [] []) (none) (0) (none) (0) (none) (0) (none) (0) (none) (0) (none) (0) (none) (0) (none) (0) (none) (0) (Nat.le_of_ble_eq_true (by rfl)) (SlR.nil_ _ _ _) (SlR.nil_ _ _ _) (SlR.nil_ _ _ _) (SlR.nil_ _ _ _) (SlR.nil_ _ _ _) (SlR.nil_ _ _ _) (SlR.nil_ _ _ _) (SlR.nil_ _ _ _) (SlR.nil_ _ _ _) _ K0) fun U1 a w hK hp s => ?_
   obtain rfl := hp.trans (congrArg Value.bool e0)
   refine mv s q q fun a s => ?_
   refine gV s q func11 (c_law22_exampleHolds n _ _ s.lt  _ m1) fun a w hK s => ?_
   refine S s<|tw_ q<|aw q<|nw fun a s => ?_
   apply wp_ret
   refine p_thenR ?_
   obtain rfl := si hg
   exact fin1 (fn := Tryz.f7) s q (r_tmp s q) q
  replace hg := br_n hg e0
  refine S s<|lw<|yw q (y_loadAll (kk := 1306) · q q u38 q q)<|yw q (y_build (parts := []) (ps := []) (cells := #[vT ([]), nS, nS, nS, nS, nS, nS, nS, nS, nS]) · q (by kernel_rfl)) fun a s => ?_
  refine lC s q func19 (c_r21_SameModule n _ _ s.lt _ _ _ _ _ _ _ _ _ _ _ _ _ _ _ _ _ _ _ (by omega) (s.ft 111 q) (s.ft 112 q) (s.ft 113 q) (s.ft 114 q) (s.ft 115 q) (s.ft 116 q) (s.ft 117 q) (s.ft 118 q) (s.ft 119 q) (Module.mk [] [] [] [] [] [] [] [] [] []) (none) (0) (none) (0) (none) (0) (none) (0) (none) (0) (none) (0) (none) (0) (none) (0) (none) (0) (Nat.le_of_ble_eq_true (by rfl)) (SlR.nil_ _ _ _) (SlR.nil_ _ _ _) (SlR.nil_ _ _ _) (SlR.nil_ _ _ _) (SlR.nil_ _ _ _) (SlR.nil_ _ _ _) (SlR.nil_ _ _ _) (SlR.nil_ _ _ _) (SlR.nil_ _ _ _) _ K0) fun V1 a w hK hp s => ?_
  obtain rfl := hp.trans (congrArg Value.bool e0)
  refine S s<|mw q<|gw q<|fw q<|aw q<|nw fun a s => ?_
  apply wp_ret
  refine p_thenR ?_
  obtain rfl := si hg
  exact fin1 (fn := Tryz.f7) s q (r_tmp s q) q
 replace hg := br_f hg l0
 obtain ⟨b0, n1, hg⟩ := bind_some hg
 refine S s<|kw<|pw<|sw<|lw<|yw q (y_loadAll (kk := 1306) · q q u38 q q) fun a s => ?_
 refine l_seq q (l_buildDense (sz := 10) s 1601 q q q u22 q q q q q q q fun X0 a w i1 hK s => ?_)
 clear i1
 refine mv s q q fun a s => ?_
 replace s := s.add 131 (rdF RModule (cellsOfL [.agg #[_, _, _, _, _, _, _, _, _, _]]) ([a0.1])) (RdAll.cons (by exact (RModule.mk' (x := a0.1) (by omega) (s.ft 111 q) (s.ft 112 q) (s.ft 113 q) (s.ft 114 q) (s.ft 115 q) (s.ft 116 q) (s.ft 117 q) (s.ft 118 q) (s.ft 119 q))) (rN))
 replace s := s.freeze (R := RModule) (kk := 1601) (L' := [(1306, Ob.box V0 [vT a0.1.Name, sl q0 a0.1.Imports C0, sl r0 a0.1.Types D0, sl s0 a0.1.Templates E0, sl t0 a0.1.Entries F0, sl u0 a0.1.LexRules G0, sl v0 a0.1.Rules H0, sl x0 a0.1.Roots I0, sl y0 a0.1.Checks J0, sl p0 a0.1.Drops B0] 38)]) 132 q q (s.ft 131 q) ⟨q, trivial⟩ q
 refine lC s q func17 (c_module_Link n _ _ s.lt [a0.1] (some ⟨X0, 0, none⟩) (1) (s.ft 132 q) _ (by omega) _ n1) fun X1 a w hK hp s => ?_
 obtain ⟨M0, Z0, O0, a1, P0, b1, Q0, c1, R0, d1, S0, e1, T0, g1, U0, h1, L0, Y0, rfl, Q1, C1, D1, E1, F1, G1, H1, I1, J1, B1⟩ := hp
 refine S s<|nsw 133 C1<|nsw 134 D1<|nsw 135 E1<|nsw 136 F1<|nsw 137 G1<|nsw 138 H1<|nsw 139 I1<|nsw 140 J1<|nsw 141 B1<|mw q<|yw q (y_extract · q q)<|yw q (y_extract · q q) fun a s => ?_
 refine l_seq q (l_alloc (zs := [vT ([]), nS, nS, nS, nS, nS, nS, nS, nS, nS]) s 1607 q q q q fun M1 a w hb hK s => ?_)
 refine l_seq q (l_store (n := 10) (cs' := [vT b0.1.Name, sl M0 b0.1.Imports Z0, sl O0 b0.1.Types a1, sl P0 b0.1.Templates b1, sl Q0 b0.1.Entries c1, sl R0 b0.1.LexRules d1, sl S0 b0.1.Rules e1, sl T0 b0.1.Roots g1, sl U0 b0.1.Checks h1, sl L0 b0.1.Drops Y0]) s 1607 q q q q q q q q ?_); clear s; intro w hK s; clear hK
 refine S s<|aw q<|nw<|sw fun a s => ?_
 rcases Decidable.em (b0.2 = 0) with g0 | g0
 ·have d0 := decide_eq_true g0
  replace hg := br_t hg g0
  obtain ⟨L1, j0, hg⟩ := bind_some hg
  rcases Bool.eq_false_or_eq_true (L1) with c0 | c0
  ·replace hg := br_t hg c0
   rcases Decidable.em ((a0.1.Name : List UInt8) = main_) with h0 | h0
   ·have k0 := decide_eq_true h0
    replace hg := br_t hg h0
    rcases Decidable.em (((a0.1.Imports).length) = 0) with i0 | i0
    ·have n0 := decide_eq_true i0
     replace hg := br_t hg i0
     obtain ⟨S1, o1, hg⟩ := bind_some hg
     refine S s<|lw<|mw q<|yw q (fun s => yl_b (y_eql s q q) d0)<|mw q<|zw q (y_loadAll (kk := 1306) · q q u38 q q)<|zw q (y_loadAll (kk := 1607) · q q u38 q q) fun a s => ?_
     refine gC s q func19 (c_r21_SameModule n _ _ s.lt _ _ _ _ _ _ _ _ _ _ _ _ _ _ _ _ _ _ _ (by omega) (s.ft 111 q) (s.ft 112 q) (s.ft 113 q) (s.ft 114 q) (s.ft 115 q) (s.ft 116 q) (s.ft 117 q) (s.ft 118 q) (s.ft 119 q) _ _ _ _ _ _ _ _ _ _ _ _ _ _ _ _ _ _ _ (by omega) (s.ft 133 q) (s.ft 134 q) (s.ft 135 q) (s.ft 136 q) (s.ft 137 q) (s.ft 138 q) (s.ft 139 q) (s.ft 140 q) (s.ft 141 q) _ j0) fun Y1 a w hK hp s => ?_
     obtain rfl := hp.trans (congrArg Value.bool c0)
     refine S s<|tw_ q<|mw q<|zw q (bF 0 · u38 q)<|zw q (lB 1306 · u9 q)<|hw q<|zw q (fun s => yl_b (y_seq s q q) k0)<|tw_ q<|mw q<|zw q (bF 1 · u38 q)<|zw q (lB 1306 · u25 q)<|zw q (lS · q u25)<|zw q (fun s => yl_b (y_eqlN (i := ((a0.1.Imports).length)) (j := 0) s q q) n0)<|tw_ q<|mw q fun a s => ?_
     refine gV s q func11 (c_law22_exampleHolds n _ _ s.lt  _ o1) fun a w hK s => ?_
     refine S s<|tw_ q<|aw q<|nw fun a s => ?_
     apply wp_ret
     obtain rfl := si hg
     exact fin1 (fn := Tryz.f7) s q (r_tmp s q) q
    have n0 := decide_eq_false i0
    replace hg := br_f hg i0
    refine S s<|lw<|mw q<|yw q (fun s => yl_b (y_eql s q q) d0)<|mw q<|zw q (y_loadAll (kk := 1306) · q q u38 q q)<|zw q (y_loadAll (kk := 1607) · q q u38 q q) fun a s => ?_
    refine gC s q func19 (c_r21_SameModule n _ _ s.lt _ _ _ _ _ _ _ _ _ _ _ _ _ _ _ _ _ _ _ (by omega) (s.ft 111 q) (s.ft 112 q) (s.ft 113 q) (s.ft 114 q) (s.ft 115 q) (s.ft 116 q) (s.ft 117 q) (s.ft 118 q) (s.ft 119 q) _ _ _ _ _ _ _ _ _ _ _ _ _ _ _ _ _ _ _ (by omega) (s.ft 133 q) (s.ft 134 q) (s.ft 135 q) (s.ft 136 q) (s.ft 137 q) (s.ft 138 q) (s.ft 139 q) (s.ft 140 q) (s.ft 141 q) _ j0) fun Z1 a w hK hp s => ?_
    obtain rfl := hp.trans (congrArg Value.bool c0)
    refine S s<|tw_ q<|mw q<|zw q (bF 0 · u38 q)<|zw q (lB 1306 · u9 q)<|hw q<|zw q (fun s => yl_b (y_seq s q q) k0)<|tw_ q<|mw q<|zw q (bF 1 · u38 q)<|zw q (lB 1306 · u25 q)<|zw q (lS · q u25)<|zw q (fun s => yl_b (y_eqlN (i := ((a0.1.Imports).length)) (j := 0) s q q) n0)<|tw_ q<|mw q<|gw q<|fw q<|aw q<|nw fun a s => ?_
    apply wp_ret
    obtain rfl := si hg
    exact fin1 (fn := Tryz.f7) s q (r_tmp s q) q
   have k0 := decide_eq_false h0
   replace hg := br_f hg h0
   refine S s<|lw<|mw q<|yw q (fun s => yl_b (y_eql s q q) d0)<|mw q<|zw q (y_loadAll (kk := 1306) · q q u38 q q)<|zw q (y_loadAll (kk := 1607) · q q u38 q q) fun a s => ?_
   refine gC s q func19 (c_r21_SameModule n _ _ s.lt _ _ _ _ _ _ _ _ _ _ _ _ _ _ _ _ _ _ _ (by omega) (s.ft 111 q) (s.ft 112 q) (s.ft 113 q) (s.ft 114 q) (s.ft 115 q) (s.ft 116 q) (s.ft 117 q) (s.ft 118 q) (s.ft 119 q) _ _ _ _ _ _ _ _ _ _ _ _ _ _ _ _ _ _ _ (by omega) (s.ft 133 q) (s.ft 134 q) (s.ft 135 q) (s.ft 136 q) (s.ft 137 q) (s.ft 138 q) (s.ft 139 q) (s.ft 140 q) (s.ft 141 q) _ j0) fun a2 a w hK hp s => ?_
   obtain rfl := hp.trans (congrArg Value.bool c0)
   refine S s<|tw_ q<|mw q<|zw q (bF 0 · u38 q)<|zw q (lB 1306 · u9 q)<|hw q<|zw q (fun s => yl_b (y_seq s q q) k0)<|tw_ q<|mw q<|gw q<|gw q<|gw q<|gw q<|fw q<|mw q<|gw q<|fw q<|aw q<|nw fun a s => ?_
   apply wp_ret
   obtain rfl := si hg
   exact fin1 (fn := Tryz.f7) s q (r_tmp s q) q
  replace hg := br_n hg c0
  refine S s<|lw<|mw q<|yw q (fun s => yl_b (y_eql s q q) d0)<|mw q<|zw q (y_loadAll (kk := 1306) · q q u38 q q)<|zw q (y_loadAll (kk := 1607) · q q u38 q q) fun a s => ?_
  refine gC s q func19 (c_r21_SameModule n _ _ s.lt _ _ _ _ _ _ _ _ _ _ _ _ _ _ _ _ _ _ _ (by omega) (s.ft 111 q) (s.ft 112 q) (s.ft 113 q) (s.ft 114 q) (s.ft 115 q) (s.ft 116 q) (s.ft 117 q) (s.ft 118 q) (s.ft 119 q) _ _ _ _ _ _ _ _ _ _ _ _ _ _ _ _ _ _ _ (by omega) (s.ft 133 q) (s.ft 134 q) (s.ft 135 q) (s.ft 136 q) (s.ft 137 q) (s.ft 138 q) (s.ft 139 q) (s.ft 140 q) (s.ft 141 q) _ j0) fun b2 a w hK hp s => ?_
  obtain rfl := hp.trans (congrArg Value.bool c0)
  refine S s<|tw_ q<|mw q<|gw q<|gw q<|gw q<|gw q<|fw q<|mw q<|gw q<|gw q<|gw q<|gw q<|fw q<|mw q<|gw q<|fw q<|aw q<|nw fun a s => ?_
  apply wp_ret
  obtain rfl := si hg
  exact fin1 (fn := Tryz.f7) s q (r_tmp s q) q
 have d0 := decide_eq_false g0
 replace hg := br_f hg g0
 refine S s<|lw<|mw q<|yw q (fun s => yl_b (y_eql s q q) d0)<|mw q<|gw q<|gw q<|gw q<|fw q<|mw q<|gw q<|gw q<|gw q<|gw q<|fw q<|mw q<|gw q<|gw q<|gw q<|gw q<|fw q<|mw q<|gw q<|fw q<|aw q<|nw fun a s => ?_
 apply wp_ret
 obtain rfl := si hg
 exact fin1 (fn := Tryz.f7) s q (r_tmp s q) q
end Go.Proofs.YtbhjplflnkidgaaGreat


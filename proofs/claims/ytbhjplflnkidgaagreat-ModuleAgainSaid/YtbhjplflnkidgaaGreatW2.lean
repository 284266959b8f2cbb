/- Chapter 22: the walks, part 2 -/
import Derived.Test.YtbhjplflnkidgaaGreatAU
import Derived.Test.YtbhjplflnkidgaaGreatW1
namespace Go.Proofs.YtbhjplflnkidgaaGreat
open Go.Gl Go.RowKit Tryz
set_option linter.unusedVariables false
set_option linter.unusedSimpArgs false
set_option maxRecDepth 4000

set_option maxHeartbeats 1000000 in
theorem c_r01_Word (n : Nat) (M : Bs) (w0 : World) (hM : ∀ b, M b → b < w0.heap.size) (s_ : (List UInt8)) (y0 : (s_).length ≤ 9223372036854775807) (r : Bool) (hg : r01_Word n s_ = some r) :
    Calls Tryz.prog 114 [vT s_].toArray w0 (Ret noB w0 fun v w => v = .bool (r)) := by
 unfold r01_Word at hg
 refine enter M noB func114 q q hM ?_
 intro a s
 refine S s<|vw<|aw q<|nw<|sw<|sw fun a s => ?_
 obtain ⟨k1, hg, t0⟩ := jn_some hg
 refine c_post (fun a w => ∃ (r0 : Bool), k1 r0 = some r ∧ St (cx f114 M w0) [(0, vT s_), (11, .bool (r0))] [] [] a w) ?_ ?_
 ·rcases Decidable.em (((s_).length) < 1) with k0 | k0
  ·have q0 := decide_eq_true k0
   replace hg := br_t hg k0
   refine S s<|lw<|mw q<|yw q (y_lenStrN · q u9)<|yw q (fun s => yl_b (y_lssN (i := ((s_).length)) (j := 1) s q q) q0)<|mw q<|gw q<|gw q<|gw q<|tw_ q<|nw fun a s => ?_
   exact ⟨(true), hg, (s.sb q q q)⟩
  have q0 := decide_eq_false k0
  replace hg := br_f hg k0
  refine S s<|lw<|mw q<|yw q (y_lenStrN · q u9)<|yw q (fun s => yl_b (y_lssN (i := ((s_).length)) (j := 1) s q q) q0)<|mw q<|hw q<|zw q (y_lenStrN · q u9)<|zw q (y_gtrN (i := ((s_).length)) (j := 32) · q q)<|fw q<|nw fun a s => ?_
  exact ⟨(decide ((32 : Nat) < ((s_).length))), hg, (s.sb q q q)⟩
 clear s a; rintro a w ⟨r0, hg, s⟩
 subst t0
 refine c_cond s q (fun m0 => ?_) (fun m0 => ?_)
 ·replace hg := br_t hg m0
  refine S s<|vw<|aw q<|nw fun a s => ?_
  apply wp_ret
  refine p_thenR ?_
  obtain rfl := si hg
  exact fin1 (fn := Tryz.f114) s q (r_tmp s q) q
 replace hg := br_n hg m0
 refine S s<|kw<|pw<|sw<|vw<|aw q<|nw<|bw fun a s => ?_
 refine c_loop (σ := Nat) (fun m1 a w => ∃ (a0 : Nat), r01_Word_L0 n s_ m1 a0 = some r ∧ St (cx f114 M w0) [(0, vT s_), (3, vI (((a0 : Nat) : Int)))] [] [] a w) (fun m1 => m1) n ⟨(0), hg, (s.sb q q q)⟩ ?_
 clear s a; rintro m1 a w ⟨a0, hg, s⟩
 rcases m1 with _ | m1
 ·rw [r01_Word_L0] at hg; cases hg
 rw [r01_Word_L0] at hg
 refine S s<|sw<|vw<|mw q<|mw q<|yw q (y_lenStrN · q u9)<|yw q (y_lssN (i := a0) (j := ((s_).length)) · q q)<|nw fun a s => c_dec s q (fun n0 => ?_) (fun n0 => ?_)
 ·replace hg := br_t hg n0
  have x0 : (s_).length ≤ 9223372036854775807 := (by omega)
  refine S s<|kw<|pw<|sw<|bw<|sw fun a s => ?_
  obtain ⟨k8, hg, u0⟩ := jn_some hg
  refine c_post (fun a w => ∃ (s0 : Bool), k8 s0 = some r ∧ St (cx f114 M w0) [(0, vT s_), (3, vI (((a0 : Nat) : Int))), (45, .bool (s0))] [] [] a w) ?_ ?_
  ·obtain ⟨b0, c0, hg⟩ := bind_some hg
   rcases Decidable.em (b0.toNat < 33) with g0 | g0
   ·have d0 := decide_eq_true g0
    replace hg := br_t hg g0
    refine S s<|lw<|mw q<|mw q<|yw q (y_indexN (i := a0) · q q u9 q c0)<|yw q (fun s => yl_b (y_lssN (i := b0.toNat) (j := 33) s q q) d0)<|mw q<|gw q<|gw q<|gw q<|gw q<|tw_ q<|mw q<|gw q<|gw q<|gw q<|gw q<|tw_ q<|mw q<|gw q<|gw q<|gw q<|gw q<|tw_ q<|mw q<|gw q<|gw q<|gw q<|gw q<|tw_ q<|nw fun a s => ?_
    exact ⟨(true), hg, (s.sb q q q)⟩
   have d0 := decide_eq_false g0
   replace hg := br_f hg g0
   rcases Decidable.em ((126 : Nat) < b0.toNat) with h0 | h0
   ·have i0 := decide_eq_true h0
    replace hg := br_t hg h0
    refine S s<|lw<|mw q<|mw q<|yw q (y_indexN (i := a0) · q q u9 q c0)<|yw q (fun s => yl_b (y_lssN (i := b0.toNat) (j := 33) s q q) d0)<|mw q<|hw q<|hw q<|zw q (y_indexN (i := a0) · q q u9 q c0)<|zw q (fun s => yl_b (y_gtrN (i := b0.toNat) (j := 126) s q q) i0)<|fw q<|mw q<|gw q<|gw q<|gw q<|gw q<|tw_ q<|mw q<|gw q<|gw q<|gw q<|gw q<|tw_ q<|mw q<|gw q<|gw q<|gw q<|gw q<|tw_ q<|nw fun a s => ?_
    exact ⟨(true), hg, (s.sb q q q)⟩
   have i0 := decide_eq_false h0
   replace hg := br_f hg h0
   obtain ⟨v0, o0, hg⟩ := bind_some hg
   rcases Bool.eq_false_or_eq_true (v0) with e0 | e0
   ·replace hg := br_t hg e0
    refine S s<|lw<|mw q<|mw q<|yw q (y_indexN (i := a0) · q q u9 q c0)<|yw q (fun s => yl_b (y_lssN (i := b0.toNat) (j := 33) s q q) d0)<|mw q<|hw q<|hw q<|zw q (y_indexN (i := a0) · q q u9 q c0)<|zw q (fun s => yl_b (y_gtrN (i := b0.toNat) (j := 126) s q q) i0)<|fw q<|mw q<|hw q<|hw q<|zw q (y_indexN (i := a0) · q q u9 q c0) fun a s => ?_
    refine gC s q func130 (c_r01_upper n _ _ s.lt _ _ o0) fun z0 a w hK hp s => ?_
    obtain rfl := hp.trans (congrArg Value.bool e0)
    refine S s<|fw q<|mw q<|gw q<|gw q<|gw q<|gw q<|tw_ q<|mw q<|gw q<|gw q<|gw q<|gw q<|tw_ q<|nw fun a s => ?_
    exact ⟨(true), hg, (s.sb q q q)⟩
   replace hg := br_n hg e0
   rcases Decidable.em (b0.toNat = 34) with j0 | j0
   ·have p0 := decide_eq_true j0
    replace hg := br_t hg j0
    refine S s<|lw<|mw q<|mw q<|yw q (y_indexN (i := a0) · q q u9 q c0)<|yw q (fun s => yl_b (y_lssN (i := b0.toNat) (j := 33) s q q) d0)<|mw q<|hw q<|hw q<|zw q (y_indexN (i := a0) · q q u9 q c0)<|zw q (fun s => yl_b (y_gtrN (i := b0.toNat) (j := 126) s q q) i0)<|fw q<|mw q<|hw q<|hw q<|zw q (y_indexN (i := a0) · q q u9 q c0) fun a s => ?_
    refine gC s q func130 (c_r01_upper n _ _ s.lt _ _ o0) fun B0 a w hK hp s => ?_
    obtain rfl := hp.trans (congrArg Value.bool e0)
    refine S s<|fw q<|mw q<|hw q<|hw q<|zw q (y_indexN (i := a0) · q q u9 q c0)<|zw q (fun s => yl_b (y_eqlN (i := b0.toNat) (j := 34) s q q) p0)<|fw q<|mw q<|gw q<|gw q<|gw q<|gw q<|tw_ q<|nw fun a s => ?_
    exact ⟨(true), hg, (s.sb q q q)⟩
   have p0 := decide_eq_false j0
   replace hg := br_f hg j0
   refine S s<|lw<|mw q<|mw q<|yw q (y_indexN (i := a0) · q q u9 q c0)<|yw q (fun s => yl_b (y_lssN (i := b0.toNat) (j := 33) s q q) d0)<|mw q<|hw q<|hw q<|zw q (y_indexN (i := a0) · q q u9 q c0)<|zw q (fun s => yl_b (y_gtrN (i := b0.toNat) (j := 126) s q q) i0)<|fw q<|mw q<|hw q<|hw q<|zw q (y_indexN (i := a0) · q q u9 q c0) fun a s => ?_
   refine gC s q func130 (c_r01_upper n _ _ s.lt _ _ o0) fun C0 a w hK hp s => ?_
   obtain rfl := hp.trans (congrArg Value.bool e0)
   refine S s<|fw q<|mw q<|hw q<|hw q<|zw q (y_indexN (i := a0) · q q u9 q c0)<|zw q (fun s => yl_b (y_eqlN (i := b0.toNat) (j := 34) s q q) p0)<|fw q<|mw q<|hw q<|hw q<|zw q (y_indexN (i := a0) · q q u9 q c0)<|zw q (y_eqlN (i := b0.toNat) (j := 92) · q q)<|fw q<|nw fun a s => ?_
   exact ⟨(decide (b0.toNat = 92)), hg, (s.sb q q q)⟩
  clear s a; rintro a w ⟨s0, hg, s⟩
  subst u0
  refine c_cond s q (fun l0 => ?_) (fun l0 => ?_)
  ·replace hg := br_t hg l0
   refine S s<|vw<|aw q<|nw fun a s => ?_
   apply wp_ret
   refine p_inR ?_
   refine p_thenR ?_
   refine p_thenR ?_
   refine p_inR ?_
   refine p_thenR ?_
   obtain rfl := si hg
   exact fin1 (fn := Tryz.f114) s q (r_tmp s q) q
  replace hg := br_n hg l0
  apply wp_skip
  refine p_inN ?_
  refine S s<|pw<|lw<|mw q<|yw q (y_addN (i := a0) (j := 1) · q q (in64.2 (by omega)))<|aw q<|nw fun a s => ?_
  exact ⟨m1, Nat.lt_succ_self _, ⟨(a0 + 1), hg, (s.sb q q q)⟩⟩
 replace hg := br_f hg n0
 apply wp_exit
 refine p_then ?_
 refine p_then ?_
 refine p_in ?_
 refine S s<|pw<|vw<|aw q<|nw fun a s => ?_
 apply wp_ret
 obtain rfl := si hg
 exact fin1 (fn := Tryz.f114) s q (r_tmp s q) q
set_option maxHeartbeats 1000000 in
theorem c_r21_entriesError (n : Nat) (M : Bs) (w0 : World) (hM : ∀ b, M b → b < w0.heap.size) (l_ : (List EntryDecl)) (b0 : Option Addr) (c0 : Nat) (Q0 : sR REntryDecl M w0 b0 c0 l_) (r : Int) (hg : r21_entriesError n l_ = some r) :
    Calls Tryz.prog 83 [sl b0 l_ c0].toArray w0 (Ret noB w0 fun v w => v = .int .i64 (r)) := by
 unfold r21_entriesError at hg
 refine enter M noB func83 q q hM ?_
 intro a s
 refine S s<|esw 101 Q0<|vw<|aw q<|nw<|sw<|vw<|aw q<|nw<|bw fun a s => ?_
 refine c_loop (σ := Nat) (fun m1 a w => ∃ (a0 : Nat), r21_entriesError_L0 n l_ m1 a0 = some r ∧ St (cx f83 M w0) [(0, sl b0 l_ c0), (3, vI (((a0 : Nat) : Int)))] [] [(101, sF REntryDecl b0 c0 l_)] a w) (fun m1 => m1) n ⟨(0), hg, (s.sb q q q)⟩ ?_
 clear s a; rintro m1 a w ⟨a0, hg, s⟩
 rcases m1 with _ | m1
 ·rw [r21_entriesError_L0] at hg; cases hg
 rw [r21_entriesError_L0] at hg
 refine S s<|sw<|vw<|mw q<|mw q<|yw q (lS · q u34)<|yw q (y_lssN (i := a0) (j := ((l_).length)) · q q)<|nw fun a s => c_dec s q (fun h0 => ?_) (fun h0 => ?_)
 ·replace hg := br_t hg h0
  have b2 := SlR.mx (s.ft 101 q)
  obtain ⟨x5, d0, hg⟩ := bind_some hg
  refine S s<|kw<|pw<|sw<|bw<|sw<|sw<|lw<|mw q<|mw q fun a s => ?_
  obtain ⟨p7, D0, J0, P0, Z1, x0, r0⟩ := SlR.elemX (s.ft 101 q) d0
  refine S s<|yw q (eL 7 a0 · u34 D0 (lt_of_get d0) q)<|yw q (pF 0 · u89 q) fun a s => ?_
  obtain ⟨y1, Q1, z1, R1, B1, S1, C1, T1, rfl, e1, k2, l2, g1, h1, i1⟩ := REntryDecl.open x0
  refine S s<|nsw 106 e1<|nsw 107 g1<|nsw 108 h1<|nsw 109 i1<|yw q (lP · J0 P0 (r0 0 _ q) u25 q)<|yw q (lS · q u25)<|yw q (y_eqlN (i := ((x5.Words).length)) (j := 0) · q q)<|nw fun a s => c_dec s q (fun k0 => ?_) (fun k0 => ?_)
  ·replace hg := br_t hg k0
   refine S s<|vw<|aw q<|nw fun a s => ?_
   apply wp_ret
   refine p_thenR ?_
   refine p_inR ?_
   refine p_thenR ?_
   refine p_thenR ?_
   refine p_inR ?_
   refine p_thenR ?_
   obtain rfl := si hg
   exact fin1 (fn := Tryz.f83) s q (r_tmp s q) q
  replace hg := br_f hg k0
  refine S s<|kw<|pw<|sw<|vw<|aw q<|nw fun a s => ?_
  obtain ⟨m0, hg, E0⟩ := jn_some hg
  refine c_post (fun a w => m0 = some r ∧ St (cx f83 M w0) [(0, sl b0 l_ c0), (3, vI (((a0 : Nat) : Int)))] [] [(101, sF REntryDecl b0 c0 l_)] a w) ?_ ?_
  ·apply wp_block
   refine c_loop (σ := Nat) (fun m2 a w => ∃ (e0 : Nat), r21_entriesError_L1 n x5 m0 m2 e0 = some r ∧ St (cx f83 M w0) [(0, sl b0 l_ c0), (3, vI (((a0 : Nat) : Int))), (4, vI (((e0 : Nat) : Int)))] [] [(101, sF REntryDecl b0 c0 l_)] a w) (fun m2 => m2) n ⟨(0), hg, (s.sb q q q)⟩ ?_
   clear s a; rintro m2 a w ⟨e0, hg, s⟩
   rcases m2 with _ | m2
   ·rw [r21_entriesError_L1] at hg; cases hg
   rw [r21_entriesError_L1] at hg
   refine S s<|sw<|vw<|mw q<|mw q<|mw q fun a s => ?_
   obtain ⟨n2, y0, F0, K0, U1, s0, n0⟩ := SlR.elemX (s.ft 101 q) d0
   refine S s<|yw q (eL 7 a0 · u34 y0 (lt_of_get d0) q)<|yw q (pF 0 · u89 q) fun a s => ?_
   obtain ⟨l1, D1, n1, E1, o1, F1, p1, G1, rfl, R0, c2, d2, S0, T0, U0⟩ := REntryDecl.open s0
   refine S s<|nsw 114 R0<|nsw 115 S0<|nsw 116 T0<|nsw 117 U0<|yw q (lP · F0 K0 (n0 0 _ q) u25 q)<|yw q (lS · q u25)<|yw q (y_lssN (i := e0) (j := ((x5.Words).length)) · q q)<|nw fun a s => c_dec s q (fun g0 => ?_) (fun g0 => ?_)
   ·replace hg := br_t hg g0
    have a2 := SlR.mx (s.ft 114 q)
    obtain ⟨t2, l0, hg⟩ := bind_some hg
    obtain ⟨r2, j1, hg⟩ := bind_some hg
    refine S s<|kw<|pw<|sw<|bw<|sw<|lw<|mw q<|mw q fun a s => ?_
    obtain ⟨o2, z0, G0, L0, V1, t0, o0⟩ := SlR.elemX (s.ft 101 q) d0
    refine S s<|yw q (eL 7 a0 · u34 z0 (lt_of_get d0) q)<|yw q (pF 0 · u89 q) fun a s => ?_
    obtain ⟨q1, H1, r1, I1, s1, J1, t1, K1, rfl, V0, e2, g2, X0, Y0, Z0⟩ := REntryDecl.open t0
    refine S s<|nsw 122 V0<|nsw 123 X0<|nsw 124 Y0<|nsw 125 Z0<|yw q (lP · G0 L0 (o0 0 _ q) u25 q)<|mw q fun a s => ?_
    obtain ⟨p2, B0, H0, M0, X1, u0, p0⟩ := SlR.elemX (s.ft 122 q) l0
    refine qq s q (eL 1 e0 s u25 B0 (lt_of_get l0) q) fun a s => ?_
    obtain ⟨rfl, h2⟩ := u0
    refine qq s q (lP s H0 M0 (p0 0 _ q) u9 q) fun a s => ?_
    refine lV s q func114 (c_r01_Word n _ _ s.lt _ (by omega) _ j1) fun a w hK s => ?_
    refine S s<|yw q (y_not · q)<|nw fun a s => c_cond s q (fun i0 => ?_) (fun i0 => ?_)
    ·replace hg := br_t hg i0
     refine S s<|vw<|aw q<|nw fun a s => ?_
     apply wp_ret
     refine p_inR ?_
     refine p_thenR ?_
     refine p_thenR ?_
     refine p_inR ?_
     refine p_thenR ?_
     refine p_inR ?_
     refine p_thenR ?_
     refine p_thenR ?_
     refine p_inR ?_
     refine p_thenR ?_
     obtain rfl := si hg
     exact fin1 (fn := Tryz.f83) s q (r_tmp s q) q
    replace hg := br_n hg i0
    apply wp_skip
    refine p_inN ?_
    refine S s<|pw<|lw<|mw q<|yw q (y_addN (i := e0) (j := 1) · q q (in64.2 (by omega)))<|aw q<|nw fun a s => ?_
    exact ⟨m2, Nat.lt_succ_self _, ⟨(e0 + 1), hg, (s.sb q q q)⟩⟩
   replace hg := br_f hg g0
   apply wp_exit
   refine p_then ?_
   refine p_then ?_
   refine p_in ?_
   apply pN
   exact ⟨hg, (s.sb q q q)⟩
  clear s a; rintro a w ⟨hg, s⟩
  subst E0
  obtain ⟨s2, k1, hg⟩ := bind_some hg
  refine S s<|sw<|lw<|mw q<|mw q fun a s => ?_
  obtain ⟨q2, C0, I0, O0, Y1, v0, q0⟩ := SlR.elemX (s.ft 101 q) d0
  refine S s<|yw q (eL 7 a0 · u34 C0 (lt_of_get d0) q)<|yw q (pF 1 · u89 q) fun a s => ?_
  obtain ⟨u1, L1, v1, M1, w1, O1, x1, P1, rfl, a1, i2, j2, b1, c1, d1⟩ := REntryDecl.open v0
  refine S s<|nsw 130 a1<|nsw 131 b1<|nsw 132 c1<|nsw 133 d1<|yw q (lD [_, _, _, _, _, _] 1 · I0 O0 q0 u62 q) fun a s => ?_
  refine lV s q func113 (c_r21_defError n _ _ s.lt _ _ _ _ _ _ _ (by omega) (by omega) (s.ft 131 q) (s.ft 132 q) (s.ft 133 q) _ k1) fun a w hK s => ?_
  refine S s<|aw q<|nw<|vw<|mw q<|yw q (y_neq · q q)<|nw fun a s => c_dec s q (fun j0 => ?_) (fun j0 => ?_)
  ·replace hg := br_t hg j0
   refine S s<|vw<|mw q<|aw q<|nw fun a s => ?_
   apply wp_ret
   refine p_inR ?_
   refine p_thenR ?_
   refine p_thenR ?_
   refine p_inR ?_
   refine p_thenR ?_
   obtain rfl := si hg
   exact fin1 (fn := Tryz.f83) s q (r_tmp s q) q
  replace hg := br_f hg j0
  apply wp_skip
  refine p_inN ?_
  refine S s<|pw<|lw<|mw q<|yw q (y_addN (i := a0) (j := 1) · q q (in64.2 (by omega)))<|aw q<|nw fun a s => ?_
  exact ⟨m1, Nat.lt_succ_self _, ⟨(a0 + 1), hg, (s.sb q q q)⟩⟩
 replace hg := br_f hg h0
 apply wp_exit
 refine p_then ?_
 refine p_then ?_
 refine p_in ?_
 refine S s<|pw<|vw<|aw q<|nw fun a s => ?_
 apply wp_ret
 obtain rfl := si hg
 exact fin1 (fn := Tryz.f83) s q (r_tmp s q) q
set_option maxHeartbeats 1000000 in
theorem c_r21_quotable (n : Nat) (M : Bs) (w0 : World) (hM : ∀ b, M b → b < w0.heap.size) (s_ : (List UInt8)) (m0 : (s_).length ≤ 9223372036854775807) (r : Bool) (hg : r21_quotable n s_ = some r) :
    Calls Tryz.prog 131 [vT s_].toArray w0 (Ret noB w0 fun v w => v = .bool (r)) := by
 unfold r21_quotable at hg
 refine enter M noB func131 q q hM ?_
 intro a s
 refine S s<|vw<|aw q<|nw<|sw<|vw<|aw q<|nw<|bw fun a s => ?_
 refine c_loop (σ := Nat) (fun m1 a w => ∃ (a0 : Nat), r21_quotable_L0 n s_ m1 a0 = some r ∧ St (cx f131 M w0) [(0, vT s_), (3, vI (((a0 : Nat) : Int)))] [] [] a w) (fun m1 => m1) n ⟨(0), hg, (s.sb q q q)⟩ ?_
 clear s a; rintro m1 a w ⟨a0, hg, s⟩
 rcases m1 with _ | m1
 ·rw [r21_quotable_L0] at hg; cases hg
 rw [r21_quotable_L0] at hg
 refine S s<|sw<|vw<|mw q<|mw q<|yw q (y_lenStrN · q u9)<|yw q (y_lssN (i := a0) (j := ((s_).length)) · q q)<|nw fun a s => c_dec s q (fun g0 => ?_) (fun g0 => ?_)
 ·replace hg := br_t hg g0
  have l0 : (s_).length ≤ 9223372036854775807 := (by omega)
  refine S s<|kw<|pw<|sw<|bw<|sw fun a s => ?_
  obtain ⟨k4, hg, k0⟩ := jn_some hg
  refine c_post (fun a w => ∃ (j0 : Bool), k4 j0 = some r ∧ St (cx f131 M w0) [(0, vT s_), (3, vI (((a0 : Nat) : Int))), (25, .bool (j0))] [] [] a w) ?_ ?_
  ·obtain ⟨c6, b0, hg⟩ := bind_some hg
   rcases Decidable.em (c6.toNat < 32) with c0 | c0
   ·have e0 := decide_eq_true c0
    replace hg := br_t hg c0
    refine S s<|lw<|mw q<|mw q<|yw q (y_indexN (i := a0) · q q u9 q b0)<|yw q (fun s => yl_b (y_lssN (i := c6.toNat) (j := 32) s q q) e0)<|mw q<|gw q<|gw q<|gw q<|gw q<|tw_ q<|mw q<|gw q<|gw q<|gw q<|gw q<|tw_ q<|nw fun a s => ?_
    exact ⟨(true), hg, (s.sb q q q)⟩
   have e0 := decide_eq_false c0
   replace hg := br_f hg c0
   rcases Decidable.em ((126 : Nat) < c6.toNat) with d0 | d0
   ·have i0 := decide_eq_true d0
    replace hg := br_t hg d0
    refine S s<|lw<|mw q<|mw q<|yw q (y_indexN (i := a0) · q q u9 q b0)<|yw q (fun s => yl_b (y_lssN (i := c6.toNat) (j := 32) s q q) e0)<|mw q<|hw q<|hw q<|zw q (y_indexN (i := a0) · q q u9 q b0)<|zw q (fun s => yl_b (y_gtrN (i := c6.toNat) (j := 126) s q q) i0)<|fw q<|mw q<|gw q<|gw q<|gw q<|gw q<|tw_ q<|nw fun a s => ?_
    exact ⟨(true), hg, (s.sb q q q)⟩
   have i0 := decide_eq_false d0
   replace hg := br_f hg d0
   refine S s<|lw<|mw q<|mw q<|yw q (y_indexN (i := a0) · q q u9 q b0)<|yw q (fun s => yl_b (y_lssN (i := c6.toNat) (j := 32) s q q) e0)<|mw q<|hw q<|hw q<|zw q (y_indexN (i := a0) · q q u9 q b0)<|zw q (fun s => yl_b (y_gtrN (i := c6.toNat) (j := 126) s q q) i0)<|fw q<|mw q<|hw q<|hw q<|zw q (y_indexN (i := a0) · q q u9 q b0)<|zw q (y_eqlN (i := c6.toNat) (j := 34) · q q)<|fw q<|nw fun a s => ?_
   exact ⟨(decide (c6.toNat = 34)), hg, (s.sb q q q)⟩
  clear s a; rintro a w ⟨j0, hg, s⟩
  subst k0
  refine c_cond s q (fun h0 => ?_) (fun h0 => ?_)
  ·replace hg := br_t hg h0
   refine S s<|vw<|aw q<|nw fun a s => ?_
   apply wp_ret
   refine p_inR ?_
   refine p_thenR ?_
   refine p_thenR ?_
   refine p_inR ?_
   refine p_thenR ?_
   obtain rfl := si hg
   exact fin1 (fn := Tryz.f131) s q (r_tmp s q) q
  replace hg := br_n hg h0
  apply wp_skip
  refine p_inN ?_
  refine S s<|pw<|lw<|mw q<|yw q (y_addN (i := a0) (j := 1) · q q (in64.2 (by omega)))<|aw q<|nw fun a s => ?_
  exact ⟨m1, Nat.lt_succ_self _, ⟨(a0 + 1), hg, (s.sb q q q)⟩⟩
 replace hg := br_f hg g0
 apply wp_exit
 refine p_then ?_
 refine p_then ?_
 refine p_in ?_
 refine S s<|pw<|vw<|aw q<|nw fun a s => ?_
 apply wp_ret
 obtain rfl := si hg
 exact fin1 (fn := Tryz.f131) s q (r_tmp s q) q
set_option maxHeartbeats 1000000 in
theorem c_r21_affixError (n : Nat) (M : Bs) (w0 : World) (hM : ∀ b, M b → b < w0.heap.size) (a_ : Affix) (b0 : Option Addr) (c0 : Nat) (K0 : sR RChange M w0 b0 c0 a_.Pairs) (r : Int) (hg : r21_affixError n a_ = some r) :
    Calls Tryz.prog 115 [.agg #[.int .i64 (a_.Kind), sl b0 a_.Pairs c0]].toArray w0 (Ret noB w0 fun v w => v = .int .i64 (r)) := by
 unfold r21_affixError at hg
 refine enter M noB func115 q q hM ?_
 intro a s
 replace s := s.es 101 K0
 apply wR
 refine l_seq q (l_box (zs := [vI a_.Kind, sl b0 a_.Pairs c0]) s 1000 q q q q fun b2 a w hb hK s => ?_)
 refine S s<|aw q<|nw<|sw<|sw fun a s => ?_
 obtain ⟨k3, hg, D0⟩ := jn_some hg
 refine c_post (fun a w => ∃ (p0 : Bool), k3 p0 = some r ∧ St (cx f115 M w0) [(1, vP b2 0), (16, .bool (p0))] [(1000, Ob.box b2 [vI a_.Kind, sl b0 a_.Pairs c0] 92)] [(101, sF RChange b0 c0 a_.Pairs)] a w) ?_ ?_
 ·rcases Decidable.em (a_.Kind ≠ 0) with g0 | g0
  ·have i0 := decide_eq_true g0
   replace hg := br_t hg g0
   rcases Decidable.em (a_.Kind ≠ 1) with h0 | h0
   ·have n0 := decide_eq_true h0
    replace hg := br_t hg h0
    refine S s<|lw<|yw q (bF 0 · u92 q)<|yw q (lB 1000 · u3 q)<|yw q (fun s => yl_b (y_neq s q q) i0)<|mw q<|zw q (bF 0 · u92 q)<|zw q (lB 1000 · u3 q)<|zw q (fun s => yl_b (y_neq s q q) n0)<|tw_ q<|mw q<|zw q (bF 0 · u92 q)<|zw q (lB 1000 · u3 q)<|zw q (y_neq · q q)<|tw_ q<|nw fun a s => ?_
    exact ⟨(decide (a_.Kind ≠ 2)), hg, (s.sb q q q)⟩
   have n0 := decide_eq_false h0
   replace hg := br_f hg h0
   refine S s<|lw<|yw q (bF 0 · u92 q)<|yw q (lB 1000 · u3 q)<|yw q (fun s => yl_b (y_neq s q q) i0)<|mw q<|zw q (bF 0 · u92 q)<|zw q (lB 1000 · u3 q)<|zw q (fun s => yl_b (y_neq s q q) n0)<|tw_ q<|mw q<|gw q<|gw q<|gw q<|fw q<|nw fun a s => ?_
   exact ⟨(false), hg, (s.sb q q q)⟩
  have i0 := decide_eq_false g0
  replace hg := br_f hg g0
  refine S s<|lw<|yw q (bF 0 · u92 q)<|yw q (lB 1000 · u3 q)<|yw q (fun s => yl_b (y_neq s q q) i0)<|mw q<|gw q<|gw q<|gw q<|fw q<|mw q<|gw q<|gw q<|gw q<|fw q<|nw fun a s => ?_
  exact ⟨(false), hg, (s.sb q q q)⟩
 clear s a; rintro a w ⟨p0, hg, s⟩
 subst D0
 refine c_cond s q (fun l0 => ?_) (fun l0 => ?_)
 ·replace hg := br_t hg l0
  refine S s<|vw<|aw q<|nw fun a s => ?_
  apply wp_ret
  refine p_thenR ?_
  obtain rfl := si hg
  exact fin1 (fn := Tryz.f115) s q (r_tmp s q) q
 replace hg := br_n hg l0
 refine S s<|kw<|pw<|sw<|vw<|yw q (bF 0 · u92 q)<|yw q (lB 1000 · u3 q)<|yw q (y_eql · q q)<|yw q (bF 1 · u92 q)<|yw q (lB 1000 · u90 q)<|yw q (lS · q u90)<|yw q (y_eqlN (i := ((a_.Pairs).length)) (j := 0) · q q)<|yw q (y_bne · q q u4)<|nw fun a s => c_cond s q (fun m0 => ?_) (fun m0 => ?_)
 ·replace hg := br_t hg m0
  refine S s<|vw<|aw q<|nw fun a s => ?_
  apply wp_ret
  refine p_thenR ?_
  obtain rfl := si hg
  exact fin1 (fn := Tryz.f115) s q (r_tmp s q) q
 replace hg := br_n hg m0
 refine S s<|kw<|pw<|sw<|vw<|aw q<|nw<|bw fun a s => ?_
 refine c_loop (σ := Nat) (fun m1 a w => ∃ (a0 : Nat), r21_affixError_L0 n a_ m1 a0 = some r ∧ St (cx f115 M w0) [(1, vP b2 0), (3, vI (((a0 : Nat) : Int)))] [(1000, Ob.box b2 [vI a_.Kind, sl b0 a_.Pairs c0] 92)] [(101, sF RChange b0 c0 a_.Pairs)] a w) (fun m1 => m1) n ⟨(0), hg, (s.sb q q q)⟩ ?_
 clear s a; rintro m1 a w ⟨a0, hg, s⟩
 rcases m1 with _ | m1
 ·rw [r21_affixError_L0] at hg; cases hg
 rw [r21_affixError_L0] at hg
 refine S s<|sw<|vw<|mw q<|yw q (bF 1 · u92 q)<|yw q (lB 1000 · u90 q)<|yw q (lS · q u90)<|yw q (y_lssN (i := a0) (j := ((a_.Pairs).length)) · q q)<|nw fun a s => c_dec s q (fun j0 => ?_) (fun j0 => ?_)
 ·replace hg := br_t hg j0
  have T0 := SlR.mx (s.ft 101 q)
  refine S s<|kw<|pw<|sw<|bw<|sw fun a s => ?_
  obtain ⟨M0, hg, C0⟩ := jn_some hg
  refine c_post (fun a w => ∃ (o0 : Bool), M0 o0 = some r ∧ St (cx f115 M w0) [(1, vP b2 0), (3, vI (((a0 : Nat) : Int))), (49, .bool (o0))] [(1000, Ob.box b2 [vI a_.Kind, sl b0 a_.Pairs c0] 92)] [(101, sF RChange b0 c0 a_.Pairs)] a w) ?_ ?_
  ·obtain ⟨e1, d0, hg⟩ := bind_some hg
   obtain ⟨O0, q0, hg⟩ := bind_some hg
   rcases Bool.eq_false_or_eq_true (!(O0)) with e0 | e0
   ·replace hg := br_t hg e0
    refine S s<|lw<|yw q (bF 1 · u92 q)<|yw q (lB 1000 · u90 q)<|mw q fun a s => ?_
    obtain ⟨b1, y0, E0, H0, Q0, u0, r0⟩ := SlR.elemX (s.ft 101 q) d0
    refine S s<|yw q (eL 2 a0 · u90 y0 (lt_of_get d0) q)<|yw q (pF 0 · u144 q) fun a s => ?_
    obtain ⟨rfl, U0, V0⟩ := RChange.open u0
    refine qq s q (lP s E0 H0 (r0 0 _ q) u9 q) fun a s => ?_
    refine lV s q func131 (c_r21_quotable n _ _ s.lt _ (by omega) _ q0) fun a w hK s => ?_
    refine S s<|yw q (fun s => yl_b (y_not s q) e0)<|mw q<|gw q<|gw q<|gw q<|gw q<|gw q<|gw q<|gw q<|gw q<|tw_ q<|nw fun a s => ?_
    exact ⟨(true), hg, (s.sb q q q)⟩
   replace hg := br_n hg e0
   obtain ⟨P0, L0, hg⟩ := bind_some hg
   refine S s<|lw<|yw q (bF 1 · u92 q)<|yw q (lB 1000 · u90 q)<|mw q fun a s => ?_
   obtain ⟨c1, z0, F0, I0, R0, v0, s0⟩ := SlR.elemX (s.ft 101 q) d0
   refine S s<|yw q (eL 2 a0 · u90 z0 (lt_of_get d0) q)<|yw q (pF 0 · u144 q) fun a s => ?_
   obtain ⟨rfl, X0, Y0⟩ := RChange.open v0
   refine qq s q (lP s F0 I0 (s0 0 _ q) u9 q) fun a s => ?_
   refine lV s q func131 (c_r21_quotable n _ _ s.lt _ (by omega) _ q0) fun a w hK s => ?_
   refine S s<|yw q (fun s => yl_b (y_not s q) e0)<|mw q<|zw q (bF 1 · u92 q)<|zw q (lB 1000 · u90 q)<|hw q fun a s => ?_
   obtain ⟨d1, B0, G0, J0, S0, x0, t0⟩ := SlR.elemX (s.ft 101 q) d0
   refine S s<|zw q (eL 2 a0 · u90 B0 (lt_of_get d0) q)<|zw q (pF 1 · u144 q) fun a s => ?_
   obtain ⟨rfl, Z0, a1⟩ := RChange.open x0
   refine gy s q (lP s G0 J0 (t0 1 _ q) u9 q) fun a s => ?_
   refine gV s q func131 (c_r21_quotable n _ _ s.lt _ (by omega) _ L0) fun a w hK s => ?_
   refine S s<|zw q (y_not · q)<|fw q<|nw fun a s => ?_
   exact ⟨(!(P0)), hg, (s.sb q q q)⟩
  clear s a; rintro a w ⟨o0, hg, s⟩
  subst C0
  refine c_cond s q (fun k0 => ?_) (fun k0 => ?_)
  ·replace hg := br_t hg k0
   refine S s<|vw<|aw q<|nw fun a s => ?_
   apply wp_ret
   refine p_inR ?_
   refine p_thenR ?_
   refine p_thenR ?_
   refine p_inR ?_
   refine p_thenR ?_
   obtain rfl := si hg
   exact fin1 (fn := Tryz.f115) s q (r_tmp s q) q
  replace hg := br_n hg k0
  apply wp_skip
  refine p_inN ?_
  refine S s<|pw<|lw<|mw q<|yw q (y_addN (i := a0) (j := 1) · q q (in64.2 (by omega)))<|aw q<|nw fun a s => ?_
  exact ⟨m1, Nat.lt_succ_self _, ⟨(a0 + 1), hg, (s.sb q q q)⟩⟩
 replace hg := br_f hg j0
 apply wp_exit
 refine p_then ?_
 refine p_then ?_
 refine p_in ?_
 refine S s<|pw<|vw<|aw q<|nw fun a s => ?_
 apply wp_ret
 obtain rfl := si hg
 exact fin1 (fn := Tryz.f115) s q (r_tmp s q) q
set_option maxHeartbeats 1000000 in
theorem c_r21_lexError (n : Nat) (M : Bs) (w0 : World) (hM : ∀ b, M b → b < w0.heap.size) (l_ : (List LexDecl)) (b0 : Option Addr) (c0 : Nat) (u0 : sR RLexDecl M w0 b0 c0 l_) (r : Int) (hg : r21_lexError n l_ = some r) :
    Calls Tryz.prog 84 [sl b0 l_ c0].toArray w0 (Ret noB w0 fun v w => v = .int .i64 (r)) := by
 unfold r21_lexError at hg
 refine enter M noB func84 q q hM ?_
 intro a s
 refine S s<|esw 101 u0<|vw<|aw q<|nw<|sw<|vw<|aw q<|nw<|bw fun a s => ?_
 refine c_loop (σ := Nat) (fun m1 a w => ∃ (a0 : Nat), r21_lexError_L0 n l_ m1 a0 = some r ∧ St (cx f84 M w0) [(0, sl b0 l_ c0), (3, vI (((a0 : Nat) : Int)))] [] [(101, sF RLexDecl b0 c0 l_)] a w) (fun m1 => m1) n ⟨(0), hg, (s.sb q q q)⟩ ?_
 clear s a; rintro m1 a w ⟨a0, hg, s⟩
 rcases m1 with _ | m1
 ·rw [r21_lexError_L0] at hg; cases hg
 rw [r21_lexError_L0] at hg
 refine S s<|sw<|vw<|mw q<|mw q<|yw q (lS · q u35)<|yw q (y_lssN (i := a0) (j := ((l_).length)) · q q)<|nw fun a s => c_dec s q (fun h0 => ?_) (fun h0 => ?_)
 ·replace hg := br_t hg h0
  have d1 := SlR.mx (s.ft 101 q)
  obtain ⟨x5, d0, hg⟩ := bind_some hg
  obtain ⟨r7, G0, hg⟩ := bind_some hg
  refine S s<|kw<|pw<|sw<|bw<|sw<|lw<|mw q<|mw q fun a s => ?_
  obtain ⟨j1, n0, q0, s0, b1, l0, j0⟩ := SlR.elemX (s.ft 101 q) d0
  refine S s<|yw q (eL 8 a0 · u35 n0 (lt_of_get d0) q)<|yw q (pF 0 · u94 q) fun a s => ?_
  obtain ⟨J0, S0, K0, T0, L0, U0, M0, V0, rfl, v0, e1, g1, x0, y0, z0⟩ := RLexDecl.open l0
  refine S s<|nsw 106 v0<|nsw 107 x0<|nsw 108 y0<|nsw 109 z0<|yw q (lD [_, _] 0 · q0 s0 j0 u92 q) fun a s => ?_
  refine lV s q func115 (c_r21_affixError n _ _ s.lt _ _ _ (s.ft 106 q) _ G0) fun a w hK s => ?_
  refine S s<|aw q<|nw<|sw<|vw<|mw q<|yw q (y_eql · q q)<|nw fun a s => ?_
  obtain ⟨H0, hg, p0⟩ := jn_some hg
  refine c_post (fun a w => ∃ (e0 : Int), H0 e0 = some r ∧ St (cx f84 M w0) [(0, sl b0 l_ c0), (3, vI (((a0 : Nat) : Int))), (4, vI e0)] [] [(101, sF RLexDecl b0 c0 l_)] a w) ?_ ?_
  ·refine c_dec s q (fun g0 => ?_) (fun g0 => ?_)
   ·replace hg := br_t hg g0
    obtain ⟨I0, F0, hg⟩ := bind_some hg
    refine S s<|lw<|mw q<|mw q fun a s => ?_
    obtain ⟨k1, o0, r0, t0, c1, m0, k0⟩ := SlR.elemX (s.ft 101 q) d0
    refine S s<|yw q (eL 8 a0 · u35 o0 (lt_of_get d0) q)<|yw q (pF 2 · u94 q) fun a s => ?_
    obtain ⟨O0, X0, P0, Y0, Q0, Z0, R0, a1, rfl, B0, h1, i1, C0, D0, E0⟩ := RLexDecl.open m0
    refine S s<|nsw 114 B0<|nsw 115 C0<|nsw 116 D0<|nsw 117 E0<|yw q (lD [_, _, _, _, _, _] 2 · r0 t0 k0 u62 q) fun a s => ?_
    refine lV s q func113 (c_r21_defError n _ _ s.lt _ _ _ _ _ _ _ (by omega) (by omega) (s.ft 115 q) (s.ft 116 q) (s.ft 117 q) _ F0) fun a w hK s => ?_
    refine S s<|aw q<|nw fun a s => ?_
    exact ⟨(I0), hg, (s.sb q q q)⟩
   replace hg := br_f hg g0
   apply wp_skip
   apply pN
   exact ⟨(r7), hg, (s.sb q q q)⟩
  clear s a; rintro a w ⟨e0, hg, s⟩
  subst p0
  refine S s<|vw<|mw q<|yw q (y_neq · q q)<|nw fun a s => c_dec s q (fun i0 => ?_) (fun i0 => ?_)
  ·replace hg := br_t hg i0
   refine S s<|vw<|mw q<|aw q<|nw fun a s => ?_
   apply wp_ret
   refine p_inR ?_
   refine p_thenR ?_
   refine p_thenR ?_
   refine p_inR ?_
   refine p_thenR ?_
   obtain rfl := si hg
   exact fin1 (fn := Tryz.f84) s q (r_tmp s q) q
  replace hg := br_f hg i0
  apply wp_skip
  refine p_inN ?_
  refine S s<|pw<|lw<|mw q<|yw q (y_addN (i := a0) (j := 1) · q q (in64.2 (by omega)))<|aw q<|nw fun a s => ?_
  exact ⟨m1, Nat.lt_succ_self _, ⟨(a0 + 1), hg, (s.sb q q q)⟩⟩
 replace hg := br_f hg h0
 apply wp_exit
 refine p_then ?_
 refine p_then ?_
 refine p_in ?_
 refine S s<|pw<|vw<|aw q<|nw fun a s => ?_
 apply wp_ret
 obtain rfl := si hg
 exact fin1 (fn := Tryz.f84) s q (r_tmp s q) q
set_option maxHeartbeats 1000000 in
theorem c_r21_checksError (n : Nat) (M : Bs) (w0 : World) (hM : ∀ b, M b → b < w0.heap.size) (l_ : (List (List (List UInt8)))) (c0 : Option Addr) (d0 : Nat) (D0 : sR (Rep.list Rep.str) M w0 c0 d0 l_) (r : Int) (hg : r21_checksError n l_ = some r) :
    Calls Tryz.prog 85 [sl c0 l_ d0].toArray w0 (Ret noB w0 fun v w => v = .int .i64 (r)) := by
 unfold r21_checksError at hg
 refine enter M noB func85 q q hM ?_
 intro a s
 refine S s<|esw 101 D0<|vw<|aw q<|nw<|sw<|vw<|aw q<|nw<|bw fun a s => ?_
 refine c_loop (σ := Nat) (fun m1 a w => ∃ (a0 : Nat), r21_checksError_L0 n l_ m1 a0 = some r ∧ St (cx f85 M w0) [(0, sl c0 l_ d0), (3, vI (((a0 : Nat) : Int)))] [] [(101, sF (Rep.list Rep.str) c0 d0 l_)] a w) (fun m1 => m1) n ⟨(0), hg, (s.sb q q q)⟩ ?_
 clear s a; rintro m1 a w ⟨a0, hg, s⟩
 rcases m1 with _ | m1
 ·rw [r21_checksError_L0] at hg; cases hg
 rw [r21_checksError_L0] at hg
 refine S s<|sw<|vw<|mw q<|mw q<|yw q (lS · q u36)<|yw q (y_lssN (i := a0) (j := ((l_).length)) · q q)<|nw fun a s => c_dec s q (fun g0 => ?_) (fun g0 => ?_)
 ·replace hg := br_t hg g0
  have Q0 := SlR.mx (s.ft 101 q)
  obtain ⟨x5, b0, hg⟩ := bind_some hg
  refine S s<|kw<|pw<|sw<|bw<|sw<|sw<|lw<|mw q<|mw q fun a s => ?_
  obtain ⟨p7, u0, y0, C0, O0, r0, o0⟩ := SlR.elemX (s.ft 101 q) b0
  refine qq s q (eL 1 a0 s u36 u0 (lt_of_get b0) q) fun a s => ?_
  obtain ⟨H0, T0, K0, rfl, l0⟩ := r0
  obtain rfl := l0.len
  refine S s<|nsw 103 l0<|yw q (lP · y0 C0 (o0 0 _ q) u25 q)<|yw q (lS · q u25)<|yw q (y_eqlN (i := ((x5).length)) (j := 0) · q q)<|nw fun a s => c_dec s q (fun i0 => ?_) (fun i0 => ?_)
  ·replace hg := br_t hg i0
   refine S s<|vw<|aw q<|nw fun a s => ?_
   apply wp_ret
   refine p_thenR ?_
   refine p_inR ?_
   refine p_thenR ?_
   refine p_thenR ?_
   refine p_inR ?_
   refine p_thenR ?_
   obtain rfl := si hg
   exact fin1 (fn := Tryz.f85) s q (r_tmp s q) q
  replace hg := br_f hg i0
  refine S s<|kw<|pw<|sw<|vw<|mw q<|mw q fun a s => ?_
  obtain ⟨U0, s0, v0, z0, L0, p0, m0⟩ := SlR.elemX (s.ft 101 q) b0
  refine qq s q (eL 1 a0 s u36 s0 (lt_of_get b0) q) fun a s => ?_
  obtain ⟨F0, R0, I0, rfl, j0⟩ := p0
  obtain rfl := j0.len
  refine S s<|nsw 105 j0<|yw q (lP · v0 z0 (m0 0 _ q) u25 q)<|yw q (lS · q u25)<|yw q (y_gtrN (i := ((x5).length)) (j := 64) · q q)<|nw fun a s => c_dec s q (fun e0 => ?_) (fun e0 => ?_)
  ·replace hg := br_t hg e0
   have P0 := SlR.mx (s.ft 105 q)
   refine S s<|vw<|aw q<|nw fun a s => ?_
   apply wp_ret
   refine p_thenR ?_
   refine p_inR ?_
   refine p_thenR ?_
   refine p_thenR ?_
   refine p_inR ?_
   refine p_thenR ?_
   obtain rfl := si hg
   exact fin1 (fn := Tryz.f85) s q (r_tmp s q) q
  replace hg := br_f hg e0
  obtain ⟨X0, E0, hg⟩ := bind_some hg
  refine S s<|kw<|pw<|sw<|lw<|mw q<|mw q fun a s => ?_
  obtain ⟨V0, t0, x0, B0, M0, q0, n0⟩ := SlR.elemX (s.ft 101 q) b0
  refine qq s q (eL 1 a0 s u36 t0 (lt_of_get b0) q) fun a s => ?_
  obtain ⟨G0, S0, J0, rfl, k0⟩ := q0
  obtain rfl := k0.len
  refine S s<|nsw 107 k0<|yw q (lP · x0 B0 (n0 0 _ q) u25 q) fun a s => ?_
  refine lV s q func79 (c_r21_allNames n _ _ s.lt _ _ _ (s.ft 107 q) _ _ E0) fun a w hK s => ?_
  refine S s<|yw q (y_not · q)<|nw fun a s => c_cond s q (fun h0 => ?_) (fun h0 => ?_)
  ·replace hg := br_t hg h0
   refine S s<|vw<|aw q<|nw fun a s => ?_
   apply wp_ret
   refine p_inR ?_
   refine p_thenR ?_
   refine p_thenR ?_
   refine p_inR ?_
   refine p_thenR ?_
   obtain rfl := si hg
   exact fin1 (fn := Tryz.f85) s q (r_tmp s q) q
  replace hg := br_n hg h0
  apply wp_skip
  refine p_inN ?_
  refine S s<|pw<|lw<|mw q<|yw q (y_addN (i := a0) (j := 1) · q q (in64.2 (by omega)))<|aw q<|nw fun a s => ?_
  exact ⟨m1, Nat.lt_succ_self _, ⟨(a0 + 1), hg, (s.sb q q q)⟩⟩
 replace hg := br_f hg g0
 apply wp_exit
 refine p_then ?_
 refine p_then ?_
 refine p_in ?_
 refine S s<|pw<|vw<|aw q<|nw fun a s => ?_
 apply wp_ret
 obtain rfl := si hg
 exact fin1 (fn := Tryz.f85) s q (r_tmp s q) q
set_option maxHeartbeats 1000000 in
theorem c_r21_moduleError (n : Nat) (M : Bs) (w0 : World) (hM : ∀ b, M b → b < w0.heap.size) (m_ : Module) (c0 : Option Addr) (m0 : Nat) (d0 : Option Addr) (n0 : Nat) (e0 : Option Addr) (o0 : Nat) (g0 : Option Addr) (p0 : Nat) (h0 : Option Addr) (q0 : Nat) (i0 : Option Addr) (r0 : Nat) (j0 : Option Addr) (s0 : Nat) (k0 : Option Addr) (t0 : Nat) (b0 : Option Addr) (l0 : Nat) (o1 : (m_.Name).length ≤ 9223372036854775807) (P0 : sR Rep.str M w0 c0 m0 m_.Imports) (Q0 : sR RTypeDecl M w0 d0 n0 m_.Types) (R0 : sR RDef M w0 e0 o0 m_.Templates) (S0 : sR REntryDecl M w0 g0 p0 m_.Entries) (T0 : sR RLexDecl M w0 h0 q0 m_.LexRules) (U0 : sR RDef M w0 i0 r0 m_.Rules) (V0 : sR RDef M w0 j0 s0 m_.Roots) (X0 : sR (Rep.list Rep.str) M w0 k0 t0 m_.Checks) (O0 : sR Rep.str M w0 b0 l0 m_.Drops) (r : Int) (hg : r21_moduleError n m_ = some r) :
    Calls Tryz.prog 53 [.agg #[vT m_.Name, sl c0 m_.Imports m0, sl d0 m_.Types n0, sl e0 m_.Templates o0, sl g0 m_.Entries p0, sl h0 m_.LexRules q0, sl i0 m_.Rules r0, sl j0 m_.Roots s0, sl k0 m_.Checks t0, sl b0 m_.Drops l0]].toArray w0 (Ret noB w0 fun v w => v = .int .i64 (r)) := by
 unfold r21_moduleError at hg
 refine enter M noB func53 q q hM ?_
 intro a s
 refine S s<|esw 101 P0<|esw 102 Q0<|esw 103 R0<|esw 104 S0<|esw 105 T0<|esw 106 U0<|esw 107 V0<|esw 108 X0<|esw 109 O0<|vw fun a s => ?_
 refine l_seq q (l_box (zs := [vT m_.Name, sl c0 m_.Imports m0, sl d0 m_.Types n0, sl e0 m_.Templates o0, sl g0 m_.Entries p0, sl h0 m_.LexRules q0, sl i0 m_.Rules r0, sl j0 m_.Roots s0, sl k0 m_.Checks t0, sl b0 m_.Drops l0]) s 1000 q q q q fun b2 a w hb hK s => ?_)
 obtain ⟨r3, c1, hg⟩ := bind_some hg
 refine S s<|aw q<|nw<|sw<|sw<|lw<|yw q (bF 0 · u38 q)<|yw q (lB 1000 · u9 q) fun a s => ?_
 refine lV s q func77 (c_r01_Name n _ _ s.lt _ (by omega) _ c1) fun a w hK s => ?_
 refine S s<|yw q (y_not · q)<|nw fun a s => c_cond s q (fun y0 => ?_) (fun y0 => ?_)
 ·replace hg := br_t hg y0
  refine S s<|vw<|aw q<|nw fun a s => ?_
  apply wp_ret
  refine p_thenR ?_
  obtain rfl := si hg
  exact fin1 (fn := Tryz.f53) s q (r_tmp s q) q
 replace hg := br_n hg y0
 obtain ⟨r9, k1, hg⟩ := bind_some hg
 refine S s<|kw<|pw<|sw<|sw<|lw<|yw q (y_loadAll (kk := 1000) · q q u38 q q) fun a s => ?_
 refine lV s q func78 (c_r21_long n _ _ s.lt _ _ _ _ _ _ _ _ _ _ _ _ _ _ _ _ _ _ _ (by omega) (s.ft 101 q) (s.ft 102 q) (s.ft 103 q) (s.ft 104 q) (s.ft 105 q) (s.ft 106 q) (s.ft 107 q) (s.ft 108 q) (s.ft 109 q) _ k1) fun a w hK s => ?_
 apply wN
 refine c_cond s q (fun u0 => ?_) (fun u0 => ?_)
 ·replace hg := br_t hg u0
  refine S s<|vw<|aw q<|nw fun a s => ?_
  apply wp_ret
  refine p_thenR ?_
  obtain rfl := si hg
  exact fin1 (fn := Tryz.f53) s q (r_tmp s q) q
 replace hg := br_n hg u0
 obtain ⟨p1, Y0, hg⟩ := bind_some hg
 refine S s<|kw<|pw<|sw<|sw<|lw<|yw q (bF 1 · u38 q)<|yw q (lB 1000 · u25 q) fun a s => ?_
 refine lV s q func79 (c_r21_allNames n _ _ s.lt _ _ _ (s.ft 101 q) _ _ Y0) fun a w hK s => ?_
 refine S s<|yw q (y_not · q)<|nw fun a s => c_cond s q (fun v0 => ?_) (fun v0 => ?_)
 ·replace hg := br_t hg v0
  refine S s<|vw<|aw q<|nw fun a s => ?_
  apply wp_ret
  refine p_thenR ?_
  obtain rfl := si hg
  exact fin1 (fn := Tryz.f53) s q (r_tmp s q) q
 replace hg := br_n hg v0
 obtain ⟨B0, Z0, hg⟩ := bind_some hg
 obtain ⟨C0, a1, hg⟩ := bind_some hg
 obtain ⟨D0, b1, hg⟩ := bind_some hg
 obtain ⟨E0, d1, hg⟩ := bind_some hg
 obtain ⟨F0, e1, hg⟩ := bind_some hg
 obtain ⟨G0, g1, hg⟩ := bind_some hg
 obtain ⟨H0, h1, hg⟩ := bind_some hg
 obtain ⟨K0, i1, hg⟩ := bind_some hg
 apply wp_skip
 apply pN
 apply wQ
 refine d_plan s [] [(0, some 0), (1, some 1000), (3, some 0), (4, some 1000), (6, some 0), (7, some 1000), (9, some 0), (10, some 1000), (12, some 0), (13, some 1000), (15, some 0), (16, some 1000), (18, some 0), (19, some 1000), (2, none), (5, none), (8, none), (11, none), (14, none), (17, none), (20, none), (21, none), (22, none), (23, none)] q (by kernel_rfl) (by kernel_rfl) q ?_; clear s; intro wr hZ s; have hR := s.wd
 refine S s<|qw hR q (bF 2 · u38 q)<|qw hR q (lB 1000 · u32 q)<|qw hR q (bF 3 · u38 q)<|qw hR q (lB 1000 · u33 q)<|qw hR q (bF 4 · u38 q)<|qw hR q (lB 1000 · u34 q)<|qw hR q (bF 5 · u38 q)<|qw hR q (lB 1000 · u35 q)<|qw hR q (bF 6 · u38 q)<|qw hR q (lB 1000 · u33 q)<|qw hR q (bF 7 · u38 q)<|qw hR q (lB 1000 · u33 q)<|qw hR q (bF 8 · u38 q)<|qw hR q (lB 1000 · u36 q) fun a s => ?_
 refine l_take s q q (l_call (cap := []) s q func81 q (by kernel_rfl) q q (c_r21_typesError n _ _ s.lt _ _ _ (s.ft 102 q) _ Z0) fun q1 a w hK hp s => ?_)
 refine gz hZ hK fun hZ => ?_; clear hK
 obtain rfl := hp
 refine l_take s q q (l_call (cap := []) s q func82 q (by kernel_rfl) q q (c_r21_defsError n _ _ s.lt _ _ _ (s.ft 103 q) _ a1) fun r1 a w hK hp s => ?_)
 refine gz hZ hK fun hZ => ?_; clear hK
 obtain rfl := hp
 refine l_take s q q (l_call (cap := []) s q func83 q (by kernel_rfl) q q (c_r21_entriesError n _ _ s.lt _ _ _ (s.ft 104 q) _ b1) fun s1 a w hK hp s => ?_)
 refine gz hZ hK fun hZ => ?_; clear hK
 obtain rfl := hp
 refine l_take s q q (l_call (cap := []) s q func84 q (by kernel_rfl) q q (c_r21_lexError n _ _ s.lt _ _ _ (s.ft 105 q) _ d1) fun t1 a w hK hp s => ?_)
 refine gz hZ hK fun hZ => ?_; clear hK
 obtain rfl := hp
 refine l_take s q q (l_call (cap := []) s q func82 q (by kernel_rfl) q q (c_r21_defsError n _ _ s.lt _ _ _ (s.ft 106 q) _ e1) fun u1 a w hK hp s => ?_)
 refine gz hZ hK fun hZ => ?_; clear hK
 obtain rfl := hp
 refine l_take s q q (l_call (cap := []) s q func82 q (by kernel_rfl) q q (c_r21_defsError n _ _ s.lt _ _ _ (s.ft 107 q) _ g1) fun v1 a w hK hp s => ?_)
 refine gz hZ hK fun hZ => ?_; clear hK
 obtain rfl := hp
 refine l_take s q q (l_call (cap := []) s q func85 q (by kernel_rfl) q q (c_r21_checksError n _ _ s.lt _ _ _ (s.ft 108 q) _ h1) fun w1 a w hK hp s => ?_)
 refine gz hZ hK fun hZ => ?_; clear hK
 obtain rfl := hp
 refine l_take s q q (l_buildDense (sz := 1) s 1721 q q q u113 q q q q q q q fun L0 a w J0 hK s => ?_)
 have n1 := NewA.lit hZ J0
 clear J0
 refine gz hZ hK fun hZ => ?_; clear hK
 replace s := s.add 112 (rdF (Rep.num .i64) (cellsOfL [vI B0, vI C0, vI D0, vI E0, vI F0, vI G0, vI H0]) ([B0, C0, D0, E0, F0, G0, H0])) (RdAll.cons (by exact q) (RdAll.cons (by exact q) (RdAll.cons (by exact q) (RdAll.cons (by exact q) (RdAll.cons (by exact q) (RdAll.cons (by exact q) (RdAll.cons (by exact q) (rN))))))))
 have hT := s
 replace hT := hT.fz (R := (Rep.num .i64)) (kk := 1721) [1000] 113 q q (hT.ft 112 q) q
 refine l_take s q q (l_call (cap := []) s q func80 q (by kernel_rfl) q q (c_r21_first n _ _ hT.lt [B0, C0, D0, E0, F0, G0, H0] (some ⟨L0, 0, none⟩) (7) (hT.ft 113 q) _ i1) fun x1 a w hK hp s => ?_)
 refine gz hZ hK fun hZ => ?_; clear hK
 obtain rfl := hp
 refine S s<|tw q (y_assign · q) fun a s => ?_
 clear hR hZ
 apply pN
 apply wQ
 apply wQ
 obtain ⟨l1, hg, M0⟩ := jn_some hg
 refine c_post (fun a w => ∃ (I0 : Bool), l1 I0 = some r ∧ St (cx f53 M w0) [(3, vI K0), (44, .bool (I0))] [] [] a w) ?_ ?_
 ·rcases Decidable.em (K0 = 0) with a0 | a0
  ·have z0 := decide_eq_true a0
   replace hg := br_t hg a0
   obtain ⟨m1, j1, hg⟩ := bind_some hg
   refine S s<|lw<|mw q<|yw q (fun s => yl_b (y_eql s q q) z0)<|mw q<|zw q (bF 9 · u38 q)<|zw q (lB 1000 · u25 q) fun a s => ?_
   refine gV s q func79 (c_r21_allNames n _ _ s.lt _ _ _ (s.ft 109 q) _ _ j1) fun a w hK s => ?_
   refine S s<|zw q (y_not · q)<|tw_ q<|nw fun a s => ?_
   exact ⟨(!(m1)), hg, (s.sb q q q)⟩
  have z0 := decide_eq_false a0
  replace hg := br_f hg a0
  refine S s<|lw<|mw q<|yw q (fun s => yl_b (y_eql s q q) z0)<|mw q<|gw q<|gw q<|gw q<|gw q<|fw q<|nw fun a s => ?_
  exact ⟨(false), hg, (s.sb q q q)⟩
 clear s a; rintro a w ⟨I0, hg, s⟩
 subst M0
 refine c_cond s q (fun x0 => ?_) (fun x0 => ?_)
 ·replace hg := br_t hg x0
  refine S s<|lw<|aw q<|nw<|vw<|mw q<|aw q<|nw fun a s => ?_
  apply wp_ret
  obtain rfl := si hg
  exact fin1 (fn := Tryz.f53) s q (r_tmp s q) q
 replace hg := br_n hg x0
 refine S s<|kw<|pw<|vw<|mw q<|aw q<|nw fun a s => ?_
 apply wp_ret
 obtain rfl := si hg
 exact fin1 (fn := Tryz.f53) s q (r_tmp s q) q
set_option maxHeartbeats 1000000 in
theorem c_r21_joined (n : Nat) (M : Bs) (w0 : World) (hM : ∀ b, M b → b < w0.heap.size) (l_ : (List (List UInt8))) (b0 : Option Addr) (c0 : Nat) (r0 : sR Rep.str M w0 b0 c0 l_) (between_ : (List UInt8)) (v0 : (between_).length ≤ 9223372036854775807) (r : (List UInt8)) (hg : r21_joined n l_ between_ = some r) :
    Calls Tryz.prog 88 [sl b0 l_ c0, vT between_].toArray w0 (Ret noB w0 fun v w => v = vT r ∧ ((r).length ≤ 9223372036854775807)) := by
 unfold r21_joined at hg
 refine enter M noB func88 q q hM ?_
 intro a s
 refine S s<|esw 101 r0<|vw<|aw q<|nw<|vw<|aw q<|nw<|sw<|vw<|aw q<|nw<|bw fun a s => ?_
 refine c_loop (σ := Nat) (fun m1 a w => ∃ (d0 : (List UInt8)) (a0 : Nat), r21_joined_L0 n l_ between_ m1 d0 a0 = some r ∧ ((d0).length ≤ 9223372036854775807) ∧ St (cx f88 M w0) [(0, sl b0 l_ c0), (1, vT between_), (5, vT d0), (6, vI (((a0 : Nat) : Int)))] [] [(101, sF Rep.str b0 c0 l_)] a w) (fun m1 => m1) n ⟨([]), (0), hg, (Nat.le_of_ble_eq_true (by rfl)), (s.sb q q q)⟩ ?_
 clear s a; rintro m1 a w ⟨d0, a0, hg, y0, s⟩
 rcases m1 with _ | m1
 ·rw [r21_joined_L0] at hg; cases hg
 rw [r21_joined_L0] at hg
 refine S s<|sw<|vw<|mw q<|mw q<|yw q (lS · q u25)<|yw q (y_lssN (i := a0) (j := ((l_).length)) · q q)<|nw fun a s => c_dec s q (fun g0 => ?_) (fun g0 => ?_)
 ·replace hg := br_t hg g0
  have u0 := SlR.mx (s.ft 101 q)
  refine S s<|kw<|pw<|sw<|bw<|sw<|vw<|mw q<|yw q (y_gtrN (i := a0) (j := 0) · q q)<|nw fun a s => ?_
  obtain ⟨k5, hg, n0⟩ := jn_some hg
  refine c_post (fun a w => ∃ (e0 : (List UInt8)), k5 e0 = some r ∧ ((e0).length ≤ 9223372036854775807) ∧ St (cx f88 M w0) [(0, sl b0 l_ c0), (1, vT between_), (5, vT e0), (6, vI (((a0 : Nat) : Int)))] [] [(101, sF Rep.str b0 c0 l_)] a w) ?_ ?_
  ·refine c_dec s q (fun h0 => ?_) (fun h0 => ?_)
   ·replace hg := br_t hg h0
    obtain ⟨o0, hg⟩ := chk_some hg
    refine S s<|lw<|mw q<|mw q<|yw q (y_concat · q q o0)<|aw q<|nw fun a s => ?_
    exact ⟨(d0 ++ between_), hg, (by rw [List.length_append]; omega), (s.sb q q q)⟩
   replace hg := br_f hg h0
   apply wp_skip
   apply pN
   exact ⟨(d0), hg, (by omega), (s.sb q q q)⟩
  clear s a; rintro a w ⟨e0, hg, z0, s⟩
  subst n0
  obtain ⟨s0, i0, hg⟩ := bind_some hg
  obtain ⟨m0, hg⟩ := chk_some hg
  refine S s<|lw<|mw q<|mw q<|mw q fun a s => ?_
  obtain ⟨B0, l0, p0, q0, t0, k0, j0⟩ := SlR.elemX (s.ft 101 q) i0
  refine qq s q (eL 1 a0 s u25 l0 (lt_of_get i0) q) fun a s => ?_
  obtain ⟨rfl, x0⟩ := k0
  refine S s<|yw q (lP · p0 q0 (j0 0 _ q) u9 q)<|yw q (y_concat · q q m0)<|aw q fun a s => ?_
  apply wO
  refine p_inN ?_
  refine S s<|pw<|lw<|mw q<|yw q (y_addN (i := a0) (j := 1) · q q (in64.2 (by omega)))<|aw q<|nw fun a s => ?_
  exact ⟨m1, Nat.lt_succ_self _, ⟨(e0 ++ s0), (a0 + 1), hg, (by rw [List.length_append]; omega), (s.sb q q q)⟩⟩
 replace hg := br_f hg g0
 apply wp_exit
 refine p_then ?_
 refine p_then ?_
 refine p_in ?_
 refine S s<|pw<|vw<|mw q<|aw q<|nw fun a s => ?_
 apply wp_ret
 obtain rfl := si hg
 refine fin1 (fn := Tryz.f88) s q (r_tmp s q) ?_
 exact ⟨q, (by omega)⟩
set_option maxHeartbeats 1000000 in
theorem c_r21_typed (n : Nat) (M : Bs) (w0 : World) (hM : ∀ b, M b → b < w0.heap.size) (x_ : TypeDecl) (b0 : Option Addr) (d0 : Nat) (c0 : Option Addr) (e0 : Nat) (U0 : (x_.Name).length ≤ 9223372036854775807) (L0 : sR Rep.str M w0 b0 d0 x_.Supers) (M0 : sR RFeatDecl M w0 c0 e0 x_.Feats) (r : (List UInt8)) (hg : r21_typed n x_ = some r) :
    Calls Tryz.prog 86 [.agg #[vT x_.Name, sl b0 x_.Supers d0, sl c0 x_.Feats e0]].toArray w0 (Ret noB w0 fun v w => v = vT r ∧ ((r).length ≤ 9223372036854775807)) := by
 unfold r21_typed at hg
 refine enter M noB func86 q q hM ?_
 intro a s
 let F : Al Fact := [(101, sF Rep.str b0 d0 x_.Supers), (102, sF RFeatDecl c0 e0 x_.Feats)]
 refine S s<|esw 101 L0<|esw 102 M0<|vw fun a s => ?_
 refine l_seq q (l_box (zs := [vT x_.Name, sl b0 x_.Supers d0, sl c0 x_.Feats e0]) s 1000 q q q q fun b2 a w hb hK s => ?_)
 obtain ⟨C0, hg⟩ := chk_some hg
 refine S s<|aw q<|nw<|sw<|lw<|yw q (bF 0 · u49 q)<|yw q (lB 1000 · u9 q)<|yw q (y_concat · q q C0)<|aw q<|nw<|sw<|vw<|yw q (bF 1 · u49 q)<|yw q (lB 1000 · u25 q)<|yw q (lS · q u25)<|yw q (y_gtrN (i := ((x_.Supers).length)) (j := 0) · q q)<|nw fun a s => ?_
 obtain ⟨k4, hg, F0⟩ := jn_some hg
 refine c_post (fun a w => ∃ (i0 : (List UInt8)), k4 i0 = some r ∧ ((i0).length ≤ 9223372036854775807) ∧ St (cx f86 M w0) [(1, vP b2 0), (3, vT i0)] [(1000, Ob.box b2 [vT x_.Name, sl b0 x_.Supers d0, sl c0 x_.Feats e0] 49)] F a w) ?_ ?_
 ·refine c_dec s q (fun m0 => ?_) (fun m0 => ?_)
  ·replace hg := br_t hg m0
   have T0 := SlR.mx (s.ft 101 q)
   obtain ⟨G0, hg⟩ := chk_some hg
   obtain ⟨r9, O0, hg⟩ := bind_some hg
   obtain ⟨u0, hg⟩ := chk_some hg
   refine S s<|lw<|mw q<|yw q (y_concat · q q G0)<|yw q (bF 1 · u49 q)<|yw q (lB 1000 · u25 q) fun a s => ?_
   refine lC s q func88 (c_r21_joined n _ _ s.lt _ _ _ (s.ft 101 q) _ (Nat.le_of_ble_eq_true (by rfl)) _ O0) fun h1 a w hK hp s => ?_
   obtain ⟨rfl, d1⟩ := hp
   refine S s<|yw q (y_concat · q q u0)<|aw q<|nw fun a s => ?_
   exact ⟨((([116, 121, 112, 101, 32] ++ x_.Name) ++ [32, 60, 32]) ++ r9), hg, (by rw [List.length_append]; omega), (s.sb q q q)⟩
  replace hg := br_f hg m0
  apply wp_skip
  apply pN
  exact ⟨([116, 121, 112, 101, 32] ++ x_.Name), hg, (by rw [List.length_append]; omega), (s.sb q q q)⟩
 clear s a; rintro a w ⟨i0, hg, c1, s⟩
 subst F0
 refine S s<|sw<|vw<|aw q<|nw<|bw fun a s => ?_
 refine c_loop (σ := Nat) (fun m1 a w => ∃ (g0 : (List UInt8)) (a0 : Nat), r21_typed_L0 n x_ m1 g0 a0 = some r ∧ ((g0).length ≤ 9223372036854775807) ∧ St (cx f86 M w0) [(1, vP b2 0), (3, vT g0), (4, vI (((a0 : Nat) : Int)))] [(1000, Ob.box b2 [vT x_.Name, sl b0 x_.Supers d0, sl c0 x_.Feats e0] 49)] F a w) (fun m1 => m1) n ⟨(i0), (0), hg, (by omega), (s.sb q q q)⟩ ?_
 clear s a; rintro m1 a w ⟨g0, a0, hg, a1, s⟩
 rcases m1 with _ | m1
 ·rw [r21_typed_L0] at hg; cases hg
 rw [r21_typed_L0] at hg
 refine S s<|sw<|vw<|mw q<|yw q (bF 2 · u49 q)<|yw q (lB 1000 · u47 q)<|yw q (lS · q u47)<|yw q (y_lssN (i := a0) (j := ((x_.Feats).length)) · q q)<|nw fun a s => c_dec s q (fun k0 => ?_) (fun k0 => ?_)
 ·replace hg := br_t hg k0
  have S0 := SlR.mx (s.ft 102 q)
  refine S s<|kw<|pw<|sw<|bw<|sw<|vw<|mw q<|yw q (y_eqlN (i := a0) (j := 0) · q q)<|nw fun a s => ?_
  obtain ⟨P0, hg, v0⟩ := jn_some hg
  refine c_post (fun a w => ∃ (h0 : (List UInt8)), P0 h0 = some r ∧ ((h0).length ≤ 9223372036854775807) ∧ St (cx f86 M w0) [(1, vP b2 0), (3, vT h0), (4, vI (((a0 : Nat) : Int)))] [(1000, Ob.box b2 [vT x_.Name, sl b0 x_.Supers d0, sl c0 x_.Feats e0] 49)] F a w) ?_ ?_
  ·refine c_dec s q (fun l0 => ?_) (fun l0 => ?_)
   ·replace hg := br_t hg l0
    obtain ⟨x0, hg⟩ := chk_some hg
    refine S s<|lw<|mw q<|yw q (y_concat · q q x0)<|aw q<|nw fun a s => ?_
    exact ⟨(g0 ++ [32, 58, 32]), hg, (by rw [List.length_append]; omega), (s.sb q q q)⟩
   replace hg := br_f hg l0
   obtain ⟨y0, hg⟩ := chk_some hg
   refine S s<|lw<|mw q<|yw q (y_concat · q q y0)<|aw q<|nw fun a s => ?_
   exact ⟨(g0 ++ [44, 32]), hg, (by rw [List.length_append]; omega), (s.sb q q q)⟩
  clear s a; rintro a w ⟨h0, hg, b1, s⟩
  subst v0
  obtain ⟨n0, j0, hg⟩ := bind_some hg
  obtain ⟨z0, hg⟩ := chk_some hg
  obtain ⟨B0, hg⟩ := chk_some hg
  obtain ⟨D0, hg⟩ := chk_some hg
  refine d_plan s [] [(0, some 0), (1, some 0), (2, some 1000), (3, some 0), (4, some 0), (5, some 0), (6, some 0), (7, some 0), (8, some 0), (9, some 0), (10, some 1000), (11, some 0), (12, some 0), (13, some 0), (14, some 0), (15, some 0), (16, some 0)] q (by kernel_rfl) (by kernel_rfl) q ?_; clear s; intro wr hZ s; have hR := s.wd
  refine S s<|qw hR q (mo · q)<|qw hR q (bF 2 · u49 q)<|qw hR q (lB 1000 · u47 q)<|qw hR q (mo · q) fun a s => ?_
  obtain ⟨e1, s0, H0, J0, Q0, q0, o0⟩ := SlR.elemX (s.ft 102 q) j0
  refine S s<|qw hR q (eL 2 a0 · u47 s0 (lt_of_get j0) q)<|qw hR q (pF 0 · u82 q) fun a s => ?_
  obtain ⟨rfl, V0, X0⟩ := RFeatDecl.open q0
  refine S s<|qw hR q (lP · H0 J0 (o0 0 _ q) u9 q)<|qw hR q (y_concat · q q z0)<|qw hR q (y_concat · q q B0)<|qw hR q (bF 2 · u49 q)<|qw hR q (lB 1000 · u47 q)<|qw hR q (mo · q) fun a s => ?_
  obtain ⟨g1, t0, I0, K0, R0, r0, p0⟩ := SlR.elemX (s.ft 102 q) j0
  refine S s<|qw hR q (eL 2 a0 · u47 t0 (lt_of_get j0) q)<|qw hR q (pF 1 · u82 q) fun a s => ?_
  obtain ⟨rfl, Y0, Z0⟩ := RFeatDecl.open r0
  refine S s<|qw hR q (lP · I0 K0 (p0 1 _ q) u9 q)<|qw hR q (y_concat · q q D0)<|qw hR q (y_assign · q) fun a s => ?_
  clear hR hZ
  refine p_inN ?_
  refine S s<|pw<|lw<|mw q<|yw q (y_addN (i := a0) (j := 1) · q q (in64.2 (by omega)))<|aw q<|nw fun a s => ?_
  exact ⟨m1, Nat.lt_succ_self _, ⟨(((h0 ++ n0.Feat) ++ [32]) ++ n0.Value), (a0 + 1), hg, (by rw [List.length_append]; omega), (s.sb q q q)⟩⟩
 replace hg := br_f hg k0
 apply wp_exit
 refine p_then ?_
 refine p_then ?_
 refine p_in ?_
 obtain ⟨E0, hg⟩ := chk_some hg
 refine S s<|pw<|sw<|lw<|mw q<|yw q (y_concat · q q E0)<|aw q<|nw fun a s => ?_
 apply wp_ret
 obtain rfl := si hg
 refine fin1 (fn := Tryz.f86) s q (r_tmp s q) ?_
 exact ⟨q, (by rw [List.length_append]; omega)⟩
set_option maxHeartbeats 1000000 in
theorem c_r19_joined (n : Nat) (via_ : Desc → Option (List UInt8)) (c_via : ∀ (M : Bs) (w0 : World) (hM : ∀ b, M b → b < w0.heap.size) (t_ : Desc) (m0 : Option Addr) (o0 : Nat) (n0 : Option Addr) (p0 : Nat) (S0 : (t_.Name).length ≤ 9223372036854775807) (Q0 : sR Rep.str M w0 m0 o0 t_.Path) (R0 : sR RDesc M w0 n0 p0 t_.Kids) (r : (List UInt8)) (hg : via_ t_ = some r), Calls Tryz.prog 132 [.agg #[.int .i64 (t_.Op), .string (bs (t_.Name)), .slice (m0) ((t_.Path).length) (o0), .slice (n0) ((t_.Kids).length) (p0)]].toArray w0 (Ret noB w0 fun v w => v = .string (bs (r)) ∧ ((r).length ≤ 9223372036854775807))) (M : Bs) (w0 : World) (hM : ∀ b, M b → b < w0.heap.size) (l_ : (List Desc)) (b0 : Option Addr) (c0 : Nat) (D0 : sR RDesc M w0 b0 c0 l_) (between_ : (List UInt8)) (T0 : (between_).length ≤ 9223372036854775807) (last_ : (List UInt8)) (U0 : (last_).length ≤ 9223372036854775807) (r : (List UInt8)) (hg : r19_joined n via_ l_ between_ last_ = some r) :
    Calls Tryz.prog 138 [sl b0 l_ c0, vT between_, vT last_].toArray w0 (Ret noB w0 fun v w => v = vT r ∧ ((r).length ≤ 9223372036854775807)) := by
 unfold r19_joined at hg
 refine enter M noB func138 q q hM ?_
 intro a s
 refine S s<|esw 101 D0<|vw<|aw q<|nw<|vw<|aw q<|nw<|sw<|vw<|aw q<|nw<|bw fun a s => ?_
 refine c_loop (σ := Nat) (fun m1 a w => ∃ (d0 : (List UInt8)) (a0 : Nat), r19_joined_L0 n l_ between_ last_ via_ m1 d0 a0 = some r ∧ ((d0).length ≤ 9223372036854775807) ∧ St (cx f138 M w0) [(0, sl b0 l_ c0), (1, vT between_), (2, vT last_), (7, vT d0), (8, vI (((a0 : Nat) : Int)))] [] [(101, sF RDesc b0 c0 l_)] a w) (fun m1 => m1) n ⟨([]), (0), hg, (Nat.le_of_ble_eq_true (by rfl)), (s.sb q q q)⟩ ?_
 clear s a; rintro m1 a w ⟨d0, a0, hg, X0, s⟩
 rcases m1 with _ | m1
 ·rw [r19_joined_L0] at hg; cases hg
 rw [r19_joined_L0] at hg
 refine S s<|sw<|vw<|mw q<|mw q<|yw q (lS · q u58)<|yw q (y_lssN (i := a0) (j := ((l_).length)) · q q)<|nw fun a s => c_dec s q (fun j0 => ?_) (fun j0 => ?_)
 ·replace hg := br_t hg j0
  have P0 := SlR.mx (s.ft 101 q)
  refine S s<|kw<|pw<|sw<|bw<|sw fun a s => ?_
  obtain ⟨k5, hg, y0⟩ := jn_some hg
  refine c_post (fun a w => ∃ (g0 : (List UInt8)), k5 g0 = some r ∧ ((g0).length ≤ 9223372036854775807) ∧ St (cx f138 M w0) [(0, sl b0 l_ c0), (1, vT between_), (2, vT last_), (7, vT g0), (8, vI (((a0 : Nat) : Int)))] [] [(101, sF RDesc b0 c0 l_)] a w) ?_ ?_
  ·apply wp_block
   apply wQ
   obtain ⟨k7, hg, z0⟩ := jn_some hg
   refine c_post (fun a w => ∃ (l0 : Bool), k7 l0 = some r ∧ St (cx f138 M w0) [(0, sl b0 l_ c0), (1, vT between_), (2, vT last_), (7, vT d0), (8, vI (((a0 : Nat) : Int))), (15, .bool (l0))] [] [(101, sF RDesc b0 c0 l_)] a w) ?_ ?_
   ·rcases Decidable.em ((0 : Nat) < a0) with e0 | e0
    ·have k0 := decide_eq_true e0
     replace hg := br_t hg e0
     refine S s<|lw<|mw q<|yw q (fun s => yl_b (y_gtrN (i := a0) (j := 0) s q q) k0)<|mw q<|hw q<|hw q<|zw q (lS · q u58) fun a s => ?_
     have O0 := SlR.mx (s.ft 101 q)
     refine S s<|zw q (y_sub · q q (in64.2 (by omega)))<|zw q (y_eql · q q)<|tw_ q<|aw q<|nw fun a s => ?_
     exact ⟨(decide (((a0 : Nat) : Int) = ((((l_).length : Nat) : Int) - 1))), hg, (s.sb q q q)⟩
    have k0 := decide_eq_false e0
    replace hg := br_f hg e0
    refine S s<|lw<|mw q<|yw q (fun s => yl_b (y_gtrN (i := a0) (j := 0) s q q) k0)<|mw q<|gw q<|gw q<|gw q<|gw q<|gw q<|fw q<|aw q<|nw fun a s => ?_
    exact ⟨(false), hg, (s.sb q q q)⟩
   clear s a; rintro a w ⟨l0, hg, s⟩
   subst z0
   refine c_cond s q (fun h0 => ?_) (fun h0 => ?_)
   ·replace hg := br_t hg h0
    obtain ⟨u0, hg⟩ := chk_some hg
    refine S s<|lw<|mw q<|mw q<|yw q (y_concat · q q u0)<|aw q fun a s => ?_
    apply wO
    refine p_inN ?_
    apply pN
    exact ⟨(d0 ++ last_), hg, (by rw [List.length_append]; omega), (s.sb q q q)⟩
   replace hg := br_n hg h0
   refine S s<|vw<|mw q<|yw q (y_gtrN (i := a0) (j := 0) · q q)<|aw q<|nw fun a s => c_dec s q (fun i0 => ?_) (fun i0 => ?_)
   ·replace hg := br_t hg i0
    obtain ⟨v0, hg⟩ := chk_some hg
    refine S s<|lw<|mw q<|mw q<|yw q (y_concat · q q v0)<|aw q fun a s => ?_
    apply wO
    refine p_inN ?_
    apply pN
    exact ⟨(d0 ++ between_), hg, (by rw [List.length_append]; omega), (s.sb q q q)⟩
   replace hg := br_f hg i0
   apply wp_skip
   refine p_inN ?_
   apply pN
   exact ⟨(d0), hg, (by omega), (s.sb q q q)⟩
  clear s a; rintro a w ⟨g0, hg, Y0, s⟩
  subst y0
  obtain ⟨c1, q0, hg⟩ := bind_some hg
  obtain ⟨H0, G0, hg⟩ := bind_some hg
  obtain ⟨x0, hg⟩ := chk_some hg
  refine S s<|lw<|mw q<|mw q<|mw q fun a s => ?_
  obtain ⟨a1, t0, B0, C0, M0, s0, r0⟩ := SlR.elemX (s.ft 101 q) q0
  refine qq s q (eL 4 a0 s u58 t0 (lt_of_get q0) q) fun a s => ?_
  obtain ⟨I0, K0, J0, L0, rfl, V0, E0, F0⟩ := RDesc.open s0
  refine S s<|nsw 104 E0<|nsw 105 F0<|yw q (y_ldp · q B0 C0 (by simpa using r0) u60 q q) fun a s => ?_
  refine lC s q func132 (c_via _ _ s.lt _ _ _ _ _ (by omega) (s.ft 104 q) (s.ft 105 q) _ G0) fun b1 a w hK hp s => ?_
  obtain ⟨rfl, Z0⟩ := hp
  refine S s<|yw q (y_concat · q q x0)<|aw q fun a s => ?_
  apply wO
  refine p_inN ?_
  refine S s<|pw<|lw<|mw q<|yw q (y_addN (i := a0) (j := 1) · q q (in64.2 (by omega)))<|aw q<|nw fun a s => ?_
  exact ⟨m1, Nat.lt_succ_self _, ⟨(g0 ++ H0), (a0 + 1), hg, (by rw [List.length_append]; omega), (s.sb q q q)⟩⟩
 replace hg := br_f hg j0
 apply wp_exit
 refine p_then ?_
 refine p_then ?_
 refine p_in ?_
 refine S s<|pw<|vw<|mw q<|aw q<|nw fun a s => ?_
 apply wp_ret
 obtain rfl := si hg
 refine fin1 (fn := Tryz.f138) s q (r_tmp s q) ?_
 exact ⟨q, (by omega)⟩
set_option maxHeartbeats 1000000 in
theorem c_r19_written (n : Nat) : ∀ (M : Bs) (w0 : World) (hM : ∀ b, M b → b < w0.heap.size) (t_ : Desc) (a0 : Option Addr) (c0 : Nat) (b0 : Option Addr) (d0 : Nat) (o1 : (t_.Name).length ≤ 9223372036854775807) (r0 : sR Rep.str M w0 a0 c0 t_.Path) (s0 : sR RDesc M w0 b0 d0 t_.Kids) (r : (List UInt8)) (hg : r19_written n t_ = some r),
    Calls Tryz.prog 132 [.agg #[.int .i64 (t_.Op), vT t_.Name, sl a0 t_.Path c0, sl b0 t_.Kids d0]].toArray w0 (Ret noB w0 fun v w => v = vT r ∧ ((r).length ≤ 9223372036854775807)) := by
 induction n with
 | zero => intros; rename_i hg; rw [r19_written] at hg; cases hg
 | succ n c_self =>
 intro M w0 hM t_ a0 c0 b0 d0 o1 r0 s0 r hg
 rw [r19_written] at hg
 refine enter M noB func132 q q hM ?_
 intro a s
 let F : Al Fact := [(101, sF Rep.str a0 c0 t_.Path), (102, sF RDesc b0 d0 t_.Kids)]
 refine S s<|esw 101 r0<|esw 102 s0<|vw fun a s => ?_
 refine l_seq q (l_box (zs := [vI t_.Op, vT t_.Name, sl a0 t_.Path c0, sl b0 t_.Kids d0]) s 1000 q q q q fun b2 a w hb hK s => ?_)
 refine S s<|aw q<|nw<|sw<|vw<|yw q (bF 0 · u60 q)<|yw q (lB 1000 · u3 q)<|nw<|bw<|vw<|yw q (y_eql · q q)<|aw q<|nw fun a s => c_dec s q (fun k0 => ?_) (fun k0 => ?_)
 ·replace hg := br_t hg k0
  refine S s<|vw<|yw q (bF 1 · u60 q)<|yw q (lB 1000 · u9 q)<|aw q<|nw fun a s => ?_
  apply wp_ret
  refine p_inR ?_
  refine p_thenR ?_
  obtain rfl := si hg
  refine fin1 (fn := Tryz.f132) s q (r_tmp s q) ?_
  exact ⟨q, (by omega)⟩
 replace hg := br_f hg k0
 refine S s<|vw<|yw q (y_eql · q q)<|aw q<|nw fun a s => c_dec s q (fun l0 => ?_) (fun l0 => ?_)
 ·replace hg := br_t hg l0
  obtain ⟨Q0, hg⟩ := chk_some hg
  refine S s<|sw<|lw<|yw q (bF 1 · u60 q)<|yw q (lB 1000 · u9 q)<|yw q (y_concat · q q Q0)<|aw q<|nw fun a s => ?_
  apply wp_ret
  refine p_inR ?_
  refine p_thenR ?_
  obtain rfl := si hg
  refine fin1 (fn := Tryz.f132) s q (r_tmp s q) ?_
  exact ⟨q, (by rw [List.length_append]; omega)⟩
 replace hg := br_f hg l0
 refine S s<|vw<|yw q (y_eql · q q)<|aw q<|nw fun a s => c_dec s q (fun o0 => ?_) (fun o0 => ?_)
 ·replace hg := br_t hg o0
  obtain ⟨Y0, hg⟩ := chk_some hg
  refine S s<|sw<|lw<|yw q (bF 1 · u60 q)<|yw q (lB 1000 · u9 q)<|yw q (y_concat · q q Y0)<|aw q<|nw fun a s => ?_
  apply wp_ret
  refine p_inR ?_
  refine p_thenR ?_
  obtain rfl := si hg
  refine fin1 (fn := Tryz.f132) s q (r_tmp s q) ?_
  exact ⟨q, (by rw [List.length_append]; omega)⟩
 replace hg := br_f hg o0
 refine S s<|vw<|yw q (y_eql · q q)<|aw q<|nw fun a s => c_dec s q (fun q0 => ?_) (fun q0 => ?_)
 ·replace hg := br_t hg q0
  obtain ⟨r9, n1, hg⟩ := bind_some hg
  refine S s<|sw<|lw<|yw q (bF 3 · u60 q)<|yw q (lB 1000 · u58 q) fun a s => ?_
  refine lC s q func138 (c_r19_joined n (r19_written n) c_self _ _ s.lt _ _ _ (s.ft 102 q) _ (Nat.le_of_ble_eq_true (by rfl)) _ (Nat.le_of_ble_eq_true (by rfl)) _ n1) fun S1 a w hK hp s => ?_
  obtain ⟨rfl, F1⟩ := hp
  refine S s<|aw q<|nw fun a s => ?_
  apply wp_ret
  refine p_inR ?_
  refine p_thenR ?_
  obtain rfl := si hg
  refine fin1 (fn := Tryz.f132) s q (r_tmp s q) ?_
  exact ⟨q, (by omega)⟩
 replace hg := br_f hg q0
 refine S s<|vw<|yw q (y_eql · q q)<|aw q<|nw fun a s => c_dec s q (fun i0 => ?_) (fun i0 => ?_)
 ·replace hg := br_t hg i0
  obtain ⟨p1, t0, hg⟩ := bind_some hg
  obtain ⟨I0, hg⟩ := chk_some hg
  refine S s<|sw<|lw<|yw q (bF 2 · u60 q)<|yw q (lB 1000 · u25 q) fun a s => ?_
  obtain ⟨K1, F0, Z0, c1, v1, C0, y0⟩ := SlR.elemX (s.ft 101 q) t0
  refine qq s q (eL 1 0 s u25 F0 (lt_of_get t0) q) fun a s => ?_
  obtain ⟨rfl, z1⟩ := C0
  refine S s<|yw q (lP · Z0 c1 (y0 0 _ q) u9 q)<|yw q (y_concat · q q I0)<|aw q<|nw<|sw<|vw<|aw q<|nw fun a s => ?_
  obtain ⟨x0, hg, J0⟩ := jn_some hg
  refine c_post (fun a w => ∃ (h0 : (List UInt8)), x0 h0 = some r ∧ ((h0).length ≤ 9223372036854775807) ∧ St (cx f132 M w0) [(1, vP b2 0), (3, vT h0)] [(1000, Ob.box b2 [vI t_.Op, vT t_.Name, sl a0 t_.Path c0, sl b0 t_.Kids d0] 60)] F a w) ?_ ?_
  ·apply wp_block
   refine c_loop (σ := Nat) (fun m1 a w => ∃ (g0 : (List UInt8)) (e0 : Nat), r19_written_L0 n t_ x0 m1 g0 e0 = some r ∧ ((g0).length ≤ 9223372036854775807) ∧ St (cx f132 M w0) [(1, vP b2 0), (3, vT g0), (4, vI (((e0 : Nat) : Int)))] [(1000, Ob.box b2 [vI t_.Op, vT t_.Name, sl a0 t_.Path c0, sl b0 t_.Kids d0] 60)] F a w) (fun m1 => m1) n ⟨([91] ++ p1), (1), hg, (by rw [List.length_append]; omega), (s.sb q q q)⟩ ?_
   clear s a; rintro m1 a w ⟨g0, e0, hg, E1, s⟩
   rcases m1 with _ | m1
   ·rw [r19_written_L0] at hg; cases hg
   rw [r19_written_L0] at hg
   refine S s<|sw<|vw<|mw q<|yw q (bF 2 · u60 q)<|yw q (lB 1000 · u25 q)<|yw q (lS · q u25)<|yw q (y_lssN (i := e0) (j := ((t_.Path).length)) · q q)<|nw fun a s => c_dec s q (fun j0 => ?_) (fun j0 => ?_)
   ·replace hg := br_t hg j0
    have y1 := SlR.mx (s.ft 101 q)
    obtain ⟨K0, hg⟩ := chk_some hg
    obtain ⟨q1, u0, hg⟩ := bind_some hg
    obtain ⟨L0, hg⟩ := chk_some hg
    refine S s<|kw<|pw<|sw<|bw<|lw<|mw q<|yw q (y_concat · q q K0)<|yw q (bF 2 · u60 q)<|yw q (lB 1000 · u25 q)<|mw q fun a s => ?_
    obtain ⟨L1, G0, a1, d1, w1, D0, z0⟩ := SlR.elemX (s.ft 101 q) u0
    refine qq s q (eL 1 e0 s u25 G0 (lt_of_get u0) q) fun a s => ?_
    obtain ⟨rfl, B1⟩ := D0
    refine S s<|yw q (lP · a1 d1 (z0 0 _ q) u9 q)<|yw q (y_concat · q q L0)<|aw q fun a s => ?_
    apply wO
    refine p_inN ?_
    refine S s<|pw<|lw<|mw q<|yw q (y_addN (i := e0) (j := 1) · q q (in64.2 (by omega)))<|aw q<|nw fun a s => ?_
    exact ⟨m1, Nat.lt_succ_self _, ⟨((g0 ++ [46]) ++ q1), (e0 + 1), hg, (by rw [List.length_append]; omega), (s.sb q q q)⟩⟩
   replace hg := br_f hg j0
   apply wp_exit
   refine p_then ?_
   refine p_then ?_
   refine p_in ?_
   apply pN
   exact ⟨(g0), hg, (by omega), (s.sb q q q)⟩
  clear s a; rintro a w ⟨h0, hg, D1, s⟩
  subst J0
  obtain ⟨M0, hg⟩ := chk_some hg
  obtain ⟨Y1, v0, hg⟩ := bind_some hg
  obtain ⟨O1, i1, hg⟩ := bind_some hg
  obtain ⟨O0, hg⟩ := chk_some hg
  obtain ⟨P0, hg⟩ := chk_some hg
  refine S s<|sw<|lw<|mw q<|yw q (y_concat · q q M0)<|yw q (bF 3 · u60 q)<|yw q (lB 1000 · u58 q) fun a s => ?_
  obtain ⟨M1, H0, b1, e1, x1, E0, B0⟩ := SlR.elemX (s.ft 102 q) v0
  refine qq s q (eL 4 0 s u58 H0 (lt_of_get v0) q) fun a s => ?_
  obtain ⟨r1, t1, s1, u1, rfl, C1, g1, h1⟩ := RDesc.open E0
  refine S s<|nsw 105 g1<|nsw 106 h1<|yw q (y_ldp · q b1 e1 (by simpa using B0) u60 q q) fun a s => ?_
  refine lC s q func132 (c_self _ _ s.lt _ _ _ _ _ (by omega) (s.ft 105 q) (s.ft 106 q) _ i1) fun T1 a w hK hp s => ?_
  obtain ⟨rfl, G1⟩ := hp
  refine S s<|yw q (y_concat · q q O0)<|yw q (y_concat · q q P0)<|aw q<|nw fun a s => ?_
  apply wp_ret
  refine p_inR ?_
  refine p_thenR ?_
  obtain rfl := si hg
  refine fin1 (fn := Tryz.f132) s q (r_tmp s q) ?_
  exact ⟨q, (by rw [List.length_append]; omega)⟩
 replace hg := br_f hg i0
 refine S s<|vw<|yw q (y_eql · q q)<|aw q<|nw fun a s => c_dec s q (fun m0 => ?_) (fun m0 => ?_)
 ·replace hg := br_t hg m0
  obtain ⟨P1, j1, hg⟩ := bind_some hg
  obtain ⟨R0, hg⟩ := chk_some hg
  obtain ⟨S0, hg⟩ := chk_some hg
  refine S s<|sw<|lw<|yw q (bF 3 · u60 q)<|yw q (lB 1000 · u58 q) fun a s => ?_
  refine lC s q func138 (c_r19_joined n (r19_written n) c_self _ _ s.lt _ _ _ (s.ft 102 q) _ (Nat.le_of_ble_eq_true (by rfl)) _ (Nat.le_of_ble_eq_true (by rfl)) _ j1) fun U1 a w hK hp s => ?_
  obtain ⟨rfl, H1⟩ := hp
  refine S s<|yw q (y_concat · q q R0)<|yw q (y_concat · q q S0)<|aw q<|nw fun a s => ?_
  apply wp_ret
  refine p_inR ?_
  refine p_thenR ?_
  obtain rfl := si hg
  refine fin1 (fn := Tryz.f132) s q (r_tmp s q) ?_
  exact ⟨q, (by rw [List.length_append]; omega)⟩
 replace hg := br_f hg m0
 refine S s<|vw<|yw q (y_eql · q q)<|aw q<|nw fun a s => c_dec s q (fun n0 => ?_) (fun n0 => ?_)
 ·replace hg := br_t hg n0
  obtain ⟨Q1, k1, hg⟩ := bind_some hg
  obtain ⟨T0, hg⟩ := chk_some hg
  obtain ⟨U0, hg⟩ := chk_some hg
  refine S s<|sw<|lw<|yw q (bF 3 · u60 q)<|yw q (lB 1000 · u58 q) fun a s => ?_
  refine lC s q func138 (c_r19_joined n (r19_written n) c_self _ _ s.lt _ _ _ (s.ft 102 q) _ (Nat.le_of_ble_eq_true (by rfl)) _ (Nat.le_of_ble_eq_true (by rfl)) _ k1) fun V1 a w hK hp s => ?_
  obtain ⟨rfl, I1⟩ := hp
  refine S s<|yw q (y_concat · q q T0)<|yw q (y_concat · q q U0)<|aw q<|nw fun a s => ?_
  apply wp_ret
  refine p_inR ?_
  refine p_thenR ?_
  obtain rfl := si hg
  refine fin1 (fn := Tryz.f132) s q (r_tmp s q) ?_
  exact ⟨q, (by rw [List.length_append]; omega)⟩
 replace hg := br_f hg n0
 apply wp_skip
 refine p_inN ?_
 refine S s<|pw<|sw<|vw<|yw q (bF 3 · u60 q)<|yw q (lB 1000 · u58 q)<|yw q (lS · q u58)<|yw q (y_eqlN (i := ((t_.Kids).length)) (j := 0) · q q)<|nw fun a s => c_dec s q (fun p0 => ?_) (fun p0 => ?_)
 ·replace hg := br_t hg p0
  refine S s<|vw<|aw q<|nw fun a s => ?_
  apply wp_ret
  refine p_thenR ?_
  obtain rfl := si hg
  refine fin1 (fn := Tryz.f132) s q (r_tmp s q) ?_
  exact ⟨q, (Nat.le_of_ble_eq_true (by rfl))⟩
 replace hg := br_f hg p0
 obtain ⟨R1, l1, hg⟩ := bind_some hg
 obtain ⟨V0, hg⟩ := chk_some hg
 obtain ⟨X0, hg⟩ := chk_some hg
 refine S s<|kw<|pw<|sw<|lw<|yw q (bF 3 · u60 q)<|yw q (lB 1000 · u58 q) fun a s => ?_
 refine lC s q func138 (c_r19_joined n (r19_written n) c_self _ _ s.lt _ _ _ (s.ft 102 q) _ (Nat.le_of_ble_eq_true (by rfl)) _ (Nat.le_of_ble_eq_true (by rfl)) _ l1) fun X1 a w hK hp s => ?_
 obtain ⟨rfl, J1⟩ := hp
 refine S s<|yw q (y_concat · q q V0)<|yw q (y_concat · q q X0)<|aw q<|nw fun a s => ?_
 apply wp_ret
 obtain rfl := si hg
 refine fin1 (fn := Tryz.f132) s q (r_tmp s q) ?_
 exact ⟨q, (by rw [List.length_append]; omega)⟩
set_option maxHeartbeats 1000000 in
theorem c_r19_Print (n : Nat) (M : Bs) (w0 : World) (hM : ∀ b, M b → b < w0.heap.size) (d_ : Desc) (a0 : Option Addr) (c0 : Nat) (b0 : Option Addr) (d0 : Nat) (m0 : (d_.Name).length ≤ 9223372036854775807) (h0 : sR Rep.str M w0 a0 c0 d_.Path) (i0 : sR RDesc M w0 b0 d0 d_.Kids) (r : ((List UInt8) × Int)) (hg : r19_Print n d_ = some r) :
    Calls Tryz.prog 116 [.agg #[.int .i64 (d_.Op), vT d_.Name, sl a0 d_.Path c0, sl b0 d_.Kids d0]].toArray w0 (Ret noB w0 fun v w => v = .tuple #[vT r.1, .int .i64 (r.2)] ∧ ((r.1).length ≤ 9223372036854775807)) := by
 unfold r19_Print at hg
 refine enter M noB func116 q q hM ?_
 intro a s
 refine S s<|esw 101 h0<|esw 102 i0<|vw fun a s => ?_
 refine l_seq q (l_box (zs := [vI d_.Op, vT d_.Name, sl a0 d_.Path c0, sl b0 d_.Kids d0]) s 1000 q q q q fun b2 a w hb hK s => ?_)
 obtain ⟨r3, j0, hg⟩ := bind_some hg
 refine S s<|aw q<|aw q<|nw<|sw<|lw<|yw q (y_loadAll (kk := 1000) · q q u60 q q) fun a s => ?_
 refine lV s q func129 (c_r19_Check n _ _ s.lt _ _ _ _ _ (by omega) (s.ft 101 q) (s.ft 102 q) _ j0) fun a w hK s => ?_
 refine S s<|aw q<|nw<|sw<|vw<|mw q<|yw q (y_neq · q q)<|nw fun a s => c_dec s q (fun g0 => ?_) (fun g0 => ?_)
 ·replace hg := br_t hg g0
  refine S s<|vw<|mw q<|aw q<|aw q<|nw fun a s => ?_
  apply wp_ret
  refine p_thenR ?_
  obtain rfl := si hg
  refine fin2 (fn := Tryz.f116) s q (r_tmp s q) (r_tmp s q) ?_
  exact ⟨q, (Nat.le_of_ble_eq_true (by rfl))⟩
 replace hg := br_f hg g0
 obtain ⟨r9, k0, hg⟩ := bind_some hg
 refine S s<|kw<|pw<|sw<|lw<|yw q (y_loadAll (kk := 1000) · q q u60 q q) fun a s => ?_
 refine lC s q func132 (c_r19_written n _ _ s.lt _ _ _ _ _ (by omega) (s.ft 101 q) (s.ft 102 q) _ k0) fun o0 a w hK hp s => ?_
 obtain ⟨rfl, n0⟩ := hp
 refine S s<|aw q<|nw<|sw<|vw<|mw q<|yw q (y_lenStrN · q u9)<|yw q (y_gtrN (i := ((r9).length)) (j := 65536) · q q)<|nw fun a s => c_dec s q (fun e0 => ?_) (fun e0 => ?_)
 ·replace hg := br_t hg e0
  have l0 : (r9).length ≤ 9223372036854775807 := (by omega)
  refine S s<|vw<|aw q<|aw q<|nw fun a s => ?_
  apply wp_ret
  refine p_thenR ?_
  obtain rfl := si hg
  refine fin2 (fn := Tryz.f116) s q (r_tmp s q) (r_tmp s q) ?_
  exact ⟨q, (Nat.le_of_ble_eq_true (by rfl))⟩
 replace hg := br_f hg e0
 refine S s<|kw<|pw<|vw<|mw q<|aw q<|aw q<|nw fun a s => ?_
 apply wp_ret
 obtain rfl := si hg
 refine fin2 (fn := Tryz.f116) s q (r_tmp s q) (r_tmp s q) ?_
 exact ⟨q, (by omega)⟩
set_option maxHeartbeats 1000000 in
theorem c_r21_defined (n : Nat) (M : Bs) (w0 : World) (hM : ∀ b, M b → b < w0.heap.size) (x_ : Def) (b0 : Option Addr) (d0 : Nat) (c0 : Option Addr) (e0 : Nat) (g0 : Option Addr) (h0 : Nat) (K0 : (x_.Name).length ≤ 9223372036854775807) (L0 : (x_.Strict.Name).length ≤ 9223372036854775807) (u0 : sR Rep.str M w0 b0 d0 x_.Strict.Path) (v0 : sR RDesc M w0 c0 e0 x_.Strict.Kids) (x0 : sR RDesc M w0 g0 h0 x_.Defaults) (r : (List UInt8)) (hg : r21_defined n x_ = some r) :
    Calls Tryz.prog 89 [.agg #[vT x_.Name, .int .i64 (x_.Strict.Op), vT x_.Strict.Name, sl b0 x_.Strict.Path d0, sl c0 x_.Strict.Kids e0, sl g0 x_.Defaults h0]].toArray w0 (Ret noB w0 fun v w => v = vT r ∧ ((r).length ≤ 9223372036854775807)) := by
 unfold r21_defined at hg
 refine enter M noB func89 q q hM ?_
 intro a s
 refine S s<|esw 101 u0<|esw 102 v0<|esw 103 x0<|vw fun a s => ?_
 refine l_seq q (l_box (zs := [vT x_.Name, vI x_.Strict.Op, vT x_.Strict.Name, sl b0 x_.Strict.Path d0, sl c0 x_.Strict.Kids e0, sl g0 x_.Defaults h0]) s 1000 q q q q fun b2 a w hb hK s => ?_)
 obtain ⟨r3, C0, hg⟩ := bind_some hg
 refine S s<|aw q<|nw<|sw<|lw<|yw q (bF 1 · u62 q)<|yw q (y_loadBox (kk := 1000) (n := 4) (vs := [vI x_.Strict.Op, vT x_.Strict.Name, sl b0 x_.Strict.Path d0, sl c0 x_.Strict.Kids e0]) · q q u60 q q q q) fun a s => ?_
 refine lC s q func116 (c_r19_Print n _ _ s.lt _ _ _ _ _ (by omega) (s.ft 101 q) (s.ft 102 q) _ C0) fun v6 a w hK hp s => ?_
 obtain ⟨rfl, Q0⟩ := hp
 obtain ⟨r0, hg⟩ := chk_some hg
 refine S s<|mw q<|yw q (y_extract · q q)<|yw q (y_extract · q q)<|aw q<|aw q<|nw<|sw<|lw<|mw q<|yw q (y_concat · q q r0)<|aw q<|nw<|sw<|vw<|aw q<|nw<|bw fun a s => ?_
 refine c_loop (σ := Nat) (fun m1 a w => ∃ (i0 : (List UInt8)) (a0 : Nat), r21_defined_L0 n x_ m1 i0 a0 = some r ∧ ((i0).length ≤ 9223372036854775807) ∧ St (cx f89 M w0) [(1, vP b2 0), (3, vT i0), (5, vI (((a0 : Nat) : Int)))] [(1000, Ob.box b2 [vT x_.Name, vI x_.Strict.Op, vT x_.Strict.Name, sl b0 x_.Strict.Path d0, sl c0 x_.Strict.Kids e0, sl g0 x_.Defaults h0] 62)] [(101, sF Rep.str b0 d0 x_.Strict.Path), (102, sF RDesc c0 e0 x_.Strict.Kids), (103, sF RDesc g0 h0 x_.Defaults)] a w) (fun m1 => m1) n ⟨([32, 61, 32] ++ r3.1), (0), hg, (by rw [List.length_append]; omega), (s.sb q q q)⟩ ?_
 clear s a; rintro m1 a w ⟨i0, a0, hg, O0, s⟩
 rcases m1 with _ | m1
 ·rw [r21_defined_L0] at hg; cases hg
 rw [r21_defined_L0] at hg
 refine S s<|sw<|vw<|mw q<|yw q (bF 5 · u62 q)<|yw q (lB 1000 · u58 q)<|yw q (lS · q u58)<|yw q (y_lssN (i := a0) (j := ((x_.Defaults).length)) · q q)<|nw fun a s => c_dec s q (fun j0 => ?_) (fun j0 => ?_)
 ·replace hg := br_t hg j0
  have J0 := SlR.mx (s.ft 103 q)
  obtain ⟨T0, k0, hg⟩ := bind_some hg
  obtain ⟨D0, B0, hg⟩ := bind_some hg
  refine S s<|kw<|pw<|sw<|bw<|sw<|lw<|yw q (bF 5 · u62 q)<|yw q (lB 1000 · u58 q)<|mw q fun a s => ?_
  obtain ⟨R0, n0, s0, t0, I0, m0, l0⟩ := SlR.elemX (s.ft 103 q) k0
  refine qq s q (eL 4 a0 s u58 n0 (lt_of_get k0) q) fun a s => ?_
  obtain ⟨E0, G0, F0, H0, rfl, M0, y0, z0⟩ := RDesc.open m0
  refine S s<|nsw 106 y0<|nsw 107 z0<|yw q (y_ldp · q s0 t0 (by simpa using l0) u60 q q) fun a s => ?_
  refine lC s q func116 (c_r19_Print n _ _ s.lt _ _ _ _ _ (by omega) (s.ft 106 q) (s.ft 107 q) _ B0) fun S0 a w hK hp s => ?_
  obtain ⟨rfl, P0⟩ := hp
  obtain ⟨o0, hg⟩ := chk_some hg
  obtain ⟨p0, hg⟩ := chk_some hg
  refine S s<|mw q<|yw q (y_extract · q q)<|yw q (y_extract · q q)<|aw q<|aw q<|nw<|lw<|mw q<|yw q (y_concat · q q o0)<|mw q<|yw q (y_concat · q q p0)<|aw q fun a s => ?_
  apply wO
  refine p_inN ?_
  refine S s<|pw<|lw<|mw q<|yw q (y_addN (i := a0) (j := 1) · q q (in64.2 (by omega)))<|aw q<|nw fun a s => ?_
  exact ⟨m1, Nat.lt_succ_self _, ⟨((i0 ++ [32, 47, 32]) ++ D0.1), (a0 + 1), hg, (by rw [List.length_append]; omega), (s.sb q q q)⟩⟩
 replace hg := br_f hg j0
 apply wp_exit
 refine p_then ?_
 refine p_then ?_
 refine p_in ?_
 obtain ⟨q0, hg⟩ := chk_some hg
 refine S s<|pw<|sw<|lw<|mw q<|yw q (y_concat · q q q0)<|aw q<|nw fun a s => ?_
 apply wp_ret
 obtain rfl := si hg
 refine fin1 (fn := Tryz.f89) s q (r_tmp s q) ?_
 exact ⟨q, (by rw [List.length_append]; omega)⟩
set_option maxHeartbeats 1000000 in
theorem c_r21_defs (n : Nat) (M : Bs) (w0 : World) (hM : ∀ b, M b → b < w0.heap.size) (what_ : (List UInt8)) (V0 : (what_).length ≤ 9223372036854775807) (l_ : (List Def)) (c0 : Option Addr) (d0 : Nat) (u0 : sR RDef M w0 c0 d0 l_) (r : (List UInt8)) (hg : r21_defs n what_ l_ = some r) :
    Calls Tryz.prog 87 [vT what_, sl c0 l_ d0].toArray w0 (Ret noB w0 fun v w => v = vT r ∧ ((r).length ≤ 9223372036854775807)) := by
 unfold r21_defs at hg
 refine enter M noB func87 q q hM ?_
 intro a s
 refine S s<|esw 101 u0<|vw<|aw q<|nw<|vw<|aw q<|nw<|sw<|vw<|aw q<|nw<|bw fun a s => ?_
 refine c_loop (σ := Nat) (fun m1 a w => ∃ (b0 : (List UInt8)) (a0 : Nat), r21_defs_L0 n what_ l_ m1 b0 a0 = some r ∧ ((b0).length ≤ 9223372036854775807) ∧ St (cx f87 M w0) [(0, vT what_), (1, sl c0 l_ d0), (5, vT b0), (6, vI (((a0 : Nat) : Int)))] [] [(101, sF RDef c0 d0 l_)] a w) (fun m1 => m1) n ⟨([]), (0), hg, (Nat.le_of_ble_eq_true (by rfl)), (s.sb q q q)⟩ ?_
 clear s a; rintro m1 a w ⟨b0, a0, hg, b1, s⟩
 rcases m1 with _ | m1
 ·rw [r21_defs_L0] at hg; cases hg
 rw [r21_defs_L0] at hg
 refine S s<|sw<|vw<|mw q<|mw q<|yw q (lS · q u33)<|yw q (y_lssN (i := a0) (j := ((l_).length)) · q q)<|nw fun a s => c_dec s q (fun g0 => ?_) (fun g0 => ?_)
 ·replace hg := br_t hg g0
  have U0 := SlR.mx (s.ft 101 q)
  obtain ⟨o0, hg⟩ := chk_some hg
  obtain ⟨x7, e0, hg⟩ := bind_some hg
  obtain ⟨p0, hg⟩ := chk_some hg
  obtain ⟨E0, D0, hg⟩ := bind_some hg
  obtain ⟨n0, hg⟩ := chk_some hg
  refine S s<|kw<|pw<|sw<|bw fun a s => ?_
  refine d_plan s [] [(0, some 0), (1, some 0), (2, some 0), (3, some 0), (4, some 0), (5, some 0), (6, some 0), (7, some 0), (8, some 0), (9, some 0), (10, some 0), (11, some 0), (12, some 0), (13, none), (14, none), (15, none)] q (by kernel_rfl) (by kernel_rfl) q ?_; clear s; intro wr hZ s; have hR := s.wd
  refine S s<|qw hR q (mo · q)<|qw hR q (mo · q)<|qw hR q (y_concat · q q o0)<|qw hR q (mo · q)<|qw hR q (mo · q) fun a s => ?_
  obtain ⟨d1, l0, q0, s0, S0, j0, h0⟩ := SlR.elemX (s.ft 101 q) e0
  refine S s<|qw hR q (eL 6 a0 · u33 l0 (lt_of_get e0) q)<|qw hR q (pF 0 · u62 q) fun a s => ?_
  obtain ⟨F0, L0, G0, M0, H0, O0, rfl, X0, Y0, v0, x0, y0⟩ := RDef.open j0
  refine S s<|nsw 108 v0<|nsw 109 x0<|nsw 110 y0<|qw hR q (lP · q0 s0 (h0 0 _ q) u9 q)<|qw hR q (y_concat · q q p0)<|qw hR q (mo · q)<|qw hR q (mo · q) fun a s => ?_
  obtain ⟨e1, m0, r0, t0, T0, k0, i0⟩ := SlR.elemX (s.ft 101 q) e0
  refine qt s hR q (eL 6 a0 s u33 m0 (lt_of_get e0) q) fun a s => ?_
  obtain ⟨I0, P0, J0, Q0, K0, R0, rfl, Z0, a1, z0, B0, C0⟩ := RDef.open k0
  refine S s<|nsw 111 z0<|nsw 112 B0<|nsw 113 C0<|qw hR q (y_ldp · q r0 t0 (by simpa using i0) u62 q q) fun a s => ?_
  refine l_take s q q (l_call (cap := []) s q func89 q (by kernel_rfl) q q (c_r21_defined n _ _ s.lt _ _ _ _ _ _ _ (by omega) (by omega) (s.ft 111 q) (s.ft 112 q) (s.ft 113 q) _ D0) fun g1 a w hK hp s => ?_)
  refine gz hZ hK fun hZ => ?_; clear hK
  obtain ⟨rfl, c1⟩ := hp
  refine S s<|tw q (y_concat · q q n0)<|tw q (y_assign · q) fun a s => ?_
  clear hR hZ
  refine p_inN ?_
  refine S s<|pw<|lw<|mw q<|yw q (y_addN (i := a0) (j := 1) · q q (in64.2 (by omega)))<|aw q<|nw fun a s => ?_
  exact ⟨m1, Nat.lt_succ_self _, ⟨(((b0 ++ what_) ++ x7.Name) ++ E0), (a0 + 1), hg, (by rw [List.length_append]; omega), (s.sb q q q)⟩⟩
 replace hg := br_f hg g0
 apply wp_exit
 refine p_then ?_
 refine p_then ?_
 refine p_in ?_
 refine S s<|pw<|vw<|mw q<|aw q<|nw fun a s => ?_
 apply wp_ret
 obtain rfl := si hg
 refine fin1 (fn := Tryz.f87) s q (r_tmp s q) ?_
 exact ⟨q, (by omega)⟩
set_option maxHeartbeats 1000000 in
theorem c_r21_affixed (n : Nat) (M : Bs) (w0 : World) (hM : ∀ b, M b → b < w0.heap.size) (a_ : Affix) (b0 : Option Addr) (c0 : Nat) (H0 : sR RChange M w0 b0 c0 a_.Pairs) (r : (List UInt8)) (hg : r21_affixed n a_ = some r) :
    Calls Tryz.prog 90 [.agg #[.int .i64 (a_.Kind), sl b0 a_.Pairs c0]].toArray w0 (Ret noB w0 fun v w => v = vT r ∧ ((r).length ≤ 9223372036854775807)) := by
 unfold r21_affixed at hg
 refine enter M noB func90 q q hM ?_
 intro a s
 replace s := s.es 101 H0
 apply wR
 refine l_seq q (l_box (zs := [vI a_.Kind, sl b0 a_.Pairs c0]) s 1000 q q q q fun b2 a w hb hK s => ?_)
 refine S s<|aw q<|nw<|vw<|aw q<|nw<|sw<|vw<|yw q (bF 0 · u92 q)<|yw q (lB 1000 · u3 q)<|nw fun a s => ?_
 obtain ⟨k3, hg, C0⟩ := jn_some hg
 refine c_post (fun a w => ∃ (g0 : (List UInt8)), k3 g0 = some r ∧ ((g0).length ≤ 9223372036854775807) ∧ St (cx f90 M w0) [(1, vP b2 0), (3, vT g0)] [(1000, Ob.box b2 [vI a_.Kind, sl b0 a_.Pairs c0] 92)] [(101, sF RChange b0 c0 a_.Pairs)] a w) ?_ ?_
 ·refine S s<|bw<|vw<|yw q (y_eql · q q)<|aw q<|nw fun a s => c_dec s q (fun j0 => ?_) (fun j0 => ?_)
  ·replace hg := br_t hg j0
   refine S s<|vw<|aw q<|nw fun a s => ?_
   apply wp_ret
   refine p_inR ?_
   refine p_thenR ?_
   obtain rfl := si hg
   refine fin1 (fn := Tryz.f90) s q (r_tmp s q) ?_
   exact ⟨q, (Nat.le_of_ble_eq_true (by rfl))⟩
  replace hg := br_f hg j0
  refine S s<|vw<|yw q (y_eql · q q)<|aw q<|nw fun a s => c_dec s q (fun k0 => ?_) (fun k0 => ?_)
  ·replace hg := br_t hg k0
   refine S s<|lw<|aw q fun a s => ?_
   apply wO
   refine p_inN ?_
   apply pN
   exact ⟨([115, 117, 102, 102, 105, 120]), hg, (Nat.le_of_ble_eq_true (by rfl)), (s.sb q q q)⟩
  replace hg := br_f hg k0
  apply wp_skip
  refine p_inN ?_
  apply pN
  exact ⟨([112, 114, 101, 102, 105, 120]), hg, (Nat.le_of_ble_eq_true (by rfl)), (s.sb q q q)⟩
 clear s a; rintro a w ⟨g0, hg, S0, s⟩
 subst C0
 refine S s<|sw<|vw<|aw q<|nw<|bw fun a s => ?_
 refine c_loop (σ := Nat) (fun m1 a w => ∃ (d0 : (List UInt8)) (a0 : Nat), r21_affixed_L0 n a_ m1 d0 a0 = some r ∧ ((d0).length ≤ 9223372036854775807) ∧ St (cx f90 M w0) [(1, vP b2 0), (3, vT d0), (4, vI (((a0 : Nat) : Int)))] [(1000, Ob.box b2 [vI a_.Kind, sl b0 a_.Pairs c0] 92)] [(101, sF RChange b0 c0 a_.Pairs)] a w) (fun m1 => m1) n ⟨(g0), (0), hg, (by omega), (s.sb q q q)⟩ ?_
 clear s a; rintro m1 a w ⟨d0, a0, hg, T0, s⟩
 rcases m1 with _ | m1
 ·rw [r21_affixed_L0] at hg; cases hg
 rw [r21_affixed_L0] at hg
 refine S s<|sw<|vw<|mw q<|yw q (bF 1 · u92 q)<|yw q (lB 1000 · u90 q)<|yw q (lS · q u90)<|yw q (y_lssN (i := a0) (j := ((a_.Pairs).length)) · q q)<|nw fun a s => c_dec s q (fun l0 => ?_) (fun l0 => ?_)
 ·replace hg := br_t hg l0
  have L0 := SlR.mx (s.ft 101 q)
  refine S s<|kw<|pw<|sw<|bw<|sw<|vw<|mw q<|yw q (y_gtrN (i := a0) (j := 0) · q q)<|nw fun a s => ?_
  obtain ⟨I0, hg, t0⟩ := jn_some hg
  refine c_post (fun a w => ∃ (e0 : (List UInt8)), I0 e0 = some r ∧ ((e0).length ≤ 9223372036854775807) ∧ St (cx f90 M w0) [(1, vP b2 0), (3, vT e0), (4, vI (((a0 : Nat) : Int)))] [(1000, Ob.box b2 [vI a_.Kind, sl b0 a_.Pairs c0] 92)] [(101, sF RChange b0 c0 a_.Pairs)] a w) ?_ ?_
  ·refine c_dec s q (fun i0 => ?_) (fun i0 => ?_)
   ·replace hg := br_t hg i0
    obtain ⟨u0, hg⟩ := chk_some hg
    refine S s<|lw<|mw q<|yw q (y_concat · q q u0)<|aw q<|nw fun a s => ?_
    exact ⟨(d0 ++ [44]), hg, (by rw [List.length_append]; omega), (s.sb q q q)⟩
   replace hg := br_f hg i0
   apply wp_skip
   apply pN
   exact ⟨(d0), hg, (by omega), (s.sb q q q)⟩
  clear s a; rintro a w ⟨e0, hg, R0, s⟩
  subst t0
  obtain ⟨v0, hg⟩ := chk_some hg
  obtain ⟨m0, h0, hg⟩ := bind_some hg
  obtain ⟨x0, hg⟩ := chk_some hg
  obtain ⟨y0, hg⟩ := chk_some hg
  obtain ⟨z0, hg⟩ := chk_some hg
  obtain ⟨B0, hg⟩ := chk_some hg
  refine d_plan s [] [(0, some 0), (1, some 0), (2, some 0), (3, some 1000), (4, some 0), (5, some 0), (6, some 0), (7, some 0), (8, some 0), (9, some 0), (10, some 0), (11, some 1000), (12, some 0), (13, some 0), (14, some 0), (15, some 0), (16, some 0), (17, some 0), (18, some 0)] q (by kernel_rfl) (by kernel_rfl) q ?_; clear s; intro wr hZ s; have hR := s.wd
  refine S s<|qw hR q (mo · q)<|qw hR q (y_concat · q q v0)<|qw hR q (bF 1 · u92 q)<|qw hR q (lB 1000 · u90 q)<|qw hR q (mo · q) fun a s => ?_
  obtain ⟨U0, r0, D0, F0, J0, p0, n0⟩ := SlR.elemX (s.ft 101 q) h0
  refine S s<|qw hR q (eL 2 a0 · u90 r0 (lt_of_get h0) q)<|qw hR q (pF 0 · u144 q) fun a s => ?_
  obtain ⟨rfl, M0, O0⟩ := RChange.open p0
  refine S s<|qw hR q (lP · D0 F0 (n0 0 _ q) u9 q)<|qw hR q (y_concat · q q x0)<|qw hR q (y_concat · q q y0)<|qw hR q (bF 1 · u92 q)<|qw hR q (lB 1000 · u90 q)<|qw hR q (mo · q) fun a s => ?_
  obtain ⟨V0, s0, E0, G0, K0, q0, o0⟩ := SlR.elemX (s.ft 101 q) h0
  refine S s<|qw hR q (eL 2 a0 · u90 s0 (lt_of_get h0) q)<|qw hR q (pF 1 · u144 q) fun a s => ?_
  obtain ⟨rfl, P0, Q0⟩ := RChange.open q0
  refine S s<|qw hR q (lP · E0 G0 (o0 1 _ q) u9 q)<|qw hR q (y_concat · q q z0)<|qw hR q (y_concat · q q B0)<|qw hR q (y_assign · q) fun a s => ?_
  clear hR hZ
  refine p_inN ?_
  refine S s<|pw<|lw<|mw q<|yw q (y_addN (i := a0) (j := 1) · q q (in64.2 (by omega)))<|aw q<|nw fun a s => ?_
  exact ⟨m1, Nat.lt_succ_self _, ⟨(((((e0 ++ [32, 34]) ++ m0.Old) ++ [34, 32, 34]) ++ m0.New) ++ [34]), (a0 + 1), hg, (by rw [List.length_append]; omega), (s.sb q q q)⟩⟩
 replace hg := br_f hg l0
 apply wp_exit
 refine p_then ?_
 refine p_then ?_
 refine p_in ?_
 refine S s<|pw<|vw<|mw q<|aw q<|nw fun a s => ?_
 apply wp_ret
 obtain rfl := si hg
 refine fin1 (fn := Tryz.f90) s q (r_tmp s q) ?_
 exact ⟨q, (by omega)⟩
set_option maxHeartbeats 1000000 in
theorem c_r21_module (n : Nat) (M : Bs) (w0 : World) (hM : ∀ b, M b → b < w0.heap.size) (t_ : Module) (x0 : Option Addr) (H0 : Nat) (y0 : Option Addr) (I0 : Nat) (z0 : Option Addr) (J0 : Nat) (B0 : Option Addr) (K0 : Nat) (C0 : Option Addr) (L0 : Nat) (D0 : Option Addr) (M0 : Nat) (E0 : Option Addr) (O0 : Nat) (F0 : Option Addr) (P0 : Nat) (v0 : Option Addr) (G0 : Nat) (J5 : (t_.Name).length ≤ 9223372036854775807) (i3 : sR Rep.str M w0 x0 H0 t_.Imports) (j3 : sR RTypeDecl M w0 y0 I0 t_.Types) (k3 : sR RDef M w0 z0 J0 t_.Templates) (l3 : sR REntryDecl M w0 B0 K0 t_.Entries) (n3 : sR RLexDecl M w0 C0 L0 t_.LexRules) (o3 : sR RDef M w0 D0 M0 t_.Rules) (p3 : sR RDef M w0 E0 O0 t_.Roots) (q3 : sR (Rep.list Rep.str) M w0 F0 P0 t_.Checks) (h3 : sR Rep.str M w0 v0 G0 t_.Drops) (r : (List UInt8)) (hg : r21_module n t_ = some r) :
    Calls Tryz.prog 54 [.agg #[vT t_.Name, sl x0 t_.Imports H0, sl y0 t_.Types I0, sl z0 t_.Templates J0, sl B0 t_.Entries K0, sl C0 t_.LexRules L0, sl D0 t_.Rules M0, sl E0 t_.Roots O0, sl F0 t_.Checks P0, sl v0 t_.Drops G0]].toArray w0 (Ret noB w0 fun v w => v = vT r ∧ ((r).length ≤ 9223372036854775807)) := by
 unfold r21_module at hg
 refine enter M noB func54 q q hM ?_
 intro a s
 let F : Al Fact := [(101, sF Rep.str x0 H0 t_.Imports), (102, sF RTypeDecl y0 I0 t_.Types), (103, sF RDef z0 J0 t_.Templates), (104, sF REntryDecl B0 K0 t_.Entries), (105, sF RLexDecl C0 L0 t_.LexRules), (106, sF RDef D0 M0 t_.Rules), (107, sF RDef E0 O0 t_.Roots), (108, sF (Rep.list Rep.str) F0 P0 t_.Checks), (109, sF Rep.str v0 G0 t_.Drops)]
 let B : List Value := [vT t_.Name, sl x0 t_.Imports H0, sl y0 t_.Types I0, sl z0 t_.Templates J0, sl B0 t_.Entries K0, sl C0 t_.LexRules L0, sl D0 t_.Rules M0, sl E0 t_.Roots O0, sl F0 t_.Checks P0, sl v0 t_.Drops G0]
 refine S s<|esw 101 i3<|esw 102 j3<|esw 103 k3<|esw 104 l3<|esw 105 n3<|esw 106 o3<|esw 107 p3<|esw 108 q3<|esw 109 h3<|vw fun a s => ?_
 refine l_seq q (l_box (zs := B) s 1000 q q q q fun b2 a w hb hK s => ?_)
 obtain ⟨w2, hg⟩ := chk_some hg
 obtain ⟨z2, hg⟩ := chk_some hg
 refine S s<|aw q<|nw<|sw<|lw<|yw q (bF 0 · u38 q)<|yw q (lB 1000 · u9 q)<|yw q (y_concat · q q w2)<|yw q (y_concat · q q z2)<|aw q<|nw<|sw<|vw<|aw q<|nw fun a s => ?_
 obtain ⟨k5, hg, D2⟩ := jn_some hg
 refine c_post (fun a w => ∃ (u0 : (List UInt8)), k5 u0 = some r ∧ ((u0).length ≤ 9223372036854775807) ∧ St (cx f54 M w0) [(1, vP b2 0), (3, vT u0)] [(1000, Ob.box b2 B 38)] F a w) ?_ ?_
 ·apply wp_block
  refine c_loop (σ := Nat) (fun m1 a w => ∃ (n0 : (List UInt8)) (h0 : Nat), r21_module_L0 n t_ k5 m1 n0 h0 = some r ∧ ((n0).length ≤ 9223372036854775807) ∧ St (cx f54 M w0) [(1, vP b2 0), (3, vT n0), (4, vI (((h0 : Nat) : Int)))] [(1000, Ob.box b2 B 38)] F a w) (fun m1 => m1) n ⟨(([109, 111, 100, 117, 108, 101, 32] ++ t_.Name) ++ [59, 10]), (0), hg, (by rw [List.length_append]; omega), (s.sb q q q)⟩ ?_
  clear s a; rintro m1 a w ⟨n0, h0, hg, l6, s⟩
  rcases m1 with _ | m1
  ·rw [r21_module_L0] at hg; cases hg
  rw [r21_module_L0] at hg
  refine S s<|sw<|vw<|mw q<|yw q (bF 1 · u38 q)<|yw q (lB 1000 · u25 q)<|yw q (lS · q u25)<|yw q (y_lssN (i := h0) (j := ((t_.Imports).length)) · q q)<|nw fun a s => c_dec s q (fun V0 => ?_) (fun V0 => ?_)
  ·replace hg := br_t hg V0
   have D5 := SlR.mx (s.ft 101 q)
   obtain ⟨j2, hg⟩ := chk_some hg
   obtain ⟨g4, n1, hg⟩ := bind_some hg
   obtain ⟨q2, hg⟩ := chk_some hg
   obtain ⟨s2, hg⟩ := chk_some hg
   refine S s<|kw<|pw<|sw<|bw<|lw<|mw q<|yw q (y_concat · q q j2)<|yw q (bF 1 · u38 q)<|yw q (lB 1000 · u25 q)<|mw q fun a s => ?_
   obtain ⟨J6, d2, Q2, b3, x5, R1, G1⟩ := SlR.elemX (s.ft 101 q) n1
   refine qq s q (eL 1 h0 s u25 d2 (lt_of_get n1) q) fun a s => ?_
   obtain ⟨rfl, S5⟩ := R1
   refine S s<|yw q (lP · Q2 b3 (G1 0 _ q) u9 q)<|yw q (y_concat · q q q2)<|yw q (y_concat · q q s2)<|aw q fun a s => ?_
   apply wO
   refine p_inN ?_
   refine S s<|pw<|lw<|mw q<|yw q (y_addN (i := h0) (j := 1) · q q (in64.2 (by omega)))<|aw q<|nw fun a s => ?_
   exact ⟨m1, Nat.lt_succ_self _, ⟨(((n0 ++ [105, 109, 112, 111, 114, 116, 32]) ++ g4) ++ [59, 10]), (h0 + 1), hg, (by rw [List.length_append]; omega), (s.sb q q q)⟩⟩
  replace hg := br_f hg V0
  apply wp_exit
  refine p_then ?_
  refine p_then ?_
  refine p_in ?_
  apply pN
  exact ⟨(n0), hg, (by omega), (s.sb q q q)⟩
 clear s a; rintro a w ⟨u0, hg, k6, s⟩
 subst D2
 refine S s<|sw<|vw<|aw q<|nw fun a s => ?_
 obtain ⟨s1, hg, v2⟩ := jn_some hg
 refine c_post (fun a w => ∃ (s0 : (List UInt8)), s1 s0 = some r ∧ ((s0).length ≤ 9223372036854775807) ∧ St (cx f54 M w0) [(1, vP b2 0), (3, vT s0)] [(1000, Ob.box b2 B 38)] F a w) ?_ ?_
 ·apply wp_block
  refine c_loop (σ := Nat) (fun m2 a w => ∃ (m0 : (List UInt8)) (g0 : Nat), r21_module_L1 n t_ s1 m2 m0 g0 = some r ∧ ((m0).length ≤ 9223372036854775807) ∧ St (cx f54 M w0) [(1, vP b2 0), (3, vT m0), (5, vI (((g0 : Nat) : Int)))] [(1000, Ob.box b2 B 38)] F a w) (fun m2 => m2) n ⟨(u0), (0), hg, (by omega), (s.sb q q q)⟩ ?_
  clear s a; rintro m2 a w ⟨m0, g0, hg, h6, s⟩
  rcases m2 with _ | m2
  ·rw [r21_module_L1] at hg; cases hg
  rw [r21_module_L1] at hg
  refine S s<|sw<|vw<|mw q<|yw q (bF 2 · u38 q)<|yw q (lB 1000 · u32 q)<|yw q (lS · q u32)<|yw q (y_lssN (i := g0) (j := ((t_.Types).length)) · q q)<|nw fun a s => c_dec s q (fun S0 => ?_) (fun S0 => ?_)
  ·replace hg := br_t hg S0
   have G5 := SlR.mx (s.ft 102 q)
   obtain ⟨e7, q1, hg⟩ := bind_some hg
   obtain ⟨d4, X3, hg⟩ := bind_some hg
   obtain ⟨x2, hg⟩ := chk_some hg
   refine S s<|kw<|pw<|sw<|bw<|lw<|mw q<|yw q (bF 2 · u38 q)<|yw q (lB 1000 · u32 q)<|mw q fun a s => ?_
   obtain ⟨K6, e2, R2, c3, y5, S1, H1⟩ := SlR.elemX (s.ft 102 q) q1
   refine qq s q (eL 3 g0 s u32 e2 (lt_of_get q1) q) fun a s => ?_
   obtain ⟨x4, b5, y4, c5, rfl, T5, F3, G3⟩ := RTypeDecl.open S1
   refine S s<|nsw 112 F3<|nsw 113 G3<|yw q (y_ldp · q R2 c3 (by simpa using H1) u49 q q) fun a s => ?_
   refine lC s q func86 (c_r21_typed n _ _ s.lt _ _ _ _ _ (by omega) (s.ft 112 q) (s.ft 113 q) _ X3) fun X6 a w hK hp s => ?_
   obtain ⟨rfl, w6⟩ := hp
   refine S s<|yw q (y_concat · q q x2)<|aw q fun a s => ?_
   apply wO
   refine p_inN ?_
   refine S s<|pw<|lw<|mw q<|yw q (y_addN (i := g0) (j := 1) · q q (in64.2 (by omega)))<|aw q<|nw fun a s => ?_
   exact ⟨m2, Nat.lt_succ_self _, ⟨(m0 ++ d4), (g0 + 1), hg, (by rw [List.length_append]; omega), (s.sb q q q)⟩⟩
  replace hg := br_f hg S0
  apply wp_exit
  refine p_then ?_
  refine p_then ?_
  refine p_in ?_
  apply pN
  exact ⟨(m0), hg, (by omega), (s.sb q q q)⟩
 clear s a; rintro a w ⟨s0, hg, g6, s⟩
 subst v2
 obtain ⟨e4, Y3, hg⟩ := bind_some hg
 obtain ⟨y2, hg⟩ := chk_some hg
 refine S s<|sw<|lw<|mw q<|yw q (bF 3 · u38 q)<|yw q (lB 1000 · u33 q) fun a s => ?_
 refine lC s q func87 (c_r21_defs n _ _ s.lt _ (Nat.le_of_ble_eq_true (by rfl)) _ _ _ (s.ft 103 q) _ Y3) fun Y6 a w hK hp s => ?_
 obtain ⟨rfl, x6⟩ := hp
 refine S s<|yw q (y_concat · q q y2)<|aw q<|nw<|sw<|vw<|aw q<|nw fun a s => ?_
 obtain ⟨t1, hg, B2⟩ := jn_some hg
 refine c_post (fun a w => ∃ (t0 : (List UInt8)), t1 t0 = some r ∧ ((t0).length ≤ 9223372036854775807) ∧ St (cx f54 M w0) [(1, vP b2 0), (3, vT t0)] [(1000, Ob.box b2 B 38)] F a w) ?_ ?_
 ·apply wp_block
  refine c_loop (σ := Nat) (fun m3 a w => ∃ (c0 : (List UInt8)) (a0 : Nat), r21_module_L2 n t_ t1 m3 c0 a0 = some r ∧ ((c0).length ≤ 9223372036854775807) ∧ St (cx f54 M w0) [(1, vP b2 0), (3, vT c0), (6, vI (((a0 : Nat) : Int)))] [(1000, Ob.box b2 B 38)] F a w) (fun m3 => m3) n ⟨(s0 ++ e4), (0), hg, (by rw [List.length_append]; omega), (s.sb q q q)⟩ ?_
  clear s a; rintro m3 a w ⟨c0, a0, hg, j6, s⟩
  rcases m3 with _ | m3
  ·rw [r21_module_L2] at hg; cases hg
  rw [r21_module_L2] at hg
  refine S s<|sw<|vw<|mw q<|yw q (bF 4 · u38 q)<|yw q (lB 1000 · u34 q)<|yw q (lS · q u34)<|yw q (y_lssN (i := a0) (j := ((t_.Entries).length)) · q q)<|nw fun a s => c_dec s q (fun T0 => ?_) (fun T0 => ?_)
  ·replace hg := br_t hg T0
   have H5 := SlR.mx (s.ft 104 q)
   obtain ⟨C2, hg⟩ := chk_some hg
   obtain ⟨c1, j0, hg⟩ := bind_some hg
   obtain ⟨E2, hg⟩ := chk_some hg
   obtain ⟨F2, hg⟩ := chk_some hg
   obtain ⟨a1, Z3, hg⟩ := bind_some hg
   obtain ⟨h1, hg⟩ := chk_some hg
   obtain ⟨X0, hg⟩ := chk_some hg
   obtain ⟨b1, Z0, hg⟩ := bind_some hg
   obtain ⟨Y0, hg⟩ := chk_some hg
   refine S s<|kw<|pw<|sw<|bw fun a s => ?_
   refine d_steps s [] q ?_; clear s; intro wr hZ s; have hR := s.wd
   refine S s<|nqw 0 0 hR q (mo · q)<|nqw 1 0 hR q (y_concat · q q C2)<|nqw 2 0 hR q (bF 4 · u38 q)<|nqw 3 1000 hR q (lB 1000 · u34 q)<|nqw 4 0 hR q (mo · q) fun a s => ?_
   obtain ⟨L6, g2, S2, d3, z5, T1, I1⟩ := SlR.elemX (s.ft 104 q) j0
   refine S s<|nqw 5 0 hR q (eL 7 a0 · u34 g2 (lt_of_get j0) q)<|nqw 6 0 hR q (pF 1 · u89 q)<|nqw 7 0 hR q (pF 1 · u62 q) fun a s => ?_
   obtain ⟨z4, d5, B4, e5, C4, g5, D4, h5, rfl, H3, U5, V5, I3, J3, K3⟩ := REntryDecl.open T1
   refine S s<|nsw 126 H3<|nsw 127 I3<|nsw 128 J3<|nsw 129 K3<|nqw 8 0 hR q (lP · S2 d3 (I1 1 _ q) u9 q)<|nqw 9 0 hR q (y_concat · q q E2)<|nqw 10 0 hR q (y_concat · q q F2)<|nqw 11 0 hR q (bF 4 · u38 q)<|nqw 12 1000 hR q (lB 1000 · u34 q)<|nqw 13 0 hR q (mo · q) fun a s => ?_
   obtain ⟨M6, h2, T2, e3, B5, U1, J1⟩ := SlR.elemX (s.ft 104 q) j0
   refine S s<|nqw 14 0 hR q (eL 7 a0 · u34 h2 (lt_of_get j0) q)<|nqw 15 0 hR q (pF 0 · u89 q) fun a s => ?_
   obtain ⟨E4, i5, F4, j5, G4, l5, H4, n5, rfl, L3, X5, Y5, M3, O3, P3⟩ := REntryDecl.open U1
   refine S s<|nsw 130 L3<|nsw 131 M3<|nsw 132 O3<|nsw 133 P3<|nqw 16 0 hR q (lP · T2 e3 (J1 0 _ q) u25 q)<|nqw 20 0 hR q (bF 4 · u38 q)<|nqw 21 1000 hR q (lB 1000 · u34 q)<|nqw 22 0 hR q (mo · q) fun a s => ?_
   obtain ⟨O6, i2, U2, g3, C5, V1, K1⟩ := SlR.elemX (s.ft 104 q) j0
   refine S s<|nqw 23 0 hR q (eL 7 a0 · u34 i2 (lt_of_get j0) q)<|nqw 24 0 hR q (pF 1 · u89 q) fun a s => ?_
   obtain ⟨I4, o5, J4, p5, K4, q5, L4, r5, rfl, Q3, Z5, a6, R3, S3, T3⟩ := REntryDecl.open V1
   refine S s<|nsw 134 Q3<|nsw 135 R3<|nsw 136 S3<|nsw 137 T3<|nqw 25 0 hR q (lD [_, _, _, _, _, _] 1 · U2 g3 K1 u62 q) fun a s => ?_
   refine nC 17 s q q func88 (c_r21_joined n _ _ s.lt _ _ _ (s.ft 130 q) _ (Nat.le_of_ble_eq_true (by rfl)) _ Z3) fun Z6 a w hK hp s => ?_
   refine gz hZ hK fun hZ => ?_; clear hK
   obtain ⟨rfl, y6⟩ := hp
   refine n_2 18 26 s (by kernel_rfl) q q q q ?_ ?_
   ·refine l_quiet s q q (y_concat s q q h1) fun a s => ?_; refine ⟨fun g _ h => h, ?_⟩
    refine n_2 19 26 s (by kernel_rfl) q q q q ?_ ?_
    ·refine l_quiet s q q (y_concat s q q X0) fun a s => ?_; refine ⟨fun g _ h => h, ?_⟩
     refine nC 26 s q q func89 (c_r21_defined n _ _ s.lt _ _ _ _ _ _ _ (by omega) (by omega) (s.ft 135 q) (s.ft 136 q) (s.ft 137 q) _ Z0) fun a7 a w hK hp s => ?_
     refine gz hZ hK fun hZ => ?_; clear hK
     obtain ⟨rfl, z6⟩ := hp
     refine S s<|nzw 27 q (y_concat · q q Y0)<|nzw 28 q (y_assign · q) fun a s => ?_
     refine n_end (by kernel_rfl) ?_; clear hR hZ
     refine p_inN ?_
     refine S s<|pw<|lw<|mw q<|yw q (y_addN (i := a0) (j := 1) · q q (in64.2 (by omega)))<|aw q<|nw fun a s => ?_
     exact ⟨m3, Nat.lt_succ_self _, ⟨((((((c0 ++ [101, 110, 116, 114, 121, 32]) ++ c1.Def.Name) ++ [32, 34]) ++ a1) ++ [34]) ++ b1), (a0 + 1), hg, (by rw [List.length_append]; omega), (s.sb q q q)⟩⟩
    ·refine l_call (cap := []) s q func89 q (by kernel_rfl) q q (c_r21_defined n _ _ s.lt _ _ _ _ _ _ _ (by omega) (by omega) (s.ft 135 q) (s.ft 136 q) (s.ft 137 q) _ Z0) fun b7 a w hK hp s => ?_
     refine gz hZ hK fun hZ => ?_; clear hK
     obtain ⟨rfl, B6⟩ := hp
     refine S s<|nzw 19 q (y_concat · q q X0)<|nzw 27 q (y_concat · q q Y0)<|nzw 28 q (y_assign · q) fun a s => ?_
     refine n_end (by kernel_rfl) ?_; clear hR hZ
     refine p_inN ?_
     refine S s<|pw<|lw<|mw q<|yw q (y_addN (i := a0) (j := 1) · q q (in64.2 (by omega)))<|aw q<|nw fun a s => ?_
     exact ⟨m3, Nat.lt_succ_self _, ⟨((((((c0 ++ [101, 110, 116, 114, 121, 32]) ++ c1.Def.Name) ++ [32, 34]) ++ a1) ++ [34]) ++ b1), (a0 + 1), hg, (by rw [List.length_append]; omega), (s.sb q q q)⟩⟩
   ·refine l_call (cap := []) s q func89 q (by kernel_rfl) q q (c_r21_defined n _ _ s.lt _ _ _ _ _ _ _ (by omega) (by omega) (s.ft 135 q) (s.ft 136 q) (s.ft 137 q) _ Z0) fun c7 a w hK hp s => ?_
    refine gz hZ hK fun hZ => ?_; clear hK
    obtain ⟨rfl, C6⟩ := hp
    refine S s<|nzw 18 q (y_concat · q q h1)<|nzw 19 q (y_concat · q q X0)<|nzw 27 q (y_concat · q q Y0)<|nzw 28 q (y_assign · q) fun a s => ?_
    refine n_end (by kernel_rfl) ?_; clear hR hZ
    refine p_inN ?_
    refine S s<|pw<|lw<|mw q<|yw q (y_addN (i := a0) (j := 1) · q q (in64.2 (by omega)))<|aw q<|nw fun a s => ?_
    exact ⟨m3, Nat.lt_succ_self _, ⟨((((((c0 ++ [101, 110, 116, 114, 121, 32]) ++ c1.Def.Name) ++ [32, 34]) ++ a1) ++ [34]) ++ b1), (a0 + 1), hg, (by rw [List.length_append]; omega), (s.sb q q q)⟩⟩
  replace hg := br_f hg T0
  apply wp_exit
  refine p_then ?_
  refine p_then ?_
  refine p_in ?_
  apply pN
  exact ⟨(c0), hg, (by omega), (s.sb q q q)⟩
 clear s a; rintro a w ⟨t0, hg, i6, s⟩
 subst B2
 refine S s<|sw<|vw<|aw q<|nw fun a s => ?_
 obtain ⟨u1, hg, G2⟩ := jn_some hg
 refine c_post (fun a w => ∃ (o0 : (List UInt8)), u1 o0 = some r ∧ ((o0).length ≤ 9223372036854775807) ∧ St (cx f54 M w0) [(1, vP b2 0), (3, vT o0)] [(1000, Ob.box b2 B 38)] F a w) ?_ ?_
 ·apply wp_block
  refine c_loop (σ := Nat) (fun m4 a w => ∃ (i0 : (List UInt8)) (b0 : Nat), r21_module_L3 n t_ u1 m4 i0 b0 = some r ∧ ((i0).length ≤ 9223372036854775807) ∧ St (cx f54 M w0) [(1, vP b2 0), (3, vT i0), (7, vI (((b0 : Nat) : Int)))] [(1000, Ob.box b2 B 38)] F a w) (fun m4 => m4) n ⟨(t0), (0), hg, (by omega), (s.sb q q q)⟩ ?_
  clear s a; rintro m4 a w ⟨i0, b0, hg, o6, s⟩
  rcases m4 with _ | m4
  ·rw [r21_module_L3] at hg; cases hg
  rw [r21_module_L3] at hg
  refine S s<|sw<|vw<|mw q<|yw q (bF 5 · u38 q)<|yw q (lB 1000 · u35 q)<|yw q (lS · q u35)<|yw q (y_lssN (i := b0) (j := ((t_.LexRules).length)) · q q)<|nw fun a s => c_dec s q (fun U0 => ?_) (fun U0 => ?_)
  ·replace hg := br_t hg U0
   have I5 := SlR.mx (s.ft 105 q)
   obtain ⟨H2, hg⟩ := chk_some hg
   obtain ⟨z1, k0, hg⟩ := bind_some hg
   obtain ⟨I2, hg⟩ := chk_some hg
   obtain ⟨J2, hg⟩ := chk_some hg
   obtain ⟨y1, a4, hg⟩ := bind_some hg
   obtain ⟨i1, hg⟩ := chk_some hg
   obtain ⟨v1, k1, hg⟩ := bind_some hg
   obtain ⟨d1, hg⟩ := chk_some hg
   refine S s<|kw<|pw<|sw<|bw fun a s => ?_
   refine d_steps s [] q ?_; clear s; intro wr hZ s; have hR := s.wd
   refine S s<|nqw 0 0 hR q (mo · q)<|nqw 1 0 hR q (y_concat · q q H2)<|nqw 2 0 hR q (bF 5 · u38 q)<|nqw 3 1000 hR q (lB 1000 · u35 q)<|nqw 4 0 hR q (mo · q) fun a s => ?_
   obtain ⟨E6, X1, K2, V2, s5, L1, B1⟩ := SlR.elemX (s.ft 105 q) k0
   refine S s<|nqw 5 0 hR q (eL 8 b0 · u35 X1 (lt_of_get k0) q)<|nqw 6 0 hR q (pF 2 · u94 q)<|nqw 7 0 hR q (pF 2 · u62 q) fun a s => ?_
   obtain ⟨i4, M4, j4, O4, k4, P4, l4, Q4, rfl, r3, K5, L5, s3, t3, v3⟩ := RLexDecl.open L1
   refine S s<|nsw 150 r3<|nsw 151 s3<|nsw 152 t3<|nsw 153 v3<|nqw 8 0 hR q (lP · K2 V2 (B1 2 _ q) u9 q)<|nqw 9 0 hR q (y_concat · q q I2)<|nqw 10 0 hR q (y_concat · q q J2)<|nqw 11 0 hR q (bF 5 · u38 q)<|nqw 12 1000 hR q (lB 1000 · u35 q)<|nqw 13 0 hR q (mo · q) fun a s => ?_
   obtain ⟨F6, Y1, L2, X2, t5, M1, C1⟩ := SlR.elemX (s.ft 105 q) k0
   refine S s<|nqw 14 0 hR q (eL 8 b0 · u35 Y1 (lt_of_get k0) q)<|nqw 15 0 hR q (pF 0 · u94 q) fun a s => ?_
   obtain ⟨n4, R4, o4, S4, p4, T4, q4, U4, rfl, w3, M5, O5, x3, y3, z3⟩ := RLexDecl.open M1
   refine S s<|nsw 154 w3<|nsw 155 x3<|nsw 156 y3<|nsw 157 z3<|nqw 16 0 hR q (lD [_, _] 0 · L2 X2 C1 u92 q)<|nqw 19 0 hR q (bF 5 · u38 q)<|nqw 20 1000 hR q (lB 1000 · u35 q)<|nqw 21 0 hR q (mo · q) fun a s => ?_
   obtain ⟨G6, Z1, M2, Y2, u5, O1, D1⟩ := SlR.elemX (s.ft 105 q) k0
   refine S s<|nqw 22 0 hR q (eL 8 b0 · u35 Z1 (lt_of_get k0) q)<|nqw 23 0 hR q (pF 2 · u94 q) fun a s => ?_
   obtain ⟨r4, V4, s4, X4, t4, Y4, v4, Z4, rfl, B3, P5, Q5, C3, D3, E3⟩ := RLexDecl.open O1
   refine S s<|nsw 158 B3<|nsw 159 C3<|nsw 160 D3<|nsw 161 E3<|nqw 24 0 hR q (lD [_, _, _, _, _, _] 2 · M2 Y2 D1 u62 q) fun a s => ?_
   refine nC 17 s q q func90 (c_r21_affixed n _ _ s.lt _ _ _ (s.ft 154 q) _ a4) fun P6 a w hK hp s => ?_
   refine gz hZ hK fun hZ => ?_; clear hK
   obtain ⟨rfl, p6⟩ := hp
   refine n_2 18 25 s (by kernel_rfl) q q q q ?_ ?_
   ·refine l_quiet s q q (y_concat s q q i1) fun a s => ?_; refine ⟨fun g _ h => h, ?_⟩
    refine nC 25 s q q func89 (c_r21_defined n _ _ s.lt _ _ _ _ _ _ _ (by omega) (by omega) (s.ft 159 q) (s.ft 160 q) (s.ft 161 q) _ k1) fun Q6 a w hK hp s => ?_
    refine gz hZ hK fun hZ => ?_; clear hK
    obtain ⟨rfl, q6⟩ := hp
    refine S s<|nzw 26 q (y_concat · q q d1)<|nzw 27 q (y_assign · q) fun a s => ?_
    refine n_end (by kernel_rfl) ?_; clear hR hZ
    refine p_inN ?_
    refine S s<|pw<|lw<|mw q<|yw q (y_addN (i := b0) (j := 1) · q q (in64.2 (by omega)))<|aw q<|nw fun a s => ?_
    exact ⟨m4, Nat.lt_succ_self _, ⟨(((((i0 ++ [108, 101, 120, 114, 117, 108, 101, 32]) ++ z1.Def.Name) ++ [32]) ++ y1) ++ v1), (b0 + 1), hg, (by rw [List.length_append]; omega), (s.sb q q q)⟩⟩
   ·refine l_call (cap := []) s q func89 q (by kernel_rfl) q q (c_r21_defined n _ _ s.lt _ _ _ _ _ _ _ (by omega) (by omega) (s.ft 159 q) (s.ft 160 q) (s.ft 161 q) _ k1) fun R6 a w hK hp s => ?_
    refine gz hZ hK fun hZ => ?_; clear hK
    obtain ⟨rfl, r6⟩ := hp
    refine S s<|nzw 18 q (y_concat · q q i1)<|nzw 26 q (y_concat · q q d1)<|nzw 27 q (y_assign · q) fun a s => ?_
    refine n_end (by kernel_rfl) ?_; clear hR hZ
    refine p_inN ?_
    refine S s<|pw<|lw<|mw q<|yw q (y_addN (i := b0) (j := 1) · q q (in64.2 (by omega)))<|aw q<|nw fun a s => ?_
    exact ⟨m4, Nat.lt_succ_self _, ⟨(((((i0 ++ [108, 101, 120, 114, 117, 108, 101, 32]) ++ z1.Def.Name) ++ [32]) ++ y1) ++ v1), (b0 + 1), hg, (by rw [List.length_append]; omega), (s.sb q q q)⟩⟩
  replace hg := br_f hg U0
  apply wp_exit
  refine p_then ?_
  refine p_then ?_
  refine p_in ?_
  apply pN
  exact ⟨(i0), hg, (by omega), (s.sb q q q)⟩
 clear s a; rintro a w ⟨o0, hg, n6, s⟩
 subst G2
 apply wQ
 obtain ⟨b4, hg, k2⟩ := jn_some hg
 refine c_post (fun a w => ∃ (p0 : (List UInt8)), b4 p0 = some r ∧ ((p0).length ≤ 9223372036854775807) ∧ St (cx f54 M w0) [(1, vP b2 0), (3, vT p0)] [(1000, Ob.box b2 B 38)] F a w) ?_ ?_
 ·obtain ⟨w1, U3, hg⟩ := bind_some hg
  obtain ⟨e1, hg⟩ := chk_some hg
  obtain ⟨x1, l1, hg⟩ := bind_some hg
  obtain ⟨g1, hg⟩ := chk_some hg
  refine d_steps s [] q ?_; clear s; intro wr hZ s; have hR := s.wd
  refine S s<|nqw 0 0 hR q (mo · q)<|nqw 1 0 hR q (bF 6 · u38 q)<|nqw 2 1000 hR q (lB 1000 · u33 q)<|nqw 5 0 hR q (bF 7 · u38 q)<|nqw 6 1000 hR q (lB 1000 · u33 q) fun a s => ?_
  refine nC 3 s q q func87 (c_r21_defs n _ _ s.lt _ (Nat.le_of_ble_eq_true (by rfl)) _ _ _ (s.ft 106 q) _ U3) fun S6 a w hK hp s => ?_
  refine gz hZ hK fun hZ => ?_; clear hK
  obtain ⟨rfl, s6⟩ := hp
  refine n_2 4 7 s (by kernel_rfl) q q q q ?_ ?_
  ·refine l_quiet s q q (y_concat s q q e1) fun a s => ?_; refine ⟨fun g _ h => h, ?_⟩
   refine nC 7 s q q func87 (c_r21_defs n _ _ s.lt _ (Nat.le_of_ble_eq_true (by rfl)) _ _ _ (s.ft 107 q) _ l1) fun T6 a w hK hp s => ?_
   refine gz hZ hK fun hZ => ?_; clear hK
   obtain ⟨rfl, t6⟩ := hp
   refine S s<|nzw 8 q (y_concat · q q g1)<|nzw 9 q (y_assign · q) fun a s => ?_
   refine n_end (by kernel_rfl) ?_; clear hR hZ
   apply pN
   exact ⟨((o0 ++ w1) ++ x1), hg, (by rw [List.length_append]; omega), (s.sb q q q)⟩
  ·refine l_call (cap := []) s q func87 q (by kernel_rfl) q q (c_r21_defs n _ _ s.lt _ (Nat.le_of_ble_eq_true (by rfl)) _ _ _ (s.ft 107 q) _ l1) fun U6 a w hK hp s => ?_
   refine gz hZ hK fun hZ => ?_; clear hK
   obtain ⟨rfl, u6⟩ := hp
   refine S s<|nzw 4 q (y_concat · q q e1)<|nzw 8 q (y_concat · q q g1)<|nzw 9 q (y_assign · q) fun a s => ?_
   refine n_end (by kernel_rfl) ?_; clear hR hZ
   apply pN
   exact ⟨((o0 ++ w1) ++ x1), hg, (by rw [List.length_append]; omega), (s.sb q q q)⟩
 clear s a; rintro a w ⟨p0, hg, b6, s⟩
 subst k2
 refine S s<|sw<|vw<|aw q<|nw fun a s => ?_
 obtain ⟨r1, hg, l2⟩ := jn_some hg
 refine c_post (fun a w => ∃ (q0 : (List UInt8)), r1 q0 = some r ∧ ((q0).length ≤ 9223372036854775807) ∧ St (cx f54 M w0) [(1, vP b2 0), (3, vT q0)] [(1000, Ob.box b2 B 38)] F a w) ?_ ?_
 ·apply wp_block
  refine c_loop (σ := Nat) (fun m5 a w => ∃ (l0 : (List UInt8)) (d0 : Nat), r21_module_L4 n t_ r1 m5 l0 d0 = some r ∧ ((l0).length ≤ 9223372036854775807) ∧ St (cx f54 M w0) [(1, vP b2 0), (3, vT l0), (8, vI (((d0 : Nat) : Int)))] [(1000, Ob.box b2 B 38)] F a w) (fun m5 => m5) n ⟨(p0), (0), hg, (by omega), (s.sb q q q)⟩ ?_
  clear s a; rintro m5 a w ⟨l0, d0, hg, d6, s⟩
  rcases m5 with _ | m5
  ·rw [r21_module_L4] at hg; cases hg
  rw [r21_module_L4] at hg
  refine S s<|sw<|vw<|mw q<|yw q (bF 8 · u38 q)<|yw q (lB 1000 · u36 q)<|yw q (lS · q u36)<|yw q (y_lssN (i := d0) (j := ((t_.Checks).length)) · q q)<|nw fun a s => c_dec s q (fun Q0 => ?_) (fun Q0 => ?_)
  ·replace hg := br_t hg Q0
   have E5 := SlR.mx (s.ft 108 q)
   obtain ⟨n2, hg⟩ := chk_some hg
   obtain ⟨d7, o1, hg⟩ := bind_some hg
   obtain ⟨c4, V3, hg⟩ := bind_some hg
   obtain ⟨o2, hg⟩ := chk_some hg
   obtain ⟨p2, hg⟩ := chk_some hg
   refine S s<|kw<|pw<|sw<|bw<|lw<|mw q<|yw q (y_concat · q q n2)<|yw q (bF 8 · u38 q)<|yw q (lB 1000 · u36 q)<|mw q fun a s => ?_
   obtain ⟨H6, a2, O2, Z2, v5, P1, E1⟩ := SlR.elemX (s.ft 108 q) o1
   refine qq s q (eL 1 d0 s u36 a2 (lt_of_get o1) q) fun a s => ?_
   obtain ⟨w4, D6, a5, rfl, j1⟩ := P1
   obtain rfl := j1.len
   refine S s<|nsw 163 j1<|yw q (lP · O2 Z2 (E1 0 _ q) u25 q) fun a s => ?_
   refine lC s q func88 (c_r21_joined n _ _ s.lt _ _ _ (s.ft 163 q) _ (Nat.le_of_ble_eq_true (by rfl)) _ V3) fun V6 a w hK hp s => ?_
   obtain ⟨rfl, v6⟩ := hp
   refine S s<|yw q (y_concat · q q o2)<|yw q (y_concat · q q p2)<|aw q fun a s => ?_
   apply wO
   refine p_inN ?_
   refine S s<|pw<|lw<|mw q<|yw q (y_addN (i := d0) (j := 1) · q q (in64.2 (by omega)))<|aw q<|nw fun a s => ?_
   exact ⟨m5, Nat.lt_succ_self _, ⟨(((l0 ++ [99, 104, 101, 99, 107, 32]) ++ c4) ++ [59, 10]), (d0 + 1), hg, (by rw [List.length_append]; omega), (s.sb q q q)⟩⟩
  replace hg := br_f hg Q0
  apply wp_exit
  refine p_then ?_
  refine p_then ?_
  refine p_in ?_
  apply pN
  exact ⟨(l0), hg, (by omega), (s.sb q q q)⟩
 clear s a; rintro a w ⟨q0, hg, c6, s⟩
 subst l2
 refine S s<|sw<|vw<|aw q<|nw<|bw fun a s => ?_
 refine c_loop (σ := Nat) (fun m6 a w => ∃ (r0 : (List UInt8)) (e0 : Nat), r21_module_L5 n t_ m6 r0 e0 = some r ∧ ((r0).length ≤ 9223372036854775807) ∧ St (cx f54 M w0) [(1, vP b2 0), (3, vT r0), (9, vI (((e0 : Nat) : Int)))] [(1000, Ob.box b2 B 38)] F a w) (fun m6 => m6) n ⟨(q0), (0), hg, (by omega), (s.sb q q q)⟩ ?_
 clear s a; rintro m6 a w ⟨r0, e0, hg, e6, s⟩
 rcases m6 with _ | m6
 ·rw [r21_module_L5] at hg; cases hg
 rw [r21_module_L5] at hg
 refine S s<|sw<|vw<|mw q<|yw q (bF 9 · u38 q)<|yw q (lB 1000 · u25 q)<|yw q (lS · q u25)<|yw q (y_lssN (i := e0) (j := ((t_.Drops).length)) · q q)<|nw fun a s => c_dec s q (fun R0 => ?_) (fun R0 => ?_)
 ·replace hg := br_t hg R0
  have F5 := SlR.mx (s.ft 109 q)
  obtain ⟨r2, hg⟩ := chk_some hg
  obtain ⟨h4, p1, hg⟩ := bind_some hg
  obtain ⟨t2, hg⟩ := chk_some hg
  obtain ⟨u2, hg⟩ := chk_some hg
  refine S s<|kw<|pw<|sw<|bw<|lw<|mw q<|yw q (y_concat · q q r2)<|yw q (bF 9 · u38 q)<|yw q (lB 1000 · u25 q)<|mw q fun a s => ?_
  obtain ⟨I6, c2, P2, a3, w5, Q1, F1⟩ := SlR.elemX (s.ft 109 q) p1
  refine qq s q (eL 1 e0 s u25 c2 (lt_of_get p1) q) fun a s => ?_
  obtain ⟨rfl, R5⟩ := Q1
  refine S s<|yw q (lP · P2 a3 (F1 0 _ q) u9 q)<|yw q (y_concat · q q t2)<|yw q (y_concat · q q u2)<|aw q fun a s => ?_
  apply wO
  refine p_inN ?_
  refine S s<|pw<|lw<|mw q<|yw q (y_addN (i := e0) (j := 1) · q q (in64.2 (by omega)))<|aw q<|nw fun a s => ?_
  exact ⟨m6, Nat.lt_succ_self _, ⟨(((r0 ++ [100, 114, 111, 112, 32]) ++ h4) ++ [59, 10]), (e0 + 1), hg, (by rw [List.length_append]; omega), (s.sb q q q)⟩⟩
 replace hg := br_f hg R0
 apply wp_exit
 refine p_then ?_
 refine p_then ?_
 refine p_in ?_
 refine S s<|pw<|vw<|mw q<|aw q<|nw fun a s => ?_
 apply wp_ret
 obtain rfl := si hg
 refine fin1 (fn := Tryz.f54) s q (r_tmp s q) ?_
 exact ⟨q, (by omega)⟩
set_option maxHeartbeats 1000000 in
theorem c_r21_Print (n : Nat) (M : Bs) (w0 : World) (hM : ∀ b, M b → b < w0.heap.size) (l_ : (List Module)) (a0 : Option Addr) (b0 : Nat) (E0 : sR RModule M w0 a0 b0 l_) (r : ((List UInt8) × Int)) (hg : r21_Print n l_ = some r) :
    Calls Tryz.prog 23 [sl a0 l_ b0].toArray w0 (Ret noB w0 fun v w => v = .tuple #[vT r.1, .int .i64 (r.2)] ∧ ((r.1).length ≤ 9223372036854775807)) := by
 unfold r21_Print at hg
 refine enter M noB func23 q q hM ?_
 intro a s
 refine S s<|esw 101 E0<|vw<|aw q<|aw q<|nw<|sw<|vw<|mw q<|yw q (lS · q u22)<|yw q (y_gtrN (i := ((l_).length)) (j := 256) · q q)<|nw fun a s => c_dec s q (fun h0 => ?_) (fun h0 => ?_)
 ·replace hg := br_t hg h0
  have S1 := SlR.mx (s.ft 101 q)
  refine S s<|vw<|aw q<|aw q<|nw fun a s => ?_
  apply wp_ret
  refine p_thenR ?_
  obtain rfl := si hg
  refine fin2 (fn := Tryz.f23) s q (r_tmp s q) (r_tmp s q) ?_
  exact ⟨q, (Nat.le_of_ble_eq_true (by rfl))⟩
 replace hg := br_f hg h0
 refine S s<|kw<|pw<|vw<|aw q<|nw<|sw<|vw<|aw q<|nw fun a s => ?_
 obtain ⟨k3, hg, x0⟩ := jn_some hg
 refine c_post (fun a w => k3 = some r ∧ St (cx f23 M w0) [(0, sl a0 l_ b0), (4, vT ([]))] [] [(101, sF RModule a0 b0 l_)] a w) ?_ ?_
 ·apply wp_block
  refine c_loop (σ := Nat) (fun m1 a w => ∃ (d0 : Nat), r21_Print_L0 n l_ k3 m1 d0 = some r ∧ St (cx f23 M w0) [(0, sl a0 l_ b0), (4, vT ([])), (5, vI (((d0 : Nat) : Int)))] [] [(101, sF RModule a0 b0 l_)] a w) (fun m1 => m1) n ⟨(0), hg, (s.sb q q q)⟩ ?_
  clear s a; rintro m1 a w ⟨d0, hg, s⟩
  rcases m1 with _ | m1
  ·rw [r21_Print_L0] at hg; cases hg
  rw [r21_Print_L0] at hg
  refine S s<|sw<|vw<|mw q<|mw q<|yw q (lS · q u22)<|yw q (y_lssN (i := d0) (j := ((l_).length)) · q q)<|nw fun a s => c_dec s q (fun l0 => ?_) (fun l0 => ?_)
  ·replace hg := br_t hg l0
   have V1 := SlR.mx (s.ft 101 q)
   obtain ⟨x8, n0, hg⟩ := bind_some hg
   obtain ⟨e2, Z0, hg⟩ := bind_some hg
   refine S s<|kw<|pw<|sw<|bw<|sw<|lw<|mw q<|mw q fun a s => ?_
   obtain ⟨c2, t0, z0, C0, Q1, r0, p0⟩ := SlR.elemX (s.ft 101 q) n0
   refine qq s q (eL 10 d0 s u22 t0 (lt_of_get n0) q) fun a s => ?_
   obtain ⟨d1, x1, e1, y1, g1, z1, h1, B1, i1, C1, j1, D1, k1, E1, l1, F1, c1, w1, rfl, X1, G0, H0, I0, J0, K0, L0, M0, O0, F0⟩ := RModule.open r0
   refine S s<|nsw 111 G0<|nsw 112 H0<|nsw 113 I0<|nsw 114 J0<|nsw 115 K0<|nsw 116 L0<|nsw 117 M0<|nsw 118 O0<|nsw 119 F0<|yw q (y_ldp · q z0 C0 (by simpa using p0) u38 q q) fun a s => ?_
   refine lV s q func53 (c_r21_moduleError n _ _ s.lt _ _ _ _ _ _ _ _ _ _ _ _ _ _ _ _ _ _ _ (by omega) (s.ft 111 q) (s.ft 112 q) (s.ft 113 q) (s.ft 114 q) (s.ft 115 q) (s.ft 116 q) (s.ft 117 q) (s.ft 118 q) (s.ft 119 q) _ Z0) fun a w hK s => ?_
   refine S s<|aw q<|nw<|vw<|mw q<|yw q (y_neq · q q)<|nw fun a s => c_dec s q (fun i0 => ?_) (fun i0 => ?_)
   ·replace hg := br_t hg i0
    refine S s<|vw<|mw q<|aw q<|aw q<|nw fun a s => ?_
    apply wp_ret
    refine p_inR ?_
    refine p_thenR ?_
    refine p_thenR ?_
    refine p_inR ?_
    refine p_thenR ?_
    obtain rfl := si hg
    refine fin2 (fn := Tryz.f23) s q (r_tmp s q) (r_tmp s q) ?_
    exact ⟨q, (Nat.le_of_ble_eq_true (by rfl))⟩
   replace hg := br_f hg i0
   apply wp_skip
   refine p_inN ?_
   refine S s<|pw<|lw<|mw q<|yw q (y_addN (i := d0) (j := 1) · q q (in64.2 (by omega)))<|aw q<|nw fun a s => ?_
   exact ⟨m1, Nat.lt_succ_self _, ⟨(d0 + 1), hg, (s.sb q q q)⟩⟩
  replace hg := br_f hg l0
  apply wp_exit
  refine p_then ?_
  refine p_then ?_
  refine p_in ?_
  apply pN
  exact ⟨hg, (s.sb q q q)⟩
 clear s a; rintro a w ⟨hg, s⟩
 subst x0
 refine S s<|sw<|vw<|aw q<|nw fun a s => ?_
 obtain ⟨o0, hg, v0⟩ := jn_some hg
 refine c_post (fun a w => ∃ (e0 : (List UInt8)), o0 e0 = some r ∧ ((e0).length ≤ 9223372036854775807) ∧ St (cx f23 M w0) [(4, vT e0)] [] [] a w) ?_ ?_
 ·apply wp_block
  refine c_loop (σ := Nat) (fun m2 a w => ∃ (g0 : (List UInt8)) (c0 : Nat), r21_Print_L1 n l_ o0 m2 g0 c0 = some r ∧ ((g0).length ≤ 9223372036854775807) ∧ St (cx f23 M w0) [(0, sl a0 l_ b0), (4, vT g0), (7, vI (((c0 : Nat) : Int)))] [] [(101, sF RModule a0 b0 l_)] a w) (fun m2 => m2) n ⟨([]), (0), hg, (Nat.le_of_ble_eq_true (by rfl)), (s.sb q q q)⟩ ?_
  clear s a; rintro m2 a w ⟨g0, c0, hg, a2, s⟩
  rcases m2 with _ | m2
  ·rw [r21_Print_L1] at hg; cases hg
  rw [r21_Print_L1] at hg
  refine S s<|sw<|vw<|mw q<|mw q<|yw q (lS · q u22)<|yw q (y_lssN (i := c0) (j := ((l_).length)) · q q)<|nw fun a s => c_dec s q (fun j0 => ?_) (fun j0 => ?_)
  ·replace hg := br_t hg j0
   have T1 := SlR.mx (s.ft 101 q)
   obtain ⟨h2, m0, hg⟩ := bind_some hg
   obtain ⟨b1, a1, hg⟩ := bind_some hg
   obtain ⟨y0, hg⟩ := chk_some hg
   refine S s<|kw<|pw<|sw<|bw<|lw<|mw q<|mw q<|mw q fun a s => ?_
   obtain ⟨d2, u0, B0, D0, R1, s0, q0⟩ := SlR.elemX (s.ft 101 q) m0
   refine qq s q (eL 10 c0 s u22 u0 (lt_of_get m0) q) fun a s => ?_
   obtain ⟨o1, H1, p1, I1, q1, J1, r1, K1, s1, L1, t1, M1, u1, O1, v1, P1, n1, G1, rfl, Y1, Q0, R0, S0, T0, U0, V0, X0, Y0, P0⟩ := RModule.open s0
   refine S s<|nsw 129 Q0<|nsw 130 R0<|nsw 131 S0<|nsw 132 T0<|nsw 133 U0<|nsw 134 V0<|nsw 135 X0<|nsw 136 Y0<|nsw 137 P0<|yw q (y_ldp · q B0 D0 (by simpa using q0) u38 q q) fun a s => ?_
   refine lC s q func54 (c_r21_module n _ _ s.lt _ _ _ _ _ _ _ _ _ _ _ _ _ _ _ _ _ _ _ (by omega) (s.ft 129 q) (s.ft 130 q) (s.ft 131 q) (s.ft 132 q) (s.ft 133 q) (s.ft 134 q) (s.ft 135 q) (s.ft 136 q) (s.ft 137 q) _ a1) fun g2 a w hK hp s => ?_
   obtain ⟨rfl, b2⟩ := hp
   refine S s<|yw q (y_concat · q q y0)<|aw q fun a s => ?_
   apply wO
   refine p_inN ?_
   refine S s<|pw<|lw<|mw q<|yw q (y_addN (i := c0) (j := 1) · q q (in64.2 (by omega)))<|aw q<|nw fun a s => ?_
   exact ⟨m2, Nat.lt_succ_self _, ⟨(g0 ++ b1), (c0 + 1), hg, (by rw [List.length_append]; omega), (s.sb q q q)⟩⟩
  replace hg := br_f hg j0
  apply wp_exit
  refine p_then ?_
  refine p_then ?_
  refine p_in ?_
  apply pN
  exact ⟨(g0), hg, (by omega), (s.sb q q q)⟩
 clear s a; rintro a w ⟨e0, hg, Z1, s⟩
 subst v0
 refine S s<|sw<|vw<|mw q<|yw q (y_lenStrN · q u9)<|yw q (y_gtrN (i := ((e0).length)) (j := 65536) · q q)<|nw fun a s => c_dec s q (fun k0 => ?_) (fun k0 => ?_)
 ·replace hg := br_t hg k0
  have U1 : (e0).length ≤ 9223372036854775807 := (by omega)
  refine S s<|vw<|aw q<|aw q<|nw fun a s => ?_
  apply wp_ret
  refine p_thenR ?_
  obtain rfl := si hg
  refine fin2 (fn := Tryz.f23) s q (r_tmp s q) (r_tmp s q) ?_
  exact ⟨q, (Nat.le_of_ble_eq_true (by rfl))⟩
 replace hg := br_f hg k0
 refine S s<|kw<|pw<|vw<|mw q<|aw q<|aw q<|nw fun a s => ?_
 apply wp_ret
 obtain rfl := si hg
 refine fin2 (fn := Tryz.f23) s q (r_tmp s q) (r_tmp s q) ?_
 exact ⟨q, (by omega)⟩
set_option maxHeartbeats 1000000 in
theorem c_law22_light (n : Nat) (M : Bs) (w0 : World) (hM : ∀ b, M b → b < w0.heap.size) (t_ : (List Module)) (c0 : Option Addr) (d0 : Nat) (g1 : sR RModule M w0 c0 d0 t_) (r : Bool) (hg : law22_light n t_ = some r) :
    Calls Tryz.prog 10 [sl c0 t_ d0].toArray w0 (Ret noB w0 fun v w => v = .bool (r)) := by
 unfold law22_light at hg
 refine enter M noB func10 q q hM ?_
 intro a s
 refine S s<|esw 101 g1<|vw<|aw q<|nw<|sw<|sw fun a s => ?_
 obtain ⟨k1, hg, O0⟩ := jn_some hg
 refine c_post (fun a w => ∃ (o0 : Bool), k1 o0 = some r ∧ St (cx f10 M w0) [(0, sl c0 t_ d0), (14, .bool (o0))] [] [(101, sF RModule c0 d0 t_)] a w) ?_ ?_
 ·rcases Decidable.em ((6 : Nat) < ((t_).length)) with g0 | g0
  ·have m0 := decide_eq_true g0
   replace hg := br_t hg g0
   have t5 := SlR.mx (s.ft 101 q)
   refine S s<|lw<|mw q<|yw q (lS · q u22)<|yw q (fun s => yl_b (y_gtrN (i := ((t_).length)) (j := 6) s q q) m0)<|mw q<|gw q<|gw q<|gw q<|tw_ q<|nw fun a s => ?_
   exact ⟨(true), hg, (s.sb q q q)⟩
  have m0 := decide_eq_false g0
  replace hg := br_f hg g0
  obtain ⟨r5, z2, hg⟩ := bind_some hg
  refine S s<|lw<|mw q<|yw q (lS · q u22)<|yw q (fun s => yl_b (y_gtrN (i := ((t_).length)) (j := 6) s q q) m0)<|mw q<|hw q fun a s => ?_
  refine gV s q func22 (c_r21_Light n _ _ s.lt _ _ _ (s.ft 101 q) _ z2) fun a w hK s => ?_
  refine S s<|zw q (y_not · q)<|fw q<|nw fun a s => ?_
  exact ⟨(!(r5)), hg, (s.sb q q q)⟩
 clear s a; rintro a w ⟨o0, hg, s⟩
 subst O0
 refine c_cond s q (fun k0 => ?_) (fun k0 => ?_)
 ·replace hg := br_t hg k0
  refine S s<|vw<|aw q<|nw fun a s => ?_
  apply wp_ret
  refine p_thenR ?_
  obtain rfl := si hg
  exact fin1 (fn := Tryz.f10) s q (r_tmp s q) q
 replace hg := br_n hg k0
 refine S s<|kw<|pw<|vw<|aw q<|nw<|sw<|vw<|aw q<|nw fun a s => ?_
 obtain ⟨p0, hg, P0⟩ := jn_some hg
 refine c_post (fun a w => ∃ (j0 : Int), p0 j0 = some r ∧ St (cx f10 M w0) [(0, sl c0 t_ d0), (3, vI j0)] [] [(101, sF RModule c0 d0 t_)] a w) ?_ ?_
 ·apply wp_block
  refine c_loop (σ := Nat) (fun m1 a w => ∃ (i0 : Int) (b0 : Nat), law22_light_L0 n t_ p0 m1 i0 b0 = some r ∧ St (cx f10 M w0) [(0, sl c0 t_ d0), (3, vI i0), (4, vI (((b0 : Nat) : Int)))] [] [(101, sF RModule c0 d0 t_)] a w) (fun m1 => m1) n ⟨(0), (0), hg, (s.sb q q q)⟩ ?_
  clear s a; rintro m1 a w ⟨i0, b0, hg, s⟩
  rcases m1 with _ | m1
  ·rw [law22_light_L0] at hg; cases hg
  rw [law22_light_L0] at hg
  refine S s<|sw<|vw<|mw q<|mw q<|yw q (lS · q u22)<|yw q (y_lssN (i := b0) (j := ((t_).length)) · q q)<|nw fun a s => c_dec s q (fun l0 => ?_) (fun l0 => ?_)
  ·replace hg := br_t hg l0
   have s5 := SlR.mx (s.ft 101 q)
   obtain ⟨e0, a0, hg⟩ := bind_some hg
   refine S s<|kw<|pw<|sw<|bw fun a s => ?_
   refine d_plan s [] [(0, some 0), (1, some 0), (2, some 0), (3, some 0), (4, some 0), (5, some 0), (6, some 0), (7, some 0), (8, some 0), (9, some 0), (10, some 0), (11, some 0), (12, some 0), (13, some 0), (14, some 0), (15, some 0), (16, some 0), (17, some 0), (18, some 0), (19, some 0), (20, some 0), (21, some 0), (22, some 0), (23, some 0), (24, some 0), (25, some 0), (26, some 0), (27, some 0), (28, some 0), (29, some 0), (30, some 0), (31, some 0), (32, some 0), (33, some 0), (34, some 0), (35, some 0), (36, some 0), (37, some 0), (38, some 0), (39, some 0), (40, some 0), (41, some 0), (42, some 0), (43, some 0), (44, some 0), (45, some 0), (46, some 0), (47, some 0), (48, some 0), (49, some 0), (50, some 0)] q (by kernel_rfl) (by kernel_rfl) q ?_; clear s; intro wr hZ s; have hR := s.wd
   refine S s<|qw hR q (mo · q)<|qw hR q (mo · q)<|qw hR q (mo · q) fun a s => ?_
   obtain ⟨D5, G0, Q0, Y0, k5, y0, q0⟩ := SlR.elemX (s.ft 101 q) a0
   refine S s<|qw hR q (eL 10 b0 · u22 G0 (lt_of_get a0) q)<|qw hR q (pF 2 · u38 q) fun a s => ?_
   obtain ⟨C2, T3, D2, U3, E2, V3, F2, X3, G2, Y3, H2, Z3, I2, a4, J2, b4, B2, S3, rfl, u5, i1, j1, l1, n1, o1, p1, q1, r1, h1⟩ := RModule.open y0
   refine S s<|nsw 165 i1<|nsw 166 j1<|nsw 167 l1<|nsw 168 n1<|nsw 169 o1<|nsw 170 p1<|nsw 171 q1<|nsw 172 r1<|nsw 173 h1<|qw hR q (lP · Q0 Y0 (q0 2 _ q) u32 q)<|qw hR q (lS · q u32)<|qw hR q (y_wadd · q q)<|qw hR q (mo · q)<|qw hR q (mo · q) fun a s => ?_
   obtain ⟨E5, H0, R0, Z0, l5, z0, r0⟩ := SlR.elemX (s.ft 101 q) a0
   refine S s<|qw hR q (eL 10 b0 · u22 H0 (lt_of_get a0) q)<|qw hR q (pF 3 · u38 q) fun a s => ?_
   obtain ⟨L2, d4, M2, e4, O2, g4, P2, h4, Q2, i4, R2, j4, S2, k4, T2, l4, K2, c4, rfl, v5, t1, u1, v1, w1, x1, y1, z1, B1, s1⟩ := RModule.open z0
   refine S s<|nsw 174 t1<|nsw 175 u1<|nsw 176 v1<|nsw 177 w1<|nsw 178 x1<|nsw 179 y1<|nsw 180 z1<|nsw 181 B1<|nsw 182 s1<|qw hR q (lP · R0 Z0 (r0 3 _ q) u33 q)<|qw hR q (lS · q u33)<|qw hR q (y_wadd · q q)<|qw hR q (mo · q)<|qw hR q (mo · q) fun a s => ?_
   obtain ⟨F5, I0, S0, a1, m5, B0, s0⟩ := SlR.elemX (s.ft 101 q) a0
   refine S s<|qw hR q (eL 10 b0 · u22 I0 (lt_of_get a0) q)<|qw hR q (pF 4 · u38 q) fun a s => ?_
   obtain ⟨V2, n4, X2, o4, Y2, p4, Z2, q4, a3, r4, b3, s4, c3, t4, d3, v4, U2, m4, rfl, w5, D1, E1, F1, G1, H1, I1, J1, K1, C1⟩ := RModule.open B0
   refine S s<|nsw 183 D1<|nsw 184 E1<|nsw 185 F1<|nsw 186 G1<|nsw 187 H1<|nsw 188 I1<|nsw 189 J1<|nsw 190 K1<|nsw 191 C1<|qw hR q (lP · S0 a1 (s0 4 _ q) u34 q)<|qw hR q (lS · q u34)<|qw hR q (y_wadd · q q)<|qw hR q (mo · q)<|qw hR q (mo · q) fun a s => ?_
   obtain ⟨G5, J0, T0, b1, n5, C0, t0⟩ := SlR.elemX (s.ft 101 q) a0
   refine S s<|qw hR q (eL 10 b0 · u22 J0 (lt_of_get a0) q)<|qw hR q (pF 5 · u38 q) fun a s => ?_
   obtain ⟨g3, x4, h3, y4, i3, z4, j3, B4, k3, C4, l3, D4, m3, E4, n3, F4, e3, w4, rfl, x5, M1, O1, P1, Q1, R1, S1, T1, U1, L1⟩ := RModule.open C0
   refine S s<|nsw 192 M1<|nsw 193 O1<|nsw 194 P1<|nsw 195 Q1<|nsw 196 R1<|nsw 197 S1<|nsw 198 T1<|nsw 199 U1<|nsw 200 L1<|qw hR q (lP · T0 b1 (t0 5 _ q) u35 q)<|qw hR q (lS · q u35)<|qw hR q (y_wadd · q q)<|qw hR q (mo · q)<|qw hR q (mo · q) fun a s => ?_
   obtain ⟨H5, K0, U0, c1, o5, D0, u0⟩ := SlR.elemX (s.ft 101 q) a0
   refine S s<|qw hR q (eL 10 b0 · u22 K0 (lt_of_get a0) q)<|qw hR q (pF 6 · u38 q) fun a s => ?_
   obtain ⟨p3, H4, q3, I4, r3, J4, s3, K4, t3, L4, v3, M4, w3, O4, x3, P4, o3, G4, rfl, y5, X1, Y1, Z1, a2, b2, c2, d2, e2, V1⟩ := RModule.open D0
   refine S s<|nsw 201 X1<|nsw 202 Y1<|nsw 203 Z1<|nsw 204 a2<|nsw 205 b2<|nsw 206 c2<|nsw 207 d2<|nsw 208 e2<|nsw 209 V1<|qw hR q (lP · U0 c1 (u0 6 _ q) u33 q)<|qw hR q (lS · q u33)<|qw hR q (y_wadd · q q)<|qw hR q (mo · q)<|qw hR q (mo · q) fun a s => ?_
   obtain ⟨I5, L0, V0, d1, p5, E0, v0⟩ := SlR.elemX (s.ft 101 q) a0
   refine S s<|qw hR q (eL 10 b0 · u22 L0 (lt_of_get a0) q)<|qw hR q (pF 7 · u38 q) fun a s => ?_
   obtain ⟨z3, R4, B3, S4, C3, T4, D3, U4, E3, V4, F3, X4, G3, Y4, H3, Z4, y3, Q4, rfl, z5, h2, i2, j2, k2, l2, m2, n2, o2, g2⟩ := RModule.open E0
   refine S s<|nsw 210 h2<|nsw 211 i2<|nsw 212 j2<|nsw 213 k2<|nsw 214 l2<|nsw 215 m2<|nsw 216 n2<|nsw 217 o2<|nsw 218 g2<|qw hR q (lP · V0 d1 (v0 7 _ q) u33 q)<|qw hR q (lS · q u33)<|qw hR q (y_wadd · q q)<|qw hR q (mo · q)<|qw hR q (mo · q) fun a s => ?_
   obtain ⟨J5, M0, X0, e1, q5, F0, x0⟩ := SlR.elemX (s.ft 101 q) a0
   refine S s<|qw hR q (eL 10 b0 · u22 M0 (lt_of_get a0) q)<|qw hR q (pF 1 · u38 q) fun a s => ?_
   obtain ⟨J3, b5, K3, c5, L3, d5, M3, e5, O3, g5, P3, h5, Q3, i5, R3, j5, I3, a5, rfl, B5, q2, r2, s2, t2, u2, v2, w2, x2, p2⟩ := RModule.open F0
   refine S s<|nsw 219 q2<|nsw 220 r2<|nsw 221 s2<|nsw 222 t2<|nsw 223 u2<|nsw 224 v2<|nsw 225 w2<|nsw 226 x2<|nsw 227 p2<|qw hR q (lP · X0 e1 (x0 1 _ q) u25 q)<|qw hR q (lS · q u25)<|qw hR q (y_wadd · q q)<|qw hR q (y_assign · q) fun a s => ?_
   clear hR hZ
   refine p_inN ?_
   refine S s<|pw<|lw<|mw q<|yw q (y_addN (i := b0) (j := 1) · q q (in64.2 (by omega)))<|aw q<|nw fun a s => ?_
   exact ⟨m1, Nat.lt_succ_self _, ⟨(IntKind.i64.wrap ((IntKind.i64.wrap ((IntKind.i64.wrap ((IntKind.i64.wrap ((IntKind.i64.wrap ((IntKind.i64.wrap ((IntKind.i64.wrap (i0 + (((e0.Types).length : Nat) : Int))) + (((e0.Templates).length : Nat) : Int))) + (((e0.Entries).length : Nat) : Int))) + (((e0.LexRules).length : Nat) : Int))) + (((e0.Rules).length : Nat) : Int))) + (((e0.Roots).length : Nat) : Int))) + (((e0.Imports).length : Nat) : Int))), (b0 + 1), hg, (s.sb q q q)⟩⟩
  replace hg := br_f hg l0
  apply wp_exit
  refine p_then ?_
  refine p_then ?_
  refine p_in ?_
  apply pN
  exact ⟨(i0), hg, (s.sb q q q)⟩
 clear s a; rintro a w ⟨j0, hg, s⟩
 subst P0
 obtain ⟨K5, y2, hg⟩ := bind_some hg
 refine S s<|sw<|lw<|mw q fun a s => ?_
 refine lC s q func23 (c_r21_Print n _ _ s.lt _ _ _ (s.ft 101 q) _ y2) fun L5 a w hK hp s => ?_
 obtain ⟨rfl, C5⟩ := hp
 refine S s<|mw q<|yw q (y_extract · q q)<|yw q (y_extract · q q)<|aw q<|aw q<|nw<|sw fun a s => ?_
 rcases Decidable.em (j0 ≤ 40) with h0 | h0
 ·have n0 := decide_eq_true h0
  replace hg := br_t hg h0
  refine S s<|lw<|mw q<|yw q (fun s => yl_b (y_leq s q q) n0)<|mw q<|hw q<|zw q (y_eql · q q)<|tw_ q<|aw q<|nw fun a s => ?_
  apply wp_ret
  obtain rfl := si hg
  exact fin1 (fn := Tryz.f10) s q (r_tmp s q) q
 have n0 := decide_eq_false h0
 replace hg := br_f hg h0
 refine S s<|lw<|mw q<|yw q (fun s => yl_b (y_leq s q q) n0)<|mw q<|gw q<|gw q<|fw q<|aw q<|nw fun a s => ?_
 apply wp_ret
 obtain rfl := si hg
 exact fin1 (fn := Tryz.f10) s q (r_tmp s q) q
set_option maxHeartbeats 1000000 in
theorem c_slices_IndexFunc_Module (n : Nat) (M : Bs) (w0 : World) (hM : ∀ b, M b → b < w0.heap.size) (s_ : (List Module)) (d0 : Option Addr) (e0 : Nat) (I0 : sR RModule M w0 d0 e0 s_) (f_ : (Module → Option Bool)) (c0 : FuncId) (b0 : List Value) (J0 : FnR Tryz.prog c0 b0 pre66 post66 (f_) M w0) (r : Int) (hg : slices_IndexFunc_Module n s_ f_ = some r) :
    Calls Tryz.prog 55 [sl d0 s_ e0, .func (.func c0) #[] (List.toArray b0)].toArray w0 (Ret noB w0 fun v w => v = .int .i64 (r)) := by
 unfold slices_IndexFunc_Module at hg
 refine enter M noB func55 q q hM ?_
 intro a s
 replace s := s.es 101 I0
 replace s := s.add 102 (fnF Tryz.prog c0 b0 pre66 post66 (f_)) (by exact Fact.change _ enterM J0)
 refine S s<|vw<|aw q<|nw<|sw<|vw<|mw q<|yw q (lS · q u22)<|mw q<|nw<|bw fun a s => ?_
 refine c_loop (σ := Nat) (fun m1 a w => ∃ (a0 : Nat), slices_IndexFunc_Module_L0 n s_ f_ m1 a0 = some r ∧ St (cx f55 M w0) [(0, sl d0 s_ e0), (1, .func (.func c0) #[] (List.toArray b0)), (7, vI ((((s_).length : Nat) : Int))), (8, vI (((a0 : Nat) : Int)))] [] [(101, sF RModule d0 e0 s_), (102, fnF Tryz.prog c0 b0 pre66 post66 (f_))] a w) (fun m1 => m1) n ⟨(0), hg, (s.sb q q q)⟩ ?_
 clear s a; rintro m1 a w ⟨a0, hg, s⟩
 rcases m1 with _ | m1
 ·rw [slices_IndexFunc_Module_L0] at hg; cases hg
 rw [slices_IndexFunc_Module_L0] at hg
 refine S s<|vw<|yw q (y_lssN (i := a0) (j := ((s_).length)) · q q)<|nw<|sw fun a s => c_dec s q (fun h0 => ?_) (fun h0 => ?_)
 ·replace hg := br_t hg h0
  have X0 := SlR.mx (s.ft 101 q)
  obtain ⟨x5, i0, hg⟩ := bind_some hg
  obtain ⟨r7, U0, hg⟩ := bind_some hg
  refine S s<|kw<|pw<|sw<|bw<|vw<|mw q<|aw q<|nw<|sw<|lw<|mw q<|mw q<|mw q fun a s => ?_
  obtain ⟨Z0, F0, G0, H0, V0, E0, D0⟩ := SlR.elemX (s.ft 101 q) i0
  refine qq s q (eL 10 a0 s u22 F0 (lt_of_get i0) q) fun a s => ?_
  obtain ⟨k0, t0, l0, u0, m0, v0, n0, x0, o0, y0, p0, z0, q0, B0, r0, C0, j0, s0, rfl, Y0, L0, M0, O0, P0, Q0, R0, S0, T0, K0⟩ := RModule.open E0
  refine S s<|nsw 112 L0<|nsw 113 M0<|nsw 114 O0<|nsw 115 P0<|nsw 116 Q0<|nsw 117 R0<|nsw 118 S0<|nsw 119 T0<|nsw 120 K0<|yw q (y_ldp · q G0 H0 (by simpa using D0) u38 q q) fun a s => ?_
  refine l_seq q (l_callFn (cap := b0) (x := x5) s q (s.ft 102 q) q q ⟨(k0), (t0), (l0), (u0), (m0), (v0), (n0), (x0), (o0), (y0), (p0), (z0), (q0), (B0), (r0), (C0), (j0), (s0), q, (by omega), (s.ft 112 q), (s.ft 113 q), (s.ft 114 q), (s.ft 115 q), (s.ft 116 q), (s.ft 117 q), (s.ft 118 q), (s.ft 119 q), (s.ft 120 q)⟩ U0 fun a1 a w hK hp s => ?_)
  obtain rfl := hp
  apply wN
  refine c_cond s q (fun g0 => ?_) (fun g0 => ?_)
  ·replace hg := br_t hg g0
   refine S s<|vw<|mw q<|aw q<|nw fun a s => ?_
   apply wp_ret
   refine p_inR ?_
   refine p_thenR ?_
   refine p_thenR ?_
   refine p_inR ?_
   refine p_thenR ?_
   obtain rfl := si hg
   exact fin1 (fn := Tryz.f55) s q (r_tmp s q) q
  replace hg := br_n hg g0
  apply wp_skip
  refine p_inN ?_
  refine S s<|pw<|lw<|yw q (y_addN (i := a0) (j := 1) · q q (in64.2 (by omega)))<|mw q<|nw fun a s => ?_
  exact ⟨m1, Nat.lt_succ_self _, ⟨(a0 + 1), hg, (s.sb q q q)⟩⟩
 replace hg := br_f hg h0
 apply wp_exit
 refine p_then ?_
 refine p_then ?_
 refine p_in ?_
 refine S s<|pw<|vw<|aw q<|nw fun a s => ?_
 apply wp_ret
 obtain rfl := si hg
 exact fin1 (fn := Tryz.f55) s q (r_tmp s q) q
set_option maxHeartbeats 1000000 in
theorem c_module_find_1 (n : Nat) (M : Bs) (w0 : World) (hM : ∀ b, M b → b < w0.heap.size) (m_ : Module) (b0 : Option Addr) (m0 : Nat) (c0 : Option Addr) (n0 : Nat) (d0 : Option Addr) (o0 : Nat) (e0 : Option Addr) (p0 : Nat) (g0 : Option Addr) (q0 : Nat) (h0 : Option Addr) (r0 : Nat) (i0 : Option Addr) (s0 : Nat) (j0 : Option Addr) (t0 : Nat) (a0 : Option Addr) (l0 : Nat) (I0 : (m_.Name).length ≤ 9223372036854775807) (y0 : sR Rep.str M w0 b0 m0 m_.Imports) (z0 : sR RTypeDecl M w0 c0 n0 m_.Types) (B0 : sR RDef M w0 d0 o0 m_.Templates) (C0 : sR REntryDecl M w0 e0 p0 m_.Entries) (D0 : sR RLexDecl M w0 g0 q0 m_.LexRules) (E0 : sR RDef M w0 h0 r0 m_.Rules) (F0 : sR RDef M w0 i0 s0 m_.Roots) (G0 : sR (Rep.list Rep.str) M w0 j0 t0 m_.Checks) (x0 : sR Rep.str M w0 a0 l0 m_.Drops) (u0 : Nat) (k0 : (List UInt8)) (H0 : (k0).length ≤ 9223372036854775807) (v0 : BoxR u0 [.string (bs (k0))] 9 M w0) (r : Bool) (hg : module_find_1 n m_ k0 = some r) :
    Calls Tryz.prog 56 [.agg #[vT m_.Name, sl b0 m_.Imports m0, sl c0 m_.Types n0, sl d0 m_.Templates o0, sl e0 m_.Entries p0, sl g0 m_.LexRules q0, sl h0 m_.Rules r0, sl i0 m_.Roots s0, sl j0 m_.Checks t0, sl a0 m_.Drops l0], .pointer (some ⟨u0, 0, none⟩)].toArray w0 (Ret noB w0 fun v w => v = .bool (r)) := by
 unfold module_find_1 at hg
 refine enter M noB func56 q q hM ?_
 intro a s
 replace s := s.es 101 y0 |>.es 102 z0 |>.es 103 B0 |>.es 104 C0 |>.es 105 D0 |>.es 106 E0 |>.es 107 F0 |>.es 108 G0 |>.es 109 x0
 replace s := s.ebx 110 v0
 apply wR
 refine l_seq q (l_box (zs := [vT m_.Name, sl b0 m_.Imports m0, sl c0 m_.Types n0, sl d0 m_.Templates o0, sl e0 m_.Entries p0, sl g0 m_.LexRules q0, sl h0 m_.Rules r0, sl i0 m_.Roots s0, sl j0 m_.Checks t0, sl a0 m_.Drops l0]) s 1000 q q q q fun b2 a w hb hK s => ?_)
 refine S s<|aw q<|nw<|vw<|yw q (bF 0 · u38 q)<|yw q (lB 1000 · u9 q)<|yw q (fun s => y_loadF1 s q (s.ft 110 q) q u9 q)<|yw q (y_seq · q q)<|aw q<|nw fun a s => ?_
 apply wp_ret
 obtain rfl := si hg
 exact fin1 (fn := Tryz.f56) s q (r_tmp s q) q
set_option maxHeartbeats 1000000 in
theorem c_module_find (n : Nat) (M : Bs) (w0 : World) (hM : ∀ b, M b → b < w0.heap.size) (l_ : (List Module)) (R0 : Option Addr) (S0 : Nat) (j1 : sR RModule M w0 R0 S0 l_) (name_ : (List UInt8)) (x1 : (name_).length ≤ 9223372036854775807) (r : (Module × Bool)) (hg : module_find n l_ name_ = some r) :
    Calls Tryz.prog 27 [sl R0 l_ S0, vT name_].toArray w0 (Ret noB w0 fun v w => ∃ (c0 : Option Addr), ∃ (m0 : Nat), ∃ (d0 : Option Addr), ∃ (n0 : Nat), ∃ (e0 : Option Addr), ∃ (o0 : Nat), ∃ (g0 : Option Addr), ∃ (p0 : Nat), ∃ (h0 : Option Addr), ∃ (q0 : Nat), ∃ (i0 : Option Addr), ∃ (r0 : Nat), ∃ (j0 : Option Addr), ∃ (s0 : Nat), ∃ (k0 : Option Addr), ∃ (t0 : Nat), ∃ (b0 : Option Addr), ∃ (l0 : Nat), v = .tuple #[.agg #[vT r.1.Name, sl c0 r.1.Imports m0, sl d0 r.1.Types n0, sl e0 r.1.Templates o0, sl g0 r.1.Entries p0, sl h0 r.1.LexRules q0, sl i0 r.1.Rules r0, sl j0 r.1.Roots s0, sl k0 r.1.Checks t0, sl b0 r.1.Drops l0], .bool (r.2)] ∧ ((r.1.Name).length ≤ 9223372036854775807) ∧ (SlR Rep.str M w c0 (r.1.Imports).length m0 (r.1.Imports)) ∧ (SlR RTypeDecl M w d0 (r.1.Types).length n0 (r.1.Types)) ∧ (SlR RDef M w e0 (r.1.Templates).length o0 (r.1.Templates)) ∧ (SlR REntryDecl M w g0 (r.1.Entries).length p0 (r.1.Entries)) ∧ (SlR RLexDecl M w h0 (r.1.LexRules).length q0 (r.1.LexRules)) ∧ (SlR RDef M w i0 (r.1.Rules).length r0 (r.1.Rules)) ∧ (SlR RDef M w j0 (r.1.Roots).length s0 (r.1.Roots)) ∧ (SlR (Rep.list Rep.str) M w k0 (r.1.Checks).length t0 (r.1.Checks)) ∧ (SlR Rep.str M w b0 (r.1.Drops).length l0 (r.1.Drops))) := by
 unfold module_find at hg
 refine enter M noB func27 q q hM ?_
 intro a s
 replace s := s.es 101 j1
 apply wR
 refine l_seq q (l_box (zs := [vT name_]) s 1000 q q q q fun b3 a w hb hK s => ?_)
 refine l_seq q (l_alloc (zs := [vT ([]), nS, nS, nS, nS, nS, nS, nS, nS, nS]) s 1001 q q q q fun b4 a w hb hK s => ?_)
 obtain ⟨r5, t1, hg⟩ := bind_some hg
 refine S s<|aw q<|nw<|sw<|lw<|mw q fun a s => ?_
 replace s := s.freezeBox (L' := [(1001, Ob.box b4 [vT ([]), nS, nS, nS, nS, nS, nS, nS, nS, nS] 38)]) 103 1000 q ⟨q, trivial⟩ q
 refine qq s q (y_makeFunc (xs := [.tmp 3]) (vs := [vP b3 0]) s q) fun a s => ?_
 refine lV s q func55 (c_slices_IndexFunc_Module n _ _ s.lt _ _ _ (s.ft 101 q) _ _ _ ⟨⟨_, _, func56, q, by kernel_rfl⟩, fun M1 w1 hk hm hlt vs x r hp hr => by obtain ⟨c0, m0, d0, n0, e0, o0, g0, p0, h0, q0, i0, r0, j0, s0, k0, t0, b0, l0, rfl, u1, U0, V0, X0, Y0, Z0, a1, b1, c1, T0⟩ := hp; exact c_module_find_1 n M1 w1 hlt (x) c0 m0 d0 n0 e0 o0 g0 p0 h0 q0 i0 r0 j0 s0 k0 t0 b0 l0 u1 U0 V0 X0 Y0 Z0 a1 b1 c1 T0 b3 (name_) (by omega) (Fact.move (boxF b3 [vT name_] 9) hk hm (s.ft 103 q)) r hr⟩ _ t1) fun a w hK s => ?_
 refine S s<|aw q<|nw<|sw<|vw<|mw q<|yw q (y_lss · q q)<|nw fun a s => c_dec s q (fun P0 => ?_) (fun P0 => ?_)
 ·replace hg := br_t hg P0
  apply wR
  refine qq s q (y_build (parts := []) (ps := []) (cells := #[vT ([]), nS, nS, nS, nS, nS, nS, nS, nS, nS]) s q (by kernel_rfl)) fun a s => ?_
  refine l_seq q (l_store (n := 10) (cs' := [vT ([]), nS, nS, nS, nS, nS, nS, nS, nS, nS]) s 1001 q q q q q q q q ?_); clear s; intro w hK s; clear hK
  refine S s<|aw q<|nw fun a s => ?_
  apply wp_ret
  refine p_thenR ?_
  obtain rfl := si hg
  refine fin2 (fn := Tryz.f27) s q (r_cell (kk := 1001) (n := 10) (vs := [vT ([]), nS, nS, nS, nS, nS, nS, nS, nS, nS]) s q q u38 q q q q) (r_tmp s q) ?_
  exact ⟨(none), (0), (none), (0), (none), (0), (none), (0), (none), (0), (none), (0), (none), (0), (none), (0), (none), (0), q, (Nat.le_of_ble_eq_true (by rfl)), (SlR.nil_ _ _ _), (SlR.nil_ _ _ _), (SlR.nil_ _ _ _), (SlR.nil_ _ _ _), (SlR.nil_ _ _ _), (SlR.nil_ _ _ _), (SlR.nil_ _ _ _), (SlR.nil_ _ _ _), (SlR.nil_ _ _ _)⟩
 replace hg := br_f hg P0
 obtain ⟨a0, Q0, hg⟩ := bind_some hg
 refine S s<|kw<|pw<|sw<|lw<|mw q<|mw q fun a s => ?_
 obtain ⟨z1, g1, h1, i1, v1, e1, d1⟩ := SlR.elemX (s.ft 101 q) (ix_some Q0).1
 refine qq s q (y_elem (sz := 10) (i := ((r5).toNat)) s q q u22 q g1 (ix_some Q0).2.1 (lt_of_get (ix_some Q0).1)) fun a s => ?_
 obtain ⟨v0, G0, x0, H0, y0, I0, z0, J0, B0, K0, C0, L0, D0, M0, E0, O0, u0, F0, rfl, y1, l1, m1, n1, o1, p1, q1, r1, s1, k1⟩ := RModule.open e1
 refine S s<|nsw 113 l1<|nsw 114 m1<|nsw 115 n1<|nsw 116 o1<|nsw 117 p1<|nsw 118 q1<|nsw 119 r1<|nsw 120 s1<|nsw 121 k1<|yw q (y_ldp · q h1 i1 (by simpa using d1) u38 q q) fun a s => ?_
 refine l_seq q (l_store (n := 10) (cs' := [vT a0.Name, sl v0 a0.Imports G0, sl x0 a0.Types H0, sl y0 a0.Templates I0, sl z0 a0.Entries J0, sl B0 a0.LexRules K0, sl C0 a0.Rules L0, sl D0 a0.Roots M0, sl E0 a0.Checks O0, sl u0 a0.Drops F0]) s 1001 q q q q q q q q ?_); clear s; intro w hK s; clear hK
 refine S s<|aw q<|nw fun a s => ?_
 apply wp_ret
 obtain rfl := si hg
 refine fin2 (fn := Tryz.f27) s q (r_cell (kk := 1001) (n := 10) (vs := [vT a0.Name, sl v0 a0.Imports G0, sl x0 a0.Types H0, sl y0 a0.Templates I0, sl z0 a0.Entries J0, sl B0 a0.LexRules K0, sl C0 a0.Rules L0, sl D0 a0.Roots M0, sl E0 a0.Checks O0, sl u0 a0.Drops F0]) s q q u38 q q q q) (r_tmp s q) ?_
 exact ⟨(v0), (G0), (x0), (H0), (y0), (I0), (z0), (J0), (B0), (K0), (C0), (L0), (D0), (M0), (E0), (O0), (u0), (F0), q, (by omega), (s.out (k := 113) q), (s.out (k := 114) q), (s.out (k := 115) q), (s.out (k := 116) q), (s.out (k := 117) q), (s.out (k := 118) q), (s.out (k := 119) q), (s.out (k := 120) q), (s.out (k := 121) q)⟩
set_option maxHeartbeats 1000000 in
theorem c_slices_Index_string (n : Nat) (M : Bs) (w0 : World) (hM : ∀ b, M b → b < w0.heap.size) (s_ : (List (List UInt8))) (b0 : Option Addr) (c0 : Nat) (m0 : sR Rep.str M w0 b0 c0 s_) (v_ : (List UInt8)) (p0 : (v_).length ≤ 9223372036854775807) (r : Int) (hg : slices_Index_string n s_ v_ = some r) :
    Calls Tryz.prog 67 [sl b0 s_ c0, vT v_].toArray w0 (Ret noB w0 fun v w => v = .int .i64 (r)) := by
 unfold slices_Index_string at hg
 refine enter M noB func67 q q hM ?_
 intro a s
 refine S s<|esw 101 m0<|vw<|aw q<|nw<|sw<|vw<|mw q<|yw q (lS · q u25)<|mw q<|nw<|bw fun a s => ?_
 refine c_loop (σ := Nat) (fun m1 a w => ∃ (a0 : Nat), slices_Index_string_L0 n s_ v_ m1 a0 = some r ∧ St (cx f67 M w0) [(0, sl b0 s_ c0), (1, vT v_), (7, vI ((((s_).length : Nat) : Int))), (8, vI (((a0 : Nat) : Int)))] [] [(101, sF Rep.str b0 c0 s_)] a w) (fun m1 => m1) n ⟨(0), hg, (s.sb q q q)⟩ ?_
 clear s a; rintro m1 a w ⟨a0, hg, s⟩
 rcases m1 with _ | m1
 ·rw [slices_Index_string_L0] at hg; cases hg
 rw [slices_Index_string_L0] at hg
 refine S s<|vw<|yw q (y_lssN (i := a0) (j := ((s_).length)) · q q)<|nw<|sw fun a s => c_dec s q (fun d0 => ?_) (fun d0 => ?_)
 ·replace hg := br_t hg d0
  have o0 := SlR.mx (s.ft 101 q)
  obtain ⟨x5, g0, hg⟩ := bind_some hg
  refine S s<|kw<|pw<|sw<|bw<|vw<|mw q<|aw q<|nw<|sw<|lw<|mw q<|mw q<|mw q fun a s => ?_
  obtain ⟨p7, j0, k0, l0, n0, i0, h0⟩ := SlR.elemX (s.ft 101 q) g0
  refine qq s q (eL 1 a0 s u25 j0 (lt_of_get g0) q) fun a s => ?_
  obtain ⟨rfl, q0⟩ := i0
  refine S s<|yw q (lP · k0 l0 (h0 0 _ q) u9 q)<|yw q (y_seq · q q)<|nw fun a s => c_dec s q (fun e0 => ?_) (fun e0 => ?_)
  ·replace hg := br_t hg e0
   refine S s<|vw<|mw q<|aw q<|nw fun a s => ?_
   apply wp_ret
   refine p_inR ?_
   refine p_thenR ?_
   refine p_thenR ?_
   refine p_inR ?_
   refine p_thenR ?_
   obtain rfl := si hg
   exact fin1 (fn := Tryz.f67) s q (r_tmp s q) q
  replace hg := br_f hg e0
  apply wp_skip
  refine p_inN ?_
  refine S s<|pw<|lw<|yw q (y_addN (i := a0) (j := 1) · q q (in64.2 (by omega)))<|mw q<|nw fun a s => ?_
  exact ⟨m1, Nat.lt_succ_self _, ⟨(a0 + 1), hg, (s.sb q q q)⟩⟩
 replace hg := br_f hg d0
 apply wp_exit
 refine p_then ?_
 refine p_then ?_
 refine p_in ?_
 refine S s<|pw<|vw<|aw q<|nw fun a s => ?_
 apply wp_ret
 obtain rfl := si hg
 exact fin1 (fn := Tryz.f67) s q (r_tmp s q) q
set_option maxHeartbeats 1000000 in
theorem c_slices_Contains_string (n : Nat) (M : Bs) (w0 : World) (hM : ∀ b, M b → b < w0.heap.size) (s_ : (List (List UInt8))) (a0 : Option Addr) (b0 : Nat) (c0 : sR Rep.str M w0 a0 b0 s_) (v_ : (List UInt8)) (e0 : (v_).length ≤ 9223372036854775807) (r : Bool) (hg : slices_Contains_string n s_ v_ = some r) :
    Calls Tryz.prog 40 [sl a0 s_ b0, vT v_].toArray w0 (Ret noB w0 fun v w => v = .bool (r)) := by
 unfold slices_Contains_string at hg
 refine enter M noB func40 q q hM ?_
 intro a s
 obtain ⟨r1, d0, hg⟩ := bind_some hg
 refine S s<|esw 101 c0<|vw<|aw q<|nw<|sw<|lw<|mw q<|mw q fun a s => ?_
 refine lV s q func67 (c_slices_Index_string n _ _ s.lt _ _ _ (s.ft 101 q) _ (by omega) _ d0) fun a w hK s => ?_
 refine S s<|yw q (y_geq · q q)<|aw q<|nw fun a s => ?_
 apply wp_ret
 obtain rfl := si hg
 exact fin1 (fn := Tryz.f40) s q (r_tmp s q) q
set_option maxHeartbeats 1000000 in
theorem c_module_needs (n : Nat) (M : Bs) (w0 : World) (hM : ∀ b, M b → b < w0.heap.size) (t_ : (List Module)) (d0 : Option Addr) (e0 : Nat) (e2 : sR RModule M w0 d0 e0 t_) (t_' : (List UInt8)) (a3 : (t_').length ≤ 9223372036854775807) (r : (List (List UInt8))) (hg : module_needs n t_ t_' = some r) :
    Calls Tryz.prog 25 [sl d0 t_ e0, vT t_'].toArray w0 (Ret noB w0 fun v w => ∃ (B0 : Option Addr), ∃ (C0 : Nat), v = sl B0 r C0 ∧ (SlR Rep.str M w B0 (r).length C0 (r))) := by
 unfold module_needs at hg
 refine enter M noB func25 q q hM ?_
 intro a s
 obtain ⟨r1, g2, hg⟩ := bind_some hg
 refine S s<|esw 101 e2<|vw<|aw q<|nw<|sw<|sw<|lw<|mw q<|mw q fun a s => ?_
 refine lC s q func27 (c_module_find n _ _ s.lt _ _ _ (s.ft 101 q) _ (by omega) _ g2) fun v5 a w hK hp s => ?_
 obtain ⟨d1, J1, e1, K1, g1, L1, h1, M1, i1, O1, j1, P1, k1, Q1, l1, R1, c1, I1, rfl, e3, G2, H2, I2, J2, K2, L2, M2, O2, F2⟩ := hp
 refine S s<|nsw 111 G2<|nsw 112 H2<|nsw 113 I2<|nsw 114 J2<|nsw 115 K2<|nsw 116 L2<|nsw 117 M2<|nsw 118 O2<|nsw 119 F2<|mw q<|yw q (y_extract · q q)<|yw q (y_extract · q q) fun a s => ?_
 refine l_seq q (l_alloc (zs := [vT ([]), nS, nS, nS, nS, nS, nS, nS, nS, nS]) s 1106 q q q q fun b7 a w hb hK s => ?_)
 refine l_seq q (l_store (n := 10) (cs' := [vT r1.1.Name, sl d1 r1.1.Imports J1, sl e1 r1.1.Types K1, sl g1 r1.1.Templates L1, sl h1 r1.1.Entries M1, sl i1 r1.1.LexRules O1, sl j1 r1.1.Rules P1, sl k1 r1.1.Roots Q1, sl l1 r1.1.Checks R1, sl c1 r1.1.Drops I1]) s 1106 q q q q q q q q ?_); clear s; intro w hK s; clear hK
 refine S s<|aw q<|nw<|vw<|mw q<|yw q (y_not · q)<|nw fun a s => c_cond s q (fun y0 => ?_) (fun y0 => ?_)
 ·replace hg := br_t hg y0
  refine S s<|vw<|aw q<|nw fun a s => ?_
  apply wp_ret
  refine p_thenR ?_
  obtain rfl := si hg
  refine fin1 (fn := Tryz.f25) s q (r_tmp s q) ?_
  exact ⟨(none), (0), q, (SlR.nil_ _ _ _)⟩
 replace hg := br_n hg y0
 refine S s<|kw<|pw<|vw<|mw q fun a s => ?_
 refine l_seq q (l_buildDense (sz := 1) s 1401 q q q u25 q q q q q q q fun n1 a w T1 hK s => ?_)
 clear T1
 refine S s<|aw q<|nw<|sw<|vw<|aw q<|nw<|bw fun a s => ?_
 replace s := s.add 122 (rdF Rep.str (cellsOfL [vT (t_')]) ([t_'])) (RdAll.cons (by exact ⟨q, (by omega)⟩) (rN))
 replace s := s.al 121 122 q
 replace s := s.pk [(1106, 1106), (700120, 1401)] (by decide)
 refine c_loop (σ := Nat) (fun m1 a w => ∃ (l0 : (List (List UInt8))) (g0 : Nat) (A12 : Option Addr) (o0 : Nat) (s0 : List Value), module_needs_L0 n t_ m1 l0 g0 = some r ∧ St (cx f25 M w0) [(0, sl d0 t_ e0), (7, sl A12 l0 o0), (8, vI (((g0 : Nat) : Int)))] [(700120, Ob.row (A12) ((l0).length) (o0) 9 1 (s0))] [(101, sF RModule d0 e0 t_), (121, rdF Rep.str (s0) (l0))] a w) (fun m1 => m1) n ⟨([t_']), (0), (some ⟨n1, 0, none⟩), (1), (cellsOfL [vT (t_')]), hg, (s.sb q q q)⟩ ?_
 clear s a; rintro m1 a w ⟨l0, g0, A12, o0, s0, hg, s⟩
 rcases m1 with _ | m1
 ·rw [module_needs_L0] at hg; cases hg
 rw [module_needs_L0] at hg
 refine S s<|sw<|vw<|mw q<|mw q<|yw q (lS · q u25)<|yw q (y_lssN (i := g0) (j := ((l0).length)) · q q)<|nw fun a s => c_dec s q (fun u0 => ?_) (fun u0 => ?_)
 ·replace hg := br_t hg u0
  have Y2 := row_mx (s.wd.holds 700120 _ q)
  apply wp_skip
  apply pN
  apply wQ
  obtain ⟨H0, hg, a2⟩ := jn_some hg
  refine c_post (fun a w => ∃ (m0 : (List (List UInt8))) (A20 : Option Addr) (r0 : Nat) (t0 : List Value), H0 m0 = some r ∧ St (cx f25 M w0) [(0, sl d0 t_ e0), (7, sl A20 m0 r0), (8, vI (((g0 : Nat) : Int)))] [(700123, Ob.row (A20) ((m0).length) (r0) 9 1 (t0))] [(101, sF RModule d0 e0 t_), (124, rdF Rep.str (t0) (m0))] a w) ?_ ?_
  ·obtain ⟨k3, F0, hg⟩ := bind_some hg
   obtain ⟨a0, h2, hg⟩ := bind_some hg
   refine S s<|bw<|sw<|lw<|mw q<|mw q<|mw q fun a s => ?_
   obtain ⟨Z1, V2, D0⟩ := SlR.row1 (s.wd.holds 700120 _ q) (s.ft 121 q) q q F0
   refine qq s q (y_rowIndex (sz := 1) (i := g0) s q q u25 q D0 q Z1) fun a s => ?_
   have P2 := (s.ft 121 q).at_ _ _ F0
   obtain ⟨S1, g3⟩ := P2
   refine qq s q (y_loadRow1 (kk := 700120) s q q D0 (take1 S1) u9 q) fun a s => ?_
   refine lC s q func27 (c_module_find n _ _ s.lt _ _ _ (s.ft 101 q) _ (by omega) _ h2) fun i3 a w hK hp s => ?_
   obtain ⟨n0, p0, K0, q1, L0, s1, M0, t1, O0, u1, P0, v1, Q0, w1, R0, x1, J0, p1, rfl, c3, n2, o2, p2, q2, r2, s2, t2, u2, l2⟩ := hp
   refine S s<|nsw 134 n2<|nsw 135 o2<|nsw 136 p2<|nsw 137 q2<|nsw 138 r2<|nsw 139 s2<|nsw 140 t2<|nsw 141 u2<|nsw 142 l2<|mw q<|yw q (y_extract · q q)<|yw q (y_extract · q q) fun a s => ?_
   refine l_seq q (l_alloc (zs := [vT ([]), nS, nS, nS, nS, nS, nS, nS, nS, nS]) s 1809 q q q q fun S2 a w hb hK s => ?_)
   refine l_seq q (l_store (n := 10) (cs' := [vT a0.1.Name, sl n0 a0.1.Imports p0, sl K0 a0.1.Types q1, sl L0 a0.1.Templates s1, sl M0 a0.1.Entries t1, sl O0 a0.1.LexRules u1, sl P0 a0.1.Rules v1, sl Q0 a0.1.Roots w1, sl R0 a0.1.Checks x1, sl J0 a0.1.Drops p1]) s 1809 q q q q q q q q ?_); clear s; intro w hK s; clear hK
   refine S s<|aw q<|nw<|vw<|yw q (bF 1 · u38 q)<|yw q (lB 1809 · u25 q)<|yw q (lS · q u25)<|mw q<|nw<|bw<|alw 144 121 q fun a s => ?_
   replace s := s.pk [(1809, 1809), (700143, 700120)] (by decide)
   refine c_loop (σ := Nat) (fun m2 a w => ∃ (b0 : (List (List UInt8))) (h0 : Nat) (A36 : Option Addr) (k0 : Nat) (i0 : List Value), module_needs_L1 n t_ H0 a0 m2 b0 h0 = some r ∧ St (cx f25 M w0) [(0, sl d0 t_ e0), (7, sl A36 b0 k0), (8, vI (((g0 : Nat) : Int))), (41, sl n0 a0.1.Imports p0), (42, vI ((((a0.1.Imports).length : Nat) : Int))), (43, vI (((h0 : Nat) : Int)))] [(700143, Ob.row (A36) ((b0).length) (k0) 9 1 (i0))] [(101, sF RModule d0 e0 t_), (134, sF Rep.str n0 p0 a0.1.Imports), (144, rdF Rep.str (i0) (b0))] a w) (fun m2 => m2) n ⟨(l0), (0), (A12), (o0), (s0), hg, (s.sb q q q)⟩ ?_
   clear s a; rintro m2 a w ⟨b0, h0, A36, k0, i0, hg, s⟩
   rcases m2 with _ | m2
   ·rw [module_needs_L1] at hg; cases hg
   rw [module_needs_L1] at hg
   refine S s<|vw<|yw q (y_lssN (i := h0) (j := ((a0.1.Imports).length)) · q q)<|nw<|sw fun a s => c_dec s q (fun v0 => ?_) (fun v0 => ?_)
   ·replace hg := br_t hg v0
    have Z2 := SlR.mx (s.ft 134 q)
    obtain ⟨j0, G0, hg⟩ := bind_some hg
    refine S s<|kw<|pw<|sw<|bw<|sw<|lw fun a s => ?_
    obtain ⟨h3, Y1, c2, d2, X2, X1, V1⟩ := SlR.elemX (s.ft 134 q) G0
    refine qq s q (eL 1 h0 s u25 Y1 (lt_of_get G0) q) fun a s => ?_
    obtain ⟨rfl, b3⟩ := X1
    obtain ⟨c0, i2, hg⟩ := bind_some hg
    refine S s<|yw q (lP · c2 d2 (V1 0 _ q) u9 q)<|aw q<|nw<|sw<|lw<|mw q<|mw q fun a s => ?_
    refine lC s q func27 (c_module_find n _ _ s.lt _ _ _ (s.ft 101 q) _ (by omega) _ i2) fun j3 a w hK hp s => ?_
    obtain ⟨T0, z1, U0, B1, V0, C1, X0, D1, Y0, E1, Z0, F1, a1, G1, b1, H1, S0, y1, rfl, d3, w2, x2, y2, z2, B2, C2, D2, E2, v2⟩ := hp
    refine S s<|nsw 154 w2<|nsw 155 x2<|nsw 156 y2<|nsw 157 z2<|nsw 158 B2<|nsw 159 C2<|nsw 160 D2<|nsw 161 E2<|nsw 162 v2<|mw q<|yw q (y_extract · q q)<|yw q (y_extract · q q) fun a s => ?_
    refine l_seq q (l_alloc (zs := [vT ([]), nS, nS, nS, nS, nS, nS, nS, nS, nS]) s 2206 q q q q fun T2 a w hb hK s => ?_)
    refine l_seq q (l_store (n := 10) (cs' := [vT c0.1.Name, sl T0 c0.1.Imports z1, sl U0 c0.1.Types B1, sl V0 c0.1.Templates C1, sl X0 c0.1.Entries D1, sl Y0 c0.1.LexRules E1, sl Z0 c0.1.Rules F1, sl a1 c0.1.Roots G1, sl b1 c0.1.Checks H1, sl S0 c0.1.Drops y1]) s 2206 q q q q q q q q ?_); clear s; intro w hK s; clear hK
    refine S s<|aw q<|nw<|sw fun a s => ?_
    obtain ⟨Q2, hg, b2⟩ := jn_some hg
    refine c_post (fun a w => ∃ (z0 : Bool), Q2 z0 = some r ∧ St (cx f25 M w0) [(0, sl d0 t_ e0), (7, sl A36 b0 k0), (8, vI (((g0 : Nat) : Int))), (12, vT j0), (41, sl n0 a0.1.Imports p0), (42, vI ((((a0.1.Imports).length : Nat) : Int))), (43, vI (((h0 : Nat) : Int))), (59, .bool (z0))] [(700143, Ob.row (A36) ((b0).length) (k0) 9 1 (i0))] [(101, sF RModule d0 e0 t_), (134, sF Rep.str n0 p0 a0.1.Imports), (144, rdF Rep.str (i0) (b0))] a w) ?_ ?_
    ·rcases Bool.eq_false_or_eq_true (c0.2) with q0 | q0
     ·replace hg := br_t hg q0
      obtain ⟨R2, j2, hg⟩ := bind_some hg
      refine S s<|lw<|yw q (fun s => yl_b (mo s q) q0)<|mw q<|hw q<|hw q fun a s => ?_
      have hT := s
      replace hT := hT.fz (R := Rep.str) (kk := 700143) [2206] 164 q q (hT.ft 144 q) q
      refine gV s q func40 (c_slices_Contains_string n _ _ hT.lt _ _ _ (hT.ft 164 q) _ (by omega) _ j2) fun a w hK s => ?_
      refine S s<|zw q (y_not · q)<|tw_ q<|nw fun a s => ?_
      exact ⟨(!(R2)), hg, (s.sb q q q)⟩
     replace hg := br_n hg q0
     refine S s<|lw<|yw q (fun s => yl_b (mo s q) q0)<|mw q<|gw q<|gw q<|gw q<|gw q<|fw q<|nw fun a s => ?_
     exact ⟨(false), hg, (s.sb q q q)⟩
    clear s a; rintro a w ⟨z0, hg, s⟩
    subst b2
    refine c_cond s q (fun x0 => ?_) (fun x0 => ?_)
    ·replace hg := br_t hg x0
     obtain ⟨E0, hg⟩ := chk_some hg
     refine S s<|lw<|mw q<|mw q fun a s => ?_
     refine l_seq q (l_buildDense (sz := 1) s 2402 q q q u25 q q q q q q q fun U2 a w U1 hK s => ?_)
     clear U1
     replace s := s.add 167 (rdF Rep.str (cellsOfL [vT j0]) ([j0])) (RdAll.cons (by exact ⟨q, (by omega)⟩) (rN))
     have k2 := row_src (s.wd.holds 2402 _ q) (RdAll.one (s.ft 167 q))
     refine l_seq q (l_append (sz := 1) (by_ := 16) (N := (b0 ++ [j0]).length) s 700143 q q q u25 q q q q q k2 (by rw [List.length_append]; try rfl) q (rmA E0 q) (rmB E0) q fun I0 o1 a w hA hK s => ?_)
     replace s := s.add 168 (rdF Rep.str (i0 ++ (cellsOfL [vT j0])) (b0 ++ [j0])) (RdAll.append (s.ft 144 q) (s.ft 167 q))
     refine asg s q q fun a s => ?_
     apply wO
     refine p_inN ?_
     refine S s<|pw<|lw<|yw q (y_addN (i := h0) (j := 1) · q q (in64.2 (by omega)))<|mw q<|nw<|alw 144 168 q fun a s => ?_
     exact ⟨m2, Nat.lt_succ_self _, ⟨(b0 ++ [j0]), (h0 + 1), (I0), (o1), (i0 ++ (cellsOfL [vT j0])), hg, (s.sb q q q)⟩⟩
    replace hg := br_n hg x0
    apply wp_skip
    refine p_inN ?_
    refine S s<|pw<|lw<|yw q (y_addN (i := h0) (j := 1) · q q (in64.2 (by omega)))<|mw q<|nw<|alw 144 144 q fun a s => ?_
    exact ⟨m2, Nat.lt_succ_self _, ⟨(b0), (h0 + 1), (A36), (k0), (i0), hg, (s.sb q q q)⟩⟩
   replace hg := br_f hg v0
   apply wp_exit
   refine p_then ?_
   refine p_then ?_
   refine p_in ?_
   refine p_inN ?_
   apply pN
   replace s := s.al 124 144 q
   replace s := s.pk [(700123, 700143)] (by decide)
   exact ⟨(b0), (A36), (k0), (i0), hg, (s.sb q q q)⟩
  clear s a; rintro a w ⟨m0, A20, r0, t0, hg, s⟩
  subst a2
  refine S s<|lw<|mw q<|yw q (y_addN (i := g0) (j := 1) · q q (in64.2 (by omega)))<|aw q<|nw<|alw 121 124 q fun a s => ?_
  replace s := s.pk [(700120, 700123)] (by decide)
  exact ⟨m1, Nat.lt_succ_self _, ⟨(m0), (g0 + 1), (A20), (r0), (t0), hg, (s.sb q q q)⟩⟩
 replace hg := br_f hg u0
 apply wp_exit
 refine p_then ?_
 refine p_then ?_
 refine p_in ?_
 refine S s<|pw<|vw<|mw q<|aw q<|nw fun a s => ?_
 apply wp_ret
 obtain rfl := si hg
 refine fin1 (fn := Tryz.f25) s q (r_tmp s q) ?_
 exact ⟨(A12), (o0), q, (s.rowOut (R := Rep.str) (kk := 700120) q q (s.ft 121 q))⟩
end Go.Proofs.YtbhjplflnkidgaaGreat


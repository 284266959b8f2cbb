/- Chapter 22: the walks, part 3 -/
import Derived.Test.YtbhjplflnkidgaaGreatAU
import Derived.Test.YtbhjplflnkidgaaGreatW2
namespace Go.Proofs.YtbhjplflnkidgaaGreat
open Go.Gl Go.RowKit Tryz
set_option linter.unusedVariables false
set_option linter.unusedSimpArgs false
set_option maxRecDepth 4000

set_option maxHeartbeats 1000000 in
theorem c_module_check (n : Nat) (M : Bs) (w0 : World) (hM : ∀ b, M b → b < w0.heap.size) (t_ : (List Module)) (c0 : Option Addr) (d0 : Nat) (V3 : sR RModule M w0 c0 d0 t_) (t_' : (List UInt8)) (t6 : (t_').length ≤ 9223372036854775807) (r : Int) (hg : module_check n t_ t_' = some r) :
    Calls Tryz.prog 24 [sl c0 t_ d0, vT t_'].toArray w0 (Ret noB w0 fun v w => v = .int .i64 (r)) := by
 unfold module_check at hg
 refine enter M noB func24 q q hM ?_
 intro a s
 refine S s<|esw 101 V3<|vw<|aw q<|nw<|sw<|vw<|mw q<|yw q (lS · q u22)<|mw q<|nw fun a s => ?_
 obtain ⟨k1, hg, F3⟩ := jn_some hg
 refine c_post (fun a w => k1 = some r ∧ St (cx f24 M w0) [(0, sl c0 t_ d0), (1, vT (t_'))] [] [(101, sF RModule c0 d0 t_)] a w) ?_ ?_
 ·apply wp_block
  refine c_loop (σ := Nat) (fun m1 a w => ∃ (D0 : Nat), module_check_L0 n t_ k1 m1 D0 = some r ∧ St (cx f24 M w0) [(0, sl c0 t_ d0), (1, vT (t_')), (26, vI ((((t_).length : Nat) : Int))), (27, vI (((D0 : Nat) : Int)))] [] [(101, sF RModule c0 d0 t_)] a w) (fun m1 => m1) n ⟨(0), hg, (s.sb q q q)⟩ ?_
  clear s a; rintro m1 a w ⟨D0, hg, s⟩
  rcases m1 with _ | m1
  ·rw [module_check_L0] at hg; cases hg
  rw [module_check_L0] at hg
  refine S s<|vw<|yw q (y_lssN (i := D0) (j := ((t_).length)) · q q)<|nw<|sw fun a s => c_dec s q (fun q1 => ?_) (fun q1 => ?_)
  ·replace hg := br_t hg q1
   have o6 := SlR.mx (s.ft 101 q)
   refine S s<|kw<|pw<|sw<|bw<|vw<|mw q<|aw q<|nw<|sw fun a s => ?_
   obtain ⟨k5, hg, I3⟩ := jn_some hg
   refine c_post (fun a w => ∃ (x1 : Bool), k5 x1 = some r ∧ St (cx f24 M w0) [(0, sl c0 t_ d0), (1, vT (t_')), (7, .bool (x1)), (26, vI ((((t_).length : Nat) : Int))), (27, vI (((D0 : Nat) : Int)))] [] [(101, sF RModule c0 d0 t_)] a w) ?_ ?_
   ·obtain ⟨z1, hg⟩ := chk_some hg
    obtain ⟨x9, F1, hg⟩ := bind_some hg
    obtain ⟨a0, B1, hg⟩ := bind_some hg
    refine d_steps s [] q ?_; clear s; intro wr hZ s; have hR := s.wd
    refine S s<|nqw 0 0 hR q (mo · q)<|nqw 1 0 hR q (mo · q) fun a s => ?_
    have n3 := (s.ft 101 q).cap
    refine S s<|nqw 2 0 hR q (y_cutH (xs := t_) (sz := 10) (i := D0) · q q u22 q q z1 n3) fun a s => ?_
    replace s := s.add 121 (sF RModule c0 d0 ((t_).take D0)) (SlR.cutH (s.ft 101 q) D0 z1)
    refine S s<|nqw 3 0 hR q (mo · q)<|nqw 4 0 hR q (mo · q) fun a s => ?_
    obtain ⟨G6, z3, K3, Q3, i6, t3, o3⟩ := SlR.elemX (s.ft 101 q) F1
    refine S s<|nqw 5 0 hR q (eL 10 D0 · u22 z3 (lt_of_get F1) q)<|nqw 6 0 hR q (pF 0 · u38 q) fun a s => ?_
    obtain ⟨C5, Z5, D5, a6, E5, b6, F5, c6, G5, d6, H5, e6, I5, g6, J5, h6, B5, Y5, rfl, u6, Y3, Z3, a4, b4, c4, d4, e4, g4, X3⟩ := RModule.open t3
    refine S s<|nsw 122 Y3<|nsw 123 Z3<|nsw 124 a4<|nsw 125 b4<|nsw 126 c4<|nsw 127 d4<|nsw 128 e4<|nsw 129 g4<|nsw 130 X3<|nqw 7 0 hR q (lP · K3 Q3 (o3 0 _ q) u9 q) fun a s => ?_
    refine n_2 8 12 s (by kernel_rfl) q q q q ?_ ?_
    ·refine l_call (cap := []) s q func27 q (by kernel_rfl) q q (c_module_find n _ _ s.lt _ _ _ (s.ft 121 q) _ (by omega) _ B1) fun P6 a w hK hp s => ?_
     refine gz hZ hK fun hZ => ?_; clear hK
     obtain ⟨k0, t0, l0, u0, m0, v0, n0, x0, o0, y0, p0, z0, q0, B0, r0, C0, j0, s0, rfl, z6, r4, s4, t4, v4, w4, x4, y4, z4, q4⟩ := hp
     replace s := s.ns 131 r4 |>.ns 132 s4 |>.ns 133 t4 |>.ns 134 v4 |>.ns 135 w4 |>.ns 136 x4 |>.ns 137 y4 |>.ns 138 z4 |>.ns 139 q4
     refine n_2 9 12 s (by kernel_rfl) q q q q ?_ ?_
     ·refine l_quiet s q q (mo s q) fun a s => ?_; refine ⟨fun g _ h => h, ?_⟩
      refine n_3 10 11 12 s (by kernel_rfl) q q q q q q ?_ ?_ ?_
      ·refine l_quiet s q q (y_extract s q q) fun a s => ?_; refine ⟨fun g _ h => h, ?_⟩
       refine n_2 11 12 s (by kernel_rfl) q q q q ?_ ?_
       ·refine l_quiet s q q (y_extract s q q) fun a s => ?_; refine ⟨fun g _ h => h, ?_⟩
        refine n_1 12 s (by kernel_rfl) q q (l_alloc (zs := [vT ([]), nS, nS, nS, nS, nS, nS, nS, nS, nS]) s 1412 q q q q fun L5 a w hb hK s => ?_)
        have j3 := Nat.le_trans hZ hb
        refine gz hZ hK fun hZ => ?_; clear hK
        refine n_1 13 s (by kernel_rfl) q q (l_store (n := 10) (cs' := [vT a0.1.Name, sl k0 a0.1.Imports t0, sl l0 a0.1.Types u0, sl m0 a0.1.Templates v0, sl n0 a0.1.Entries x0, sl o0 a0.1.LexRules y0, sl p0 a0.1.Rules z0, sl q0 a0.1.Roots B0, sl r0 a0.1.Checks C0, sl j0 a0.1.Drops s0]) s 1412 q q q q q q q q ?_); clear s; intro w hK s; replace hZ := Nat.le_trans hZ hK.size
        refine ⟨fun g _ h => h.app hR hK (fun x e => by cases e; exact j3), ?_⟩; clear hK
        refine S s<|nzw 14 q (y_assign · q) fun a s => ?_
        refine n_end (by kernel_rfl) ?_; clear hR hZ
        apply pN
        exact ⟨(a0.2), hg, (s.sb q q q)⟩
       ·refine l_alloc (zs := [vT ([]), nS, nS, nS, nS, nS, nS, nS, nS, nS]) s 1412 q q q q fun M5 a w hb hK s => ?_
        have y1 := Nat.le_trans hZ hb
        refine gz hZ hK fun hZ => ?_; clear hK
        refine n_2 11 13 s (by kernel_rfl) q q q q ?_ ?_
        ·refine l_quiet s q q (y_extract s q q) fun a s => ?_; refine ⟨fun g _ h => h, ?_⟩
         refine n_1 13 s (by kernel_rfl) q q (l_store (n := 10) (cs' := [vT a0.1.Name, sl k0 a0.1.Imports t0, sl l0 a0.1.Types u0, sl m0 a0.1.Templates v0, sl n0 a0.1.Entries x0, sl o0 a0.1.LexRules y0, sl p0 a0.1.Rules z0, sl q0 a0.1.Roots B0, sl r0 a0.1.Checks C0, sl j0 a0.1.Drops s0]) s 1412 q q q q q q q q ?_); clear s; intro w hK s; replace hZ := Nat.le_trans hZ hK.size
         refine ⟨fun g _ h => h.app hR hK (fun x e => by cases e; exact y1), ?_⟩; clear hK
         refine S s<|nzw 14 q (y_assign · q) fun a s => ?_
         refine n_end (by kernel_rfl) ?_; clear hR hZ
         apply pN
         exact ⟨(a0.2), hg, (s.sb q q q)⟩
        ·refine l_store (n := 10) (cs' := [vT a0.1.Name, sl k0 a0.1.Imports t0, sl l0 a0.1.Types u0, sl m0 a0.1.Templates v0, sl n0 a0.1.Entries x0, sl o0 a0.1.LexRules y0, sl p0 a0.1.Rules z0, sl q0 a0.1.Roots B0, sl r0 a0.1.Checks C0, sl j0 a0.1.Drops s0]) s 1412 q q q q q q q q ?_; clear s; intro w hK s; replace hZ := Nat.le_trans hZ hK.size
         refine ⟨fun g _ h => h.app hR hK (fun x e => by cases e; exact y1), ?_⟩; clear hK
         refine S s<|nzw 11 q (y_extract · q q)<|nzw 14 q (y_assign · q) fun a s => ?_
         refine n_end (by kernel_rfl) ?_; clear hR hZ
         apply pN
         exact ⟨(a0.2), hg, (s.sb q q q)⟩
      ·refine l_quiet s q q (y_extract s q q) fun a s => ?_; refine ⟨fun g _ h => h, ?_⟩
       refine n_2 10 12 s (by kernel_rfl) q q q q ?_ ?_
       ·refine l_quiet s q q (y_extract s q q) fun a s => ?_; refine ⟨fun g _ h => h, ?_⟩
        refine n_1 12 s (by kernel_rfl) q q (l_alloc (zs := [vT ([]), nS, nS, nS, nS, nS, nS, nS, nS, nS]) s 1412 q q q q fun O5 a w hb hK s => ?_)
        have k3 := Nat.le_trans hZ hb
        refine gz hZ hK fun hZ => ?_; clear hK
        refine n_1 13 s (by kernel_rfl) q q (l_store (n := 10) (cs' := [vT a0.1.Name, sl k0 a0.1.Imports t0, sl l0 a0.1.Types u0, sl m0 a0.1.Templates v0, sl n0 a0.1.Entries x0, sl o0 a0.1.LexRules y0, sl p0 a0.1.Rules z0, sl q0 a0.1.Roots B0, sl r0 a0.1.Checks C0, sl j0 a0.1.Drops s0]) s 1412 q q q q q q q q ?_); clear s; intro w hK s; replace hZ := Nat.le_trans hZ hK.size
        refine ⟨fun g _ h => h.app hR hK (fun x e => by cases e; exact k3), ?_⟩; clear hK
        refine S s<|nzw 14 q (y_assign · q) fun a s => ?_
        refine n_end (by kernel_rfl) ?_; clear hR hZ
        apply pN
        exact ⟨(a0.2), hg, (s.sb q q q)⟩
       ·refine l_alloc (zs := [vT ([]), nS, nS, nS, nS, nS, nS, nS, nS, nS]) s 1412 q q q q fun P5 a w hb hK s => ?_
        have l3 := Nat.le_trans hZ hb
        refine gz hZ hK fun hZ => ?_; clear hK
        refine S s<|nzw 10 q (y_extract · q q) fun a s => ?_
        refine n_1 13 s (by kernel_rfl) q q (l_store (n := 10) (cs' := [vT a0.1.Name, sl k0 a0.1.Imports t0, sl l0 a0.1.Types u0, sl m0 a0.1.Templates v0, sl n0 a0.1.Entries x0, sl o0 a0.1.LexRules y0, sl p0 a0.1.Rules z0, sl q0 a0.1.Roots B0, sl r0 a0.1.Checks C0, sl j0 a0.1.Drops s0]) s 1412 q q q q q q q q ?_); clear s; intro w hK s; replace hZ := Nat.le_trans hZ hK.size
        refine ⟨fun g _ h => h.app hR hK (fun x e => by cases e; exact l3), ?_⟩; clear hK
        refine S s<|nzw 14 q (y_assign · q) fun a s => ?_
        refine n_end (by kernel_rfl) ?_; clear hR hZ
        apply pN
        exact ⟨(a0.2), hg, (s.sb q q q)⟩
      ·refine l_alloc (zs := [vT ([]), nS, nS, nS, nS, nS, nS, nS, nS, nS]) s 1412 q q q q fun Q5 a w hb hK s => ?_
       have j1 := Nat.le_trans hZ hb
       refine gz hZ hK fun hZ => ?_; clear hK
       refine n_2 10 11 s (by kernel_rfl) q q q q ?_ ?_
       ·refine l_quiet s q q (y_extract s q q) fun a s => ?_; refine ⟨fun g _ h => h, ?_⟩
        refine n_2 11 13 s (by kernel_rfl) q q q q ?_ ?_
        ·refine l_quiet s q q (y_extract s q q) fun a s => ?_; refine ⟨fun g _ h => h, ?_⟩
         refine n_1 13 s (by kernel_rfl) q q (l_store (n := 10) (cs' := [vT a0.1.Name, sl k0 a0.1.Imports t0, sl l0 a0.1.Types u0, sl m0 a0.1.Templates v0, sl n0 a0.1.Entries x0, sl o0 a0.1.LexRules y0, sl p0 a0.1.Rules z0, sl q0 a0.1.Roots B0, sl r0 a0.1.Checks C0, sl j0 a0.1.Drops s0]) s 1412 q q q q q q q q ?_); clear s; intro w hK s; replace hZ := Nat.le_trans hZ hK.size
         refine ⟨fun g _ h => h.app hR hK (fun x e => by cases e; exact j1), ?_⟩; clear hK
         refine S s<|nzw 14 q (y_assign · q) fun a s => ?_
         refine n_end (by kernel_rfl) ?_; clear hR hZ
         apply pN
         exact ⟨(a0.2), hg, (s.sb q q q)⟩
        ·refine l_store (n := 10) (cs' := [vT a0.1.Name, sl k0 a0.1.Imports t0, sl l0 a0.1.Types u0, sl m0 a0.1.Templates v0, sl n0 a0.1.Entries x0, sl o0 a0.1.LexRules y0, sl p0 a0.1.Rules z0, sl q0 a0.1.Roots B0, sl r0 a0.1.Checks C0, sl j0 a0.1.Drops s0]) s 1412 q q q q q q q q ?_; clear s; intro w hK s; replace hZ := Nat.le_trans hZ hK.size
         refine ⟨fun g _ h => h.app hR hK (fun x e => by cases e; exact j1), ?_⟩; clear hK
         refine S s<|nzw 11 q (y_extract · q q)<|nzw 14 q (y_assign · q) fun a s => ?_
         refine n_end (by kernel_rfl) ?_; clear hR hZ
         apply pN
         exact ⟨(a0.2), hg, (s.sb q q q)⟩
       ·refine l_quiet s q q (y_extract s q q) fun a s => ?_; refine ⟨fun g _ h => h, ?_⟩
        refine S s<|nzw 10 q (y_extract · q q) fun a s => ?_
        refine n_1 13 s (by kernel_rfl) q q (l_store (n := 10) (cs' := [vT a0.1.Name, sl k0 a0.1.Imports t0, sl l0 a0.1.Types u0, sl m0 a0.1.Templates v0, sl n0 a0.1.Entries x0, sl o0 a0.1.LexRules y0, sl p0 a0.1.Rules z0, sl q0 a0.1.Roots B0, sl r0 a0.1.Checks C0, sl j0 a0.1.Drops s0]) s 1412 q q q q q q q q ?_); clear s; intro w hK s; replace hZ := Nat.le_trans hZ hK.size
        refine ⟨fun g _ h => h.app hR hK (fun x e => by cases e; exact j1), ?_⟩; clear hK
        refine S s<|nzw 14 q (y_assign · q) fun a s => ?_
        refine n_end (by kernel_rfl) ?_; clear hR hZ
        apply pN
        exact ⟨(a0.2), hg, (s.sb q q q)⟩
     ·refine l_alloc (zs := [vT ([]), nS, nS, nS, nS, nS, nS, nS, nS, nS]) s 1412 q q q q fun R5 a w hb hK s => ?_
      have l1 := Nat.le_trans hZ hb
      refine gz hZ hK fun hZ => ?_; clear hK
      refine S s<|nzw 9 q (mo · q) fun a s => ?_
      refine n_2 10 11 s (by kernel_rfl) q q q q ?_ ?_
      ·refine l_quiet s q q (y_extract s q q) fun a s => ?_; refine ⟨fun g _ h => h, ?_⟩
       refine n_2 11 13 s (by kernel_rfl) q q q q ?_ ?_
       ·refine l_quiet s q q (y_extract s q q) fun a s => ?_; refine ⟨fun g _ h => h, ?_⟩
        refine n_1 13 s (by kernel_rfl) q q (l_store (n := 10) (cs' := [vT a0.1.Name, sl k0 a0.1.Imports t0, sl l0 a0.1.Types u0, sl m0 a0.1.Templates v0, sl n0 a0.1.Entries x0, sl o0 a0.1.LexRules y0, sl p0 a0.1.Rules z0, sl q0 a0.1.Roots B0, sl r0 a0.1.Checks C0, sl j0 a0.1.Drops s0]) s 1412 q q q q q q q q ?_); clear s; intro w hK s; replace hZ := Nat.le_trans hZ hK.size
        refine ⟨fun g _ h => h.app hR hK (fun x e => by cases e; exact l1), ?_⟩; clear hK
        refine S s<|nzw 14 q (y_assign · q) fun a s => ?_
        refine n_end (by kernel_rfl) ?_; clear hR hZ
        apply pN
        exact ⟨(a0.2), hg, (s.sb q q q)⟩
       ·refine l_store (n := 10) (cs' := [vT a0.1.Name, sl k0 a0.1.Imports t0, sl l0 a0.1.Types u0, sl m0 a0.1.Templates v0, sl n0 a0.1.Entries x0, sl o0 a0.1.LexRules y0, sl p0 a0.1.Rules z0, sl q0 a0.1.Roots B0, sl r0 a0.1.Checks C0, sl j0 a0.1.Drops s0]) s 1412 q q q q q q q q ?_; clear s; intro w hK s; replace hZ := Nat.le_trans hZ hK.size
        refine ⟨fun g _ h => h.app hR hK (fun x e => by cases e; exact l1), ?_⟩; clear hK
        refine S s<|nzw 11 q (y_extract · q q)<|nzw 14 q (y_assign · q) fun a s => ?_
        refine n_end (by kernel_rfl) ?_; clear hR hZ
        apply pN
        exact ⟨(a0.2), hg, (s.sb q q q)⟩
      ·refine l_quiet s q q (y_extract s q q) fun a s => ?_; refine ⟨fun g _ h => h, ?_⟩
       refine S s<|nzw 10 q (y_extract · q q) fun a s => ?_
       refine n_1 13 s (by kernel_rfl) q q (l_store (n := 10) (cs' := [vT a0.1.Name, sl k0 a0.1.Imports t0, sl l0 a0.1.Types u0, sl m0 a0.1.Templates v0, sl n0 a0.1.Entries x0, sl o0 a0.1.LexRules y0, sl p0 a0.1.Rules z0, sl q0 a0.1.Roots B0, sl r0 a0.1.Checks C0, sl j0 a0.1.Drops s0]) s 1412 q q q q q q q q ?_); clear s; intro w hK s; replace hZ := Nat.le_trans hZ hK.size
       refine ⟨fun g _ h => h.app hR hK (fun x e => by cases e; exact l1), ?_⟩; clear hK
       refine S s<|nzw 14 q (y_assign · q) fun a s => ?_
       refine n_end (by kernel_rfl) ?_; clear hR hZ
       apply pN
       exact ⟨(a0.2), hg, (s.sb q q q)⟩
    ·refine l_alloc (zs := [vT ([]), nS, nS, nS, nS, nS, nS, nS, nS, nS]) s 1412 q q q q fun S5 a w hb hK s => ?_
     have n1 := Nat.le_trans hZ hb
     refine gz hZ hK fun hZ => ?_; clear hK
     refine nC 8 s q q func27 (c_module_find n _ _ s.lt _ _ _ (s.ft 121 q) _ (by omega) _ B1) fun Q6 a w hK hp s => ?_
     refine gz hZ hK fun hZ => ?_; clear hK
     obtain ⟨L0, Y0, M0, Z0, O0, a1, P0, b1, Q0, c1, R0, d1, S0, e1, T0, g1, K0, X0, rfl, B6, C4, D4, E4, F4, G4, H4, I4, J4, B4⟩ := hp
     refine S s<|nsw 140 C4<|nsw 141 D4<|nsw 142 E4<|nsw 143 F4<|nsw 144 G4<|nsw 145 H4<|nsw 146 I4<|nsw 147 J4<|nsw 148 B4<|nzw 9 q (mo · q) fun a s => ?_
     refine n_2 10 11 s (by kernel_rfl) q q q q ?_ ?_
     ·refine l_quiet s q q (y_extract s q q) fun a s => ?_; refine ⟨fun g _ h => h, ?_⟩
      refine n_2 11 13 s (by kernel_rfl) q q q q ?_ ?_
      ·refine l_quiet s q q (y_extract s q q) fun a s => ?_; refine ⟨fun g _ h => h, ?_⟩
       refine n_1 13 s (by kernel_rfl) q q (l_store (n := 10) (cs' := [vT a0.1.Name, sl L0 a0.1.Imports Y0, sl M0 a0.1.Types Z0, sl O0 a0.1.Templates a1, sl P0 a0.1.Entries b1, sl Q0 a0.1.LexRules c1, sl R0 a0.1.Rules d1, sl S0 a0.1.Roots e1, sl T0 a0.1.Checks g1, sl K0 a0.1.Drops X0]) s 1412 q q q q q q q q ?_); clear s; intro w hK s; replace hZ := Nat.le_trans hZ hK.size
       refine ⟨fun g _ h => h.app hR hK (fun x e => by cases e; exact n1), ?_⟩; clear hK
       refine S s<|nzw 14 q (y_assign · q) fun a s => ?_
       refine n_end (by kernel_rfl) ?_; clear hR hZ
       apply pN
       exact ⟨(a0.2), hg, (s.sb q q q)⟩
      ·refine l_store (n := 10) (cs' := [vT a0.1.Name, sl L0 a0.1.Imports Y0, sl M0 a0.1.Types Z0, sl O0 a0.1.Templates a1, sl P0 a0.1.Entries b1, sl Q0 a0.1.LexRules c1, sl R0 a0.1.Rules d1, sl S0 a0.1.Roots e1, sl T0 a0.1.Checks g1, sl K0 a0.1.Drops X0]) s 1412 q q q q q q q q ?_; clear s; intro w hK s; replace hZ := Nat.le_trans hZ hK.size
       refine ⟨fun g _ h => h.app hR hK (fun x e => by cases e; exact n1), ?_⟩; clear hK
       refine S s<|nzw 11 q (y_extract · q q)<|nzw 14 q (y_assign · q) fun a s => ?_
       refine n_end (by kernel_rfl) ?_; clear hR hZ
       apply pN
       exact ⟨(a0.2), hg, (s.sb q q q)⟩
     ·refine l_quiet s q q (y_extract s q q) fun a s => ?_; refine ⟨fun g _ h => h, ?_⟩
      refine S s<|nzw 10 q (y_extract · q q) fun a s => ?_
      refine n_1 13 s (by kernel_rfl) q q (l_store (n := 10) (cs' := [vT a0.1.Name, sl L0 a0.1.Imports Y0, sl M0 a0.1.Types Z0, sl O0 a0.1.Templates a1, sl P0 a0.1.Entries b1, sl Q0 a0.1.LexRules c1, sl R0 a0.1.Rules d1, sl S0 a0.1.Roots e1, sl T0 a0.1.Checks g1, sl K0 a0.1.Drops X0]) s 1412 q q q q q q q q ?_); clear s; intro w hK s; replace hZ := Nat.le_trans hZ hK.size
      refine ⟨fun g _ h => h.app hR hK (fun x e => by cases e; exact n1), ?_⟩; clear hK
      refine S s<|nzw 14 q (y_assign · q) fun a s => ?_
      refine n_end (by kernel_rfl) ?_; clear hR hZ
      apply pN
      exact ⟨(a0.2), hg, (s.sb q q q)⟩
   clear s a; rintro a w ⟨x1, hg, s⟩
   subst I3
   refine S s<|vw<|mw q<|nw fun a s => c_cond s q (fun p1 => ?_) (fun p1 => ?_)
   ·replace hg := br_t hg p1
    refine S s<|vw<|aw q<|nw fun a s => ?_
    apply wp_ret
    refine p_inR ?_
    refine p_thenR ?_
    refine p_thenR ?_
    refine p_inR ?_
    refine p_thenR ?_
    obtain rfl := si hg
    exact fin1 (fn := Tryz.f24) s q (r_tmp s q) q
   replace hg := br_n hg p1
   apply wp_skip
   refine p_inN ?_
   refine S s<|pw<|lw<|yw q (y_addN (i := D0) (j := 1) · q q (in64.2 (by omega)))<|mw q<|nw fun a s => ?_
   exact ⟨m1, Nat.lt_succ_self _, ⟨(D0 + 1), hg, (s.sb q q q)⟩⟩
  replace hg := br_f hg q1
  apply wp_exit
  refine p_then ?_
  refine p_then ?_
  refine p_in ?_
  apply pN
  exact ⟨hg, (s.sb q q q)⟩
 clear s a; rintro a w ⟨hg, s⟩
 subst F3
 obtain ⟨E0, i4, hg⟩ := bind_some hg
 refine S s<|sw<|sw<|lw<|mw q<|mw q fun a s => ?_
 refine lC s q func27 (c_module_find n _ _ s.lt _ _ _ (s.ft 101 q) _ (by omega) _ i4) fun R6 a w hK hp s => ?_
 obtain ⟨M1, y2, O1, z2, P1, B2, Q1, C2, R1, D2, S1, E2, T1, F2, U1, G2, L1, x2, rfl, C6, L4, M4, O4, P4, Q4, R4, S4, T4, K4⟩ := hp
 refine S s<|nsw 158 L4<|nsw 159 M4<|nsw 160 O4<|nsw 161 P4<|nsw 162 Q4<|nsw 163 R4<|nsw 164 S4<|nsw 165 T4<|nsw 166 K4<|mw q<|yw q (y_extract · q q)<|yw q (y_extract · q q) fun a s => ?_
 refine l_seq q (l_alloc (zs := [vT ([]), nS, nS, nS, nS, nS, nS, nS, nS, nS]) s 1806 q q q q fun T5 a w hb hK s => ?_)
 refine l_seq q (l_store (n := 10) (cs' := [vT E0.1.Name, sl M1 E0.1.Imports y2, sl O1 E0.1.Types z2, sl P1 E0.1.Templates B2, sl Q1 E0.1.Entries C2, sl R1 E0.1.LexRules D2, sl S1 E0.1.Rules E2, sl T1 E0.1.Roots F2, sl U1 E0.1.Checks G2, sl L1 E0.1.Drops x2]) s 1806 q q q q q q q q ?_); clear s; intro w hK s; clear hK
 refine S s<|aw q<|nw<|vw<|mw q<|yw q (y_not · q)<|nw fun a s => c_cond s q (fun r1 => ?_) (fun r1 => ?_)
 ·replace hg := br_t hg r1
  refine S s<|vw<|aw q<|nw fun a s => ?_
  apply wp_ret
  refine p_thenR ?_
  obtain rfl := si hg
  exact fin1 (fn := Tryz.f24) s q (r_tmp s q) q
 replace hg := br_n hg r1
 obtain ⟨b0, j4, hg⟩ := bind_some hg
 refine S s<|kw<|pw<|sw<|lw<|mw q<|mw q fun a s => ?_
 refine lC s q func25 (c_module_needs n _ _ s.lt _ _ _ (s.ft 101 q) _ (by omega) _ j4) fun S6 a w hK hp s => ?_
 obtain ⟨e0, g0, rfl, U4⟩ := hp
 refine S s<|nsw 168 U4<|aw q<|nw<|sw<|vw<|mw q<|yw q (lS · q u25)<|mw q<|nw fun a s => ?_
 obtain ⟨H1, hg, G3⟩ := jn_some hg
 refine c_post (fun a w => H1 = some r ∧ St (cx f24 M w0) [(0, sl c0 t_ d0), (10, sl e0 b0 g0)] [] [(101, sF RModule c0 d0 t_), (168, sF Rep.str e0 g0 b0)] a w) ?_ ?_
 ·apply wp_block
  refine c_loop (σ := Nat) (fun m2 a w => ∃ (G0 : Nat), module_check_L1 n t_ b0 H1 m2 G0 = some r ∧ St (cx f24 M w0) [(0, sl c0 t_ d0), (10, sl e0 b0 g0), (55, sl e0 b0 g0), (56, vI ((((b0).length : Nat) : Int))), (57, vI (((G0 : Nat) : Int)))] [] [(101, sF RModule c0 d0 t_), (168, sF Rep.str e0 g0 b0)] a w) (fun m2 => m2) n ⟨(0), hg, (s.sb q q q)⟩ ?_
  clear s a; rintro m2 a w ⟨G0, hg, s⟩
  rcases m2 with _ | m2
  ·rw [module_check_L1] at hg; cases hg
  rw [module_check_L1] at hg
  refine S s<|vw<|yw q (y_lssN (i := G0) (j := ((b0).length)) · q q)<|nw<|sw fun a s => c_dec s q (fun s1 => ?_) (fun s1 => ?_)
  ·replace hg := br_t hg s1
   have p6 := SlR.mx (s.ft 168 q)
   apply wp_skip
   apply pN
   apply wQ
   obtain ⟨I1, hg, H3⟩ := jn_some hg
   refine c_post (fun a w => I1 = some r ∧ St (cx f24 M w0) [(0, sl c0 t_ d0), (10, sl e0 b0 g0), (55, sl e0 b0 g0), (56, vI ((((b0).length : Nat) : Int))), (57, vI (((G0 : Nat) : Int)))] [] [(101, sF RModule c0 d0 t_), (168, sF Rep.str e0 g0 b0)] a w) ?_ ?_
   ·obtain ⟨X6, C1, hg⟩ := bind_some hg
    apply wp_block
    apply wQ
    apply wL
    obtain ⟨H6, B3, L3, R3, j6, v3, p3⟩ := SlR.elemX (s.ft 168 q) C1
    refine qq s q (eL 1 G0 s u25 B3 (lt_of_get C1) q) fun a s => ?_
    obtain ⟨rfl, v6⟩ := v3
    obtain ⟨h0, k4, hg⟩ := bind_some hg
    refine S s<|yw q (lP · L3 R3 (p3 0 _ q) u9 q)<|aw q<|nw<|sw<|lw<|mw q<|mw q fun a s => ?_
    refine lC s q func27 (c_module_find n _ _ s.lt _ _ _ (s.ft 101 q) _ (by omega) _ k4) fun T6 a w hK hp s => ?_
    obtain ⟨U0, h1, X1, I2, Y1, J2, Z1, K2, a2, L2, b2, M2, c2, O2, d2, P2, V1, H2, rfl, D6, X4, Y4, Z4, a5, b5, c5, d5, e5, V4⟩ := hp
    refine S s<|nsw 178 X4<|nsw 179 Y4<|nsw 180 Z4<|nsw 181 a5<|nsw 182 b5<|nsw 183 c5<|nsw 184 d5<|nsw 185 e5<|nsw 186 V4<|mw q<|yw q (y_extract · q q)<|yw q (y_extract · q q) fun a s => ?_
    refine l_seq q (l_alloc (zs := [vT ([]), nS, nS, nS, nS, nS, nS, nS, nS, nS]) s 2506 q q q q fun U5 a w hb hK s => ?_)
    refine l_seq q (l_store (n := 10) (cs' := [vT h0.1.Name, sl U0 h0.1.Imports h1, sl X1 h0.1.Types I2, sl Y1 h0.1.Templates J2, sl Z1 h0.1.Entries K2, sl a2 h0.1.LexRules L2, sl b2 h0.1.Rules M2, sl c2 h0.1.Roots O2, sl d2 h0.1.Checks P2, sl V1 h0.1.Drops H2]) s 2506 q q q q q q q q ?_); clear s; intro w hK s; clear hK
    refine S s<|aw q<|nw<|vw<|yw q (bF 1 · u38 q)<|yw q (lB 2506 · u25 q)<|yw q (lS · q u25)<|mw q<|nw<|bw fun a s => ?_
    refine c_loop (σ := Nat) (fun m3 a w => ∃ (I0 : Nat), module_check_L2 n t_ I1 h0 m3 I0 = some r ∧ St (cx f24 M w0) [(0, sl c0 t_ d0), (10, sl e0 b0 g0), (55, sl e0 b0 g0), (56, vI ((((b0).length : Nat) : Int))), (57, vI (((G0 : Nat) : Int))), (68, sl U0 h0.1.Imports h1), (69, vI ((((h0.1.Imports).length : Nat) : Int))), (70, vI (((I0 : Nat) : Int)))] [] [(101, sF RModule c0 d0 t_), (168, sF Rep.str e0 g0 b0), (178, sF Rep.str U0 h1 h0.1.Imports)] a w) (fun m3 => m3) n ⟨(0), hg, (s.sb q q q)⟩ ?_
    clear s a; rintro m3 a w ⟨I0, hg, s⟩
    rcases m3 with _ | m3
    ·rw [module_check_L2] at hg; cases hg
    rw [module_check_L2] at hg
    refine S s<|vw<|yw q (y_lssN (i := I0) (j := ((h0.1.Imports).length)) · q q)<|nw<|sw fun a s => c_dec s q (fun t1 => ?_) (fun t1 => ?_)
    ·replace hg := br_t hg t1
     have q6 := SlR.mx (s.ft 178 q)
     obtain ⟨Y6, D1, hg⟩ := bind_some hg
     refine S s<|kw<|pw<|sw<|bw<|sw<|lw fun a s => ?_
     obtain ⟨I6, C3, M3, S3, k6, w3, q3⟩ := SlR.elemX (s.ft 178 q) D1
     refine qq s q (eL 1 I0 s u25 C3 (lt_of_get D1) q) fun a s => ?_
     obtain ⟨rfl, w6⟩ := w3
     obtain ⟨F0, l4, hg⟩ := bind_some hg
     refine S s<|yw q (lP · M3 S3 (q3 0 _ q) u9 q)<|aw q<|nw<|sw<|lw<|mw q<|mw q fun a s => ?_
     refine lC s q func27 (c_module_find n _ _ s.lt _ _ _ (s.ft 101 q) _ (by omega) _ l4) fun U6 a w hK hp s => ?_
     obtain ⟨g2, R2, h2, S2, i2, T2, j2, U2, k2, V2, l2, X2, n2, Y2, o2, Z2, e2, Q2, rfl, E6, h5, i5, j5, l5, n5, o5, p5, q5, g5⟩ := hp
     refine S s<|nsw 196 h5<|nsw 197 i5<|nsw 198 j5<|nsw 199 l5<|nsw 200 n5<|nsw 201 o5<|nsw 202 p5<|nsw 203 q5<|nsw 204 g5<|mw q<|yw q (y_extract · q q)<|yw q (y_extract · q q) fun a s => ?_
     refine l_seq q (l_alloc (zs := [vT ([]), nS, nS, nS, nS, nS, nS, nS, nS, nS]) s 2906 q q q q fun V5 a w hb hK s => ?_)
     refine l_seq q (l_store (n := 10) (cs' := [vT F0.1.Name, sl g2 F0.1.Imports R2, sl h2 F0.1.Types S2, sl i2 F0.1.Templates T2, sl j2 F0.1.Entries U2, sl k2 F0.1.LexRules V2, sl l2 F0.1.Rules X2, sl n2 F0.1.Roots Y2, sl o2 F0.1.Checks Z2, sl e2 F0.1.Drops Q2]) s 2906 q q q q q q q q ?_); clear s; intro w hK s; clear hK
     refine S s<|aw q<|nw<|vw<|mw q<|yw q (y_not · q)<|nw fun a s => c_cond s q (fun u1 => ?_) (fun u1 => ?_)
     ·replace hg := br_t hg u1
      refine S s<|vw<|aw q<|nw fun a s => ?_
      apply wp_ret
      refine p_inR ?_
      refine p_thenR ?_
      refine p_thenR ?_
      refine p_inR ?_
      refine p_inR ?_
      refine p_thenR ?_
      refine p_thenR ?_
      refine p_inR ?_
      refine p_thenR ?_
      obtain rfl := si hg
      exact fin1 (fn := Tryz.f24) s q (r_tmp s q) q
     replace hg := br_n hg u1
     apply wp_skip
     refine p_inN ?_
     refine S s<|pw<|lw<|yw q (y_addN (i := I0) (j := 1) · q q (in64.2 (by omega)))<|mw q<|nw fun a s => ?_
     exact ⟨m3, Nat.lt_succ_self _, ⟨(I0 + 1), hg, (s.sb q q q)⟩⟩
    replace hg := br_f hg t1
    apply wp_exit
    refine p_then ?_
    refine p_then ?_
    refine p_in ?_
    refine p_inN ?_
    apply pN
    exact ⟨hg, (s.sb q q q)⟩
   clear s a; rintro a w ⟨hg, s⟩
   subst H3
   refine S s<|lw<|yw q (y_addN (i := G0) (j := 1) · q q (in64.2 (by omega)))<|mw q<|nw fun a s => ?_
   exact ⟨m2, Nat.lt_succ_self _, ⟨(G0 + 1), hg, (s.sb q q q)⟩⟩
  replace hg := br_f hg s1
  apply wp_exit
  refine p_then ?_
  refine p_then ?_
  refine p_in ?_
  apply pN
  exact ⟨hg, (s.sb q q q)⟩
 clear s a; rintro a w ⟨hg, s⟩
 subst G3
 refine S s<|sw<|vw<|mw q<|yw q (lS · q u25)<|mw q<|nw<|bw fun a s => ?_
 refine c_loop (σ := Nat) (fun m4 a w => ∃ (H0 : Nat), module_check_L3 n t_ b0 m4 H0 = some r ∧ St (cx f24 M w0) [(0, sl c0 t_ d0), (84, sl e0 b0 g0), (85, vI ((((b0).length : Nat) : Int))), (86, vI (((H0 : Nat) : Int)))] [] [(101, sF RModule c0 d0 t_), (168, sF Rep.str e0 g0 b0)] a w) (fun m4 => m4) n ⟨(0), hg, (s.sb q q q)⟩ ?_
 clear s a; rintro m4 a w ⟨H0, hg, s⟩
 rcases m4 with _ | m4
 ·rw [module_check_L3] at hg; cases hg
 rw [module_check_L3] at hg
 refine S s<|vw<|yw q (y_lssN (i := H0) (j := ((b0).length)) · q q)<|nw<|sw fun a s => c_dec s q (fun v1 => ?_) (fun v1 => ?_)
 ·replace hg := br_t hg v1
  have r6 := SlR.mx (s.ft 168 q)
  apply wp_skip
  apply pN
  apply wQ
  obtain ⟨J1, hg, J3⟩ := jn_some hg
  refine c_post (fun a w => J1 = some r ∧ St (cx f24 M w0) [(0, sl c0 t_ d0), (84, sl e0 b0 g0), (85, vI ((((b0).length : Nat) : Int))), (86, vI (((H0 : Nat) : Int)))] [] [(101, sF RModule c0 d0 t_), (168, sF Rep.str e0 g0 b0)] a w) ?_ ?_
  ·obtain ⟨K1, E1, hg⟩ := bind_some hg
   apply wp_block
   apply wQ
   apply wL
   obtain ⟨J6, D3, O3, T3, l6, x3, r3⟩ := SlR.elemX (s.ft 168 q) E1
   refine qq s q (eL 1 H0 s u25 D3 (lt_of_get E1) q) fun a s => ?_
   obtain ⟨rfl, x6⟩ := x3
   obtain ⟨i0, n4, hg⟩ := bind_some hg
   refine S s<|yw q (lP · O3 T3 (r3 0 _ q) u9 q)<|aw q<|nw<|sw<|lw<|mw q<|mw q fun a s => ?_
   refine lC s q func27 (c_module_find n _ _ s.lt _ _ _ (s.ft 101 q) _ (by omega) _ n4) fun V6 a w hK hp s => ?_
   obtain ⟨V0, i1, q2, b3, r2, c3, s2, d3, t2, e3, u2, g3, v2, h3, w2, i3, p2, a3, rfl, F6, s5, t5, u5, v5, w5, x5, y5, z5, r5⟩ := hp
   refine S s<|nsw 214 s5<|nsw 215 t5<|nsw 216 u5<|nsw 217 v5<|nsw 218 w5<|nsw 219 x5<|nsw 220 y5<|nsw 221 z5<|nsw 222 r5<|mw q<|yw q (y_extract · q q)<|yw q (y_extract · q q) fun a s => ?_
   refine l_seq q (l_alloc (zs := [vT ([]), nS, nS, nS, nS, nS, nS, nS, nS, nS]) s 3706 q q q q fun X5 a w hb hK s => ?_)
   refine l_seq q (l_store (n := 10) (cs' := [vT i0.1.Name, sl V0 i0.1.Imports i1, sl q2 i0.1.Types b3, sl r2 i0.1.Templates c3, sl s2 i0.1.Entries d3, sl t2 i0.1.LexRules e3, sl u2 i0.1.Rules g3, sl v2 i0.1.Roots h3, sl w2 i0.1.Checks i3, sl p2 i0.1.Drops a3]) s 3706 q q q q q q q q ?_); clear s; intro w hK s; clear hK
   refine S s<|aw q<|nw<|vw<|yw q (bF 1 · u38 q)<|yw q (lB 3706 · u25 q)<|yw q (lS · q u25)<|mw q<|nw<|bw fun a s => ?_
   refine c_loop (σ := Nat) (fun m5 a w => ∃ (J0 : Nat), module_check_L4 n t_ J1 K1 i0 m5 J0 = some r ∧ St (cx f24 M w0) [(0, sl c0 t_ d0), (20, vT K1), (84, sl e0 b0 g0), (85, vI ((((b0).length : Nat) : Int))), (86, vI (((H0 : Nat) : Int))), (97, sl V0 i0.1.Imports i1), (98, vI ((((i0.1.Imports).length : Nat) : Int))), (99, vI (((J0 : Nat) : Int)))] [] [(101, sF RModule c0 d0 t_), (168, sF Rep.str e0 g0 b0), (214, sF Rep.str V0 i1 i0.1.Imports)] a w) (fun m5 => m5) n ⟨(0), hg, (s.sb q q q)⟩ ?_
   clear s a; rintro m5 a w ⟨J0, hg, s⟩
   rcases m5 with _ | m5
   ·rw [module_check_L4] at hg; cases hg
   rw [module_check_L4] at hg
   refine S s<|vw<|yw q (y_lssN (i := J0) (j := ((i0.1.Imports).length)) · q q)<|nw<|sw fun a s => c_dec s q (fun w1 => ?_) (fun w1 => ?_)
   ·replace hg := br_t hg w1
    have s6 := SlR.mx (s.ft 214 q)
    obtain ⟨Z6, G1, hg⟩ := bind_some hg
    refine S s<|kw<|pw<|sw<|bw<|sw<|lw fun a s => ?_
    obtain ⟨K6, E3, P3, U3, m6, y3, s3⟩ := SlR.elemX (s.ft 214 q) G1
    refine qq s q (eL 1 J0 s u25 E3 (lt_of_get G1) q) fun a s => ?_
    obtain ⟨rfl, y6⟩ := y3
    obtain ⟨M6, o4, hg⟩ := bind_some hg
    obtain ⟨L6, h4, hg⟩ := bind_some hg
    refine S s<|yw q (lP · P3 U3 (s3 0 _ q) u9 q)<|aw q<|nw<|sw<|lw<|mw q<|mw q fun a s => ?_
    refine lC s q func25 (c_module_needs n _ _ s.lt _ _ _ (s.ft 101 q) _ (by omega) _ o4) fun O6 a w hK hp s => ?_
    obtain ⟨K5, n6, rfl, p4⟩ := hp
    refine S s<|nsw 224 p4<|mw q fun a s => ?_
    refine lV s q func40 (c_slices_Contains_string n _ _ s.lt _ _ _ (s.ft 224 q) _ (by omega) _ h4) fun a w hK s => ?_
    apply wN
    refine c_cond s q (fun o1 => ?_) (fun o1 => ?_)
    ·replace hg := br_t hg o1
     refine S s<|vw<|aw q<|nw fun a s => ?_
     apply wp_ret
     refine p_inR ?_
     refine p_thenR ?_
     refine p_thenR ?_
     refine p_inR ?_
     refine p_inR ?_
     refine p_thenR ?_
     refine p_thenR ?_
     refine p_inR ?_
     refine p_thenR ?_
     obtain rfl := si hg
     exact fin1 (fn := Tryz.f24) s q (r_tmp s q) q
    replace hg := br_n hg o1
    apply wp_skip
    refine p_inN ?_
    refine S s<|pw<|lw<|yw q (y_addN (i := J0) (j := 1) · q q (in64.2 (by omega)))<|mw q<|nw fun a s => ?_
    exact ⟨m5, Nat.lt_succ_self _, ⟨(J0 + 1), hg, (s.sb q q q)⟩⟩
   replace hg := br_f hg w1
   apply wp_exit
   refine p_then ?_
   refine p_then ?_
   refine p_in ?_
   refine p_inN ?_
   apply pN
   exact ⟨hg, (s.sb q q q)⟩
  clear s a; rintro a w ⟨hg, s⟩
  subst J3
  refine S s<|lw<|yw q (y_addN (i := H0) (j := 1) · q q (in64.2 (by omega)))<|mw q<|nw fun a s => ?_
  exact ⟨m4, Nat.lt_succ_self _, ⟨(H0 + 1), hg, (s.sb q q q)⟩⟩
 replace hg := br_f hg v1
 apply wp_exit
 refine p_then ?_
 refine p_then ?_
 refine p_in ?_
 refine S s<|pw<|vw<|aw q<|nw fun a s => ?_
 apply wp_ret
 obtain rfl := si hg
 exact fin1 (fn := Tryz.f24) s q (r_tmp s q) q
set_option maxHeartbeats 1000000 in
theorem c_module_Order_1 (n : Nat) : ∀ (M : Bs) (w0 : World) (hM : ∀ b, M b → b < w0.heap.size) (C : Bs) (name_ : (List UInt8)) (I1 : (name_).length ≤ 9223372036854775807) (b0 : Nat) (t0 : (List (List UInt8 × Bool))) (a0 : Nat) (m0 : List (List UInt8 × Value)) (h0 : Nat) (g0 : (List Module)) (o0 : Option Addr) (p0 : Nat) (e0 : Nat) (c0 : Nat) (i0 : (List (List UInt8))) (j0 : Option Addr) (l0 : Nat) (r0 : List Value) (hW : Wd ⟨0, M, C, w0⟩ [(9100000, Ob.box b0 [.map (some a0)] 51), (9100100, Ob.box c0 [.slice (j0) ((i0).length) (l0)] 25), (9200000, Ob.smap a0 (m0)), (9200100, Ob.row (j0) ((i0).length) (l0) 9 1 (r0))] [(9300000, kvF Rep.bool (m0) (t0)), (9300100, rdF Rep.str (r0) (i0)), (9400000, slF RModule (o0) ((g0).length) (p0) (g0)), (9400001, boxF h0 [.slice (o0) ((g0).length) (p0)] 22), (9400002, boxF e0 [.func (.func 26) #[] #[.pointer (some ⟨b0, 0, none⟩), .pointer (some ⟨h0, 0, none⟩), .pointer (some ⟨e0, 0, none⟩), .pointer (some ⟨c0, 0, none⟩)]] 52)] w0) (r : ((List (List UInt8 × Bool)) × (List (List UInt8)))) (hg : module_Order_1 n name_ t0 g0 i0 = some r),
    Calls Tryz.prog 26 [vT name_, .pointer (some ⟨b0, 0, none⟩), .pointer (some ⟨h0, 0, none⟩), .pointer (some ⟨e0, 0, none⟩), .pointer (some ⟨c0, 0, none⟩)].toArray w0 (Ret C w0 fun v w => ∃ (csm0_0 : List (List UInt8 × Value)), ∃ (L0 : Option Addr), ∃ (M0 : Nat), ∃ (csm1_0 : List Value), v = .tuple #[] ∧ (Wd ⟨0, M, C, w0⟩ [(9100000, Ob.box b0 [.map (some a0)] 51), (9100100, Ob.box c0 [sl L0 r.2 M0] 25), (9200000, Ob.smap a0 (csm0_0)), (9200100, Ob.row (L0) ((r.2).length) (M0) 9 1 (csm1_0))] [(9300000, kvF Rep.bool (csm0_0) (r.1)), (9300100, rdF Rep.str (csm1_0) (r.2))] w)) := by
 induction n with
 | zero => intros; rename_i hg; rw [module_Order_1] at hg; cases hg
 | succ n c_self =>
 intro M w0 hM C name_ I1 b0 t0 a0 m0 h0 g0 o0 p0 e0 c0 i0 j0 l0 r0 hW r hg
 rw [module_Order_1] at hg
 refine enterL M C func26 q q hW ?_
 intro a s
 refine S s<|alw 104 9400000 q<|alw 105 9400001 q<|alw 106 9400002 q<|sw<|vw<|yw q (lB 9100000 · u51 q)<|mw q fun a s => ?_
 have t1 := kvF_getD (R := Rep.bool) (k := name_) (z := .bool (false)) (zx := false) (s.ft 9300000 q) (by exact q)
 have k1 := t1
 refine S s<|yw q (y_lookupV (kk := 9200000) · q q q u51 u9 q k1)<|yw q (y_not · q)<|nw fun a s => c_cond s q (fun K0 => ?_) (fun K0 => ?_)
 ·replace hg := br_t hg K0
  apply wp_ret
  refine p_thenR ?_
  replace s := s.al 9300000 9300000 rfl |>.al 9300100 9300100 q
  obtain rfl := si hg
  refine fin0 (fn := Tryz.f26) s q ?_ (.inl q)
  exact ⟨(m0), (j0), (l0), (r0), q, ((s.ren [(9100000, Ob.box b0 [.map (some a0)] 51), (9100100, Ob.box c0 [sl j0 i0 l0] 25), (9200000, Ob.smap a0 (m0)), (9200100, Ob.row (j0) ((i0).length) (l0) 9 1 (r0))] [9100000, 9100100, 9200000, 9200100] ⟨q, q, q, q, trivial⟩ (by decide)).outL ⟨q, q, q, q, trivial⟩ ⟨q, q, trivial⟩)⟩
 replace hg := br_n hg K0
 refine S s<|kw<|pw<|vw<|yw q (lB 9100000 · u51 q)<|mw q fun a s => ?_
 refine l_seq q (l_mapDelete s 9200000 q q q u51 u9 fun w hK s => ?_)
 replace s := s.add 108 (kvF Rep.bool (mdel (m0) (name_)) (mdel (t0) (name_))) (kvF_del (s.ft 9300000 q))
 obtain ⟨r4, w1, hg⟩ := bind_some hg
 refine S s<|nw<|sw<|lw<|yw q (fun s => y_loadF1 s q (s.ft 105 q) q u22 q)<|mw q fun a s => ?_
 refine lC s q func27 (c_module_find n _ _ s.lt _ _ _ (s.ft 104 q) _ (by omega) _ w1) fun v8 a w hK hp s => ?_
 obtain ⟨E0, I0, T0, c1, U0, d1, V0, e1, X0, g1, Y0, h1, Z0, i1, a1, j1, S0, b1, rfl, Q1, z1, B1, C1, D1, E1, F1, G1, H1, y1⟩ := hp
 refine S s<|nsw 118 z1<|nsw 119 B1<|nsw 120 C1<|nsw 121 D1<|nsw 122 E1<|nsw 123 F1<|nsw 124 G1<|nsw 125 H1<|nsw 126 y1<|mw q<|yw q (y_extract · q q)<|yw q (y_extract · q q) fun a s => ?_
 refine l_seq q (l_alloc (zs := [vT ([]), nS, nS, nS, nS, nS, nS, nS, nS, nS]) s 1206 q q q q fun K1 a w hb hK s => ?_)
 refine l_seq q (l_store (n := 10) (cs' := [vT r4.1.Name, sl E0 r4.1.Imports I0, sl T0 r4.1.Types c1, sl U0 r4.1.Templates d1, sl V0 r4.1.Entries e1, sl X0 r4.1.LexRules g1, sl Y0 r4.1.Rules h1, sl Z0 r4.1.Roots i1, sl a1 r4.1.Checks j1, sl S0 r4.1.Drops b1]) s 1206 q q q q q q q q ?_); clear s; intro w hK s; clear hK
 refine S s<|aw q<|nw<|sw<|vw<|yw q (bF 1 · u38 q)<|yw q (lB 1206 · u25 q)<|yw q (lS · q u25)<|mw q<|nw fun a s => ?_
 obtain ⟨R0, hg, r1⟩ := jn_some hg
 refine c_post (fun a w => ∃ (F0 : (List (List UInt8 × Bool))) (d0 : (List (List UInt8))) (x0 : List (List UInt8 × Value)) (A15 : Option Addr) (G0 : Nat) (q0 : List Value), R0 F0 d0 = some r ∧ St (⟨Tryz.f26.ntmps, M, C, w0⟩ : Ctx) [(0, vT name_), (1, vP b0 0), (4, vP c0 0)] [(700128, Ob.row (A15) ((d0).length) (G0) 9 1 (q0)), (9100000, Ob.box b0 [.map (some a0)] 51), (9100100, Ob.box c0 [sl A15 d0 G0] 25), (9200000, Ob.smap a0 (x0))] [(127, kvF Rep.bool (x0) (F0)), (129, rdF Rep.str (q0) (d0))] a w) ?_ ?_
 ·refine S s<|bw<|alw 130 108 q<|alw 132 9300100 q fun a s => ?_
  replace s := s.pk [(1206, 1206), (700131, 9200100), (9100000, 9100000), (9100100, 9100100), (9200000, 9200000)] (by decide)
  refine c_loop (σ := Nat) (fun m1 a w => ∃ (n0 : Nat) (s0 : (List (List UInt8 × Bool))) (k0 : (List (List UInt8))) (y0 : List (List UInt8 × Value)) (A22 : Option Addr) (u0 : Nat) (v0 : List Value), module_Order_1_L0 n g0 (module_Order_1 n) r4 R0 m1 n0 s0 k0 = some r ∧ St (⟨Tryz.f26.ntmps, M, C, w0⟩ : Ctx) [(0, vT name_), (1, vP b0 0), (3, vP e0 0), (4, vP c0 0), (23, sl E0 r4.1.Imports I0), (24, vI ((((r4.1.Imports).length : Nat) : Int))), (25, vI (((n0 : Nat) : Int)))] [(700131, Ob.row (A22) ((k0).length) (u0) 9 1 (v0)), (9100000, Ob.box b0 [.map (some a0)] 51), (9100100, Ob.box c0 [sl A22 k0 u0] 25), (9200000, Ob.smap a0 (y0))] [(104, sF RModule o0 p0 g0), (105, boxF h0 [sl o0 g0 p0] 22), (106, boxF e0 [.func (.func 26) #[] #[vP b0 0, vP h0 0, vP e0 0, vP c0 0]] 52), (118, sF Rep.str E0 I0 r4.1.Imports), (130, kvF Rep.bool (y0) (s0)), (132, rdF Rep.str (v0) (k0))] a w) (fun m1 => m1) n ⟨(0), (mdel (t0) (name_)), (i0), (mdel (m0) (name_)), (j0), (l0), (r0), hg, (s.sb q q q)⟩ ?_
  clear s a; rintro m1 a w ⟨n0, s0, k0, y0, A22, u0, v0, hg, s⟩
  rcases m1 with _ | m1
  ·rw [module_Order_1_L0] at hg; cases hg
  rw [module_Order_1_L0] at hg
  refine S s<|vw<|yw q (y_lssN (i := n0) (j := ((r4.1.Imports).length)) · q q)<|nw<|sw fun a s => c_dec s q (fun J0 => ?_) (fun J0 => ?_)
  ·replace hg := br_t hg J0
   have O1 := SlR.mx (s.ft 118 q)
   obtain ⟨J1, Q0, hg⟩ := bind_some hg
   refine S s<|kw<|pw<|sw<|bw<|sw<|lw fun a s => ?_
   obtain ⟨R1, q1, s1, u1, M1, p1, o1⟩ := SlR.elemX (s.ft 118 q) Q0
   refine qq s q (eL 1 n0 s u25 q1 (lt_of_get Q0) q) fun a s => ?_
   obtain ⟨rfl, P1⟩ := p1
   obtain ⟨z0, v1, hg⟩ := bind_some hg
   refine S s<|yw q (lP · s1 u1 (o1 0 _ q) u9 q)<|aw q<|nw<|lw<|yw q (fun s => y_loadF1 s q (s.ft 106 q) q u52 q)<|mw q fun a s => ?_
   have hT := s.pk [(9100000, 9100000), (9100100, 9100100), (9200000, 9200000), (9200100, 700131)] (by decide)
   replace hT := hT.al 9300000 130 q
   replace hT := hT.al 9300100 132 q
   replace hT := hT.al 9400000 104 q
   replace hT := hT.al 9400001 105 q
   replace hT := hT.al 9400002 106 q
   refine l_seq q (l_callMut (cap := [vP b0 0, vP h0 0, vP e0 0, vP c0 0]) hT _ [] (sbA (by rfl)) trivial (by rfl) q func26 q (by kernel_rfl) q q (c_self _ _ (hT.restLt []) _ J1 (by omega) b0 s0 a0 (y0) h0 g0 (o0) (p0) e0 c0 k0 (A22) (u0) (v0) (hT.wd.lendL _ _ _ (sbA (by rfl)) (keep_sub []) (by rfl) (sbA (by rfl))) z0 v1) ?_); intro S1 a' w' hK hp hF
   obtain ⟨csm0_0u36, D0, H0, csm1_0u36, rfl, O0⟩ := hp
   have l1 := St.mk hF (hT.wd.back (sbA (by rfl)) (keep_sub []) (by rfl) O0 (by rfl))
   clear s hT hF O0 hK; revert l1; revert w'; revert a'; intro a w s
   replace s := s.al 135 9300000 rfl |>.al 136 9300100 q
   replace s := s.ren [(700131, Ob.row (D0) ((z0.2).length) (H0) 9 1 (csm1_0u36)), (9100000, Ob.box b0 [.map (some a0)] 51), (9100100, Ob.box c0 [sl D0 z0.2 H0] 25), (9200000, Ob.smap a0 (csm0_0u36))] [9200100, 9100000, 9100100, 9200000] ⟨q, q, q, q, trivial⟩ (by decide)
   apply wO
   refine p_inN ?_
   refine S s<|pw<|lw<|yw q (y_addN (i := n0) (j := 1) · q q (in64.2 (by omega)))<|mw q<|nw<|alw 130 135 q<|alw 132 136 q fun a s => ?_
   exact ⟨m1, Nat.lt_succ_self _, ⟨(n0 + 1), (z0.1), (z0.2), (csm0_0u36), (D0), (H0), (csm1_0u36), hg, (s.sb q q q)⟩⟩
  replace hg := br_f hg J0
  apply wp_exit
  refine p_then ?_
  refine p_then ?_
  refine p_in ?_
  refine S s<|pw<|alw 127 130 q<|alw 129 132 q fun a s => ?_
  replace s := s.pk [(700128, 700131), (9100000, 9100000), (9100100, 9100100), (9200000, 9200000)] (by decide)
  exact ⟨(s0), (k0), (y0), (A22), (u0), (v0), hg, (s.sb q q q)⟩
 clear s a; rintro a w ⟨F0, d0, x0, A15, G0, q0, hg, s⟩
 subst r1
 obtain ⟨P0, hg⟩ := chk_some hg
 refine S s<|lw<|yw q (lB 9100100 · u25 q)<|mw q fun a s => ?_
 refine l_seq q (l_buildDense (sz := 1) s 1802 q q q u25 q q q q q q q fun L1 a w n1 hK s => ?_)
 clear n1
 replace s := s.add 139 (rdF Rep.str (cellsOfL [vT name_]) ([name_])) (RdAll.cons (by exact ⟨q, (by omega)⟩) (rN))
 have x1 := row_src (s.wd.holds 1802 _ q) (RdAll.one (s.ft 139 q))
 refine l_seq q (l_append (sz := 1) (by_ := 16) (N := (d0 ++ [name_]).length) s 700128 q q q u25 q q q q q x1 (by rw [List.length_append]; try rfl) q (rmA P0 q) (rmB P0) q fun B0 C0 a w hA hK s => ?_)
 replace s := s.add 140 (rdF Rep.str (q0 ++ (cellsOfL [vT name_])) (d0 ++ [name_])) (RdAll.append (s.ft 129 q) (s.ft 139 q))
 refine l_seq q (l_store (n := 1) (cs' := [sl B0 (d0 ++ [name_]) C0]) s 9100100 q q q q q q q q ?_); clear s; intro w hK s; clear hK
 apply wO
 replace s := s.al 9300000 127 rfl |>.al 9300100 140 q
 obtain rfl := si hg
 refine fin0 (fn := Tryz.f26) s q ?_ (.inr q)
 exact ⟨(x0), (B0), (C0), (q0 ++ (cellsOfL [vT name_])), q, ((s.ren [(9100000, Ob.box b0 [.map (some a0)] 51), (9100100, Ob.box c0 [sl B0 (d0 ++ [name_]) C0] 25), (9200000, Ob.smap a0 (x0)), (9200100, Ob.row (B0) ((d0 ++ [name_]).length) (C0) 9 1 (q0 ++ (cellsOfL [vT name_])))] [9100000, 9100100, 9200000, 700128] ⟨q, q, q, q, trivial⟩ (by decide)).outL ⟨q, q, q, q, trivial⟩ ⟨q, q, trivial⟩)⟩
set_option maxHeartbeats 1000000 in
theorem c_module_Order (n : Nat) (M : Bs) (w0 : World) (hM : ∀ b, M b → b < w0.heap.size) (l_ : (List Module)) (c0 : Option Addr) (d0 : Nat) (J0 : sR RModule M w0 c0 d0 l_) (main_ : (List UInt8)) (R0 : (main_).length ≤ 9223372036854775807) (r : ((List (List UInt8)) × Int)) (hg : module_Order n l_ main_ = some r) :
    Calls Tryz.prog 12 [sl c0 l_ d0, vT main_].toArray w0 (Ret noB w0 fun v w => ∃ (t0 : Option Addr), ∃ (v0 : Nat), v = .tuple #[sl t0 r.1 v0, .int .i64 (r.2)] ∧ (SlR Rep.str M w t0 (r.1).length v0 (r.1))) := by
 unfold module_Order at hg
 refine enter M noB func12 q q hM ?_
 intro a s
 replace s := s.es 101 J0
 apply wR
 refine l_seq q (l_box (zs := [sl c0 l_ d0]) s 1000 q q q q fun b2 a w hb hK s => ?_)
 obtain ⟨r3, L0, hg⟩ := bind_some hg
 refine S s<|aw q<|aw q<|nw<|sw<|sw<|lw<|yw q (lB 1000 · u22 q)<|mw q fun a s => ?_
 refine lV s q func24 (c_module_check n _ _ s.lt _ _ _ (s.ft 101 q) _ (by omega) _ L0) fun a w hK s => ?_
 refine S s<|aw q<|nw<|vw<|mw q<|yw q (y_neq · q q)<|nw fun a s => c_dec s q (fun r0 => ?_) (fun r0 => ?_)
 ·replace hg := br_t hg r0
  refine S s<|vw<|mw q<|aw q<|aw q<|nw fun a s => ?_
  apply wp_ret
  refine p_thenR ?_
  obtain rfl := si hg
  refine fin2 (fn := Tryz.f12) s q (r_tmp s q) (r_tmp s q) ?_
  exact ⟨(none), (0), q, (SlR.nil_ _ _ _)⟩
 replace hg := br_f hg r0
 apply wp_skip
 apply pN
 apply wR
 refine l_seq q (l_makeMap (n := 0) s 1400 u51 (.inl q) q q fun a0 a w hb hK s => ?_)
 replace s := s.add 103 (kvF Rep.bool ([]) ([])) (KvRel.nil)
 refine l_seq q (l_alloc (zs := [.map none]) s 1401 q q q q fun b0 a w hb hK s => ?_)
 refine l_seq q (l_store (n := 1) (cs' := [.map (some a0)]) s 1401 q q q q q q q q ?_); clear s; intro w hK s; clear hK
 obtain ⟨l0, K0, hg⟩ := bind_some hg
 refine S s<|nw<|sw<|sw<|lw<|yw q (lB 1000 · u22 q)<|mw q fun a s => ?_
 refine lC s q func25 (c_module_needs n _ _ s.lt _ _ _ (s.ft 101 q) _ (by omega) _ K0) fun U0 a w hK hp s => ?_
 obtain ⟨u0, x0, rfl, O0⟩ := hp
 refine S s<|nsw 105 O0<|yw q (lS · q u25)<|mw q<|nw fun a s => ?_
 obtain ⟨B0, hg, G0⟩ := jn_some hg
 refine c_post (fun a w => ∃ (m0 : (List (List UInt8 × Bool))) (h0 : List (List UInt8 × Value)), B0 m0 = some r ∧ St (cx f12 M w0) [(1, vT main_), (2, vP b2 0), (7, vP b0 0)] [(1000, Ob.box b2 [sl c0 l_ d0] 22), (1400, Ob.smap a0 (h0)), (1401, Ob.box b0 [.map (some a0)] 51)] [(101, sF RModule c0 d0 l_), (106, kvF Rep.bool (h0) (m0))] a w) ?_ ?_
 ·apply wp_block
  replace s := s.al 107 103 q
  refine c_loop (σ := Nat) (fun m1 a w => ∃ (g0 : Nat) (j0 : (List (List UInt8 × Bool))) (i0 : List (List UInt8 × Value)), module_Order_L0 n l0 B0 m1 g0 j0 = some r ∧ St (cx f12 M w0) [(1, vT main_), (2, vP b2 0), (7, vP b0 0), (21, sl u0 l0 x0), (22, vI ((((l0).length : Nat) : Int))), (23, vI (((g0 : Nat) : Int)))] [(1000, Ob.box b2 [sl c0 l_ d0] 22), (1400, Ob.smap a0 (i0)), (1401, Ob.box b0 [.map (some a0)] 51)] [(101, sF RModule c0 d0 l_), (105, sF Rep.str u0 x0 l0), (107, kvF Rep.bool (i0) (j0))] a w) (fun m1 => m1) n ⟨(0), ([]), ([]), hg, (s.sb q q q)⟩ ?_
  clear s a; rintro m1 a w ⟨g0, j0, i0, hg, s⟩
  rcases m1 with _ | m1
  ·rw [module_Order_L0] at hg; cases hg
  rw [module_Order_L0] at hg
  refine S s<|vw<|yw q (y_lssN (i := g0) (j := ((l0).length)) · q q)<|nw<|sw fun a s => c_dec s q (fun q0 => ?_) (fun q0 => ?_)
  ·replace hg := br_t hg q0
   have Q0 := SlR.mx (s.ft 105 q)
   obtain ⟨n0, z0, hg⟩ := bind_some hg
   refine S s<|kw<|pw<|sw<|bw<|sw<|lw fun a s => ?_
   obtain ⟨T0, F0, H0, I0, P0, E0, D0⟩ := SlR.elemX (s.ft 105 q) z0
   refine qq s q (eL 1 g0 s u25 F0 (lt_of_get z0) q) fun a s => ?_
   obtain ⟨rfl, S0⟩ := E0
   refine S s<|yw q (lP · H0 I0 (D0 0 _ q) u9 q)<|aw q<|nw<|lw<|yw q (lB 1401 · u51 q)<|mw q fun a s => ?_
   refine l_seq q (l_mapUpdate s 1400 q q q q u51 u9 fun w hK s => ?_)
   replace s := s.add 109 (kvF Rep.bool (mset (i0) (n0) (.bool (true))) (mset (j0) (n0) (true))) (kvF_set (s.ft 107 q) (by exact q))
   apply wO
   refine p_inN ?_
   refine S s<|pw<|lw<|yw q (y_addN (i := g0) (j := 1) · q q (in64.2 (by omega)))<|mw q<|nw<|alw 107 109 q fun a s => ?_
   exact ⟨m1, Nat.lt_succ_self _, ⟨(g0 + 1), (mset (j0) (n0) (true)), (mset (i0) (n0) (.bool (true))), hg, (s.sb q q q)⟩⟩
  replace hg := br_f hg q0
  apply wp_exit
  refine p_then ?_
  refine p_then ?_
  refine p_in ?_
  apply pN
  replace s := s.al 106 107 q
  exact ⟨(j0), (i0), hg, (s.sb q q q)⟩
 clear s a; rintro a w ⟨m0, h0, hg, s⟩
 subst G0
 apply wR
 refine l_seq q (l_alloc (zs := [nS]) s 2000 q q q q fun e0 a w hb hK s => ?_)
 apply wN
 apply wR
 refine l_seq q (l_alloc (zs := [.nilFunc]) s 2100 q q q q fun k0 a w hb hK s => ?_)
 apply wN
 apply wR
 replace s := s.freezeBox (L' := [(1400, Ob.smap a0 (h0)), (1401, Ob.box b0 [.map (some a0)] 51), (2000, Ob.box e0 [nS] 25), (2100, Ob.box k0 [.nilFunc] 52)]) 111 1000 q ⟨q, q, q, q, trivial⟩ q
 refine qq s q (y_makeFunc (xs := [.tmp 7, .tmp 2, .tmp 11, .tmp 10]) (vs := [vP b0 0, vP b2 0, vP k0 0, vP e0 0]) s q) fun a s => ?_
 refine l_seq q (l_store (n := 1) (cs' := [.func (.func 26) #[] #[vP b0 0, vP b2 0, vP k0 0, vP e0 0]]) s 2100 q q q q q q q q ?_); clear s; intro w hK s; clear hK
 obtain ⟨s0, M0, hg⟩ := bind_some hg
 refine S s<|nw<|sw<|lw<|yw q (lB 2100 · u52 q)<|mw q fun a s => ?_
 replace s := s.freezeBox (L' := [(1400, Ob.smap a0 (h0)), (1401, Ob.box b0 [.map (some a0)] 51), (2000, Ob.box e0 [nS] 25)]) 117 2100 q ⟨q, q, q, trivial⟩ q
 replace s := s.nilRow 800118 9 1 q
 replace s := s.add 119 (rdF Rep.str ([]) ([])) (rN)
 have hT := s.pk [(9100000, 1401), (9100100, 2000), (9200000, 1400), (9200100, 800118)] (by decide)
 replace hT := hT.al 9300000 106 q
 replace hT := hT.al 9300100 119 q
 replace hT := hT.al 9400000 101 q
 replace hT := hT.al 9400001 111 q
 replace hT := hT.al 9400002 117 q
 refine l_seq q (l_callMut (cap := [vP b0 0, vP b2 0, vP k0 0, vP e0 0]) hT _ [] (sbA (by rfl)) trivial (by rfl) q func26 q (by kernel_rfl) q q (c_module_Order_1 n _ _ (hT.restLt []) _ main_ (by omega) b0 m0 a0 (h0) b2 l_ (c0) (d0) k0 e0 [] (none) (0) ([]) (hT.wd.lendL _ _ _ (sbA (by rfl)) (keep_sub []) (by rfl) (sbA (by rfl))) s0 M0) ?_); intro V0 a' w' hK hp hF
 obtain ⟨csm0_0u39, o0, p0, csm1_0u39, rfl, y0⟩ := hp
 have C0 := St.mk hF (hT.wd.back (sbA (by rfl)) (keep_sub []) (by rfl) y0 (by rfl))
 clear s hT hF y0 hK; revert C0; revert w'; revert a'; intro a w s
 replace s := s.al 120 9300000 rfl |>.al 121 9300100 q
 replace s := s.ren [(1400, Ob.smap a0 (csm0_0u39)), (1401, Ob.box b0 [.map (some a0)] 51), (2000, Ob.box e0 [sl o0 s0.2 p0] 25), (800118, Ob.row (o0) ((s0.2).length) (p0) 9 1 (csm1_0u39))] [9200000, 9100000, 9100100, 9200100] ⟨q, q, q, q, trivial⟩ (by decide)
 refine S s<|nw<|vw<|yw q (lB 2000 · u25 q)<|aw q<|aw q<|nw fun a s => ?_
 apply wp_ret
 obtain rfl := si hg
 refine fin2 (fn := Tryz.f12) s q (r_tmp s q) (r_tmp s q) ?_
 exact ⟨(o0), (p0), q, (s.rowOut (R := Rep.str) (kk := 800118) q q (s.ft 121 q))⟩
set_option maxHeartbeats 1000000 in
theorem c_r01_Same (n : Nat) (M : Bs) (w0 : World) (hM : ∀ b, M b → b < w0.heap.size) (a_ : (List (List UInt8))) (b0 : Option Addr) (d0 : Nat) (v0 : sR Rep.str M w0 b0 d0 a_) (b_ : (List (List UInt8))) (c0 : Option Addr) (e0 : Nat) (x0 : sR Rep.str M w0 c0 e0 b_) (r : Bool) (hg : r01_Same n a_ b_ = some r) :
    Calls Tryz.prog 14 [sl b0 a_ d0, sl c0 b_ e0].toArray w0 (Ret noB w0 fun v w => v = .bool (r)) := by
 unfold r01_Same at hg
 refine enter M noB func14 q q hM ?_
 intro a s
 refine S s<|esw 101 v0<|esw 102 x0<|vw<|aw q<|nw<|sw<|vw<|mw q<|yw q (lS · q u25)<|mw q<|yw q (lS · q u25)<|yw q (y_neqN (i := ((a_).length)) (j := ((b_).length)) · q q)<|nw fun a s => c_dec s q (fun g0 => ?_) (fun g0 => ?_)
 ·replace hg := br_t hg g0
  refine S s<|vw<|aw q<|nw fun a s => ?_
  apply wp_ret
  refine p_thenR ?_
  obtain rfl := si hg
  exact fin1 (fn := Tryz.f14) s q (r_tmp s q) q
 replace hg := br_f hg g0
 refine S s<|kw<|pw<|sw<|vw<|aw q<|nw<|bw fun a s => ?_
 refine c_loop (σ := Nat) (fun m1 a w => ∃ (a0 : Nat), r01_Same_L0 n a_ b_ m1 a0 = some r ∧ St (cx f14 M w0) [(0, sl b0 a_ d0), (1, sl c0 b_ e0), (5, vI (((a0 : Nat) : Int)))] [] [(101, sF Rep.str b0 d0 a_), (102, sF Rep.str c0 e0 b_)] a w) (fun m1 => m1) n ⟨(0), hg, (s.sb q q q)⟩ ?_
 clear s a; rintro m1 a w ⟨a0, hg, s⟩
 rcases m1 with _ | m1
 ·rw [r01_Same_L0] at hg; cases hg
 rw [r01_Same_L0] at hg
 refine S s<|sw<|vw<|mw q<|mw q<|yw q (lS · q u25)<|yw q (y_lssN (i := a0) (j := ((a_).length)) · q q)<|nw fun a s => c_dec s q (fun i0 => ?_) (fun i0 => ?_)
 ·replace hg := br_t hg i0
  have B0 := SlR.mx (s.ft 101 q)
  obtain ⟨x6, j0, hg⟩ := bind_some hg
  obtain ⟨x9, k0, hg⟩ := bind_some hg
  refine S s<|kw<|pw<|sw<|bw<|sw fun a s => ?_
  refine d_plan s [] [(0, some 0), (1, some 0), (2, some 0), (3, some 0), (4, some 0), (5, some 0), (6, some 0), (7, some 0), (8, some 0)] q (by kernel_rfl) (by kernel_rfl) q ?_; clear s; intro wr hZ s; have hR := s.wd
  refine S s<|qw hR q (mo · q)<|qw hR q (mo · q) fun a s => ?_
  obtain ⟨E0, p0, r0, t0, y0, n0, l0⟩ := SlR.elemX (s.ft 101 q) j0
  refine qt s hR q (eL 1 a0 s u25 p0 (lt_of_get j0) q) fun a s => ?_
  obtain ⟨rfl, C0⟩ := n0
  refine S s<|qw hR q (lP · r0 t0 (l0 0 _ q) u9 q)<|qw hR q (mo · q)<|qw hR q (mo · q) fun a s => ?_
  obtain ⟨F0, q0, s0, u0, z0, o0, m0⟩ := SlR.elemX (s.ft 102 q) k0
  refine qt s hR q (eL 1 a0 s u25 q0 (lt_of_get k0) q) fun a s => ?_
  obtain ⟨rfl, D0⟩ := o0
  refine S s<|qw hR q (lP · s0 u0 (m0 0 _ q) u9 q)<|qw hR q (y_sne · q q) fun a s => ?_
  clear hR hZ
  apply pN
  refine c_dec s q (fun h0 => ?_) (fun h0 => ?_)
  ·replace hg := br_t hg h0
   refine S s<|vw<|aw q<|nw fun a s => ?_
   apply wp_ret
   refine p_inR ?_
   refine p_thenR ?_
   refine p_thenR ?_
   refine p_inR ?_
   refine p_thenR ?_
   obtain rfl := si hg
   exact fin1 (fn := Tryz.f14) s q (r_tmp s q) q
  replace hg := br_f hg h0
  apply wp_skip
  refine p_inN ?_
  refine S s<|pw<|lw<|mw q<|yw q (y_addN (i := a0) (j := 1) · q q (in64.2 (by omega)))<|aw q<|nw fun a s => ?_
  exact ⟨m1, Nat.lt_succ_self _, ⟨(a0 + 1), hg, (s.sb q q q)⟩⟩
 replace hg := br_f hg i0
 apply wp_exit
 refine p_then ?_
 refine p_then ?_
 refine p_in ?_
 refine S s<|pw<|vw<|aw q<|nw fun a s => ?_
 apply wp_ret
 obtain rfl := si hg
 exact fin1 (fn := Tryz.f14) s q (r_tmp s q) q
set_option maxHeartbeats 1000000 in
theorem c_hier_decl (n : Nat) (M : Bs) (w0 : World) (hM : ∀ b, M b → b < w0.heap.size) (name_ : (List UInt8)) (j0 : (name_).length ≤ 9223372036854775807) (super_ : (List UInt8)) (k0 : (super_).length ≤ 9223372036854775807) (feats_ : (List FeatDecl)) (a0 : Option Addr) (b0 : Nat) (i0 : sR RFeatDecl M w0 a0 b0 feats_) (r : TypeDecl) (hg : hier_decl n name_ super_ feats_ = some r) :
    Calls Tryz.prog 57 [vT name_, vT super_, sl a0 feats_ b0].toArray w0 (Ret noB w0 fun v w => ∃ (c0 : Option Addr), ∃ (e0 : Nat), ∃ (d0 : Option Addr), ∃ (g0 : Nat), v = .agg #[vT r.Name, sl c0 r.Supers e0, sl d0 r.Feats g0] ∧ ((r.Name).length ≤ 9223372036854775807) ∧ (SlR Rep.str M w c0 (r.Supers).length e0 (r.Supers)) ∧ (SlR RFeatDecl M w d0 (r.Feats).length g0 (r.Feats))) := by
 unfold hier_decl at hg
 refine enter M noB func57 q q hM ?_
 intro a s
 replace s := s.es 101 i0
 apply wR
 refine l_seq q (l_alloc (zs := [vT ([]), nS, nS]) s 1000 q q q q fun b2 a w hb hK s => ?_)
 refine S s<|nw<|vw<|mw q<|mw q fun a s => ?_
 refine l_seq q (l_buildDense (sz := 1) s 1102 q q q u25 q q q q q q q fun b4 a w h0 hK s => ?_)
 clear h0
 refine mv s q q fun a s => ?_
 replace s := s.add 104 (rdF Rep.str (cellsOfL [vT super_]) ([super_])) (RdAll.cons (by exact ⟨q, (by omega)⟩) (rN))
 replace s := s.freeze (R := Rep.str) (kk := 1102) (L' := [(1000, Ob.box b2 [vT ([]), nS, nS] 49)]) 105 q q (s.ft 104 q) ⟨q, trivial⟩ q
 refine qq s q (y_build (parts := [(0, .tmp 7), (1, .tmp 9), (2, .tmp 10)]) (ps := [(0, vT name_), (1, .slice (some ⟨b4, 0, none⟩) (1) (1)), (2, sl a0 feats_ b0)]) (cells := #[vT name_, .slice (some ⟨b4, 0, none⟩) (1) (1), sl a0 feats_ b0]) s q (by kernel_rfl)) fun a s => ?_
 refine l_seq q (l_store (n := 3) (cs' := [vT name_, .slice (some ⟨b4, 0, none⟩) (1) (1), sl a0 feats_ b0]) s 1000 q q q q q q q q ?_); clear s; intro w hK s; clear hK
 apply wN
 apply wp_ret
 obtain rfl := si hg
 refine fin1 (fn := Tryz.f57) s q (r_cell (kk := 1000) (n := 3) (vs := [vT name_, .slice (some ⟨b4, 0, none⟩) (1) (1), sl a0 feats_ b0]) s q q u49 q q q q) ?_
 exact ⟨(some ⟨b4, 0, none⟩), (1), (a0), (b0), q, (by omega), (s.out (k := 105) q), (s.out (k := 101) q)⟩
set_option maxHeartbeats 1000000 in
theorem c_hier_Prelude (n : Nat) (M : Bs) (w0 : World) (hM : ∀ b, M b → b < w0.heap.size)  (r : (List TypeDecl)) (hg : hier_Prelude n = some r) :
    Calls Tryz.prog 31 [].toArray w0 (Ret noB w0 fun v w => ∃ (a0 : Option Addr), ∃ (b0 : Nat), v = sl a0 r b0 ∧ (SlR RTypeDecl M w a0 (r).length b0 (r))) := by
 unfold hier_Prelude at hg
 refine enter M noB func31 q q hM ?_
 intro a s
 obtain ⟨r1, C0, hg⟩ := bind_some hg
 obtain ⟨r5, M0, hg⟩ := bind_some hg
 obtain ⟨r8, O0, hg⟩ := bind_some hg
 obtain ⟨c0, D0, hg⟩ := bind_some hg
 obtain ⟨d0, E0, hg⟩ := bind_some hg
 obtain ⟨e0, F0, hg⟩ := bind_some hg
 obtain ⟨g0, G0, hg⟩ := bind_some hg
 obtain ⟨h0, H0, hg⟩ := bind_some hg
 obtain ⟨i0, I0, hg⟩ := bind_some hg
 obtain ⟨j0, J0, hg⟩ := bind_some hg
 obtain ⟨k0, K0, hg⟩ := bind_some hg
 obtain ⟨l0, L0, hg⟩ := bind_some hg
 refine S s<|vw<|aw q<|nw<|sw<|lw<|yw q (y_build (parts := [(0, .const (vT ([116, 111, 112])))]) (ps := [(0, vT ([116, 111, 112]))]) (cells := #[vT ([116, 111, 112]), nS, nS]) · q (by kernel_rfl)) fun a s => ?_
 refine lC s q func57 (c_hier_decl n _ _ s.lt _ (Nat.le_of_ble_eq_true (by rfl)) _ (Nat.le_of_ble_eq_true (by rfl)) [] (none) (0) (SlR.nil_ _ _ _) _ C0) fun D2 a w hK hp s => ?_
 obtain ⟨p1, Q1, q1, R1, rfl, q2, P0, Q0⟩ := hp
 refine S s<|nsw 137 P0<|nsw 138 Q0<|yw q (y_build (parts := [(0, .const (vT ([70, 73, 82, 83, 84]))), (1, .const (vT ([116, 111, 112])))]) (ps := [(0, vT ([70, 73, 82, 83, 84])), (1, vT ([116, 111, 112]))]) (cells := #[vT ([70, 73, 82, 83, 84]), vT ([116, 111, 112])]) · q (by kernel_rfl))<|yw q (y_build (parts := [(0, .const (vT ([82, 69, 83, 84]))), (1, .const (vT ([108, 105, 115, 116])))]) (ps := [(0, vT ([82, 69, 83, 84])), (1, vT ([108, 105, 115, 116]))]) (cells := #[vT ([82, 69, 83, 84]), vT ([108, 105, 115, 116])]) · q (by kernel_rfl)) fun a s => ?_
 refine l_seq q (l_buildDense (sz := 2) s 1104 q q q u47 q q q q q q q fun m0 a w t0 hK s => ?_)
 clear t0
 replace s := s.add 139 (rdF RFeatDecl (cellsOfL [.agg #[_, _], .agg #[_, _]]) ([(FeatDecl.mk [70, 73, 82, 83, 84] [116, 111, 112]), (FeatDecl.mk [82, 69, 83, 84] [108, 105, 115, 116])])) (RdAll.cons (by exact (RFeatDecl.mk' (x := (FeatDecl.mk [70, 73, 82, 83, 84] [116, 111, 112])) (Nat.le_of_ble_eq_true (by rfl)) (Nat.le_of_ble_eq_true (by rfl)))) (RdAll.cons (by exact (RFeatDecl.mk' (x := (FeatDecl.mk [82, 69, 83, 84] [108, 105, 115, 116])) (Nat.le_of_ble_eq_true (by rfl)) (Nat.le_of_ble_eq_true (by rfl)))) (rN)))
 replace s := s.freeze (R := RFeatDecl) (kk := 1104) (L' := []) 140 q q (s.ft 139 q) trivial q
 refine lC s q func57 (c_hier_decl n _ _ s.lt _ (Nat.le_of_ble_eq_true (by rfl)) _ (Nat.le_of_ble_eq_true (by rfl)) [(FeatDecl.mk [70, 73, 82, 83, 84] [116, 111, 112]), (FeatDecl.mk [82, 69, 83, 84] [108, 105, 115, 116])] (some ⟨m0, 0, none⟩) (2) (s.ft 140 q) _ M0) fun E2 a w hK hp s => ?_
 obtain ⟨s1, S1, t1, T1, rfl, r2, R0, S0⟩ := hp
 replace s := s.ns 141 R0 |>.ns 142 S0
 refine lC s q func57 (c_hier_decl n _ _ s.lt _ (Nat.le_of_ble_eq_true (by rfl)) _ (Nat.le_of_ble_eq_true (by rfl)) [] (none) (0) (SlR.nil_ _ _ _) _ O0) fun F2 a w hK hp s => ?_
 obtain ⟨u1, U1, v1, V1, rfl, s2, T0, U0⟩ := hp
 refine S s<|nsw 143 T0<|nsw 144 U0<|yw q (y_build (parts := [(0, .const (vT ([76, 73, 83, 84]))), (1, .const (vT ([108, 105, 115, 116])))]) (ps := [(0, vT ([76, 73, 83, 84])), (1, vT ([108, 105, 115, 116]))]) (cells := #[vT ([76, 73, 83, 84]), vT ([108, 105, 115, 116])]) · q (by kernel_rfl))<|yw q (y_build (parts := [(0, .const (vT ([76, 65, 83, 84]))), (1, .const (vT ([108, 105, 115, 116])))]) (ps := [(0, vT ([76, 65, 83, 84])), (1, vT ([108, 105, 115, 116]))]) (cells := #[vT ([76, 65, 83, 84]), vT ([108, 105, 115, 116])]) · q (by kernel_rfl)) fun a s => ?_
 refine l_seq q (l_buildDense (sz := 2) s 1109 q q q u47 q q q q q q q fun n0 a w u0 hK s => ?_)
 clear u0
 replace s := s.add 145 (rdF RFeatDecl (cellsOfL [.agg #[_, _], .agg #[_, _]]) ([(FeatDecl.mk [76, 73, 83, 84] [108, 105, 115, 116]), (FeatDecl.mk [76, 65, 83, 84] [108, 105, 115, 116])])) (RdAll.cons (by exact (RFeatDecl.mk' (x := (FeatDecl.mk [76, 73, 83, 84] [108, 105, 115, 116])) (Nat.le_of_ble_eq_true (by rfl)) (Nat.le_of_ble_eq_true (by rfl)))) (RdAll.cons (by exact (RFeatDecl.mk' (x := (FeatDecl.mk [76, 65, 83, 84] [108, 105, 115, 116])) (Nat.le_of_ble_eq_true (by rfl)) (Nat.le_of_ble_eq_true (by rfl)))) (rN)))
 replace s := s.freeze (R := RFeatDecl) (kk := 1109) (L' := []) 146 q q (s.ft 145 q) trivial q
 refine lC s q func57 (c_hier_decl n _ _ s.lt _ (Nat.le_of_ble_eq_true (by rfl)) _ (Nat.le_of_ble_eq_true (by rfl)) [(FeatDecl.mk [76, 73, 83, 84] [108, 105, 115, 116]), (FeatDecl.mk [76, 65, 83, 84] [108, 105, 115, 116])] (some ⟨n0, 0, none⟩) (2) (s.ft 146 q) _ D0) fun G2 a w hK hp s => ?_
 obtain ⟨w1, X1, x1, Y1, rfl, t2, V0, X0⟩ := hp
 replace s := s.ns 147 V0 |>.ns 148 X0
 refine lC s q func57 (c_hier_decl n _ _ s.lt _ (Nat.le_of_ble_eq_true (by rfl)) _ (Nat.le_of_ble_eq_true (by rfl)) [] (none) (0) (SlR.nil_ _ _ _) _ E0) fun H2 a w hK hp s => ?_
 obtain ⟨y1, Z1, z1, a2, rfl, u2, Y0, Z0⟩ := hp
 replace s := s.ns 149 Y0 |>.ns 150 Z0
 refine lC s q func57 (c_hier_decl n _ _ s.lt _ (Nat.le_of_ble_eq_true (by rfl)) _ (Nat.le_of_ble_eq_true (by rfl)) [] (none) (0) (SlR.nil_ _ _ _) _ F0) fun I2 a w hK hp s => ?_
 obtain ⟨B1, b2, C1, c2, rfl, v2, a1, b1⟩ := hp
 replace s := s.ns 151 a1 |>.ns 152 b1
 refine lC s q func57 (c_hier_decl n _ _ s.lt _ (Nat.le_of_ble_eq_true (by rfl)) _ (Nat.le_of_ble_eq_true (by rfl)) [] (none) (0) (SlR.nil_ _ _ _) _ G0) fun J2 a w hK hp s => ?_
 obtain ⟨D1, d2, E1, e2, rfl, w2, c1, d1⟩ := hp
 replace s := s.ns 153 c1 |>.ns 154 d1
 refine lC s q func57 (c_hier_decl n _ _ s.lt _ (Nat.le_of_ble_eq_true (by rfl)) _ (Nat.le_of_ble_eq_true (by rfl)) [] (none) (0) (SlR.nil_ _ _ _) _ H0) fun K2 a w hK hp s => ?_
 obtain ⟨F1, g2, G1, h2, rfl, x2, e1, g1⟩ := hp
 refine S s<|nsw 155 e1<|nsw 156 g1<|yw q (y_build (parts := [(0, .const (vT ([76, 65, 66, 69, 76]))), (1, .const (vT ([104, 97, 110, 100, 108, 101])))]) (ps := [(0, vT ([76, 65, 66, 69, 76])), (1, vT ([104, 97, 110, 100, 108, 101]))]) (cells := #[vT ([76, 65, 66, 69, 76]), vT ([104, 97, 110, 100, 108, 101])]) · q (by kernel_rfl)) fun a s => ?_
 refine l_seq q (l_buildDense (sz := 2) s 1116 q q q u47 q q q q q q q fun o0 a w v0 hK s => ?_)
 clear v0
 replace s := s.add 157 (rdF RFeatDecl (cellsOfL [.agg #[_, _]]) ([(FeatDecl.mk [76, 65, 66, 69, 76] [104, 97, 110, 100, 108, 101])])) (RdAll.cons (by exact (RFeatDecl.mk' (x := (FeatDecl.mk [76, 65, 66, 69, 76] [104, 97, 110, 100, 108, 101])) (Nat.le_of_ble_eq_true (by rfl)) (Nat.le_of_ble_eq_true (by rfl)))) (rN))
 replace s := s.freeze (R := RFeatDecl) (kk := 1116) (L' := []) 158 q q (s.ft 157 q) trivial q
 refine lC s q func57 (c_hier_decl n _ _ s.lt _ (Nat.le_of_ble_eq_true (by rfl)) _ (Nat.le_of_ble_eq_true (by rfl)) [(FeatDecl.mk [76, 65, 66, 69, 76] [104, 97, 110, 100, 108, 101])] (some ⟨o0, 0, none⟩) (1) (s.ft 158 q) _ I0) fun L2 a w hK hp s => ?_
 obtain ⟨H1, i2, I1, j2, rfl, y2, h1, i1⟩ := hp
 refine S s<|nsw 159 h1<|nsw 160 i1<|yw q (y_build (parts := [(0, .const (vT ([72, 73, 71, 72]))), (1, .const (vT ([104, 97, 110, 100, 108, 101])))]) (ps := [(0, vT ([72, 73, 71, 72])), (1, vT ([104, 97, 110, 100, 108, 101]))]) (cells := #[vT ([72, 73, 71, 72]), vT ([104, 97, 110, 100, 108, 101])]) · q (by kernel_rfl))<|yw q (y_build (parts := [(0, .const (vT ([76, 79, 87]))), (1, .const (vT ([104, 97, 110, 100, 108, 101])))]) (ps := [(0, vT ([76, 79, 87])), (1, vT ([104, 97, 110, 100, 108, 101]))]) (cells := #[vT ([76, 79, 87]), vT ([104, 97, 110, 100, 108, 101])]) · q (by kernel_rfl)) fun a s => ?_
 refine l_seq q (l_buildDense (sz := 2) s 1120 q q q u47 q q q q q q q fun p0 a w x0 hK s => ?_)
 clear x0
 replace s := s.add 161 (rdF RFeatDecl (cellsOfL [.agg #[_, _], .agg #[_, _]]) ([(FeatDecl.mk [72, 73, 71, 72] [104, 97, 110, 100, 108, 101]), (FeatDecl.mk [76, 79, 87] [104, 97, 110, 100, 108, 101])])) (RdAll.cons (by exact (RFeatDecl.mk' (x := (FeatDecl.mk [72, 73, 71, 72] [104, 97, 110, 100, 108, 101])) (Nat.le_of_ble_eq_true (by rfl)) (Nat.le_of_ble_eq_true (by rfl)))) (RdAll.cons (by exact (RFeatDecl.mk' (x := (FeatDecl.mk [76, 79, 87] [104, 97, 110, 100, 108, 101])) (Nat.le_of_ble_eq_true (by rfl)) (Nat.le_of_ble_eq_true (by rfl)))) (rN)))
 replace s := s.freeze (R := RFeatDecl) (kk := 1120) (L' := []) 162 q q (s.ft 161 q) trivial q
 refine lC s q func57 (c_hier_decl n _ _ s.lt _ (Nat.le_of_ble_eq_true (by rfl)) _ (Nat.le_of_ble_eq_true (by rfl)) [(FeatDecl.mk [72, 73, 71, 72] [104, 97, 110, 100, 108, 101]), (FeatDecl.mk [76, 79, 87] [104, 97, 110, 100, 108, 101])] (some ⟨p0, 0, none⟩) (2) (s.ft 162 q) _ J0) fun M2 a w hK hp s => ?_
 obtain ⟨J1, k2, K1, l2, rfl, z2, j1, k1⟩ := hp
 refine S s<|nsw 163 j1<|nsw 164 k1<|yw q (y_build (parts := [(0, .const (vT ([84, 79, 80]))), (1, .const (vT ([104, 97, 110, 100, 108, 101])))]) (ps := [(0, vT ([84, 79, 80])), (1, vT ([104, 97, 110, 100, 108, 101]))]) (cells := #[vT ([84, 79, 80]), vT ([104, 97, 110, 100, 108, 101])]) · q (by kernel_rfl))<|yw q (y_build (parts := [(0, .const (vT ([73, 78, 68, 69, 88]))), (1, .const (vT ([105, 110, 100, 101, 120])))]) (ps := [(0, vT ([73, 78, 68, 69, 88])), (1, vT ([105, 110, 100, 101, 120]))]) (cells := #[vT ([73, 78, 68, 69, 88]), vT ([105, 110, 100, 101, 120])]) · q (by kernel_rfl))<|yw q (y_build (parts := [(0, .const (vT ([82, 69, 76, 83]))), (1, .const (vT ([100, 108, 105, 115, 116])))]) (ps := [(0, vT ([82, 69, 76, 83])), (1, vT ([100, 108, 105, 115, 116]))]) (cells := #[vT ([82, 69, 76, 83]), vT ([100, 108, 105, 115, 116])]) · q (by kernel_rfl))<|yw q (y_build (parts := [(0, .const (vT ([67, 79, 78, 83]))), (1, .const (vT ([100, 108, 105, 115, 116])))]) (ps := [(0, vT ([67, 79, 78, 83])), (1, vT ([100, 108, 105, 115, 116]))]) (cells := #[vT ([67, 79, 78, 83]), vT ([100, 108, 105, 115, 116])]) · q (by kernel_rfl)) fun a s => ?_
 refine l_seq q (l_buildDense (sz := 2) s 1126 q q q u47 q q q q q q q fun q0 a w y0 hK s => ?_)
 clear y0
 replace s := s.add 165 (rdF RFeatDecl (cellsOfL [.agg #[_, _], .agg #[_, _], .agg #[_, _], .agg #[_, _]]) ([(FeatDecl.mk [84, 79, 80] [104, 97, 110, 100, 108, 101]), (FeatDecl.mk [73, 78, 68, 69, 88] [105, 110, 100, 101, 120]), (FeatDecl.mk [82, 69, 76, 83] [100, 108, 105, 115, 116]), (FeatDecl.mk [67, 79, 78, 83] [100, 108, 105, 115, 116])])) (RdAll.cons (by exact (RFeatDecl.mk' (x := (FeatDecl.mk [84, 79, 80] [104, 97, 110, 100, 108, 101])) (Nat.le_of_ble_eq_true (by rfl)) (Nat.le_of_ble_eq_true (by rfl)))) (RdAll.cons (by exact (RFeatDecl.mk' (x := (FeatDecl.mk [73, 78, 68, 69, 88] [105, 110, 100, 101, 120])) (Nat.le_of_ble_eq_true (by rfl)) (Nat.le_of_ble_eq_true (by rfl)))) (RdAll.cons (by exact (RFeatDecl.mk' (x := (FeatDecl.mk [82, 69, 76, 83] [100, 108, 105, 115, 116])) (Nat.le_of_ble_eq_true (by rfl)) (Nat.le_of_ble_eq_true (by rfl)))) (RdAll.cons (by exact (RFeatDecl.mk' (x := (FeatDecl.mk [67, 79, 78, 83] [100, 108, 105, 115, 116])) (Nat.le_of_ble_eq_true (by rfl)) (Nat.le_of_ble_eq_true (by rfl)))) (rN)))))
 replace s := s.freeze (R := RFeatDecl) (kk := 1126) (L' := []) 166 q q (s.ft 165 q) trivial q
 refine lC s q func57 (c_hier_decl n _ _ s.lt _ (Nat.le_of_ble_eq_true (by rfl)) _ (Nat.le_of_ble_eq_true (by rfl)) [(FeatDecl.mk [84, 79, 80] [104, 97, 110, 100, 108, 101]), (FeatDecl.mk [73, 78, 68, 69, 88] [105, 110, 100, 101, 120]), (FeatDecl.mk [82, 69, 76, 83] [100, 108, 105, 115, 116]), (FeatDecl.mk [67, 79, 78, 83] [100, 108, 105, 115, 116])] (some ⟨q0, 0, none⟩) (4) (s.ft 166 q) _ K0) fun O2 a w hK hp s => ?_
 obtain ⟨L1, m2, M1, n2, rfl, B2, l1, m1⟩ := hp
 refine S s<|nsw 167 l1<|nsw 168 m1<|yw q (y_build (parts := [(0, .const (vT ([83, 69, 77]))), (1, .const (vT ([115, 101, 109])))]) (ps := [(0, vT ([83, 69, 77])), (1, vT ([115, 101, 109]))]) (cells := #[vT ([83, 69, 77]), vT ([115, 101, 109])]) · q (by kernel_rfl))<|yw q (y_build (parts := [(0, .const (vT ([65, 82, 71, 83]))), (1, .const (vT ([108, 105, 115, 116])))]) (ps := [(0, vT ([65, 82, 71, 83])), (1, vT ([108, 105, 115, 116]))]) (cells := #[vT ([65, 82, 71, 83]), vT ([108, 105, 115, 116])]) · q (by kernel_rfl)) fun a s => ?_
 refine l_seq q (l_buildDense (sz := 2) s 1130 q q q u47 q q q q q q q fun r0 a w z0 hK s => ?_)
 clear z0
 replace s := s.add 169 (rdF RFeatDecl (cellsOfL [.agg #[_, _], .agg #[_, _]]) ([(FeatDecl.mk [83, 69, 77] [115, 101, 109]), (FeatDecl.mk [65, 82, 71, 83] [108, 105, 115, 116])])) (RdAll.cons (by exact (RFeatDecl.mk' (x := (FeatDecl.mk [83, 69, 77] [115, 101, 109])) (Nat.le_of_ble_eq_true (by rfl)) (Nat.le_of_ble_eq_true (by rfl)))) (RdAll.cons (by exact (RFeatDecl.mk' (x := (FeatDecl.mk [65, 82, 71, 83] [108, 105, 115, 116])) (Nat.le_of_ble_eq_true (by rfl)) (Nat.le_of_ble_eq_true (by rfl)))) (rN)))
 replace s := s.freeze (R := RFeatDecl) (kk := 1130) (L' := []) 170 q q (s.ft 169 q) trivial q
 refine lC s q func57 (c_hier_decl n _ _ s.lt _ (Nat.le_of_ble_eq_true (by rfl)) _ (Nat.le_of_ble_eq_true (by rfl)) [(FeatDecl.mk [83, 69, 77] [115, 101, 109]), (FeatDecl.mk [65, 82, 71, 83] [108, 105, 115, 116])] (some ⟨r0, 0, none⟩) (2) (s.ft 170 q) _ L0) fun P2 a w hK hp s => ?_
 obtain ⟨O1, o2, P1, p2, rfl, C2, n1, o1⟩ := hp
 replace s := s.ns 171 n1 |>.ns 172 o1
 refine l_seq q (l_buildDense (sz := 3) s 1132 q q q u32 q q q q q q q fun s0 a w B0 hK s => ?_)
 clear B0
 refine S s<|aw q<|nw fun a s => ?_
 apply wp_ret
 obtain rfl := si hg
 refine fin1 (fn := Tryz.f31) s q (r_tmp s q) ?_
 replace s := s.add 173 (rdF RTypeDecl (cellsOfL [.agg #[_, _, _], .agg #[_, _, _], .agg #[_, _, _], .agg #[_, _, _], .agg #[_, _, _], .agg #[_, _, _], .agg #[_, _, _], .agg #[_, _, _], .agg #[_, _, _], .agg #[_, _, _], .agg #[_, _, _], .agg #[_, _, _], .agg #[_, _, _]]) ([(TypeDecl.mk [116, 111, 112] [] []), r1, r5, r8, c0, d0, e0, g0, h0, i0, j0, k0, l0])) (RdAll.cons (by exact (RTypeDecl.mk' (x := (TypeDecl.mk [116, 111, 112] [] [])) (Nat.le_of_ble_eq_true (by rfl)) (SlR.nil_ _ _ _) (SlR.nil_ _ _ _))) (RdAll.cons (by exact (RTypeDecl.mk' (x := r1) (by omega) (s.ft 137 q) (s.ft 138 q))) (RdAll.cons (by exact (RTypeDecl.mk' (x := r5) (by omega) (s.ft 141 q) (s.ft 142 q))) (RdAll.cons (by exact (RTypeDecl.mk' (x := r8) (by omega) (s.ft 143 q) (s.ft 144 q))) (RdAll.cons (by exact (RTypeDecl.mk' (x := c0) (by omega) (s.ft 147 q) (s.ft 148 q))) (RdAll.cons (by exact (RTypeDecl.mk' (x := d0) (by omega) (s.ft 149 q) (s.ft 150 q))) (RdAll.cons (by exact (RTypeDecl.mk' (x := e0) (by omega) (s.ft 151 q) (s.ft 152 q))) (RdAll.cons (by exact (RTypeDecl.mk' (x := g0) (by omega) (s.ft 153 q) (s.ft 154 q))) (RdAll.cons (by exact (RTypeDecl.mk' (x := h0) (by omega) (s.ft 155 q) (s.ft 156 q))) (RdAll.cons (by exact (RTypeDecl.mk' (x := i0) (by omega) (s.ft 159 q) (s.ft 160 q))) (RdAll.cons (by exact (RTypeDecl.mk' (x := j0) (by omega) (s.ft 163 q) (s.ft 164 q))) (RdAll.cons (by exact (RTypeDecl.mk' (x := k0) (by omega) (s.ft 167 q) (s.ft 168 q))) (RdAll.cons (by exact (RTypeDecl.mk' (x := l0) (by omega) (s.ft 171 q) (s.ft 172 q))) (rN))))))))))))))
 exact ⟨(some ⟨s0, 0, none⟩), (13), q, (s.rowOut (R := RTypeDecl) (kk := 1132) q q (s.ft 173 q))⟩
set_option maxHeartbeats 1000000 in
theorem c_module_Visible (n : Nat) (M : Bs) (w0 : World) (hM : ∀ b, M b → b < w0.heap.size) (t_ : (List Module)) (c0 : Option Addr) (d0 : Nat) (O2 : sR RModule M w0 c0 d0 t_) (t_' : (List UInt8)) (I3 : (t_').length ≤ 9223372036854775807) (r : (List (List UInt8))) (hg : module_Visible n t_ t_' = some r) :
    Calls Tryz.prog 15 [sl c0 t_ d0, vT t_'].toArray w0 (Ret noB w0 fun v w => ∃ (q1 : Option Addr), ∃ (t1 : Nat), v = sl q1 r t1 ∧ (SlR Rep.str M w q1 (r).length t1 (r))) := by
 unfold module_Visible at hg
 refine enter M noB func15 q q hM ?_
 intro a s
 obtain ⟨r1, X2, hg⟩ := bind_some hg
 refine S s<|esw 101 O2<|vw<|aw q<|nw<|vw<|aw q<|nw<|sw<|sw<|lw fun a s => ?_
 refine lC s q func31 (c_hier_Prelude n _ _ s.lt  _ X2) fun v4 a w hK hp s => ?_
 obtain ⟨s1, v1, rfl, h3⟩ := hp
 refine S s<|nsw 103 h3<|yw q (lS · q u32)<|mw q<|nw fun a s => ?_
 obtain ⟨k6, hg, D2⟩ := jn_some hg
 refine c_post (fun a w => ∃ (G0 : (List (List UInt8))) (A8 : Option Addr) (c9 : Nat) (h1 : List Value), k6 G0 = some r ∧ St (cx f15 M w0) [(0, sl c0 t_ d0), (1, vT (t_')), (5, sl A8 G0 c9)] [(700104, Ob.row (A8) ((G0).length) (c9) 9 1 (h1))] [(101, sF RModule c0 d0 t_), (105, rdF Rep.str (h1) (G0))] a w) ?_ ?_
 ·apply wp_block
  replace s := s.nilRow 700106 9 1 q
  replace s := s.add 107 (rdF Rep.str [] []) (rN)
  refine c_loop (σ := Nat) (fun m1 a w => ∃ (n0 : (List (List UInt8))) (s0 : Nat) (A12 : Option Addr) (b1 : Nat) (y0 : List Value), module_Visible_L0 n r1 k6 m1 n0 s0 = some r ∧ St (cx f15 M w0) [(0, sl c0 t_ d0), (1, vT (t_')), (5, sl A12 n0 b1), (16, sl s1 r1 v1), (17, vI ((((r1).length : Nat) : Int))), (18, vI (((s0 : Nat) : Int)))] [(700106, Ob.row (A12) ((n0).length) (b1) 9 1 (y0))] [(101, sF RModule c0 d0 t_), (103, sF RTypeDecl s1 v1 r1), (107, rdF Rep.str (y0) (n0))] a w) (fun m1 => m1) n ⟨([]), (0), (none), (0), ([]), hg, (s.sb q q q)⟩ ?_
  clear s a; rintro m1 a w ⟨n0, s0, A12, b1, y0, hg, s⟩
  rcases m1 with _ | m1
  ·rw [module_Visible_L0] at hg; cases hg
  rw [module_Visible_L0] at hg
  refine S s<|vw<|yw q (y_lssN (i := s0) (j := ((r1).length)) · q q)<|nw<|sw fun a s => c_dec s q (fun l1 => ?_) (fun l1 => ?_)
  ·replace hg := br_t hg l1
   have E3 := SlR.mx (s.ft 103 q)
   obtain ⟨l0, E1, hg⟩ := bind_some hg
   refine S s<|kw<|pw<|sw<|bw<|sw<|lw fun a s => ?_
   obtain ⟨R3, w2, G2, K2, B3, s2, o2⟩ := SlR.elemX (s.ft 103 q) E1
   refine qq s q (eL 3 s0 s u32 w2 (lt_of_get E1) q) fun a s => ?_
   obtain ⟨Q1, b2, R1, c2, rfl, L3, S2, T2⟩ := RTypeDecl.open s2
   refine S s<|nsw 110 S2<|nsw 111 T2<|yw q (y_ldp · q G2 K2 (by simpa using o2) u49 q q) fun a s => ?_
   refine l_seq q (l_alloc (zs := [vT ([]), nS, nS]) s 1402 q q q q fun v3 a w hb hK s => ?_)
   refine l_seq q (l_store (n := 3) (cs' := [vT l0.Name, sl Q1 l0.Supers b2, sl R1 l0.Feats c2]) s 1402 q q q q q q q q ?_); clear s; intro w hK s; clear hK
   obtain ⟨z1, hg⟩ := chk_some hg
   refine S s<|nw<|lw<|mw q<|yw q (bF 0 · u49 q)<|yw q (lB 1402 · u9 q) fun a s => ?_
   refine l_seq q (l_buildDense (sz := 1) s 1503 q q q u25 q q q q q q q fun w3 a w k2 hK s => ?_)
   clear k2
   replace s := s.add 114 (rdF Rep.str (cellsOfL [vT l0.Name]) ([l0.Name])) (RdAll.cons (by exact ⟨q, (by omega)⟩) (rN))
   have d3 := row_src (s.wd.holds 1503 _ q) (RdAll.one (s.ft 114 q))
   refine l_seq q (l_append (sz := 1) (by_ := 16) (N := (n0 ++ [l0.Name]).length) s 700106 q q q u25 q q q q q d3 (by rw [List.length_append]; try rfl) q (rmA z1 q) (rmB z1) q fun S1 d2 a w hA hK s => ?_)
   replace s := s.add 115 (rdF Rep.str (y0 ++ (cellsOfL [vT l0.Name])) (n0 ++ [l0.Name])) (RdAll.append (s.ft 107 q) (s.ft 114 q))
   refine asg s q q fun a s => ?_
   apply wO
   refine p_inN ?_
   refine S s<|pw<|lw<|yw q (y_addN (i := s0) (j := 1) · q q (in64.2 (by omega)))<|mw q<|nw<|alw 107 115 q fun a s => ?_
   exact ⟨m1, Nat.lt_succ_self _, ⟨(n0 ++ [l0.Name]), (s0 + 1), (S1), (d2), (y0 ++ (cellsOfL [vT l0.Name])), hg, (s.sb q q q)⟩⟩
  replace hg := br_f hg l1
  apply wp_exit
  refine p_then ?_
  refine p_then ?_
  refine p_in ?_
  apply pN
  replace s := s.al 105 107 q
  replace s := s.pk [(700104, 700106)] (by decide)
  exact ⟨(n0), (A12), (b1), (y0), hg, (s.sb q q q)⟩
 clear s a; rintro a w ⟨G0, A8, c9, h1, hg, s⟩
 subst D2
 obtain ⟨b0, a3, hg⟩ := bind_some hg
 refine S s<|sw<|sw<|lw<|mw q<|mw q fun a s => ?_
 refine lC s q func25 (c_module_needs n _ _ s.lt _ _ _ (s.ft 101 q) _ (by omega) _ a3) fun X3 a w hK hp s => ?_
 obtain ⟨j0, k0, rfl, g3⟩ := hp
 refine S s<|nsw 117 g3<|yw q (lS · q u25)<|mw q<|nw fun a s => ?_
 obtain ⟨H1, hg, B2⟩ := jn_some hg
 refine c_post (fun a w => ∃ (h0 : (List (List UInt8))) (A39 : Option Addr) (g0 : Nat) (Q0 : List Value), H1 h0 = some r ∧ St (cx f15 M w0) [(5, sl A39 h0 g0)] [(700118, Ob.row (A39) ((h0).length) (g0) 9 1 (Q0))] [(119, rdF Rep.str (Q0) (h0))] a w) ?_ ?_
 ·apply wp_block
  replace s := s.al 121 105 q
  replace s := s.pk [(700120, 700104)] (by decide)
  refine c_loop (σ := Nat) (fun m2 a w => ∃ (t0 : (List (List UInt8))) (i0 : Nat) (A43 : Option Addr) (P0 : Nat) (R0 : List Value), module_Visible_L1 n t_ b0 H1 m2 t0 i0 = some r ∧ St (cx f15 M w0) [(0, sl c0 t_ d0), (5, sl A43 t0 P0), (30, sl j0 b0 k0), (31, vI ((((b0).length : Nat) : Int))), (32, vI (((i0 : Nat) : Int)))] [(700120, Ob.row (A43) ((t0).length) (P0) 9 1 (R0))] [(101, sF RModule c0 d0 t_), (117, sF Rep.str j0 k0 b0), (121, rdF Rep.str (R0) (t0))] a w) (fun m2 => m2) n ⟨(G0), (0), (A8), (c9), (h1), hg, (s.sb q q q)⟩ ?_
  clear s a; rintro m2 a w ⟨t0, i0, A43, P0, R0, hg, s⟩
  rcases m2 with _ | m2
  ·rw [module_Visible_L1] at hg; cases hg
  rw [module_Visible_L1] at hg
  refine S s<|vw<|yw q (y_lssN (i := i0) (j := ((b0).length)) · q q)<|nw<|sw fun a s => c_dec s q (fun n1 => ?_) (fun n1 => ?_)
  ·replace hg := br_t hg n1
   have F3 := SlR.mx (s.ft 117 q)
   apply wp_skip
   apply pN
   apply wQ
   obtain ⟨I1, hg, C2⟩ := jn_some hg
   refine c_post (fun a w => ∃ (E0 : (List (List UInt8))) (A51 : Option Addr) (c1 : Nat) (i1 : List Value), I1 E0 = some r ∧ St (cx f15 M w0) [(0, sl c0 t_ d0), (5, sl A51 E0 c1), (30, sl j0 b0 k0), (31, vI ((((b0).length : Nat) : Int))), (32, vI (((i0 : Nat) : Int)))] [(700122, Ob.row (A51) ((E0).length) (c1) 9 1 (i1))] [(101, sF RModule c0 d0 t_), (117, sF Rep.str j0 k0 b0), (123, rdF Rep.str (i1) (E0))] a w) ?_ ?_
   ·obtain ⟨Z3, F1, hg⟩ := bind_some hg
    apply wp_block
    apply wQ
    apply wL
    obtain ⟨S3, x2, H2, L2, C3, t2, p2⟩ := SlR.elemX (s.ft 117 q) F1
    refine qq s q (eL 1 i0 s u25 x2 (lt_of_get F1) q) fun a s => ?_
    obtain ⟨rfl, M3⟩ := t2
    obtain ⟨a0, b3, hg⟩ := bind_some hg
    refine S s<|yw q (lP · H2 L2 (p2 0 _ q) u9 q)<|aw q<|nw<|sw<|lw<|mw q<|mw q fun a s => ?_
    refine lC s q func27 (c_module_find n _ _ s.lt _ _ _ (s.ft 101 q) _ (by omega) _ b3) fun Y3 a w hK hp s => ?_
    obtain ⟨I0, T0, x0, C0, q0, r0, J0, U0, K0, V0, L0, X0, M0, Y0, O0, Z0, H0, S0, rfl, P3, j3, k3, l3, n3, o3, p3, q3, r3, i3⟩ := hp
    refine S s<|nsw 133 j3<|nsw 134 k3<|nsw 135 l3<|nsw 136 n3<|nsw 137 o3<|nsw 138 p3<|nsw 139 q3<|nsw 140 r3<|nsw 141 i3<|mw q<|yw q (y_extract · q q)<|yw q (y_extract · q q) fun a s => ?_
    refine l_seq q (l_alloc (zs := [vT ([]), nS, nS, nS, nS, nS, nS, nS, nS, nS]) s 2006 q q q q fun a1 a w hb hK s => ?_)
    refine l_seq q (l_store (n := 10) (cs' := [vT a0.1.Name, sl I0 a0.1.Imports T0, sl x0 a0.1.Types C0, sl q0 a0.1.Templates r0, sl J0 a0.1.Entries U0, sl K0 a0.1.LexRules V0, sl L0 a0.1.Rules X0, sl M0 a0.1.Roots Y0, sl O0 a0.1.Checks Z0, sl H0 a0.1.Drops S0]) s 2006 q q q q q q q q ?_); clear s; intro w hK s; clear hK
    refine S s<|aw q<|nw<|sw<|vw<|yw q (bF 2 · u38 q)<|yw q (lB 2006 · u32 q)<|yw q (lS · q u32)<|mw q<|nw fun a s => ?_
    obtain ⟨J1, hg, E2⟩ := jn_some hg
    refine c_post (fun a w => ∃ (F0 : (List (List UInt8))) (A68 : Option Addr) (d1 : Nat) (j1 : List Value), J1 F0 = some r ∧ St (cx f15 M w0) [(0, sl c0 t_ d0), (5, sl A68 F0 d1), (10, vP a1 0), (30, sl j0 b0 k0), (31, vI ((((b0).length : Nat) : Int))), (32, vI (((i0 : Nat) : Int)))] [(2006, Ob.box a1 [vT a0.1.Name, sl I0 a0.1.Imports T0, sl x0 a0.1.Types C0, sl q0 a0.1.Templates r0, sl J0 a0.1.Entries U0, sl K0 a0.1.LexRules V0, sl L0 a0.1.Rules X0, sl M0 a0.1.Roots Y0, sl O0 a0.1.Checks Z0, sl H0 a0.1.Drops S0] 38), (700142, Ob.row (A68) ((F0).length) (d1) 9 1 (j1))] [(101, sF RModule c0 d0 t_), (117, sF Rep.str j0 k0 b0), (133, sF Rep.str I0 T0 a0.1.Imports), (134, sF RTypeDecl x0 C0 a0.1.Types), (135, sF RDef q0 r0 a0.1.Templates), (136, sF REntryDecl J0 U0 a0.1.Entries), (137, sF RLexDecl K0 V0 a0.1.LexRules), (138, sF RDef L0 X0 a0.1.Rules), (139, sF RDef M0 Y0 a0.1.Roots), (140, sF (Rep.list Rep.str) O0 Z0 a0.1.Checks), (141, sF Rep.str H0 S0 a0.1.Drops), (143, rdF Rep.str (j1) (F0))] a w) ?_ ?_
    ·apply wp_block
     replace s := s.al 145 121 q
     replace s := s.pk [(2006, 2006), (700144, 700120)] (by decide)
     refine c_loop (σ := Nat) (fun m3 a w => ∃ (o0 : (List (List UInt8))) (u0 : Nat) (A72 : Option Addr) (e1 : Nat) (z0 : List Value), module_Visible_L2 n a0 J1 m3 o0 u0 = some r ∧ St (cx f15 M w0) [(0, sl c0 t_ d0), (5, sl A72 o0 e1), (10, vP a1 0), (30, sl j0 b0 k0), (31, vI ((((b0).length : Nat) : Int))), (32, vI (((i0 : Nat) : Int))), (43, sl x0 a0.1.Types C0), (44, vI ((((a0.1.Types).length : Nat) : Int))), (45, vI (((u0 : Nat) : Int)))] [(2006, Ob.box a1 [vT a0.1.Name, sl I0 a0.1.Imports T0, sl x0 a0.1.Types C0, sl q0 a0.1.Templates r0, sl J0 a0.1.Entries U0, sl K0 a0.1.LexRules V0, sl L0 a0.1.Rules X0, sl M0 a0.1.Roots Y0, sl O0 a0.1.Checks Z0, sl H0 a0.1.Drops S0] 38), (700144, Ob.row (A72) ((o0).length) (e1) 9 1 (z0))] [(101, sF RModule c0 d0 t_), (117, sF Rep.str j0 k0 b0), (133, sF Rep.str I0 T0 a0.1.Imports), (134, sF RTypeDecl x0 C0 a0.1.Types), (135, sF RDef q0 r0 a0.1.Templates), (136, sF REntryDecl J0 U0 a0.1.Entries), (137, sF RLexDecl K0 V0 a0.1.LexRules), (138, sF RDef L0 X0 a0.1.Rules), (139, sF RDef M0 Y0 a0.1.Roots), (140, sF (Rep.list Rep.str) O0 Z0 a0.1.Checks), (141, sF Rep.str H0 S0 a0.1.Drops), (145, rdF Rep.str (z0) (o0))] a w) (fun m3 => m3) n ⟨(t0), (0), (A43), (P0), (R0), hg, (s.sb q q q)⟩ ?_
     clear s a; rintro m3 a w ⟨o0, u0, A72, e1, z0, hg, s⟩
     rcases m3 with _ | m3
     ·rw [module_Visible_L2] at hg; cases hg
     rw [module_Visible_L2] at hg
     refine S s<|vw<|yw q (y_lssN (i := u0) (j := ((a0.1.Types).length)) · q q)<|nw<|sw fun a s => c_dec s q (fun o1 => ?_) (fun o1 => ?_)
     ·replace hg := br_t hg o1
      have G3 := SlR.mx (s.ft 134 q)
      obtain ⟨m0, G1, hg⟩ := bind_some hg
      refine S s<|kw<|pw<|sw<|bw<|sw<|lw fun a s => ?_
      obtain ⟨T3, y2, I2, M2, D3, u2, q2⟩ := SlR.elemX (s.ft 134 q) G1
      refine qq s q (eL 3 u0 s u32 y2 (lt_of_get G1) q) fun a s => ?_
      obtain ⟨T1, e2, U1, g2, rfl, O3, U2, V2⟩ := RTypeDecl.open u2
      refine S s<|nsw 148 U2<|nsw 149 V2<|yw q (y_ldp · q I2 M2 (by simpa using q2) u49 q q) fun a s => ?_
      refine l_seq q (l_alloc (zs := [vT ([]), nS, nS]) s 2302 q q q q fun x3 a w hb hK s => ?_)
      refine l_seq q (l_store (n := 3) (cs' := [vT m0.Name, sl T1 m0.Supers e2, sl U1 m0.Feats g2]) s 2302 q q q q q q q q ?_); clear s; intro w hK s; clear hK
      obtain ⟨B1, hg⟩ := chk_some hg
      refine S s<|nw<|lw<|mw q<|yw q (bF 0 · u49 q)<|yw q (lB 2302 · u9 q) fun a s => ?_
      refine l_seq q (l_buildDense (sz := 1) s 2403 q q q u25 q q q q q q q fun y3 a w l2 hK s => ?_)
      clear l2
      replace s := s.add 152 (rdF Rep.str (cellsOfL [vT m0.Name]) ([m0.Name])) (RdAll.cons (by exact ⟨q, (by omega)⟩) (rN))
      have e3 := row_src (s.wd.holds 2403 _ q) (RdAll.one (s.ft 152 q))
      refine l_seq q (l_append (sz := 1) (by_ := 16) (N := (o0 ++ [m0.Name]).length) s 700144 q q q u25 q q q q q e3 (by rw [List.length_append]; try rfl) q (rmA B1 q) (rmB B1) q fun V1 h2 a w hA hK s => ?_)
      replace s := s.add 153 (rdF Rep.str (z0 ++ (cellsOfL [vT m0.Name])) (o0 ++ [m0.Name])) (RdAll.append (s.ft 145 q) (s.ft 152 q))
      refine asg s q q fun a s => ?_
      apply wO
      refine p_inN ?_
      refine S s<|pw<|lw<|yw q (y_addN (i := u0) (j := 1) · q q (in64.2 (by omega)))<|mw q<|nw<|alw 145 153 q fun a s => ?_
      exact ⟨m3, Nat.lt_succ_self _, ⟨(o0 ++ [m0.Name]), (u0 + 1), (V1), (h2), (z0 ++ (cellsOfL [vT m0.Name])), hg, (s.sb q q q)⟩⟩
     replace hg := br_f hg o1
     apply wp_exit
     refine p_then ?_
     refine p_then ?_
     refine p_in ?_
     apply pN
     replace s := s.al 143 145 q
     replace s := s.pk [(2006, 2006), (700142, 700144)] (by decide)
     exact ⟨(o0), (A72), (e1), (z0), hg, (s.sb q q q)⟩
    clear s a; rintro a w ⟨F0, A68, d1, j1, hg, s⟩
    subst E2
    refine S s<|vw<|yw q (bF 3 · u38 q)<|yw q (lB 2006 · u33 q)<|yw q (lS · q u33)<|mw q<|nw<|bw<|alw 155 143 q fun a s => ?_
    replace s := s.pk [(2006, 2006), (700154, 700142)] (by decide)
    refine c_loop (σ := Nat) (fun m4 a w => ∃ (p0 : (List (List UInt8))) (v0 : Nat) (A93 : Option Addr) (g1 : Nat) (B0 : List Value), module_Visible_L3 n I1 a0 m4 p0 v0 = some r ∧ St (cx f15 M w0) [(0, sl c0 t_ d0), (5, sl A93 p0 g1), (30, sl j0 b0 k0), (31, vI ((((b0).length : Nat) : Int))), (32, vI (((i0 : Nat) : Int))), (56, sl q0 a0.1.Templates r0), (57, vI ((((a0.1.Templates).length : Nat) : Int))), (58, vI (((v0 : Nat) : Int)))] [(700154, Ob.row (A93) ((p0).length) (g1) 9 1 (B0))] [(101, sF RModule c0 d0 t_), (117, sF Rep.str j0 k0 b0), (135, sF RDef q0 r0 a0.1.Templates), (155, rdF Rep.str (B0) (p0))] a w) (fun m4 => m4) n ⟨(F0), (0), (A68), (d1), (j1), hg, (s.sb q q q)⟩ ?_
    clear s a; rintro m4 a w ⟨p0, v0, A93, g1, B0, hg, s⟩
    rcases m4 with _ | m4
    ·rw [module_Visible_L3] at hg; cases hg
    rw [module_Visible_L3] at hg
    refine S s<|vw<|yw q (y_lssN (i := v0) (j := ((a0.1.Templates).length)) · q q)<|nw<|sw fun a s => c_dec s q (fun p1 => ?_) (fun p1 => ?_)
    ·replace hg := br_t hg p1
     have H3 := SlR.mx (s.ft 135 q)
     obtain ⟨e0, D1, hg⟩ := bind_some hg
     refine S s<|kw<|pw<|sw<|bw<|sw<|lw fun a s => ?_
     obtain ⟨Q3, v2, F2, J2, z3, r2, n2⟩ := SlR.elemX (s.ft 135 q) D1
     refine qq s q (eL 6 v0 s u33 v2 (lt_of_get D1) q) fun a s => ?_
     obtain ⟨L1, X1, M1, Y1, O1, Z1, rfl, J3, K3, P2, Q2, R2⟩ := RDef.open r2
     refine S s<|nsw 159 P2<|nsw 160 Q2<|nsw 161 R2<|yw q (y_ldp · q F2 J2 (by simpa using n2) u62 q q) fun a s => ?_
     refine l_seq q (l_alloc (zs := [vT ([]), vI 0, vT ([]), nS, nS, nS]) s 2802 q q q q fun s3 a w hb hK s => ?_)
     refine l_seq q (l_store (n := 6) (cs' := [vT e0.Name, vI e0.Strict.Op, vT e0.Strict.Name, sl L1 e0.Strict.Path X1, sl M1 e0.Strict.Kids Y1, sl O1 e0.Defaults Z1]) s 2802 q q q q q q q q ?_); clear s; intro w hK s; clear hK
     obtain ⟨z2, hg⟩ := chk_some hg
     obtain ⟨y1, hg⟩ := chk_some hg
     refine S s<|nw<|lw<|mw q<|yw q (bF 0 · u62 q)<|yw q (lB 2802 · u9 q)<|yw q (y_concat · q q z2) fun a s => ?_
     refine l_seq q (l_buildDense (sz := 1) s 2904 q q q u25 q q q q q q q fun t3 a w j2 hK s => ?_)
     clear j2
     replace s := s.add 164 (rdF Rep.str (cellsOfL [vT ([64] ++ e0.Name)]) ([[64] ++ e0.Name])) (RdAll.cons (by exact ⟨q, (by rw [List.length_append]; omega)⟩) (rN))
     have c3 := row_src (s.wd.holds 2904 _ q) (RdAll.one (s.ft 164 q))
     refine l_seq q (l_append (sz := 1) (by_ := 16) (N := (p0 ++ [[64] ++ e0.Name]).length) s 700154 q q q u25 q q q q q c3 (by simp only [List.length_append]; try rfl) q (rmA y1 q) (rmB y1) q fun P1 a2 a w hA hK s => ?_)
     replace s := s.add 165 (rdF Rep.str (B0 ++ (cellsOfL [vT ([64] ++ e0.Name)])) (p0 ++ [[64] ++ e0.Name])) (RdAll.append (s.ft 155 q) (s.ft 164 q))
     refine asg s q q fun a s => ?_
     apply wO
     refine p_inN ?_
     refine S s<|pw<|lw<|yw q (y_addN (i := v0) (j := 1) · q q (in64.2 (by omega)))<|mw q<|nw<|alw 155 165 q fun a s => ?_
     exact ⟨m4, Nat.lt_succ_self _, ⟨(p0 ++ [[64] ++ e0.Name]), (v0 + 1), (P1), (a2), (B0 ++ (cellsOfL [vT ([64] ++ e0.Name)])), hg, (s.sb q q q)⟩⟩
    replace hg := br_f hg p1
    apply wp_exit
    refine p_then ?_
    refine p_then ?_
    refine p_in ?_
    refine p_inN ?_
    apply pN
    replace s := s.al 123 155 q
    replace s := s.pk [(700122, 700154)] (by decide)
    exact ⟨(p0), (A93), (g1), (B0), hg, (s.sb q q q)⟩
   clear s a; rintro a w ⟨E0, A51, c1, i1, hg, s⟩
   subst C2
   refine S s<|lw<|yw q (y_addN (i := i0) (j := 1) · q q (in64.2 (by omega)))<|mw q<|nw<|alw 121 123 q fun a s => ?_
   replace s := s.pk [(700120, 700122)] (by decide)
   exact ⟨m2, Nat.lt_succ_self _, ⟨(E0), (i0 + 1), (A51), (c1), (i1), hg, (s.sb q q q)⟩⟩
  replace hg := br_f hg n1
  apply wp_exit
  refine p_then ?_
  refine p_then ?_
  refine p_in ?_
  apply pN
  replace s := s.al 119 121 q
  replace s := s.pk [(700118, 700120)] (by decide)
  exact ⟨(t0), (A43), (P0), (R0), hg, (s.sb q q q)⟩
 clear s a; rintro a w ⟨h0, A39, g0, Q0, hg, s⟩
 subst B2
 obtain ⟨D0, Y2, hg⟩ := bind_some hg
 refine S s<|sw<|lw<|mw q fun a s => ?_
 have hT := s.pk [(9200000, 700118)] (by decide)
 replace hT := hT.al 9300000 119 q
 refine l_seq q (l_callMut (cap := []) hT _ [] (sbA (by rfl)) trivial (by rfl) q func32 q (by kernel_rfl) q q (c_slices_Sort_string n _ _ (hT.restLt []) _ h0 (A39) (g0) (Q0) (hT.wd.lendL _ _ _ (sbA (by rfl)) (keep_sub []) (by rfl) (sbA (by rfl))) D0 Y2) ?_); intro U3 a' w' hK hp hF
 obtain ⟨csm0_0u118, rfl, w1⟩ := hp
 have k1 := St.mk hF (hT.wd.back (sbA (by rfl)) (keep_sub []) (by rfl) w1 (by rfl))
 clear s hT hF w1 hK; revert k1; revert w'; revert a'; intro a w s
 replace s := s.al 167 9300000 q
 replace s := s.ren [(700118, Ob.row (A39) ((h0).length) (g0) 9 1 (csm0_0u118))] [9200000] ⟨q, trivial⟩ (by decide)
 replace s := s.sub (l' := [(5, .slice (A39) ((h0).length) (g0)), (70, .slice (A39) ((h0).length) (g0)), (71, .tuple #[])]) (L' := [(700118, Ob.row (A39) ((h0).length) (g0) 9 1 (csm0_0u118))]) (D' := [(119, rdF Rep.str (Q0) (h0)), (167, rdF Rep.str (csm0_0u118) (D0))]) ⟨q, q, q, trivial⟩ ⟨q, trivial⟩ ⟨q, q, trivial⟩
 have C1 := rowN (s.wd.holds 700118 _ q) (s.ft 167 q) q q
 replace s := s.eqs (l' := [(5, .slice (A39) ((D0).length) (g0)), (70, .slice (A39) ((D0).length) (g0)), (71, .tuple #[])]) (L' := [(700118, Ob.row (A39) ((D0).length) (g0) 9 1 (csm0_0u118))]) (by simp only [C1]) (by simp only [C1])
 obtain ⟨K1, Z2, hg⟩ := bind_some hg
 refine S s<|nw<|sw<|lw<|mw q fun a s => ?_
 have hT := s.pk [(9200000, 700118)] (by decide)
 replace hT := hT.al 9300000 167 q
 refine l_seq q (l_callMut (cap := []) hT _ [] (sbA (by rfl)) trivial (by rfl) q func33 q (by kernel_rfl) q q (c_slices_Compact_string n _ _ (hT.restLt []) _ D0 (A39) (g0) (csm0_0u118) (hT.wd.lendL _ _ _ (sbA (by rfl)) (keep_sub []) (by rfl) (sbA (by rfl))) K1 Z2) ?_); intro V3 a' w' hK hp hF
 obtain ⟨Aou123, u1, i2, rfl, x1⟩ := hp
 have k1 := St.mk hF (hT.wd.back (sbA (by rfl)) (keep_sub []) (by rfl) x1 (by rfl))
 clear s hT hF x1 hK; revert k1; revert w'; revert a'; intro a w s
 replace s := s.al 169 9300000 q
 replace s := s.ren [(700118, Ob.row (Aou123) ((K1).length) (u1) 9 1 (i2))] [9200000] ⟨q, trivial⟩ (by decide)
 refine S s<|aw q<|nw fun a s => ?_
 apply wp_ret
 obtain rfl := si hg
 refine fin1 (fn := Tryz.f15) s q (r_tmp s q) ?_
 exact ⟨(Aou123), (u1), q, (s.rowOut (R := Rep.str) (kk := 700118) q q (s.ft 169 q))⟩
set_option maxHeartbeats 1000000 in
theorem c_slices_Concat_TypeDecl (n : Nat) (M : Bs) (w0 : World) (hM : ∀ b, M b → b < w0.heap.size) (slices_ : (List (List TypeDecl))) (a0 : Option Addr) (b0 : Nat) (T0 : sR (Rep.list RTypeDecl) M w0 a0 b0 slices_) (r : (List TypeDecl)) (hg : slices_Concat_TypeDecl n slices_ = some r) :
    Calls Tryz.prog 61 [sl a0 slices_ b0].toArray w0 (Ret noB w0 fun v w => ∃ (Ao : Option Addr), ∃ (co : Nat), ∃ (cso : List Value), v = sl Ao r co ∧ ((Ob.row Ao (r).length co 49 3 cso).holds w) ∧ (∀ b, (Ob.row Ao (r).length co 49 3 cso).ids b → w0.heap.size ≤ b) ∧ (RdAll RTypeDecl (fun b => M b ∨ (Ob.row Ao (r).length co 49 3 cso).ids b) w cso (r))) := by
 unfold slices_Concat_TypeDecl at hg
 refine enter M noB func61 q q hM ?_
 intro a s
 refine S s<|esw 101 T0<|vw<|aw q<|nw<|vw<|aw q<|nw<|sw<|vw<|mw q<|yw q (lS · q u132)<|mw q<|nw fun a s => ?_
 obtain ⟨k1, hg, I0⟩ := jn_some hg
 refine c_post (fun a w => ∃ (k0 : Nat), k1 k0 = some r ∧ St (cx f61 M w0) [(0, sl a0 slices_ b0), (3, vI (((k0 : Nat) : Int)))] [] [(101, sF (Rep.list RTypeDecl) a0 b0 slices_)] a w) ?_ ?_
 ·apply wp_block
  refine c_loop (σ := Nat) (fun m1 a w => ∃ (d0 : Nat) (g0 : Nat), slices_Concat_TypeDecl_L0 n slices_ k1 m1 d0 g0 = some r ∧ St (cx f61 M w0) [(0, sl a0 slices_ b0), (3, vI (((d0 : Nat) : Int))), (9, sl a0 slices_ b0), (10, vI ((((slices_).length : Nat) : Int))), (11, vI (((g0 : Nat) : Int)))] [] [(101, sF (Rep.list RTypeDecl) a0 b0 slices_)] a w) (fun m1 => m1) n ⟨(0), (0), hg, (s.sb q q q)⟩ ?_
  clear s a; rintro m1 a w ⟨d0, g0, hg, s⟩
  rcases m1 with _ | m1
  ·rw [slices_Concat_TypeDecl_L0] at hg; cases hg
  rw [slices_Concat_TypeDecl_L0] at hg
  refine S s<|vw<|yw q (y_lssN (i := g0) (j := ((slices_).length)) · q q)<|nw<|sw fun a s => c_dec s q (fun o0 => ?_) (fun o0 => ?_)
  ·replace hg := br_t hg o0
   have g1 := SlR.mx (s.ft 101 q)
   obtain ⟨x8, v0, hg⟩ := bind_some hg
   refine S s<|kw<|pw<|sw<|bw<|sw<|lw fun a s => ?_
   obtain ⟨j1, G0, J0, L0, b1, E0, C0⟩ := SlR.elemX (s.ft 101 q) v0
   refine qq s q (eL 1 g0 s u132 G0 (lt_of_get v0) q) fun a s => ?_
   obtain ⟨X0, h1, Z0, rfl, s0⟩ := E0
   obtain rfl := s0.len
   obtain ⟨d1, hg⟩ := chk_some hg
   refine S s<|nsw 103 s0<|yw q (lP · J0 L0 (C0 0 _ q) u32 q)<|aw q<|nw<|sw<|lw<|mw q<|mw q<|yw q (lS · q u32)<|yw q (y_addN (i := d0) (j := ((x8).length)) · q q (in64.2 (by omega)))<|aw q<|nw<|vw<|mw q<|yw q (y_lssN (i := (d0 + (x8).length)) (j := 0) · q q)<|nw fun a s => c_dec s q (fun m0 => ?_) (fun m0 => ?_)
   ·replace hg := br_t hg m0
    cases hg
   replace hg := br_f hg m0
   apply wp_skip
   refine p_inN ?_
   refine S s<|pw<|lw<|yw q (y_addN (i := g0) (j := 1) · q q (in64.2 (by omega)))<|mw q<|nw fun a s => ?_
   exact ⟨m1, Nat.lt_succ_self _, ⟨(d0 + (x8).length), (g0 + 1), hg, (s.sb q q q)⟩⟩
  replace hg := br_f hg o0
  apply wp_exit
  refine p_then ?_
  refine p_then ?_
  refine p_in ?_
  apply pN
  exact ⟨(d0), hg, (s.sb q q q)⟩
 clear s a; rintro a w ⟨k0, hg, s⟩
 subst I0
 obtain ⟨i0, U0, hg⟩ := bind_some hg
 refine S s<|sw<|lw<|mw q fun a s => ?_
 refine l_seq q (l_callOwn (cap := []) (post := (fun v ob w' => ∃ Ao co cso, ob = Ob.row Ao (i0).length co 49 3 cso ∧ v = sl Ao i0 co ∧ RdAll RTypeDecl (fun b => mtb _ _ b ∨ ob.ids b) w' cso (i0))) s 1901 q q func102 q (by kernel_rfl) q q ((c_slices_Grow_TypeDecl n _ _ s.lt ((k0 : Nat) : Int) i0 U0).mono (fun e w' h => by obtain ⟨v, he, hk, Ao, co, cso, hv, P0, Q0, R0⟩ := h; exact ⟨v, he, hk, _, P0, Q0, ⟨Ao, co, cso, q, hv, R0⟩⟩)) fun n1 ob a w hK hp s => ?_)
 obtain ⟨y0, B0, q0, rfl, rfl, S0⟩ := hp
 replace s := s.add 105 (rdF RTypeDecl q0 (i0)) (RdAll.up2 s S0)
 refine S s<|aw q<|nw<|sw<|vw<|mw q<|yw q (lS · q u132)<|mw q<|nw<|bw<|alw 107 105 q fun a s => ?_
 replace s := s.pk [(700106, 1901)] (by decide)
 refine c_loop (σ := Nat) (fun m2 a w => ∃ (c0 : (List TypeDecl)) (e0 : Nat) (A20 : Option Addr) (j0 : Nat) (h0 : List Value), slices_Concat_TypeDecl_L1 n slices_ m2 c0 e0 = some r ∧ St (cx f61 M w0) [(6, sl A20 c0 j0), (25, sl a0 slices_ b0), (26, vI ((((slices_).length : Nat) : Int))), (27, vI (((e0 : Nat) : Int)))] [(700106, Ob.row (A20) ((c0).length) (j0) 49 3 (h0))] [(101, sF (Rep.list RTypeDecl) a0 b0 slices_), (107, rdF RTypeDecl (h0) (c0))] a w) (fun m2 => m2) n ⟨(i0), (0), (y0), (B0), (q0), hg, (s.sb q q q)⟩ ?_
 clear s a; rintro m2 a w ⟨c0, e0, A20, j0, h0, hg, s⟩
 rcases m2 with _ | m2
 ·rw [slices_Concat_TypeDecl_L1] at hg; cases hg
 rw [slices_Concat_TypeDecl_L1] at hg
 refine S s<|vw<|yw q (y_lssN (i := e0) (j := ((slices_).length)) · q q)<|nw<|sw fun a s => c_dec s q (fun n0 => ?_) (fun n0 => ?_)
 ·replace hg := br_t hg n0
  have e1 := SlR.mx (s.ft 101 q)
  obtain ⟨l0, u0, hg⟩ := bind_some hg
  refine S s<|kw<|pw<|sw<|bw<|sw<|lw fun a s => ?_
  obtain ⟨l1, H0, K0, M0, c1, F0, D0⟩ := SlR.elemX (s.ft 101 q) u0
  refine qq s q (eL 1 e0 s u132 H0 (lt_of_get u0) q) fun a s => ?_
  obtain ⟨Y0, i1, a1, rfl, t0⟩ := F0
  obtain rfl := t0.len
  obtain ⟨r0, hg⟩ := chk_some hg
  refine S s<|nsw 109 t0<|yw q (lP · K0 M0 (D0 0 _ q) u32 q)<|aw q<|nw<|lw<|mw q<|mw q fun a s => ?_
  obtain ⟨p0, V0, O0⟩ := SlR.src (s.ft 109 q)
  replace s := s.add 112 (rdF RTypeDecl p0 (l0)) O0
  refine l_seq q (l_append (sz := 3) (by_ := 64) (N := (c0 ++ l0).length) s 700106 q q q u32 q q q q q V0 (by rw [List.length_append]; try rfl) q (rmA r0 q) (rmB r0) q fun x0 z0 a w hA hK s => ?_)
  replace s := s.add 113 (rdF RTypeDecl (h0 ++ p0) (c0 ++ l0)) (RdAll.append (s.ft 107 q) (s.ft 112 q))
  refine asg s q q fun a s => ?_
  apply wO
  refine p_inN ?_
  refine S s<|pw<|lw<|yw q (y_addN (i := e0) (j := 1) · q q (in64.2 (by omega)))<|mw q<|nw<|alw 107 113 q fun a s => ?_
  exact ⟨m2, Nat.lt_succ_self _, ⟨(c0 ++ l0), (e0 + 1), (x0), (z0), (h0 ++ p0), hg, (s.sb q q q)⟩⟩
 replace hg := br_f hg n0
 apply wp_exit
 refine p_then ?_
 refine p_then ?_
 refine p_in ?_
 refine S s<|pw<|vw<|mw q<|aw q<|nw fun a s => ?_
 apply wp_ret
 obtain rfl := si hg
 refine fin1 (fn := Tryz.f61) s q (r_tmp s q) ?_
 exact ⟨(A20), (j0), (h0), q, (s.wd.holds 700106 _ q), (row_new s (kk := 700106) q q), (RdAll.own s (kk := 700106) q (s.ft 107 q))⟩
set_option maxHeartbeats 1000000 in
theorem c_slices_Clone_string (n : Nat) (M : Bs) (w0 : World) (hM : ∀ b, M b → b < w0.heap.size) (s_ : (List (List UInt8))) (b0 : Option Addr) (c0 : Nat) (l0 : sR Rep.str M w0 b0 c0 s_) (r : (List (List UInt8))) (hg : slices_Clone_string n s_ = some r) :
    Calls Tryz.prog 105 [sl b0 s_ c0].toArray w0 (Ret noB w0 fun v w => ∃ (Ao : Option Addr), ∃ (co : Nat), ∃ (cso : List Value), v = sl Ao r co ∧ ((Ob.row Ao (r).length co 9 1 cso).holds w) ∧ (∀ b, (Ob.row Ao (r).length co 9 1 cso).ids b → w0.heap.size ≤ b) ∧ (RdAll Rep.str (fun b => M b ∨ (Ob.row Ao (r).length co 9 1 cso).ids b) w cso (r))) := by
 unfold slices_Clone_string at hg
 refine enter M noB func105 q q hM ?_
 intro a s
 refine S s<|esw 101 l0<|vw<|aw q<|nw<|sw<|vw<|mw q<|yw q (y_slnil · q q u25)<|nw fun a s => c_cond s q (fun d0 => ?_) (fun d0 => ?_)
 ·have hnil := SlR.nil0 (s.ft 101 q) (by simpa using d0)
  replace hg : (some []) = some r := by have h0 := hg; rw [hnil] at h0; simpa [chk] using h0
  refine S s<|vw<|aw q<|nw fun a s => ?_
  apply wp_ret
  refine p_thenR ?_
  obtain rfl := si hg
  refine fin1 (fn := Tryz.f105) s q (r_tmp s q) ?_
  exact ⟨none, 0, [], q, (World.ownsRow_nil _ 0 9 1), (fun b hb => by obtain ⟨p, hp, _⟩ := hb; cases hp), rN⟩
 obtain ⟨e0, hg⟩ := chk_some hg
 apply wp_skip
 apply pN
 apply wQ
 apply wL
 refine l_seq q (l_buildEmpty (sz := 1) s 1300 u25 q q q fun b6 a w j0 hK s => ?_)
 clear j0
 refine mv s q q fun a s => ?_
 replace s := s.add 105 (rdF Rep.str ([]) ([])) (rN)
 obtain ⟨a0, m0, k0⟩ := SlR.src (s.ft 101 q)
 replace s := s.add 106 (rdF Rep.str a0 (s_)) k0
 refine l_seq q (l_append (sz := 1) (by_ := 16) (N := (s_).length) (ys := a0) s 1300 q q q u25 q q q q q m0 (Nat.zero_add _) q (rmC e0 q) (rmD e0) q fun g0 i0 a w hA hK s => ?_)
 refine S s<|alw 107 106 q<|aw q<|nw fun a s => ?_
 apply wp_ret
 obtain rfl := si hg
 refine fin1 (fn := Tryz.f105) s q (r_tmp s q) ?_
 exact ⟨(g0), (i0), (a0), q, (s.wd.holds 1300 _ q), (row_new s (kk := 1300) q q), (RdAll.own s (kk := 1300) q (s.ft 107 q))⟩
set_option maxHeartbeats 1000000 in
theorem c_module_twice (n : Nat) (M : Bs) (w0 : World) (hM : ∀ b, M b → b < w0.heap.size) (l_ : (List (List UInt8))) (a0 : Option Addr) (b0 : Nat) (q0 : sR Rep.str M w0 a0 b0 l_) (r : Bool) (hg : module_twice n l_ = some r) :
    Calls Tryz.prog 62 [sl a0 l_ b0].toArray w0 (Ret noB w0 fun v w => v = .bool (r)) := by
 unfold module_twice at hg
 refine enter M noB func62 q q hM ?_
 intro a s
 obtain ⟨r3, t0, hg⟩ := bind_some hg
 refine S s<|esw 101 q0<|vw<|aw q<|nw<|sw<|lw<|mw q fun a s => ?_
 refine l_seq q (l_callOwn (cap := []) (post := (fun v ob w' => ∃ B, ob = Ob.box B [sl a0 l_ b0] 25 ∧ v = .func (.func 124) #[] #[vP B 0])) s 1101 q q func104 q (by kernel_rfl) q q (c_slicesValues _ _ _ _) fun v7 ob a w hK hp s => ?_)
 obtain ⟨b6, rfl, rfl⟩ := hp
 refine lC s q func103 (c_sortedValues n _ _ s.lt b6 a0 b0 l_ (s.wd.holds 1101 _ q) (s.ft 101 q) r3 t0) fun v8 a w hK hp s => ?_
 obtain ⟨v0, x0, rfl, u0⟩ := hp
 obtain ⟨c0, r0, hg⟩ := bind_some hg
 obtain ⟨d0, s0, hg⟩ := bind_some hg
 refine S s<|nsw 103 u0<|aw q<|nw<|sw<|lw<|mw q fun a s => ?_
 refine l_seq q (l_callOwn (cap := []) (post := (fun v ob w' => ∃ Ao co cso, ob = Ob.row Ao (c0).length co 9 1 cso ∧ v = sl Ao c0 co ∧ RdAll Rep.str (fun b => mtb _ _ b ∨ ob.ids b) w' cso (c0))) s 1201 q q func105 q (by kernel_rfl) q q ((c_slices_Clone_string n _ _ s.lt _ _ _ (s.ft 103 q) _ r0).mono (fun e w' h => by obtain ⟨v, he, hk, Ao, co, cso, hv, m0, n0, o0⟩ := h; exact ⟨v, he, hk, _, m0, n0, ⟨Ao, co, cso, q, hv, o0⟩⟩)) fun y0 ob a w hK hp s => ?_)
 obtain ⟨h0, k0, e0, rfl, rfl, p0⟩ := hp
 replace s := s.add 106 (rdF Rep.str e0 (c0)) (RdAll.up2 s p0)
 have hT := s.pk [(1101, 1101), (9200000, 1201)] (by decide)
 replace hT := hT.al 9300000 106 q
 refine l_seq q (l_callMut (cap := []) hT _ [] (sbA (by rfl)) trivial (by rfl) q func33 q (by kernel_rfl) q q (c_slices_Compact_string n _ _ (hT.restLt [1101]) _ c0 (h0) (k0) (e0) (hT.wd.lendL _ _ _ (sbA (by rfl)) (keep_sub [1101]) (by rfl) (sbA (by rfl))) d0 s0) ?_); intro z0 a' w' hK hp hF
 obtain ⟨Aou19, i0, j0, rfl, g0⟩ := hp
 have l0 := St.mk hF (hT.wd.back (sbA (by rfl)) (keep_sub [1101]) (by rfl) g0 (by rfl))
 clear s hT hF g0 hK; revert l0; revert w'; revert a'; intro a w s
 replace s := s.al 107 9300000 q
 replace s := s.ren [(1101, Ob.box b6 [sl a0 l_ b0] 25), (1201, Ob.row (Aou19) ((d0).length) (i0) 9 1 (j0))] [1101, 9200000] ⟨q, q, trivial⟩ (by decide)
 refine S s<|yw q (lS · q u25)<|mw q<|yw q (lS · q u25)<|yw q (y_lssN (i := ((d0).length)) (j := ((r3).length)) · q q)<|aw q<|nw fun a s => ?_
 apply wp_ret
 obtain rfl := si hg
 exact fin1 (fn := Tryz.f62) s q (r_tmp s q) q
set_option maxHeartbeats 1000000 in
theorem c_module_names (n : Nat) (M : Bs) (w0 : World) (hM : ∀ b, M b → b < w0.heap.size) (l_ : (List Def)) (c0 : Option Addr) (d0 : Nat) (z0 : sR RDef M w0 c0 d0 l_) (r : (List (List UInt8))) (hg : module_names n l_ = some r) :
    Calls Tryz.prog 63 [sl c0 l_ d0].toArray w0 (Ret noB w0 fun v w => ∃ (g0 : Option Addr), ∃ (h0 : Nat), v = sl g0 r h0 ∧ (SlR Rep.str M w g0 (r).length h0 (r))) := by
 unfold module_names at hg
 refine enter M noB func63 q q hM ?_
 intro a s
 refine S s<|esw 101 z0<|vw<|aw q<|nw<|vw<|aw q<|nw<|sw<|vw<|mw q<|yw q (lS · q u33)<|mw q<|nw<|bw fun a s => ?_
 replace s := s.nilRow 700102 9 1 q
 replace s := s.add 103 (rdF Rep.str [] []) (rN)
 refine c_loop (σ := Nat) (fun m1 a w => ∃ (out_1 : (List (List UInt8))) (a0 : Nat) (A2 : Option Addr) (c3 : Nat) (b0 : List Value), module_names_L0 n l_ m1 out_1 a0 = some r ∧ St (cx f63 M w0) [(3, sl A2 out_1 c3), (6, sl c0 l_ d0), (7, vI ((((l_).length : Nat) : Int))), (8, vI (((a0 : Nat) : Int)))] [(700102, Ob.row (A2) ((out_1).length) (c3) 9 1 (b0))] [(101, sF RDef c0 d0 l_), (103, rdF Rep.str (b0) (out_1))] a w) (fun m1 => m1) n ⟨([]), (0), (none), (0), ([]), hg, (s.sb q q q)⟩ ?_
 clear s a; rintro m1 a w ⟨out_1, a0, A2, c3, b0, hg, s⟩
 rcases m1 with _ | m1
 ·rw [module_names_L0] at hg; cases hg
 rw [module_names_L0] at hg
 refine S s<|vw<|yw q (y_lssN (i := a0) (j := ((l_).length)) · q q)<|nw<|sw fun a s => c_dec s q (fun e0 => ?_) (fun e0 => ?_)
 ·replace hg := br_t hg e0
  have I0 := SlR.mx (s.ft 101 q)
  obtain ⟨x9, j0, hg⟩ := bind_some hg
  refine S s<|kw<|pw<|sw<|bw<|sw<|lw fun a s => ?_
  obtain ⟨L0, v0, x0, y0, H0, u0, t0⟩ := SlR.elemX (s.ft 101 q) j0
  refine qq s q (eL 6 a0 s u33 v0 (lt_of_get j0) q) fun a s => ?_
  obtain ⟨k0, o0, l0, p0, m0, q0, rfl, J0, K0, B0, C0, D0⟩ := RDef.open u0
  refine S s<|nsw 107 B0<|nsw 108 C0<|nsw 109 D0<|yw q (y_ldp · q x0 y0 (by simpa using t0) u62 q q) fun a s => ?_
  refine l_seq q (l_alloc (zs := [vT ([]), vI 0, vT ([]), nS, nS, nS]) s 1402 q q q q fun F0 a w hb hK s => ?_)
  refine l_seq q (l_store (n := 6) (cs' := [vT x9.Name, vI x9.Strict.Op, vT x9.Strict.Name, sl k0 x9.Strict.Path o0, sl l0 x9.Strict.Kids p0, sl m0 x9.Defaults q0]) s 1402 q q q q q q q q ?_); clear s; intro w hK s; clear hK
  obtain ⟨i0, hg⟩ := chk_some hg
  refine S s<|nw<|lw<|mw q<|yw q (bF 0 · u62 q)<|yw q (lB 1402 · u9 q) fun a s => ?_
  refine l_seq q (l_buildDense (sz := 1) s 1503 q q q u25 q q q q q q q fun G0 a w s0 hK s => ?_)
  clear s0
  replace s := s.add 112 (rdF Rep.str (cellsOfL [vT x9.Name]) ([x9.Name])) (RdAll.cons (by exact ⟨q, (by omega)⟩) (rN))
  have E0 := row_src (s.wd.holds 1503 _ q) (RdAll.one (s.ft 112 q))
  refine l_seq q (l_append (sz := 1) (by_ := 16) (N := (out_1 ++ [x9.Name]).length) s 700102 q q q u25 q q q q q E0 (by rw [List.length_append]; try rfl) q (rmA i0 q) (rmB i0) q fun n0 r0 a w hA hK s => ?_)
  replace s := s.add 113 (rdF Rep.str (b0 ++ (cellsOfL [vT x9.Name])) (out_1 ++ [x9.Name])) (RdAll.append (s.ft 103 q) (s.ft 112 q))
  refine asg s q q fun a s => ?_
  apply wO
  refine p_inN ?_
  refine S s<|pw<|lw<|yw q (y_addN (i := a0) (j := 1) · q q (in64.2 (by omega)))<|mw q<|nw<|alw 103 113 q fun a s => ?_
  exact ⟨m1, Nat.lt_succ_self _, ⟨(out_1 ++ [x9.Name]), (a0 + 1), (n0), (r0), (b0 ++ (cellsOfL [vT x9.Name])), hg, (s.sb q q q)⟩⟩
 replace hg := br_f hg e0
 apply wp_exit
 refine p_then ?_
 refine p_then ?_
 refine p_in ?_
 refine S s<|pw<|vw<|mw q<|aw q<|nw fun a s => ?_
 apply wp_ret
 obtain rfl := si hg
 refine fin1 (fn := Tryz.f63) s q (r_tmp s q) ?_
 exact ⟨(A2), (c3), q, (s.rowOut (R := Rep.str) (kk := 700102) q q (s.ft 103 q))⟩
set_option maxHeartbeats 1000000 in
theorem c_module_repeats (n : Nat) (M : Bs) (w0 : World) (hM : ∀ b, M b → b < w0.heap.size) (t_ : Module) (G0 : Option Addr) (R0 : Nat) (v0 : Option Addr) (z0 : Nat) (H0 : Option Addr) (S0 : Nat) (x0 : Option Addr) (B0 : Nat) (y0 : Option Addr) (C0 : Nat) (I0 : Option Addr) (T0 : Nat) (J0 : Option Addr) (U0 : Nat) (K0 : Option Addr) (V0 : Nat) (F0 : Option Addr) (Q0 : Nat) (i4 : (t_.Name).length ≤ 9223372036854775807) (J2 : sR Rep.str M w0 G0 R0 t_.Imports) (K2 : sR RTypeDecl M w0 v0 z0 t_.Types) (L2 : sR RDef M w0 H0 S0 t_.Templates) (M2 : sR REntryDecl M w0 x0 B0 t_.Entries) (O2 : sR RLexDecl M w0 y0 C0 t_.LexRules) (P2 : sR RDef M w0 I0 T0 t_.Rules) (Q2 : sR RDef M w0 J0 U0 t_.Roots) (R2 : sR (Rep.list Rep.str) M w0 K0 V0 t_.Checks) (I2 : sR Rep.str M w0 F0 Q0 t_.Drops) (r : Bool) (hg : module_repeats n t_ = some r) :
    Calls Tryz.prog 36 [.agg #[vT t_.Name, sl G0 t_.Imports R0, sl v0 t_.Types z0, sl H0 t_.Templates S0, sl x0 t_.Entries B0, sl y0 t_.LexRules C0, sl I0 t_.Rules T0, sl J0 t_.Roots U0, sl K0 t_.Checks V0, sl F0 t_.Drops Q0]].toArray w0 (Ret noB w0 fun v w => v = .bool (r)) := by
 unfold module_repeats at hg
 refine enter M noB func36 q q hM ?_
 intro a s
 let F : Al Fact := [(101, sF Rep.str G0 R0 t_.Imports), (102, sF RTypeDecl v0 z0 t_.Types), (103, sF RDef H0 S0 t_.Templates), (104, sF REntryDecl x0 B0 t_.Entries), (105, sF RLexDecl y0 C0 t_.LexRules), (106, sF RDef I0 T0 t_.Rules), (107, sF RDef J0 U0 t_.Roots), (108, sF (Rep.list Rep.str) K0 V0 t_.Checks), (109, sF Rep.str F0 Q0 t_.Drops)]
 let B : List Value := [vT t_.Name, sl G0 t_.Imports R0, sl v0 t_.Types z0, sl H0 t_.Templates S0, sl x0 t_.Entries B0, sl y0 t_.LexRules C0, sl I0 t_.Rules T0, sl J0 t_.Roots U0, sl K0 t_.Checks V0, sl F0 t_.Drops Q0]
 refine S s<|esw 101 J2<|esw 102 K2<|esw 103 L2<|esw 104 M2<|esw 105 O2<|esw 106 P2<|esw 107 Q2<|esw 108 R2<|esw 109 I2<|vw fun a s => ?_
 refine l_seq q (l_box (zs := B) s 1000 q q q q fun b2 a w hb hK s => ?_)
 obtain ⟨r3, d3, hg⟩ := bind_some hg
 obtain ⟨r7, e3, hg⟩ := bind_some hg
 refine S s<|aw q<|nw<|vw<|aw q<|aw q<|nw<|sw<|sw fun a s => ?_
 refine d_plan s [] [(1, some 0), (2, some 1000), (6, some 0), (0, none), (3, none), (4, none), (5, none)] q (by kernel_rfl) (by kernel_rfl) q ?_; clear s; intro wr hZ s; have hR := s.wd
 refine S s<|qw hR q (bF 2 · u38 q)<|qw hR q (lB 1000 · u32 q)<|qw hR q (mo · q) fun a s => ?_
 refine l_take s q q (l_call (cap := []) s q func31 q (by kernel_rfl) q q (c_hier_Prelude n _ _ s.lt  _ d3) fun t4 a w hK hp s => ?_)
 refine gz hZ hK fun hZ => ?_; clear hK
 obtain ⟨R1, h2, rfl, n3⟩ := hp
 replace s := s.ns 114 n3
 refine l_take s q q (l_buildDense (sz := 1) s 1203 q q q u132 q q q q q q q fun S1 a w q1 hK s => ?_)
 have d4 := NewA.lit hZ q1
 clear q1
 refine gz hZ hK fun hZ => ?_; clear hK
 replace s := s.add 115 (rdF (Rep.list RTypeDecl) (cellsOfL [sl R1 r3 h2, sl v0 t_.Types z0]) ([r3, t_.Types])) (RdAll.cons (by exact ⟨_, _, _, q, (s.ft 114 q)⟩) (RdAll.cons (by exact ⟨_, _, _, q, (s.ft 102 q)⟩) (rN)))
 replace s := s.freeze (R := (Rep.list RTypeDecl)) (kk := 1203) (L' := [(1000, Ob.box b2 B 38)]) 116 q q (s.ft 115 q) ⟨q, trivial⟩ q
 refine l_take s q q (l_callOwn (cap := []) (post := (fun v ob w' => ∃ Ao co cso, ob = Ob.row Ao (r7).length co 49 3 cso ∧ v = sl Ao r7 co ∧ RdAll RTypeDecl (fun b => mtb _ _ b ∨ ob.ids b) w' cso (r7))) s 1204 q q func61 q (by kernel_rfl) q q ((c_slices_Concat_TypeDecl n _ _ s.lt [r3, t_.Types] (some ⟨S1, 0, none⟩) (2) (s.ft 116 q) _ e3).mono (fun e w' h => by obtain ⟨v, he, hk, Ao, co, cso, hv, E2, F2, G2⟩ := h; exact ⟨v, he, hk, _, E2, F2, ⟨Ao, co, cso, q, hv, G2⟩⟩)) fun E4 ob a w hK hp s => ?_)
 obtain ⟨i1, l1, b1, rfl, rfl, H2⟩ := hp
 refine gz hZ hK fun hZ => ?_; clear hK
 replace s := s.add 117 (rdF RTypeDecl b1 (r7)) (RdAll.up2 s H2)
 refine S s<|tw q (lS · q u32) fun a s => ?_
 clear hR hZ
 apply pN
 obtain ⟨z1, hg, u2⟩ := jn_some hg
 refine c_post (fun a w => ∃ (a0 : (List (List UInt8))) (A17 : Option Addr) (e0 : Nat) (g0 : List Value), z1 a0 = some r ∧ St (cx f36 M w0) [(1, vP b2 0), (3, sl A17 a0 e0), (4, nS)] [(1000, Ob.box b2 B 38), (700118, Ob.row (A17) ((a0).length) (e0) 9 1 (g0))] (F ++ [(119, rdF Rep.str (g0) (a0))]) a w) ?_ ?_
 ·apply wp_block
  replace s := s.nilRow 700120 9 1 q
  replace s := s.add 121 (rdF Rep.str [] []) (rN)
  refine c_loop (σ := Nat) (fun m1 a w => ∃ (h0 : (List (List UInt8))) (m0 : Nat) (A21 : Option Addr) (L0 : Nat) (p0 : List Value), module_repeats_L0 n r7 z1 m1 h0 m0 = some r ∧ St (cx f36 M w0) [(1, vP b2 0), (3, sl A21 h0 L0), (4, nS), (15, sl i1 r7 l1), (16, vI ((((r7).length : Nat) : Int))), (17, vI (((m0 : Nat) : Int)))] [(1000, Ob.box b2 B 38), (1204, Ob.row (i1) ((r7).length) (l1) 49 3 (b1)), (700120, Ob.row (A21) ((h0).length) (L0) 9 1 (p0))] (F ++ [(117, rdF RTypeDecl (b1) (r7)), (121, rdF Rep.str (p0) (h0))]) a w) (fun m1 => m1) n ⟨([]), (0), (none), (0), ([]), hg, (s.sb q q q)⟩ ?_
  clear s a; rintro m1 a w ⟨h0, m0, A21, L0, p0, hg, s⟩
  rcases m1 with _ | m1
  ·rw [module_repeats_L0] at hg; cases hg
  rw [module_repeats_L0] at hg
  refine S s<|vw<|yw q (y_lssN (i := m0) (j := ((r7).length)) · q q)<|nw<|sw fun a s => c_dec s q (fun c1 => ?_) (fun c1 => ?_)
  ·replace hg := br_t hg c1
   have e4 := row_mx (s.wd.holds 1204 _ q)
   obtain ⟨d0, w1, hg⟩ := bind_some hg
   refine S s<|kw<|pw<|sw<|bw<|sw<|lw fun a s => ?_
   obtain ⟨t2, R3, p1⟩ := SlR.row1 (s.wd.holds 1204 _ q) (s.ft 117 q) q q w1
   refine qq s q (y_rowIndex (sz := 3) (i := m0) s q q u32 q p1 q t2) fun a s => ?_
   have v3 := (s.ft 117 q).at_ _ _ w1
   obtain ⟨j1, n1, k1, o1, i2, n4, w3, x3⟩ := RTypeDecl.open v3
   refine S s<|nsw 124 w3<|nsw 125 x3<|yw q (y_loadRow (kk := 1204) (vs := [vT d0.Name, sl j1 d0.Supers n1, sl k1 d0.Feats o1]) · q q p1 i2 u49 q q) fun a s => ?_
   refine l_seq q (l_alloc (zs := [vT ([]), nS, nS]) s 1402 q q q q fun K3 a w hb hK s => ?_)
   refine l_seq q (l_store (n := 3) (cs' := [vT d0.Name, sl j1 d0.Supers n1, sl k1 d0.Feats o1]) s 1402 q q q q q q q q ?_); clear s; intro w hK s; clear hK
   obtain ⟨r1, hg⟩ := chk_some hg
   refine S s<|nw<|lw<|mw q<|yw q (bF 0 · u49 q)<|yw q (lB 1402 · u9 q) fun a s => ?_
   refine l_seq q (l_buildDense (sz := 1) s 1503 q q q u25 q q q q q q q fun L3 a w j2 hK s => ?_)
   clear j2
   replace s := s.add 128 (rdF Rep.str (cellsOfL [vT d0.Name]) ([d0.Name])) (RdAll.cons (by exact ⟨q, (by omega)⟩) (rN))
   have i3 := row_src (s.wd.holds 1503 _ q) (RdAll.one (s.ft 128 q))
   refine l_seq q (l_append (sz := 1) (by_ := 16) (N := (h0 ++ [d0.Name]).length) s 700120 q q q u25 q q q q q i3 (by rw [List.length_append]; try rfl) q (rmA r1 q) (rmB r1) q fun F1 T1 a w hA hK s => ?_)
   replace s := s.add 129 (rdF Rep.str (p0 ++ (cellsOfL [vT d0.Name])) (h0 ++ [d0.Name])) (RdAll.append (s.ft 121 q) (s.ft 128 q))
   refine asg s q q fun a s => ?_
   apply wO
   refine p_inN ?_
   refine S s<|pw<|lw<|yw q (y_addN (i := m0) (j := 1) · q q (in64.2 (by omega)))<|mw q<|nw<|alw 121 129 q fun a s => ?_
   exact ⟨m1, Nat.lt_succ_self _, ⟨(h0 ++ [d0.Name]), (m0 + 1), (F1), (T1), (p0 ++ (cellsOfL [vT d0.Name])), hg, (s.sb q q q)⟩⟩
  replace hg := br_f hg c1
  apply wp_exit
  refine p_then ?_
  refine p_then ?_
  refine p_in ?_
  apply pN
  replace s := s.al 119 121 q
  replace s := s.pk [(1000, 1000), (1204, 1204), (700118, 700120)] (by decide)
  exact ⟨(h0), (A21), (L0), (p0), hg, (s.sb q q q)⟩
 clear s a; rintro a w ⟨a0, A17, e0, g0, hg, s⟩
 subst u2
 refine S s<|sw<|vw<|yw q (bF 4 · u38 q)<|yw q (lB 1000 · u34 q)<|yw q (lS · q u34)<|mw q<|nw fun a s => ?_
 obtain ⟨B1, hg, v2⟩ := jn_some hg
 refine c_post (fun a w => ∃ (u0 : (List (List UInt8))) (A43 : Option Addr) (M0 : Nat) (X0 : List Value), B1 u0 = some r ∧ St (cx f36 M w0) [(1, vP b2 0), (3, sl A17 a0 e0), (4, sl A43 u0 M0)] [(1000, Ob.box b2 B 38), (700118, Ob.row (A17) ((a0).length) (e0) 9 1 (g0)), (700130, Ob.row (A43) ((u0).length) (M0) 9 1 (X0))] (F ++ [(119, rdF Rep.str (g0) (a0)), (131, rdF Rep.str (X0) (u0))]) a w) ?_ ?_
 ·apply wp_block
  replace s := s.nilRow 700132 9 1 q
  replace s := s.add 133 (rdF Rep.str [] []) (rN)
  refine c_loop (σ := Nat) (fun m2 a w => ∃ (i0 : (List (List UInt8))) (n0 : Nat) (A47 : Option Addr) (O0 : Nat) (q0 : List Value), module_repeats_L1 n t_ B1 m2 i0 n0 = some r ∧ St (cx f36 M w0) [(1, vP b2 0), (3, sl A17 a0 e0), (4, sl A47 i0 O0), (28, sl x0 t_.Entries B0), (29, vI ((((t_.Entries).length : Nat) : Int))), (30, vI (((n0 : Nat) : Int)))] [(1000, Ob.box b2 B 38), (700118, Ob.row (A17) ((a0).length) (e0) 9 1 (g0)), (700132, Ob.row (A47) ((i0).length) (O0) 9 1 (q0))] (F ++ [(119, rdF Rep.str (g0) (a0)), (133, rdF Rep.str (q0) (i0))]) a w) (fun m2 => m2) n ⟨([]), (0), (none), (0), ([]), hg, (s.sb q q q)⟩ ?_
  clear s a; rintro m2 a w ⟨i0, n0, A47, O0, q0, hg, s⟩
  rcases m2 with _ | m2
  ·rw [module_repeats_L1] at hg; cases hg
  rw [module_repeats_L1] at hg
  refine S s<|vw<|yw q (y_lssN (i := n0) (j := ((t_.Entries).length)) · q q)<|nw<|sw fun a s => c_dec s q (fun d1 => ?_) (fun d1 => ?_)
  ·replace hg := br_t hg d1
   have g4 := SlR.mx (s.ft 104 q)
   obtain ⟨c0, x1, hg⟩ := bind_some hg
   refine S s<|kw<|pw<|sw<|bw<|sw<|lw fun a s => ?_
   obtain ⟨o4, r2, x2, z2, U3, p2, n2⟩ := SlR.elemX (s.ft 104 q) x1
   refine qq s q (eL 7 n0 s u34 r2 (lt_of_get x1) q) fun a s => ?_
   obtain ⟨G1, U1, H1, V1, I1, X1, J1, Y1, rfl, S2, j4, k4, T2, U2, V2⟩ := REntryDecl.open p2
   refine S s<|nsw 138 S2<|nsw 139 T2<|nsw 140 U2<|nsw 141 V2<|yw q (y_ldp · q x2 z2 (by simpa using n2) u89 q q) fun a s => ?_
   refine l_seq q (l_alloc (zs := [nS, vT ([]), vI 0, vT ([]), nS, nS, nS]) s 1902 q q q q fun M3 a w hb hK s => ?_)
   refine l_seq q (l_store (n := 7) (cs' := [sl G1 c0.Words U1, vT c0.Def.Name, vI c0.Def.Strict.Op, vT c0.Def.Strict.Name, sl H1 c0.Def.Strict.Path V1, sl I1 c0.Def.Strict.Kids X1, sl J1 c0.Def.Defaults Y1]) s 1902 q q q q q q q q ?_); clear s; intro w hK s; clear hK
   obtain ⟨s1, hg⟩ := chk_some hg
   refine S s<|nw<|lw<|mw q<|yw q (bF 1 · u89 q)<|yw q (bF 1 · u62 q)<|yw q (lB 1902 · u9 q) fun a s => ?_
   refine l_seq q (l_buildDense (sz := 1) s 2004 q q q u25 q q q q q q q fun O3 a w k2 hK s => ?_)
   clear k2
   replace s := s.add 144 (rdF Rep.str (cellsOfL [vT c0.Def.Name]) ([c0.Def.Name])) (RdAll.cons (by exact ⟨q, (by omega)⟩) (rN))
   have j3 := row_src (s.wd.holds 2004 _ q) (RdAll.one (s.ft 144 q))
   refine l_seq q (l_append (sz := 1) (by_ := 16) (N := (i0 ++ [c0.Def.Name]).length) s 700132 q q q u25 q q q q q j3 (by rw [List.length_append]; try rfl) q (rmA s1 q) (rmB s1) q fun K1 Z1 a w hA hK s => ?_)
   replace s := s.add 145 (rdF Rep.str (q0 ++ (cellsOfL [vT c0.Def.Name])) (i0 ++ [c0.Def.Name])) (RdAll.append (s.ft 133 q) (s.ft 144 q))
   refine asg s q q fun a s => ?_
   apply wO
   refine p_inN ?_
   refine S s<|pw<|lw<|yw q (y_addN (i := n0) (j := 1) · q q (in64.2 (by omega)))<|mw q<|nw<|alw 133 145 q fun a s => ?_
   exact ⟨m2, Nat.lt_succ_self _, ⟨(i0 ++ [c0.Def.Name]), (n0 + 1), (K1), (Z1), (q0 ++ (cellsOfL [vT c0.Def.Name])), hg, (s.sb q q q)⟩⟩
  replace hg := br_f hg d1
  apply wp_exit
  refine p_then ?_
  refine p_then ?_
  refine p_in ?_
  apply pN
  replace s := s.al 131 133 q
  replace s := s.pk [(1000, 1000), (700118, 700118), (700130, 700132)] (by decide)
  exact ⟨(i0), (A47), (O0), (q0), hg, (s.sb q q q)⟩
 clear s a; rintro a w ⟨u0, A43, M0, X0, hg, s⟩
 subst v2
 refine S s<|sw<|vw<|yw q (bF 5 · u38 q)<|yw q (lB 1000 · u35 q)<|yw q (lS · q u35)<|mw q<|nw fun a s => ?_
 obtain ⟨C1, hg, w2⟩ := jn_some hg
 refine c_post (fun a w => ∃ (j0 : (List (List UInt8))) (A69 : Option Addr) (a1 : Nat) (D0 : List Value), C1 j0 = some r ∧ St (cx f36 M w0) [(1, vP b2 0), (3, sl A17 a0 e0), (4, sl A69 j0 a1)] [(1000, Ob.box b2 B 38), (700118, Ob.row (A17) ((a0).length) (e0) 9 1 (g0)), (700146, Ob.row (A69) ((j0).length) (a1) 9 1 (D0))] (F ++ [(119, rdF Rep.str (g0) (a0)), (147, rdF Rep.str (D0) (j0))]) a w) ?_ ?_
 ·apply wp_block
  replace s := s.al 149 131 q
  replace s := s.pk [(1000, 1000), (700118, 700118), (700148, 700130)] (by decide)
  refine c_loop (σ := Nat) (fun m3 a w => ∃ (k0 : (List (List UInt8))) (o0 : Nat) (A73 : Option Addr) (P0 : Nat) (r0 : List Value), module_repeats_L2 n t_ C1 m3 k0 o0 = some r ∧ St (cx f36 M w0) [(1, vP b2 0), (3, sl A17 a0 e0), (4, sl A73 k0 P0), (42, sl y0 t_.LexRules C0), (43, vI ((((t_.LexRules).length : Nat) : Int))), (44, vI (((o0 : Nat) : Int)))] [(1000, Ob.box b2 B 38), (700118, Ob.row (A17) ((a0).length) (e0) 9 1 (g0)), (700148, Ob.row (A73) ((k0).length) (P0) 9 1 (r0))] (F ++ [(119, rdF Rep.str (g0) (a0)), (149, rdF Rep.str (r0) (k0))]) a w) (fun m3 => m3) n ⟨(u0), (0), (A43), (M0), (X0), hg, (s.sb q q q)⟩ ?_
  clear s a; rintro m3 a w ⟨k0, o0, A73, P0, r0, hg, s⟩
  rcases m3 with _ | m3
  ·rw [module_repeats_L2] at hg; cases hg
  rw [module_repeats_L2] at hg
  refine S s<|vw<|yw q (y_lssN (i := o0) (j := ((t_.LexRules).length)) · q q)<|nw<|sw fun a s => c_dec s q (fun e1 => ?_) (fun e1 => ?_)
  ·replace hg := br_t hg e1
   have h4 := SlR.mx (s.ft 105 q)
   obtain ⟨b0, y1, hg⟩ := bind_some hg
   refine S s<|kw<|pw<|sw<|bw<|sw<|lw fun a s => ?_
   obtain ⟨p4, s2, y2, B2, V3, q2, o2⟩ := SlR.elemX (s.ft 105 q) y1
   refine qq s q (eL 8 o0 s u35 s2 (lt_of_get y1) q) fun a s => ?_
   obtain ⟨L1, a2, M1, c2, O1, d2, P1, e2, rfl, X2, l4, m4, Y2, Z2, a3⟩ := RLexDecl.open q2
   refine S s<|nsw 154 X2<|nsw 155 Y2<|nsw 156 Z2<|nsw 157 a3<|yw q (y_ldp · q y2 B2 (by simpa using o2) u94 q q) fun a s => ?_
   refine l_seq q (l_alloc (zs := [vI 0, nS, vT ([]), vI 0, vT ([]), nS, nS, nS]) s 2402 q q q q fun P3 a w hb hK s => ?_)
   refine l_seq q (l_store (n := 8) (cs' := [vI b0.Affix.Kind, sl L1 b0.Affix.Pairs a2, vT b0.Def.Name, vI b0.Def.Strict.Op, vT b0.Def.Strict.Name, sl M1 b0.Def.Strict.Path c2, sl O1 b0.Def.Strict.Kids d2, sl P1 b0.Def.Defaults e2]) s 2402 q q q q q q q q ?_); clear s; intro w hK s; clear hK
   obtain ⟨t1, hg⟩ := chk_some hg
   refine S s<|nw<|lw<|mw q<|yw q (bF 2 · u94 q)<|yw q (bF 2 · u62 q)<|yw q (lB 2402 · u9 q) fun a s => ?_
   refine l_seq q (l_buildDense (sz := 1) s 2504 q q q u25 q q q q q q q fun Q3 a w l2 hK s => ?_)
   clear l2
   replace s := s.add 160 (rdF Rep.str (cellsOfL [vT b0.Def.Name]) ([b0.Def.Name])) (RdAll.cons (by exact ⟨q, (by omega)⟩) (rN))
   have k3 := row_src (s.wd.holds 2504 _ q) (RdAll.one (s.ft 160 q))
   refine l_seq q (l_append (sz := 1) (by_ := 16) (N := (k0 ++ [b0.Def.Name]).length) s 700148 q q q u25 q q q q q k3 (by rw [List.length_append]; try rfl) q (rmA t1 q) (rmB t1) q fun Q1 g2 a w hA hK s => ?_)
   replace s := s.add 161 (rdF Rep.str (r0 ++ (cellsOfL [vT b0.Def.Name])) (k0 ++ [b0.Def.Name])) (RdAll.append (s.ft 149 q) (s.ft 160 q))
   refine asg s q q fun a s => ?_
   apply wO
   refine p_inN ?_
   refine S s<|pw<|lw<|yw q (y_addN (i := o0) (j := 1) · q q (in64.2 (by omega)))<|mw q<|nw<|alw 149 161 q fun a s => ?_
   exact ⟨m3, Nat.lt_succ_self _, ⟨(k0 ++ [b0.Def.Name]), (o0 + 1), (Q1), (g2), (r0 ++ (cellsOfL [vT b0.Def.Name])), hg, (s.sb q q q)⟩⟩
  replace hg := br_f hg e1
  apply wp_exit
  refine p_then ?_
  refine p_then ?_
  refine p_in ?_
  apply pN
  replace s := s.al 147 149 q
  replace s := s.pk [(1000, 1000), (700118, 700118), (700146, 700148)] (by decide)
  exact ⟨(k0), (A73), (P0), (r0), hg, (s.sb q q q)⟩
 clear s a; rintro a w ⟨j0, A69, a1, D0, hg, s⟩
 subst w2
 obtain ⟨B3, Z0, hg⟩ := bind_some hg
 apply wQ
 rcases Bool.eq_false_or_eq_true (B3) with l0 | l0
 ·replace hg := br_t hg l0
  refine S s<|lw<|mw q fun a s => ?_
  have hT := s
  replace hT := hT.fz (R := Rep.str) (kk := 700118) [1000, 700146] 163 q q (hT.ft 119 q) q
  refine lC s q func62 (c_module_twice n _ _ hT.lt _ _ _ (hT.ft 163 q) _ Z0) fun L4 a w hK hp s => ?_
  obtain rfl := hp.trans (congrArg Value.bool l0)
  refine S s<|mw q<|gw q<|gw q<|gw q<|gw q<|tw_ q<|mw q<|gw q<|gw q<|gw q<|gw q<|gw q<|gw q<|tw_ q<|mw q<|gw q<|gw q<|gw q<|gw q<|tw_ q<|aw q<|nw fun a s => ?_
  apply wp_ret
  obtain rfl := si hg
  exact fin1 (fn := Tryz.f36) s q (r_tmp s q) q
 replace hg := br_n hg l0
 obtain ⟨s4, h1, hg⟩ := bind_some hg
 obtain ⟨y3, g1, hg⟩ := bind_some hg
 rcases Bool.eq_false_or_eq_true (y3) with s0 | s0
 ·replace hg := br_t hg s0
  refine S s<|lw<|mw q fun a s => ?_
  have hT := s
  replace hT := hT.fz (R := Rep.str) (kk := 700118) [1000, 700146] 165 q q (hT.ft 119 q) q
  refine lC s q func62 (c_module_twice n _ _ hT.lt _ _ _ (hT.ft 165 q) _ Z0) fun v4 a w hK hp s => ?_
  obtain rfl := hp.trans (congrArg Value.bool l0)
  refine S s<|mw q<|zw q (bF 3 · u38 q)<|zw q (lB 1000 · u33 q) fun a s => ?_
  refine gC s q func63 (c_module_names n _ _ s.lt _ _ _ (s.ft 103 q) _ h1) fun w4 a w hK hp s => ?_
  obtain ⟨E3, X3, rfl, l3⟩ := hp
  replace s := s.ns 166 l3
  refine gC s q func62 (c_module_twice n _ _ s.lt _ _ _ (s.ft 166 q) _ g1) fun x4 a w hK hp s => ?_
  obtain rfl := hp.trans (congrArg Value.bool s0)
  refine S s<|fw q<|mw q<|gw q<|gw q<|gw q<|gw q<|gw q<|gw q<|tw_ q<|mw q<|gw q<|gw q<|gw q<|gw q<|tw_ q<|aw q<|nw fun a s => ?_
  apply wp_ret
  obtain rfl := si hg
  exact fin1 (fn := Tryz.f36) s q (r_tmp s q) q
 replace hg := br_n hg s0
 obtain ⟨t0, u1, hg⟩ := bind_some hg
 obtain ⟨Y0, hg⟩ := chk_some hg
 obtain ⟨z3, v1, hg⟩ := bind_some hg
 rcases Bool.eq_false_or_eq_true (z3) with E0 | E0
 ·replace hg := br_t hg E0
  refine S s<|lw<|mw q fun a s => ?_
  have hT := s
  replace hT := hT.fz (R := Rep.str) (kk := 700118) [1000, 700146] 171 q q (hT.ft 119 q) q
  refine lC s q func62 (c_module_twice n _ _ hT.lt _ _ _ (hT.ft 171 q) _ Z0) fun y4 a w hK hp s => ?_
  obtain rfl := hp.trans (congrArg Value.bool l0)
  refine S s<|mw q<|zw q (bF 3 · u38 q)<|zw q (lB 1000 · u33 q) fun a s => ?_
  refine gC s q func63 (c_module_names n _ _ s.lt _ _ _ (s.ft 103 q) _ h1) fun z4 a w hK hp s => ?_
  obtain ⟨F3, Y3, rfl, o3⟩ := hp
  replace s := s.ns 172 o3
  refine gC s q func62 (c_module_twice n _ _ s.lt _ _ _ (s.ft 172 q) _ g1) fun B4 a w hK hp s => ?_
  obtain rfl := hp.trans (congrArg Value.bool s0)
  refine S s<|fw q<|mw q<|hw q<|zw q (bF 6 · u38 q)<|zw q (lB 1000 · u33 q) fun a s => ?_
  refine gC s q func63 (c_module_names n _ _ s.lt _ _ _ (s.ft 106 q) _ u1) fun C4 a w hK hp s => ?_
  obtain ⟨G3, Z3, rfl, p3⟩ := hp
  replace s := s.ns 173 p3
  obtain ⟨D1, g3, C2⟩ := SlR.src (s.ft 173 q)
  replace s := s.add 174 (rdF Rep.str D1 (t0)) C2
  refine gl s q (l_append (sz := 1) (by_ := 16) (N := (j0 ++ t0).length) s 700146 q q q u25 q q q q q g3 (by rw [List.length_append]; try rfl) q (rmA Y0 q) (rmB Y0) q fun C3 S3 a w hA hK s => ?_)
  replace s := s.add 175 (rdF Rep.str (D0 ++ D1) (j0 ++ t0)) (RdAll.append (s.ft 147 q) (s.ft 174 q))
  have hT := s
  replace hT := hT.fz (R := Rep.str) (kk := 700146) [1000, 700118] 176 q q (hT.ft 175 q) q
  refine gC s q func62 (c_module_twice n _ _ hT.lt _ _ _ (hT.ft 176 q) _ v1) fun D4 a w hK hp s => ?_
  obtain rfl := hp.trans (congrArg Value.bool E0)
  refine S s<|fw q<|mw q<|gw q<|gw q<|gw q<|gw q<|tw_ q<|aw q<|nw fun a s => ?_
  apply wp_ret
  obtain rfl := si hg
  exact fin1 (fn := Tryz.f36) s q (r_tmp s q) q
 replace hg := br_n hg E0
 obtain ⟨q4, b3, hg⟩ := bind_some hg
 obtain ⟨r4, c3, hg⟩ := bind_some hg
 refine S s<|lw<|mw q fun a s => ?_
 have hT := s
 replace hT := hT.fz (R := Rep.str) (kk := 700118) [1000, 700146] 178 q q (hT.ft 119 q) q
 refine lC s q func62 (c_module_twice n _ _ hT.lt _ _ _ (hT.ft 178 q) _ Z0) fun F4 a w hK hp s => ?_
 obtain rfl := hp.trans (congrArg Value.bool l0)
 refine S s<|mw q<|zw q (bF 3 · u38 q)<|zw q (lB 1000 · u33 q) fun a s => ?_
 refine gC s q func63 (c_module_names n _ _ s.lt _ _ _ (s.ft 103 q) _ h1) fun G4 a w hK hp s => ?_
 obtain ⟨H3, a4, rfl, q3⟩ := hp
 replace s := s.ns 179 q3
 refine gC s q func62 (c_module_twice n _ _ s.lt _ _ _ (s.ft 179 q) _ g1) fun H4 a w hK hp s => ?_
 obtain rfl := hp.trans (congrArg Value.bool s0)
 refine S s<|fw q<|mw q<|hw q<|zw q (bF 6 · u38 q)<|zw q (lB 1000 · u33 q) fun a s => ?_
 refine gC s q func63 (c_module_names n _ _ s.lt _ _ _ (s.ft 106 q) _ u1) fun I4 a w hK hp s => ?_
 obtain ⟨I3, b4, rfl, s3⟩ := hp
 replace s := s.ns 180 s3
 obtain ⟨E1, h3, D2⟩ := SlR.src (s.ft 180 q)
 replace s := s.add 181 (rdF Rep.str E1 (t0)) D2
 refine gl s q (l_append (sz := 1) (by_ := 16) (N := (j0 ++ t0).length) s 700146 q q q u25 q q q q q h3 (by rw [List.length_append]; try rfl) q (rmA Y0 q) (rmB Y0) q fun D3 T3 a w hA hK s => ?_)
 replace s := s.add 182 (rdF Rep.str (D0 ++ E1) (j0 ++ t0)) (RdAll.append (s.ft 147 q) (s.ft 181 q))
 have hT := s
 replace hT := hT.fz (R := Rep.str) (kk := 700146) [1000, 700118] 183 q q (hT.ft 182 q) q
 refine gC s q func62 (c_module_twice n _ _ hT.lt _ _ _ (hT.ft 183 q) _ v1) fun J4 a w hK hp s => ?_
 obtain rfl := hp.trans (congrArg Value.bool E0)
 refine S s<|fw q<|mw q<|zw q (bF 7 · u38 q)<|zw q (lB 1000 · u33 q) fun a s => ?_
 refine gC s q func63 (c_module_names n _ _ s.lt _ _ _ (s.ft 107 q) _ b3) fun K4 a w hK hp s => ?_
 obtain ⟨J3, c4, rfl, t3⟩ := hp
 replace s := s.ns 184 t3
 refine gV s q func62 (c_module_twice n _ _ s.lt _ _ _ (s.ft 184 q) _ c3) fun a w hK s => ?_
 refine S s<|fw q<|aw q<|nw fun a s => ?_
 apply wp_ret
 obtain rfl := si hg
 exact fin1 (fn := Tryz.f36) s q (r_tmp s q) q
set_option maxHeartbeats 1000000 in
theorem c_slices_IndexFunc_string (n : Nat) (M : Bs) (w0 : World) (hM : ∀ b, M b → b < w0.heap.size) (s_ : (List (List UInt8))) (d0 : Option Addr) (e0 : Nat) (o0 : sR Rep.str M w0 d0 e0 s_) (f_ : ((List UInt8) → Option Bool)) (c0 : FuncId) (b0 : List Value) (p0 : FnR Tryz.prog c0 b0 pre69 post69 (f_) M w0) (r : Int) (hg : slices_IndexFunc_string n s_ f_ = some r) :
    Calls Tryz.prog 64 [sl d0 s_ e0, .func (.func c0) #[] (List.toArray b0)].toArray w0 (Ret noB w0 fun v w => v = .int .i64 (r)) := by
 unfold slices_IndexFunc_string at hg
 refine enter M noB func64 q q hM ?_
 intro a s
 replace s := s.es 101 o0
 replace s := s.add 102 (fnF Tryz.prog c0 b0 pre69 post69 (f_)) (by exact Fact.change _ enterM p0)
 refine S s<|vw<|aw q<|nw<|sw<|vw<|mw q<|yw q (lS · q u25)<|mw q<|nw<|bw fun a s => ?_
 refine c_loop (σ := Nat) (fun m1 a w => ∃ (a0 : Nat), slices_IndexFunc_string_L0 n s_ f_ m1 a0 = some r ∧ St (cx f64 M w0) [(0, sl d0 s_ e0), (1, .func (.func c0) #[] (List.toArray b0)), (7, vI ((((s_).length : Nat) : Int))), (8, vI (((a0 : Nat) : Int)))] [] [(101, sF Rep.str d0 e0 s_), (102, fnF Tryz.prog c0 b0 pre69 post69 (f_))] a w) (fun m1 => m1) n ⟨(0), hg, (s.sb q q q)⟩ ?_
 clear s a; rintro m1 a w ⟨a0, hg, s⟩
 rcases m1 with _ | m1
 ·rw [slices_IndexFunc_string_L0] at hg; cases hg
 rw [slices_IndexFunc_string_L0] at hg
 refine S s<|vw<|yw q (y_lssN (i := a0) (j := ((s_).length)) · q q)<|nw<|sw fun a s => c_dec s q (fun h0 => ?_) (fun h0 => ?_)
 ·replace hg := br_t hg h0
  have s0 := SlR.mx (s.ft 101 q)
  obtain ⟨x5, i0, hg⟩ := bind_some hg
  obtain ⟨r7, q0, hg⟩ := bind_some hg
  refine S s<|kw<|pw<|sw<|bw<|vw<|mw q<|aw q<|nw<|sw<|lw<|mw q<|mw q<|mw q fun a s => ?_
  obtain ⟨u0, l0, m0, n0, r0, k0, j0⟩ := SlR.elemX (s.ft 101 q) i0
  refine qq s q (eL 1 a0 s u25 l0 (lt_of_get i0) q) fun a s => ?_
  obtain ⟨rfl, t0⟩ := k0
  refine qq s q (lP s m0 n0 (j0 0 _ q) u9 q) fun a s => ?_
  refine l_seq q (l_callFn (cap := b0) (x := x5) s q (s.ft 102 q) q q ⟨q, (by omega)⟩ q0 fun v0 a w hK hp s => ?_)
  obtain rfl := hp
  apply wN
  refine c_cond s q (fun g0 => ?_) (fun g0 => ?_)
  ·replace hg := br_t hg g0
   refine S s<|vw<|mw q<|aw q<|nw fun a s => ?_
   apply wp_ret
   refine p_inR ?_
   refine p_thenR ?_
   refine p_thenR ?_
   refine p_inR ?_
   refine p_thenR ?_
   obtain rfl := si hg
   exact fin1 (fn := Tryz.f64) s q (r_tmp s q) q
  replace hg := br_n hg g0
  apply wp_skip
  refine p_inN ?_
  refine S s<|pw<|lw<|yw q (y_addN (i := a0) (j := 1) · q q (in64.2 (by omega)))<|mw q<|nw fun a s => ?_
  exact ⟨m1, Nat.lt_succ_self _, ⟨(a0 + 1), hg, (s.sb q q q)⟩⟩
 replace hg := br_f hg h0
 apply wp_exit
 refine p_then ?_
 refine p_then ?_
 refine p_in ?_
 refine S s<|pw<|vw<|aw q<|nw fun a s => ?_
 apply wp_ret
 obtain rfl := si hg
 exact fin1 (fn := Tryz.f64) s q (r_tmp s q) q
set_option maxHeartbeats 1000000 in
theorem c_slices_ContainsFunc_string (n : Nat) (M : Bs) (w0 : World) (hM : ∀ b, M b → b < w0.heap.size) (s_ : (List (List UInt8))) (c0 : Option Addr) (d0 : Nat) (e0 : sR Rep.str M w0 c0 d0 s_) (f_ : ((List UInt8) → Option Bool)) (a0 : FuncId) (b0 : List Value) (g0 : FnR Tryz.prog a0 b0 pre69 post69 (f_) M w0) (r : Bool) (hg : slices_ContainsFunc_string n s_ f_ = some r) :
    Calls Tryz.prog 37 [sl c0 s_ d0, .func (.func a0) #[] (List.toArray b0)].toArray w0 (Ret noB w0 fun v w => v = .bool (r)) := by
 unfold slices_ContainsFunc_string at hg
 refine enter M noB func37 q q hM ?_
 intro a s
 replace s := s.es 101 e0
 replace s := s.add 102 (fnF Tryz.prog a0 b0 pre69 post69 (f_)) (by exact Fact.change _ enterM g0)
 obtain ⟨r1, h0, hg⟩ := bind_some hg
 refine S s<|vw<|aw q<|nw<|sw<|lw<|mw q<|mw q fun a s => ?_
 refine lV s q func64 (c_slices_IndexFunc_string n _ _ s.lt _ _ _ (s.ft 101 q) _ _ _ (s.ft 102 q) _ h0) fun a w hK s => ?_
 refine S s<|yw q (y_geq · q q)<|aw q<|nw fun a s => ?_
 apply wp_ret
 obtain rfl := si hg
 exact fin1 (fn := Tryz.f37) s q (r_tmp s q) q
set_option maxHeartbeats 1000000 in
theorem c_slices_Concat_Def (n : Nat) (M : Bs) (w0 : World) (hM : ∀ b, M b → b < w0.heap.size) (slices_ : (List (List Def))) (a0 : Option Addr) (b0 : Nat) (T0 : sR (Rep.list RDef) M w0 a0 b0 slices_) (r : (List Def)) (hg : slices_Concat_Def n slices_ = some r) :
    Calls Tryz.prog 106 [sl a0 slices_ b0].toArray w0 (Ret noB w0 fun v w => ∃ (Ao : Option Addr), ∃ (co : Nat), ∃ (cso : List Value), v = sl Ao r co ∧ ((Ob.row Ao (r).length co 62 6 cso).holds w) ∧ (∀ b, (Ob.row Ao (r).length co 62 6 cso).ids b → w0.heap.size ≤ b) ∧ (RdAll RDef (fun b => M b ∨ (Ob.row Ao (r).length co 62 6 cso).ids b) w cso (r))) := by
 unfold slices_Concat_Def at hg
 refine enter M noB func106 q q hM ?_
 intro a s
 refine S s<|esw 101 T0<|vw<|aw q<|nw<|vw<|aw q<|nw<|sw<|vw<|mw q<|yw q (lS · q u158)<|mw q<|nw fun a s => ?_
 obtain ⟨k1, hg, I0⟩ := jn_some hg
 refine c_post (fun a w => ∃ (k0 : Nat), k1 k0 = some r ∧ St (cx f106 M w0) [(0, sl a0 slices_ b0), (3, vI (((k0 : Nat) : Int)))] [] [(101, sF (Rep.list RDef) a0 b0 slices_)] a w) ?_ ?_
 ·apply wp_block
  refine c_loop (σ := Nat) (fun m1 a w => ∃ (d0 : Nat) (g0 : Nat), slices_Concat_Def_L0 n slices_ k1 m1 d0 g0 = some r ∧ St (cx f106 M w0) [(0, sl a0 slices_ b0), (3, vI (((d0 : Nat) : Int))), (9, sl a0 slices_ b0), (10, vI ((((slices_).length : Nat) : Int))), (11, vI (((g0 : Nat) : Int)))] [] [(101, sF (Rep.list RDef) a0 b0 slices_)] a w) (fun m1 => m1) n ⟨(0), (0), hg, (s.sb q q q)⟩ ?_
  clear s a; rintro m1 a w ⟨d0, g0, hg, s⟩
  rcases m1 with _ | m1
  ·rw [slices_Concat_Def_L0] at hg; cases hg
  rw [slices_Concat_Def_L0] at hg
  refine S s<|vw<|yw q (y_lssN (i := g0) (j := ((slices_).length)) · q q)<|nw<|sw fun a s => c_dec s q (fun o0 => ?_) (fun o0 => ?_)
  ·replace hg := br_t hg o0
   have g1 := SlR.mx (s.ft 101 q)
   obtain ⟨x8, v0, hg⟩ := bind_some hg
   refine S s<|kw<|pw<|sw<|bw<|sw<|lw fun a s => ?_
   obtain ⟨j1, G0, J0, L0, b1, E0, C0⟩ := SlR.elemX (s.ft 101 q) v0
   refine qq s q (eL 1 g0 s u158 G0 (lt_of_get v0) q) fun a s => ?_
   obtain ⟨X0, h1, Z0, rfl, s0⟩ := E0
   obtain rfl := s0.len
   obtain ⟨d1, hg⟩ := chk_some hg
   refine S s<|nsw 103 s0<|yw q (lP · J0 L0 (C0 0 _ q) u33 q)<|aw q<|nw<|sw<|lw<|mw q<|mw q<|yw q (lS · q u33)<|yw q (y_addN (i := d0) (j := ((x8).length)) · q q (in64.2 (by omega)))<|aw q<|nw<|vw<|mw q<|yw q (y_lssN (i := (d0 + (x8).length)) (j := 0) · q q)<|nw fun a s => c_dec s q (fun m0 => ?_) (fun m0 => ?_)
   ·replace hg := br_t hg m0
    cases hg
   replace hg := br_f hg m0
   apply wp_skip
   refine p_inN ?_
   refine S s<|pw<|lw<|yw q (y_addN (i := g0) (j := 1) · q q (in64.2 (by omega)))<|mw q<|nw fun a s => ?_
   exact ⟨m1, Nat.lt_succ_self _, ⟨(d0 + (x8).length), (g0 + 1), hg, (s.sb q q q)⟩⟩
  replace hg := br_f hg o0
  apply wp_exit
  refine p_then ?_
  refine p_then ?_
  refine p_in ?_
  apply pN
  exact ⟨(d0), hg, (s.sb q q q)⟩
 clear s a; rintro a w ⟨k0, hg, s⟩
 subst I0
 obtain ⟨i0, U0, hg⟩ := bind_some hg
 refine S s<|sw<|lw<|mw q fun a s => ?_
 refine l_seq q (l_callOwn (cap := []) (post := (fun v ob w' => ∃ Ao co cso, ob = Ob.row Ao (i0).length co 62 6 cso ∧ v = sl Ao i0 co ∧ RdAll RDef (fun b => mtb _ _ b ∨ ob.ids b) w' cso (i0))) s 1901 q q func125 q (by kernel_rfl) q q ((c_slices_Grow_Def n _ _ s.lt ((k0 : Nat) : Int) i0 U0).mono (fun e w' h => by obtain ⟨v, he, hk, Ao, co, cso, hv, P0, Q0, R0⟩ := h; exact ⟨v, he, hk, _, P0, Q0, ⟨Ao, co, cso, q, hv, R0⟩⟩)) fun n1 ob a w hK hp s => ?_)
 obtain ⟨y0, B0, q0, rfl, rfl, S0⟩ := hp
 replace s := s.add 105 (rdF RDef q0 (i0)) (RdAll.up2 s S0)
 refine S s<|aw q<|nw<|sw<|vw<|mw q<|yw q (lS · q u158)<|mw q<|nw<|bw<|alw 107 105 q fun a s => ?_
 replace s := s.pk [(700106, 1901)] (by decide)
 refine c_loop (σ := Nat) (fun m2 a w => ∃ (c0 : (List Def)) (e0 : Nat) (A20 : Option Addr) (j0 : Nat) (h0 : List Value), slices_Concat_Def_L1 n slices_ m2 c0 e0 = some r ∧ St (cx f106 M w0) [(6, sl A20 c0 j0), (25, sl a0 slices_ b0), (26, vI ((((slices_).length : Nat) : Int))), (27, vI (((e0 : Nat) : Int)))] [(700106, Ob.row (A20) ((c0).length) (j0) 62 6 (h0))] [(101, sF (Rep.list RDef) a0 b0 slices_), (107, rdF RDef (h0) (c0))] a w) (fun m2 => m2) n ⟨(i0), (0), (y0), (B0), (q0), hg, (s.sb q q q)⟩ ?_
 clear s a; rintro m2 a w ⟨c0, e0, A20, j0, h0, hg, s⟩
 rcases m2 with _ | m2
 ·rw [slices_Concat_Def_L1] at hg; cases hg
 rw [slices_Concat_Def_L1] at hg
 refine S s<|vw<|yw q (y_lssN (i := e0) (j := ((slices_).length)) · q q)<|nw<|sw fun a s => c_dec s q (fun n0 => ?_) (fun n0 => ?_)
 ·replace hg := br_t hg n0
  have e1 := SlR.mx (s.ft 101 q)
  obtain ⟨l0, u0, hg⟩ := bind_some hg
  refine S s<|kw<|pw<|sw<|bw<|sw<|lw fun a s => ?_
  obtain ⟨l1, H0, K0, M0, c1, F0, D0⟩ := SlR.elemX (s.ft 101 q) u0
  refine qq s q (eL 1 e0 s u158 H0 (lt_of_get u0) q) fun a s => ?_
  obtain ⟨Y0, i1, a1, rfl, t0⟩ := F0
  obtain rfl := t0.len
  obtain ⟨r0, hg⟩ := chk_some hg
  refine S s<|nsw 109 t0<|yw q (lP · K0 M0 (D0 0 _ q) u33 q)<|aw q<|nw<|lw<|mw q<|mw q fun a s => ?_
  obtain ⟨p0, V0, O0⟩ := SlR.src (s.ft 109 q)
  replace s := s.add 112 (rdF RDef p0 (l0)) O0
  refine l_seq q (l_append (sz := 6) (by_ := 112) (N := (c0 ++ l0).length) s 700106 q q q u33 q q q q q V0 (by rw [List.length_append]; try rfl) q (rmA r0 q) (rmB r0) q fun x0 z0 a w hA hK s => ?_)
  replace s := s.add 113 (rdF RDef (h0 ++ p0) (c0 ++ l0)) (RdAll.append (s.ft 107 q) (s.ft 112 q))
  refine asg s q q fun a s => ?_
  apply wO
  refine p_inN ?_
  refine S s<|pw<|lw<|yw q (y_addN (i := e0) (j := 1) · q q (in64.2 (by omega)))<|mw q<|nw<|alw 107 113 q fun a s => ?_
  exact ⟨m2, Nat.lt_succ_self _, ⟨(c0 ++ l0), (e0 + 1), (x0), (z0), (h0 ++ p0), hg, (s.sb q q q)⟩⟩
 replace hg := br_f hg n0
 apply wp_exit
 refine p_then ?_
 refine p_then ?_
 refine p_in ?_
 refine S s<|pw<|vw<|mw q<|aw q<|nw fun a s => ?_
 apply wp_ret
 obtain rfl := si hg
 refine fin1 (fn := Tryz.f106) s q (r_tmp s q) ?_
 exact ⟨(A20), (j0), (h0), q, (s.wd.holds 700106 _ q), (row_new s (kk := 700106) q q), (RdAll.own s (kk := 700106) q (s.ft 107 q))⟩
set_option maxHeartbeats 1000000 in
theorem c_module_definitions (n : Nat) (M : Bs) (w0 : World) (hM : ∀ b, M b → b < w0.heap.size) (m_ : Module) (s0 : Option Addr) (H0 : Nat) (t0 : Option Addr) (I0 : Nat) (i0 : Option Addr) (m0 : Nat) (j0 : Option Addr) (n0 : Nat) (e0 : Option Addr) (g0 : Nat) (k0 : Option Addr) (o0 : Nat) (l0 : Option Addr) (p0 : Nat) (u0 : Option Addr) (J0 : Nat) (r0 : Option Addr) (G0 : Nat) (p2 : (m_.Name).length ≤ 9223372036854775807) (J1 : sR Rep.str M w0 s0 H0 m_.Imports) (K1 : sR RTypeDecl M w0 t0 I0 m_.Types) (L1 : sR RDef M w0 i0 m0 m_.Templates) (M1 : sR REntryDecl M w0 j0 n0 m_.Entries) (O1 : sR RLexDecl M w0 e0 g0 m_.LexRules) (P1 : sR RDef M w0 k0 o0 m_.Rules) (Q1 : sR RDef M w0 l0 p0 m_.Roots) (R1 : sR (Rep.list Rep.str) M w0 u0 J0 m_.Checks) (I1 : sR Rep.str M w0 r0 G0 m_.Drops) (r : (List Def)) (hg : module_definitions n m_ = some r) :
    Calls Tryz.prog 65 [.agg #[vT m_.Name, sl s0 m_.Imports H0, sl t0 m_.Types I0, sl i0 m_.Templates m0, sl j0 m_.Entries n0, sl e0 m_.LexRules g0, sl k0 m_.Rules o0, sl l0 m_.Roots p0, sl u0 m_.Checks J0, sl r0 m_.Drops G0]].toArray w0 (Ret noB w0 fun v w => ∃ (U0 : Option Addr), ∃ (V0 : Nat), v = sl U0 r V0 ∧ (SlR RDef M w U0 (r).length V0 (r))) := by
 unfold module_definitions at hg
 refine enter M noB func65 q q hM ?_
 intro a s
 let F : Al Fact := [(101, sF Rep.str s0 H0 m_.Imports), (102, sF RTypeDecl t0 I0 m_.Types), (103, sF RDef i0 m0 m_.Templates), (104, sF REntryDecl j0 n0 m_.Entries), (105, sF RLexDecl e0 g0 m_.LexRules), (106, sF RDef k0 o0 m_.Rules), (107, sF RDef l0 p0 m_.Roots), (108, sF (Rep.list Rep.str) u0 J0 m_.Checks), (109, sF Rep.str r0 G0 m_.Drops)]
 let B : List Value := [vT m_.Name, sl s0 m_.Imports H0, sl t0 m_.Types I0, sl i0 m_.Templates m0, sl j0 m_.Entries n0, sl e0 m_.LexRules g0, sl k0 m_.Rules o0, sl l0 m_.Roots p0, sl u0 m_.Checks J0, sl r0 m_.Drops G0]
 refine S s<|esw 101 J1<|esw 102 K1<|esw 103 L1<|esw 104 M1<|esw 105 O1<|esw 106 P1<|esw 107 Q1<|esw 108 R1<|esw 109 I1<|vw fun a s => ?_
 refine l_seq q (l_box (zs := B) s 1000 q q q q fun b2 a w hb hK s => ?_)
 obtain ⟨r4, c2, hg⟩ := bind_some hg
 refine S s<|aw q<|nw<|sw<|lw<|yw q (bF 3 · u38 q)<|yw q (lB 1000 · u33 q)<|yw q (bF 6 · u38 q)<|yw q (lB 1000 · u33 q)<|yw q (bF 7 · u38 q)<|yw q (lB 1000 · u33 q) fun a s => ?_
 refine l_seq q (l_buildDense (sz := 1) s 1106 q q q u158 q q q q q q q fun b7 a w r1 hK s => ?_)
 clear r1
 replace s := s.add 113 (rdF (Rep.list RDef) (cellsOfL [sl i0 m_.Templates m0, sl k0 m_.Rules o0, sl l0 m_.Roots p0]) ([m_.Templates, m_.Rules, m_.Roots])) (RdAll.cons (by exact ⟨_, _, _, q, (s.ft 103 q)⟩) (RdAll.cons (by exact ⟨_, _, _, q, (s.ft 106 q)⟩) (RdAll.cons (by exact ⟨_, _, _, q, (s.ft 107 q)⟩) (rN))))
 replace s := s.freeze (R := (Rep.list RDef)) (kk := 1106) (L' := [(1000, Ob.box b2 B 38)]) 114 q q (s.ft 113 q) ⟨q, trivial⟩ q
 refine l_seq q (l_callOwn (cap := []) (post := (fun v ob w' => ∃ Ao co cso, ob = Ob.row Ao (r4).length co 62 6 cso ∧ v = sl Ao r4 co ∧ RdAll RDef (fun b => mtb _ _ b ∨ ob.ids b) w' cso (r4))) s 1107 q q func106 q (by kernel_rfl) q q ((c_slices_Concat_Def n _ _ s.lt [m_.Templates, m_.Rules, m_.Roots] (some ⟨b7, 0, none⟩) (3) (s.ft 114 q) _ c2).mono (fun e w' h => by obtain ⟨v, he, hk, Ao, co, cso, hv, E1, F1, G1⟩ := h; exact ⟨v, he, hk, _, E1, F1, ⟨Ao, co, cso, q, hv, G1⟩⟩)) fun v9 ob a w hK hp s => ?_)
 obtain ⟨i1, o1, X0, rfl, rfl, H1⟩ := hp
 replace s := s.add 115 (rdF RDef X0 (r4)) (RdAll.up2 s H1)
 refine S s<|aw q<|nw<|sw<|vw<|yw q (bF 4 · u38 q)<|yw q (lB 1000 · u34 q)<|yw q (lS · q u34)<|mw q<|nw fun a s => ?_
 obtain ⟨c1, hg, y1⟩ := jn_some hg
 refine c_post (fun a w => ∃ (out_11 : (List Def)) (A12 : Option Addr) (D0 : Nat) (R0 : List Value), c1 out_11 = some r ∧ St (cx f65 M w0) [(1, vP b2 0), (3, sl A12 out_11 D0)] [(1000, Ob.box b2 B 38), (700116, Ob.row (A12) ((out_11).length) (D0) 62 6 (R0))] (F ++ [(117, rdF RDef (R0) (out_11))]) a w) ?_ ?_
 ·apply wp_block
  replace s := s.al 119 115 q
  replace s := s.pk [(1000, 1000), (700118, 1107)] (by decide)
  refine c_loop (σ := Nat) (fun m1 a w => ∃ (out_15 : (List Def)) (c0 : Nat) (A16 : Option Addr) (E0 : Nat) (h0 : List Value), module_definitions_L0 n m_ c1 m1 out_15 c0 = some r ∧ St (cx f65 M w0) [(1, vP b2 0), (3, sl A16 out_15 E0), (17, sl j0 m_.Entries n0), (18, vI ((((m_.Entries).length : Nat) : Int))), (19, vI (((c0 : Nat) : Int)))] [(1000, Ob.box b2 B 38), (700118, Ob.row (A16) ((out_15).length) (E0) 62 6 (h0))] (F ++ [(119, rdF RDef (h0) (out_15))]) a w) (fun m1 => m1) n ⟨(r4), (0), (i1), (o1), (X0), hg, (s.sb q q q)⟩ ?_
  clear s a; rintro m1 a w ⟨out_15, c0, A16, E0, h0, hg, s⟩
  rcases m1 with _ | m1
  ·rw [module_definitions_L0] at hg; cases hg
  rw [module_definitions_L0] at hg
  refine S s<|vw<|yw q (y_lssN (i := c0) (j := ((m_.Entries).length)) · q q)<|nw<|sw fun a s => c_dec s q (fun S0 => ?_) (fun S0 => ?_)
  ·replace hg := br_t hg S0
   have n2 := SlR.mx (s.ft 104 q)
   obtain ⟨b0, a1, hg⟩ := bind_some hg
   refine S s<|kw<|pw<|sw<|bw<|sw<|lw fun a s => ?_
   obtain ⟨u2, w1, z1, C1, k2, u1, s1⟩ := SlR.elemX (s.ft 104 q) a1
   refine qq s q (eL 7 c0 s u34 w1 (lt_of_get a1) q) fun a s => ?_
   obtain ⟨d1, j1, v0, K0, x0, L0, y0, M0, rfl, S1, q2, r2, T1, U1, V1⟩ := REntryDecl.open u1
   refine S s<|nsw 124 S1<|nsw 125 T1<|nsw 126 U1<|nsw 127 V1<|yw q (y_ldp · q z1 C1 (by simpa using s1) u89 q q) fun a s => ?_
   refine l_seq q (l_alloc (zs := [nS, vT ([]), vI 0, vT ([]), nS, nS, nS]) s 1402 q q q q fun g2 a w hb hK s => ?_)
   refine l_seq q (l_store (n := 7) (cs' := [sl d1 b0.Words j1, vT b0.Def.Name, vI b0.Def.Strict.Op, vT b0.Def.Strict.Name, sl v0 b0.Def.Strict.Path K0, sl x0 b0.Def.Strict.Kids L0, sl y0 b0.Def.Defaults M0]) s 1402 q q q q q q q q ?_); clear s; intro w hK s; clear hK
   obtain ⟨Y0, hg⟩ := chk_some hg
   refine S s<|nw<|lw<|mw q<|yw q (bF 1 · u89 q)<|yw q (y_loadBox (kk := 1402) (n := 6) (vs := [vT b0.Def.Name, vI b0.Def.Strict.Op, vT b0.Def.Strict.Name, sl v0 b0.Def.Strict.Path K0, sl x0 b0.Def.Strict.Kids L0, sl y0 b0.Def.Defaults M0]) · q q u62 q q q q) fun a s => ?_
   refine l_seq q (l_buildDense (sz := 6) s 1503 q q q u33 q q q q q q q fun h2 a w p1 hK s => ?_)
   clear p1
   replace s := s.add 130 (rdF RDef (cellsOfL [.agg #[_, _, _, _, _, _]]) ([b0.Def])) (RdAll.cons (by exact (RDef.mk' (x := b0.Def) (by omega) (by omega) (s.ft 125 q) (s.ft 126 q) (s.ft 127 q))) (rN))
   have d2 := row_src (s.wd.holds 1503 _ q) (RdAll.one (s.ft 130 q))
   refine l_seq q (l_append (sz := 6) (by_ := 112) (N := (out_15 ++ [b0.Def]).length) s 700118 q q q u33 q q q q q d2 (by rw [List.length_append]; try rfl) q (rmA Y0 q) (rmB Y0) q fun e1 k1 a w hA hK s => ?_)
   replace s := s.add 131 (rdF RDef (h0 ++ (cellsOfL [.agg #[vT b0.Def.Name, vI b0.Def.Strict.Op, vT b0.Def.Strict.Name, sl v0 b0.Def.Strict.Path K0, sl x0 b0.Def.Strict.Kids L0, sl y0 b0.Def.Defaults M0]])) (out_15 ++ [b0.Def])) (RdAll.append (s.ft 119 q) (s.ft 130 q))
   refine asg s q q fun a s => ?_
   apply wO
   refine p_inN ?_
   refine S s<|pw<|lw<|yw q (y_addN (i := c0) (j := 1) · q q (in64.2 (by omega)))<|mw q<|nw<|alw 119 131 q fun a s => ?_
   exact ⟨m1, Nat.lt_succ_self _, ⟨(out_15 ++ [b0.Def]), (c0 + 1), (e1), (k1), (h0 ++ (cellsOfL [.agg #[vT b0.Def.Name, vI b0.Def.Strict.Op, vT b0.Def.Strict.Name, sl v0 b0.Def.Strict.Path K0, sl x0 b0.Def.Strict.Kids L0, sl y0 b0.Def.Defaults M0]])), hg, (s.sb q q q)⟩⟩
  replace hg := br_f hg S0
  apply wp_exit
  refine p_then ?_
  refine p_then ?_
  refine p_in ?_
  apply pN
  replace s := s.al 117 119 q
  replace s := s.pk [(1000, 1000), (700116, 700118)] (by decide)
  exact ⟨(out_15), (A16), (E0), (h0), hg, (s.sb q q q)⟩
 clear s a; rintro a w ⟨out_11, A12, D0, R0, hg, s⟩
 subst y1
 refine S s<|sw<|vw<|yw q (bF 5 · u38 q)<|yw q (lB 1000 · u35 q)<|yw q (lS · q u35)<|mw q<|nw<|bw<|alw 133 117 q fun a s => ?_
 replace s := s.pk [(1000, 1000), (700132, 700116)] (by decide)
 refine c_loop (σ := Nat) (fun m2 a w => ∃ (out_36 : (List Def)) (d0 : Nat) (A37 : Option Addr) (F0 : Nat) (q0 : List Value), module_definitions_L1 n m_ m2 out_36 d0 = some r ∧ St (cx f65 M w0) [(3, sl A37 out_36 F0), (30, sl e0 m_.LexRules g0), (31, vI ((((m_.LexRules).length : Nat) : Int))), (32, vI (((d0 : Nat) : Int)))] [(700132, Ob.row (A37) ((out_36).length) (F0) 62 6 (q0))] [(105, sF RLexDecl e0 g0 m_.LexRules), (133, rdF RDef (q0) (out_36))] a w) (fun m2 => m2) n ⟨(out_11), (0), (A12), (D0), (R0), hg, (s.sb q q q)⟩ ?_
 clear s a; rintro m2 a w ⟨out_36, d0, A37, F0, q0, hg, s⟩
 rcases m2 with _ | m2
 ·rw [module_definitions_L1] at hg; cases hg
 rw [module_definitions_L1] at hg
 refine S s<|vw<|yw q (y_lssN (i := d0) (j := ((m_.LexRules).length)) · q q)<|nw<|sw fun a s => c_dec s q (fun T0 => ?_) (fun T0 => ?_)
 ·replace hg := br_t hg T0
  have o2 := SlR.mx (s.ft 105 q)
  obtain ⟨a0, b1, hg⟩ := bind_some hg
  refine S s<|kw<|pw<|sw<|bw<|sw<|lw fun a s => ?_
  obtain ⟨v2, x1, B1, D1, l2, v1, t1⟩ := SlR.elemX (s.ft 105 q) b1
  refine qq s q (eL 8 d0 s u35 x1 (lt_of_get b1) q) fun a s => ?_
  obtain ⟨g1, l1, z0, O0, B0, P0, C0, Q0, rfl, X1, s2, t2, Y1, Z1, a2⟩ := RLexDecl.open v1
  refine S s<|nsw 138 X1<|nsw 139 Y1<|nsw 140 Z1<|nsw 141 a2<|yw q (y_ldp · q B1 D1 (by simpa using t1) u94 q q) fun a s => ?_
  refine l_seq q (l_alloc (zs := [vI 0, nS, vT ([]), vI 0, vT ([]), nS, nS, nS]) s 1902 q q q q fun i2 a w hb hK s => ?_)
  refine l_seq q (l_store (n := 8) (cs' := [vI a0.Affix.Kind, sl g1 a0.Affix.Pairs l1, vT a0.Def.Name, vI a0.Def.Strict.Op, vT a0.Def.Strict.Name, sl z0 a0.Def.Strict.Path O0, sl B0 a0.Def.Strict.Kids P0, sl C0 a0.Def.Defaults Q0]) s 1902 q q q q q q q q ?_); clear s; intro w hK s; clear hK
  obtain ⟨Z0, hg⟩ := chk_some hg
  refine S s<|nw<|lw<|mw q<|yw q (bF 2 · u94 q)<|yw q (y_loadBox (kk := 1902) (n := 6) (vs := [vT a0.Def.Name, vI a0.Def.Strict.Op, vT a0.Def.Strict.Name, sl z0 a0.Def.Strict.Path O0, sl B0 a0.Def.Strict.Kids P0, sl C0 a0.Def.Defaults Q0]) · q q u62 q q q q) fun a s => ?_
  refine l_seq q (l_buildDense (sz := 6) s 2003 q q q u33 q q q q q q q fun j2 a w q1 hK s => ?_)
  clear q1
  replace s := s.add 144 (rdF RDef (cellsOfL [.agg #[_, _, _, _, _, _]]) ([a0.Def])) (RdAll.cons (by exact (RDef.mk' (x := a0.Def) (by omega) (by omega) (s.ft 139 q) (s.ft 140 q) (s.ft 141 q))) (rN))
  have e2 := row_src (s.wd.holds 2003 _ q) (RdAll.one (s.ft 144 q))
  refine l_seq q (l_append (sz := 6) (by_ := 112) (N := (out_36 ++ [a0.Def]).length) s 700132 q q q u33 q q q q q e2 (by rw [List.length_append]; try rfl) q (rmA Z0 q) (rmB Z0) q fun h1 n1 a w hA hK s => ?_)
  replace s := s.add 145 (rdF RDef (q0 ++ (cellsOfL [.agg #[vT a0.Def.Name, vI a0.Def.Strict.Op, vT a0.Def.Strict.Name, sl z0 a0.Def.Strict.Path O0, sl B0 a0.Def.Strict.Kids P0, sl C0 a0.Def.Defaults Q0]])) (out_36 ++ [a0.Def])) (RdAll.append (s.ft 133 q) (s.ft 144 q))
  refine asg s q q fun a s => ?_
  apply wO
  refine p_inN ?_
  refine S s<|pw<|lw<|yw q (y_addN (i := d0) (j := 1) · q q (in64.2 (by omega)))<|mw q<|nw<|alw 133 145 q fun a s => ?_
  exact ⟨m2, Nat.lt_succ_self _, ⟨(out_36 ++ [a0.Def]), (d0 + 1), (h1), (n1), (q0 ++ (cellsOfL [.agg #[vT a0.Def.Name, vI a0.Def.Strict.Op, vT a0.Def.Strict.Name, sl z0 a0.Def.Strict.Path O0, sl B0 a0.Def.Strict.Kids P0, sl C0 a0.Def.Defaults Q0]])), hg, (s.sb q q q)⟩⟩
 replace hg := br_f hg T0
 apply wp_exit
 refine p_then ?_
 refine p_then ?_
 refine p_in ?_
 refine S s<|pw<|vw<|mw q<|aw q<|nw fun a s => ?_
 apply wp_ret
 obtain rfl := si hg
 refine fin1 (fn := Tryz.f65) s q (r_tmp s q) ?_
 exact ⟨(A37), (F0), q, (s.rowOut (R := RDef) (kk := 700132) q q (s.ft 133 q))⟩
set_option maxHeartbeats 1000000 in
theorem c_desc_Names_1 (n : Nat) : ∀ (M : Bs) (w0 : World) (hM : ∀ b, M b → b < w0.heap.size) (C : Bs) (d_ : Desc) (r0 : Option Addr) (u0 : Nat) (h0 : Option Addr) (k0 : Nat) (w1 : (d_.Name).length ≤ 9223372036854775807) (a0 : Nat) (d0 : (List (List UInt8))) (y0 : Option Addr) (B0 : Nat) (n0 : List Value) (b0 : Nat) (e0 : (List (List UInt8))) (z0 : Option Addr) (C0 : Nat) (o0 : List Value) (c0 : Nat) (hW : Wd ⟨0, M, C, w0⟩ [(9100000, Ob.box a0 [.slice (y0) ((d0).length) (B0)] 25), (9100100, Ob.box b0 [.slice (z0) ((e0).length) (C0)] 25), (9200000, Ob.row (y0) ((d0).length) (B0) 9 1 (n0)), (9200100, Ob.row (z0) ((e0).length) (C0) 9 1 (o0))] [(9300000, rdF Rep.str (n0) (d0)), (9300100, rdF Rep.str (o0) (e0)), (9400000, slF Rep.str (r0) ((d_.Path).length) (u0) (d_.Path)), (9400001, slF RDesc (h0) ((d_.Kids).length) (k0) (d_.Kids)), (9400002, boxF c0 [.func (.func 107) #[] #[.pointer (some ⟨a0, 0, none⟩), .pointer (some ⟨b0, 0, none⟩), .pointer (some ⟨c0, 0, none⟩)]] 139)] w0) (r : ((List (List UInt8)) × (List (List UInt8)))) (hg : desc_Names_1 n d_ d0 e0 = some r),
    Calls Tryz.prog 107 [.agg #[.int .i64 (d_.Op), vT d_.Name, sl r0 d_.Path u0, sl h0 d_.Kids k0], .pointer (some ⟨a0, 0, none⟩), .pointer (some ⟨b0, 0, none⟩), .pointer (some ⟨c0, 0, none⟩)].toArray w0 (Ret C w0 fun v w => ∃ (S0 : Option Addr), ∃ (X0 : Nat), ∃ (csm0_0 : List Value), ∃ (T0 : Option Addr), ∃ (Y0 : Nat), ∃ (csm1_0 : List Value), v = .tuple #[] ∧ (Wd ⟨0, M, C, w0⟩ [(9100000, Ob.box a0 [sl S0 r.1 X0] 25), (9100100, Ob.box b0 [sl T0 r.2 Y0] 25), (9200000, Ob.row (S0) ((r.1).length) (X0) 9 1 (csm0_0)), (9200100, Ob.row (T0) ((r.2).length) (Y0) 9 1 (csm1_0))] [(9300000, rdF Rep.str (csm0_0) (r.1)), (9300100, rdF Rep.str (csm1_0) (r.2))] w)) := by
 induction n with
 | zero => intros; rename_i hg; rw [desc_Names_1] at hg; cases hg
 | succ n c_self =>
 intro M w0 hM C d_ r0 u0 h0 k0 w1 a0 d0 y0 B0 n0 b0 e0 z0 C0 o0 c0 hW r hg
 rw [desc_Names_1] at hg
 refine enterL M C func107 q q hW ?_
 intro a s
 refine S s<|alw 104 9400000 q<|alw 105 9400001 q<|alw 106 9400002 q<|vw fun a s => ?_
 refine l_seq q (l_box (zs := [vI d_.Op, vT d_.Name, sl r0 d_.Path u0, sl h0 d_.Kids k0]) s 1000 q q q q fun b2 a w hb hK s => ?_)
 refine S s<|nw<|sw<|vw<|yw q (bF 0 · u60 q)<|yw q (lB 1000 · u3 q)<|nw fun a s => ?_
 obtain ⟨k3, hg, o1⟩ := jn_some hg
 refine c_post (fun a w => ∃ (s0 : (List (List UInt8))) (t0 : (List (List UInt8))) (A5 : Option Addr) (c6 : Nat) (F0 : List Value) (A9 : Option Addr) (D0 : Nat) (E0 : List Value), k3 s0 t0 = some r ∧ St (⟨Tryz.f107.ntmps, M, C, w0⟩ : Ctx) [(1, vP a0 0), (2, vP b0 0), (3, vP c0 0), (4, vP b2 0)] [(1000, Ob.box b2 [vI d_.Op, vT d_.Name, sl r0 d_.Path u0, sl h0 d_.Kids k0] 60), (700107, Ob.row (A5) ((s0).length) (c6) 9 1 (F0)), (700109, Ob.row (A9) ((t0).length) (D0) 9 1 (E0)), (9100000, Ob.box a0 [sl A5 s0 c6] 25), (9100100, Ob.box b0 [sl A9 t0 D0] 25)] [(104, sF Rep.str r0 u0 d_.Path), (105, sF RDesc h0 k0 d_.Kids), (106, boxF c0 [.func (.func 107) #[] #[vP a0 0, vP b0 0, vP c0 0]] 139), (108, rdF Rep.str (F0) (s0)), (110, rdF Rep.str (E0) (t0))] a w) ?_ ?_
 ·refine S s<|bw<|vw<|yw q (y_eql · q q)<|aw q<|nw fun a s => c_dec s q (fun P0 => ?_) (fun P0 => ?_)
  ·replace hg := br_t hg P0
   obtain ⟨c1, hg⟩ := chk_some hg
   refine S s<|lw<|yw q (lB 9100000 · u25 q)<|yw q (bF 1 · u60 q)<|yw q (lB 1000 · u9 q) fun a s => ?_
   refine l_seq q (l_buildDense (sz := 1) s 1303 q q q u25 q q q q q q q fun x1 a w i1 hK s => ?_)
   clear i1
   replace s := s.add 113 (rdF Rep.str (cellsOfL [vT d_.Name]) ([d_.Name])) (RdAll.cons (by exact ⟨q, (by omega)⟩) (rN))
   have u1 := row_src (s.wd.holds 1303 _ q) (RdAll.one (s.ft 113 q))
   refine l_seq q (l_append (sz := 1) (by_ := 16) (N := (d0 ++ [d_.Name]).length) s 9200000 q q q u25 q q q q q u1 (by rw [List.length_append]; try rfl) q (rmA c1 q) (rmB c1) q fun U0 Z0 a w hA hK s => ?_)
   replace s := s.add 114 (rdF Rep.str (n0 ++ (cellsOfL [vT d_.Name])) (d0 ++ [d_.Name])) (RdAll.append (s.ft 9300000 q) (s.ft 113 q))
   refine l_seq q (l_store (n := 1) (cs' := [sl U0 (d0 ++ [d_.Name]) Z0]) s 9100000 q q q q q q q q ?_); clear s; intro w hK s; clear hK
   apply wO
   refine p_inN ?_
   refine S s<|pw<|alw 108 114 q<|alw 110 9300100 q fun a s => ?_
   replace s := s.pk [(1000, 1000), (1303, 1303), (700107, 9200000), (700109, 9200100), (9100000, 9100000), (9100100, 9100100)] (by decide)
   exact ⟨(d0 ++ [d_.Name]), (e0), (U0), (Z0), (n0 ++ (cellsOfL [vT d_.Name])), (z0), (C0), (o0), hg, (s.sb q q q)⟩
  replace hg := br_f hg P0
  refine S s<|vw<|yw q (y_eql · q q)<|aw q<|nw fun a s => c_dec s q (fun Q0 => ?_) (fun Q0 => ?_)
  ·replace hg := br_t hg Q0
   obtain ⟨d1, hg⟩ := chk_some hg
   refine S s<|lw<|yw q (lB 9100100 · u25 q)<|yw q (bF 1 · u60 q)<|yw q (lB 1000 · u9 q) fun a s => ?_
   refine l_seq q (l_buildDense (sz := 1) s 1503 q q q u25 q q q q q q q fun y1 a w j1 hK s => ?_)
   clear j1
   replace s := s.add 117 (rdF Rep.str (cellsOfL [vT d_.Name]) ([d_.Name])) (RdAll.cons (by exact ⟨q, (by omega)⟩) (rN))
   have v1 := row_src (s.wd.holds 1503 _ q) (RdAll.one (s.ft 117 q))
   refine l_seq q (l_append (sz := 1) (by_ := 16) (N := (e0 ++ [d_.Name]).length) s 9200100 q q q u25 q q q q q v1 (by rw [List.length_append]; try rfl) q (rmA d1 q) (rmB d1) q fun V0 a1 a w hA hK s => ?_)
   replace s := s.add 118 (rdF Rep.str (o0 ++ (cellsOfL [vT d_.Name])) (e0 ++ [d_.Name])) (RdAll.append (s.ft 9300100 q) (s.ft 117 q))
   refine l_seq q (l_store (n := 1) (cs' := [sl V0 (e0 ++ [d_.Name]) a1]) s 9100100 q q q q q q q q ?_); clear s; intro w hK s; clear hK
   apply wO
   refine p_inN ?_
   refine S s<|pw<|alw 108 9300000 q<|alw 110 118 q fun a s => ?_
   replace s := s.pk [(1000, 1000), (1503, 1503), (700107, 9200000), (700109, 9200100), (9100000, 9100000), (9100100, 9100100)] (by decide)
   exact ⟨(d0), (e0 ++ [d_.Name]), (y0), (B0), (n0), (V0), (a1), (o0 ++ (cellsOfL [vT d_.Name])), hg, (s.sb q q q)⟩
  replace hg := br_f hg Q0
  apply wp_skip
  refine p_inN ?_
  refine S s<|pw<|alw 108 9300000 q<|alw 110 9300100 q fun a s => ?_
  replace s := s.pk [(1000, 1000), (700107, 9200000), (700109, 9200100), (9100000, 9100000), (9100100, 9100100)] (by decide)
  exact ⟨(d0), (e0), (y0), (B0), (n0), (z0), (C0), (o0), hg, (s.sb q q q)⟩
 clear s a; rintro a w ⟨s0, t0, A5, c6, F0, A9, D0, E0, hg, s⟩
 subst o1
 refine S s<|vw<|yw q (bF 3 · u60 q)<|yw q (lB 1000 · u58 q)<|yw q (lS · q u58)<|mw q<|nw<|bw<|alw 120 108 q<|alw 122 110 q fun a s => ?_
 replace s := s.pk [(1000, 1000), (700119, 700107), (700121, 700109), (9100000, 9100000), (9100100, 9100100)] (by decide)
 refine c_loop (σ := Nat) (fun m1 a w => ∃ (q0 : Nat) (i0 : (List (List UInt8))) (j0 : (List (List UInt8))) (A30 : Option Addr) (l0 : Nat) (v0 : List Value) (A34 : Option Addr) (m0 : Nat) (x0 : List Value), desc_Names_1_L0 n d_ (desc_Names_1 n) m1 q0 i0 j0 = some r ∧ St (⟨Tryz.f107.ntmps, M, C, w0⟩ : Ctx) [(1, vP a0 0), (2, vP b0 0), (3, vP c0 0), (24, sl h0 d_.Kids k0), (25, vI ((((d_.Kids).length : Nat) : Int))), (26, vI (((q0 : Nat) : Int)))] [(700119, Ob.row (A30) ((i0).length) (l0) 9 1 (v0)), (700121, Ob.row (A34) ((j0).length) (m0) 9 1 (x0)), (9100000, Ob.box a0 [sl A30 i0 l0] 25), (9100100, Ob.box b0 [sl A34 j0 m0] 25)] [(105, sF RDesc h0 k0 d_.Kids), (106, boxF c0 [.func (.func 107) #[] #[vP a0 0, vP b0 0, vP c0 0]] 139), (120, rdF Rep.str (v0) (i0)), (122, rdF Rep.str (x0) (j0))] a w) (fun m1 => m1) n ⟨(0), (s0), (t0), (A5), (c6), (F0), (A9), (D0), (E0), hg, (s.sb q q q)⟩ ?_
 clear s a; rintro m1 a w ⟨q0, i0, j0, A30, l0, v0, A34, m0, x0, hg, s⟩
 rcases m1 with _ | m1
 ·rw [desc_Names_1_L0] at hg; cases hg
 rw [desc_Names_1_L0] at hg
 refine S s<|vw<|yw q (y_lssN (i := q0) (j := ((d_.Kids).length)) · q q)<|nw<|sw fun a s => c_dec s q (fun R0 => ?_) (fun R0 => ?_)
 ·replace hg := br_t hg R0
  have B1 := SlR.mx (s.ft 105 q)
  obtain ⟨g0, e1, hg⟩ := bind_some hg
  refine S s<|kw<|pw<|sw<|bw<|sw<|lw fun a s => ?_
  obtain ⟨D1, n1, p1, q1, z1, l1, k1⟩ := SlR.elemX (s.ft 105 q) e1
  refine qq s q (eL 4 q0 s u58 n1 (lt_of_get e1) q) fun a s => ?_
  obtain ⟨I0, M0, J0, O0, rfl, C1, r1, s1⟩ := RDesc.open l1
  refine S s<|nsw 125 r1<|nsw 126 s1<|yw q (y_ldp · q p1 q1 (by simpa using k1) u60 q q) fun a s => ?_
  refine l_seq q (l_alloc (zs := [vI 0, vT ([]), nS, nS]) s 1802 q q q q fun g1 a w hb hK s => ?_)
  refine l_seq q (l_store (n := 4) (cs' := [vI g0.Op, vT g0.Name, sl I0 g0.Path M0, sl J0 g0.Kids O0]) s 1802 q q q q q q q q ?_); clear s; intro w hK s; clear hK
  obtain ⟨p0, t1, hg⟩ := bind_some hg
  refine S s<|nw<|lw<|yw q (fun s => y_loadF1 s q (s.ft 106 q) q u139 q)<|yw q (y_loadAll (kk := 1802) · q q u60 q q) fun a s => ?_
  have hT := s.pk [(1802, 1802), (9100000, 9100000), (9100100, 9100100), (9200000, 700119), (9200100, 700121)] (by decide)
  replace hT := hT.al 9300000 120 q
  replace hT := hT.al 9300100 122 q
  replace hT := hT.al 9400000 125 q
  replace hT := hT.al 9400001 126 q
  replace hT := hT.al 9400002 106 q
  refine l_seq q (l_callMut (cap := [vP a0 0, vP b0 0, vP c0 0]) hT _ [] (sbA (by rfl)) trivial (by rfl) q func107 q (by kernel_rfl) q q (c_self _ _ (hT.restLt [1802]) _ g0 (I0) (M0) (J0) (O0) (by omega) a0 i0 (A30) (l0) (v0) b0 j0 (A34) (m0) (x0) c0 (hT.wd.lendL _ _ _ (sbA (by rfl)) (keep_sub [1802]) (by rfl) (sbA (by rfl))) p0 t1) ?_); intro E1 a' w' hK hp hF
  obtain ⟨G0, K0, csm0_0u50, H0, L0, csm1_0u50, rfl, b1⟩ := hp
  have h1 := St.mk hF (hT.wd.back (sbA (by rfl)) (keep_sub [1802]) (by rfl) b1 (by rfl))
  clear s hT hF b1 hK; revert h1; revert w'; revert a'; intro a w s
  replace s := s.al 129 9300000 rfl |>.al 130 9300100 q
  replace s := s.ren [(1802, Ob.box g1 [vI g0.Op, vT g0.Name, sl I0 g0.Path M0, sl J0 g0.Kids O0] 60), (700119, Ob.row (G0) ((p0.1).length) (K0) 9 1 (csm0_0u50)), (700121, Ob.row (H0) ((p0.2).length) (L0) 9 1 (csm1_0u50)), (9100000, Ob.box a0 [sl G0 p0.1 K0] 25), (9100100, Ob.box b0 [sl H0 p0.2 L0] 25)] [1802, 9200000, 9200100, 9100000, 9100100] ⟨q, q, q, q, q, trivial⟩ (by decide)
  apply wO
  refine p_inN ?_
  refine S s<|pw<|lw<|yw q (y_addN (i := q0) (j := 1) · q q (in64.2 (by omega)))<|mw q<|nw<|alw 120 129 q<|alw 122 130 q fun a s => ?_
  exact ⟨m1, Nat.lt_succ_self _, ⟨(q0 + 1), (p0.1), (p0.2), (G0), (K0), (csm0_0u50), (H0), (L0), (csm1_0u50), hg, (s.sb q q q)⟩⟩
 replace hg := br_f hg R0
 apply wp_exit
 refine p_then ?_
 refine p_then ?_
 refine p_in ?_
 replace s := s.al 9300000 120 rfl |>.al 9300100 122 q
 obtain rfl := si hg
 refine fin0 (fn := Tryz.f107) s q ?_ (.inr q)
 exact ⟨(A30), (l0), (v0), (A34), (m0), (x0), q, ((s.ren [(9100000, Ob.box a0 [sl A30 i0 l0] 25), (9100100, Ob.box b0 [sl A34 j0 m0] 25), (9200000, Ob.row (A30) ((i0).length) (l0) 9 1 (v0)), (9200100, Ob.row (A34) ((j0).length) (m0) 9 1 (x0))] [9100000, 9100100, 700119, 700121] ⟨q, q, q, q, trivial⟩ (by decide)).outL ⟨q, q, q, q, trivial⟩ ⟨q, q, trivial⟩)⟩
set_option maxHeartbeats 1000000 in
theorem c_desc_Names (n : Nat) (M : Bs) (w0 : World) (hM : ∀ b, M b → b < w0.heap.size) (d_ : Desc) (a0 : Option Addr) (c0 : Nat) (b0 : Option Addr) (d0 : Nat) (a1 : (d_.Name).length ≤ 9223372036854775807) (P0 : sR Rep.str M w0 a0 c0 d_.Path) (Q0 : sR RDesc M w0 b0 d0 d_.Kids) (r : ((List (List UInt8)) × (List (List UInt8)))) (hg : desc_Names n d_ = some r) :
    Calls Tryz.prog 66 [.agg #[.int .i64 (d_.Op), vT d_.Name, sl a0 d_.Path c0, sl b0 d_.Kids d0]].toArray w0 (Ret noB w0 fun v w => ∃ (z0 : Option Addr), ∃ (C0 : Nat), ∃ (B0 : Option Addr), ∃ (D0 : Nat), v = .tuple #[sl z0 r.1 C0, sl B0 r.2 D0] ∧ (SlR Rep.str M w z0 (r.1).length C0 (r.1)) ∧ (SlR Rep.str M w B0 (r.2).length D0 (r.2))) := by
 unfold desc_Names at hg
 refine enter M noB func66 q q hM ?_
 intro a s
 refine S s<|esw 101 P0<|esw 102 Q0<|vw fun a s => ?_
 refine l_seq q (l_box (zs := [vI d_.Op, vT d_.Name, sl a0 d_.Path c0, sl b0 d_.Kids d0]) s 1000 q q q q fun b2 a w hb hK s => ?_)
 refine S s<|aw q<|aw q<|nw<|vw fun a s => ?_
 refine l_seq q (l_alloc (zs := [nS]) s 1100 q q q q fun b5 a w hb hK s => ?_)
 refine l_seq q (l_alloc (zs := [nS]) s 1101 q q q q fun b6 a w hb hK s => ?_)
 apply wN
 apply wR
 refine l_seq q (l_alloc (zs := [.nilFunc]) s 1200 q q q q fun b8 a w hb hK s => ?_)
 refine S s<|nw<|vw<|yw q (y_makeFunc (xs := [.tmp 4, .tmp 5, .tmp 6]) (vs := [vP b5 0, vP b6 0, vP b8 0]) · q) fun a s => ?_
 refine l_seq q (l_store (n := 1) (cs' := [.func (.func 107) #[] #[vP b5 0, vP b6 0, vP b8 0]]) s 1200 q q q q q q q q ?_); clear s; intro w hK s; clear hK
 obtain ⟨r9, V0, hg⟩ := bind_some hg
 refine S s<|nw<|sw<|lw<|yw q (lB 1200 · u139 q)<|yw q (y_loadAll (kk := 1000) · q q u60 q q) fun a s => ?_
 replace s := s.freezeBox (L' := [(1000, Ob.box b2 [vI d_.Op, vT d_.Name, sl a0 d_.Path c0, sl b0 d_.Kids d0] 60), (1100, Ob.box b5 [nS] 25), (1101, Ob.box b6 [nS] 25)]) 110 1200 q ⟨q, q, q, trivial⟩ q
 replace s := s.nilRow 800111 9 1 q
 replace s := s.add 112 (rdF Rep.str ([]) ([])) (rN)
 replace s := s.nilRow 800113 9 1 q
 replace s := s.add 114 (rdF Rep.str ([]) ([])) (rN)
 have hT := s.pk [(1000, 1000), (9100000, 1100), (9100100, 1101), (9200000, 800111), (9200100, 800113)] (by decide)
 replace hT := hT.al 9300000 112 q
 replace hT := hT.al 9300100 114 q
 replace hT := hT.al 9400000 101 q
 replace hT := hT.al 9400001 102 q
 replace hT := hT.al 9400002 110 q
 refine l_seq q (l_callMut (cap := [vP b5 0, vP b6 0, vP b8 0]) hT _ [] (sbA (by rfl)) trivial (by rfl) q func107 q (by kernel_rfl) q q (c_desc_Names_1 n _ _ (hT.restLt [1000]) _ d_ (a0) (c0) (b0) (d0) (by omega) b5 [] (none) (0) ([]) b6 [] (none) (0) ([]) b8 (hT.wd.lendL _ _ _ (sbA (by rfl)) (keep_sub [1000]) (by rfl) (sbA (by rfl))) r9 V0) ?_); intro b1 a' w' hK hp hF
 obtain ⟨j0, k0, csm0_0u13, e0, g0, csm1_0u13, rfl, F0⟩ := hp
 have m0 := St.mk hF (hT.wd.back (sbA (by rfl)) (keep_sub [1000]) (by rfl) F0 (by rfl))
 clear s hT hF F0 hK; revert m0; revert w'; revert a'; intro a w s
 replace s := s.al 115 9300000 rfl |>.al 116 9300100 q
 replace s := s.ren [(1000, Ob.box b2 [vI d_.Op, vT d_.Name, sl a0 d_.Path c0, sl b0 d_.Kids d0] 60), (1100, Ob.box b5 [sl j0 r9.1 k0] 25), (1101, Ob.box b6 [sl e0 r9.2 g0] 25), (800111, Ob.row (j0) ((r9.1).length) (k0) 9 1 (csm0_0u13)), (800113, Ob.row (e0) ((r9.2).length) (g0) 9 1 (csm1_0u13))] [1000, 9100000, 9100100, 9200000, 9200100] ⟨q, q, q, q, q, trivial⟩ (by decide)
 apply wN
 apply wQ
 apply wR
 refine l_seq q (l_buildDense (sz := 1) s 1500 q q q u141 q q q q q q q fun h0 a w M0 hK s => ?_)
 clear M0
 refine S s<|yw q (lS · q u141)<|mw q<|nw fun a s => ?_
 obtain ⟨X0, hg, O0⟩ := jn_some hg
 refine c_post (fun a w => ∃ (r0 : (List (List UInt8))) (q0 : (List (List UInt8))) (A18 : Option Addr) (s0 : Nat) (x0 : List Value) (A22 : Option Addr) (t0 : Nat) (y0 : List Value), X0 r0 q0 = some r ∧ St (cx f66 M w0) [(4, vP b5 0), (5, vP b6 0)] [(1100, Ob.box b5 [sl A18 r0 s0] 25), (1101, Ob.box b6 [sl A22 q0 t0] 25), (700117, Ob.row (A18) ((r0).length) (s0) 9 1 (x0)), (700119, Ob.row (A22) ((q0).length) (t0) 9 1 (y0))] [(118, rdF Rep.str (x0) (r0)), (120, rdF Rep.str (y0) (q0))] a w) ?_ ?_
 ·apply wp_block
  refine wp_loop_rounds 3 ?_
  refine c_round ?_
  refine S s<|vw<|yw q (y_lss · q q)<|nw<|sw fun a s => c_t s q ?_
  obtain ⟨n0, R0, hg⟩ := bind_some hg
  refine S s<|kw<|pw<|sw<|bw<|vw<|yw q (y_rowIndex (sz := 1) (i := 0) · q q u141 q q q (by decide))<|yw q (y_loadRow1 (kk := 1500) · q q q q u140 q)<|aw q<|nw<|sw<|lw<|mw q<|yw q (y_nilCheck · q)<|yw q (lB 1100 · u25 q) fun a s => ?_
  have hT := s.pk [(1000, 1000), (1100, 1100), (1101, 1101), (1500, 1500), (800113, 800113), (9200000, 800111)] (by decide)
  replace hT := hT.al 9300000 115 q
  refine l_seq q (l_callMut (cap := []) hT _ [] (sbA (by rfl)) trivial (by rfl) q func32 q (by kernel_rfl) q q (c_slices_Sort_string n _ _ (hT.restLt [1000, 1100, 1101, 1500, 800113]) _ r9.1 (j0) (k0) (csm0_0u13) (hT.wd.lendL _ _ _ (sbA (by rfl)) (keep_sub [1000, 1100, 1101, 1500, 800113]) (by rfl) (sbA (by rfl))) n0 R0) ?_); intro c1 a' w' hK hp hF
  obtain ⟨csm0_0u29, rfl, G0⟩ := hp
  have m0 := St.mk hF (hT.wd.back (sbA (by rfl)) (keep_sub [1000, 1100, 1101, 1500, 800113]) (by rfl) G0 (by rfl))
  clear s hT hF G0 hK; revert m0; revert w'; revert a'; intro a w s
  replace s := s.al 122 9300000 q
  replace s := s.ren [(1000, Ob.box b2 [vI d_.Op, vT d_.Name, sl a0 d_.Path c0, sl b0 d_.Kids d0] 60), (1100, Ob.box b5 [sl j0 r9.1 k0] 25), (1101, Ob.box b6 [sl e0 r9.2 g0] 25), (1500, Ob.row (some ⟨h0, 0, none⟩) (2) (2) 140 1 (cellsOfL [vP b5 0, vP b6 0])), (800111, Ob.row (j0) ((r9.1).length) (k0) 9 1 (csm0_0u29)), (800113, Ob.row (e0) ((r9.2).length) (g0) 9 1 (csm1_0u13))] [1000, 1100, 1101, 1500, 9200000, 800113] ⟨q, q, q, q, q, q, trivial⟩ (by decide)
  replace s := s.sub (l' := [(0, .agg #[.int .i64 (d_.Op), .string (bs (d_.Name)), .slice (a0) ((d_.Path).length) (c0), .slice (b0) ((d_.Kids).length) (d0)]), (1, .pointer (some ⟨b2, 0, none⟩)), (2, .slice (none) (0) (0)), (3, .slice (none) (0) (0)), (4, .pointer (some ⟨b5, 0, none⟩)), (5, .pointer (some ⟨b6, 0, none⟩)), (6, .pointer (some ⟨b8, 0, none⟩)), (8, .pointer (some ⟨b5, 0, none⟩)), (9, .func (.func 107) #[] #[.pointer (some ⟨b5, 0, none⟩), .pointer (some ⟨b6, 0, none⟩), .pointer (some ⟨b8, 0, none⟩)]), (10, .func (.func 107) #[] #[.pointer (some ⟨b5, 0, none⟩), .pointer (some ⟨b6, 0, none⟩), .pointer (some ⟨b8, 0, none⟩)]), (11, .agg #[.int .i64 (d_.Op), .string (bs (d_.Name)), .slice (a0) ((d_.Path).length) (c0), .slice (b0) ((d_.Kids).length) (d0)]), (12, .tuple #[]), (13, .slice (some ⟨h0, 0, none⟩) (2) (2)), (14, .int .i64 (2)), (15, .int .i64 (0)), (16, .bool (true)), (17, .pointer (some ⟨h0, 0 * 1, none⟩)), (18, .pointer (some ⟨b5, 0, none⟩)), (19, .pointer (some ⟨b5, 0, none⟩)), (20, .pointer (some ⟨b5, 0, none⟩)), (21, .slice (j0) ((r9.1).length) (k0)), (22, .tuple #[])]) (L' := [(1000, Ob.box b2 [.int .i64 (d_.Op), .string (bs (d_.Name)), .slice (a0) ((d_.Path).length) (c0), .slice (b0) ((d_.Kids).length) (d0)] 60), (1100, Ob.box b5 [.slice (j0) ((r9.1).length) (k0)] 25), (1101, Ob.box b6 [.slice (e0) ((r9.2).length) (g0)] 25), (1500, Ob.row (some ⟨h0, 0, none⟩) (2) (2) 140 1 (cellsOfL [.pointer (some ⟨b5, 0, none⟩), .pointer (some ⟨b6, 0, none⟩)])), (800111, Ob.row (j0) ((r9.1).length) (k0) 9 1 (csm0_0u29)), (800113, Ob.row (e0) ((r9.2).length) (g0) 9 1 (csm1_0u13))]) (D' := [(101, slF Rep.str (a0) ((d_.Path).length) (c0) (d_.Path)), (102, slF RDesc (b0) ((d_.Kids).length) (d0) (d_.Kids)), (110, boxF b8 [.func (.func 107) #[] #[.pointer (some ⟨b5, 0, none⟩), .pointer (some ⟨b6, 0, none⟩), .pointer (some ⟨b8, 0, none⟩)]] 139), (112, rdF Rep.str ([]) ([])), (114, rdF Rep.str ([]) ([])), (115, rdF Rep.str (csm0_0u13) (r9.1)), (116, rdF Rep.str (csm1_0u13) (r9.2)), (122, rdF Rep.str (csm0_0u29) (n0))]) ⟨q, q, q, q, q, q, q, q, q, q, q, q, q, q, q, q, q, q, q, q, q, q, trivial⟩ ⟨q, q, q, q, q, q, trivial⟩ ⟨q, q, q, q, q, q, q, q, trivial⟩
  have K0 := rowN (s.wd.holds 800111 _ q) (s.ft 122 q) q q
  replace s := s.eqs (l' := [(0, .agg #[.int .i64 (d_.Op), .string (bs (d_.Name)), .slice (a0) ((d_.Path).length) (c0), .slice (b0) ((d_.Kids).length) (d0)]), (1, .pointer (some ⟨b2, 0, none⟩)), (2, .slice (none) (0) (0)), (3, .slice (none) (0) (0)), (4, .pointer (some ⟨b5, 0, none⟩)), (5, .pointer (some ⟨b6, 0, none⟩)), (6, .pointer (some ⟨b8, 0, none⟩)), (8, .pointer (some ⟨b5, 0, none⟩)), (9, .func (.func 107) #[] #[.pointer (some ⟨b5, 0, none⟩), .pointer (some ⟨b6, 0, none⟩), .pointer (some ⟨b8, 0, none⟩)]), (10, .func (.func 107) #[] #[.pointer (some ⟨b5, 0, none⟩), .pointer (some ⟨b6, 0, none⟩), .pointer (some ⟨b8, 0, none⟩)]), (11, .agg #[.int .i64 (d_.Op), .string (bs (d_.Name)), .slice (a0) ((d_.Path).length) (c0), .slice (b0) ((d_.Kids).length) (d0)]), (12, .tuple #[]), (13, .slice (some ⟨h0, 0, none⟩) (2) (2)), (14, .int .i64 (2)), (15, .int .i64 (0)), (16, .bool (true)), (17, .pointer (some ⟨h0, 0 * 1, none⟩)), (18, .pointer (some ⟨b5, 0, none⟩)), (19, .pointer (some ⟨b5, 0, none⟩)), (20, .pointer (some ⟨b5, 0, none⟩)), (21, .slice (j0) ((n0).length) (k0)), (22, .tuple #[])]) (L' := [(1000, Ob.box b2 [.int .i64 (d_.Op), .string (bs (d_.Name)), .slice (a0) ((d_.Path).length) (c0), .slice (b0) ((d_.Kids).length) (d0)] 60), (1100, Ob.box b5 [.slice (j0) ((n0).length) (k0)] 25), (1101, Ob.box b6 [.slice (e0) ((r9.2).length) (g0)] 25), (1500, Ob.row (some ⟨h0, 0, none⟩) (2) (2) 140 1 (cellsOfL [.pointer (some ⟨b5, 0, none⟩), .pointer (some ⟨b6, 0, none⟩)])), (800111, Ob.row (j0) ((n0).length) (k0) 9 1 (csm0_0u29)), (800113, Ob.row (e0) ((r9.2).length) (g0) 9 1 (csm1_0u13))]) (by simp only [K0]) (by simp only [K0])
  obtain ⟨i0, S0, hg⟩ := bind_some hg
  refine S s<|nw<|lw<|mw q<|mw q<|yw q (y_nilCheck · q)<|yw q (lB 1100 · u25 q) fun a s => ?_
  have hT := s.pk [(1000, 1000), (1100, 1100), (1101, 1101), (1500, 1500), (800113, 800113), (9200000, 800111)] (by decide)
  replace hT := hT.al 9300000 122 q
  refine l_seq q (l_callMut (cap := []) hT _ [] (sbA (by rfl)) trivial (by rfl) q func33 q (by kernel_rfl) q q (c_slices_Compact_string n _ _ (hT.restLt [1000, 1100, 1101, 1500, 800113]) _ n0 (j0) (k0) (csm0_0u29) (hT.wd.lendL _ _ _ (sbA (by rfl)) (keep_sub [1000, 1100, 1101, 1500, 800113]) (by rfl) (sbA (by rfl))) i0 S0) ?_); intro d1 a' w' hK hp hF
  obtain ⟨Aou34, l0, o0, rfl, H0⟩ := hp
  have m0 := St.mk hF (hT.wd.back (sbA (by rfl)) (keep_sub [1000, 1100, 1101, 1500, 800113]) (by rfl) H0 (by rfl))
  clear s hT hF H0 hK; revert m0; revert w'; revert a'; intro a w s
  replace s := s.al 124 9300000 q
  replace s := s.ren [(1000, Ob.box b2 [vI d_.Op, vT d_.Name, sl a0 d_.Path c0, sl b0 d_.Kids d0] 60), (1100, Ob.box b5 [sl j0 n0 k0] 25), (1101, Ob.box b6 [sl e0 r9.2 g0] 25), (1500, Ob.row (some ⟨h0, 0, none⟩) (2) (2) 140 1 (cellsOfL [vP b5 0, vP b6 0])), (800111, Ob.row (Aou34) ((i0).length) (l0) 9 1 (o0)), (800113, Ob.row (e0) ((r9.2).length) (g0) 9 1 (csm1_0u13))] [1000, 1100, 1101, 1500, 9200000, 800113] ⟨q, q, q, q, q, q, trivial⟩ (by decide)
  refine qq s q (y_nilCheck s q) fun a s => ?_
  refine l_seq q (l_store (n := 1) (cs' := [sl Aou34 i0 l0]) s 1100 q q q q q q q q ?_); clear s; intro w hK s; clear hK
  apply wO
  refine p_inN ?_
  obtain ⟨Y0, hg⟩ := chk_some hg
  refine S s<|pw<|lw<|yw q (y_addN (i := 0) (j := 1) · q q (in64.2 (by omega)))<|mw q<|nw fun a s => ?_
  refine c_round ?_
  refine S s<|vw<|yw q (y_lss · q q)<|nw<|sw fun a s => c_t s q ?_
  obtain ⟨p0, T0, hg⟩ := bind_some hg
  refine S s<|kw<|pw<|sw<|bw<|vw<|yw q (y_rowIndex (sz := 1) (i := 1) · q q u141 q q q (by decide))<|yw q (y_loadRow1 (kk := 1500) · q q q q u140 q)<|aw q<|nw<|sw<|lw<|mw q<|yw q (y_nilCheck · q)<|yw q (lB 1101 · u25 q) fun a s => ?_
  have hT := s.pk [(1000, 1000), (1100, 1100), (1101, 1101), (1500, 1500), (800111, 800111), (9200000, 800113)] (by decide)
  replace hT := hT.al 9300000 116 q
  refine l_seq q (l_callMut (cap := []) hT _ [] (sbA (by rfl)) trivial (by rfl) q func32 q (by kernel_rfl) q q (c_slices_Sort_string n _ _ (hT.restLt [1000, 1100, 1101, 1500, 800111]) _ r9.2 (e0) (g0) (csm1_0u13) (hT.wd.lendL _ _ _ (sbA (by rfl)) (keep_sub [1000, 1100, 1101, 1500, 800111]) (by rfl) (sbA (by rfl))) p0 T0) ?_); intro e1 a' w' hK hp hF
  obtain ⟨csm0_0u40, rfl, I0⟩ := hp
  have m0 := St.mk hF (hT.wd.back (sbA (by rfl)) (keep_sub [1000, 1100, 1101, 1500, 800111]) (by rfl) I0 (by rfl))
  clear s hT hF I0 hK; revert m0; revert w'; revert a'; intro a w s
  replace s := s.al 126 9300000 q
  replace s := s.ren [(1000, Ob.box b2 [vI d_.Op, vT d_.Name, sl a0 d_.Path c0, sl b0 d_.Kids d0] 60), (1100, Ob.box b5 [sl Aou34 i0 l0] 25), (1101, Ob.box b6 [sl e0 r9.2 g0] 25), (1500, Ob.row (some ⟨h0, 0, none⟩) (2) (2) 140 1 (cellsOfL [vP b5 0, vP b6 0])), (800111, Ob.row (Aou34) ((i0).length) (l0) 9 1 (o0)), (800113, Ob.row (e0) ((r9.2).length) (g0) 9 1 (csm0_0u40))] [1000, 1100, 1101, 1500, 800111, 9200000] ⟨q, q, q, q, q, q, trivial⟩ (by decide)
  replace s := s.sub (l' := [(0, .agg #[.int .i64 (d_.Op), .string (bs (d_.Name)), .slice (a0) ((d_.Path).length) (c0), .slice (b0) ((d_.Kids).length) (d0)]), (1, .pointer (some ⟨b2, 0, none⟩)), (2, .slice (none) (0) (0)), (3, .slice (none) (0) (0)), (4, .pointer (some ⟨b5, 0, none⟩)), (5, .pointer (some ⟨b6, 0, none⟩)), (6, .pointer (some ⟨b8, 0, none⟩)), (8, .pointer (some ⟨b6, 0, none⟩)), (9, .func (.func 107) #[] #[.pointer (some ⟨b5, 0, none⟩), .pointer (some ⟨b6, 0, none⟩), .pointer (some ⟨b8, 0, none⟩)]), (10, .func (.func 107) #[] #[.pointer (some ⟨b5, 0, none⟩), .pointer (some ⟨b6, 0, none⟩), .pointer (some ⟨b8, 0, none⟩)]), (11, .agg #[.int .i64 (d_.Op), .string (bs (d_.Name)), .slice (a0) ((d_.Path).length) (c0), .slice (b0) ((d_.Kids).length) (d0)]), (12, .tuple #[]), (13, .slice (some ⟨h0, 0, none⟩) (2) (2)), (14, .int .i64 (2)), (15, .int .i64 (((1 : Nat) : Int))), (16, .bool (true)), (17, .pointer (some ⟨h0, 1 * 1, none⟩)), (18, .pointer (some ⟨b6, 0, none⟩)), (19, .pointer (some ⟨b6, 0, none⟩)), (20, .pointer (some ⟨b6, 0, none⟩)), (21, .slice (e0) ((r9.2).length) (g0)), (22, .tuple #[]), (23, .pointer (some ⟨b5, 0, none⟩)), (24, .pointer (some ⟨b5, 0, none⟩)), (25, .pointer (some ⟨b5, 0, none⟩)), (27, .slice (Aou34) ((i0).length) (l0)), (28, .pointer (some ⟨b5, 0, none⟩)), (29, .int .i64 (((1 : Nat) : Int)))]) (L' := [(1000, Ob.box b2 [.int .i64 (d_.Op), .string (bs (d_.Name)), .slice (a0) ((d_.Path).length) (c0), .slice (b0) ((d_.Kids).length) (d0)] 60), (1100, Ob.box b5 [.slice (Aou34) ((i0).length) (l0)] 25), (1101, Ob.box b6 [.slice (e0) ((r9.2).length) (g0)] 25), (1500, Ob.row (some ⟨h0, 0, none⟩) (2) (2) 140 1 (cellsOfL [.pointer (some ⟨b5, 0, none⟩), .pointer (some ⟨b6, 0, none⟩)])), (800111, Ob.row (Aou34) ((i0).length) (l0) 9 1 (o0)), (800113, Ob.row (e0) ((r9.2).length) (g0) 9 1 (csm0_0u40))]) (D' := [(101, slF Rep.str (a0) ((d_.Path).length) (c0) (d_.Path)), (102, slF RDesc (b0) ((d_.Kids).length) (d0) (d_.Kids)), (110, boxF b8 [.func (.func 107) #[] #[.pointer (some ⟨b5, 0, none⟩), .pointer (some ⟨b6, 0, none⟩), .pointer (some ⟨b8, 0, none⟩)]] 139), (112, rdF Rep.str ([]) ([])), (114, rdF Rep.str ([]) ([])), (115, rdF Rep.str (csm0_0u13) (r9.1)), (116, rdF Rep.str (csm1_0u13) (r9.2)), (122, rdF Rep.str (csm0_0u29) (n0)), (124, rdF Rep.str (o0) (i0)), (126, rdF Rep.str (csm0_0u40) (p0))]) ⟨q, q, q, q, q, q, q, q, q, q, q, q, q, q, q, q, q, q, q, q, q, q, q, q, q, q, q, q, trivial⟩ ⟨q, q, q, q, q, q, trivial⟩ ⟨q, q, q, q, q, q, q, q, q, q, trivial⟩
  have L0 := rowN (s.wd.holds 800113 _ q) (s.ft 126 q) q q
  replace s := s.eqs (l' := [(0, .agg #[.int .i64 (d_.Op), .string (bs (d_.Name)), .slice (a0) ((d_.Path).length) (c0), .slice (b0) ((d_.Kids).length) (d0)]), (1, .pointer (some ⟨b2, 0, none⟩)), (2, .slice (none) (0) (0)), (3, .slice (none) (0) (0)), (4, .pointer (some ⟨b5, 0, none⟩)), (5, .pointer (some ⟨b6, 0, none⟩)), (6, .pointer (some ⟨b8, 0, none⟩)), (8, .pointer (some ⟨b6, 0, none⟩)), (9, .func (.func 107) #[] #[.pointer (some ⟨b5, 0, none⟩), .pointer (some ⟨b6, 0, none⟩), .pointer (some ⟨b8, 0, none⟩)]), (10, .func (.func 107) #[] #[.pointer (some ⟨b5, 0, none⟩), .pointer (some ⟨b6, 0, none⟩), .pointer (some ⟨b8, 0, none⟩)]), (11, .agg #[.int .i64 (d_.Op), .string (bs (d_.Name)), .slice (a0) ((d_.Path).length) (c0), .slice (b0) ((d_.Kids).length) (d0)]), (12, .tuple #[]), (13, .slice (some ⟨h0, 0, none⟩) (2) (2)), (14, .int .i64 (2)), (15, .int .i64 (((1 : Nat) : Int))), (16, .bool (true)), (17, .pointer (some ⟨h0, 1 * 1, none⟩)), (18, .pointer (some ⟨b6, 0, none⟩)), (19, .pointer (some ⟨b6, 0, none⟩)), (20, .pointer (some ⟨b6, 0, none⟩)), (21, .slice (e0) ((p0).length) (g0)), (22, .tuple #[]), (23, .pointer (some ⟨b5, 0, none⟩)), (24, .pointer (some ⟨b5, 0, none⟩)), (25, .pointer (some ⟨b5, 0, none⟩)), (27, .slice (Aou34) ((i0).length) (l0)), (28, .pointer (some ⟨b5, 0, none⟩)), (29, .int .i64 (((1 : Nat) : Int)))]) (L' := [(1000, Ob.box b2 [.int .i64 (d_.Op), .string (bs (d_.Name)), .slice (a0) ((d_.Path).length) (c0), .slice (b0) ((d_.Kids).length) (d0)] 60), (1100, Ob.box b5 [.slice (Aou34) ((i0).length) (l0)] 25), (1101, Ob.box b6 [.slice (e0) ((p0).length) (g0)] 25), (1500, Ob.row (some ⟨h0, 0, none⟩) (2) (2) 140 1 (cellsOfL [.pointer (some ⟨b5, 0, none⟩), .pointer (some ⟨b6, 0, none⟩)])), (800111, Ob.row (Aou34) ((i0).length) (l0) 9 1 (o0)), (800113, Ob.row (e0) ((p0).length) (g0) 9 1 (csm0_0u40))]) (by simp only [L0]) (by simp only [L0])
  obtain ⟨u0, U0, hg⟩ := bind_some hg
  refine S s<|nw<|lw<|mw q<|mw q<|yw q (y_nilCheck · q)<|yw q (lB 1101 · u25 q) fun a s => ?_
  have hT := s.pk [(1000, 1000), (1100, 1100), (1101, 1101), (1500, 1500), (800111, 800111), (9200000, 800113)] (by decide)
  replace hT := hT.al 9300000 126 q
  refine l_seq q (l_callMut (cap := []) hT _ [] (sbA (by rfl)) trivial (by rfl) q func33 q (by kernel_rfl) q q (c_slices_Compact_string n _ _ (hT.restLt [1000, 1100, 1101, 1500, 800111]) _ p0 (e0) (g0) (csm0_0u40) (hT.wd.lendL _ _ _ (sbA (by rfl)) (keep_sub [1000, 1100, 1101, 1500, 800111]) (by rfl) (sbA (by rfl))) u0 U0) ?_); intro g1 a' w' hK hp hF
  obtain ⟨Aou45, v0, E0, rfl, J0⟩ := hp
  have m0 := St.mk hF (hT.wd.back (sbA (by rfl)) (keep_sub [1000, 1100, 1101, 1500, 800111]) (by rfl) J0 (by rfl))
  clear s hT hF J0 hK; revert m0; revert w'; revert a'; intro a w s
  replace s := s.al 128 9300000 q
  replace s := s.ren [(1000, Ob.box b2 [vI d_.Op, vT d_.Name, sl a0 d_.Path c0, sl b0 d_.Kids d0] 60), (1100, Ob.box b5 [sl Aou34 i0 l0] 25), (1101, Ob.box b6 [sl e0 p0 g0] 25), (1500, Ob.row (some ⟨h0, 0, none⟩) (2) (2) 140 1 (cellsOfL [vP b5 0, vP b6 0])), (800111, Ob.row (Aou34) ((i0).length) (l0) 9 1 (o0)), (800113, Ob.row (Aou45) ((u0).length) (v0) 9 1 (E0))] [1000, 1100, 1101, 1500, 800111, 9200000] ⟨q, q, q, q, q, q, trivial⟩ (by decide)
  refine qq s q (y_nilCheck s q) fun a s => ?_
  refine l_seq q (l_store (n := 1) (cs' := [sl Aou45 u0 v0]) s 1101 q q q q q q q q ?_); clear s; intro w hK s; clear hK
  apply wO
  refine p_inN ?_
  obtain ⟨Z0, hg⟩ := chk_some hg
  refine S s<|pw<|lw<|yw q (y_addN (i := 1) (j := 1) · q q (in64.2 (by omega)))<|mw q<|nw fun a s => ?_
  refine c_round ?_
  refine S s<|vw<|yw q (y_lss · q q)<|nw<|sw fun a s => c_f s q ?_
  apply wp_exit
  refine p_then ?_
  refine p_then ?_
  refine p_in ?_
  refine S s<|pw<|alw 118 124 q<|alw 120 128 q fun a s => ?_
  replace s := s.pk [(1000, 1000), (1100, 1100), (1101, 1101), (1500, 1500), (700117, 800111), (700119, 800113)] (by decide)
  exact ⟨(i0), (u0), (Aou34), (l0), (o0), (Aou45), (v0), (E0), hg, (s.sb q q q)⟩
 clear s a; rintro a w ⟨r0, q0, A18, s0, x0, A22, t0, y0, hg, s⟩
 subst O0
 apply wQ
 refine d_plan s [] [(0, some 1100), (1, some 1101), (2, some 0), (3, some 0)] q (by kernel_rfl) (by kernel_rfl) q ?_; clear s; intro wr hZ s; have hR := s.wd
 refine S s<|qw hR q (lB 1100 · u25 q)<|qw hR q (lB 1101 · u25 q)<|qw hR q (y_assign · q)<|qw hR q (y_assign · q) fun a s => ?_
 clear hR hZ
 apply pN
 apply wp_ret
 obtain rfl := si hg
 refine fin2 (fn := Tryz.f66) s q (r_tmp s q) (r_tmp s q) ?_
 exact ⟨(A18), (s0), (A22), (t0), q, (s.rowOut (R := Rep.str) (kk := 700117) q q (s.ft 118 q)), (s.rowOut (R := Rep.str) (kk := 700119) q q (s.ft 120 q))⟩
end Go.Proofs.YtbhjplflnkidgaaGreat


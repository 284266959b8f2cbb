/- Chapter 42: the walk of SolveFewer -/
import Derived.Test.YtdicfdfncbmmpaaW4
namespace Go.Proofs.Ytdicfdfncbmmpaa
open Go.Gl Go.RowKit
set_option linter.unusedVariables false
set_option linter.unusedSimpArgs false
set_option maxRecDepth 4000

set_option maxHeartbeats 400000 in
theorem c_law42_SolveFewer (n : Nat) (M : Bs) (w0 : World) (hM : ∀ b, M b → b < w0.heap.size) (t_ : MRS) (Ap03 : Option Addr) (cp03 : Nat) (Ap04 : Option Addr) (cp04 : Nat) (Ap05 : Option Addr) (cp05 : Nat) (hp03 : SlR Rep.str M w0 Ap03 (t_.Vars).length cp03 (t_.Vars)) (hp04 : SlR REP M w0 Ap04 (t_.Rels).length cp04 (t_.Rels)) (hp05 : SlR RQeq M w0 Ap05 (t_.Cons).length cp05 (t_.Cons)) (t_' : UInt8) (r : Bool) (hg : law42_SolveFewer n t_ t_' = some r) :
    Calls Try.prog 6 [.agg #[.int .i64 (t_.Top), .int .i64 (t_.Index), .slice (Ap03) ((t_.Vars).length) (cp03), .slice (Ap04) ((t_.Rels).length) (cp04), .slice (Ap05) ((t_.Cons).length) (cp05)], .int .u8 (((t_'.toNat : Nat) : Int))].toArray w0 (Ret noB w0 fun v w => v = .bool (r)) := by
 unfold law42_SolveFewer at hg
 refine enter M noB Try.func6 rfl rfl hM ?_
 intro a hS
 replace hS := hS.es 101 hp03
 replace hS := hS.es 102 hp04
 replace hS := hS.es 103 hp05
 apply wR
 refine l_seq rfl (l_box (zs := [.int .i64 (t_.Top), .int .i64 (t_.Index), .slice (Ap03) ((t_.Vars).length) (cp03), .slice (Ap04) ((t_.Rels).length) (cp04), .slice (Ap05) ((t_.Cons).length) (cp05)]) hS 1000 rfl rfl rfl rfl ?_); clear hS a; intro b2 a w hb hK hS
 clear hb hK
 refine qq hS rfl (y_assign hS rfl) fun a hS => ?_
 apply wN
 apply wp_seq
 apply wp_seq
 obtain ⟨k3, hg, hk3⟩ := jn_some hg
 refine c_post (fun a w => ∃ (t_4 : Bool), k3 t_4 = some r ∧ St (⟨Try.f6.ntmps, M, noB, w0⟩ : Ctx) [(1, .int .u8 (((t_'.toNat : Nat) : Int))), (2, .pointer (some ⟨b2, 0, none⟩)), (23, .bool (t_4))] [(1000, Ob.box b2 [.int .i64 (t_.Top), .int .i64 (t_.Index), .slice (Ap03) ((t_.Vars).length) (cp03), .slice (Ap04) ((t_.Rels).length) (cp04), .slice (Ap05) ((t_.Cons).length) (cp05)] 26)] [(101, slF Rep.str (Ap03) ((t_.Vars).length) (cp03) (t_.Vars)), (102, slF REP (Ap04) ((t_.Rels).length) (cp04) (t_.Rels)), (103, slF RQeq (Ap05) ((t_.Cons).length) (cp05) (t_.Cons))] a w) ?_ ?_
 ·obtain ⟨r5, hr5, hg⟩ := bind_some hg
  rcases Bool.eq_false_or_eq_true (!(r5)) with hs8 | hs8
  ·replace hg := br_t hg hs8
   apply wp_region_lit
   refine qq hS rfl (y_loadBox (kk := 1000) (n := 5) (vs := [.int .i64 (t_.Top), .int .i64 (t_.Index), .slice (Ap03) ((t_.Vars).length) (cp03), .slice (Ap04) ((t_.Rels).length) (cp04), .slice (Ap05) ((t_.Cons).length) (cp05)]) hS rfl rfl Try.underlying26 rfl rfl rfl rfl) fun a hS => ?_
   refine l_seq rfl (l_call (cap := []) hS rfl Try.func7 rfl (by kernel_rfl) rfl rfl (c_law42_valid n _ _ hS.lt t_ (Ap03) (cp03) (Ap04) (cp04) (Ap05) (cp05) (hS.fact (k := 101) rfl) (hS.fact (k := 102) rfl) (hS.fact (k := 103) rfl) r5 hr5) ?_); clear hS a; intro v9 a w hK hp hS
   clear hK
   obtain rfl := hp
   refine qq hS rfl (yl_b (y_not hS rfl) hs8) fun a hS => ?_
   refine qq hS rfl (y_move hS rfl) fun a hS => ?_
   refine gn hS rfl fun a hS => ?_
   refine gn hS rfl fun a hS => ?_
   refine gn hS rfl fun a hS => ?_
   refine gn hS rfl fun a hS => ?_
   refine qq hS rfl (y_pick_t hS rfl rfl) fun a hS => ?_
   apply wN
   exact ⟨(true), hg, (hS.sb rfl rfl rfl)⟩
  ·replace hg := br_f hg (by rw [hs8]; exact Bool.false_ne_true)
   apply wp_region_lit
   refine qq hS rfl (y_loadBox (kk := 1000) (n := 5) (vs := [.int .i64 (t_.Top), .int .i64 (t_.Index), .slice (Ap03) ((t_.Vars).length) (cp03), .slice (Ap04) ((t_.Rels).length) (cp04), .slice (Ap05) ((t_.Cons).length) (cp05)]) hS rfl rfl Try.underlying26 rfl rfl rfl rfl) fun a hS => ?_
   refine l_seq rfl (l_call (cap := []) hS rfl Try.func7 rfl (by kernel_rfl) rfl rfl (c_law42_valid n _ _ hS.lt t_ (Ap03) (cp03) (Ap04) (cp04) (Ap05) (cp05) (hS.fact (k := 101) rfl) (hS.fact (k := 102) rfl) (hS.fact (k := 103) rfl) r5 hr5) ?_); clear hS a; intro v11 a w hK hp hS
   clear hK
   obtain rfl := hp
   refine qq hS rfl (yl_b (y_not hS rfl) hs8) fun a hS => ?_
   refine qq hS rfl (y_move hS rfl) fun a hS => ?_
   refine gy hS rfl (y_boxField (o' := 4) hS rfl Try.underlying26 rfl rfl rfl) fun a hS => ?_
   refine gy hS rfl (y_loadBox1 (kk := 1000) hS rfl rfl rfl Try.underlying24 rfl) fun a hS => ?_
   refine gy hS rfl (y_lenSlice hS rfl Try.underlying24) fun a hS => ?_
   refine gy hS rfl (y_eqlN (i := ((t_.Cons).length)) (j := 0) hS rfl rfl) fun a hS => ?_
   refine qq hS rfl (y_pick_f hS rfl rfl) fun a hS => ?_
   apply wN
   exact ⟨(decide (((t_.Cons).length) = 0)), hg, (hS.sb rfl rfl rfl)⟩
 clear hS a; rintro a w ⟨t_4, hg, hS⟩
 subst hk3
 refine c_cond hS rfl (fun hc13 => ?_) (fun hc13 => ?_)
 ·replace hg := br_t hg hc13
  apply wp_seq
  obtain ⟨r14, hr14, hg⟩ := bind_some hg
  apply wp_region_lit
  refine l_seq rfl (l_call (cap := []) hS rfl Try.func8 rfl (by kernel_rfl) rfl rfl (c_law42_exampleHolds n _ _ hS.lt  r14 hr14) ?_); clear hS a; intro v17 a w hK hp hS
  clear hK
  obtain rfl := hp
  refine qq hS rfl (y_assign hS rfl) fun a hS => ?_
  apply wN
  apply wp_ret
  refine p_thenR ?_
  obtain rfl := Option.some.inj hg
  refine fin1 (fn := Try.f6) hS rfl (r_tmp hS rfl) ?_
  exact rfl
 ·replace hg := br_f hg (by rw [hc13]; exact Bool.false_ne_true)
  apply wp_skip
  refine p_norm ?_
  apply wp_seq
  obtain ⟨hk19, hg⟩ := chk_some hg
  apply wp_region_lit
  refine qq hS rfl (y_move hS rfl) fun a hS => ?_
  have hu8 := (t_').toNat_lt
  refine qq hS rfl (y_conv hS rfl Try.underlying5 Try.underlying3 (in64.2 (by omega))) fun a hS => ?_
  clear hu8
  refine qq hS rfl (y_boxField (o' := 4) hS rfl Try.underlying26 rfl rfl rfl) fun a hS => ?_
  refine qq hS rfl (y_loadBox1 (kk := 1000) hS rfl rfl rfl Try.underlying24 rfl) fun a hS => ?_
  refine qq hS rfl (y_lenSlice hS rfl Try.underlying24) fun a hS => ?_
  refine qq hS rfl (y_remN (i := t_'.toNat) (j := ((t_.Cons).length)) hS rfl rfl hk19) fun a hS => ?_
  refine qq hS rfl (y_assign hS rfl) fun a hS => ?_
  apply wN
  apply wR
  refine qq hS rfl (y_loadBox (kk := 1000) (n := 5) (vs := [.int .i64 (t_.Top), .int .i64 (t_.Index), .slice (Ap03) ((t_.Vars).length) (cp03), .slice (Ap04) ((t_.Rels).length) (cp04), .slice (Ap05) ((t_.Cons).length) (cp05)]) hS rfl rfl Try.underlying26 rfl rfl rfl rfl) fun a hS => ?_
  refine l_seq rfl (l_alloc (zs := [.int .i64 (0), .int .i64 (0), .slice (none) (0) (0), .slice (none) (0) (0), .slice (none) (0) (0)]) hS 1401 rfl rfl rfl rfl ?_); clear hS a; intro b21 a w hb hK hS
  clear hb hK
  refine l_seq rfl (l_store (n := 5) (cs' := [.int .i64 (t_.Top), .int .i64 (t_.Index), .slice (Ap03) ((t_.Vars).length) (cp03), .slice (Ap04) ((t_.Rels).length) (cp04), .slice (Ap05) ((t_.Cons).length) (cp05)]) hS 1401 rfl rfl rfl rfl rfl rfl rfl rfl ?_); clear hS; intro w hK hS; clear hK
  apply wN
  apply wp_seq
  obtain ⟨hk23, hg⟩ := chk_some hg
  obtain ⟨hk24, hg⟩ := chk_some hg
  obtain ⟨hk27, hg⟩ := chk_some hg
  obtain ⟨hk28, hg⟩ := chk_some hg
  obtain ⟨hk29, hg⟩ := chk_some hg
  refine d_plan hS [(13, 1401)] [(1, some 0), (2, some 1000), (3, some 0), (4, some 0), (6, some 0), (7, some 1000), (8, some 0), (9, some 0), (10, some 0), (0, none), (5, none), (11, none), (12, none), (13, none)] rfl (by kernel_rfl) (by kernel_rfl) rfl ?_; clear hS; intro wr hZ hS; have hR := hS.wd
  refine q_take hS hR rfl rfl rfl rfl (y_boxField (o' := 4) hS rfl Try.underlying26 rfl rfl rfl) fun a hS => ?_
  refine q_take hS hR rfl rfl rfl rfl (y_loadBox1 (kk := 1000) hS rfl rfl rfl Try.underlying24 rfl) fun a hS => ?_
  refine q_take hS hR rfl rfl rfl rfl (y_move hS rfl) fun a hS => ?_
  have hcap111 := (hS.fact (k := 103) rfl).cap
  refine q_take hS hR rfl rfl rfl rfl (y_cutH (xs := t_.Cons) (sz := 2) (i := (t_'.toNat % ((t_.Cons).length))) hS rfl rfl Try.underlying24 rfl rfl hk23 hcap111) fun a hS => ?_
  replace hS := hS.add 111 (slF RQeq (Ap05) (((t_.Cons).take (t_'.toNat % ((t_.Cons).length))).length) (cp05) ((t_.Cons).take (t_'.toNat % ((t_.Cons).length)))) (SlR.cutH (hS.fact (k := 103) rfl) (t_'.toNat % ((t_.Cons).length)) hk23)
  refine q_take hS hR rfl rfl rfl rfl (y_boxField (o' := 4) hS rfl Try.underlying26 rfl rfl rfl) fun a hS => ?_
  refine q_take hS hR rfl rfl rfl rfl (y_loadBox1 (kk := 1000) hS rfl rfl rfl Try.underlying24 rfl) fun a hS => ?_
  refine q_take hS hR rfl rfl rfl rfl (y_move hS rfl) fun a hS => ?_
  refine q_take hS hR rfl rfl rfl rfl (y_addN (i := (t_'.toNat % ((t_.Cons).length))) (j := 1) hS rfl rfl (in64.2 (by omega))) fun a hS => ?_
  have hcap112 := (hS.fact (k := 103) rfl).cap
  refine q_take hS hR rfl rfl rfl rfl (y_cutL (xs := t_.Cons) (sz := 2) (i := (t_'.toNat % ((t_.Cons).length) + 1)) hS rfl rfl Try.underlying24 rfl rfl hk28 hcap112) fun a hS => ?_
  replace hS := hS.add 112 (slF RQeq (if cp05 = t_'.toNat % ((t_.Cons).length) + 1 then Ap05 else (Ap05).map (·.add ((t_'.toNat % ((t_.Cons).length) + 1) * 2))) (((t_.Cons).drop (t_'.toNat % ((t_.Cons).length) + 1)).length) (cp05 - (t_'.toNat % ((t_.Cons).length) + 1)) ((t_.Cons).drop (t_'.toNat % ((t_.Cons).length) + 1))) (SlR.cutL (hS.fact (k := 103) rfl) (t_'.toNat % ((t_.Cons).length) + 1) hk28)
  refine l_take hS rfl rfl (l_buildEmpty (sz := 2) hS 1500 Try.underlying24 rfl rfl rfl ?_); clear hS a; intro b32 a w hbb32 hK hS
  have hNb32 := NewA.lit hZ hbb32
  clear hbb32
  replace hZ := Nat.le_trans hZ hK.size; refine ⟨fun g _ h => h.grow hK, ?_⟩; clear hK
  replace hS := hS.add 113 (rdF RQeq ([]) ([])) (RdAll.nil _ _ _)
  obtain ⟨ns34, hs34, hns34⟩ := SlR.src (hS.fact (k := 111) rfl)
  replace hS := hS.add 114 (rdF RQeq ns34 ((t_.Cons).take (t_'.toNat % ((t_.Cons).length)))) hns34
  refine l_take hS rfl rfl (l_append (sz := 2) (by_ := 16) (N := ((t_.Cons).take (t_'.toNat % ((t_.Cons).length))).length) (ys := ns34) hS 1500 rfl rfl rfl Try.underlying24 rfl rfl rfl rfl rfl hs34 (by simp) rfl (by have hr := hk24; clear hg; first | omega | (simp only [List.length_append, List.length_cons, List.length_nil] at hr ⊢; omega) | (simp at hr ⊢; omega)) (by have hr := hk24; clear hg; first | omega | (simp only [List.length_append, List.length_cons, List.length_nil] at hr ⊢; omega) | (simp at hr ⊢; omega)) rfl ?_); clear hS a; intro Aq33 cq33 a w hA hK hS
  have hNq33 := NewA.app hZ hNb32 hA; replace hZ := Nat.le_trans hZ hK.size; refine ⟨fun g _ h => h.app hR hK (NewA.ids hNb32), ?_⟩
  clear hK hA
  replace hS := hS.add 115 (rdF RQeq (ns34) ((t_.Cons).take (t_'.toNat % ((t_.Cons).length)))) (hS.fact (k := 114) rfl)
  obtain ⟨ns36, hs36, hns36⟩ := SlR.src (hS.fact (k := 112) rfl)
  replace hS := hS.add 116 (rdF RQeq ns36 ((t_.Cons).drop (t_'.toNat % ((t_.Cons).length) + 1))) hns36
  refine l_take hS rfl rfl (l_append (sz := 2) (by_ := 16) (N := (((t_.Cons).take (t_'.toNat % ((t_.Cons).length))) ++ ((t_.Cons).drop (t_'.toNat % ((t_.Cons).length) + 1))).length) (ys := ns34 ++ ns36) hS 1500 rfl rfl rfl Try.underlying24 rfl rfl rfl rfl rfl hs36 (by simp) rfl (by have hr := hk29; clear hg; first | omega | (simp only [List.length_append, List.length_cons, List.length_nil] at hr ⊢; omega) | (simp at hr ⊢; omega)) (by have hr := hk29; clear hg; first | omega | (simp only [List.length_append, List.length_cons, List.length_nil] at hr ⊢; omega) | (simp at hr ⊢; omega)) rfl ?_); clear hS a; intro Aq35 cq35 a w hA hK hS
  have hNq35 := NewA.app hZ hNq33 hA; replace hZ := Nat.le_trans hZ hK.size; refine ⟨fun g _ h => h.app hR hK (NewA.ids hNq33), ?_⟩
  clear hK hA
  replace hS := hS.add 117 (rdF RQeq (ns34 ++ ns36) (((t_.Cons).take (t_'.toNat % ((t_.Cons).length))) ++ ((t_.Cons).drop (t_'.toNat % ((t_.Cons).length) + 1)))) (RdAll.append (hS.fact (k := 115) rfl) (hS.fact (k := 116) rfl))
  refine l_take hS rfl rfl (l_quiet hS rfl rfl (y_boxField (o' := 4) hS rfl Try.underlying26 rfl rfl rfl) fun a hS => ?_); refine ⟨fun g _ h => h, ?_⟩
  refine l_take hS rfl rfl (l_store (n := 1) (cs' := [.int .i64 (t_.Top), .int .i64 (t_.Index), .slice (Ap03) ((t_.Vars).length) (cp03), .slice (Ap04) ((t_.Rels).length) (cp04), .slice (Aq35) ((((t_.Cons).take (t_'.toNat % ((t_.Cons).length))) ++ ((t_.Cons).drop (t_'.toNat % ((t_.Cons).length) + 1))).length) (cq35)]) hS 1401 rfl rfl rfl rfl rfl rfl rfl rfl ?_); clear hS; intro w hK hS; replace hZ := Nat.le_trans hZ hK.size
  refine ⟨fun g hg h => h.obj hR (kk := 1401) rfl hK (by rintro rfl; exact absurd hg (by decide)), ?_⟩; clear hK
  clear hR hZ
  refine p_norm ?_
  apply wp_seq
  apply wp_seq
  obtain ⟨r37, hr37, hg⟩ := bind_some hg
  apply wp_region_lit
  refine qq hS rfl (y_loadBox (kk := 1401) (n := 5) (vs := [.int .i64 (t_.Top), .int .i64 (t_.Index), .slice (Ap03) ((t_.Vars).length) (cp03), .slice (Ap04) ((t_.Rels).length) (cp04), .slice (Aq35) ((((t_.Cons).take (t_'.toNat % ((t_.Cons).length))) ++ ((t_.Cons).drop (t_'.toNat % ((t_.Cons).length) + 1))).length) (cq35)]) hS rfl rfl Try.underlying26 rfl rfl rfl rfl) fun a hS => ?_
  have hT := hS
  replace hT := hT.fz (R := RQeq) (kk := 1500) [1000, 1401] 119 rfl rfl (hT.fact (k := 117) rfl) rfl
  refine l_seq rfl (l_call (cap := []) hS rfl Try.func18 rfl (by kernel_rfl) rfl rfl (c_r39_Check n _ _ hT.lt (MRS.mk t_.Top t_.Index t_.Vars t_.Rels (((t_.Cons).take (t_'.toNat % ((t_.Cons).length))) ++ ((t_.Cons).drop (t_'.toNat % ((t_.Cons).length) + 1)))) (Ap03) (cp03) (Ap04) (cp04) (Aq35) (cq35) (hT.fact (k := 101) rfl) (hT.fact (k := 102) rfl) (hT.fact (k := 119) rfl) r37 hr37) ?_); clear hS hT a; intro v40 a w hK hp hS
  clear hK
  obtain rfl := hp
  refine qq hS rfl (y_neq hS rfl rfl) fun a hS => ?_
  apply wN
  refine c_dec hS rfl (fun hc42 => ?_) (fun hc42 => ?_)
  ·replace hg := br_t hg hc42
   apply wp_seq
   obtain ⟨r43, hr43, hg⟩ := bind_some hg
   apply wp_region_lit
   refine l_seq rfl (l_call (cap := []) hS rfl Try.func8 rfl (by kernel_rfl) rfl rfl (c_law42_exampleHolds n _ _ hS.lt  r43 hr43) ?_); clear hS a; intro v46 a w hK hp hS
   clear hK
   obtain rfl := hp
   refine qq hS rfl (y_assign hS rfl) fun a hS => ?_
   apply wN
   apply wp_ret
   refine p_thenR ?_
   obtain rfl := Option.some.inj hg
   refine fin1 (fn := Try.f6) hS rfl (r_tmp hS rfl) ?_
   exact rfl
  ·replace hg := br_f hg hc42
   apply wp_skip
   refine p_norm ?_
   apply wp_seq
   obtain ⟨r48, hr48, hg⟩ := bind_some hg
   apply wp_region_lit
   refine qq hS rfl (y_loadBox (kk := 1000) (n := 5) (vs := [.int .i64 (t_.Top), .int .i64 (t_.Index), .slice (Ap03) ((t_.Vars).length) (cp03), .slice (Ap04) ((t_.Rels).length) (cp04), .slice (Ap05) ((t_.Cons).length) (cp05)]) hS rfl rfl Try.underlying26 rfl rfl rfl rfl) fun a hS => ?_
   refine l_seq rfl (l_call (cap := []) hS rfl Try.func9 rfl (by kernel_rfl) rfl rfl (c_solve_All n _ _ hS.lt t_ (Ap03) (cp03) (Ap04) (cp04) (Ap05) (cp05) (hS.fact (k := 101) rfl) (hS.fact (k := 102) rfl) (hS.fact (k := 103) rfl) 0 r48 hr48) ?_); clear hS a; intro v51 a w hK hp hS
   clear hK
   obtain ⟨Au52a1, cu52a1, rfl, hu52a1⟩ := hp
   replace hS := hS.add 121 (slF (Rep.list (Rep.num .i64)) (Au52a1) ((r48.1).length) (cu52a1) (r48.1)) hu52a1
   refine qq hS rfl (y_move hS rfl) fun a hS => ?_
   refine qq hS rfl (y_extract hS rfl rfl) fun a hS => ?_
   refine qq hS rfl (y_extract hS rfl rfl) fun a hS => ?_
   refine qq hS rfl (y_extract hS rfl rfl) fun a hS => ?_
   refine qq hS rfl (y_assign hS rfl) fun a hS => ?_
   refine qq hS rfl (y_assign hS rfl) fun a hS => ?_
   refine qq hS rfl (y_assign hS rfl) fun a hS => ?_
   apply wN
   apply wp_seq
   obtain ⟨r53, hr53, hg⟩ := bind_some hg
   apply wp_region_lit
   refine qq hS rfl (y_loadBox (kk := 1401) (n := 5) (vs := [.int .i64 (t_.Top), .int .i64 (t_.Index), .slice (Ap03) ((t_.Vars).length) (cp03), .slice (Ap04) ((t_.Rels).length) (cp04), .slice (Aq35) ((((t_.Cons).take (t_'.toNat % ((t_.Cons).length))) ++ ((t_.Cons).drop (t_'.toNat % ((t_.Cons).length) + 1))).length) (cq35)]) hS rfl rfl Try.underlying26 rfl rfl rfl rfl) fun a hS => ?_
   replace hS := hS.freeze (R := RQeq) (kk := 1500) (L' := [(1000, Ob.box b2 [.int .i64 (t_.Top), .int .i64 (t_.Index), .slice (Ap03) ((t_.Vars).length) (cp03), .slice (Ap04) ((t_.Rels).length) (cp04), .slice (Ap05) ((t_.Cons).length) (cp05)] 26), (1401, Ob.box b21 [.int .i64 (t_.Top), .int .i64 (t_.Index), .slice (Ap03) ((t_.Vars).length) (cp03), .slice (Ap04) ((t_.Rels).length) (cp04), .slice (Aq35) ((((t_.Cons).take (t_'.toNat % ((t_.Cons).length))) ++ ((t_.Cons).drop (t_'.toNat % ((t_.Cons).length) + 1))).length) (cq35)] 26)]) 124 rfl rfl (hS.fact (k := 117) rfl) ⟨rfl, rfl, trivial⟩ rfl
   refine l_seq rfl (l_call (cap := []) hS rfl Try.func9 rfl (by kernel_rfl) rfl rfl (c_solve_All n _ _ hS.lt (MRS.mk t_.Top t_.Index t_.Vars t_.Rels (((t_.Cons).take (t_'.toNat % ((t_.Cons).length))) ++ ((t_.Cons).drop (t_'.toNat % ((t_.Cons).length) + 1)))) (Ap03) (cp03) (Ap04) (cp04) (Aq35) (cq35) (hS.fact (k := 101) rfl) (hS.fact (k := 102) rfl) (hS.fact (k := 124) rfl) 0 r53 hr53) ?_); clear hS a; intro v56 a w hK hp hS
   clear hK
   obtain ⟨Au57a1, cu57a1, rfl, hu57a1⟩ := hp
   replace hS := hS.add 125 (slF (Rep.list (Rep.num .i64)) (Au57a1) ((r53.1).length) (cu57a1) (r53.1)) hu57a1
   refine qq hS rfl (y_move hS rfl) fun a hS => ?_
   refine qq hS rfl (y_extract hS rfl rfl) fun a hS => ?_
   refine qq hS rfl (y_extract hS rfl rfl) fun a hS => ?_
   refine qq hS rfl (y_extract hS rfl rfl) fun a hS => ?_
   refine qq hS rfl (y_assign hS rfl) fun a hS => ?_
   refine qq hS rfl (y_assign hS rfl) fun a hS => ?_
   refine qq hS rfl (y_assign hS rfl) fun a hS => ?_
   apply wN
   apply wp_seq
   apply wR
   refine qq hS rfl (y_move hS rfl) fun a hS => ?_
   refine qq hS rfl (y_move hS rfl) fun a hS => ?_
   refine qq hS rfl (y_neq hS rfl rfl) fun a hS => ?_
   apply wN
   refine c_dec hS rfl (fun hc58 => ?_) (fun hc58 => ?_)
   ·replace hg := br_t hg hc58
    apply wR
    refine qq hS rfl (y_assign hS rfl) fun a hS => ?_
    apply wN
    apply wp_ret
    refine p_thenR ?_
    obtain rfl := Option.some.inj hg
    refine fin1 (fn := Try.f6) hS rfl (r_tmp hS rfl) ?_
    exact rfl
   ·replace hg := br_f hg hc58
    apply wp_skip
    refine p_norm ?_
    apply wR
    refine qq hS rfl (y_assign hS rfl) fun a hS => ?_
    apply wN
    apply wp_seq
    apply wR
    refine qq hS rfl (y_move hS rfl) fun a hS => ?_
    refine qq hS rfl (y_lenSlice hS rfl Try.underlying29) fun a hS => ?_
    refine qq hS rfl (y_move hS rfl) fun a hS => ?_
    apply wN
    obtain ⟨k59, hg, hk59⟩ := jn_some hg
    refine c_post (fun a w => k59 = some r ∧ St (⟨Try.f6.ntmps, M, noB, w0⟩ : Ctx) [] [] [] a w) ?_ ?_
    ·apply wp_block
     refine c_loop (σ := Nat) (fun m1 a w => ∃ (t_60 : Nat), ∃ (t_61 : Nat), law42_SolveFewer_L0 n r48 r53 k59 m1 t_60 t_61 = some r ∧ St (⟨Try.f6.ntmps, M, noB, w0⟩ : Ctx) [(7, .slice (Au52a1) ((r48.1).length) (cu52a1)), (10, .slice (Au57a1) ((r53.1).length) (cu57a1)), (13, .int .i64 (((t_60 : Nat) : Int))), (65, .int .i64 ((((r48.1).length : Nat) : Int))), (66, .int .i64 (((t_61 : Nat) : Int)))] [] [(121, slF (Rep.list (Rep.num .i64)) (Au52a1) ((r48.1).length) (cu52a1) (r48.1)), (125, slF (Rep.list (Rep.num .i64)) (Au57a1) ((r53.1).length) (cu57a1) (r53.1))] a w) (fun m1 => m1) n ⟨(0), (0), hg, (hS.sb rfl rfl rfl)⟩ ?_
     clear hS a; rintro m1 a w ⟨t_60, t_61, hg, hS⟩
     rcases m1 with _ | m1
     ·rw [law42_SolveFewer_L0] at hg; cases hg
     rw [law42_SolveFewer_L0] at hg
     apply wR
     refine qq hS rfl (y_lssN (i := t_61) (j := ((r48.1).length)) hS rfl rfl) fun a hS => ?_
     apply wN
     apply wp_seq
     refine c_dec hS rfl (fun hc62 => ?_) (fun hc62 => ?_)
     ·replace hg := br_t hg hc62
      have hmx63 := SlR.mx (hS.fact (k := 121) rfl)
      apply wp_skip
      refine p_norm ?_
      apply wp_seq
      apply wp_block
      apply wR
      refine qq hS rfl (y_move hS rfl) fun a hS => ?_
      refine qq hS rfl (y_assign hS rfl) fun a hS => ?_
      apply wN
      apply wp_seq
      obtain ⟨k64, hg, hk64⟩ := jn_some hg
      refine c_post (fun a w => ∃ (t_65 : Nat), k64 t_65 = some r ∧ St (⟨Try.f6.ntmps, M, noB, w0⟩ : Ctx) [(7, .slice (Au52a1) ((r48.1).length) (cu52a1)), (10, .slice (Au57a1) ((r53.1).length) (cu57a1)), (13, .int .i64 (((t_65 : Nat) : Int))), (65, .int .i64 ((((r48.1).length : Nat) : Int))), (66, .int .i64 (((t_61 : Nat) : Int)))] [] [(121, slF (Rep.list (Rep.num .i64)) (Au52a1) ((r48.1).length) (cu52a1) (r48.1)), (125, slF (Rep.list (Rep.num .i64)) (Au57a1) ((r53.1).length) (cu57a1) (r53.1))] a w) ?_ ?_
      ·apply wp_block
       refine c_loop (σ := Nat) (fun m2 a w => ∃ (t_66 : Nat), law42_SolveFewer_L1 n r48 r53 t_61 k64 m2 t_66 = some r ∧ St (⟨Try.f6.ntmps, M, noB, w0⟩ : Ctx) [(7, .slice (Au52a1) ((r48.1).length) (cu52a1)), (10, .slice (Au57a1) ((r53.1).length) (cu57a1)), (13, .int .i64 (((t_66 : Nat) : Int))), (14, .int .i64 (((t_61 : Nat) : Int))), (65, .int .i64 ((((r48.1).length : Nat) : Int))), (66, .int .i64 (((t_61 : Nat) : Int)))] [] [(121, slF (Rep.list (Rep.num .i64)) (Au52a1) ((r48.1).length) (cu52a1) (r48.1)), (125, slF (Rep.list (Rep.num .i64)) (Au57a1) ((r53.1).length) (cu57a1) (r53.1))] a w) (fun m2 => m2) n ⟨(t_60), hg, (hS.sb rfl rfl rfl)⟩ ?_
       clear hS a; rintro m2 a w ⟨t_66, hg, hS⟩
       rcases m2 with _ | m2
       ·rw [law42_SolveFewer_L1] at hg; cases hg
       rw [law42_SolveFewer_L1] at hg
       apply wp_seq
       apply wp_seq
       obtain ⟨k67, hg, hk67⟩ := jn_some hg
       refine c_post (fun a w => ∃ (t_68 : Bool), k67 t_68 = some r ∧ St (⟨Try.f6.ntmps, M, noB, w0⟩ : Ctx) [(7, .slice (Au52a1) ((r48.1).length) (cu52a1)), (10, .slice (Au57a1) ((r53.1).length) (cu57a1)), (13, .int .i64 (((t_66 : Nat) : Int))), (14, .int .i64 (((t_61 : Nat) : Int))), (65, .int .i64 ((((r48.1).length : Nat) : Int))), (66, .int .i64 (((t_61 : Nat) : Int))), (84, .bool (t_68))] [] [(121, slF (Rep.list (Rep.num .i64)) (Au52a1) ((r48.1).length) (cu52a1) (r48.1)), (125, slF (Rep.list (Rep.num .i64)) (Au57a1) ((r53.1).length) (cu57a1) (r53.1))] a w) ?_ ?_
       ·rcases Decidable.em (t_66 < ((r53.1).length)) with hs69 | hs69
        ·have hs69e : decide (t_66 < ((r53.1).length)) = true := decide_eq_true hs69
         replace hg := br_t hg hs69
         have hmx70 := SlR.mx (hS.fact (k := 125) rfl)
         obtain ⟨x72, hx72, hg⟩ := bind_some hg
         obtain ⟨x75, hx75, hg⟩ := bind_some hg
         obtain ⟨r77, hr77, hg⟩ := bind_some hg
         refine d_plan hS [] [(0, some 0), (1, some 0), (2, some 0), (3, some 0), (4, some 0), (5, some 0), (6, some 0), (7, some 0), (8, some 0), (9, some 0), (10, some 0), (11, some 0), (12, some 0), (13, none), (14, none), (15, none)] rfl (by kernel_rfl) (by kernel_rfl) rfl ?_; clear hS; intro wr hZ hS; have hR := hS.wd
         refine q_take hS hR rfl rfl rfl rfl (y_move hS rfl) fun a hS => ?_
         refine q_take hS hR rfl rfl rfl rfl (y_move hS rfl) fun a hS => ?_
         refine q_take hS hR rfl rfl rfl rfl (y_lenSlice hS rfl Try.underlying29) fun a hS => ?_
         refine q_take hS hR rfl rfl rfl rfl (yl_b (y_lssN (i := t_66) (j := ((r53.1).length)) hS rfl rfl) hs69e) fun a hS => ?_
         refine q_take hS hR rfl rfl rfl rfl (y_move hS rfl) fun a hS => ?_
         refine q_take hS hR rfl rfl ⟨_, _, _, rfl, rfl, rfl, rfl⟩ rfl (y_move hS rfl) fun a hS => ?_
         refine q_take hS hR rfl rfl ⟨_, _, _, rfl, rfl, rfl, rfl⟩ rfl (y_move hS rfl) fun a hS => ?_
         obtain ⟨p80, hep80, hpp80⟩ := SlR.elemX (hS.fact (k := 121) rfl) hx72
         refine q_take hS hR rfl rfl ⟨_, _, _, rfl, rfl, rfl, rfl⟩ rfl (y_elem (sz := 1) (i := t_61) hS rfl rfl Try.underlying29 rfl hep80 rfl (lt_of_get hx72)) fun a hS => ?_
         obtain ⟨hlq81, hmq81, csq81, hdq81, hcq81⟩ := hpp80
         obtain ⟨Aq811, nnq81, cq811, rfl, hq811⟩ := hdq81
         obtain rfl := hq811.len
         replace hS := hS.add 128 (slF (Rep.num .i64) (Aq811) ((x72).length) (cq811) (x72)) hq811
         refine q_take hS hR rfl rfl ⟨_, _, _, rfl, rfl, rfl, rfl⟩ rfl (y_ldp1 hS rfl hlq81 hmq81 (hcq81 0 _ rfl) Try.underlying33 rfl) fun a hS => ?_
         refine q_take hS hR rfl rfl ⟨_, _, _, rfl, rfl, rfl, rfl⟩ rfl (y_move hS rfl) fun a hS => ?_
         refine q_take hS hR rfl rfl ⟨_, _, _, rfl, rfl, rfl, rfl⟩ rfl (y_move hS rfl) fun a hS => ?_
         obtain ⟨p82, hep82, hpp82⟩ := SlR.elemX (hS.fact (k := 125) rfl) hx75
         refine q_take hS hR rfl rfl ⟨_, _, _, rfl, rfl, rfl, rfl⟩ rfl (y_elem (sz := 1) (i := t_66) hS rfl rfl Try.underlying29 rfl hep82 rfl (lt_of_get hx75)) fun a hS => ?_
         obtain ⟨hlq83, hmq83, csq83, hdq83, hcq83⟩ := hpp82
         obtain ⟨Aq831, nnq83, cq831, rfl, hq831⟩ := hdq83
         obtain rfl := hq831.len
         replace hS := hS.add 129 (slF (Rep.num .i64) (Aq831) ((x75).length) (cq831) (x75)) hq831
         refine q_take hS hR rfl rfl ⟨_, _, _, rfl, rfl, rfl, rfl⟩ rfl (y_ldp1 hS rfl hlq83 hmq83 (hcq83 0 _ rfl) Try.underlying33 rfl) fun a hS => ?_
         refine l_take hS rfl ⟨_, _, _, rfl, rfl, rfl, rfl⟩ (l_call (cap := []) hS rfl Try.func17 rfl (by kernel_rfl) rfl rfl (c_r41_Same n _ _ hS.lt x72 (Aq811) (cq811) (hS.fact (k := 128) rfl) x75 (Aq831) (cq831) (hS.fact (k := 129) rfl) r77 hr77) ?_); clear hS a; intro v84 a w hK hp hS
         replace hZ := Nat.le_trans hZ hK.size; refine ⟨fun g _ h => h.grow hK, ?_⟩; clear hK
         obtain rfl := hp
         refine l_take hS rfl ⟨_, _, _, rfl, rfl, rfl, rfl⟩ (l_quiet hS rfl rfl (y_not hS rfl) fun a hS => ?_); refine ⟨fun g _ h => h, ?_⟩
         refine l_take hS rfl rfl (l_quiet hS rfl rfl (y_pick_t hS rfl rfl) fun a hS => ?_); refine ⟨fun g _ h => h, ?_⟩
         clear hR hZ
         refine p_norm ?_
         exact ⟨(!(r77)), hg, (hS.sb rfl rfl rfl)⟩
        ·have hs69e : decide (t_66 < ((r53.1).length)) = false := decide_eq_false hs69
         replace hg := br_f hg hs69
         refine d_plan hS [] [(0, some 0), (1, some 0), (2, some 0), (3, some 0), (4, some 0), (5, some 0), (6, some 0), (7, some 0), (8, some 0), (9, some 0), (10, some 0), (11, some 0), (12, some 0), (13, some 0), (14, some 0), (15, some 0)] rfl (by kernel_rfl) (by kernel_rfl) rfl ?_; clear hS; intro wr hZ hS; have hR := hS.wd
         refine q_take hS hR rfl rfl rfl rfl (y_move hS rfl) fun a hS => ?_
         refine q_take hS hR rfl rfl rfl rfl (y_move hS rfl) fun a hS => ?_
         refine q_take hS hR rfl rfl rfl rfl (y_lenSlice hS rfl Try.underlying29) fun a hS => ?_
         refine q_take hS hR rfl rfl rfl rfl (yl_b (y_lssN (i := t_66) (j := ((r53.1).length)) hS rfl rfl) hs69e) fun a hS => ?_
         refine q_take hS hR rfl rfl rfl rfl (y_move hS rfl) fun a hS => ?_
         refine q_pass hS hR rfl rfl ⟨_, _, _, rfl, rfl, rfl, rfl⟩ rfl fun a hS => ?_
         refine q_pass hS hR rfl rfl ⟨_, _, _, rfl, rfl, rfl, rfl⟩ rfl fun a hS => ?_
         refine q_pass hS hR rfl rfl ⟨_, _, _, rfl, rfl, rfl, rfl⟩ rfl fun a hS => ?_
         refine q_pass hS hR rfl rfl ⟨_, _, _, rfl, rfl, rfl, rfl⟩ rfl fun a hS => ?_
         refine q_pass hS hR rfl rfl ⟨_, _, _, rfl, rfl, rfl, rfl⟩ rfl fun a hS => ?_
         refine q_pass hS hR rfl rfl ⟨_, _, _, rfl, rfl, rfl, rfl⟩ rfl fun a hS => ?_
         refine q_pass hS hR rfl rfl ⟨_, _, _, rfl, rfl, rfl, rfl⟩ rfl fun a hS => ?_
         refine q_pass hS hR rfl rfl ⟨_, _, _, rfl, rfl, rfl, rfl⟩ rfl fun a hS => ?_
         refine q_pass hS hR rfl rfl ⟨_, _, _, rfl, rfl, rfl, rfl⟩ rfl fun a hS => ?_
         refine q_pass hS hR rfl rfl ⟨_, _, _, rfl, rfl, rfl, rfl⟩ rfl fun a hS => ?_
         refine q_take hS hR rfl rfl rfl rfl (y_pick_f hS rfl rfl) fun a hS => ?_
         clear hR hZ
         refine p_norm ?_
         exact ⟨(false), hg, (hS.sb rfl rfl rfl)⟩
       clear hS a; rintro a w ⟨t_68, hg, hS⟩
       subst hk67
       refine c_cond hS rfl (fun hc86 => ?_) (fun hc86 => ?_)
       ·replace hg := br_t hg hc86
        apply wp_skip
        refine p_norm ?_
        apply wp_block
        obtain ⟨hk87, hg⟩ := chk_some hg
        apply wp_region_lit
        refine qq hS rfl (y_move hS rfl) fun a hS => ?_
        refine qq hS rfl (y_addN (i := t_66) (j := 1) hS rfl rfl (in64.2 (by omega))) fun a hS => ?_
        refine qq hS rfl (y_assign hS rfl) fun a hS => ?_
        apply wpList_nil
        refine p_inN ?_
        refine p_norm ?_
        exact ⟨m2, Nat.lt_succ_self _, ⟨(t_66 + 1), hg, (hS.sb rfl rfl rfl)⟩⟩
       ·replace hg := br_f hg (by rw [hc86]; exact Bool.false_ne_true)
        apply wp_exit
        refine p_then ?_
        refine p_then ?_
        refine p_in ?_
        refine p_norm ?_
        exact ⟨(t_66), hg, (hS.sb rfl rfl rfl)⟩
      clear hS a; rintro a w ⟨t_65, hg, hS⟩
      subst hk64
      apply wR
      refine qq hS rfl (y_move hS rfl) fun a hS => ?_
      refine qq hS rfl (y_move hS rfl) fun a hS => ?_
      refine qq hS rfl (y_lenSlice hS rfl Try.underlying29) fun a hS => ?_
      refine qq hS rfl (y_eqlN (i := t_65) (j := ((r53.1).length)) hS rfl rfl) fun a hS => ?_
      apply wN
      refine c_dec hS rfl (fun hc88 => ?_) (fun hc88 => ?_)
      ·replace hg := br_t hg hc88
       apply wR
       refine qq hS rfl (y_assign hS rfl) fun a hS => ?_
       apply wN
       apply wp_ret
       refine p_inR ?_
       refine p_thenR ?_
       refine p_thenR ?_
       refine p_inR ?_
       refine p_thenR ?_
       obtain rfl := Option.some.inj hg
       refine fin1 (fn := Try.f6) hS rfl (r_tmp hS rfl) ?_
       exact rfl
      ·replace hg := br_f hg hc88
       apply wp_skip
       refine p_inN ?_
       refine p_norm ?_
       apply wp_region_lit
       refine qq hS rfl (y_addN (i := t_61) (j := 1) hS rfl rfl (in64.2 (by omega))) fun a hS => ?_
       refine qq hS rfl (y_move hS rfl) fun a hS => ?_
       apply wN
       exact ⟨m1, Nat.lt_succ_self _, ⟨(t_65), (t_61 + 1), hg, (hS.sb rfl rfl rfl)⟩⟩
     ·replace hg := br_f hg hc62
      apply wp_exit
      refine p_then ?_
      refine p_then ?_
      refine p_in ?_
      refine p_norm ?_
      exact ⟨hg, (hS.sb rfl rfl rfl)⟩
    clear hS a; rintro a w ⟨hg, hS⟩
    subst hk59
    apply wp_seq
    obtain ⟨r89, hr89, hg⟩ := bind_some hg
    apply wp_region_lit
    refine l_seq rfl (l_call (cap := []) hS rfl Try.func8 rfl (by kernel_rfl) rfl rfl (c_law42_exampleHolds n _ _ hS.lt  r89 hr89) ?_); clear hS a; intro v92 a w hK hp hS
    clear hK
    obtain rfl := hp
    refine qq hS rfl (y_assign hS rfl) fun a hS => ?_
    apply wN
    apply wp_ret
    obtain rfl := Option.some.inj hg
    refine fin1 (fn := Try.f6) hS rfl (r_tmp hS rfl) ?_
    exact rfl
end Go.Proofs.Ytdicfdfncbmmpaa

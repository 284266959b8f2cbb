/- Chapter 03: the walks, part 2 -/
import Derived.Test.YtoeolfnjblibpaaW1
namespace Go.Proofs.Ytoeolfnjblibpaa
open Go.Gl Go.RowKit Try
set_option linter.unusedVariables false
set_option linter.unusedSimpArgs false
set_option maxRecDepth 4000

set_option maxHeartbeats 400000 in
theorem c_slices_DeleteFunc_string (n : Nat) (M : Bs) (w0 : World) (hM : ∀ b, M b → b < w0.heap.size) (C : Bs) (s_ : (List (List UInt8))) (Ap01 : Option Addr) (cp01 : Nat) (csp00 : List Value) (del_ : ((List UInt8) → Option Bool)) (Ap11 : FuncId) (cp11 : List Value) (hW : Wd ⟨0, M, C, w0⟩ [(9200000, Ob.row (Ap01) ((s_).length) (cp01) 9 1 (csp00))] [(9300000, rdF Rep.str (csp00) (s_)), (9400000, fnF Try.prog Ap11 cp11 pre53 post53 (del_))] w0) (r : (List (List UInt8))) (hg : slices_DeleteFunc_string n s_ del_ = some r) :
    Calls Try.prog 48 [.slice (Ap01) ((s_).length) (cp01), .func (.func Ap11) #[] (List.toArray cp11)].toArray w0 (Ret C w0 fun v w => ∃ (Ao : Option Addr), ∃ (co : Nat), ∃ (cso : List Value), v = .slice (Ao) ((r).length) (co) ∧ (Wd ⟨0, M, C, w0⟩ [(9200000, Ob.row (Ao) ((r).length) (co) 9 1 (cso))] [(9300000, rdF Rep.str (cso) (r))] w)) := by
 unfold slices_DeleteFunc_string at hg
 refine enterL M C func48 rfl rfl hW ?_
 intro a s
 apply wR
 refine asg s rfl rfl fun a s => ?_
 apply wN
 apply wQ
 obtain ⟨r1, hr1, hg⟩ := bind_some hg
 apply wL
 refine mv s rfl rfl fun a s => ?_
 refine mv s rfl rfl fun a s => ?_
 have hT := s
 replace hT := hT.fz (R := Rep.str) (kk := 9200000) [] 103 rfl rfl (hT.ft 9300000 rfl) rfl
 refine l_seq rfl (l_call (cap := []) s rfl func60 rfl (by kernel_rfl) rfl rfl (c_slices_IndexFunc_string n _ _ hT.lt s_ (Ap01) (cp01) (hT.ft 103 rfl) del_ (Ap11) (cp11) (hT.ft 9400000 rfl) r1 hr1) fun v4 a w hK hp s => ?_)
 obtain rfl := hp
 refine asg s rfl rfl fun a s => ?_
 apply wN
 apply wQ
 apply wR
 refine mv s rfl rfl fun a s => ?_
 refine qq s rfl (y_eql s rfl rfl) fun a s => ?_
 apply wN
 refine c_dec s rfl (fun hc6 => ?_) (fun hc6 => ?_)
 ·replace hg := br_t hg hc6
  apply wR
  refine mv s rfl rfl fun a s => ?_
  refine asg s rfl rfl fun a s => ?_
  apply wN
  apply wp_ret
  refine p_thenR ?_
  replace s := s.al 9300000 9300000 rfl
  obtain rfl := Option.some.inj hg
  refine fin1 (fn := Try.f48) s rfl (r_tmp s rfl) ?_
  exact ⟨(Ap01), (cp01), (csp00), rfl, ((s.ren [(9200000, Ob.row (Ap01) ((s_).length) (cp01) 9 1 (csp00))] [9200000] ⟨rfl, trivial⟩ (by decide)).outL ⟨rfl, trivial⟩ ⟨rfl, trivial⟩)⟩
 replace hg := br_f hg hc6
 apply wp_skip
 apply pN
 apply wQ
 apply wQ
 obtain ⟨hk7, hg⟩ := chk_some hg
 apply wL
 refine mv s rfl rfl fun a s => ?_
 refine qq s rfl (y_add s rfl rfl (in64.2 hk7)) fun a s => ?_
 refine asg s rfl rfl fun a s => ?_
 apply wN
 obtain ⟨k8, hg, hk8⟩ := jn_some hg
 refine c_post (fun a w => ∃ (s_9 : (List (List UInt8))) (i_13 : Int) (A10 : Option Addr) (c11 : Nat) (cs12 : List Value), k8 s_9 i_13 = some r ∧ St (⟨Try.f48.ntmps, M, C, w0⟩ : Ctx) [(0, sl A10 (s_9) c11), (5, vI i_13)] [(700104, Ob.row (A10) ((s_9).length) (c11) 9 1 (cs12))] [(105, rdF Rep.str (cs12) (s_9))] a w) ?_ ?_
 ·apply wp_block
  replace s := s.al 107 9300000 rfl
  replace s := s.pk [(700106, 9200000)] (by decide)
  refine c_loop (σ := Nat) (fun m1 a w => ∃ (s_14 : (List (List UInt8))) (i_18 : Int) (j_19 : Int) (A15 : Option Addr) (c16 : Nat) (cs17 : List Value), slices_DeleteFunc_string_L0 n del_ k8 m1 s_14 i_18 j_19 = some r ∧ St (⟨Try.f48.ntmps, M, C, w0⟩ : Ctx) [(0, sl A15 (s_14) c16), (1, .func (.func Ap11) #[] (List.toArray cp11)), (5, vI i_18), (6, vI j_19)] [(700106, Ob.row (A15) ((s_14).length) (c16) 9 1 (cs17))] [(107, rdF Rep.str (cs17) (s_14)), (9400000, fnF Try.prog Ap11 cp11 pre53 post53 (del_))] a w) (fun m1 => m1) n ⟨(s_), (r1), (r1 + 1), (Ap01), (cp01), (csp00), hg, (s.sb rfl rfl rfl)⟩ ?_
  clear s a; rintro m1 a w ⟨s_14, i_18, j_19, A15, c16, cs17, hg, s⟩
  rcases m1 with _ | m1
  ·rw [slices_DeleteFunc_string_L0] at hg; cases hg
  rw [slices_DeleteFunc_string_L0] at hg
  apply wQ
  apply wR
  refine mv s rfl rfl fun a s => ?_
  refine mv s rfl rfl fun a s => ?_
  refine qq s rfl (y_lenSlice s rfl underlying27) fun a s => ?_
  refine qq s rfl (y_lss s rfl rfl) fun a s => ?_
  apply wN
  refine c_dec s rfl (fun hc20 => ?_) (fun hc20 => ?_)
  ·replace hg := br_t hg hc20
   apply wp_skip
   apply pN
   apply wQ
   apply wp_block
   apply wQ
   obtain ⟨x22, hx22, hg⟩ := bind_some hg
   apply wL
   refine mv s rfl rfl fun a s => ?_
   refine mv s rfl rfl fun a s => ?_
   obtain ⟨hiq24, bq24, hAq24⟩ := SlR.row1 (s.wd.holds 700106 _ rfl) (s.ft 107 rfl) rfl rfl (ix_some hx22).1
   refine qq s rfl (y_rowIndex (sz := 1) (i := ((j_19).toNat)) s rfl rfl underlying27 rfl hAq24 (ix_some hx22).2.1 hiq24) fun a s => ?_
   have hz25 := (s.ft 107 rfl).at_ _ _ (ix_some hx22).1
   obtain ⟨ez25, lz251⟩ := hz25
   refine qq s rfl (y_loadRow1 (kk := 700106) s rfl rfl hAq24 (take1 ez25) underlying9 rfl) fun a s => ?_
   refine asg s rfl rfl fun a s => ?_
   apply wN
   apply wQ
   obtain ⟨r26, hr26, hg⟩ := bind_some hg
   apply wL
   refine mv s rfl rfl fun a s => ?_
   refine mv s rfl rfl fun a s => ?_
   refine l_seq rfl (l_callFn (cap := cp11) (x := x22) s rfl (s.ft 9400000 rfl) rfl rfl ⟨rfl, (by omega)⟩ hr26 fun v29 a w hK hp s => ?_)
   obtain rfl := hp
   refine qq s rfl (y_not s rfl) fun a s => ?_
   apply wN
   refine c_cond s rfl (fun hc31 => ?_) (fun hc31 => ?_)
   ·replace hg := br_t hg hc31
    apply wQ
    obtain ⟨x33, hx33, hg⟩ := bind_some hg
    apply wL
    refine mv s rfl rfl fun a s => ?_
    refine mv s rfl rfl fun a s => ?_
    refine mv s rfl rfl fun a s => ?_
    obtain ⟨hiq34, bq34, hAq34⟩ := SlR.row1 (s.wd.holds 700106 _ rfl) (s.ft 107 rfl) rfl rfl (ix_some hx33).1
    refine qq s rfl (y_rowIndex (sz := 1) (i := ((i_18).toNat)) s rfl rfl underlying27 rfl hAq34 (ix_some hx33).2.1 hiq34) fun a s => ?_
    have hzi := lt_of_get (ix_some hx33).1
    have hzn := rowN (s.wd.holds 700106 _ rfl) (s.ft 107 rfl) rfl rfl
    have hzf : ((i_18).toNat) * 1 + 1 ≤ ((s_14).length) * 1 := by have := Nat.mul_le_mul_right 1 (Nat.succ_le_of_lt hzi); omega
    refine l_seq rfl (l_storeRow (N := 1) (cs' := splice (cs17) (((i_18).toNat) * 1) [vT x22]) s 700106 rfl rfl rfl hAq34 rfl rfl hzf rfl rfl ?_); clear s; intro w hK s; clear hK
    replace s := s.sub (l' := [(0, .slice (A15) ((s_14).length) (c16)), (1, .func (.func Ap11) #[] (List.toArray cp11)), (5, .int .i64 (i_18)), (6, .int .i64 (j_19)), (7, .string (bs (x22))), (16, .int .i64 (j_19)), (17, .slice (A15) ((s_14).length) (c16)), (18, .int .i64 ((((s_14).length : Nat) : Int))), (19, .bool (decide (j_19 < (((s_14).length : Nat) : Int)))), (22, .slice (A15) ((s_14).length) (c16)), (23, .int .i64 (j_19)), (24, .pointer (some ⟨bq24, ((j_19).toNat) * 1, none⟩)), (25, .string (bs (x22))), (26, .func (.func Ap11) #[] (List.toArray cp11)), (27, .string (bs (x22))), (28, .bool (r26)), (29, .bool (!(r26))), (30, .slice (A15) ((s_14).length) (c16)), (31, .int .i64 (i_18)), (32, .string (bs (x22))), (33, .pointer (some ⟨bq34, ((i_18).toNat) * 1, none⟩))]) (L' := [(700106, Ob.row (A15) ((s_14).length) (c16) 9 1 (splice (cs17) (((i_18).toNat) * 1) [.string (bs (x22))]))]) (D' := [(107, rdF Rep.str (cs17) (s_14)), (9400000, fnF Try.prog Ap11 cp11 pre53 post53 (del_))]) ⟨rfl, rfl, rfl, rfl, rfl, rfl, rfl, rfl, rfl, rfl, rfl, rfl, rfl, rfl, rfl, rfl, rfl, rfl, rfl, rfl, rfl, trivial⟩ ⟨rfl, trivial⟩ ⟨rfl, rfl, trivial⟩
    replace s := s.eqs (l' := [(0, .slice (A15) (((s_14).set ((i_18).toNat) x22).length) (c16)), (1, .func (.func Ap11) #[] (List.toArray cp11)), (5, .int .i64 (i_18)), (6, .int .i64 (j_19)), (7, .string (bs (x22))), (16, .int .i64 (j_19)), (17, .slice (A15) (((s_14).set ((i_18).toNat) x22).length) (c16)), (18, .int .i64 ((((s_14).length : Nat) : Int))), (19, .bool (decide (j_19 < (((s_14).length : Nat) : Int)))), (22, .slice (A15) (((s_14).set ((i_18).toNat) x22).length) (c16)), (23, .int .i64 (j_19)), (24, .pointer (some ⟨bq24, ((j_19).toNat) * 1, none⟩)), (25, .string (bs (x22))), (26, .func (.func Ap11) #[] (List.toArray cp11)), (27, .string (bs (x22))), (28, .bool (r26)), (29, .bool (!(r26))), (30, .slice (A15) (((s_14).set ((i_18).toNat) x22).length) (c16)), (31, .int .i64 (i_18)), (32, .string (bs (x22))), (33, .pointer (some ⟨bq34, ((i_18).toNat) * 1, none⟩))]) (L' := [(700106, Ob.row (A15) (((s_14).set ((i_18).toNat) x22).length) (c16) 9 1 (splice (cs17) (((i_18).toNat) * 1) [.string (bs (x22))]))]) (by simp only [List.length_set]) (by simp only [List.length_set])
    replace s := s.add 109 (rdF Rep.str (splice (cs17) (((i_18).toNat) * 1) [vT x22]) ((s_14).set ((i_18).toNat) x22)) (RdAll.put (s.ft 107 rfl) ⟨rfl, (by omega)⟩ hzi)
    apply wN
    obtain ⟨hk35, hg⟩ := chk_some hg
    apply wL
    refine mv s rfl rfl fun a s => ?_
    refine qq s rfl (y_add s rfl rfl (in64.2 hk35)) fun a s => ?_
    refine asg s rfl rfl fun a s => ?_
    apply wO
    refine p_inN ?_
    apply pN
    obtain ⟨hk36, hg⟩ := chk_some hg
    apply wL
    refine mv s rfl rfl fun a s => ?_
    refine qq s rfl (y_add s rfl rfl (in64.2 hk36)) fun a s => ?_
    refine asg s rfl rfl fun a s => ?_
    apply wN
    replace s := s.add 107 (rdF Rep.str (splice (cs17) (((i_18).toNat) * 1) [vT x22]) ((s_14).set ((i_18).toNat) x22)) (s.ft 109 rfl)
    exact ⟨m1, Nat.lt_succ_self _, ⟨((s_14).set ((i_18).toNat) x22), (i_18 + 1), (j_19 + 1), (A15), (c16), (splice (cs17) (((i_18).toNat) * 1) [vT x22]), hg, (s.sb rfl rfl rfl)⟩⟩
   replace hg := br_n hg hc31
   apply wp_skip
   refine p_inN ?_
   apply pN
   obtain ⟨hk37, hg⟩ := chk_some hg
   apply wL
   refine mv s rfl rfl fun a s => ?_
   refine qq s rfl (y_add s rfl rfl (in64.2 hk37)) fun a s => ?_
   refine asg s rfl rfl fun a s => ?_
   apply wN
   replace s := s.al 107 107 rfl
   exact ⟨m1, Nat.lt_succ_self _, ⟨(s_14), (i_18), (j_19 + 1), (A15), (c16), (cs17), hg, (s.sb rfl rfl rfl)⟩⟩
  replace hg := br_f hg hc20
  apply wp_exit
  refine p_then ?_
  refine p_then ?_
  refine p_in ?_
  apply pN
  replace s := s.al 105 107 rfl
  replace s := s.pk [(700104, 700106)] (by decide)
  exact ⟨(s_14), (i_18), (A15), (c16), (cs17), hg, (s.sb rfl rfl rfl)⟩
 clear s a; rintro a w ⟨s_9, i_13, A10, c11, cs12, hg, s⟩
 subst hk8
 apply wQ
 obtain ⟨hk38, hg⟩ := chk_some hg
 obtain ⟨hk39, hg⟩ := chk_some hg
 apply wL
 refine mv s rfl rfl fun a s => ?_
 refine mv s rfl rfl fun a s => ?_
 have hrl112 := rowN (s.wd.holds 700104 _ rfl) (s.ft 105 rfl) rfl rfl
 have hcap112 := row_cap (s.wd.holds 700104 _ rfl)
 have hmx112 := row_mx (s.wd.holds 700104 _ rfl)
 refine qq s rfl (y_cutL (xs := s_9) (sz := 1) (i := ((i_13).toNat)) s rfl rfl underlying27 rfl (by omega) hk39 (by omega)) fun a s => ?_
 refine l_seq rfl (l_clearTail (i := ((i_13).toNat)) s 700104 rfl rfl List.length_drop hk39 underlying27 Try.zeroValue9 rfl rfl ?_); clear s; intro w hK s; clear hK
 replace s := s.sub (l' := [(0, .slice (A10) ((s_9).length) (c11)), (5, .int .i64 (i_13)), (36, .slice (A10) ((s_9).length) (c11)), (37, .int .i64 (i_13)), (38, .slice (if c11 = (i_13).toNat then A10 else (A10).map (·.add (((i_13).toNat) * 1))) (((s_9).drop ((i_13).toNat)).length) (c11 - ((i_13).toNat)))]) (L' := [(700104, Ob.row (A10) ((s_9).length) (c11) 9 1 (splice (cs12) ((i_13).toNat) (List.replicate ((s_9).length - ((i_13).toNat)) (.string (bs [])))))]) (D' := [(105, rdF Rep.str (cs12) (s_9))]) ⟨rfl, rfl, rfl, rfl, rfl, trivial⟩ ⟨rfl, trivial⟩ ⟨rfl, trivial⟩
 replace s := s.eqs (l' := [(0, .slice (A10) ((clr s_9 ((i_13).toNat)).length) (c11)), (5, .int .i64 (i_13)), (36, .slice (A10) ((clr s_9 ((i_13).toNat)).length) (c11)), (37, .int .i64 (i_13)), (38, .slice (if c11 = (i_13).toNat then A10 else (A10).map (·.add (((i_13).toNat) * 1))) (((s_9).drop ((i_13).toNat)).length) (c11 - ((i_13).toNat)))]) (L' := [(700104, Ob.row (A10) ((clr s_9 ((i_13).toNat)).length) (c11) 9 1 (splice (cs12) ((i_13).toNat) (List.replicate ((s_9).length - ((i_13).toNat)) (.string (bs [])))))]) (by simp only [clr_len hk39]) (by simp only [clr_len hk39])
 replace s := s.add 113 (rdF Rep.str (splice (cs12) ((i_13).toNat) (List.replicate ((s_9).length - ((i_13).toNat)) (.string (bs [])))) (clr s_9 ((i_13).toNat))) (RdAll.splice0 (s.ft 105 rfl) hk39 rfl)
 apply wN
 apply wQ
 obtain ⟨hk40, hg⟩ := chk_some hg
 apply wL
 refine mv s rfl rfl fun a s => ?_
 refine mv s rfl rfl fun a s => ?_
 have hcap115 := row_cap (s.wd.holds 700104 _ rfl)
 have hrl115 := rowN (s.wd.holds 700104 _ rfl) (s.ft 113 rfl) rfl rfl
 refine qq s rfl (y_cutRow (i := ((i_13).toNat)) (xs := (clr s_9 ((i_13).toNat))) (sz := 1) s rfl rfl underlying27 rfl (by omega) hk40 hrl115 hcap115) fun a s => ?_
 replace s := s.rowCutL (kk := 700104) (i := ((i_13).toNat)) (xs := (clr s_9 ((i_13).toNat))) rfl hrl115 hk40
 replace s := s.add 115 (rdF Rep.str ((splice (cs12) ((i_13).toNat) (List.replicate ((s_9).length - ((i_13).toNat)) (.string (bs [])))).take (((i_13).toNat) * 1)) ((clr s_9 ((i_13).toNat)).take ((i_13).toNat))) ((s.ft 113 rfl).take ((i_13).toNat) hk40)
 refine asg s rfl rfl fun a s => ?_
 apply wN
 apply wp_ret
 replace s := s.add 9300000 (rdF Rep.str ((splice (cs12) ((i_13).toNat) (List.replicate ((s_9).length - ((i_13).toNat)) (.string (bs [])))).take (((i_13).toNat) * 1)) ((clr s_9 ((i_13).toNat)).take ((i_13).toNat))) (s.ft 115 rfl)
 obtain rfl := Option.some.inj hg
 refine fin1 (fn := Try.f48) s rfl (r_tmp s rfl) ?_
 exact ⟨(A10), (c11), ((splice (cs12) ((i_13).toNat) (List.replicate ((s_9).length - ((i_13).toNat)) (.string (bs [])))).take (((i_13).toNat) * 1)), rfl, ((s.ren [(9200000, Ob.row (A10) (((clr s_9 ((i_13).toNat)).take ((i_13).toNat)).length) (c11) 9 1 ((splice (cs12) ((i_13).toNat) (List.replicate ((s_9).length - ((i_13).toNat)) (.string (bs [])))).take (((i_13).toNat) * 1)))] [700104] ⟨rfl, trivial⟩ (by decide)).outL ⟨rfl, trivial⟩ ⟨rfl, trivial⟩)⟩
set_option maxHeartbeats 400000 in
theorem c_slices_Min_string (n : Nat) (M : Bs) (w0 : World) (hM : ∀ b, M b → b < w0.heap.size) (x_ : (List (List UInt8))) (Ap01 : Option Addr) (cp01 : Nat) (hp01 : SlR Rep.str M w0 Ap01 (x_).length cp01 (x_)) (r : (List UInt8)) (hg : slices_Min_string n x_ = some r) :
    Calls Try.prog 53 [.slice (Ap01) ((x_).length) (cp01)].toArray w0 (Ret noB w0 fun v w => v = .string (bs (r)) ∧ ((r).length ≤ 9223372036854775807)) := by
 unfold slices_Min_string at hg
 refine enter M noB func53 rfl rfl hM ?_
 intro a s
 replace s := s.es 101 hp01
 apply wR
 refine asg s rfl rfl fun a s => ?_
 apply wN
 apply wQ
 apply wR
 refine mv s rfl rfl fun a s => ?_
 refine qq s rfl (y_lenSlice s rfl underlying27) fun a s => ?_
 refine qq s rfl (y_lssN (i := ((x_).length)) (j := 1) s rfl rfl) fun a s => ?_
 apply wN
 refine c_dec s rfl (fun hc1 => ?_) (fun hc1 => ?_)
 ·replace hg := br_t hg hc1
  cases hg
 replace hg := br_f hg hc1
 apply wp_skip
 apply pN
 apply wQ
 obtain ⟨x3, hx3, hg⟩ := bind_some hg
 apply wL
 refine mv s rfl rfl fun a s => ?_
 obtain ⟨p5, hep5, hpp5⟩ := SlR.elemX (s.ft 101 rfl) hx3
 refine qq s rfl (y_elem (sz := 1) (i := 0) s rfl rfl underlying27 rfl hep5 rfl (lt_of_get hx3)) fun a s => ?_
 obtain ⟨hlq6, hmq6, csq6, hdq6, hcq6⟩ := hpp5
 obtain ⟨rfl, lq61⟩ := hdq6
 refine qq s rfl (y_ldp1 s rfl hlq6 hmq6 (hcq6 0 _ rfl) underlying9 rfl) fun a s => ?_
 refine asg s rfl rfl fun a s => ?_
 apply wN
 apply wQ
 apply wR
 refine asg s rfl rfl fun a s => ?_
 apply wN
 apply wp_block
 refine c_loop (σ := Nat) (fun m1 a w => ∃ (m_7 : (List UInt8)) (i_8 : Nat), slices_Min_string_L0 n x_ m1 m_7 i_8 = some r ∧ ((m_7).length ≤ 9223372036854775807) ∧ St (⟨Try.f53.ntmps, M, noB, w0⟩ : Ctx) [(0, sl Ap01 (x_) cp01), (3, vT m_7), (4, vI (((i_8 : Nat) : Int)))] [] [(101, slF Rep.str (Ap01) ((x_).length) (cp01) (x_))] a w) (fun m1 => m1) n ⟨(x3), (1), hg, (by omega), (s.sb rfl rfl rfl)⟩ ?_
 clear s a; rintro m1 a w ⟨m_7, i_8, hg, lm_7, s⟩
 rcases m1 with _ | m1
 ·rw [slices_Min_string_L0] at hg; cases hg
 rw [slices_Min_string_L0] at hg
 apply wQ
 apply wR
 refine mv s rfl rfl fun a s => ?_
 refine mv s rfl rfl fun a s => ?_
 refine qq s rfl (y_lenSlice s rfl underlying27) fun a s => ?_
 refine qq s rfl (y_lssN (i := i_8) (j := ((x_).length)) s rfl rfl) fun a s => ?_
 apply wN
 refine c_dec s rfl (fun hc9 => ?_) (fun hc9 => ?_)
 ·replace hg := br_t hg hc9
  have hmx10 := SlR.mx (s.ft 101 rfl)
  apply wp_skip
  apply pN
  apply wQ
  apply wp_block
  obtain ⟨x12, hx12, hg⟩ := bind_some hg
  apply wL
  refine mv s rfl rfl fun a s => ?_
  refine mv s rfl rfl fun a s => ?_
  refine mv s rfl rfl fun a s => ?_
  obtain ⟨p14, hep14, hpp14⟩ := SlR.elemX (s.ft 101 rfl) hx12
  refine qq s rfl (y_elem (sz := 1) (i := i_8) s rfl rfl underlying27 rfl hep14 rfl (lt_of_get hx12)) fun a s => ?_
  obtain ⟨hlq15, hmq15, csq15, hdq15, hcq15⟩ := hpp14
  obtain ⟨rfl, lq151⟩ := hdq15
  refine qq s rfl (y_ldp1 s rfl hlq15 hmq15 (hcq15 0 _ rfl) underlying9 rfl) fun a s => ?_
  refine qq s rfl (y_minStr s rfl rfl) fun a s => ?_
  refine asg s rfl rfl fun a s => ?_
  apply wO
  refine p_inN ?_
  apply pN
  apply wL
  refine mv s rfl rfl fun a s => ?_
  refine qq s rfl (y_addN (i := i_8) (j := 1) s rfl rfl (in64.2 (by omega))) fun a s => ?_
  refine asg s rfl rfl fun a s => ?_
  apply wN
  exact ⟨m1, Nat.lt_succ_self _, ⟨(smin m_7 x12), (i_8 + 1), hg, (by first | omega | (rw [List.length_append]; omega) | (simp only [List.length_append]; omega) | (simp only [List.length_append, List.length_take, List.length_drop, List.length_cons, List.length_nil]; omega) | exact smin_len (by omega) (by omega)), (s.sb rfl rfl rfl)⟩⟩
 replace hg := br_f hg hc9
 apply wp_exit
 refine p_then ?_
 refine p_then ?_
 refine p_in ?_
 apply pN
 apply wR
 refine mv s rfl rfl fun a s => ?_
 refine asg s rfl rfl fun a s => ?_
 apply wN
 apply wp_ret
 obtain rfl := Option.some.inj hg
 refine fin1 (fn := Try.f53) s rfl (r_tmp s rfl) ?_
 exact ⟨rfl, (by omega)⟩
set_option maxHeartbeats 400000 in
theorem c_poset_ordered_1 (n : Nat) (M : Bs) (w0 : World) (hM : ∀ b, M b → b < w0.heap.size) (s_ : (List UInt8)) (lp01 : (s_).length ≤ 9223372036854775807) (bf0 : Nat) (c0_ : (List UInt8)) (lf01 : (c0_).length ≤ 9223372036854775807) (hb0 : BoxR bf0 [.string (bs (c0_))] 9 M w0) (r : Bool) (hg : poset_ordered_1 n s_ c0_ = some r) :
    Calls Try.prog 54 [.string (bs (s_)), .pointer (some ⟨bf0, 0, none⟩)].toArray w0 (Ret noB w0 fun v w => v = .bool (r)) := by
 unfold poset_ordered_1 at hg
 refine enter M noB func54 rfl rfl hM ?_
 intro a s
 replace s := s.ebx 101 hb0
 apply wR
 refine asg s rfl rfl fun a s => ?_
 apply wN
 apply wR
 refine mv s rfl rfl fun a s => ?_
 refine qq s rfl (y_loadF1 s rfl (s.ft 101 rfl) rfl underlying9 rfl) fun a s => ?_
 refine qq s rfl (y_seq s rfl rfl) fun a s => ?_
 refine asg s rfl rfl fun a s => ?_
 apply wN
 apply wp_ret
 obtain rfl := Option.some.inj hg
 refine fin1 (fn := Try.f54) s rfl (r_tmp s rfl) ?_
 exact rfl
set_option maxHeartbeats 400000 in
theorem c_poset_ordered (n : Nat) (M : Bs) (w0 : World) (hM : ∀ b, M b → b < w0.heap.size) (t_ : (List TypeDecl)) (Ap01 : Option Addr) (cp01 : Nat) (hp01 : SlR RTypeDecl M w0 Ap01 (t_).length cp01 (t_)) (r : (List (List UInt8))) (hg : poset_ordered n t_ = some r) :
    Calls Try.prog 34 [.slice (Ap01) ((t_).length) (cp01)].toArray w0 (Ret noB w0 fun v w => ∃ (Aa1 : Option Addr), ∃ (ca1 : Nat), v = .slice (Aa1) ((r).length) (ca1) ∧ (SlR Rep.str M w Aa1 (r).length ca1 (r))) := by
 unfold poset_ordered at hg
 refine enter M noB func34 rfl rfl hM ?_
 intro a s
 replace s := s.es 101 hp01
 apply wR
 refine asg s rfl rfl fun a s => ?_
 apply wN
 apply wR
 refine mv s rfl rfl fun a s => ?_
 refine qq s rfl (y_lenSlice s rfl underlying22) fun a s => ?_
 refine l_seq rfl (l_makeMap (n := (((t_).length : Nat) : Int)) s 1102 underlying60 (.inr rfl) rfl rfl fun b2 a w hb hK s => ?_)
 replace s := s.add 103 (kvF (Rep.num .i64) ([]) ([])) (KvRel.nil)
 refine asg s rfl rfl fun a s => ?_
 apply wN
 apply wR
 refine l_seq rfl (l_makeRows (n := 0) s 1200 9 1 underlying49 (.inl rfl) rfl rfl fun b4 a w hb hK s => ?_)
 replace s := s.add 105 (rowsF Rep.str ([]) ([])) (KvRel.nil)
 refine asg s rfl rfl fun a s => ?_
 apply wN
 apply wR
 refine asg s rfl rfl fun a s => ?_
 apply wN
 apply wQ
 apply wR
 refine mv s rfl rfl fun a s => ?_
 refine qq s rfl (y_lenSlice s rfl underlying22) fun a s => ?_
 refine mv s rfl rfl fun a s => ?_
 apply wN
 obtain ⟨k5, hg, hk5⟩ := jn_some hg
 refine c_post (fun a w => ∃ (t_6 : (List (List UInt8 × Int))) (t_8 : (List (List UInt8 × (List (List UInt8))))), ∃ (t_10 : (List (List UInt8))) (kv7 : List (List UInt8 × Value)) (kv9 : List (List UInt8 × Rw)) (A11 : Option Addr) (c12 : Nat) (cs13 : List Value), k5 t_6 t_8 t_10 = some r ∧ St (⟨Try.f34.ntmps, M, noB, w0⟩ : Ctx) [(3, .map (some b2)), (4, .map (some b4)), (5, sl A11 (t_10) c12)] [(1102, Ob.smap b2 (kv7)), (1200, Ob.mrows b4 9 1 (kv9) none), (700108, Ob.row (A11) ((t_10).length) (c12) 9 1 (cs13))] [(106, kvF (Rep.num .i64) (kv7) (t_6)), (107, rowsF Rep.str (kv9) (t_8)), (109, rdF Rep.str (cs13) (t_10))] a w) ?_ ?_
 ·apply wp_block
  replace s := s.al 110 103 rfl
  replace s := s.al 111 105 rfl
  replace s := s.nilRow 700112 9 1 rfl
  replace s := s.add 113 (rdF Rep.str [] []) (RdAll.nil _ _ _)
  refine c_loop (σ := Nat) (fun m1 a w => ∃ (t_14 : (List (List UInt8 × Int))) (t_16 : (List (List UInt8 × (List (List UInt8))))), ∃ (t_18 : (List (List UInt8))) (t_22 : Nat) (kv15 : List (List UInt8 × Value)) (kv17 : List (List UInt8 × Rw)) (A19 : Option Addr) (c20 : Nat) (cs21 : List Value), poset_ordered_L0 n t_ k5 m1 t_14 t_16 t_18 t_22 = some r ∧ St (⟨Try.f34.ntmps, M, noB, w0⟩ : Ctx) [(3, .map (some b2)), (4, .map (some b4)), (5, sl A19 (t_18) c20), (18, sl Ap01 (t_) cp01), (19, vI ((((t_).length : Nat) : Int))), (20, vI (((t_22 : Nat) : Int)))] [(1102, Ob.smap b2 (kv15)), (1200, Ob.mrows b4 9 1 (kv17) none), (700112, Ob.row (A19) ((t_18).length) (c20) 9 1 (cs21))] [(101, slF RTypeDecl (Ap01) ((t_).length) (cp01) (t_)), (110, kvF (Rep.num .i64) (kv15) (t_14)), (111, rowsF Rep.str (kv17) (t_16)), (113, rdF Rep.str (cs21) (t_18))] a w) (fun m1 => m1) n ⟨([]), ([]), ([]), (0), ([]), ([]), (none), (0), ([]), hg, (s.sb rfl rfl rfl)⟩ ?_
  clear s a; rintro m1 a w ⟨t_14, t_16, t_18, t_22, kv15, kv17, A19, c20, cs21, hg, s⟩
  rcases m1 with _ | m1
  ·rw [poset_ordered_L0] at hg; cases hg
  rw [poset_ordered_L0] at hg
  apply wR
  refine qq s rfl (y_lssN (i := t_22) (j := ((t_).length)) s rfl rfl) fun a s => ?_
  apply wN
  apply wQ
  refine c_dec s rfl (fun hc23 => ?_) (fun hc23 => ?_)
  ·replace hg := br_t hg hc23
   have hmx24 := SlR.mx (s.ft 101 rfl)
   apply wp_skip
   apply pN
   apply wQ
   obtain ⟨k25, hg, hk25⟩ := jn_some hg
   refine c_post (fun a w => ∃ (t_26 : (List (List UInt8 × Int))) (t_28 : (List (List UInt8 × (List (List UInt8))))), ∃ (t_30 : (List (List UInt8))) (kv27 : List (List UInt8 × Value)) (kv29 : List (List UInt8 × Rw)) (A31 : Option Addr) (c32 : Nat) (cs33 : List Value), k25 t_26 t_28 t_30 = some r ∧ St (⟨Try.f34.ntmps, M, noB, w0⟩ : Ctx) [(3, .map (some b2)), (4, .map (some b4)), (5, sl A31 (t_30) c32), (18, sl Ap01 (t_) cp01), (19, vI ((((t_).length : Nat) : Int))), (20, vI (((t_22 : Nat) : Int)))] [(1102, Ob.smap b2 (kv27)), (1200, Ob.mrows b4 9 1 (kv29) none), (700116, Ob.row (A31) ((t_30).length) (c32) 9 1 (cs33))] [(101, slF RTypeDecl (Ap01) ((t_).length) (cp01) (t_)), (114, kvF (Rep.num .i64) (kv27) (t_26)), (115, rowsF Rep.str (kv29) (t_28)), (117, rdF Rep.str (cs33) (t_30))] a w) ?_ ?_
   ·apply wp_block
    apply wQ
    obtain ⟨x35, hx35, hg⟩ := bind_some hg
    apply wL
    obtain ⟨p38, hep38, hpp38⟩ := SlR.elemX (s.ft 101 rfl) hx35
    refine qq s rfl (y_elem (sz := 3) (i := t_22) s rfl rfl underlying22 rfl hep38 rfl (lt_of_get hx35)) fun a s => ?_
    obtain ⟨hlq39, hmq39, csq39, hdq39, hcq39⟩ := hpp38
    obtain ⟨Aq392, cq392, Aq393, cq393, rfl, lq391, hq392, hq393⟩ := RTypeDecl.open hdq39
    replace s := s.ns 120 hq392
    replace s := s.ns 121 hq393
    refine qq s rfl (y_ldp s rfl hlq39 hmq39 (by simpa using hcq39) underlying40 rfl rfl) fun a s => ?_
    refine l_seq rfl (l_alloc (zs := [vT ([]), .slice (none) (0) (0), .slice (none) (0) (0)]) s 1602 rfl rfl rfl rfl fun b40 a w hb hK s => ?_)
    refine l_seq rfl (l_store (n := 3) (cs' := [vT (x35.Name), sl Aq392 (x35.Supers) cq392, sl Aq393 (x35.Feats) cq393]) s 1602 rfl rfl rfl rfl rfl rfl rfl rfl ?_); clear s; intro w hK s; clear hK
    apply wN
    apply wR
    refine mv s rfl rfl fun a s => ?_
    refine qq s rfl (y_boxField (o' := 0) s rfl underlying40 rfl rfl rfl) fun a s => ?_
    refine qq s rfl (y_loadBox1 (kk := 1602) s rfl rfl rfl underlying9 rfl) fun a s => ?_
    refine qq s rfl (y_boxField (o' := 1) s rfl underlying40 rfl rfl rfl) fun a s => ?_
    refine qq s rfl (y_loadBox1 (kk := 1602) s rfl rfl rfl underlying27 rfl) fun a s => ?_
    refine qq s rfl (y_lenSlice s rfl underlying27) fun a s => ?_
    refine l_seq rfl (l_mapUpdate s 1102 rfl rfl rfl rfl underlying60 underlying9 fun w hK s => ?_)
    replace s := s.add 123 (kvF (Rep.num .i64) (mset (kv15) (x35.Name) (vI ((((x35.Supers).length : Nat) : Int)))) (mset (t_14) (x35.Name) ((((x35.Supers).length : Nat) : Int)))) (kvF_set (s.ft 110 rfl) (by exact rfl))
    apply wN
    apply wQ
    apply wR
    refine qq s rfl (y_boxField (o' := 1) s rfl underlying40 rfl rfl rfl) fun a s => ?_
    refine qq s rfl (y_loadBox1 (kk := 1602) s rfl rfl rfl underlying27 rfl) fun a s => ?_
    refine qq s rfl (y_lenSlice s rfl underlying27) fun a s => ?_
    refine qq s rfl (y_eqlN (i := ((x35.Supers).length)) (j := 0) s rfl rfl) fun a s => ?_
    apply wN
    obtain ⟨k41, hg, hk41⟩ := jn_some hg
    refine c_post (fun a w => ∃ (t_42 : (List (List UInt8))) (A43 : Option Addr) (c44 : Nat) (cs45 : List Value), k41 t_42 = some r ∧ St (⟨Try.f34.ntmps, M, noB, w0⟩ : Ctx) [(3, .map (some b2)), (4, .map (some b4)), (5, sl A43 (t_42) c44), (7, vP b40 0), (18, sl Ap01 (t_) cp01), (19, vI ((((t_).length : Nat) : Int))), (20, vI (((t_22 : Nat) : Int)))] [(1102, Ob.smap b2 (mset (kv15) (x35.Name) (vI ((((x35.Supers).length : Nat) : Int))))), (1200, Ob.mrows b4 9 1 (kv17) none), (1602, Ob.box b40 [vT (x35.Name), sl Aq392 (x35.Supers) cq392, sl Aq393 (x35.Feats) cq393] 40), (700124, Ob.row (A43) ((t_42).length) (c44) 9 1 (cs45))] [(101, slF RTypeDecl (Ap01) ((t_).length) (cp01) (t_)), (111, rowsF Rep.str (kv17) (t_16)), (120, slF Rep.str (Aq392) ((x35.Supers).length) (cq392) (x35.Supers)), (121, slF RFeatDecl (Aq393) ((x35.Feats).length) (cq393) (x35.Feats)), (123, kvF (Rep.num .i64) (mset (kv15) (x35.Name) (vI ((((x35.Supers).length : Nat) : Int)))) (mset (t_14) (x35.Name) ((((x35.Supers).length : Nat) : Int)))), (125, rdF Rep.str (cs45) (t_42))] a w) ?_ ?_
    ·refine c_dec s rfl (fun hc46 => ?_) (fun hc46 => ?_)
     ·replace hg := br_t hg hc46
      obtain ⟨hk48, hg⟩ := chk_some hg
      apply wL
      refine mv s rfl rfl fun a s => ?_
      refine qq s rfl (y_boxField (o' := 0) s rfl underlying40 rfl rfl rfl) fun a s => ?_
      refine qq s rfl (y_loadBox1 (kk := 1602) s rfl rfl rfl underlying9 rfl) fun a s => ?_
      refine l_seq rfl (l_buildDense (sz := 1) s 1903 rfl rfl rfl underlying27 rfl rfl rfl rfl rfl rfl rfl fun b51 a w hbb51 hK s => ?_)
      clear hbb51
      replace s := s.add 128 (rdF Rep.str (cellsOfL [vT (x35.Name)]) ([x35.Name])) (RdAll.cons (by exact ⟨rfl, (by omega)⟩) (RdAll.nil _ _ _))
      have hs53 := row_src (s.wd.holds 1903 _ rfl) (RdAll.one (s.ft 128 rfl))
      refine l_seq rfl (l_append (sz := 1) (by_ := 16) (N := (t_18 ++ [x35.Name]).length) (ys := cs21 ++ (cellsOfL [vT (x35.Name)])) s 700112 rfl rfl rfl underlying27 rfl rfl rfl rfl rfl hs53 (by first | (simp; done) | (simp; omega)) rfl (by have hr := hk48; clear hg; first | omega | (simp only [List.length_append, List.length_cons, List.length_nil] at hr ⊢; omega) | (simp at hr ⊢; omega)) (by have hr := hk48; clear hg; first | omega | (simp only [List.length_append, List.length_cons, List.length_nil] at hr ⊢; omega) | (simp at hr ⊢; omega)) rfl fun Aq52 cq52 a w hA hK s => ?_)
      replace s := s.add 129 (rdF Rep.str (cs21 ++ (cellsOfL [vT (x35.Name)])) (t_18 ++ [x35.Name])) (RdAll.append (s.ft 113 rfl) (s.ft 128 rfl))
      refine asg s rfl rfl fun a s => ?_
      apply wN
      replace s := s.add 125 (rdF Rep.str (cs21 ++ (cellsOfL [vT (x35.Name)])) (t_18 ++ [x35.Name])) (s.ft 129 rfl)
      replace s := s.pk [(1102, 1102), (1200, 1200), (1602, 1602), (1903, 1903), (700124, 700112)] (by decide)
      exact ⟨(t_18 ++ [x35.Name]), (Aq52), (cq52), (cs21 ++ (cellsOfL [vT (x35.Name)])), hg, (s.sb rfl rfl rfl)⟩
     replace hg := br_f hg hc46
     apply wp_skip
     apply pN
     replace s := s.al 125 113 rfl
     replace s := s.pk [(1102, 1102), (1200, 1200), (1602, 1602), (700124, 700112)] (by decide)
     exact ⟨(t_18), (A19), (c20), (cs21), hg, (s.sb rfl rfl rfl)⟩
    clear s a; rintro a w ⟨t_42, A43, c44, cs45, hg, s⟩
    subst hk41
    apply wR
    refine qq s rfl (y_boxField (o' := 1) s rfl underlying40 rfl rfl rfl) fun a s => ?_
    refine qq s rfl (y_loadBox1 (kk := 1602) s rfl rfl rfl underlying27 rfl) fun a s => ?_
    refine qq s rfl (y_lenSlice s rfl underlying27) fun a s => ?_
    refine mv s rfl rfl fun a s => ?_
    apply wN
    apply wp_block
    replace s := s.al 130 111 rfl
    refine c_loop (σ := Nat) (fun m2 a w => ∃ (t_54 : (List (List UInt8 × (List (List UInt8))))), ∃ (t_56 : Nat) (kv55 : List (List UInt8 × Rw)), poset_ordered_L1 n t_14 k25 x35 t_42 m2 t_54 t_56 = some r ∧ St (⟨Try.f34.ntmps, M, noB, w0⟩ : Ctx) [(3, .map (some b2)), (4, .map (some b4)), (5, sl A43 (t_42) c44), (7, vP b40 0), (18, sl Ap01 (t_) cp01), (19, vI ((((t_).length : Nat) : Int))), (20, vI (((t_22 : Nat) : Int))), (40, sl Aq392 (x35.Supers) cq392), (41, vI ((((x35.Supers).length : Nat) : Int))), (42, vI (((t_56 : Nat) : Int)))] [(1102, Ob.smap b2 (mset (kv15) (x35.Name) (vI ((((x35.Supers).length : Nat) : Int))))), (1200, Ob.mrows b4 9 1 (kv55) none), (1602, Ob.box b40 [vT (x35.Name), sl Aq392 (x35.Supers) cq392, sl Aq393 (x35.Feats) cq393] 40), (700124, Ob.row (A43) ((t_42).length) (c44) 9 1 (cs45))] [(101, slF RTypeDecl (Ap01) ((t_).length) (cp01) (t_)), (120, slF Rep.str (Aq392) ((x35.Supers).length) (cq392) (x35.Supers)), (121, slF RFeatDecl (Aq393) ((x35.Feats).length) (cq393) (x35.Feats)), (123, kvF (Rep.num .i64) (mset (kv15) (x35.Name) (vI ((((x35.Supers).length : Nat) : Int)))) (mset (t_14) (x35.Name) ((((x35.Supers).length : Nat) : Int)))), (125, rdF Rep.str (cs45) (t_42)), (130, rowsF Rep.str (kv55) (t_54))] a w) (fun m2 => m2) n ⟨(t_16), (0), (kv17), hg, (s.sb rfl rfl rfl)⟩ ?_
    clear s a; rintro m2 a w ⟨t_54, t_56, kv55, hg, s⟩
    rcases m2 with _ | m2
    ·rw [poset_ordered_L1] at hg; cases hg
    rw [poset_ordered_L1] at hg
    apply wR
    refine qq s rfl (y_lssN (i := t_56) (j := ((x35.Supers).length)) s rfl rfl) fun a s => ?_
    apply wN
    apply wQ
    refine c_dec s rfl (fun hc57 => ?_) (fun hc57 => ?_)
    ·replace hg := br_t hg hc57
     have hmx58 := SlR.mx (s.ft 120 rfl)
     apply wp_skip
     apply pN
     apply wQ
     apply wp_block
     apply wQ
     obtain ⟨x60, hx60, hg⟩ := bind_some hg
     apply wL
     obtain ⟨p62, hep62, hpp62⟩ := SlR.elemX (s.ft 120 rfl) hx60
     refine qq s rfl (y_elem (sz := 1) (i := t_56) s rfl rfl underlying27 rfl hep62 rfl (lt_of_get hx60)) fun a s => ?_
     obtain ⟨hlq63, hmq63, csq63, hdq63, hcq63⟩ := hpp62
     obtain ⟨rfl, lq631⟩ := hdq63
     refine qq s rfl (y_ldp1 s rfl hlq63 hmq63 (hcq63 0 _ rfl) underlying9 rfl) fun a s => ?_
     refine asg s rfl rfl fun a s => ?_
     apply wN
     obtain ⟨hk66, hg⟩ := chk_some hg
     apply wL
     refine mv s rfl rfl fun a s => ?_
     refine mv s rfl rfl fun a s => ?_
     refine mv s rfl rfl fun a s => ?_
     refine mv s rfl rfl fun a s => ?_
     obtain ⟨At69, ct69, cst69, hvt69, hrt69, hS'⟩ := s.takeRowX (R := Rep.str) (kk := 1200) (kr := 400136) x60 rfl rfl (s.ft 130 rfl) rfl; clear s; have s := hS'; clear hS'
     replace s := s.add 137 (rdF Rep.str cst69 ((mget t_54 x60).getD [])) hrt69
     refine qq s rfl (y_lookupRowsV (kk := 1200) s rfl rfl rfl underlying49 underlying9 rfl hvt69) fun a s => ?_
     refine qq s rfl (y_boxField (o' := 0) s rfl underlying40 rfl rfl rfl) fun a s => ?_
     refine qq s rfl (y_loadBox1 (kk := 1602) s rfl rfl rfl underlying9 rfl) fun a s => ?_
     refine l_seq rfl (l_buildDense (sz := 1) s 2307 rfl rfl rfl underlying27 rfl rfl rfl rfl rfl rfl rfl fun b70 a w hbb70 hK s => ?_)
     clear hbb70
     replace s := s.add 138 (rdF Rep.str (cellsOfL [vT (x35.Name)]) ([x35.Name])) (RdAll.cons (by exact ⟨rfl, (by omega)⟩) (RdAll.nil _ _ _))
     have hs72 := row_src (s.wd.holds 2307 _ rfl) (RdAll.one (s.ft 138 rfl))
     refine l_seq rfl (l_append (sz := 1) (by_ := 16) (N := (((mget t_54 x60).getD []) ++ [x35.Name]).length) (ys := cst69 ++ (cellsOfL [vT (x35.Name)])) s 400136 rfl rfl rfl underlying27 rfl rfl rfl rfl rfl hs72 (by first | (simp; done) | (simp; omega)) rfl (by have hr := hk66; clear hg; first | omega | (simp only [List.length_append, List.length_cons, List.length_nil] at hr ⊢; omega) | (simp at hr ⊢; omega)) (by have hr := hk66; clear hg; first | omega | (simp only [List.length_append, List.length_cons, List.length_nil] at hr ⊢; omega) | (simp at hr ⊢; omega)) rfl fun Aq71 cq71 a w hA hK s => ?_)
     replace s := s.add 139 (rdF Rep.str (cst69 ++ (cellsOfL [vT (x35.Name)])) (((mget t_54 x60).getD []) ++ [x35.Name])) (RdAll.append (s.ft 137 rfl) (s.ft 138 rfl))
     refine l_seq rfl (l_putRow (r := ⟨Aq71, (((mget t_54 x60).getD []) ++ [x35.Name]).length, cq71, cst69 ++ (cellsOfL [vT (x35.Name)])⟩) (L' := [(1102, Ob.smap b2 (mset (kv15) (x35.Name) (vI ((((x35.Supers).length : Nat) : Int))))), (1200, Ob.mrows b4 9 1 (kv55) (some (x60))), (1602, Ob.box b40 [vT (x35.Name), sl Aq392 (x35.Supers) cq392, sl Aq393 (x35.Feats) cq393] 40), (2307, Ob.row (some ⟨b70, 0, none⟩) (1) (1) 9 1 (cellsOfL [vT (x35.Name)])), (700124, Ob.row (A43) ((t_42).length) (c44) 9 1 (cs45))]) s 1200 400136 rfl rfl rfl rfl rfl rfl ⟨rfl, rfl, rfl, rfl, rfl, trivial⟩ rfl underlying49 underlying9 fun w hK s => ?_)
     replace s := s.add 140 (rowsF Rep.str (mset (kv55) (x60) ⟨Aq71, (((mget t_54 x60).getD []) ++ [x35.Name]).length, cq71, cst69 ++ (cellsOfL [vT (x35.Name)])⟩) (mset (t_54) (x60) (((mget t_54 x60).getD []) ++ [x35.Name]))) (rowsF_set (r := ⟨Aq71, (((mget t_54 x60).getD []) ++ [x35.Name]).length, cq71, cst69 ++ (cellsOfL [vT (x35.Name)])⟩) (s.ft 130 rfl) (s.ft 139 rfl))
     apply wO
     refine p_inN ?_
     apply pN
     apply wL
     refine qq s rfl (y_addN (i := t_56) (j := 1) s rfl rfl (in64.2 (by omega))) fun a s => ?_
     refine mv s rfl rfl fun a s => ?_
     apply wN
     replace s := s.add 130 (rowsF Rep.str (mset (kv55) (x60) ⟨Aq71, (((mget t_54 x60).getD []) ++ [x35.Name]).length, cq71, cst69 ++ (cellsOfL [vT (x35.Name)])⟩) (mset (t_54) (x60) (((mget t_54 x60).getD []) ++ [x35.Name]))) (s.ft 140 rfl)
     exact ⟨m2, Nat.lt_succ_self _, ⟨(mset (t_54) (x60) (((mget t_54 x60).getD []) ++ [x35.Name])), (t_56 + 1), (mset (kv55) (x60) ⟨Aq71, (((mget t_54 x60).getD []) ++ [x35.Name]).length, cq71, cst69 ++ (cellsOfL [vT (x35.Name)])⟩), hg, (s.sb rfl rfl rfl)⟩⟩
    replace hg := br_f hg hc57
    apply wp_exit
    refine p_then ?_
    refine p_then ?_
    refine p_in ?_
    refine p_inN ?_
    apply pN
    replace s := s.add 114 (kvF (Rep.num .i64) (mset (kv15) (x35.Name) (vI ((((x35.Supers).length : Nat) : Int)))) (mset (t_14) (x35.Name) ((((x35.Supers).length : Nat) : Int)))) (s.ft 123 rfl)
    replace s := s.al 115 130 rfl
    replace s := s.al 117 125 rfl
    replace s := s.pk [(1102, 1102), (1200, 1200), (1602, 1602), (700116, 700124)] (by decide)
    exact ⟨(mset (t_14) (x35.Name) ((((x35.Supers).length : Nat) : Int))), (t_54), (t_42), (mset (kv15) (x35.Name) (vI ((((x35.Supers).length : Nat) : Int)))), (kv55), (A43), (c44), (cs45), hg, (s.sb rfl rfl rfl)⟩
   clear s a; rintro a w ⟨t_26, t_28, t_30, kv27, kv29, A31, c32, cs33, hg, s⟩
   subst hk25
   apply wL
   refine qq s rfl (y_addN (i := t_22) (j := 1) s rfl rfl (in64.2 (by omega))) fun a s => ?_
   refine mv s rfl rfl fun a s => ?_
   apply wN
   replace s := s.al 110 114 rfl
   replace s := s.al 111 115 rfl
   replace s := s.al 113 117 rfl
   replace s := s.pk [(1102, 1102), (1200, 1200), (700112, 700116)] (by decide)
   exact ⟨m1, Nat.lt_succ_self _, ⟨(t_26), (t_28), (t_30), (t_22 + 1), (kv27), (kv29), (A31), (c32), (cs33), hg, (s.sb rfl rfl rfl)⟩⟩
  replace hg := br_f hg hc23
  apply wp_exit
  refine p_then ?_
  refine p_then ?_
  refine p_in ?_
  apply pN
  replace s := s.al 106 110 rfl
  replace s := s.al 107 111 rfl
  replace s := s.al 109 113 rfl
  replace s := s.pk [(1102, 1102), (1200, 1200), (700108, 700112)] (by decide)
  exact ⟨(t_14), (t_16), (t_18), (kv15), (kv17), (A19), (c20), (cs21), hg, (s.sb rfl rfl rfl)⟩
 clear s a; rintro a w ⟨t_6, t_8, t_10, kv7, kv9, A11, c12, cs13, hg, s⟩
 subst hk5
 apply wR
 refine asg s rfl rfl fun a s => ?_
 apply wN
 apply wQ
 apply wp_block
 replace s := s.freezeRows (R := Rep.str) (L' := [(1102, Ob.smap b2 (kv7)), (700108, Ob.row (A11) ((t_10).length) (c12) 9 1 (cs13))]) 141 1200 rfl (s.ft 107 rfl) rfl ⟨rfl, rfl, trivial⟩ rfl
 replace s := s.al 142 106 rfl
 replace s := s.al 144 109 rfl
 replace s := s.pk [(1102, 1102), (700143, 700108)] (by decide)
 replace s := s.nilRow 700145 9 1 rfl
 replace s := s.add 146 (rdF Rep.str [] []) (RdAll.nil _ _ _)
 refine c_loop (σ := Nat) (fun m3 a w => ∃ (t_73 : (List (List UInt8 × Int))) (t_75 : (List (List UInt8))) (t_79 : (List (List UInt8))) (kv74 : List (List UInt8 × Value)) (A76 : Option Addr) (c77 : Nat) (cs78 : List Value) (A80 : Option Addr) (c81 : Nat) (cs82 : List Value), poset_ordered_L2 n t_8 m3 t_73 t_75 t_79 = some r ∧ St (⟨Try.f34.ntmps, M, noB, w0⟩ : Ctx) [(3, .map (some b2)), (4, .map (some b4)), (5, sl A76 (t_75) c77), (10, sl A80 (t_79) c81)] [(1102, Ob.smap b2 (kv74)), (700143, Ob.row (A76) ((t_75).length) (c77) 9 1 (cs78)), (700145, Ob.row (A80) ((t_79).length) (c81) 9 1 (cs82))] [(141, mapRF (Rep.list Rep.str) b4 (t_8)), (142, kvF (Rep.num .i64) (kv74) (t_73)), (144, rdF Rep.str (cs78) (t_75)), (146, rdF Rep.str (cs82) (t_79))] a w) (fun m3 => m3) n ⟨(t_6), (t_10), ([]), (kv7), (A11), (c12), (cs13), (none), (0), ([]), hg, (s.sb rfl rfl rfl)⟩ ?_
 clear s a; rintro m3 a w ⟨t_73, t_75, t_79, kv74, A76, c77, cs78, A80, c81, cs82, hg, s⟩
 rcases m3 with _ | m3
 ·rw [poset_ordered_L2] at hg; cases hg
 rw [poset_ordered_L2] at hg
 apply wQ
 apply wR
 refine mv s rfl rfl fun a s => ?_
 refine qq s rfl (y_lenSlice s rfl underlying27) fun a s => ?_
 refine qq s rfl (y_gtrN (i := ((t_75).length)) (j := 0) s rfl rfl) fun a s => ?_
 apply wN
 refine c_dec s rfl (fun hc83 => ?_) (fun hc83 => ?_)
 ·replace hg := br_t hg hc83
  have hmx84 := row_mx (s.wd.holds 700143 _ rfl)
  apply wp_skip
  apply pN
  obtain ⟨k85, hg, hk85⟩ := jn_some hg
  refine c_post (fun a w => ∃ (t_86 : (List (List UInt8 × Int))) (t_88 : (List (List UInt8))) (t_92 : (List (List UInt8))) (kv87 : List (List UInt8 × Value)) (A89 : Option Addr) (c90 : Nat) (cs91 : List Value) (A93 : Option Addr) (c94 : Nat) (cs95 : List Value), k85 t_86 t_88 t_92 = some r ∧ St (⟨Try.f34.ntmps, M, noB, w0⟩ : Ctx) [(3, .map (some b2)), (4, .map (some b4)), (5, sl A89 (t_88) c90), (10, sl A93 (t_92) c94)] [(1102, Ob.smap b2 (kv87)), (700148, Ob.row (A89) ((t_88).length) (c90) 9 1 (cs91)), (700150, Ob.row (A93) ((t_92).length) (c94) 9 1 (cs95))] [(141, mapRF (Rep.list Rep.str) b4 (t_8)), (147, kvF (Rep.num .i64) (kv87) (t_86)), (149, rdF Rep.str (cs91) (t_88)), (151, rdF Rep.str (cs95) (t_92))] a w) ?_ ?_
  ·apply wp_block
   apply wQ
   obtain ⟨r96, hr96, hg⟩ := bind_some hg
   apply wL
   refine mv s rfl rfl fun a s => ?_
   have hT := s
   replace hT := hT.fz (R := Rep.str) (kk := 700143) [1102, 700145] 153 rfl rfl (hT.ft 144 rfl) rfl
   refine l_seq rfl (l_call (cap := []) s rfl func53 rfl (by kernel_rfl) rfl rfl (c_slices_Min_string n _ _ hT.lt t_75 (A76) (c77) (hT.ft 153 rfl) r96 hr96) fun v100 a w hK hp s => ?_)
   obtain ⟨rfl, lu101a1⟩ := hp
   refine l_seq rfl (l_alloc (zs := [vT ([])]) s 2802 rfl rfl rfl rfl fun b102 a w hb hK s => ?_)
   refine l_seq rfl (l_store (n := 1) (cs' := [vT r96]) s 2802 rfl rfl rfl rfl rfl rfl rfl rfl ?_); clear s; intro w hK s; clear hK
   apply wN
   apply wQ
   obtain ⟨r103, hr103, hg⟩ := bind_some hg
   apply wL
   refine mv s rfl rfl fun a s => ?_
   replace s := s.freezeBox (L' := [(1102, Ob.smap b2 (kv74)), (700143, Ob.row (A76) ((t_75).length) (c77) 9 1 (cs78)), (700145, Ob.row (A80) ((t_79).length) (c81) 9 1 (cs82))]) 156 2802 rfl ⟨rfl, rfl, rfl, trivial⟩ rfl
   refine qq s rfl (y_makeFunc (xs := [.tmp 11]) (vs := [vP b102 0]) s rfl) fun a s => ?_
   have hT := s.pk [(1102, 1102), (700145, 700145), (9200000, 700143)] (by decide)
   replace hT := hT.al 9300000 144 rfl
   replace hT := hT.add 9400000 (fnF Try.prog 54 [vP b102 0] pre53 post53 ((fun p => poset_ordered_1 n p r96))) ⟨⟨_, _, func54, rfl, by kernel_rfl⟩, fun M1 w1 hk hm hlt vs x r hp hr => by obtain ⟨rfl, la1⟩ := hp; exact c_poset_ordered_1 n M1 w1 hlt (x) la1 b102 (r96) (by omega) (Fact.move (boxF b102 [vT r96] 9) hk hm (hT.ft 156 rfl)) r hr⟩
   refine l_seq rfl (l_callMut (cap := []) hT _ [] (sbA (by rfl)) trivial (by rfl) rfl func48 rfl (by kernel_rfl) rfl rfl (c_slices_DeleteFunc_string n _ _ (hT.restLt [1102, 700145]) _ t_75 (A76) (c77) (cs78) (fun p => poset_ordered_1 n p r96) (54) ([vP b102 0]) (hT.wd.lendL _ _ _ (sbA (by rfl)) (keep_sub [1102, 700145]) (by rfl) (sbA (by rfl))) r103 hr103) ?_); intro v106 a' w' hK hp hF
   obtain ⟨Aou107, cou107, csou107, rfl, hWu107⟩ := hp
   have hS2 := St.mk hF (hT.wd.back (sbA (by rfl)) (keep_sub [1102, 700145]) (by rfl) hWu107 (by rfl))
   clear s hT hF hWu107 hK; revert hS2; revert w'; revert a'; intro a w s
   replace s := s.al 157 9300000 rfl
   replace s := s.ren [(1102, Ob.smap b2 (kv74)), (700143, Ob.row (Aou107) ((r103).length) (cou107) 9 1 (csou107)), (700145, Ob.row (A80) ((t_79).length) (c81) 9 1 (cs82))] [1102, 9200000, 700145] ⟨rfl, rfl, rfl, trivial⟩ (by decide)
   refine asg s rfl rfl fun a s => ?_
   apply wN
   apply wQ
   obtain ⟨hk109, hg⟩ := chk_some hg
   apply wL
   refine mv s rfl rfl fun a s => ?_
   refine qq s rfl (y_loadF1 s rfl (s.ft 156 rfl) rfl underlying9 rfl) fun a s => ?_
   refine l_seq rfl (l_buildDense (sz := 1) s 3002 rfl rfl rfl underlying27 rfl rfl rfl rfl rfl rfl rfl fun b112 a w hbb112 hK s => ?_)
   clear hbb112
   replace s := s.add 160 (rdF Rep.str (cellsOfL [vT r96]) ([r96])) (RdAll.cons (by exact ⟨rfl, (by omega)⟩) (RdAll.nil _ _ _))
   have hs114 := row_src (s.wd.holds 3002 _ rfl) (RdAll.one (s.ft 160 rfl))
   refine l_seq rfl (l_append (sz := 1) (by_ := 16) (N := (t_79 ++ [r96]).length) (ys := cs82 ++ (cellsOfL [vT r96])) s 700145 rfl rfl rfl underlying27 rfl rfl rfl rfl rfl hs114 (by first | (simp; done) | (simp; omega)) rfl (by have hr := hk109; clear hg; first | omega | (simp only [List.length_append, List.length_cons, List.length_nil] at hr ⊢; omega) | (simp at hr ⊢; omega)) (by have hr := hk109; clear hg; first | omega | (simp only [List.length_append, List.length_cons, List.length_nil] at hr ⊢; omega) | (simp at hr ⊢; omega)) rfl fun Aq113 cq113 a w hA hK s => ?_)
   replace s := s.add 161 (rdF Rep.str (cs82 ++ (cellsOfL [vT r96])) (t_79 ++ [r96])) (RdAll.append (s.ft 146 rfl) (s.ft 160 rfl))
   refine asg s rfl rfl fun a s => ?_
   apply wN
   apply wR
   refine mv s rfl rfl fun a s => ?_
   refine qq s rfl (y_loadF1 s rfl (s.ft 156 rfl) rfl underlying9 rfl) fun a s => ?_
   obtain ⟨kvm116, hmm116, hfm116⟩ := mapRF_open (s.ft 141 rfl)
   have hm116 := kvF_getD (R := (Rep.list Rep.str)) (k := r96) (z := .slice (none) (0) (0)) (zx := []) hfm116 (by exact ⟨_, _, _, rfl, (SlR.nil_ _ _ _)⟩)
   obtain ⟨Am1161, nnm116, cm1161, em116, hm1161⟩ := hm116
   obtain rfl := hm1161.len
   replace s := s.ns 163 hm1161
   refine qq s rfl (y_lookupFV s rfl rfl hmm116 underlying49 underlying9 rfl em116) fun a s => ?_
   refine qq s rfl (y_lenSlice s rfl underlying27) fun a s => ?_
   refine mv s rfl rfl fun a s => ?_
   apply wN
   apply wp_block
   replace s := s.al 164 142 rfl
   replace s := s.al 166 157 rfl
   replace s := s.pk [(1102, 1102), (3002, 3002), (700145, 700145), (700165, 700143)] (by decide)
   refine c_loop (σ := Nat) (fun m4 a w => ∃ (t_117 : (List (List UInt8 × Int))) (t_119 : (List (List UInt8))) (t_123 : Nat) (kv118 : List (List UInt8 × Value)) (A120 : Option Addr) (c121 : Nat) (cs122 : List Value), poset_ordered_L3 n t_8 t_79 k85 r96 m4 t_117 t_119 t_123 = some r ∧ St (⟨Try.f34.ntmps, M, noB, w0⟩ : Ctx) [(3, .map (some b2)), (4, .map (some b4)), (5, sl A120 (t_119) c121), (10, sl Aq113 (t_79 ++ [r96]) cq113), (71, sl Am1161 (((mget t_8 r96).getD [])) cm1161), (72, vI ((((((mget t_8 r96).getD [])).length : Nat) : Int))), (73, vI (((t_123 : Nat) : Int)))] [(1102, Ob.smap b2 (kv118)), (700145, Ob.row (Aq113) ((t_79 ++ [r96]).length) (cq113) 9 1 (cs82 ++ (cellsOfL [vT r96]))), (700165, Ob.row (A120) ((t_119).length) (c121) 9 1 (cs122))] [(141, mapRF (Rep.list Rep.str) b4 (t_8)), (161, rdF Rep.str (cs82 ++ (cellsOfL [vT r96])) (t_79 ++ [r96])), (163, slF Rep.str (Am1161) ((((mget t_8 r96).getD [])).length) (cm1161) (((mget t_8 r96).getD []))), (164, kvF (Rep.num .i64) (kv118) (t_117)), (166, rdF Rep.str (cs122) (t_119))] a w) (fun m4 => m4) n ⟨(t_73), (r103), (0), (kv74), (Aou107), (cou107), (csou107), hg, (s.sb rfl rfl rfl)⟩ ?_
   clear s a; rintro m4 a w ⟨t_117, t_119, t_123, kv118, A120, c121, cs122, hg, s⟩
   rcases m4 with _ | m4
   ·rw [poset_ordered_L3] at hg; cases hg
   rw [poset_ordered_L3] at hg
   apply wR
   refine qq s rfl (y_lssN (i := t_123) (j := ((((mget t_8 r96).getD [])).length)) s rfl rfl) fun a s => ?_
   apply wN
   apply wQ
   refine c_dec s rfl (fun hc124 => ?_) (fun hc124 => ?_)
   ·replace hg := br_t hg hc124
    have hmx125 := SlR.mx (s.ft 163 rfl)
    apply wp_skip
    apply pN
    apply wQ
    apply wp_block
    apply wQ
    obtain ⟨x127, hx127, hg⟩ := bind_some hg
    apply wL
    obtain ⟨p129, hep129, hpp129⟩ := SlR.elemX (s.ft 163 rfl) hx127
    refine qq s rfl (y_elem (sz := 1) (i := t_123) s rfl rfl underlying27 rfl hep129 rfl (lt_of_get hx127)) fun a s => ?_
    obtain ⟨hlq130, hmq130, csq130, hdq130, hcq130⟩ := hpp129
    obtain ⟨rfl, lq1301⟩ := hdq130
    refine qq s rfl (y_ldp1 s rfl hlq130 hmq130 (hcq130 0 _ rfl) underlying9 rfl) fun a s => ?_
    refine asg s rfl rfl fun a s => ?_
    apply wN
    apply wQ
    obtain ⟨hk132, hg⟩ := chk_some hg
    apply wL
    refine mv s rfl rfl fun a s => ?_
    refine mv s rfl rfl fun a s => ?_
    have hm133 := kvF_getD (R := (Rep.num .i64)) (k := x127) (z := vI 0) (zx := 0) (s.ft 164 rfl) (by exact rfl)
    have em133 := hm133
    refine qq s rfl (y_lookupV (kk := 1102) s rfl rfl rfl underlying60 underlying9 rfl em133) fun a s => ?_
    refine qq s rfl (y_sub s rfl rfl (in64.2 hk132)) fun a s => ?_
    refine l_seq rfl (l_mapUpdate s 1102 rfl rfl rfl rfl underlying60 underlying9 fun w hK s => ?_)
    replace s := s.add 168 (kvF (Rep.num .i64) (mset (kv118) (x127) (vI (((mget t_117 x127).getD 0) - 1))) (mset (t_117) (x127) (((mget t_117 x127).getD 0) - 1))) (kvF_set (s.ft 164 rfl) (by exact rfl))
    apply wN
    apply wR
    refine mv s rfl rfl fun a s => ?_
    refine mv s rfl rfl fun a s => ?_
    have hm135 := kvF_getD (R := (Rep.num .i64)) (k := x127) (z := vI 0) (zx := 0) (s.ft 168 rfl) (by exact rfl)
    have em135 := hm135
    refine qq s rfl (y_lookupV (kk := 1102) s rfl rfl rfl underlying60 underlying9 rfl em135) fun a s => ?_
    refine qq s rfl (y_eql s rfl rfl) fun a s => ?_
    apply wN
    refine c_dec s rfl (fun hc136 => ?_) (fun hc136 => ?_)
    ·replace hg := br_t hg hc136
     obtain ⟨hk138, hg⟩ := chk_some hg
     apply wL
     refine mv s rfl rfl fun a s => ?_
     refine mv s rfl rfl fun a s => ?_
     refine l_seq rfl (l_buildDense (sz := 1) s 3602 rfl rfl rfl underlying27 rfl rfl rfl rfl rfl rfl rfl fun b141 a w hbb141 hK s => ?_)
     clear hbb141
     replace s := s.add 171 (rdF Rep.str (cellsOfL [vT x127]) ([x127])) (RdAll.cons (by exact ⟨rfl, (by omega)⟩) (RdAll.nil _ _ _))
     have hs143 := row_src (s.wd.holds 3602 _ rfl) (RdAll.one (s.ft 171 rfl))
     refine l_seq rfl (l_append (sz := 1) (by_ := 16) (N := (t_119 ++ [x127]).length) (ys := cs122 ++ (cellsOfL [vT x127])) s 700165 rfl rfl rfl underlying27 rfl rfl rfl rfl rfl hs143 (by first | (simp; done) | (simp; omega)) rfl (by have hr := hk138; clear hg; first | omega | (simp only [List.length_append, List.length_cons, List.length_nil] at hr ⊢; omega) | (simp at hr ⊢; omega)) (by have hr := hk138; clear hg; first | omega | (simp only [List.length_append, List.length_cons, List.length_nil] at hr ⊢; omega) | (simp at hr ⊢; omega)) rfl fun Aq142 cq142 a w hA hK s => ?_)
     replace s := s.add 172 (rdF Rep.str (cs122 ++ (cellsOfL [vT x127])) (t_119 ++ [x127])) (RdAll.append (s.ft 166 rfl) (s.ft 171 rfl))
     refine asg s rfl rfl fun a s => ?_
     apply wO
     refine p_inN ?_
     apply pN
     apply wL
     refine qq s rfl (y_addN (i := t_123) (j := 1) s rfl rfl (in64.2 (by omega))) fun a s => ?_
     refine mv s rfl rfl fun a s => ?_
     apply wN
     replace s := s.add 164 (kvF (Rep.num .i64) (mset (kv118) (x127) (vI (((mget t_117 x127).getD 0) - 1))) (mset (t_117) (x127) (((mget t_117 x127).getD 0) - 1))) (s.ft 168 rfl)
     replace s := s.add 166 (rdF Rep.str (cs122 ++ (cellsOfL [vT x127])) (t_119 ++ [x127])) (s.ft 172 rfl)
     exact ⟨m4, Nat.lt_succ_self _, ⟨(mset (t_117) (x127) (((mget t_117 x127).getD 0) - 1)), (t_119 ++ [x127]), (t_123 + 1), (mset (kv118) (x127) (vI (((mget t_117 x127).getD 0) - 1))), (Aq142), (cq142), (cs122 ++ (cellsOfL [vT x127])), hg, (s.sb rfl rfl rfl)⟩⟩
    replace hg := br_f hg hc136
    apply wp_skip
    refine p_inN ?_
    apply pN
    apply wL
    refine qq s rfl (y_addN (i := t_123) (j := 1) s rfl rfl (in64.2 (by omega))) fun a s => ?_
    refine mv s rfl rfl fun a s => ?_
    apply wN
    replace s := s.add 164 (kvF (Rep.num .i64) (mset (kv118) (x127) (vI (((mget t_117 x127).getD 0) - 1))) (mset (t_117) (x127) (((mget t_117 x127).getD 0) - 1))) (s.ft 168 rfl)
    replace s := s.al 166 166 rfl
    exact ⟨m4, Nat.lt_succ_self _, ⟨(mset (t_117) (x127) (((mget t_117 x127).getD 0) - 1)), (t_119), (t_123 + 1), (mset (kv118) (x127) (vI (((mget t_117 x127).getD 0) - 1))), (A120), (c121), (cs122), hg, (s.sb rfl rfl rfl)⟩⟩
   replace hg := br_f hg hc124
   apply wp_exit
   refine p_then ?_
   refine p_then ?_
   refine p_in ?_
   refine p_inN ?_
   apply pN
   replace s := s.al 147 164 rfl
   replace s := s.al 149 166 rfl
   replace s := s.add 151 (rdF Rep.str (cs82 ++ (cellsOfL [vT r96])) (t_79 ++ [r96])) (s.ft 161 rfl)
   replace s := s.pk [(1102, 1102), (700148, 700165), (700150, 700145)] (by decide)
   exact ⟨(t_117), (t_119), (t_79 ++ [r96]), (kv118), (A120), (c121), (cs122), (Aq113), (cq113), (cs82 ++ (cellsOfL [vT r96])), hg, (s.sb rfl rfl rfl)⟩
  clear s a; rintro a w ⟨t_86, t_88, t_92, kv87, A89, c90, cs91, A93, c94, cs95, hg, s⟩
  subst hk85
  replace s := s.al 142 147 rfl
  replace s := s.al 144 149 rfl
  replace s := s.al 146 151 rfl
  replace s := s.pk [(1102, 1102), (700143, 700148), (700145, 700150)] (by decide)
  exact ⟨m3, Nat.lt_succ_self _, ⟨(t_86), (t_88), (t_92), (kv87), (A89), (c90), (cs91), (A93), (c94), (cs95), hg, (s.sb rfl rfl rfl)⟩⟩
 replace hg := br_f hg hc83
 apply wp_exit
 refine p_then ?_
 refine p_then ?_
 refine p_in ?_
 apply pN
 apply wR
 refine mv s rfl rfl fun a s => ?_
 refine asg s rfl rfl fun a s => ?_
 apply wN
 apply wp_ret
 obtain rfl := Option.some.inj hg
 refine fin1 (fn := Try.f34) s rfl (r_tmp s rfl) ?_
 exact ⟨(A80), (c81), rfl, (s.rowOut (R := Rep.str) (kk := 700145) rfl rfl (s.ft 146 rfl))⟩
end Go.Proofs.Ytoeolfnjblibpaa

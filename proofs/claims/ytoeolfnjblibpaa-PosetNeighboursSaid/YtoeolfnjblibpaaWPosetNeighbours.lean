/- Chapter 03: the walk of PosetNeighbours -/
import Derived.Test.YtoeolfnjblibpaaW8
namespace Go.Proofs.Ytoeolfnjblibpaa
open Go.Gl Go.RowKit Try
set_option linter.unusedVariables false
set_option linter.unusedSimpArgs false
set_option maxRecDepth 4000

set_option maxHeartbeats 400000 in
theorem c_law03_PosetNeighbours (n : Nat) (M : Bs) (w0 : World) (hM : ∀ b, M b → b < w0.heap.size) (d_ : (List TypeDecl)) (Ap01 : Option Addr) (cp01 : Nat) (hp01 : SlR RTypeDecl M w0 Ap01 (d_).length cp01 (d_)) (name_ : (List UInt8)) (lp11 : (name_).length ≤ 9223372036854775807) (r : Bool) (hg : law03_PosetNeighbours n d_ name_ = some r) :
    Calls Try.prog 5 [.slice (Ap01) ((d_).length) (cp01), .string (bs (name_))].toArray w0 (Ret noB w0 fun v w => v = .bool (r)) := by
 unfold law03_PosetNeighbours at hg
 refine enter M noB func5 rfl rfl hM ?_
 intro a s
 replace s := s.es 101 hp01
 apply wR
 refine asg s rfl rfl fun a s => ?_
 apply wN
 apply wQ
 apply wQ
 obtain ⟨r1, hr1, hg⟩ := bind_some hg
 apply wL
 refine mv s rfl rfl fun a s => ?_
 refine l_seq rfl (l_call (cap := []) s rfl func18 rfl (by kernel_rfl) rfl rfl (c_law03_valid n _ _ s.lt d_ (Ap01) (cp01) (s.ft 101 rfl) r1 hr1) fun v4 a w hK hp s => ?_)
 obtain rfl := hp
 refine qq s rfl (y_not s rfl) fun a s => ?_
 apply wN
 refine c_cond s rfl (fun hc6 => ?_) (fun hc6 => ?_)
 ·replace hg := br_t hg hc6
  apply wQ
  obtain ⟨r7, hr7, hg⟩ := bind_some hg
  apply wL
  refine l_seq rfl (l_call (cap := []) s rfl func12 rfl (by kernel_rfl) rfl rfl (c_law03_exampleHolds n _ _ s.lt  r7 hr7) fun v10 a w hK hp s => ?_)
  obtain rfl := hp
  refine asg s rfl rfl fun a s => ?_
  apply wN
  apply wp_ret
  refine p_thenR ?_
  obtain rfl := Option.some.inj hg
  refine fin1 (fn := Try.f5) s rfl (r_tmp s rfl) ?_
  exact rfl
 replace hg := br_n hg hc6
 apply wp_skip
 apply pN
 apply wQ
 obtain ⟨r12, hr12, hg⟩ := bind_some hg
 obtain ⟨hk16, hg⟩ := chk_some hg
 apply wL
 refine mv s rfl rfl fun a s => ?_
 refine l_seq rfl (l_callOwn (cap := []) (post := (fun v ob w' => ∃ Ao co cso, ob = Ob.row Ao (r12).length co 9 1 cso ∧ v = sl Ao (r12) co ∧ RdAll Rep.str (fun b => mtb _ _ b ∨ ob.ids b) w' cso (r12))) s 1301 rfl rfl func19 rfl (by kernel_rfl) rfl rfl ((c_r03_Names n _ _ s.lt d_ (Ap01) (cp01) (s.ft 101 rfl) r12 hr12).mono (fun e w' h => by obtain ⟨v, he, hk, Ao, co, cso, hv, ho1, ho2, ho3⟩ := h; exact ⟨v, he, hk, _, ho1, ho2, ⟨Ao, co, cso, rfl, hv, ho3⟩⟩)) fun v20 ob a w hK hp s => ?_)
 obtain ⟨Au19, cu19, csu19, rfl, rfl, hou19⟩ := hp
 replace s := s.add 105 (rdF Rep.str csu19 (r12)) (RdAll.up2 s hou19)
 refine mv s rfl rfl fun a s => ?_
 refine l_seq rfl (l_buildDense (sz := 1) s 1303 rfl rfl rfl underlying27 rfl rfl rfl rfl rfl rfl rfl fun b21 a w hbb21 hK s => ?_)
 clear hbb21
 replace s := s.add 106 (rdF Rep.str (cellsOfL [vT name_]) ([name_])) (RdAll.cons (by exact ⟨rfl, (by omega)⟩) (RdAll.nil _ _ _))
 have hs23 := row_src (s.wd.holds 1303 _ rfl) (RdAll.one (s.ft 106 rfl))
 refine l_seq rfl (l_append (sz := 1) (by_ := 16) (N := (r12 ++ [name_]).length) (ys := csu19 ++ (cellsOfL [vT name_])) s 1301 rfl rfl rfl underlying27 rfl rfl rfl rfl rfl hs23 (by first | (simp; done) | (simp; omega)) rfl (by have hr := hk16; clear hg; first | omega | (simp only [List.length_append, List.length_cons, List.length_nil] at hr ⊢; omega) | (simp at hr ⊢; omega)) (by have hr := hk16; clear hg; first | omega | (simp only [List.length_append, List.length_cons, List.length_nil] at hr ⊢; omega) | (simp at hr ⊢; omega)) rfl fun Aq22 cq22 a w hA hK s => ?_)
 replace s := s.add 107 (rdF Rep.str (csu19 ++ (cellsOfL [vT name_])) (r12 ++ [name_])) (RdAll.append (s.ft 105 rfl) (s.ft 106 rfl))
 refine asg s rfl rfl fun a s => ?_
 apply wN
 apply wQ
 apply wR
 refine mv s rfl rfl fun a s => ?_
 refine qq s rfl (y_lenSlice s rfl underlying27) fun a s => ?_
 refine mv s rfl rfl fun a s => ?_
 apply wN
 obtain ⟨k24, hg, hk24⟩ := jn_some hg
 refine c_post (fun a w => k24 = some r ∧ St (⟨Try.f5.ntmps, M, noB, w0⟩ : Ctx) [] [] [] a w) ?_ ?_
 ·apply wp_block
  refine c_loop (σ := Nat) (fun m1 a w => ∃ (t_25 : Nat), law03_PosetNeighbours_L0 n d_ name_ r12 k24 m1 t_25 = some r ∧ St (⟨Try.f5.ntmps, M, noB, w0⟩ : Ctx) [(0, sl Ap01 (d_) cp01), (5, sl Aq22 (r12 ++ [name_]) cq22), (17, vI ((((r12 ++ [name_]).length : Nat) : Int))), (18, vI (((t_25 : Nat) : Int)))] [(1301, Ob.row (Aq22) ((r12 ++ [name_]).length) (cq22) 9 1 (csu19 ++ (cellsOfL [vT name_])))] [(101, slF RTypeDecl (Ap01) ((d_).length) (cp01) (d_)), (107, rdF Rep.str (csu19 ++ (cellsOfL [vT name_])) (r12 ++ [name_]))] a w) (fun m1 => m1) n ⟨(0), hg, (s.sb rfl rfl rfl)⟩ ?_
  clear s a; rintro m1 a w ⟨t_25, hg, s⟩
  rcases m1 with _ | m1
  ·rw [law03_PosetNeighbours_L0] at hg; cases hg
  rw [law03_PosetNeighbours_L0] at hg
  apply wR
  refine qq s rfl (y_lssN (i := t_25) (j := ((r12 ++ [name_]).length)) s rfl rfl) fun a s => ?_
  apply wN
  apply wQ
  refine c_dec s rfl (fun hc26 => ?_) (fun hc26 => ?_)
  ·replace hg := br_t hg hc26
   have hmx27 := row_mx (s.wd.holds 1301 _ rfl)
   apply wp_skip
   apply pN
   apply wQ
   apply wp_block
   apply wR
   refine mv s rfl rfl fun a s => ?_
   refine asg s rfl rfl fun a s => ?_
   apply wN
   apply wQ
   obtain ⟨k28, hg, hk28⟩ := jn_some hg
   refine c_post (fun a w => ∃ (t_29 : Bool), k28 t_29 = some r ∧ St (⟨Try.f5.ntmps, M, noB, w0⟩ : Ctx) [(0, sl Ap01 (d_) cp01), (5, sl Aq22 (r12 ++ [name_]) cq22), (17, vI ((((r12 ++ [name_]).length : Nat) : Int))), (18, vI (((t_25 : Nat) : Int))), (50, .bool (t_29))] [(1301, Ob.row (Aq22) ((r12 ++ [name_]).length) (cq22) 9 1 (csu19 ++ (cellsOfL [vT name_])))] [(101, slF RTypeDecl (Ap01) ((d_).length) (cp01) (d_)), (107, rdF Rep.str (csu19 ++ (cellsOfL [vT name_])) (r12 ++ [name_]))] a w) ?_ ?_
   ·obtain ⟨x31, hx31, hg⟩ := bind_some hg
    obtain ⟨r33, hr33, hg⟩ := bind_some hg
    obtain ⟨r38, hr38, hg⟩ := bind_some hg
    obtain ⟨r41, hr41, hg⟩ := bind_some hg
    rcases Bool.eq_false_or_eq_true (!(r41)) with hs44 | hs44
    ·replace hg := br_t hg hs44
     refine d_steps s [] rfl ?_; clear s; intro wr hZ s; have hR := s.wd; have hE := Ext.init hR 0
     refine n_q 0 0 s hR rfl (by kernel_rfl) (by kernel_rfl) (by kernel_rfl) rfl rfl rfl (y_move s rfl) fun a s => ?_
     refine n_q 1 0 s hR rfl (by kernel_rfl) (by kernel_rfl) (by kernel_rfl) rfl rfl rfl (y_move s rfl) fun a s => ?_
     refine n_q 2 0 s hR rfl (by kernel_rfl) (by kernel_rfl) (by kernel_rfl) rfl rfl rfl (y_move s rfl) fun a s => ?_
     obtain ⟨hiq45, bq45, hAq45⟩ := SlR.row1 (s.wd.holds 1301 _ rfl) (s.ft 107 rfl) rfl rfl hx31
     refine n_q 3 0 s hR rfl (by kernel_rfl) (by kernel_rfl) (by kernel_rfl) rfl rfl rfl (y_rowIndex (sz := 1) (i := t_25) s rfl rfl underlying27 rfl hAq45 rfl hiq45) fun a s => ?_
     have hz46 := (s.ft 107 rfl).at_ _ _ hx31
     obtain ⟨ez46, lz461⟩ := hz46
     refine n_q 4 1301 s hR rfl (by kernel_rfl) (by kernel_rfl) (by kernel_rfl) rfl rfl rfl (y_loadRow1 (kk := 1301) s rfl rfl hAq45 (take1 ez46) underlying9 rfl) fun a s => ?_
     refine n_q 6 0 s hR rfl (by kernel_rfl) (by kernel_rfl) (by kernel_rfl) rfl rfl rfl (y_move s rfl) fun a s => ?_
     refine n_q 7 0 s hR rfl (by kernel_rfl) (by kernel_rfl) (by kernel_rfl) rfl rfl rfl (y_move s rfl) fun a s => ?_
     refine n_q 8 0 s hR rfl (by kernel_rfl) (by kernel_rfl) (by kernel_rfl) rfl rfl rfl (y_move s rfl) fun a s => ?_
     obtain ⟨hiq47, bq47, hAq47⟩ := SlR.row1 (s.wd.holds 1301 _ rfl) (s.ft 107 rfl) rfl rfl hx31
     refine n_q 9 0 s hR rfl (by kernel_rfl) (by kernel_rfl) (by kernel_rfl) rfl rfl rfl (y_rowIndex (sz := 1) (i := t_25) s rfl rfl underlying27 rfl hAq47 rfl hiq47) fun a s => ?_
     have hz48 := (s.ft 107 rfl).at_ _ _ hx31
     obtain ⟨ez48, lz481⟩ := hz48
     refine n_q 10 1301 s hR rfl (by kernel_rfl) (by kernel_rfl) (by kernel_rfl) rfl rfl rfl (y_loadRow1 (kk := 1301) s rfl rfl hAq47 (take1 ez48) underlying9 rfl) fun a s => ?_
     refine n_1 5 s (by kernel_rfl) rfl rfl (l_call (cap := []) s rfl func20 rfl (by kernel_rfl) rfl rfl (c_poset_Above n _ _ s.lt d_ (Ap01) (cp01) (s.ft 101 rfl) x31 (by omega) r33 hr33) fun v49 a w hK hp s => ?_)
     replace hE := hE.grow hK; replace hZ := Nat.le_trans hZ hK.size; refine ⟨fun g _ h => h.grow hK, ?_⟩; clear hK
     obtain ⟨Au50a1, cu50a1, rfl, hu50a1⟩ := hp
     replace s := s.ns 110 hu50a1
     refine n_1 11 s (by kernel_rfl) rfl rfl (l_call (cap := []) s rfl func21 rfl (by kernel_rfl) rfl rfl (c_r03_Above n _ _ s.lt d_ (Ap01) (cp01) (s.ft 101 rfl) x31 (by omega) r38 hr38) fun v51 a w hK hp s => ?_)
     replace hE := hE.grow hK; replace hZ := Nat.le_trans hZ hK.size; refine ⟨fun g _ h => h.grow hK, ?_⟩; clear hK
     obtain ⟨Au52a1, cu52a1, rfl, hu52a1⟩ := hp
     replace s := s.ns 111 hu52a1
     refine n_1 12 s (by kernel_rfl) rfl rfl (l_call (cap := []) s rfl func17 rfl (by kernel_rfl) rfl rfl (c_r03_SameStrings n _ _ s.lt r33 (Au50a1) (cu50a1) (s.ft 110 rfl) r38 (Au52a1) (cu52a1) (s.ft 111 rfl) r41 hr41) fun v53 a w hK hp s => ?_)
     replace hE := hE.grow hK; replace hZ := Nat.le_trans hZ hK.size; refine ⟨fun g _ h => h.grow hK, ?_⟩; clear hK
     obtain rfl := hp
     refine n_1 13 s (by kernel_rfl) rfl rfl (l_quiet s rfl rfl (yl_b (y_not s rfl) hs44) fun a s => ?_); refine ⟨fun g _ h => h, ?_⟩
     refine n_1 14 s (by kernel_rfl) rfl rfl (l_quiet s rfl rfl (y_move s rfl) fun a s => ?_); refine ⟨fun g _ h => h, ?_⟩
     refine n_qlpass 15 s hE rfl (by kernel_rfl) (by kernel_rfl) (by kernel_rfl) rfl ⟨_, _, _, rfl, rfl, rfl, rfl⟩ rfl fun a s => ?_
     refine n_qlpass 16 s hE rfl (by kernel_rfl) (by kernel_rfl) (by kernel_rfl) rfl ⟨_, _, _, rfl, rfl, rfl, rfl⟩ rfl fun a s => ?_
     refine n_qlpass 17 s hE rfl (by kernel_rfl) (by kernel_rfl) (by kernel_rfl) rfl ⟨_, _, _, rfl, rfl, rfl, rfl⟩ rfl fun a s => ?_
     refine n_qlpass 18 s hE rfl (by kernel_rfl) (by kernel_rfl) (by kernel_rfl) rfl ⟨_, _, _, rfl, rfl, rfl, rfl⟩ rfl fun a s => ?_
     refine n_qlpass 19 s hE rfl (by kernel_rfl) (by kernel_rfl) (by kernel_rfl) rfl ⟨_, _, _, rfl, rfl, rfl, rfl⟩ rfl fun a s => ?_
     refine n_qlpass 20 s hE rfl (by kernel_rfl) (by kernel_rfl) (by kernel_rfl) rfl ⟨_, _, _, rfl, rfl, rfl, rfl⟩ rfl fun a s => ?_
     refine n_qlpass 21 s hE rfl (by kernel_rfl) (by kernel_rfl) (by kernel_rfl) rfl ⟨_, _, _, rfl, rfl, rfl, rfl⟩ rfl fun a s => ?_
     refine n_qlpass 22 s hE rfl (by kernel_rfl) (by kernel_rfl) (by kernel_rfl) rfl ⟨_, _, _, rfl, rfl, rfl, rfl⟩ rfl fun a s => ?_
     refine n_pass 23 s (by kernel_rfl) rfl ⟨_, _, _, rfl, rfl, rfl, rfl⟩ rfl rfl fun a s => ?_
     refine n_pass 24 s (by kernel_rfl) rfl ⟨_, _, _, rfl, rfl, rfl, rfl⟩ rfl rfl fun a s => ?_
     refine n_pass 25 s (by kernel_rfl) rfl ⟨_, _, _, rfl, rfl, rfl, rfl⟩ rfl rfl fun a s => ?_
     refine n_pass 26 s (by kernel_rfl) rfl ⟨_, _, _, rfl, rfl, rfl, rfl⟩ rfl rfl fun a s => ?_
     refine n_pass 27 s (by kernel_rfl) rfl ⟨_, _, _, rfl, rfl, rfl, rfl⟩ rfl rfl fun a s => ?_
     refine n_pass 28 s (by kernel_rfl) rfl ⟨_, _, _, rfl, rfl, rfl, rfl⟩ rfl rfl fun a s => ?_
     refine n_1 29 s (by kernel_rfl) rfl rfl (l_quiet s rfl rfl (y_pick_t s rfl rfl) fun a s => ?_); refine ⟨fun g _ h => h, ?_⟩
     refine n_end (by kernel_rfl) ?_; clear hR hZ hE
     apply pN
     exact ⟨(true), hg, (s.sb rfl rfl rfl)⟩
    replace hg := br_n hg hs44
    obtain ⟨r57, hr57, hg⟩ := bind_some hg
    obtain ⟨r62, hr62, hg⟩ := bind_some hg
    obtain ⟨r65, hr65, hg⟩ := bind_some hg
    refine d_steps s [] rfl ?_; clear s; intro wr hZ s; have hR := s.wd; have hE := Ext.init hR 0
    refine n_q 0 0 s hR rfl (by kernel_rfl) (by kernel_rfl) (by kernel_rfl) rfl rfl rfl (y_move s rfl) fun a s => ?_
    refine n_q 1 0 s hR rfl (by kernel_rfl) (by kernel_rfl) (by kernel_rfl) rfl rfl rfl (y_move s rfl) fun a s => ?_
    refine n_q 2 0 s hR rfl (by kernel_rfl) (by kernel_rfl) (by kernel_rfl) rfl rfl rfl (y_move s rfl) fun a s => ?_
    obtain ⟨hiq68, bq68, hAq68⟩ := SlR.row1 (s.wd.holds 1301 _ rfl) (s.ft 107 rfl) rfl rfl hx31
    refine n_q 3 0 s hR rfl (by kernel_rfl) (by kernel_rfl) (by kernel_rfl) rfl rfl rfl (y_rowIndex (sz := 1) (i := t_25) s rfl rfl underlying27 rfl hAq68 rfl hiq68) fun a s => ?_
    have hz69 := (s.ft 107 rfl).at_ _ _ hx31
    obtain ⟨ez69, lz691⟩ := hz69
    refine n_q 4 1301 s hR rfl (by kernel_rfl) (by kernel_rfl) (by kernel_rfl) rfl rfl rfl (y_loadRow1 (kk := 1301) s rfl rfl hAq68 (take1 ez69) underlying9 rfl) fun a s => ?_
    refine n_q 6 0 s hR rfl (by kernel_rfl) (by kernel_rfl) (by kernel_rfl) rfl rfl rfl (y_move s rfl) fun a s => ?_
    refine n_q 7 0 s hR rfl (by kernel_rfl) (by kernel_rfl) (by kernel_rfl) rfl rfl rfl (y_move s rfl) fun a s => ?_
    refine n_q 8 0 s hR rfl (by kernel_rfl) (by kernel_rfl) (by kernel_rfl) rfl rfl rfl (y_move s rfl) fun a s => ?_
    obtain ⟨hiq70, bq70, hAq70⟩ := SlR.row1 (s.wd.holds 1301 _ rfl) (s.ft 107 rfl) rfl rfl hx31
    refine n_q 9 0 s hR rfl (by kernel_rfl) (by kernel_rfl) (by kernel_rfl) rfl rfl rfl (y_rowIndex (sz := 1) (i := t_25) s rfl rfl underlying27 rfl hAq70 rfl hiq70) fun a s => ?_
    have hz71 := (s.ft 107 rfl).at_ _ _ hx31
    obtain ⟨ez71, lz711⟩ := hz71
    refine n_q 10 1301 s hR rfl (by kernel_rfl) (by kernel_rfl) (by kernel_rfl) rfl rfl rfl (y_loadRow1 (kk := 1301) s rfl rfl hAq70 (take1 ez71) underlying9 rfl) fun a s => ?_
    refine n_1 5 s (by kernel_rfl) rfl rfl (l_call (cap := []) s rfl func20 rfl (by kernel_rfl) rfl rfl (c_poset_Above n _ _ s.lt d_ (Ap01) (cp01) (s.ft 101 rfl) x31 (by omega) r33 hr33) fun v72 a w hK hp s => ?_)
    replace hE := hE.grow hK; replace hZ := Nat.le_trans hZ hK.size; refine ⟨fun g _ h => h.grow hK, ?_⟩; clear hK
    obtain ⟨Au73a1, cu73a1, rfl, hu73a1⟩ := hp
    replace s := s.ns 114 hu73a1
    refine n_1 11 s (by kernel_rfl) rfl rfl (l_call (cap := []) s rfl func21 rfl (by kernel_rfl) rfl rfl (c_r03_Above n _ _ s.lt d_ (Ap01) (cp01) (s.ft 101 rfl) x31 (by omega) r38 hr38) fun v74 a w hK hp s => ?_)
    replace hE := hE.grow hK; replace hZ := Nat.le_trans hZ hK.size; refine ⟨fun g _ h => h.grow hK, ?_⟩; clear hK
    obtain ⟨Au75a1, cu75a1, rfl, hu75a1⟩ := hp
    replace s := s.ns 115 hu75a1
    refine n_1 12 s (by kernel_rfl) rfl rfl (l_call (cap := []) s rfl func17 rfl (by kernel_rfl) rfl rfl (c_r03_SameStrings n _ _ s.lt r33 (Au73a1) (cu73a1) (s.ft 114 rfl) r38 (Au75a1) (cu75a1) (s.ft 115 rfl) r41 hr41) fun v76 a w hK hp s => ?_)
    replace hE := hE.grow hK; replace hZ := Nat.le_trans hZ hK.size; refine ⟨fun g _ h => h.grow hK, ?_⟩; clear hK
    obtain rfl := hp
    refine n_1 13 s (by kernel_rfl) rfl rfl (l_quiet s rfl rfl (yl_b (y_not s rfl) hs44) fun a s => ?_); refine ⟨fun g _ h => h, ?_⟩
    refine n_1 14 s (by kernel_rfl) rfl rfl (l_quiet s rfl rfl (y_move s rfl) fun a s => ?_); refine ⟨fun g _ h => h, ?_⟩
    refine n_ql 15 s hE rfl (by kernel_rfl) (by kernel_rfl) (by kernel_rfl) rfl ⟨_, _, _, rfl, rfl, rfl, rfl⟩ rfl (fun w' s => y_move s rfl) fun a s => ?_
    refine n_ql 16 s hE rfl (by kernel_rfl) (by kernel_rfl) (by kernel_rfl) rfl ⟨_, _, _, rfl, rfl, rfl, rfl⟩ rfl (fun w' s => y_move s rfl) fun a s => ?_
    refine n_ql 17 s hE rfl (by kernel_rfl) (by kernel_rfl) (by kernel_rfl) rfl ⟨_, _, _, rfl, rfl, rfl, rfl⟩ rfl (fun w' s => y_move s rfl) fun a s => ?_
    obtain ⟨hiq78, bq78, hAq78⟩ := SlR.row1 (s.wd.holds 1301 _ rfl) (s.ft 107 rfl) rfl rfl hx31
    refine n_ql 18 s hE rfl (by kernel_rfl) (by kernel_rfl) (by kernel_rfl) rfl ⟨_, _, _, rfl, rfl, rfl, rfl⟩ rfl (fun w' s => y_rowIndex (sz := 1) (i := t_25) s rfl rfl underlying27 rfl hAq78 rfl hiq78) fun a s => ?_
    refine n_ql 21 s hE rfl (by kernel_rfl) (by kernel_rfl) (by kernel_rfl) rfl ⟨_, _, _, rfl, rfl, rfl, rfl⟩ rfl (fun w' s => y_move s rfl) fun a s => ?_
    refine n_ql 22 s hE rfl (by kernel_rfl) (by kernel_rfl) (by kernel_rfl) rfl ⟨_, _, _, rfl, rfl, rfl, rfl⟩ rfl (fun w' s => y_move s rfl) fun a s => ?_
    refine n_ql 23 s hE rfl (by kernel_rfl) (by kernel_rfl) (by kernel_rfl) rfl ⟨_, _, _, rfl, rfl, rfl, rfl⟩ rfl (fun w' s => y_move s rfl) fun a s => ?_
    obtain ⟨hiq79, bq79, hAq79⟩ := SlR.row1 (s.wd.holds 1301 _ rfl) (s.ft 107 rfl) rfl rfl hx31
    refine n_ql 24 s hE rfl (by kernel_rfl) (by kernel_rfl) (by kernel_rfl) rfl ⟨_, _, _, rfl, rfl, rfl, rfl⟩ rfl (fun w' s => y_rowIndex (sz := 1) (i := t_25) s rfl rfl underlying27 rfl hAq79 rfl hiq79) fun a s => ?_
    refine n_2 19 25 s (by kernel_rfl) rfl ⟨_, _, _, rfl, rfl, rfl, rfl⟩ rfl ⟨_, _, _, rfl, rfl, rfl, rfl⟩ ?_ ?_
    ·have hz80 := (s.ft 107 rfl).at_ _ _ hx31
     obtain ⟨ez80, lz801⟩ := hz80
     refine l_quiet s rfl rfl (y_loadRow1 (kk := 1301) s rfl rfl hAq78 (take1 ez80) underlying9 rfl) fun a s => ?_; refine ⟨fun g _ h => h, ?_⟩
     refine n_2 20 25 s (by kernel_rfl) rfl ⟨_, _, _, rfl, rfl, rfl, rfl⟩ rfl ⟨_, _, _, rfl, rfl, rfl, rfl⟩ ?_ ?_
     ·refine l_call (cap := []) s rfl func22 rfl (by kernel_rfl) rfl rfl (c_poset_Below n _ _ s.lt d_ (Ap01) (cp01) (s.ft 101 rfl) x31 (by omega) r57 hr57) fun v81 a w hK hp s => ?_
      replace hE := hE.grow hK; replace hZ := Nat.le_trans hZ hK.size; refine ⟨fun g _ h => h.grow hK, ?_⟩; clear hK
      obtain ⟨Au82a1, cu82a1, rfl, hu82a1⟩ := hp
      replace s := s.ns 116 hu82a1
      have hz83 := (s.ft 107 rfl).at_ _ _ hx31
      obtain ⟨ez83, lz831⟩ := hz83
      refine n_1 25 s (by kernel_rfl) rfl ⟨_, _, _, rfl, rfl, rfl, rfl⟩ (l_quiet s rfl rfl (y_loadRow1 (kk := 1301) s rfl rfl hAq79 (take1 ez83) underlying9 rfl) fun a s => ?_); refine ⟨fun g _ h => h, ?_⟩
      refine n_1 26 s (by kernel_rfl) rfl ⟨_, _, _, rfl, rfl, rfl, rfl⟩ (l_call (cap := []) s rfl func23 rfl (by kernel_rfl) rfl rfl (c_r03_Below n _ _ s.lt d_ (Ap01) (cp01) (s.ft 101 rfl) x31 (by omega) r62 hr62) fun v84 a w hK hp s => ?_)
      replace hE := hE.grow hK; replace hZ := Nat.le_trans hZ hK.size; refine ⟨fun g _ h => h.grow hK, ?_⟩; clear hK
      obtain ⟨Au85a1, cu85a1, rfl, hu85a1⟩ := hp
      replace s := s.ns 117 hu85a1
      refine n_1 27 s (by kernel_rfl) rfl ⟨_, _, _, rfl, rfl, rfl, rfl⟩ (l_call (cap := []) s rfl func17 rfl (by kernel_rfl) rfl rfl (c_r03_SameStrings n _ _ s.lt r57 (Au82a1) (cu82a1) (s.ft 116 rfl) r62 (Au85a1) (cu85a1) (s.ft 117 rfl) r65 hr65) fun v86 a w hK hp s => ?_)
      replace hE := hE.grow hK; replace hZ := Nat.le_trans hZ hK.size; refine ⟨fun g _ h => h.grow hK, ?_⟩; clear hK
      obtain rfl := hp
      refine n_1 28 s (by kernel_rfl) rfl ⟨_, _, _, rfl, rfl, rfl, rfl⟩ (l_quiet s rfl rfl (y_not s rfl) fun a s => ?_); refine ⟨fun g _ h => h, ?_⟩
      refine n_1 29 s (by kernel_rfl) rfl rfl (l_quiet s rfl rfl (y_pick_f s rfl rfl) fun a s => ?_); refine ⟨fun g _ h => h, ?_⟩
      refine n_end (by kernel_rfl) ?_; clear hR hZ hE
      apply pN
      exact ⟨(!(r65)), hg, (s.sb rfl rfl rfl)⟩
     ·have hz88 := (s.ft 107 rfl).at_ _ _ hx31
      obtain ⟨ez88, lz881⟩ := hz88
      refine l_quiet s rfl rfl (y_loadRow1 (kk := 1301) s rfl rfl hAq79 (take1 ez88) underlying9 rfl) fun a s => ?_; refine ⟨fun g _ h => h, ?_⟩
      refine n_1 20 s (by kernel_rfl) rfl ⟨_, _, _, rfl, rfl, rfl, rfl⟩ (l_call (cap := []) s rfl func22 rfl (by kernel_rfl) rfl rfl (c_poset_Below n _ _ s.lt d_ (Ap01) (cp01) (s.ft 101 rfl) x31 (by omega) r57 hr57) fun v89 a w hK hp s => ?_)
      replace hE := hE.grow hK; replace hZ := Nat.le_trans hZ hK.size; refine ⟨fun g _ h => h.grow hK, ?_⟩; clear hK
      obtain ⟨Au90a1, cu90a1, rfl, hu90a1⟩ := hp
      replace s := s.ns 118 hu90a1
      refine n_1 26 s (by kernel_rfl) rfl ⟨_, _, _, rfl, rfl, rfl, rfl⟩ (l_call (cap := []) s rfl func23 rfl (by kernel_rfl) rfl rfl (c_r03_Below n _ _ s.lt d_ (Ap01) (cp01) (s.ft 101 rfl) x31 (by omega) r62 hr62) fun v91 a w hK hp s => ?_)
      replace hE := hE.grow hK; replace hZ := Nat.le_trans hZ hK.size; refine ⟨fun g _ h => h.grow hK, ?_⟩; clear hK
      obtain ⟨Au92a1, cu92a1, rfl, hu92a1⟩ := hp
      replace s := s.ns 119 hu92a1
      refine n_1 27 s (by kernel_rfl) rfl ⟨_, _, _, rfl, rfl, rfl, rfl⟩ (l_call (cap := []) s rfl func17 rfl (by kernel_rfl) rfl rfl (c_r03_SameStrings n _ _ s.lt r57 (Au90a1) (cu90a1) (s.ft 118 rfl) r62 (Au92a1) (cu92a1) (s.ft 119 rfl) r65 hr65) fun v93 a w hK hp s => ?_)
      replace hE := hE.grow hK; replace hZ := Nat.le_trans hZ hK.size; refine ⟨fun g _ h => h.grow hK, ?_⟩; clear hK
      obtain rfl := hp
      refine n_1 28 s (by kernel_rfl) rfl ⟨_, _, _, rfl, rfl, rfl, rfl⟩ (l_quiet s rfl rfl (y_not s rfl) fun a s => ?_); refine ⟨fun g _ h => h, ?_⟩
      refine n_1 29 s (by kernel_rfl) rfl rfl (l_quiet s rfl rfl (y_pick_f s rfl rfl) fun a s => ?_); refine ⟨fun g _ h => h, ?_⟩
      refine n_end (by kernel_rfl) ?_; clear hR hZ hE
      apply pN
      exact ⟨(!(r65)), hg, (s.sb rfl rfl rfl)⟩
    ·have hz95 := (s.ft 107 rfl).at_ _ _ hx31
     obtain ⟨ez95, lz951⟩ := hz95
     refine l_quiet s rfl rfl (y_loadRow1 (kk := 1301) s rfl rfl hAq79 (take1 ez95) underlying9 rfl) fun a s => ?_; refine ⟨fun g _ h => h, ?_⟩
     have hz96 := (s.ft 107 rfl).at_ _ _ hx31
     obtain ⟨ez96, lz961⟩ := hz96
     refine n_1 19 s (by kernel_rfl) rfl ⟨_, _, _, rfl, rfl, rfl, rfl⟩ (l_quiet s rfl rfl (y_loadRow1 (kk := 1301) s rfl rfl hAq78 (take1 ez96) underlying9 rfl) fun a s => ?_); refine ⟨fun g _ h => h, ?_⟩
     refine n_1 20 s (by kernel_rfl) rfl ⟨_, _, _, rfl, rfl, rfl, rfl⟩ (l_call (cap := []) s rfl func22 rfl (by kernel_rfl) rfl rfl (c_poset_Below n _ _ s.lt d_ (Ap01) (cp01) (s.ft 101 rfl) x31 (by omega) r57 hr57) fun v97 a w hK hp s => ?_)
     replace hE := hE.grow hK; replace hZ := Nat.le_trans hZ hK.size; refine ⟨fun g _ h => h.grow hK, ?_⟩; clear hK
     obtain ⟨Au98a1, cu98a1, rfl, hu98a1⟩ := hp
     replace s := s.ns 120 hu98a1
     refine n_1 26 s (by kernel_rfl) rfl ⟨_, _, _, rfl, rfl, rfl, rfl⟩ (l_call (cap := []) s rfl func23 rfl (by kernel_rfl) rfl rfl (c_r03_Below n _ _ s.lt d_ (Ap01) (cp01) (s.ft 101 rfl) x31 (by omega) r62 hr62) fun v99 a w hK hp s => ?_)
     replace hE := hE.grow hK; replace hZ := Nat.le_trans hZ hK.size; refine ⟨fun g _ h => h.grow hK, ?_⟩; clear hK
     obtain ⟨Au100a1, cu100a1, rfl, hu100a1⟩ := hp
     replace s := s.ns 121 hu100a1
     refine n_1 27 s (by kernel_rfl) rfl ⟨_, _, _, rfl, rfl, rfl, rfl⟩ (l_call (cap := []) s rfl func17 rfl (by kernel_rfl) rfl rfl (c_r03_SameStrings n _ _ s.lt r57 (Au98a1) (cu98a1) (s.ft 120 rfl) r62 (Au100a1) (cu100a1) (s.ft 121 rfl) r65 hr65) fun v101 a w hK hp s => ?_)
     replace hE := hE.grow hK; replace hZ := Nat.le_trans hZ hK.size; refine ⟨fun g _ h => h.grow hK, ?_⟩; clear hK
     obtain rfl := hp
     refine n_1 28 s (by kernel_rfl) rfl ⟨_, _, _, rfl, rfl, rfl, rfl⟩ (l_quiet s rfl rfl (y_not s rfl) fun a s => ?_); refine ⟨fun g _ h => h, ?_⟩
     refine n_1 29 s (by kernel_rfl) rfl rfl (l_quiet s rfl rfl (y_pick_f s rfl rfl) fun a s => ?_); refine ⟨fun g _ h => h, ?_⟩
     refine n_end (by kernel_rfl) ?_; clear hR hZ hE
     apply pN
     exact ⟨(!(r65)), hg, (s.sb rfl rfl rfl)⟩
   clear s a; rintro a w ⟨t_29, hg, s⟩
   subst hk28
   refine c_cond s rfl (fun hc103 => ?_) (fun hc103 => ?_)
   ·replace hg := br_t hg hc103
    apply wR
    refine asg s rfl rfl fun a s => ?_
    apply wN
    apply wp_ret
    refine p_inR ?_
    refine p_thenR ?_
    refine p_thenR ?_
    refine p_inR ?_
    refine p_thenR ?_
    obtain rfl := Option.some.inj hg
    refine fin1 (fn := Try.f5) s rfl (r_tmp s rfl) ?_
    exact rfl
   replace hg := br_n hg hc103
   apply wp_skip
   refine p_inN ?_
   apply pN
   apply wL
   refine qq s rfl (y_addN (i := t_25) (j := 1) s rfl rfl (in64.2 (by omega))) fun a s => ?_
   refine mv s rfl rfl fun a s => ?_
   apply wN
   exact ⟨m1, Nat.lt_succ_self _, ⟨(t_25 + 1), hg, (s.sb rfl rfl rfl)⟩⟩
  replace hg := br_f hg hc26
  apply wp_exit
  refine p_then ?_
  refine p_then ?_
  refine p_in ?_
  apply pN
  exact ⟨hg, (s.sb rfl rfl rfl)⟩
 clear s a; rintro a w ⟨hg, s⟩
 subst hk24
 apply wQ
 obtain ⟨r104, hr104, hg⟩ := bind_some hg
 apply wL
 refine l_seq rfl (l_call (cap := []) s rfl func12 rfl (by kernel_rfl) rfl rfl (c_law03_exampleHolds n _ _ s.lt  r104 hr104) fun v107 a w hK hp s => ?_)
 obtain rfl := hp
 refine asg s rfl rfl fun a s => ?_
 apply wN
 apply wp_ret
 obtain rfl := Option.some.inj hg
 refine fin1 (fn := Try.f5) s rfl (r_tmp s rfl) ?_
 exact rfl
end Go.Proofs.Ytoeolfnjblibpaa

/- Chapter 03: the walks, part 4 -/
import Derived.Test.YtoeolfnjblibpaaW3
namespace Go.Proofs.Ytoeolfnjblibpaa
open Go.Gl Go.RowKit Try
set_option linter.unusedVariables false
set_option linter.unusedSimpArgs false
set_option maxRecDepth 4000

set_option maxHeartbeats 400000 in
theorem c_slices_ContainsFunc_string (n : Nat) (M : Bs) (w0 : World) (hM : ∀ b, M b → b < w0.heap.size) (s_ : (List (List UInt8))) (Ap01 : Option Addr) (cp01 : Nat) (hp01 : SlR Rep.str M w0 Ap01 (s_).length cp01 (s_)) (f_ : ((List UInt8) → Option Bool)) (Ap11 : FuncId) (cp11 : List Value) (hp11 : FnR Try.prog Ap11 cp11 pre53 post53 (f_) M w0) (r : Bool) (hg : slices_ContainsFunc_string n s_ f_ = some r) :
    Calls Try.prog 46 [.slice (Ap01) ((s_).length) (cp01), .func (.func Ap11) #[] (List.toArray cp11)].toArray w0 (Ret noB w0 fun v w => v = .bool (r)) := by
 unfold slices_ContainsFunc_string at hg
 refine enter M noB func46 rfl rfl hM ?_
 intro a s
 replace s := s.es 101 hp01
 replace s := s.add 102 (fnF Try.prog Ap11 cp11 pre53 post53 (f_)) (by exact Fact.change _ enterM hp11)
 apply wR
 refine asg s rfl rfl fun a s => ?_
 apply wN
 apply wQ
 obtain ⟨r1, hr1, hg⟩ := bind_some hg
 apply wL
 refine mv s rfl rfl fun a s => ?_
 refine mv s rfl rfl fun a s => ?_
 refine l_seq rfl (l_call (cap := []) s rfl func60 rfl (by kernel_rfl) rfl rfl (c_slices_IndexFunc_string n _ _ s.lt s_ (Ap01) (cp01) (s.ft 101 rfl) f_ (Ap11) (cp11) (s.ft 102 rfl) r1 hr1) fun v4 a w hK hp s => ?_)
 obtain rfl := hp
 refine qq s rfl (y_geq s rfl rfl) fun a s => ?_
 refine asg s rfl rfl fun a s => ?_
 apply wN
 apply wp_ret
 obtain rfl := Option.some.inj hg
 refine fin1 (fn := Try.f46) s rfl (r_tmp s rfl) ?_
 exact rfl
set_option maxHeartbeats 400000 in
theorem c_poset_Maximal (n : Nat) (M : Bs) (w0 : World) (hM : ∀ b, M b → b < w0.heap.size) (d_ : (List TypeDecl)) (Ap01 : Option Addr) (cp01 : Nat) (hp01 : SlR RTypeDecl M w0 Ap01 (d_).length cp01 (d_)) (names_ : (List (List UInt8))) (Ap11 : Option Addr) (cp11 : Nat) (hp11 : SlR Rep.str M w0 Ap11 (names_).length cp11 (names_)) (r : (List (List UInt8))) (hg : poset_Maximal n d_ names_ = some r) :
    Calls Try.prog 24 [.slice (Ap01) ((d_).length) (cp01), .slice (Ap11) ((names_).length) (cp11)].toArray w0 (Ret noB w0 fun v w => ∃ (Aa1 : Option Addr), ∃ (ca1 : Nat), v = .slice (Aa1) ((r).length) (ca1) ∧ (SlR Rep.str M w Aa1 (r).length ca1 (r))) := by
 unfold poset_Maximal at hg
 refine enter M noB func24 rfl rfl hM ?_
 intro a s
 replace s := s.es 101 hp01
 replace s := s.es 102 hp11
 apply wR
 refine asg s rfl rfl fun a s => ?_
 apply wN
 apply wQ
 obtain ⟨r1, hr1, hg⟩ := bind_some hg
 apply wL
 refine mv s rfl rfl fun a s => ?_
 refine mv s rfl rfl fun a s => ?_
 refine l_seq rfl (l_callOwn (cap := []) (post := (fun v ob w' => ∃ Ao co cso, ob = Ob.row Ao (r1).length co 9 1 cso ∧ v = sl Ao (r1) co ∧ RdAll Rep.str (fun b => mtb _ _ b ∨ ob.ids b) w' cso (r1))) s 1102 rfl rfl func43 rfl (by kernel_rfl) rfl rfl ((c_poset_declared n _ _ s.lt d_ (Ap01) (cp01) (s.ft 101 rfl) names_ (Ap11) (cp11) (s.ft 102 rfl) r1 hr1).mono (fun e w' h => by obtain ⟨v, he, hk, Ao, co, cso, hv, ho1, ho2, ho3⟩ := h; exact ⟨v, he, hk, _, ho1, ho2, ⟨Ao, co, cso, rfl, hv, ho3⟩⟩)) fun v5 ob a w hK hp s => ?_)
 obtain ⟨Au4, cu4, csu4, rfl, rfl, hou4⟩ := hp
 replace s := s.add 104 (rdF Rep.str csu4 (r1)) (RdAll.up2 s hou4)
 refine asg s rfl rfl fun a s => ?_
 apply wN
 apply wQ
 obtain ⟨r6, hr6, hg⟩ := bind_some hg
 apply wL
 refine mv s rfl rfl fun a s => ?_
 refine l_seq rfl (l_call (cap := []) s rfl func41 rfl (by kernel_rfl) rfl rfl (c_poset_supers n _ _ s.lt d_ (Ap01) (cp01) (s.ft 101 rfl) r6 hr6) fun v9 a w hK hp s => ?_)
 obtain ⟨bu10a1, rfl, hu10a1⟩ := hp
 replace s := s.add 106 (mapRF (Rep.list Rep.str) bu10a1 (r6)) hu10a1
 refine asg s rfl rfl fun a s => ?_
 apply wN
 apply wR
 refine asg s rfl rfl fun a s => ?_
 apply wN
 apply wQ
 apply wR
 refine mv s rfl rfl fun a s => ?_
 refine qq s rfl (y_lenSlice s rfl underlying27) fun a s => ?_
 refine mv s rfl rfl fun a s => ?_
 apply wN
 apply wp_block
 replace s := s.nilRow 700107 9 1 rfl
 replace s := s.add 108 (rdF Rep.str [] []) (RdAll.nil _ _ _)
 refine c_loop (σ := Nat) (fun m1 a w => ∃ (out_11 : (List (List UInt8))) (t_15 : Nat) (A12 : Option Addr) (c13 : Nat) (cs14 : List Value), poset_Maximal_L0 n r1 r6 m1 out_11 t_15 = some r ∧ St (⟨Try.f24.ntmps, M, noB, w0⟩ : Ctx) [(5, sl Au4 (r1) cu4), (6, .map (some bu10a1)), (7, sl A12 (out_11) c13), (17, sl Au4 (r1) cu4), (18, vI ((((r1).length : Nat) : Int))), (19, vI (((t_15 : Nat) : Int)))] [(1102, Ob.row (Au4) ((r1).length) (cu4) 9 1 (csu4)), (700107, Ob.row (A12) ((out_11).length) (c13) 9 1 (cs14))] [(104, rdF Rep.str (csu4) (r1)), (106, mapRF (Rep.list Rep.str) bu10a1 (r6)), (108, rdF Rep.str (cs14) (out_11))] a w) (fun m1 => m1) n ⟨([]), (0), (none), (0), ([]), hg, (s.sb rfl rfl rfl)⟩ ?_
 clear s a; rintro m1 a w ⟨out_11, t_15, A12, c13, cs14, hg, s⟩
 rcases m1 with _ | m1
 ·rw [poset_Maximal_L0] at hg; cases hg
 rw [poset_Maximal_L0] at hg
 apply wR
 refine qq s rfl (y_lssN (i := t_15) (j := ((r1).length)) s rfl rfl) fun a s => ?_
 apply wN
 apply wQ
 refine c_dec s rfl (fun hc16 => ?_) (fun hc16 => ?_)
 ·replace hg := br_t hg hc16
  have hmx17 := row_mx (s.wd.holds 1102 _ rfl)
  apply wp_skip
  apply pN
  apply wQ
  apply wp_block
  apply wQ
  obtain ⟨x19, hx19, hg⟩ := bind_some hg
  apply wL
  obtain ⟨hiq22, bq22, hAq22⟩ := SlR.row1 (s.wd.holds 1102 _ rfl) (s.ft 104 rfl) rfl rfl hx19
  refine qq s rfl (y_rowIndex (sz := 1) (i := t_15) s rfl rfl underlying27 rfl hAq22 rfl hiq22) fun a s => ?_
  have hz23 := (s.ft 104 rfl).at_ _ _ hx19
  obtain ⟨ez23, lz231⟩ := hz23
  refine qq s rfl (y_loadRow1 (kk := 1102) s rfl rfl hAq22 (take1 ez23) underlying9 rfl) fun a s => ?_
  refine l_seq rfl (l_alloc (zs := [vT ([])]) s 1602 rfl rfl rfl rfl fun b24 a w hb hK s => ?_)
  refine l_seq rfl (l_store (n := 1) (cs' := [vT x19]) s 1602 rfl rfl rfl rfl rfl rfl rfl rfl ?_); clear s; intro w hK s; clear hK
  apply wN
  apply wQ
  obtain ⟨r25, hr25, hg⟩ := bind_some hg
  apply wL
  refine mv s rfl rfl fun a s => ?_
  refine qq s rfl (y_loadBox1 (kk := 1602) s rfl rfl rfl underlying9 rfl) fun a s => ?_
  refine l_seq rfl (l_call (cap := []) s rfl func40 rfl (by kernel_rfl) rfl rfl (c_poset_reach n _ _ s.lt r6 bu10a1 (s.ft 106 rfl) x19 (by omega) r25 hr25) fun v29 a w hK hp s => ?_)
  obtain ⟨Au30a1, cu30a1, rfl, hu30a1⟩ := hp
  replace s := s.ns 110 hu30a1
  refine l_seq rfl (l_alloc (zs := [.slice (none) (0) (0)]) s 1703 rfl rfl rfl rfl fun b31 a w hb hK s => ?_)
  refine l_seq rfl (l_store (n := 1) (cs' := [sl Au30a1 (r25) cu30a1]) s 1703 rfl rfl rfl rfl rfl rfl rfl rfl ?_); clear s; intro w hK s; clear hK
  apply wN
  apply wR
  replace s := s.freezeBox (L' := [(1102, Ob.row (Au4) ((r1).length) (cu4) 9 1 (csu4)), (1703, Ob.box b31 [sl Au30a1 (r25) cu30a1] 27), (700107, Ob.row (A12) ((out_11).length) (c13) 9 1 (cs14))]) 113 1602 rfl ⟨rfl, rfl, rfl, trivial⟩ rfl
  replace s := s.freezeBox (L' := [(1102, Ob.row (Au4) ((r1).length) (cu4) 9 1 (csu4)), (700107, Ob.row (A12) ((out_11).length) (c13) 9 1 (cs14))]) 114 1703 rfl ⟨rfl, rfl, trivial⟩ rfl
  refine qq s rfl (y_makeFunc (xs := [.tmp 9, .tmp 10]) (vs := [vP b24 0, vP b31 0]) s rfl) fun a s => ?_
  refine asg s rfl rfl fun a s => ?_
  apply wN
  apply wQ
  obtain ⟨r32, hr32, hg⟩ := bind_some hg
  apply wL
  refine mv s rfl rfl fun a s => ?_
  refine mv s rfl rfl fun a s => ?_
  have hT := s
  replace hT := hT.fz (R := Rep.str) (kk := 1102) [700107] 116 rfl rfl (hT.ft 104 rfl) rfl
  refine l_seq rfl (l_call (cap := []) s rfl func46 rfl (by kernel_rfl) rfl rfl (c_slices_ContainsFunc_string n _ _ hT.lt r1 (Au4) (cu4) (hT.ft 116 rfl) (fun p => poset_Maximal_1 n p x19 r25) (44) ([vP b24 0, vP b31 0]) ⟨⟨_, _, func44, rfl, by kernel_rfl⟩, fun M1 w1 hk hm hlt vs x r hp hr => by obtain ⟨rfl, la1⟩ := hp; exact c_poset_Maximal_1 n M1 w1 hlt (x) la1 b24 (x19) (by omega) (Fact.move (boxF b24 [vT x19] 9) hk hm (hT.ft 113 rfl)) b31 (r25) (Au30a1) (cu30a1) (Fact.move (slF Rep.str (Au30a1) ((r25).length) (cu30a1) (r25)) hk hm (hT.ft 110 rfl)) (Fact.move (boxF b31 [sl Au30a1 (r25) cu30a1] 27) hk hm (hT.ft 114 rfl)) r hr⟩ r32 hr32) fun v35 a w hK hp s => ?_)
  obtain rfl := hp
  refine qq s rfl (y_not s rfl) fun a s => ?_
  apply wN
  refine c_cond s rfl (fun hc37 => ?_) (fun hc37 => ?_)
  ·replace hg := br_t hg hc37
   obtain ⟨hk39, hg⟩ := chk_some hg
   apply wL
   refine mv s rfl rfl fun a s => ?_
   refine qq s rfl (y_loadF1 s rfl (s.ft 113 rfl) rfl underlying9 rfl) fun a s => ?_
   refine l_seq rfl (l_buildDense (sz := 1) s 2002 rfl rfl rfl underlying27 rfl rfl rfl rfl rfl rfl rfl fun b42 a w hbb42 hK s => ?_)
   clear hbb42
   replace s := s.add 119 (rdF Rep.str (cellsOfL [vT x19]) ([x19])) (RdAll.cons (by exact ⟨rfl, (by omega)⟩) (RdAll.nil _ _ _))
   have hs44 := row_src (s.wd.holds 2002 _ rfl) (RdAll.one (s.ft 119 rfl))
   refine l_seq rfl (l_append (sz := 1) (by_ := 16) (N := (out_11 ++ [x19]).length) (ys := cs14 ++ (cellsOfL [vT x19])) s 700107 rfl rfl rfl underlying27 rfl rfl rfl rfl rfl hs44 (by first | (simp; done) | (simp; omega)) rfl (by have hr := hk39; clear hg; first | omega | (simp only [List.length_append, List.length_cons, List.length_nil] at hr ⊢; omega) | (simp at hr ⊢; omega)) (by have hr := hk39; clear hg; first | omega | (simp only [List.length_append, List.length_cons, List.length_nil] at hr ⊢; omega) | (simp at hr ⊢; omega)) rfl fun Aq43 cq43 a w hA hK s => ?_)
   replace s := s.add 120 (rdF Rep.str (cs14 ++ (cellsOfL [vT x19])) (out_11 ++ [x19])) (RdAll.append (s.ft 108 rfl) (s.ft 119 rfl))
   refine asg s rfl rfl fun a s => ?_
   apply wO
   refine p_inN ?_
   apply pN
   apply wL
   refine qq s rfl (y_addN (i := t_15) (j := 1) s rfl rfl (in64.2 (by omega))) fun a s => ?_
   refine mv s rfl rfl fun a s => ?_
   apply wN
   replace s := s.add 108 (rdF Rep.str (cs14 ++ (cellsOfL [vT x19])) (out_11 ++ [x19])) (s.ft 120 rfl)
   exact ⟨m1, Nat.lt_succ_self _, ⟨(out_11 ++ [x19]), (t_15 + 1), (Aq43), (cq43), (cs14 ++ (cellsOfL [vT x19])), hg, (s.sb rfl rfl rfl)⟩⟩
  replace hg := br_n hg hc37
  apply wp_skip
  refine p_inN ?_
  apply pN
  apply wL
  refine qq s rfl (y_addN (i := t_15) (j := 1) s rfl rfl (in64.2 (by omega))) fun a s => ?_
  refine mv s rfl rfl fun a s => ?_
  apply wN
  replace s := s.al 108 108 rfl
  exact ⟨m1, Nat.lt_succ_self _, ⟨(out_11), (t_15 + 1), (A12), (c13), (cs14), hg, (s.sb rfl rfl rfl)⟩⟩
 replace hg := br_f hg hc16
 apply wp_exit
 refine p_then ?_
 refine p_then ?_
 refine p_in ?_
 apply pN
 apply wR
 refine mv s rfl rfl fun a s => ?_
 refine asg s rfl rfl fun a s => ?_
 apply wN
 apply wp_ret
 obtain rfl := Option.some.inj hg
 refine fin1 (fn := Try.f24) s rfl (r_tmp s rfl) ?_
 exact ⟨(A12), (c13), rfl, (s.rowOut (R := Rep.str) (kk := 700107) rfl rfl (s.ft 108 rfl))⟩
set_option maxHeartbeats 400000 in
theorem c_poset_Minimal_1 (n : Nat) (M : Bs) (w0 : World) (hM : ∀ b, M b → b < w0.heap.size) (s_ : (List UInt8)) (lp01 : (s_).length ≤ 9223372036854775807) (bf0 : Nat) (c0_ : (List (List UInt8 × Bool))) (bf01 : Nat) (hf01 : MapR Rep.bool M w0 bf01 (c0_)) (hb0 : BoxR bf0 [.map (some bf01)] 55 M w0) (r : Bool) (hg : poset_Minimal_1 n s_ c0_ = some r) :
    Calls Try.prog 49 [.string (bs (s_)), .pointer (some ⟨bf0, 0, none⟩)].toArray w0 (Ret noB w0 fun v w => v = .bool (r)) := by
 unfold poset_Minimal_1 at hg
 refine enter M noB func49 rfl rfl hM ?_
 intro a s
 replace s := s.add 101 (mapRF Rep.bool bf01 (c0_)) (by exact Fact.change _ enterM hf01)
 replace s := s.ebx 102 hb0
 apply wR
 refine asg s rfl rfl fun a s => ?_
 apply wN
 apply wR
 refine qq s rfl (y_loadF1 s rfl (s.ft 102 rfl) rfl underlying55 rfl) fun a s => ?_
 refine mv s rfl rfl fun a s => ?_
 obtain ⟨kvm2, hmm2, hfm2⟩ := mapRF_open (s.ft 101 rfl)
 have hm2 := kvF_getD (R := Rep.bool) (k := s_) (z := .bool (false)) (zx := false) hfm2 (by exact rfl)
 have em2 := hm2
 refine qq s rfl (y_lookupFV s rfl rfl hmm2 underlying55 underlying9 rfl em2) fun a s => ?_
 refine asg s rfl rfl fun a s => ?_
 apply wN
 apply wp_ret
 obtain rfl := Option.some.inj hg
 refine fin1 (fn := Try.f49) s rfl (r_tmp s rfl) ?_
 exact rfl
set_option maxHeartbeats 400000 in
theorem c_poset_Minimal (n : Nat) (M : Bs) (w0 : World) (hM : ∀ b, M b → b < w0.heap.size) (d_ : (List TypeDecl)) (Ap01 : Option Addr) (cp01 : Nat) (hp01 : SlR RTypeDecl M w0 Ap01 (d_).length cp01 (d_)) (names_ : (List (List UInt8))) (Ap11 : Option Addr) (cp11 : Nat) (hp11 : SlR Rep.str M w0 Ap11 (names_).length cp11 (names_)) (r : (List (List UInt8))) (hg : poset_Minimal n d_ names_ = some r) :
    Calls Try.prog 26 [.slice (Ap01) ((d_).length) (cp01), .slice (Ap11) ((names_).length) (cp11)].toArray w0 (Ret noB w0 fun v w => ∃ (Aa1 : Option Addr), ∃ (ca1 : Nat), v = .slice (Aa1) ((r).length) (ca1) ∧ (SlR Rep.str M w Aa1 (r).length ca1 (r))) := by
 unfold poset_Minimal at hg
 refine enter M noB func26 rfl rfl hM ?_
 intro a s
 replace s := s.es 101 hp01
 replace s := s.es 102 hp11
 apply wR
 refine asg s rfl rfl fun a s => ?_
 apply wN
 apply wQ
 obtain ⟨r1, hr1, hg⟩ := bind_some hg
 apply wL
 refine mv s rfl rfl fun a s => ?_
 refine mv s rfl rfl fun a s => ?_
 refine l_seq rfl (l_callOwn (cap := []) (post := (fun v ob w' => ∃ Ao co cso, ob = Ob.row Ao (r1).length co 9 1 cso ∧ v = sl Ao (r1) co ∧ RdAll Rep.str (fun b => mtb _ _ b ∨ ob.ids b) w' cso (r1))) s 1102 rfl rfl func43 rfl (by kernel_rfl) rfl rfl ((c_poset_declared n _ _ s.lt d_ (Ap01) (cp01) (s.ft 101 rfl) names_ (Ap11) (cp11) (s.ft 102 rfl) r1 hr1).mono (fun e w' h => by obtain ⟨v, he, hk, Ao, co, cso, hv, ho1, ho2, ho3⟩ := h; exact ⟨v, he, hk, _, ho1, ho2, ⟨Ao, co, cso, rfl, hv, ho3⟩⟩)) fun v5 ob a w hK hp s => ?_)
 obtain ⟨Au4, cu4, csu4, rfl, rfl, hou4⟩ := hp
 replace s := s.add 104 (rdF Rep.str csu4 (r1)) (RdAll.up2 s hou4)
 refine asg s rfl rfl fun a s => ?_
 apply wN
 apply wQ
 obtain ⟨r6, hr6, hg⟩ := bind_some hg
 apply wL
 refine mv s rfl rfl fun a s => ?_
 refine l_seq rfl (l_call (cap := []) s rfl func41 rfl (by kernel_rfl) rfl rfl (c_poset_supers n _ _ s.lt d_ (Ap01) (cp01) (s.ft 101 rfl) r6 hr6) fun v9 a w hK hp s => ?_)
 obtain ⟨bu10a1, rfl, hu10a1⟩ := hp
 replace s := s.add 106 (mapRF (Rep.list Rep.str) bu10a1 (r6)) hu10a1
 refine asg s rfl rfl fun a s => ?_
 apply wN
 apply wR
 refine l_seq rfl (l_makeMap (n := 0) s 1300 underlying55 (.inl rfl) rfl rfl fun b13 a w hb hK s => ?_)
 replace s := s.add 108 (kvF Rep.bool ([]) ([])) (KvRel.nil)
 refine l_seq rfl (l_alloc (zs := [.map none]) s 1301 rfl rfl rfl rfl fun b14 a w hb hK s => ?_)
 refine l_seq rfl (l_store (n := 1) (cs' := [.map (some b13)]) s 1301 rfl rfl rfl rfl rfl rfl rfl rfl ?_); clear s; intro w hK s; clear hK
 apply wN
 apply wQ
 apply wR
 refine mv s rfl rfl fun a s => ?_
 refine qq s rfl (y_lenSlice s rfl underlying27) fun a s => ?_
 refine mv s rfl rfl fun a s => ?_
 apply wN
 obtain ⟨k15, hg, hk15⟩ := jn_some hg
 refine c_post (fun a w => ∃ (covered_16 : (List (List UInt8 × Bool))) (kv17 : List (List UInt8 × Value)), k15 covered_16 = some r ∧ St (⟨Try.f26.ntmps, M, noB, w0⟩ : Ctx) [(5, sl Au4 (r1) cu4), (7, vP b14 0)] [(1102, Ob.row (Au4) ((r1).length) (cu4) 9 1 (csu4)), (1300, Ob.smap b13 (kv17)), (1301, Ob.box b14 [.map (some b13)] 55)] [(104, rdF Rep.str (csu4) (r1)), (109, kvF Rep.bool (kv17) (covered_16))] a w) ?_ ?_
 ·apply wp_block
  replace s := s.al 110 108 rfl
  refine c_loop (σ := Nat) (fun m1 a w => ∃ (t_18 : Nat) (covered_19 : (List (List UInt8 × Bool))) (kv20 : List (List UInt8 × Value)), poset_Minimal_L0 n r1 r6 k15 m1 t_18 covered_19 = some r ∧ St (⟨Try.f26.ntmps, M, noB, w0⟩ : Ctx) [(5, sl Au4 (r1) cu4), (6, .map (some bu10a1)), (7, vP b14 0), (18, sl Au4 (r1) cu4), (19, vI ((((r1).length : Nat) : Int))), (20, vI (((t_18 : Nat) : Int)))] [(1102, Ob.row (Au4) ((r1).length) (cu4) 9 1 (csu4)), (1300, Ob.smap b13 (kv20)), (1301, Ob.box b14 [.map (some b13)] 55)] [(104, rdF Rep.str (csu4) (r1)), (106, mapRF (Rep.list Rep.str) bu10a1 (r6)), (110, kvF Rep.bool (kv20) (covered_19))] a w) (fun m1 => m1) n ⟨(0), ([]), ([]), hg, (s.sb rfl rfl rfl)⟩ ?_
  clear s a; rintro m1 a w ⟨t_18, covered_19, kv20, hg, s⟩
  rcases m1 with _ | m1
  ·rw [poset_Minimal_L0] at hg; cases hg
  rw [poset_Minimal_L0] at hg
  apply wR
  refine qq s rfl (y_lssN (i := t_18) (j := ((r1).length)) s rfl rfl) fun a s => ?_
  apply wN
  apply wQ
  refine c_dec s rfl (fun hc21 => ?_) (fun hc21 => ?_)
  ·replace hg := br_t hg hc21
   have hmx22 := row_mx (s.wd.holds 1102 _ rfl)
   apply wp_skip
   apply pN
   apply wQ
   obtain ⟨k23, hg, hk23⟩ := jn_some hg
   refine c_post (fun a w => ∃ (covered_24 : (List (List UInt8 × Bool))) (kv25 : List (List UInt8 × Value)), k23 covered_24 = some r ∧ St (⟨Try.f26.ntmps, M, noB, w0⟩ : Ctx) [(5, sl Au4 (r1) cu4), (6, .map (some bu10a1)), (7, vP b14 0), (18, sl Au4 (r1) cu4), (19, vI ((((r1).length : Nat) : Int))), (20, vI (((t_18 : Nat) : Int)))] [(1102, Ob.row (Au4) ((r1).length) (cu4) 9 1 (csu4)), (1300, Ob.smap b13 (kv25)), (1301, Ob.box b14 [.map (some b13)] 55)] [(104, rdF Rep.str (csu4) (r1)), (106, mapRF (Rep.list Rep.str) bu10a1 (r6)), (111, kvF Rep.bool (kv25) (covered_24))] a w) ?_ ?_
   ·apply wp_block
    apply wQ
    obtain ⟨x27, hx27, hg⟩ := bind_some hg
    apply wL
    obtain ⟨hiq29, bq29, hAq29⟩ := SlR.row1 (s.wd.holds 1102 _ rfl) (s.ft 104 rfl) rfl rfl hx27
    refine qq s rfl (y_rowIndex (sz := 1) (i := t_18) s rfl rfl underlying27 rfl hAq29 rfl hiq29) fun a s => ?_
    have hz30 := (s.ft 104 rfl).at_ _ _ hx27
    obtain ⟨ez30, lz301⟩ := hz30
    refine qq s rfl (y_loadRow1 (kk := 1102) s rfl rfl hAq29 (take1 ez30) underlying9 rfl) fun a s => ?_
    refine asg s rfl rfl fun a s => ?_
    apply wN
    apply wQ
    obtain ⟨r31, hr31, hg⟩ := bind_some hg
    apply wL
    refine mv s rfl rfl fun a s => ?_
    refine mv s rfl rfl fun a s => ?_
    refine l_seq rfl (l_call (cap := []) s rfl func40 rfl (by kernel_rfl) rfl rfl (c_poset_reach n _ _ s.lt r6 bu10a1 (s.ft 106 rfl) x27 (by omega) r31 hr31) fun v34 a w hK hp s => ?_)
    obtain ⟨Au35a1, cu35a1, rfl, hu35a1⟩ := hp
    replace s := s.ns 113 hu35a1
    refine qq s rfl (y_lenSlice s rfl underlying27) fun a s => ?_
    refine mv s rfl rfl fun a s => ?_
    apply wN
    apply wp_block
    replace s := s.al 114 110 rfl
    refine c_loop (σ := Nat) (fun m2 a w => ∃ (t_36 : Nat) (covered_37 : (List (List UInt8 × Bool))) (kv38 : List (List UInt8 × Value)), poset_Minimal_L1 n k23 x27 r31 m2 t_36 covered_37 = some r ∧ St (⟨Try.f26.ntmps, M, noB, w0⟩ : Ctx) [(5, sl Au4 (r1) cu4), (6, .map (some bu10a1)), (7, vP b14 0), (9, vT x27), (18, sl Au4 (r1) cu4), (19, vI ((((r1).length : Nat) : Int))), (20, vI (((t_18 : Nat) : Int))), (26, sl Au35a1 (r31) cu35a1), (27, vI ((((r31).length : Nat) : Int))), (28, vI (((t_36 : Nat) : Int)))] [(1102, Ob.row (Au4) ((r1).length) (cu4) 9 1 (csu4)), (1300, Ob.smap b13 (kv38)), (1301, Ob.box b14 [.map (some b13)] 55)] [(104, rdF Rep.str (csu4) (r1)), (106, mapRF (Rep.list Rep.str) bu10a1 (r6)), (113, slF Rep.str (Au35a1) ((r31).length) (cu35a1) (r31)), (114, kvF Rep.bool (kv38) (covered_37))] a w) (fun m2 => m2) n ⟨(0), (covered_19), (kv20), hg, (s.sb rfl rfl rfl)⟩ ?_
    clear s a; rintro m2 a w ⟨t_36, covered_37, kv38, hg, s⟩
    rcases m2 with _ | m2
    ·rw [poset_Minimal_L1] at hg; cases hg
    rw [poset_Minimal_L1] at hg
    apply wR
    refine qq s rfl (y_lssN (i := t_36) (j := ((r31).length)) s rfl rfl) fun a s => ?_
    apply wN
    apply wQ
    refine c_dec s rfl (fun hc39 => ?_) (fun hc39 => ?_)
    ·replace hg := br_t hg hc39
     have hmx40 := SlR.mx (s.ft 113 rfl)
     apply wp_skip
     apply pN
     apply wQ
     apply wp_block
     apply wQ
     obtain ⟨x42, hx42, hg⟩ := bind_some hg
     apply wL
     obtain ⟨p44, hep44, hpp44⟩ := SlR.elemX (s.ft 113 rfl) hx42
     refine qq s rfl (y_elem (sz := 1) (i := t_36) s rfl rfl underlying27 rfl hep44 rfl (lt_of_get hx42)) fun a s => ?_
     obtain ⟨hlq45, hmq45, csq45, hdq45, hcq45⟩ := hpp44
     obtain ⟨rfl, lq451⟩ := hdq45
     refine qq s rfl (y_ldp1 s rfl hlq45 hmq45 (hcq45 0 _ rfl) underlying9 rfl) fun a s => ?_
     refine asg s rfl rfl fun a s => ?_
     apply wN
     apply wR
     refine mv s rfl rfl fun a s => ?_
     refine mv s rfl rfl fun a s => ?_
     refine qq s rfl (y_sne s rfl rfl) fun a s => ?_
     apply wN
     refine c_dec s rfl (fun hc46 => ?_) (fun hc46 => ?_)
     ·replace hg := br_t hg hc46
      apply wL
      refine qq s rfl (y_loadBox1 (kk := 1301) s rfl rfl rfl underlying55 rfl) fun a s => ?_
      refine mv s rfl rfl fun a s => ?_
      refine l_seq rfl (l_mapUpdate s 1300 rfl rfl rfl rfl underlying55 underlying9 fun w hK s => ?_)
      replace s := s.add 116 (kvF Rep.bool (mset (kv38) (x42) (.bool (true))) (mset (covered_37) (x42) (true))) (kvF_set (s.ft 114 rfl) (by exact rfl))
      apply wO
      refine p_inN ?_
      apply pN
      apply wL
      refine qq s rfl (y_addN (i := t_36) (j := 1) s rfl rfl (in64.2 (by omega))) fun a s => ?_
      refine mv s rfl rfl fun a s => ?_
      apply wN
      replace s := s.al 114 116 rfl
      exact ⟨m2, Nat.lt_succ_self _, ⟨(t_36 + 1), (mset (covered_37) (x42) (true)), (mset (kv38) (x42) (.bool (true))), hg, (s.sb rfl rfl rfl)⟩⟩
     replace hg := br_f hg hc46
     apply wp_skip
     refine p_inN ?_
     apply pN
     apply wL
     refine qq s rfl (y_addN (i := t_36) (j := 1) s rfl rfl (in64.2 (by omega))) fun a s => ?_
     refine mv s rfl rfl fun a s => ?_
     apply wN
     replace s := s.al 114 114 rfl
     exact ⟨m2, Nat.lt_succ_self _, ⟨(t_36 + 1), (covered_37), (kv38), hg, (s.sb rfl rfl rfl)⟩⟩
    replace hg := br_f hg hc39
    apply wp_exit
    refine p_then ?_
    refine p_then ?_
    refine p_in ?_
    refine p_inN ?_
    apply pN
    replace s := s.al 111 114 rfl
    exact ⟨(covered_37), (kv38), hg, (s.sb rfl rfl rfl)⟩
   clear s a; rintro a w ⟨covered_24, kv25, hg, s⟩
   subst hk23
   apply wL
   refine qq s rfl (y_addN (i := t_18) (j := 1) s rfl rfl (in64.2 (by omega))) fun a s => ?_
   refine mv s rfl rfl fun a s => ?_
   apply wN
   replace s := s.al 110 111 rfl
   exact ⟨m1, Nat.lt_succ_self _, ⟨(t_18 + 1), (covered_24), (kv25), hg, (s.sb rfl rfl rfl)⟩⟩
  replace hg := br_f hg hc21
  apply wp_exit
  refine p_then ?_
  refine p_then ?_
  refine p_in ?_
  apply pN
  replace s := s.al 109 110 rfl
  exact ⟨(covered_19), (kv20), hg, (s.sb rfl rfl rfl)⟩
 clear s a; rintro a w ⟨covered_16, kv17, hg, s⟩
 subst hk15
 apply wQ
 obtain ⟨r47, hr47, hg⟩ := bind_some hg
 apply wL
 refine mv s rfl rfl fun a s => ?_
 replace s := s.freezeMapR (R := Rep.bool) (L' := [(1102, Ob.row (Au4) ((r1).length) (cu4) 9 1 (csu4)), (1301, Ob.box b14 [.map (some b13)] 55)]) 120 1300 rfl (s.ft 109 rfl) ⟨rfl, rfl, trivial⟩ rfl
 replace s := s.freezeBox (L' := [(1102, Ob.row (Au4) ((r1).length) (cu4) 9 1 (csu4))]) 121 1301 rfl ⟨rfl, trivial⟩ rfl
 refine qq s rfl (y_makeFunc (xs := [.tmp 7]) (vs := [vP b14 0]) s rfl) fun a s => ?_
 have hT := s.pk [(9200000, 1102)] (by decide)
 replace hT := hT.al 9300000 104 rfl
 replace hT := hT.add 9400000 (fnF Try.prog 49 [vP b14 0] pre53 post53 ((fun p => poset_Minimal_1 n p covered_16))) ⟨⟨_, _, func49, rfl, by kernel_rfl⟩, fun M1 w1 hk hm hlt vs x r hp hr => by obtain ⟨rfl, la1⟩ := hp; exact c_poset_Minimal_1 n M1 w1 hlt (x) la1 b14 (covered_16) b13 (Fact.move (mapRF Rep.bool b13 (covered_16)) hk hm (hT.ft 120 rfl)) (Fact.move (boxF b14 [.map (some b13)] 55) hk hm (hT.ft 121 rfl)) r hr⟩
 refine l_seq rfl (l_callMut (cap := []) hT _ [] (sbA (by rfl)) trivial (by rfl) rfl func48 rfl (by kernel_rfl) rfl rfl (c_slices_DeleteFunc_string n _ _ (hT.restLt []) _ r1 (Au4) (cu4) (csu4) (fun p => poset_Minimal_1 n p covered_16) (49) ([vP b14 0]) (hT.wd.lendL _ _ _ (sbA (by rfl)) (keep_sub []) (by rfl) (sbA (by rfl))) r47 hr47) ?_); intro v50 a' w' hK hp hF
 obtain ⟨Aou51, cou51, csou51, rfl, hWu51⟩ := hp
 have hS2 := St.mk hF (hT.wd.back (sbA (by rfl)) (keep_sub []) (by rfl) hWu51 (by rfl))
 clear s hT hF hWu51 hK; revert hS2; revert w'; revert a'; intro a w s
 replace s := s.al 122 9300000 rfl
 replace s := s.ren [(1102, Ob.row (Aou51) ((r47).length) (cou51) 9 1 (csou51))] [9200000] ⟨rfl, trivial⟩ (by decide)
 refine asg s rfl rfl fun a s => ?_
 apply wN
 apply wp_ret
 obtain rfl := Option.some.inj hg
 refine fin1 (fn := Try.f26) s rfl (r_tmp s rfl) ?_
 exact ⟨(Aou51), (cou51), rfl, (s.rowOut (R := Rep.str) (kk := 1102) rfl rfl (s.ft 122 rfl))⟩
set_option maxHeartbeats 400000 in
theorem c_law03_decl (n : Nat) (M : Bs) (w0 : World) (hM : ∀ b, M b → b < w0.heap.size) (name_ : (List UInt8)) (lp01 : (name_).length ≤ 9223372036854775807) (supers_ : (List (List UInt8))) (Ap11 : Option Addr) (cp11 : Nat) (hp11 : SlR Rep.str M w0 Ap11 (supers_).length cp11 (supers_)) (r : TypeDecl) (hg : law03_decl n name_ supers_ = some r) :
    Calls Try.prog 30 [.string (bs (name_)), .slice (Ap11) ((supers_).length) (cp11)].toArray w0 (Ret noB w0 fun v w => ∃ (Aa2 : Option Addr), ∃ (ca2 : Nat), ∃ (Aa3 : Option Addr), ∃ (ca3 : Nat), v = .agg #[.string (bs (r.Name)), .slice (Aa2) ((r.Supers).length) (ca2), .slice (Aa3) ((r.Feats).length) (ca3)] ∧ ((r.Name).length ≤ 9223372036854775807) ∧ (SlR Rep.str M w Aa2 (r.Supers).length ca2 (r.Supers)) ∧ (SlR RFeatDecl M w Aa3 (r.Feats).length ca3 (r.Feats))) := by
 unfold law03_decl at hg
 refine enter M noB func30 rfl rfl hM ?_
 intro a s
 replace s := s.es 101 hp11
 apply wR
 refine l_seq rfl (l_alloc (zs := [vT ([]), .slice (none) (0) (0), .slice (none) (0) (0)]) s 1000 rfl rfl rfl rfl fun b2 a w hb hK s => ?_)
 apply wN
 apply wR
 refine mv s rfl rfl fun a s => ?_
 refine mv s rfl rfl fun a s => ?_
 refine qq s rfl (y_build (parts := [(0, .tmp 5), (1, .tmp 6)]) (ps := [(0, vT name_), (1, sl Ap11 (supers_) cp11)]) (cells := #[vT name_, sl Ap11 (supers_) cp11, .slice (none) (0) (0)]) s rfl (by kernel_rfl)) fun a s => ?_
 refine l_seq rfl (l_store (n := 3) (cs' := [vT name_, sl Ap11 (supers_) cp11, .slice (none) (0) (0)]) s 1000 rfl rfl rfl rfl rfl rfl rfl rfl ?_); clear s; intro w hK s; clear hK
 apply wN
 apply wp_ret
 obtain rfl := Option.some.inj hg
 refine fin1 (fn := Try.f30) s rfl (r_cell (kk := 1000) (n := 3) (vs := [vT name_, sl Ap11 (supers_) cp11, .slice (none) (0) (0)]) s rfl rfl underlying40 rfl rfl rfl rfl) ?_
 exact ⟨(Ap11), (cp11), (none), (0), rfl, (by omega), (s.out (k := 101) rfl), (SlR.nil_ _ _ _)⟩
end Go.Proofs.Ytoeolfnjblibpaa

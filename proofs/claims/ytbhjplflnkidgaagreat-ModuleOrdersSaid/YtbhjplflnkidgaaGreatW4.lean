/- Chapter 22: the walks, part 4 -/
import Derived.Test.YtbhjplflnkidgaaGreatW3
namespace Go.Proofs.YtbhjplflnkidgaaGreat
open Go.Gl Go.RowKit Tryz
set_option linter.unusedVariables false
set_option linter.unusedSimpArgs false
set_option maxRecDepth 4000

set_option maxHeartbeats 1000000 in
theorem c_module_uses (n : Nat) (M : Bs) (w0 : World) (hM : ∀ b, M b → b < w0.heap.size) (t_ : Module) (Ap02 : Option Addr) (cp02 : Nat) (Ap03 : Option Addr) (cp03 : Nat) (Ap04 : Option Addr) (cp04 : Nat) (Ap05 : Option Addr) (cp05 : Nat) (Ap06 : Option Addr) (cp06 : Nat) (Ap07 : Option Addr) (cp07 : Nat) (Ap08 : Option Addr) (cp08 : Nat) (Ap09 : Option Addr) (cp09 : Nat) (Ap010 : Option Addr) (cp010 : Nat) (lp01 : (t_.Name).length ≤ 9223372036854775807) (hp02 : SlR Rep.str M w0 Ap02 (t_.Imports).length cp02 (t_.Imports)) (hp03 : SlR RTypeDecl M w0 Ap03 (t_.Types).length cp03 (t_.Types)) (hp04 : SlR RDef M w0 Ap04 (t_.Templates).length cp04 (t_.Templates)) (hp05 : SlR REntryDecl M w0 Ap05 (t_.Entries).length cp05 (t_.Entries)) (hp06 : SlR RLexDecl M w0 Ap06 (t_.LexRules).length cp06 (t_.LexRules)) (hp07 : SlR RDef M w0 Ap07 (t_.Rules).length cp07 (t_.Rules)) (hp08 : SlR RDef M w0 Ap08 (t_.Roots).length cp08 (t_.Roots)) (hp09 : SlR (Rep.list Rep.str) M w0 Ap09 (t_.Checks).length cp09 (t_.Checks)) (hp010 : SlR Rep.str M w0 Ap010 (t_.Drops).length cp010 (t_.Drops)) (r : (List (List UInt8))) (hg : module_uses n t_ = some r) :
    Calls Tryz.prog 38 [.agg #[.string (bs (t_.Name)), .slice (Ap02) ((t_.Imports).length) (cp02), .slice (Ap03) ((t_.Types).length) (cp03), .slice (Ap04) ((t_.Templates).length) (cp04), .slice (Ap05) ((t_.Entries).length) (cp05), .slice (Ap06) ((t_.LexRules).length) (cp06), .slice (Ap07) ((t_.Rules).length) (cp07), .slice (Ap08) ((t_.Roots).length) (cp08), .slice (Ap09) ((t_.Checks).length) (cp09), .slice (Ap010) ((t_.Drops).length) (cp010)]].toArray w0 (Ret noB w0 fun v w => ∃ (Aa1 : Option Addr), ∃ (ca1 : Nat), v = .slice (Aa1) ((r).length) (ca1) ∧ (SlR Rep.str M w Aa1 (r).length ca1 (r))) := by
 unfold module_uses at hg
 refine enter M noB func38 rfl rfl hM ?_
 intro a s
 replace s := s.es 101 hp02
 replace s := s.es 102 hp03
 replace s := s.es 103 hp04
 replace s := s.es 104 hp05
 replace s := s.es 105 hp06
 replace s := s.es 106 hp07
 replace s := s.es 107 hp08
 replace s := s.es 108 hp09
 replace s := s.es 109 hp010
 apply wR
 refine l_seq rfl (l_box (zs := [vT t_.Name, sl Ap02 t_.Imports cp02, sl Ap03 t_.Types cp03, sl Ap04 t_.Templates cp04, sl Ap05 t_.Entries cp05, sl Ap06 t_.LexRules cp06, sl Ap07 t_.Rules cp07, sl Ap08 t_.Roots cp08, sl Ap09 t_.Checks cp09, sl Ap010 t_.Drops cp010]) s 1000 rfl rfl rfl rfl fun b2 a w hb hK s => ?_)
 refine asg s rfl rfl fun a s => ?_
 apply wN
 apply wR
 refine asg s rfl rfl fun a s => ?_
 apply wN
 apply wQ
 apply wR
 refine qq s rfl (y_boxField (o' := 2) s rfl underlying38 rfl rfl rfl) fun a s => ?_
 refine qq s rfl (y_loadBox1 (kk := 1000) s rfl rfl rfl underlying32 rfl) fun a s => ?_
 refine qq s rfl (y_lenSlice s rfl underlying32) fun a s => ?_
 refine mv s rfl rfl fun a s => ?_
 apply wN
 obtain ⟨k3, hg, hk3⟩ := jn_some hg
 refine c_post (fun a w => ∃ (t_4 : (List (List UInt8))) (A5 : Option Addr) (c6 : Nat) (cs7 : List Value), k3 t_4 = some r ∧ St (cx f38 M w0) [(1, vP b2 0), (3, sl A5 t_4 c6)] [(1000, Ob.box b2 [vT t_.Name, sl Ap02 t_.Imports cp02, sl Ap03 t_.Types cp03, sl Ap04 t_.Templates cp04, sl Ap05 t_.Entries cp05, sl Ap06 t_.LexRules cp06, sl Ap07 t_.Rules cp07, sl Ap08 t_.Roots cp08, sl Ap09 t_.Checks cp09, sl Ap010 t_.Drops cp010] 38), (700110, Ob.row (A5) ((t_4).length) (c6) 9 1 (cs7))] [(101, sF Rep.str Ap02 cp02 t_.Imports), (102, sF RTypeDecl Ap03 cp03 t_.Types), (103, sF RDef Ap04 cp04 t_.Templates), (104, sF REntryDecl Ap05 cp05 t_.Entries), (105, sF RLexDecl Ap06 cp06 t_.LexRules), (106, sF RDef Ap07 cp07 t_.Rules), (107, sF RDef Ap08 cp08 t_.Roots), (108, sF (Rep.list Rep.str) Ap09 cp09 t_.Checks), (109, sF Rep.str Ap010 cp010 t_.Drops), (111, rdF Rep.str (cs7) (t_4))] a w) ?_ ?_
 ·apply wp_block
  replace s := s.nilRow 700112 9 1 rfl
  replace s := s.add 113 (rdF Rep.str [] []) (RdAll.nil _ _ _)
  refine c_loop (σ := Nat) (fun m1 a w => ∃ (t_8 : (List (List UInt8))) (t_12 : Nat) (A9 : Option Addr) (c10 : Nat) (cs11 : List Value), module_uses_L0 n t_ k3 m1 t_8 t_12 = some r ∧ St (cx f38 M w0) [(1, vP b2 0), (3, sl A9 t_8 c10), (17, sl Ap03 t_.Types cp03), (18, vI ((((t_.Types).length : Nat) : Int))), (19, vI (((t_12 : Nat) : Int)))] [(1000, Ob.box b2 [vT t_.Name, sl Ap02 t_.Imports cp02, sl Ap03 t_.Types cp03, sl Ap04 t_.Templates cp04, sl Ap05 t_.Entries cp05, sl Ap06 t_.LexRules cp06, sl Ap07 t_.Rules cp07, sl Ap08 t_.Roots cp08, sl Ap09 t_.Checks cp09, sl Ap010 t_.Drops cp010] 38), (700112, Ob.row (A9) ((t_8).length) (c10) 9 1 (cs11))] [(101, sF Rep.str Ap02 cp02 t_.Imports), (102, sF RTypeDecl Ap03 cp03 t_.Types), (103, sF RDef Ap04 cp04 t_.Templates), (104, sF REntryDecl Ap05 cp05 t_.Entries), (105, sF RLexDecl Ap06 cp06 t_.LexRules), (106, sF RDef Ap07 cp07 t_.Rules), (107, sF RDef Ap08 cp08 t_.Roots), (108, sF (Rep.list Rep.str) Ap09 cp09 t_.Checks), (109, sF Rep.str Ap010 cp010 t_.Drops), (113, rdF Rep.str (cs11) (t_8))] a w) (fun m1 => m1) n ⟨([]), (0), (none), (0), ([]), hg, (s.sb rfl rfl rfl)⟩ ?_
  clear s a; rintro m1 a w ⟨t_8, t_12, A9, c10, cs11, hg, s⟩
  rcases m1 with _ | m1
  ·rw [module_uses_L0] at hg; cases hg
  rw [module_uses_L0] at hg
  apply wR
  refine qq s rfl (y_lssN (i := t_12) (j := ((t_.Types).length)) s rfl rfl) fun a s => ?_
  apply wN
  apply wQ
  refine c_dec s rfl (fun hc13 => ?_) (fun hc13 => ?_)
  ·replace hg := br_t hg hc13
   have hmx14 := SlR.mx (s.ft 102 rfl)
   apply wp_skip
   apply pN
   apply wQ
   obtain ⟨k15, hg, hk15⟩ := jn_some hg
   refine c_post (fun a w => ∃ (t_16 : (List (List UInt8))) (A17 : Option Addr) (c18 : Nat) (cs19 : List Value), k15 t_16 = some r ∧ St (cx f38 M w0) [(1, vP b2 0), (3, sl A17 t_16 c18), (17, sl Ap03 t_.Types cp03), (18, vI ((((t_.Types).length : Nat) : Int))), (19, vI (((t_12 : Nat) : Int)))] [(1000, Ob.box b2 [vT t_.Name, sl Ap02 t_.Imports cp02, sl Ap03 t_.Types cp03, sl Ap04 t_.Templates cp04, sl Ap05 t_.Entries cp05, sl Ap06 t_.LexRules cp06, sl Ap07 t_.Rules cp07, sl Ap08 t_.Roots cp08, sl Ap09 t_.Checks cp09, sl Ap010 t_.Drops cp010] 38), (700114, Ob.row (A17) ((t_16).length) (c18) 9 1 (cs19))] [(101, sF Rep.str Ap02 cp02 t_.Imports), (102, sF RTypeDecl Ap03 cp03 t_.Types), (103, sF RDef Ap04 cp04 t_.Templates), (104, sF REntryDecl Ap05 cp05 t_.Entries), (105, sF RLexDecl Ap06 cp06 t_.LexRules), (106, sF RDef Ap07 cp07 t_.Rules), (107, sF RDef Ap08 cp08 t_.Roots), (108, sF (Rep.list Rep.str) Ap09 cp09 t_.Checks), (109, sF Rep.str Ap010 cp010 t_.Drops), (115, rdF Rep.str (cs19) (t_16))] a w) ?_ ?_
   ·apply wp_block
    apply wQ
    obtain ⟨x21, hx21, hg⟩ := bind_some hg
    apply wL
    obtain ⟨p24, hep24, hpp24⟩ := SlR.elemX (s.ft 102 rfl) hx21
    refine qq s rfl (y_elem (sz := 3) (i := t_12) s rfl rfl underlying32 rfl hep24 rfl (lt_of_get hx21)) fun a s => ?_
    obtain ⟨hlq25, hmq25, csq25, hdq25, hcq25⟩ := hpp24
    obtain ⟨Aq252, cq252, Aq253, cq253, rfl, lq251, hq252, hq253⟩ := RTypeDecl.open hdq25
    replace s := s.ns 118 hq252
    replace s := s.ns 119 hq253
    refine qq s rfl (y_ldp s rfl hlq25 hmq25 (by simpa using hcq25) underlying49 rfl rfl) fun a s => ?_
    refine l_seq rfl (l_alloc (zs := [vT ([]), .slice none 0 0, .slice none 0 0]) s 1402 rfl rfl rfl rfl fun b26 a w hb hK s => ?_)
    refine l_seq rfl (l_store (n := 3) (cs' := [vT x21.Name, sl Aq252 x21.Supers cq252, sl Aq253 x21.Feats cq253]) s 1402 rfl rfl rfl rfl rfl rfl rfl rfl ?_); clear s; intro w hK s; clear hK
    apply wN
    apply wQ
    obtain ⟨hk27, hg⟩ := chk_some hg
    apply wL
    refine mv s rfl rfl fun a s => ?_
    refine qq s rfl (y_boxField (o' := 1) s rfl underlying49 rfl rfl rfl) fun a s => ?_
    refine qq s rfl (y_loadBox1 (kk := 1402) s rfl rfl rfl underlying25 rfl) fun a s => ?_
    obtain ⟨ns31, hs31, hns31⟩ := SlR.src (s.ft 118 rfl)
    replace s := s.add 122 (rdF Rep.str ns31 (x21.Supers)) hns31
    refine l_seq rfl (l_append (sz := 1) (by_ := 16) (N := (t_8 ++ x21.Supers).length) s 700112 rfl rfl rfl underlying25 rfl rfl rfl rfl rfl hs31 (by rw [List.length_append]; try rfl) rfl (rmA hk27 rfl) (rmB hk27) rfl fun Aq30 cq30 a w hA hK s => ?_)
    replace s := s.add 123 (rdF Rep.str (cs11 ++ ns31) (t_8 ++ x21.Supers)) (RdAll.append (s.ft 113 rfl) (s.ft 122 rfl))
    refine asg s rfl rfl fun a s => ?_
    apply wN
    apply wR
    refine qq s rfl (y_boxField (o' := 2) s rfl underlying49 rfl rfl rfl) fun a s => ?_
    refine qq s rfl (y_loadBox1 (kk := 1402) s rfl rfl rfl underlying47 rfl) fun a s => ?_
    refine qq s rfl (y_lenSlice s rfl underlying47) fun a s => ?_
    refine mv s rfl rfl fun a s => ?_
    apply wN
    apply wp_block
    replace s := s.al 125 123 rfl
    replace s := s.pk [(1000, 1000), (1402, 1402), (700124, 700112)] (by decide)
    refine c_loop (σ := Nat) (fun m2 a w => ∃ (t_32 : (List (List UInt8))) (t_36 : Nat) (A33 : Option Addr) (c34 : Nat) (cs35 : List Value), module_uses_L1 n k15 x21 m2 t_32 t_36 = some r ∧ St (cx f38 M w0) [(1, vP b2 0), (3, sl A33 t_32 c34), (17, sl Ap03 t_.Types cp03), (18, vI ((((t_.Types).length : Nat) : Int))), (19, vI (((t_12 : Nat) : Int))), (28, sl Aq253 x21.Feats cq253), (29, vI ((((x21.Feats).length : Nat) : Int))), (30, vI (((t_36 : Nat) : Int)))] [(1000, Ob.box b2 [vT t_.Name, sl Ap02 t_.Imports cp02, sl Ap03 t_.Types cp03, sl Ap04 t_.Templates cp04, sl Ap05 t_.Entries cp05, sl Ap06 t_.LexRules cp06, sl Ap07 t_.Rules cp07, sl Ap08 t_.Roots cp08, sl Ap09 t_.Checks cp09, sl Ap010 t_.Drops cp010] 38), (700124, Ob.row (A33) ((t_32).length) (c34) 9 1 (cs35))] [(101, sF Rep.str Ap02 cp02 t_.Imports), (102, sF RTypeDecl Ap03 cp03 t_.Types), (103, sF RDef Ap04 cp04 t_.Templates), (104, sF REntryDecl Ap05 cp05 t_.Entries), (105, sF RLexDecl Ap06 cp06 t_.LexRules), (106, sF RDef Ap07 cp07 t_.Rules), (107, sF RDef Ap08 cp08 t_.Roots), (108, sF (Rep.list Rep.str) Ap09 cp09 t_.Checks), (109, sF Rep.str Ap010 cp010 t_.Drops), (119, sF RFeatDecl Aq253 cq253 x21.Feats), (125, rdF Rep.str (cs35) (t_32))] a w) (fun m2 => m2) n ⟨(t_8 ++ x21.Supers), (0), (Aq30), (cq30), (cs11 ++ ns31), hg, (s.sb rfl rfl rfl)⟩ ?_
    clear s a; rintro m2 a w ⟨t_32, t_36, A33, c34, cs35, hg, s⟩
    rcases m2 with _ | m2
    ·rw [module_uses_L1] at hg; cases hg
    rw [module_uses_L1] at hg
    apply wR
    refine qq s rfl (y_lssN (i := t_36) (j := ((x21.Feats).length)) s rfl rfl) fun a s => ?_
    apply wN
    apply wQ
    refine c_dec s rfl (fun hc37 => ?_) (fun hc37 => ?_)
    ·replace hg := br_t hg hc37
     have hmx38 := SlR.mx (s.ft 119 rfl)
     apply wp_skip
     apply pN
     apply wQ
     apply wp_block
     apply wQ
     obtain ⟨x40, hx40, hg⟩ := bind_some hg
     apply wL
     obtain ⟨p43, hep43, hpp43⟩ := SlR.elemX (s.ft 119 rfl) hx40
     refine qq s rfl (y_elem (sz := 2) (i := t_36) s rfl rfl underlying47 rfl hep43 rfl (lt_of_get hx40)) fun a s => ?_
     obtain ⟨hlq44, hmq44, csq44, hdq44, hcq44⟩ := hpp43
     obtain ⟨rfl, lq441, lq442⟩ := RFeatDecl.open hdq44
     refine qq s rfl (y_ldp s rfl hlq44 hmq44 (by simpa using hcq44) underlying82 rfl rfl) fun a s => ?_
     refine l_seq rfl (l_alloc (zs := [vT ([]), vT ([])]) s 1802 rfl rfl rfl rfl fun b45 a w hb hK s => ?_)
     refine l_seq rfl (l_store (n := 2) (cs' := [vT x40.Feat, vT x40.Value]) s 1802 rfl rfl rfl rfl rfl rfl rfl rfl ?_); clear s; intro w hK s; clear hK
     apply wN
     obtain ⟨hk47, hg⟩ := chk_some hg
     apply wL
     refine mv s rfl rfl fun a s => ?_
     refine qq s rfl (y_boxField (o' := 1) s rfl underlying82 rfl rfl rfl) fun a s => ?_
     refine qq s rfl (y_loadBox1 (kk := 1802) s rfl rfl rfl underlying9 rfl) fun a s => ?_
     refine l_seq rfl (l_buildDense (sz := 1) s 1903 rfl rfl rfl underlying25 rfl rfl rfl rfl rfl rfl rfl fun b50 a w hbb50 hK s => ?_)
     clear hbb50
     replace s := s.add 128 (rdF Rep.str (cellsOfL [vT x40.Value]) ([x40.Value])) (RdAll.cons (by exact ⟨rfl, (by omega)⟩) (RdAll.nil _ _ _))
     have hs52 := row_src (s.wd.holds 1903 _ rfl) (RdAll.one (s.ft 128 rfl))
     refine l_seq rfl (l_append (sz := 1) (by_ := 16) (N := (t_32 ++ [x40.Value]).length) s 700124 rfl rfl rfl underlying25 rfl rfl rfl rfl rfl hs52 (by rw [List.length_append]; try rfl) rfl (rmA hk47 rfl) (rmB hk47) rfl fun Aq51 cq51 a w hA hK s => ?_)
     replace s := s.add 129 (rdF Rep.str (cs35 ++ (cellsOfL [vT x40.Value])) (t_32 ++ [x40.Value])) (RdAll.append (s.ft 125 rfl) (s.ft 128 rfl))
     refine asg s rfl rfl fun a s => ?_
     apply wO
     refine p_inN ?_
     apply pN
     apply wL
     refine qq s rfl (y_addN (i := t_36) (j := 1) s rfl rfl (in64.2 (by omega))) fun a s => ?_
     refine mv s rfl rfl fun a s => ?_
     apply wN
     replace s := s.al 125 129 rfl
     exact ⟨m2, Nat.lt_succ_self _, ⟨(t_32 ++ [x40.Value]), (t_36 + 1), (Aq51), (cq51), (cs35 ++ (cellsOfL [vT x40.Value])), hg, (s.sb rfl rfl rfl)⟩⟩
    replace hg := br_f hg hc37
    apply wp_exit
    refine p_then ?_
    refine p_then ?_
    refine p_in ?_
    refine p_inN ?_
    apply pN
    replace s := s.al 115 125 rfl
    replace s := s.pk [(1000, 1000), (700114, 700124)] (by decide)
    exact ⟨(t_32), (A33), (c34), (cs35), hg, (s.sb rfl rfl rfl)⟩
   clear s a; rintro a w ⟨t_16, A17, c18, cs19, hg, s⟩
   subst hk15
   apply wL
   refine qq s rfl (y_addN (i := t_12) (j := 1) s rfl rfl (in64.2 (by omega))) fun a s => ?_
   refine mv s rfl rfl fun a s => ?_
   apply wN
   replace s := s.al 113 115 rfl
   replace s := s.pk [(1000, 1000), (700112, 700114)] (by decide)
   exact ⟨m1, Nat.lt_succ_self _, ⟨(t_16), (t_12 + 1), (A17), (c18), (cs19), hg, (s.sb rfl rfl rfl)⟩⟩
  replace hg := br_f hg hc13
  apply wp_exit
  refine p_then ?_
  refine p_then ?_
  refine p_in ?_
  apply pN
  replace s := s.al 111 113 rfl
  replace s := s.pk [(1000, 1000), (700110, 700112)] (by decide)
  exact ⟨(t_8), (A9), (c10), (cs11), hg, (s.sb rfl rfl rfl)⟩
 clear s a; rintro a w ⟨t_4, A5, c6, cs7, hg, s⟩
 subst hk3
 apply wQ
 apply wQ
 obtain ⟨r53, hr53, hg⟩ := bind_some hg
 apply wL
 refine qq s rfl (y_loadAll (kk := 1000) s rfl rfl underlying38 rfl rfl) fun a s => ?_
 refine lc s rfl func65 (by kernel_rfl) (c_module_definitions n _ _ s.lt _ _ _ _ _ _ _ _ _ _ _ _ _ _ _ _ _ _ _ (by omega) (s.ft 101 rfl) (s.ft 102 rfl) (s.ft 103 rfl) (s.ft 104 rfl) (s.ft 105 rfl) (s.ft 106 rfl) (s.ft 107 rfl) (s.ft 108 rfl) (s.ft 109 rfl) _ hr53) fun v56 a w hK hp s => ?_
 obtain ⟨Au57a1, cu57a1, rfl, hu57a1⟩ := hp
 replace s := s.ns 131 hu57a1
 refine qq s rfl (y_lenSlice s rfl underlying33) fun a s => ?_
 refine mv s rfl rfl fun a s => ?_
 apply wN
 apply wp_block
 replace s := s.al 133 111 rfl
 replace s := s.pk [(1000, 1000), (700132, 700110)] (by decide)
 refine c_loop (σ := Nat) (fun m3 a w => ∃ (t_58 : (List (List UInt8))) (t_62 : Nat) (A59 : Option Addr) (c60 : Nat) (cs61 : List Value), module_uses_L2 n r53 m3 t_58 t_62 = some r ∧ St (cx f38 M w0) [(3, sl A59 t_58 c60), (42, sl Au57a1 r53 cu57a1), (43, vI ((((r53).length : Nat) : Int))), (44, vI (((t_62 : Nat) : Int)))] [(700132, Ob.row (A59) ((t_58).length) (c60) 9 1 (cs61))] [(131, sF RDef Au57a1 cu57a1 r53), (133, rdF Rep.str (cs61) (t_58))] a w) (fun m3 => m3) n ⟨(t_4), (0), (A5), (c6), (cs7), hg, (s.sb rfl rfl rfl)⟩ ?_
 clear s a; rintro m3 a w ⟨t_58, t_62, A59, c60, cs61, hg, s⟩
 rcases m3 with _ | m3
 ·rw [module_uses_L2] at hg; cases hg
 rw [module_uses_L2] at hg
 apply wR
 refine qq s rfl (y_lssN (i := t_62) (j := ((r53).length)) s rfl rfl) fun a s => ?_
 apply wN
 apply wQ
 refine c_dec s rfl (fun hc63 => ?_) (fun hc63 => ?_)
 ·replace hg := br_t hg hc63
  have hmx64 := SlR.mx (s.ft 131 rfl)
  apply wp_skip
  apply pN
  apply wQ
  obtain ⟨k65, hg, hk65⟩ := jn_some hg
  refine c_post (fun a w => ∃ (t_66 : (List (List UInt8))) (A67 : Option Addr) (c68 : Nat) (cs69 : List Value), k65 t_66 = some r ∧ St (cx f38 M w0) [(3, sl A67 t_66 c68), (42, sl Au57a1 r53 cu57a1), (43, vI ((((r53).length : Nat) : Int))), (44, vI (((t_62 : Nat) : Int)))] [(700134, Ob.row (A67) ((t_66).length) (c68) 9 1 (cs69))] [(131, sF RDef Au57a1 cu57a1 r53), (135, rdF Rep.str (cs69) (t_66))] a w) ?_ ?_
  ·apply wp_block
   apply wQ
   obtain ⟨x71, hx71, hg⟩ := bind_some hg
   apply wL
   obtain ⟨p74, hep74, hpp74⟩ := SlR.elemX (s.ft 131 rfl) hx71
   refine qq s rfl (y_elem (sz := 6) (i := t_62) s rfl rfl underlying33 rfl hep74 rfl (lt_of_get hx71)) fun a s => ?_
   obtain ⟨hlq75, hmq75, csq75, hdq75, hcq75⟩ := hpp74
   obtain ⟨Aq754, cq754, Aq755, cq755, Aq756, cq756, rfl, lq751, lq753, hq754, hq755, hq756⟩ := RDef.open hdq75
   replace s := s.ns 139 hq754
   replace s := s.ns 140 hq755
   replace s := s.ns 141 hq756
   refine qq s rfl (y_ldp s rfl hlq75 hmq75 (by simpa using hcq75) underlying62 rfl rfl) fun a s => ?_
   refine l_seq rfl (l_alloc (zs := [vT ([]), vI 0, vT ([]), .slice none 0 0, .slice none 0 0, .slice none 0 0]) s 2402 rfl rfl rfl rfl fun b76 a w hb hK s => ?_)
   refine l_seq rfl (l_store (n := 6) (cs' := [vT x71.Name, vI x71.Strict.Op, vT x71.Strict.Name, sl Aq754 x71.Strict.Path cq754, sl Aq755 x71.Strict.Kids cq755, sl Aq756 x71.Defaults cq756]) s 2402 rfl rfl rfl rfl rfl rfl rfl rfl ?_); clear s; intro w hK s; clear hK
   apply wN
   apply wQ
   obtain ⟨hk78, hg⟩ := chk_some hg
   apply wL
   refine qq s rfl (y_boxField (o' := 1) s rfl underlying62 rfl rfl rfl) fun a s => ?_
   refine qq s rfl (y_loadBox (kk := 2402) (n := 4) (vs := [vI x71.Strict.Op, vT x71.Strict.Name, sl Aq754 x71.Strict.Path cq754, sl Aq755 x71.Strict.Kids cq755]) s rfl rfl underlying60 rfl rfl rfl rfl) fun a s => ?_
   refine l_seq rfl (l_buildDense (sz := 4) s 2502 rfl rfl rfl underlying58 rfl rfl rfl rfl rfl rfl rfl fun b81 a w hbb81 hK s => ?_)
   clear hbb81
   refine qq s rfl (y_boxField (o' := 5) s rfl underlying62 rfl rfl rfl) fun a s => ?_
   refine qq s rfl (y_loadBox1 (kk := 2402) s rfl rfl rfl underlying58 rfl) fun a s => ?_
   replace s := s.add 145 (rdF RDesc (cellsOfL [.agg #[vI x71.Strict.Op, vT x71.Strict.Name, sl Aq754 x71.Strict.Path cq754, sl Aq755 x71.Strict.Kids cq755]]) ([x71.Strict])) (RdAll.cons (by exact (RDesc.mk' (x := x71.Strict) (by omega) (s.ft 139 rfl) (s.ft 140 rfl))) (RdAll.nil _ _ _))
   obtain ⟨ns83, hs83, hns83⟩ := SlR.src (s.ft 141 rfl)
   replace s := s.add 146 (rdF RDesc ns83 (x71.Defaults)) hns83
   refine l_seq rfl (l_append (sz := 4) (by_ := 72) (N := ([x71.Strict] ++ x71.Defaults).length) s 2502 rfl rfl rfl underlying58 rfl rfl rfl rfl rfl hs83 (by rw [List.length_append]; try rfl) rfl (rmA hk78 rfl) (rmB hk78) rfl fun Aq82 cq82 a w hA hK s => ?_)
   replace s := s.add 147 (rdF RDesc ((cellsOfL [.agg #[vI x71.Strict.Op, vT x71.Strict.Name, sl Aq754 x71.Strict.Path cq754, sl Aq755 x71.Strict.Kids cq755]]) ++ ns83) ([x71.Strict] ++ x71.Defaults)) (RdAll.append (s.ft 145 rfl) (s.ft 146 rfl))
   refine qq s rfl (y_lenSlice s rfl underlying58) fun a s => ?_
   refine mv s rfl rfl fun a s => ?_
   apply wN
   apply wp_block
   replace s := s.al 149 133 rfl
   replace s := s.pk [(2402, 2402), (2502, 2502), (700148, 700132)] (by decide)
   refine c_loop (σ := Nat) (fun m4 a w => ∃ (t_84 : (List (List UInt8))) (t_88 : Nat) (A85 : Option Addr) (c86 : Nat) (cs87 : List Value), module_uses_L3 n k65 x71 m4 t_84 t_88 = some r ∧ St (cx f38 M w0) [(3, sl A85 t_84 c86), (42, sl Au57a1 r53 cu57a1), (43, vI ((((r53).length : Nat) : Int))), (44, vI (((t_62 : Nat) : Int))), (53, sl Aq82 ([x71.Strict] ++ x71.Defaults) cq82), (54, vI (((([x71.Strict] ++ x71.Defaults).length : Nat) : Int))), (55, vI (((t_88 : Nat) : Int)))] [(2502, Ob.row (Aq82) (([x71.Strict] ++ x71.Defaults).length) (cq82) 60 4 ((cellsOfL [.agg #[vI x71.Strict.Op, vT x71.Strict.Name, sl Aq754 x71.Strict.Path cq754, sl Aq755 x71.Strict.Kids cq755]]) ++ ns83)), (700148, Ob.row (A85) ((t_84).length) (c86) 9 1 (cs87))] [(131, sF RDef Au57a1 cu57a1 r53), (147, rdF RDesc ((cellsOfL [.agg #[vI x71.Strict.Op, vT x71.Strict.Name, sl Aq754 x71.Strict.Path cq754, sl Aq755 x71.Strict.Kids cq755]]) ++ ns83) ([x71.Strict] ++ x71.Defaults)), (149, rdF Rep.str (cs87) (t_84))] a w) (fun m4 => m4) n ⟨(t_58), (0), (A59), (c60), (cs61), hg, (s.sb rfl rfl rfl)⟩ ?_
   clear s a; rintro m4 a w ⟨t_84, t_88, A85, c86, cs87, hg, s⟩
   rcases m4 with _ | m4
   ·rw [module_uses_L3] at hg; cases hg
   rw [module_uses_L3] at hg
   apply wR
   refine qq s rfl (y_lssN (i := t_88) (j := (([x71.Strict] ++ x71.Defaults).length)) s rfl rfl) fun a s => ?_
   apply wN
   apply wQ
   refine c_dec s rfl (fun hc89 => ?_) (fun hc89 => ?_)
   ·replace hg := br_t hg hc89
    have hmx90 := row_mx (s.wd.holds 2502 _ rfl)
    apply wp_skip
    apply pN
    apply wQ
    obtain ⟨k91, hg, hk91⟩ := jn_some hg
    refine c_post (fun a w => ∃ (t_92 : (List (List UInt8))) (A93 : Option Addr) (c94 : Nat) (cs95 : List Value), k91 t_92 = some r ∧ St (cx f38 M w0) [(3, sl A93 t_92 c94), (42, sl Au57a1 r53 cu57a1), (43, vI ((((r53).length : Nat) : Int))), (44, vI (((t_62 : Nat) : Int))), (53, sl Aq82 ([x71.Strict] ++ x71.Defaults) cq82), (54, vI (((([x71.Strict] ++ x71.Defaults).length : Nat) : Int))), (55, vI (((t_88 : Nat) : Int)))] [(2502, Ob.row (Aq82) (([x71.Strict] ++ x71.Defaults).length) (cq82) 60 4 ((cellsOfL [.agg #[vI x71.Strict.Op, vT x71.Strict.Name, sl Aq754 x71.Strict.Path cq754, sl Aq755 x71.Strict.Kids cq755]]) ++ ns83)), (700150, Ob.row (A93) ((t_92).length) (c94) 9 1 (cs95))] [(131, sF RDef Au57a1 cu57a1 r53), (147, rdF RDesc ((cellsOfL [.agg #[vI x71.Strict.Op, vT x71.Strict.Name, sl Aq754 x71.Strict.Path cq754, sl Aq755 x71.Strict.Kids cq755]]) ++ ns83) ([x71.Strict] ++ x71.Defaults)), (151, rdF Rep.str (cs95) (t_92))] a w) ?_ ?_
    ·apply wp_block
     apply wQ
     obtain ⟨x97, hx97, hg⟩ := bind_some hg
     apply wL
     obtain ⟨hiq100, bq100, hAq100⟩ := SlR.row1 (s.wd.holds 2502 _ rfl) (s.ft 147 rfl) rfl rfl hx97
     refine qq s rfl (y_rowIndex (sz := 4) (i := t_88) s rfl rfl underlying58 rfl hAq100 rfl hiq100) fun a s => ?_
     have hz101 := (s.ft 147 rfl).at_ _ _ hx97
     obtain ⟨Az1013, cz1013, Az1014, cz1014, ez101, lz1012, hz1013, hz1014⟩ := RDesc.open hz101
     replace s := s.ns 154 hz1013
     replace s := s.ns 155 hz1014
     refine qq s rfl (y_loadRow (kk := 2502) (vs := [vI x97.Op, vT x97.Name, sl Az1013 x97.Path cz1013, sl Az1014 x97.Kids cz1014]) s rfl rfl hAq100 ez101 underlying60 rfl rfl) fun a s => ?_
     refine l_seq rfl (l_alloc (zs := [vI 0, vT ([]), .slice none 0 0, .slice none 0 0]) s 2702 rfl rfl rfl rfl fun b102 a w hb hK s => ?_)
     refine l_seq rfl (l_store (n := 4) (cs' := [vI x97.Op, vT x97.Name, sl Az1013 x97.Path cz1013, sl Az1014 x97.Kids cz1014]) s 2702 rfl rfl rfl rfl rfl rfl rfl rfl ?_); clear s; intro w hK s; clear hK
     apply wN
     apply wQ
     obtain ⟨r103, hr103, hg⟩ := bind_some hg
     apply wL
     refine qq s rfl (y_loadAll (kk := 2702) s rfl rfl underlying60 rfl rfl) fun a s => ?_
     refine lc s rfl func66 (by kernel_rfl) (c_desc_Names n _ _ s.lt _ _ _ _ _ (by omega) (s.ft 154 rfl) (s.ft 155 rfl) _ hr103) fun v106 a w hK hp s => ?_
     obtain ⟨Au107a1, cu107a1, Au107b1, cu107b1, rfl, hu107a1, hu107b1⟩ := hp
     replace s := s.ns 158 hu107a1
     replace s := s.ns 159 hu107b1
     refine mv s rfl rfl fun a s => ?_
     refine qq s rfl (y_extract s rfl rfl) fun a s => ?_
     refine qq s rfl (y_extract s rfl rfl) fun a s => ?_
     refine asg s rfl rfl fun a s => ?_
     refine asg s rfl rfl fun a s => ?_
     apply wN
     apply wQ
     obtain ⟨hk108, hg⟩ := chk_some hg
     apply wL
     refine mv s rfl rfl fun a s => ?_
     refine mv s rfl rfl fun a s => ?_
     obtain ⟨ns112, hs112, hns112⟩ := SlR.src (s.ft 158 rfl)
     replace s := s.add 162 (rdF Rep.str ns112 (r103.1)) hns112
     refine l_seq rfl (l_append (sz := 1) (by_ := 16) (N := (t_84 ++ r103.1).length) s 700148 rfl rfl rfl underlying25 rfl rfl rfl rfl rfl hs112 (by rw [List.length_append]; try rfl) rfl (rmA hk108 rfl) (rmB hk108) rfl fun Aq111 cq111 a w hA hK s => ?_)
     replace s := s.add 163 (rdF Rep.str (cs87 ++ ns112) (t_84 ++ r103.1)) (RdAll.append (s.ft 149 rfl) (s.ft 162 rfl))
     refine asg s rfl rfl fun a s => ?_
     apply wN
     apply wR
     refine mv s rfl rfl fun a s => ?_
     refine qq s rfl (y_lenSlice s rfl underlying25) fun a s => ?_
     refine mv s rfl rfl fun a s => ?_
     apply wN
     apply wp_block
     replace s := s.al 165 163 rfl
     replace s := s.pk [(2502, 2502), (2702, 2702), (700164, 700148)] (by decide)
     refine c_loop (σ := Nat) (fun m5 a w => ∃ (t_113 : (List (List UInt8))) (t_117 : Nat) (A114 : Option Addr) (c115 : Nat) (cs116 : List Value), module_uses_L4 n k91 r103 m5 t_113 t_117 = some r ∧ St (cx f38 M w0) [(3, sl A114 t_113 c115), (42, sl Au57a1 r53 cu57a1), (43, vI ((((r53).length : Nat) : Int))), (44, vI (((t_62 : Nat) : Int))), (53, sl Aq82 ([x71.Strict] ++ x71.Defaults) cq82), (54, vI (((([x71.Strict] ++ x71.Defaults).length : Nat) : Int))), (55, vI (((t_88 : Nat) : Int))), (67, sl Au107b1 r103.2 cu107b1), (68, vI ((((r103.2).length : Nat) : Int))), (69, vI (((t_117 : Nat) : Int)))] [(2502, Ob.row (Aq82) (([x71.Strict] ++ x71.Defaults).length) (cq82) 60 4 ((cellsOfL [.agg #[vI x71.Strict.Op, vT x71.Strict.Name, sl Aq754 x71.Strict.Path cq754, sl Aq755 x71.Strict.Kids cq755]]) ++ ns83)), (700164, Ob.row (A114) ((t_113).length) (c115) 9 1 (cs116))] [(131, sF RDef Au57a1 cu57a1 r53), (147, rdF RDesc ((cellsOfL [.agg #[vI x71.Strict.Op, vT x71.Strict.Name, sl Aq754 x71.Strict.Path cq754, sl Aq755 x71.Strict.Kids cq755]]) ++ ns83) ([x71.Strict] ++ x71.Defaults)), (159, sF Rep.str Au107b1 cu107b1 r103.2), (165, rdF Rep.str (cs116) (t_113))] a w) (fun m5 => m5) n ⟨(t_84 ++ r103.1), (0), (Aq111), (cq111), (cs87 ++ ns112), hg, (s.sb rfl rfl rfl)⟩ ?_
     clear s a; rintro m5 a w ⟨t_113, t_117, A114, c115, cs116, hg, s⟩
     rcases m5 with _ | m5
     ·rw [module_uses_L4] at hg; cases hg
     rw [module_uses_L4] at hg
     apply wR
     refine qq s rfl (y_lssN (i := t_117) (j := ((r103.2).length)) s rfl rfl) fun a s => ?_
     apply wN
     apply wQ
     refine c_dec s rfl (fun hc118 => ?_) (fun hc118 => ?_)
     ·replace hg := br_t hg hc118
      have hmx119 := SlR.mx (s.ft 159 rfl)
      apply wp_skip
      apply pN
      apply wQ
      apply wp_block
      apply wQ
      obtain ⟨x121, hx121, hg⟩ := bind_some hg
      apply wL
      obtain ⟨p123, hep123, hpp123⟩ := SlR.elemX (s.ft 159 rfl) hx121
      refine qq s rfl (y_elem (sz := 1) (i := t_117) s rfl rfl underlying25 rfl hep123 rfl (lt_of_get hx121)) fun a s => ?_
      obtain ⟨hlq124, hmq124, csq124, hdq124, hcq124⟩ := hpp123
      obtain ⟨rfl, lq1241⟩ := hdq124
      refine qq s rfl (y_ldp1 s rfl hlq124 hmq124 (hcq124 0 _ rfl) underlying9 rfl) fun a s => ?_
      refine asg s rfl rfl fun a s => ?_
      apply wN
      obtain ⟨hk125, hg⟩ := chk_some hg
      obtain ⟨hk127, hg⟩ := chk_some hg
      apply wL
      refine mv s rfl rfl fun a s => ?_
      refine mv s rfl rfl fun a s => ?_
      refine qq s rfl (y_concat s rfl rfl hk125) fun a s => ?_
      refine l_seq rfl (l_buildDense (sz := 1) s 3303 rfl rfl rfl underlying25 rfl rfl rfl rfl rfl rfl rfl fun b130 a w hbb130 hK s => ?_)
      clear hbb130
      replace s := s.add 168 (rdF Rep.str (cellsOfL [vT ([64] ++ x121)]) ([[64] ++ x121])) (RdAll.cons (by exact ⟨rfl, (by rw [List.length_append]; omega)⟩) (RdAll.nil _ _ _))
      have hs132 := row_src (s.wd.holds 3303 _ rfl) (RdAll.one (s.ft 168 rfl))
      refine l_seq rfl (l_append (sz := 1) (by_ := 16) (N := (t_113 ++ [[64] ++ x121]).length) s 700164 rfl rfl rfl underlying25 rfl rfl rfl rfl rfl hs132 (by simp only [List.length_append]; try rfl) rfl (rmA hk127 rfl) (rmB hk127) rfl fun Aq131 cq131 a w hA hK s => ?_)
      replace s := s.add 169 (rdF Rep.str (cs116 ++ (cellsOfL [vT ([64] ++ x121)])) (t_113 ++ [[64] ++ x121])) (RdAll.append (s.ft 165 rfl) (s.ft 168 rfl))
      refine asg s rfl rfl fun a s => ?_
      apply wO
      refine p_inN ?_
      apply pN
      apply wL
      refine qq s rfl (y_addN (i := t_117) (j := 1) s rfl rfl (in64.2 (by omega))) fun a s => ?_
      refine mv s rfl rfl fun a s => ?_
      apply wN
      replace s := s.al 165 169 rfl
      exact ⟨m5, Nat.lt_succ_self _, ⟨(t_113 ++ [[64] ++ x121]), (t_117 + 1), (Aq131), (cq131), (cs116 ++ (cellsOfL [vT ([64] ++ x121)])), hg, (s.sb rfl rfl rfl)⟩⟩
     replace hg := br_f hg hc118
     apply wp_exit
     refine p_then ?_
     refine p_then ?_
     refine p_in ?_
     refine p_inN ?_
     apply pN
     replace s := s.al 151 165 rfl
     replace s := s.pk [(2502, 2502), (700150, 700164)] (by decide)
     exact ⟨(t_113), (A114), (c115), (cs116), hg, (s.sb rfl rfl rfl)⟩
    clear s a; rintro a w ⟨t_92, A93, c94, cs95, hg, s⟩
    subst hk91
    apply wL
    refine qq s rfl (y_addN (i := t_88) (j := 1) s rfl rfl (in64.2 (by omega))) fun a s => ?_
    refine mv s rfl rfl fun a s => ?_
    apply wN
    replace s := s.al 149 151 rfl
    replace s := s.pk [(2502, 2502), (700148, 700150)] (by decide)
    exact ⟨m4, Nat.lt_succ_self _, ⟨(t_92), (t_88 + 1), (A93), (c94), (cs95), hg, (s.sb rfl rfl rfl)⟩⟩
   replace hg := br_f hg hc89
   apply wp_exit
   refine p_then ?_
   refine p_then ?_
   refine p_in ?_
   refine p_inN ?_
   apply pN
   replace s := s.al 135 149 rfl
   replace s := s.pk [(2502, 2502), (700134, 700148)] (by decide)
   exact ⟨(t_84), (A85), (c86), (cs87), hg, (s.sb rfl rfl rfl)⟩
  clear s a; rintro a w ⟨t_66, A67, c68, cs69, hg, s⟩
  subst hk65
  apply wL
  refine qq s rfl (y_addN (i := t_62) (j := 1) s rfl rfl (in64.2 (by omega))) fun a s => ?_
  refine mv s rfl rfl fun a s => ?_
  apply wN
  replace s := s.al 133 135 rfl
  replace s := s.pk [(700132, 700134)] (by decide)
  exact ⟨m3, Nat.lt_succ_self _, ⟨(t_66), (t_62 + 1), (A67), (c68), (cs69), hg, (s.sb rfl rfl rfl)⟩⟩
 replace hg := br_f hg hc63
 apply wp_exit
 refine p_then ?_
 refine p_then ?_
 refine p_in ?_
 apply pN
 apply wR
 refine mv s rfl rfl fun a s => ?_
 refine asg s rfl rfl fun a s => ?_
 apply wN
 apply wp_ret
 obtain rfl := Option.some.inj hg
 refine fin1 (fn := Tryz.f38) s rfl (r_tmp s rfl) ?_
 exact ⟨(A59), (c60), rfl, (s.rowOut (R := Rep.str) (kk := 700132) rfl rfl (s.ft 133 rfl))⟩
set_option maxHeartbeats 1000000 in
theorem c_module_Link_1 (n : Nat) (M : Bs) (w0 : World) (hM : ∀ b, M b → b < w0.heap.size) (x_ : (List UInt8)) (lp01 : (x_).length ≤ 9223372036854775807) (bf0 : Nat) (c0_ : (List (List UInt8))) (Af01 : Option Addr) (cf01 : Nat) (hf01 : SlR Rep.str M w0 Af01 (c0_).length cf01 (c0_)) (hb0 : BoxR bf0 [.slice (Af01) ((c0_).length) (cf01)] 25 M w0) (r : Bool) (hg : module_Link_1 n x_ c0_ = some r) :
    Calls Tryz.prog 39 [.string (bs (x_)), .pointer (some ⟨bf0, 0, none⟩)].toArray w0 (Ret noB w0 fun v w => v = .bool (r)) := by
 unfold module_Link_1 at hg
 refine enter M noB func39 rfl rfl hM ?_
 intro a s
 replace s := s.es 101 hf01
 replace s := s.ebx 102 hb0
 apply wR
 refine asg s rfl rfl fun a s => ?_
 apply wN
 apply wQ
 obtain ⟨r1, hr1, hg⟩ := bind_some hg
 apply wL
 refine qq s rfl (y_loadF1 s rfl (s.ft 102 rfl) rfl underlying25 rfl) fun a s => ?_
 refine mv s rfl rfl fun a s => ?_
 refine lc s rfl func40 (by kernel_rfl) (c_slices_Contains_string n _ _ s.lt _ _ _ (s.ft 101 rfl) _ (by omega) _ hr1) fun v4 a w hK hp s => ?_
 obtain rfl := hp
 refine qq s rfl (y_not s rfl) fun a s => ?_
 refine asg s rfl rfl fun a s => ?_
 apply wN
 apply wp_ret
 obtain rfl := Option.some.inj hg
 refine fin1 (fn := Tryz.f39) s rfl (r_tmp s rfl) ?_
 exact rfl
set_option maxHeartbeats 1000000 in
theorem c_r22_find (n : Nat) (M : Bs) (w0 : World) (hM : ∀ b, M b → b < w0.heap.size) (l_ : (List Module)) (Ap01 : Option Addr) (cp01 : Nat) (hp01 : SlR RModule M w0 Ap01 (l_).length cp01 (l_)) (name_ : (List UInt8)) (lp11 : (name_).length ≤ 9223372036854775807) (r : Int) (hg : r22_find n l_ name_ = some r) :
    Calls Tryz.prog 28 [.slice (Ap01) ((l_).length) (cp01), .string (bs (name_))].toArray w0 (Ret noB w0 fun v w => v = .int .i64 (r)) := by
 unfold r22_find at hg
 refine enter M noB func28 rfl rfl hM ?_
 intro a s
 replace s := s.es 101 hp01
 apply wR
 refine asg s rfl rfl fun a s => ?_
 apply wN
 apply wQ
 apply wR
 refine asg s rfl rfl fun a s => ?_
 apply wN
 apply wp_block
 refine c_loop (σ := Nat) (fun m1 a w => ∃ (i_1 : Nat), r22_find_L0 n l_ name_ m1 i_1 = some r ∧ St (cx f28 M w0) [(0, sl Ap01 l_ cp01), (1, vT name_), (5, vI (((i_1 : Nat) : Int)))] [] [(101, sF RModule Ap01 cp01 l_)] a w) (fun m1 => m1) n ⟨(0), hg, (s.sb rfl rfl rfl)⟩ ?_
 clear s a; rintro m1 a w ⟨i_1, hg, s⟩
 rcases m1 with _ | m1
 ·rw [r22_find_L0] at hg; cases hg
 rw [r22_find_L0] at hg
 apply wQ
 apply wR
 refine mv s rfl rfl fun a s => ?_
 refine mv s rfl rfl fun a s => ?_
 refine qq s rfl (y_lenSlice s rfl underlying22) fun a s => ?_
 refine qq s rfl (y_lssN (i := i_1) (j := ((l_).length)) s rfl rfl) fun a s => ?_
 apply wN
 refine c_dec s rfl (fun hc2 => ?_) (fun hc2 => ?_)
 ·replace hg := br_t hg hc2
  have hmx3 := SlR.mx (s.ft 101 rfl)
  apply wp_skip
  apply pN
  apply wQ
  apply wp_block
  apply wQ
  obtain ⟨x5, hx5, hg⟩ := bind_some hg
  apply wL
  refine mv s rfl rfl fun a s => ?_
  refine mv s rfl rfl fun a s => ?_
  obtain ⟨p7, hep7, hpp7⟩ := SlR.elemX (s.ft 101 rfl) hx5
  refine qq s rfl (y_elem (sz := 10) (i := i_1) s rfl rfl underlying22 rfl hep7 rfl (lt_of_get hx5)) fun a s => ?_
  refine qq s rfl (y_ptrField (o' := 0) s rfl underlying38 rfl rfl rfl) fun a s => ?_
  obtain ⟨hlq8, hmq8, csq8, hdq8, hcq8⟩ := hpp7
  obtain ⟨Aq82, cq82, Aq83, cq83, Aq84, cq84, Aq85, cq85, Aq86, cq86, Aq87, cq87, Aq88, cq88, Aq89, cq89, Aq810, cq810, rfl, lq81, hq82, hq83, hq84, hq85, hq86, hq87, hq88, hq89, hq810⟩ := RModule.open hdq8
  replace s := s.ns 111 hq82
  replace s := s.ns 112 hq83
  replace s := s.ns 113 hq84
  replace s := s.ns 114 hq85
  replace s := s.ns 115 hq86
  replace s := s.ns 116 hq87
  replace s := s.ns 117 hq88
  replace s := s.ns 118 hq89
  replace s := s.ns 119 hq810
  refine qq s rfl (y_ldp1 s rfl hlq8 hmq8 (hcq8 0 _ rfl) underlying9 rfl) fun a s => ?_
  refine mv s rfl rfl fun a s => ?_
  refine qq s rfl (y_seq s rfl rfl) fun a s => ?_
  apply wN
  refine c_dec s rfl (fun hc9 => ?_) (fun hc9 => ?_)
  ·replace hg := br_t hg hc9
   apply wR
   refine mv s rfl rfl fun a s => ?_
   refine asg s rfl rfl fun a s => ?_
   apply wN
   apply wp_ret
   refine p_inR ?_
   refine p_thenR ?_
   refine p_thenR ?_
   refine p_inR ?_
   refine p_thenR ?_
   obtain rfl := Option.some.inj hg
   refine fin1 (fn := Tryz.f28) s rfl (r_tmp s rfl) ?_
   exact rfl
  replace hg := br_f hg hc9
  apply wp_skip
  refine p_inN ?_
  apply pN
  apply wL
  refine mv s rfl rfl fun a s => ?_
  refine qq s rfl (y_addN (i := i_1) (j := 1) s rfl rfl (in64.2 (by omega))) fun a s => ?_
  refine asg s rfl rfl fun a s => ?_
  apply wN
  exact ⟨m1, Nat.lt_succ_self _, ⟨(i_1 + 1), hg, (s.sb rfl rfl rfl)⟩⟩
 replace hg := br_f hg hc2
 apply wp_exit
 refine p_then ?_
 refine p_then ?_
 refine p_in ?_
 apply pN
 apply wR
 refine asg s rfl rfl fun a s => ?_
 apply wN
 apply wp_ret
 obtain rfl := Option.some.inj hg
 refine fin1 (fn := Tryz.f28) s rfl (r_tmp s rfl) ?_
 exact rfl
set_option maxHeartbeats 1000000 in
theorem c_r22_has (n : Nat) (M : Bs) (w0 : World) (hM : ∀ b, M b → b < w0.heap.size) (l_ : (List (List UInt8))) (Ap01 : Option Addr) (cp01 : Nat) (hp01 : SlR Rep.str M w0 Ap01 (l_).length cp01 (l_)) (s_ : (List UInt8)) (lp11 : (s_).length ≤ 9223372036854775807) (r : Bool) (hg : r22_has n l_ s_ = some r) :
    Calls Tryz.prog 47 [.slice (Ap01) ((l_).length) (cp01), .string (bs (s_))].toArray w0 (Ret noB w0 fun v w => v = .bool (r)) := by
 unfold r22_has at hg
 refine enter M noB func47 rfl rfl hM ?_
 intro a s
 replace s := s.es 101 hp01
 apply wR
 refine asg s rfl rfl fun a s => ?_
 apply wN
 apply wQ
 apply wR
 refine asg s rfl rfl fun a s => ?_
 apply wN
 apply wp_block
 refine c_loop (σ := Nat) (fun m1 a w => ∃ (i_1 : Nat), r22_has_L0 n l_ s_ m1 i_1 = some r ∧ St (cx f47 M w0) [(0, sl Ap01 l_ cp01), (1, vT s_), (5, vI (((i_1 : Nat) : Int)))] [] [(101, sF Rep.str Ap01 cp01 l_)] a w) (fun m1 => m1) n ⟨(0), hg, (s.sb rfl rfl rfl)⟩ ?_
 clear s a; rintro m1 a w ⟨i_1, hg, s⟩
 rcases m1 with _ | m1
 ·rw [r22_has_L0] at hg; cases hg
 rw [r22_has_L0] at hg
 apply wQ
 apply wR
 refine mv s rfl rfl fun a s => ?_
 refine mv s rfl rfl fun a s => ?_
 refine qq s rfl (y_lenSlice s rfl underlying25) fun a s => ?_
 refine qq s rfl (y_lssN (i := i_1) (j := ((l_).length)) s rfl rfl) fun a s => ?_
 apply wN
 refine c_dec s rfl (fun hc2 => ?_) (fun hc2 => ?_)
 ·replace hg := br_t hg hc2
  have hmx3 := SlR.mx (s.ft 101 rfl)
  apply wp_skip
  apply pN
  apply wQ
  apply wp_block
  apply wQ
  obtain ⟨x5, hx5, hg⟩ := bind_some hg
  apply wL
  refine mv s rfl rfl fun a s => ?_
  refine mv s rfl rfl fun a s => ?_
  obtain ⟨p7, hep7, hpp7⟩ := SlR.elemX (s.ft 101 rfl) hx5
  refine qq s rfl (y_elem (sz := 1) (i := i_1) s rfl rfl underlying25 rfl hep7 rfl (lt_of_get hx5)) fun a s => ?_
  obtain ⟨hlq8, hmq8, csq8, hdq8, hcq8⟩ := hpp7
  obtain ⟨rfl, lq81⟩ := hdq8
  refine qq s rfl (y_ldp1 s rfl hlq8 hmq8 (hcq8 0 _ rfl) underlying9 rfl) fun a s => ?_
  refine mv s rfl rfl fun a s => ?_
  refine qq s rfl (y_seq s rfl rfl) fun a s => ?_
  apply wN
  refine c_dec s rfl (fun hc9 => ?_) (fun hc9 => ?_)
  ·replace hg := br_t hg hc9
   apply wR
   refine asg s rfl rfl fun a s => ?_
   apply wN
   apply wp_ret
   refine p_inR ?_
   refine p_thenR ?_
   refine p_thenR ?_
   refine p_inR ?_
   refine p_thenR ?_
   obtain rfl := Option.some.inj hg
   refine fin1 (fn := Tryz.f47) s rfl (r_tmp s rfl) ?_
   exact rfl
  replace hg := br_f hg hc9
  apply wp_skip
  refine p_inN ?_
  apply pN
  apply wL
  refine mv s rfl rfl fun a s => ?_
  refine qq s rfl (y_addN (i := i_1) (j := 1) s rfl rfl (in64.2 (by omega))) fun a s => ?_
  refine asg s rfl rfl fun a s => ?_
  apply wN
  exact ⟨m1, Nat.lt_succ_self _, ⟨(i_1 + 1), hg, (s.sb rfl rfl rfl)⟩⟩
 replace hg := br_f hg hc2
 apply wp_exit
 refine p_then ?_
 refine p_then ?_
 refine p_in ?_
 apply pN
 apply wR
 refine asg s rfl rfl fun a s => ?_
 apply wN
 apply wp_ret
 obtain rfl := Option.some.inj hg
 refine fin1 (fn := Tryz.f47) s rfl (r_tmp s rfl) ?_
 exact rfl
set_option maxHeartbeats 1000000 in
theorem c_r22_Needs (n : Nat) (M : Bs) (w0 : World) (hM : ∀ b, M b → b < w0.heap.size) (l_ : (List Module)) (Ap01 : Option Addr) (cp01 : Nat) (hp01 : SlR RModule M w0 Ap01 (l_).length cp01 (l_)) (name_ : (List UInt8)) (lp11 : (name_).length ≤ 9223372036854775807) (r : (List (List UInt8))) (hg : r22_Needs n l_ name_ = some r) :
    Calls Tryz.prog 21 [.slice (Ap01) ((l_).length) (cp01), .string (bs (name_))].toArray w0 (Ret noB w0 fun v w => ∃ (Aa1 : Option Addr), ∃ (ca1 : Nat), v = .slice (Aa1) ((r).length) (ca1) ∧ (SlR Rep.str M w Aa1 (r).length ca1 (r))) := by
 unfold r22_Needs at hg
 refine enter M noB func21 rfl rfl hM ?_
 intro a s
 replace s := s.es 101 hp01
 apply wR
 refine asg s rfl rfl fun a s => ?_
 apply wN
 apply wR
 refine mv s rfl rfl fun a s => ?_
 refine l_seq rfl (l_buildDense (sz := 1) s 1101 rfl rfl rfl underlying25 rfl rfl rfl rfl rfl rfl rfl fun b2 a w hbb2 hK s => ?_)
 clear hbb2
 refine asg s rfl rfl fun a s => ?_
 apply wN
 apply wQ
 apply wR
 refine asg s rfl rfl fun a s => ?_
 apply wN
 apply wp_block
 replace s := s.add 104 (rdF Rep.str (cellsOfL [vT name_]) ([name_])) (RdAll.cons (by exact ⟨rfl, (by omega)⟩) (RdAll.nil _ _ _))
 replace s := s.al 103 104 rfl
 replace s := s.pk [(700102, 1101)] (by decide)
 refine c_loop (σ := Nat) (fun m1 a w => ∃ (out_3 : (List (List UInt8))) (i_7 : Nat) (A4 : Option Addr) (c5 : Nat) (cs6 : List Value), r22_Needs_L0 n l_ m1 out_3 i_7 = some r ∧ St (cx f21 M w0) [(0, sl Ap01 l_ cp01), (5, sl A4 out_3 c5), (6, vI (((i_7 : Nat) : Int)))] [(700102, Ob.row (A4) ((out_3).length) (c5) 9 1 (cs6))] [(101, sF RModule Ap01 cp01 l_), (103, rdF Rep.str (cs6) (out_3))] a w) (fun m1 => m1) n ⟨([name_]), (0), (some ⟨b2, 0, none⟩), (1), (cellsOfL [vT name_]), hg, (s.sb rfl rfl rfl)⟩ ?_
 clear s a; rintro m1 a w ⟨out_3, i_7, A4, c5, cs6, hg, s⟩
 rcases m1 with _ | m1
 ·rw [r22_Needs_L0] at hg; cases hg
 rw [r22_Needs_L0] at hg
 apply wQ
 apply wR
 refine mv s rfl rfl fun a s => ?_
 refine mv s rfl rfl fun a s => ?_
 refine qq s rfl (y_lenSlice s rfl underlying25) fun a s => ?_
 refine qq s rfl (y_lssN (i := i_7) (j := ((out_3).length)) s rfl rfl) fun a s => ?_
 apply wN
 refine c_dec s rfl (fun hc8 => ?_) (fun hc8 => ?_)
 ·replace hg := br_t hg hc8
  have hmx9 := row_mx (s.wd.holds 700102 _ rfl)
  apply wp_skip
  apply pN
  apply wQ
  obtain ⟨k10, hg, hk10⟩ := jn_some hg
  refine c_post (fun a w => ∃ (out_11 : (List (List UInt8))) (A12 : Option Addr) (c13 : Nat) (cs14 : List Value), k10 out_11 = some r ∧ St (cx f21 M w0) [(0, sl Ap01 l_ cp01), (5, sl A12 out_11 c13), (6, vI (((i_7 : Nat) : Int)))] [(700105, Ob.row (A12) ((out_11).length) (c13) 9 1 (cs14))] [(101, sF RModule Ap01 cp01 l_), (106, rdF Rep.str (cs14) (out_11))] a w) ?_ ?_
  ·apply wp_block
   apply wQ
   obtain ⟨x16, hx16, hg⟩ := bind_some hg
   obtain ⟨r18, hr18, hg⟩ := bind_some hg
   apply wL
   refine mv s rfl rfl fun a s => ?_
   refine mv s rfl rfl fun a s => ?_
   refine mv s rfl rfl fun a s => ?_
   obtain ⟨hiq21, bq21, hAq21⟩ := SlR.row1 (s.wd.holds 700102 _ rfl) (s.ft 103 rfl) rfl rfl hx16
   refine qq s rfl (y_rowIndex (sz := 1) (i := i_7) s rfl rfl underlying25 rfl hAq21 rfl hiq21) fun a s => ?_
   have hz22 := (s.ft 103 rfl).at_ _ _ hx16
   obtain ⟨ez22, lz221⟩ := hz22
   refine qq s rfl (y_loadRow1 (kk := 700102) s rfl rfl hAq21 (take1 ez22) underlying9 rfl) fun a s => ?_
   refine lc s rfl func28 (by kernel_rfl) (c_r22_find n _ _ s.lt _ _ _ (s.ft 101 rfl) _ (by omega) _ hr18) fun v23 a w hK hp s => ?_
   obtain rfl := hp
   refine asg s rfl rfl fun a s => ?_
   apply wN
   apply wQ
   apply wR
   refine mv s rfl rfl fun a s => ?_
   refine qq s rfl (y_lss s rfl rfl) fun a s => ?_
   apply wN
   refine c_dec s rfl (fun hc25 => ?_) (fun hc25 => ?_)
   ·replace hg := br_t hg hc25
    apply wp_exit
    refine p_then ?_
    refine p_in ?_
    apply pN
    replace s := s.al 106 103 rfl
    replace s := s.pk [(700105, 700102)] (by decide)
    exact ⟨(out_3), (A4), (c5), (cs6), hg, (s.sb rfl rfl rfl)⟩
   replace hg := br_f hg hc25
   apply wp_skip
   apply pN
   apply wR
   refine asg s rfl rfl fun a s => ?_
   apply wN
   apply wp_block
   replace s := s.al 108 103 rfl
   replace s := s.pk [(700107, 700102)] (by decide)
   refine c_loop (σ := Nat) (fun m2 a w => ∃ (out_26 : (List (List UInt8))) (m_30 : Nat) (A27 : Option Addr) (c28 : Nat) (cs29 : List Value), r22_Needs_L1 n l_ k10 r18 m2 out_26 m_30 = some r ∧ St (cx f21 M w0) [(0, sl Ap01 l_ cp01), (5, sl A27 out_26 c28), (6, vI (((i_7 : Nat) : Int))), (7, vI r18), (8, vI (((m_30 : Nat) : Int)))] [(700107, Ob.row (A27) ((out_26).length) (c28) 9 1 (cs29))] [(101, sF RModule Ap01 cp01 l_), (108, rdF Rep.str (cs29) (out_26))] a w) (fun m2 => m2) n ⟨(out_3), (0), (A4), (c5), (cs6), hg, (s.sb rfl rfl rfl)⟩ ?_
   clear s a; rintro m2 a w ⟨out_26, m_30, A27, c28, cs29, hg, s⟩
   rcases m2 with _ | m2
   ·rw [r22_Needs_L1] at hg; cases hg
   rw [r22_Needs_L1] at hg
   apply wQ
   apply wQ
   obtain ⟨x32, hx32, hg⟩ := bind_some hg
   apply wL
   refine mv s rfl rfl fun a s => ?_
   refine mv s rfl rfl fun a s => ?_
   refine mv s rfl rfl fun a s => ?_
   obtain ⟨p34, hep34, hpp34⟩ := SlR.elemX (s.ft 101 rfl) (ix_some hx32).1
   refine qq s rfl (y_elem (sz := 10) (i := ((r18).toNat)) s rfl rfl underlying22 rfl hep34 (ix_some hx32).2.1 (lt_of_get (ix_some hx32).1)) fun a s => ?_
   refine qq s rfl (y_ptrField (o' := 1) s rfl underlying38 rfl rfl rfl) fun a s => ?_
   obtain ⟨hlq35, hmq35, csq35, hdq35, hcq35⟩ := hpp34
   obtain ⟨Aq352, cq352, Aq353, cq353, Aq354, cq354, Aq355, cq355, Aq356, cq356, Aq357, cq357, Aq358, cq358, Aq359, cq359, Aq3510, cq3510, rfl, lq351, hq352, hq353, hq354, hq355, hq356, hq357, hq358, hq359, hq3510⟩ := RModule.open hdq35
   replace s := s.ns 118 hq352
   replace s := s.ns 119 hq353
   replace s := s.ns 120 hq354
   replace s := s.ns 121 hq355
   replace s := s.ns 122 hq356
   replace s := s.ns 123 hq357
   replace s := s.ns 124 hq358
   replace s := s.ns 125 hq359
   replace s := s.ns 126 hq3510
   refine qq s rfl (y_ldp1 s rfl hlq35 hmq35 (hcq35 1 _ rfl) underlying25 rfl) fun a s => ?_
   refine qq s rfl (y_lenSlice s rfl underlying25) fun a s => ?_
   refine qq s rfl (y_lssN (i := m_30) (j := ((x32.Imports).length)) s rfl rfl) fun a s => ?_
   apply wN
   refine c_dec s rfl (fun hc36 => ?_) (fun hc36 => ?_)
   ·replace hg := br_t hg hc36
    have hmx37 := SlR.mx (s.ft 118 rfl)
    apply wp_skip
    apply pN
    apply wQ
    apply wp_block
    apply wQ
    obtain ⟨x41, hx41, hg⟩ := bind_some hg
    obtain ⟨r43, hr43, hg⟩ := bind_some hg
    apply wL
    refine mv s rfl rfl fun a s => ?_
    refine mv s rfl rfl fun a s => ?_
    refine mv s rfl rfl fun a s => ?_
    obtain ⟨p46, hep46, hpp46⟩ := SlR.elemX (s.ft 101 rfl) (ix_some hx32).1
    refine qq s rfl (y_elem (sz := 10) (i := ((r18).toNat)) s rfl rfl underlying22 rfl hep46 (ix_some hx32).2.1 (lt_of_get (ix_some hx32).1)) fun a s => ?_
    refine qq s rfl (y_ptrField (o' := 1) s rfl underlying38 rfl rfl rfl) fun a s => ?_
    obtain ⟨hlq47, hmq47, csq47, hdq47, hcq47⟩ := hpp46
    obtain ⟨Aq472, cq472, Aq473, cq473, Aq474, cq474, Aq475, cq475, Aq476, cq476, Aq477, cq477, Aq478, cq478, Aq479, cq479, Aq4710, cq4710, rfl, lq471, hq472, hq473, hq474, hq475, hq476, hq477, hq478, hq479, hq4710⟩ := RModule.open hdq47
    replace s := s.ns 137 hq472
    replace s := s.ns 138 hq473
    replace s := s.ns 139 hq474
    replace s := s.ns 140 hq475
    replace s := s.ns 141 hq476
    replace s := s.ns 142 hq477
    replace s := s.ns 143 hq478
    replace s := s.ns 144 hq479
    replace s := s.ns 145 hq4710
    refine qq s rfl (y_ldp1 s rfl hlq47 hmq47 (hcq47 1 _ rfl) underlying25 rfl) fun a s => ?_
    refine mv s rfl rfl fun a s => ?_
    obtain ⟨p48, hep48, hpp48⟩ := SlR.elemX (s.ft 137 rfl) hx41
    refine qq s rfl (y_elem (sz := 1) (i := m_30) s rfl rfl underlying25 rfl hep48 rfl (lt_of_get hx41)) fun a s => ?_
    obtain ⟨hlq49, hmq49, csq49, hdq49, hcq49⟩ := hpp48
    obtain ⟨rfl, lq491⟩ := hdq49
    refine qq s rfl (y_ldp1 s rfl hlq49 hmq49 (hcq49 0 _ rfl) underlying9 rfl) fun a s => ?_
    have hT := s
    replace hT := hT.fz (R := Rep.str) (kk := 700107) [] 146 rfl rfl (hT.ft 108 rfl) rfl
    refine lc s rfl func47 (by kernel_rfl) (c_r22_has n _ _ hT.lt _ _ _ (hT.ft 146 rfl) _ (by omega) _ hr43) fun v50 a w hK hp s => ?_
    obtain rfl := hp
    refine qq s rfl (y_not s rfl) fun a s => ?_
    apply wN
    refine c_cond s rfl (fun hc52 => ?_) (fun hc52 => ?_)
    ·replace hg := br_t hg hc52
     obtain ⟨hk58, hg⟩ := chk_some hg
     apply wL
     refine mv s rfl rfl fun a s => ?_
     refine mv s rfl rfl fun a s => ?_
     refine mv s rfl rfl fun a s => ?_
     obtain ⟨p61, hep61, hpp61⟩ := SlR.elemX (s.ft 101 rfl) (ix_some hx32).1
     refine qq s rfl (y_elem (sz := 10) (i := ((r18).toNat)) s rfl rfl underlying22 rfl hep61 (ix_some hx32).2.1 (lt_of_get (ix_some hx32).1)) fun a s => ?_
     refine qq s rfl (y_ptrField (o' := 1) s rfl underlying38 rfl rfl rfl) fun a s => ?_
     obtain ⟨hlq62, hmq62, csq62, hdq62, hcq62⟩ := hpp61
     obtain ⟨Aq622, cq622, Aq623, cq623, Aq624, cq624, Aq625, cq625, Aq626, cq626, Aq627, cq627, Aq628, cq628, Aq629, cq629, Aq6210, cq6210, rfl, lq621, hq622, hq623, hq624, hq625, hq626, hq627, hq628, hq629, hq6210⟩ := RModule.open hdq62
     replace s := s.ns 158 hq622
     replace s := s.ns 159 hq623
     replace s := s.ns 160 hq624
     replace s := s.ns 161 hq625
     replace s := s.ns 162 hq626
     replace s := s.ns 163 hq627
     replace s := s.ns 164 hq628
     replace s := s.ns 165 hq629
     replace s := s.ns 166 hq6210
     refine qq s rfl (y_ldp1 s rfl hlq62 hmq62 (hcq62 1 _ rfl) underlying25 rfl) fun a s => ?_
     refine mv s rfl rfl fun a s => ?_
     obtain ⟨p63, hep63, hpp63⟩ := SlR.elemX (s.ft 158 rfl) hx41
     refine qq s rfl (y_elem (sz := 1) (i := m_30) s rfl rfl underlying25 rfl hep63 rfl (lt_of_get hx41)) fun a s => ?_
     obtain ⟨hlq64, hmq64, csq64, hdq64, hcq64⟩ := hpp63
     obtain ⟨rfl, lq641⟩ := hdq64
     refine qq s rfl (y_ldp1 s rfl hlq64 hmq64 (hcq64 0 _ rfl) underlying9 rfl) fun a s => ?_
     refine l_seq rfl (l_buildDense (sz := 1) s 2109 rfl rfl rfl underlying25 rfl rfl rfl rfl rfl rfl rfl fun b65 a w hbb65 hK s => ?_)
     clear hbb65
     replace s := s.add 167 (rdF Rep.str (cellsOfL [vT x41]) ([x41])) (RdAll.cons (by exact ⟨rfl, (by omega)⟩) (RdAll.nil _ _ _))
     have hs67 := row_src (s.wd.holds 2109 _ rfl) (RdAll.one (s.ft 167 rfl))
     refine l_seq rfl (l_append (sz := 1) (by_ := 16) (N := (out_26 ++ [x41]).length) s 700107 rfl rfl rfl underlying25 rfl rfl rfl rfl rfl hs67 (by rw [List.length_append]; try rfl) rfl (rmA hk58 rfl) (rmB hk58) rfl fun Aq66 cq66 a w hA hK s => ?_)
     replace s := s.add 168 (rdF Rep.str (cs29 ++ (cellsOfL [vT x41])) (out_26 ++ [x41])) (RdAll.append (s.ft 108 rfl) (s.ft 167 rfl))
     refine asg s rfl rfl fun a s => ?_
     apply wO
     refine p_inN ?_
     apply pN
     apply wL
     refine mv s rfl rfl fun a s => ?_
     refine qq s rfl (y_addN (i := m_30) (j := 1) s rfl rfl (in64.2 (by omega))) fun a s => ?_
     refine asg s rfl rfl fun a s => ?_
     apply wN
     replace s := s.al 108 168 rfl
     exact ⟨m2, Nat.lt_succ_self _, ⟨(out_26 ++ [x41]), (m_30 + 1), (Aq66), (cq66), (cs29 ++ (cellsOfL [vT x41])), hg, (s.sb rfl rfl rfl)⟩⟩
    replace hg := br_n hg hc52
    apply wp_skip
    refine p_inN ?_
    apply pN
    apply wL
    refine mv s rfl rfl fun a s => ?_
    refine qq s rfl (y_addN (i := m_30) (j := 1) s rfl rfl (in64.2 (by omega))) fun a s => ?_
    refine asg s rfl rfl fun a s => ?_
    apply wN
    replace s := s.al 108 108 rfl
    exact ⟨m2, Nat.lt_succ_self _, ⟨(out_26), (m_30 + 1), (A27), (c28), (cs29), hg, (s.sb rfl rfl rfl)⟩⟩
   replace hg := br_f hg hc36
   apply wp_exit
   refine p_then ?_
   refine p_then ?_
   refine p_in ?_
   refine p_inN ?_
   apply pN
   replace s := s.al 106 108 rfl
   replace s := s.pk [(700105, 700107)] (by decide)
   exact ⟨(out_26), (A27), (c28), (cs29), hg, (s.sb rfl rfl rfl)⟩
  clear s a; rintro a w ⟨out_11, A12, c13, cs14, hg, s⟩
  subst hk10
  apply wL
  refine mv s rfl rfl fun a s => ?_
  refine qq s rfl (y_addN (i := i_7) (j := 1) s rfl rfl (in64.2 (by omega))) fun a s => ?_
  refine asg s rfl rfl fun a s => ?_
  apply wN
  replace s := s.al 103 106 rfl
  replace s := s.pk [(700102, 700105)] (by decide)
  exact ⟨m1, Nat.lt_succ_self _, ⟨(out_11), (i_7 + 1), (A12), (c13), (cs14), hg, (s.sb rfl rfl rfl)⟩⟩
 replace hg := br_f hg hc8
 apply wp_exit
 refine p_then ?_
 refine p_then ?_
 refine p_in ?_
 apply pN
 apply wR
 refine mv s rfl rfl fun a s => ?_
 refine asg s rfl rfl fun a s => ?_
 apply wN
 apply wp_ret
 obtain rfl := Option.some.inj hg
 refine fin1 (fn := Tryz.f21) s rfl (r_tmp s rfl) ?_
 exact ⟨(A4), (c5), rfl, (s.rowOut (R := Rep.str) (kk := 700102) rfl rfl (s.ft 103 rfl))⟩
set_option maxHeartbeats 1000000 in
theorem c_r22_cyclic (n : Nat) (M : Bs) (w0 : World) (hM : ∀ b, M b → b < w0.heap.size) (l_ : (List Module)) (Ap01 : Option Addr) (cp01 : Nat) (hp01 : SlR RModule M w0 Ap01 (l_).length cp01 (l_)) (name_ : (List UInt8)) (lp11 : (name_).length ≤ 9223372036854775807) (r : Bool) (hg : r22_cyclic n l_ name_ = some r) :
    Calls Tryz.prog 29 [.slice (Ap01) ((l_).length) (cp01), .string (bs (name_))].toArray w0 (Ret noB w0 fun v w => v = .bool (r)) := by
 unfold r22_cyclic at hg
 refine enter M noB func29 rfl rfl hM ?_
 intro a s
 replace s := s.es 101 hp01
 apply wR
 refine asg s rfl rfl fun a s => ?_
 apply wN
 apply wQ
 obtain ⟨r1, hr1, hg⟩ := bind_some hg
 obtain ⟨x5, hx5, hg⟩ := bind_some hg
 apply wL
 refine mv s rfl rfl fun a s => ?_
 refine mv s rfl rfl fun a s => ?_
 refine mv s rfl rfl fun a s => ?_
 refine lc s rfl func28 (by kernel_rfl) (c_r22_find n _ _ s.lt _ _ _ (s.ft 101 rfl) _ (by omega) _ hr1) fun v8 a w hK hp s => ?_
 obtain rfl := hp
 obtain ⟨p10, hep10, hpp10⟩ := SlR.elemX (s.ft 101 rfl) (ix_some hx5).1
 refine qq s rfl (y_elem (sz := 10) (i := ((r1).toNat)) s rfl rfl underlying22 rfl hep10 (ix_some hx5).2.1 (lt_of_get (ix_some hx5).1)) fun a s => ?_
 obtain ⟨hlq11, hmq11, csq11, hdq11, hcq11⟩ := hpp10
 obtain ⟨Aq112, cq112, Aq113, cq113, Aq114, cq114, Aq115, cq115, Aq116, cq116, Aq117, cq117, Aq118, cq118, Aq119, cq119, Aq1110, cq1110, rfl, lq111, hq112, hq113, hq114, hq115, hq116, hq117, hq118, hq119, hq1110⟩ := RModule.open hdq11
 replace s := s.ns 111 hq112
 replace s := s.ns 112 hq113
 replace s := s.ns 113 hq114
 replace s := s.ns 114 hq115
 replace s := s.ns 115 hq116
 replace s := s.ns 116 hq117
 replace s := s.ns 117 hq118
 replace s := s.ns 118 hq119
 replace s := s.ns 119 hq1110
 refine qq s rfl (y_ldp s rfl hlq11 hmq11 (by simpa using hcq11) underlying38 rfl rfl) fun a s => ?_
 refine l_seq rfl (l_alloc (zs := [vT ([]), .slice none 0 0, .slice none 0 0, .slice none 0 0, .slice none 0 0, .slice none 0 0, .slice none 0 0, .slice none 0 0, .slice none 0 0, .slice none 0 0]) s 1106 rfl rfl rfl rfl fun b12 a w hb hK s => ?_)
 refine l_seq rfl (l_store (n := 10) (cs' := [vT x5.Name, sl Aq112 x5.Imports cq112, sl Aq113 x5.Types cq113, sl Aq114 x5.Templates cq114, sl Aq115 x5.Entries cq115, sl Aq116 x5.LexRules cq116, sl Aq117 x5.Rules cq117, sl Aq118 x5.Roots cq118, sl Aq119 x5.Checks cq119, sl Aq1110 x5.Drops cq1110]) s 1106 rfl rfl rfl rfl rfl rfl rfl rfl ?_); clear s; intro w hK s; clear hK
 apply wN
 apply wQ
 apply wR
 refine asg s rfl rfl fun a s => ?_
 apply wN
 apply wp_block
 refine c_loop (σ := Nat) (fun m1 a w => ∃ (i_13 : Nat), r22_cyclic_L0 n l_ name_ x5 m1 i_13 = some r ∧ St (cx f29 M w0) [(0, sl Ap01 l_ cp01), (1, vT name_), (5, vP b12 0), (6, vI (((i_13 : Nat) : Int)))] [(1106, Ob.box b12 [vT x5.Name, sl Aq112 x5.Imports cq112, sl Aq113 x5.Types cq113, sl Aq114 x5.Templates cq114, sl Aq115 x5.Entries cq115, sl Aq116 x5.LexRules cq116, sl Aq117 x5.Rules cq117, sl Aq118 x5.Roots cq118, sl Aq119 x5.Checks cq119, sl Aq1110 x5.Drops cq1110] 38)] [(101, sF RModule Ap01 cp01 l_), (111, sF Rep.str Aq112 cq112 x5.Imports), (112, sF RTypeDecl Aq113 cq113 x5.Types), (113, sF RDef Aq114 cq114 x5.Templates), (114, sF REntryDecl Aq115 cq115 x5.Entries), (115, sF RLexDecl Aq116 cq116 x5.LexRules), (116, sF RDef Aq117 cq117 x5.Rules), (117, sF RDef Aq118 cq118 x5.Roots), (118, sF (Rep.list Rep.str) Aq119 cq119 x5.Checks), (119, sF Rep.str Aq1110 cq1110 x5.Drops)] a w) (fun m1 => m1) n ⟨(0), hg, (s.sb rfl rfl rfl)⟩ ?_
 clear s a; rintro m1 a w ⟨i_13, hg, s⟩
 rcases m1 with _ | m1
 ·rw [r22_cyclic_L0] at hg; cases hg
 rw [r22_cyclic_L0] at hg
 apply wQ
 apply wR
 refine mv s rfl rfl fun a s => ?_
 refine qq s rfl (y_boxField (o' := 1) s rfl underlying38 rfl rfl rfl) fun a s => ?_
 refine qq s rfl (y_loadBox1 (kk := 1106) s rfl rfl rfl underlying25 rfl) fun a s => ?_
 refine qq s rfl (y_lenSlice s rfl underlying25) fun a s => ?_
 refine qq s rfl (y_lssN (i := i_13) (j := ((x5.Imports).length)) s rfl rfl) fun a s => ?_
 apply wN
 refine c_dec s rfl (fun hc14 => ?_) (fun hc14 => ?_)
 ·replace hg := br_t hg hc14
  have hmx15 := SlR.mx (s.ft 111 rfl)
  apply wp_skip
  apply pN
  apply wQ
  apply wp_block
  apply wQ
  obtain ⟨x17, hx17, hg⟩ := bind_some hg
  obtain ⟨r19, hr19, hg⟩ := bind_some hg
  obtain ⟨r22, hr22, hg⟩ := bind_some hg
  apply wL
  refine mv s rfl rfl fun a s => ?_
  refine qq s rfl (y_boxField (o' := 1) s rfl underlying38 rfl rfl rfl) fun a s => ?_
  refine qq s rfl (y_loadBox1 (kk := 1106) s rfl rfl rfl underlying25 rfl) fun a s => ?_
  refine mv s rfl rfl fun a s => ?_
  obtain ⟨p25, hep25, hpp25⟩ := SlR.elemX (s.ft 111 rfl) hx17
  refine qq s rfl (y_elem (sz := 1) (i := i_13) s rfl rfl underlying25 rfl hep25 rfl (lt_of_get hx17)) fun a s => ?_
  obtain ⟨hlq26, hmq26, csq26, hdq26, hcq26⟩ := hpp25
  obtain ⟨rfl, lq261⟩ := hdq26
  refine qq s rfl (y_ldp1 s rfl hlq26 hmq26 (hcq26 0 _ rfl) underlying9 rfl) fun a s => ?_
  refine lc s rfl func21 (by kernel_rfl) (c_r22_Needs n _ _ s.lt _ _ _ (s.ft 101 rfl) _ (by omega) _ hr19) fun v27 a w hK hp s => ?_
  obtain ⟨Au28a1, cu28a1, rfl, hu28a1⟩ := hp
  replace s := s.ns 121 hu28a1
  refine mv s rfl rfl fun a s => ?_
  refine lc s rfl func47 (by kernel_rfl) (c_r22_has n _ _ s.lt _ _ _ (s.ft 121 rfl) _ (by omega) _ hr22) fun v29 a w hK hp s => ?_
  obtain rfl := hp
  apply wN
  refine c_cond s rfl (fun hc31 => ?_) (fun hc31 => ?_)
  ·replace hg := br_t hg hc31
   apply wR
   refine asg s rfl rfl fun a s => ?_
   apply wN
   apply wp_ret
   refine p_inR ?_
   refine p_thenR ?_
   refine p_thenR ?_
   refine p_inR ?_
   refine p_thenR ?_
   obtain rfl := Option.some.inj hg
   refine fin1 (fn := Tryz.f29) s rfl (r_tmp s rfl) ?_
   exact rfl
  replace hg := br_n hg hc31
  apply wp_skip
  refine p_inN ?_
  apply pN
  apply wL
  refine mv s rfl rfl fun a s => ?_
  refine qq s rfl (y_addN (i := i_13) (j := 1) s rfl rfl (in64.2 (by omega))) fun a s => ?_
  refine asg s rfl rfl fun a s => ?_
  apply wN
  exact ⟨m1, Nat.lt_succ_self _, ⟨(i_13 + 1), hg, (s.sb rfl rfl rfl)⟩⟩
 replace hg := br_f hg hc14
 apply wp_exit
 refine p_then ?_
 refine p_then ?_
 refine p_in ?_
 apply pN
 apply wR
 refine asg s rfl rfl fun a s => ?_
 apply wN
 apply wp_ret
 obtain rfl := Option.some.inj hg
 refine fin1 (fn := Tryz.f29) s rfl (r_tmp s rfl) ?_
 exact rfl
set_option maxHeartbeats 1000000 in
theorem c_r22_visit (n : Nat) : ∀ (M : Bs) (w0 : World) (hM : ∀ b, M b → b < w0.heap.size) (C : Bs) (l_ : (List Module)) (Ap01 : Option Addr) (cp01 : Nat) (name_ : (List UInt8)) (lp11 : (name_).length ≤ 9223372036854775807) (out_ : (List (List UInt8))) (Ap21 : Option Addr) (cp21 : Nat) (csp20 : List Value) (hW : Wd ⟨0, M, C, w0⟩ [(9200000, Ob.row (Ap21) ((out_).length) (cp21) 9 1 (csp20))] [(9300000, rdF Rep.str (csp20) (out_)), (9400000, slF RModule (Ap01) ((l_).length) (cp01) (l_))] w0) (r : (List (List UInt8))) (hg : r22_visit n l_ name_ out_ = some r),
    Calls Tryz.prog 30 [.slice (Ap01) ((l_).length) (cp01), .string (bs (name_)), .slice (Ap21) ((out_).length) (cp21)].toArray w0 (Ret C w0 fun v w => ∃ (Ao : Option Addr), ∃ (co : Nat), ∃ (cso : List Value), v = .slice (Ao) ((r).length) (co) ∧ (Wd ⟨0, M, C, w0⟩ [(9200000, Ob.row (Ao) ((r).length) (co) 9 1 (cso))] [(9300000, rdF Rep.str (cso) (r))] w)) := by
 induction n with
 | zero => intros; rename_i hg; rw [r22_visit] at hg; cases hg
 | succ n c_self =>
 intro M w0 hM C l_ Ap01 cp01 name_ lp11 out_ Ap21 cp21 csp20 hW r hg
 rw [r22_visit] at hg
 refine enterL M C func30 rfl rfl hW ?_
 intro a s
 apply wR
 refine asg s rfl rfl fun a s => ?_
 apply wN
 apply wQ
 apply wQ
 obtain ⟨r1, hr1, hg⟩ := bind_some hg
 apply wL
 refine mv s rfl rfl fun a s => ?_
 refine mv s rfl rfl fun a s => ?_
 have hT := s
 replace hT := hT.fz (R := Rep.str) (kk := 9200000) [] 103 rfl rfl (hT.ft 9300000 rfl) rfl
 refine lc s rfl func47 (by kernel_rfl) (c_r22_has n _ _ hT.lt _ _ _ (hT.ft 103 rfl) _ (by omega) _ hr1) fun v4 a w hK hp s => ?_
 obtain rfl := hp
 apply wN
 refine c_cond s rfl (fun hc6 => ?_) (fun hc6 => ?_)
 ·replace hg := br_t hg hc6
  apply wR
  refine mv s rfl rfl fun a s => ?_
  refine asg s rfl rfl fun a s => ?_
  apply wN
  apply wp_ret
  refine p_thenR ?_
  replace s := s.al 9300000 9300000 rfl
  obtain rfl := Option.some.inj hg
  refine fin1 (fn := Tryz.f30) s rfl (r_tmp s rfl) ?_
  exact ⟨(Ap21), (cp21), (csp20), rfl, ((s.ren [(9200000, Ob.row (Ap21) ((out_).length) (cp21) 9 1 (csp20))] [9200000] ⟨rfl, trivial⟩ (by decide)).outL ⟨rfl, trivial⟩ ⟨rfl, trivial⟩)⟩
 replace hg := br_n hg hc6
 apply wp_skip
 apply pN
 apply wQ
 obtain ⟨r7, hr7, hg⟩ := bind_some hg
 obtain ⟨x11, hx11, hg⟩ := bind_some hg
 apply wL
 refine mv s rfl rfl fun a s => ?_
 refine mv s rfl rfl fun a s => ?_
 refine mv s rfl rfl fun a s => ?_
 refine lc s rfl func28 (by kernel_rfl) (c_r22_find n _ _ s.lt _ _ _ (s.ft 9400000 rfl) _ (by omega) _ hr7) fun v14 a w hK hp s => ?_
 obtain rfl := hp
 obtain ⟨p16, hep16, hpp16⟩ := SlR.elemX (s.ft 9400000 rfl) (ix_some hx11).1
 refine qq s rfl (y_elem (sz := 10) (i := ((r7).toNat)) s rfl rfl underlying22 rfl hep16 (ix_some hx11).2.1 (lt_of_get (ix_some hx11).1)) fun a s => ?_
 obtain ⟨hlq17, hmq17, csq17, hdq17, hcq17⟩ := hpp16
 obtain ⟨Aq172, cq172, Aq173, cq173, Aq174, cq174, Aq175, cq175, Aq176, cq176, Aq177, cq177, Aq178, cq178, Aq179, cq179, Aq1710, cq1710, rfl, lq171, hq172, hq173, hq174, hq175, hq176, hq177, hq178, hq179, hq1710⟩ := RModule.open hdq17
 replace s := s.ns 113 hq172
 replace s := s.ns 114 hq173
 replace s := s.ns 115 hq174
 replace s := s.ns 116 hq175
 replace s := s.ns 117 hq176
 replace s := s.ns 118 hq177
 replace s := s.ns 119 hq178
 replace s := s.ns 120 hq179
 replace s := s.ns 121 hq1710
 refine qq s rfl (y_ldp s rfl hlq17 hmq17 (by simpa using hcq17) underlying38 rfl rfl) fun a s => ?_
 refine l_seq rfl (l_alloc (zs := [vT ([]), .slice none 0 0, .slice none 0 0, .slice none 0 0, .slice none 0 0, .slice none 0 0, .slice none 0 0, .slice none 0 0, .slice none 0 0, .slice none 0 0]) s 1306 rfl rfl rfl rfl fun b18 a w hb hK s => ?_)
 refine l_seq rfl (l_store (n := 10) (cs' := [vT x11.Name, sl Aq172 x11.Imports cq172, sl Aq173 x11.Types cq173, sl Aq174 x11.Templates cq174, sl Aq175 x11.Entries cq175, sl Aq176 x11.LexRules cq176, sl Aq177 x11.Rules cq177, sl Aq178 x11.Roots cq178, sl Aq179 x11.Checks cq179, sl Aq1710 x11.Drops cq1710]) s 1306 rfl rfl rfl rfl rfl rfl rfl rfl ?_); clear s; intro w hK s; clear hK
 apply wN
 apply wQ
 apply wR
 refine asg s rfl rfl fun a s => ?_
 apply wN
 obtain ⟨k19, hg, hk19⟩ := jn_some hg
 refine c_post (fun a w => ∃ (out_20 : (List (List UInt8))) (A21 : Option Addr) (c22 : Nat) (cs23 : List Value), k19 out_20 = some r ∧ St (⟨Tryz.f30.ntmps, M, C, w0⟩ : Ctx) [(1, vT name_), (2, sl A21 out_20 c22)] [(700122, Ob.row (A21) ((out_20).length) (c22) 9 1 (cs23))] [(123, rdF Rep.str (cs23) (out_20))] a w) ?_ ?_
 ·apply wp_block
  replace s := s.al 125 9300000 rfl
  replace s := s.pk [(1306, 1306), (700124, 9200000)] (by decide)
  refine c_loop (σ := Nat) (fun m1 a w => ∃ (out_24 : (List (List UInt8))) (i_28 : Nat) (A25 : Option Addr) (c26 : Nat) (cs27 : List Value), r22_visit_L0 n l_ (r22_visit n) x11 k19 m1 out_24 i_28 = some r ∧ St (⟨Tryz.f30.ntmps, M, C, w0⟩ : Ctx) [(0, sl Ap01 l_ cp01), (1, vT name_), (2, sl A25 out_24 c26), (7, vP b18 0), (8, vI (((i_28 : Nat) : Int)))] [(1306, Ob.box b18 [vT x11.Name, sl Aq172 x11.Imports cq172, sl Aq173 x11.Types cq173, sl Aq174 x11.Templates cq174, sl Aq175 x11.Entries cq175, sl Aq176 x11.LexRules cq176, sl Aq177 x11.Rules cq177, sl Aq178 x11.Roots cq178, sl Aq179 x11.Checks cq179, sl Aq1710 x11.Drops cq1710] 38), (700124, Ob.row (A25) ((out_24).length) (c26) 9 1 (cs27))] [(113, sF Rep.str Aq172 cq172 x11.Imports), (114, sF RTypeDecl Aq173 cq173 x11.Types), (115, sF RDef Aq174 cq174 x11.Templates), (116, sF REntryDecl Aq175 cq175 x11.Entries), (117, sF RLexDecl Aq176 cq176 x11.LexRules), (118, sF RDef Aq177 cq177 x11.Rules), (119, sF RDef Aq178 cq178 x11.Roots), (120, sF (Rep.list Rep.str) Aq179 cq179 x11.Checks), (121, sF Rep.str Aq1710 cq1710 x11.Drops), (125, rdF Rep.str (cs27) (out_24)), (9400000, sF RModule Ap01 cp01 l_)] a w) (fun m1 => m1) n ⟨(out_), (0), (Ap21), (cp21), (csp20), hg, (s.sb rfl rfl rfl)⟩ ?_
  clear s a; rintro m1 a w ⟨out_24, i_28, A25, c26, cs27, hg, s⟩
  rcases m1 with _ | m1
  ·rw [r22_visit_L0] at hg; cases hg
  rw [r22_visit_L0] at hg
  apply wQ
  apply wR
  refine mv s rfl rfl fun a s => ?_
  refine qq s rfl (y_boxField (o' := 1) s rfl underlying38 rfl rfl rfl) fun a s => ?_
  refine qq s rfl (y_loadBox1 (kk := 1306) s rfl rfl rfl underlying25 rfl) fun a s => ?_
  refine qq s rfl (y_lenSlice s rfl underlying25) fun a s => ?_
  refine qq s rfl (y_lssN (i := i_28) (j := ((x11.Imports).length)) s rfl rfl) fun a s => ?_
  apply wN
  refine c_dec s rfl (fun hc29 => ?_) (fun hc29 => ?_)
  ·replace hg := br_t hg hc29
   have hmx30 := SlR.mx (s.ft 113 rfl)
   apply wp_skip
   apply pN
   apply wQ
   apply wp_block
   obtain ⟨x32, hx32, hg⟩ := bind_some hg
   obtain ⟨r34, hr34, hg⟩ := bind_some hg
   apply wL
   refine mv s rfl rfl fun a s => ?_
   refine qq s rfl (y_boxField (o' := 1) s rfl underlying38 rfl rfl rfl) fun a s => ?_
   refine qq s rfl (y_loadBox1 (kk := 1306) s rfl rfl rfl underlying25 rfl) fun a s => ?_
   refine mv s rfl rfl fun a s => ?_
   obtain ⟨p37, hep37, hpp37⟩ := SlR.elemX (s.ft 113 rfl) hx32
   refine qq s rfl (y_elem (sz := 1) (i := i_28) s rfl rfl underlying25 rfl hep37 rfl (lt_of_get hx32)) fun a s => ?_
   obtain ⟨hlq38, hmq38, csq38, hdq38, hcq38⟩ := hpp37
   obtain ⟨rfl, lq381⟩ := hdq38
   refine qq s rfl (y_ldp1 s rfl hlq38 hmq38 (hcq38 0 _ rfl) underlying9 rfl) fun a s => ?_
   refine mv s rfl rfl fun a s => ?_
   have hT := s.pk [(1306, 1306), (9200000, 700124)] (by decide)
   replace hT := hT.al 9300000 125 rfl
   replace hT := hT.al 9400000 9400000 rfl
   refine l_seq rfl (l_callMut (cap := []) hT _ [] (sbA (by rfl)) trivial (by rfl) rfl func30 rfl (by kernel_rfl) rfl rfl (c_self _ _ (hT.restLt [1306]) _ l_ (Ap01) (cp01) x32 (by omega) out_24 (A25) (c26) (cs27) (hT.wd.lendL _ _ _ (sbA (by rfl)) (keep_sub [1306]) (by rfl) (sbA (by rfl))) r34 hr34) ?_); intro v39 a' w' hK hp hF
   obtain ⟨Aou40, cou40, csou40, rfl, hWu40⟩ := hp
   have hS2 := St.mk hF (hT.wd.back (sbA (by rfl)) (keep_sub [1306]) (by rfl) hWu40 (by rfl))
   clear s hT hF hWu40 hK; revert hS2; revert w'; revert a'; intro a w s
   replace s := s.al 127 9300000 rfl
   replace s := s.ren [(1306, Ob.box b18 [vT x11.Name, sl Aq172 x11.Imports cq172, sl Aq173 x11.Types cq173, sl Aq174 x11.Templates cq174, sl Aq175 x11.Entries cq175, sl Aq176 x11.LexRules cq176, sl Aq177 x11.Rules cq177, sl Aq178 x11.Roots cq178, sl Aq179 x11.Checks cq179, sl Aq1710 x11.Drops cq1710] 38), (700124, Ob.row (Aou40) ((r34).length) (cou40) 9 1 (csou40))] [1306, 9200000] ⟨rfl, rfl, trivial⟩ (by decide)
   refine asg s rfl rfl fun a s => ?_
   apply wO
   refine p_inN ?_
   apply pN
   apply wL
   refine mv s rfl rfl fun a s => ?_
   refine qq s rfl (y_addN (i := i_28) (j := 1) s rfl rfl (in64.2 (by omega))) fun a s => ?_
   refine asg s rfl rfl fun a s => ?_
   apply wN
   replace s := s.al 125 127 rfl
   exact ⟨m1, Nat.lt_succ_self _, ⟨(r34), (i_28 + 1), (Aou40), (cou40), (csou40), hg, (s.sb rfl rfl rfl)⟩⟩
  replace hg := br_f hg hc29
  apply wp_exit
  refine p_then ?_
  refine p_then ?_
  refine p_in ?_
  apply pN
  replace s := s.al 123 125 rfl
  replace s := s.pk [(1306, 1306), (700122, 700124)] (by decide)
  exact ⟨(out_24), (A25), (c26), (cs27), hg, (s.sb rfl rfl rfl)⟩
 clear s a; rintro a w ⟨out_20, A21, c22, cs23, hg, s⟩
 subst hk19
 apply wQ
 obtain ⟨hk42, hg⟩ := chk_some hg
 apply wL
 refine mv s rfl rfl fun a s => ?_
 refine mv s rfl rfl fun a s => ?_
 refine l_seq rfl (l_buildDense (sz := 1) s 1802 rfl rfl rfl underlying25 rfl rfl rfl rfl rfl rfl rfl fun b45 a w hbb45 hK s => ?_)
 clear hbb45
 replace s := s.add 130 (rdF Rep.str (cellsOfL [vT name_]) ([name_])) (RdAll.cons (by exact ⟨rfl, (by omega)⟩) (RdAll.nil _ _ _))
 have hs47 := row_src (s.wd.holds 1802 _ rfl) (RdAll.one (s.ft 130 rfl))
 refine l_seq rfl (l_append (sz := 1) (by_ := 16) (N := (out_20 ++ [name_]).length) s 700122 rfl rfl rfl underlying25 rfl rfl rfl rfl rfl hs47 (by rw [List.length_append]; try rfl) rfl (rmA hk42 rfl) (rmB hk42) rfl fun Aq46 cq46 a w hA hK s => ?_)
 replace s := s.add 131 (rdF Rep.str (cs23 ++ (cellsOfL [vT name_])) (out_20 ++ [name_])) (RdAll.append (s.ft 123 rfl) (s.ft 130 rfl))
 refine asg s rfl rfl fun a s => ?_
 apply wN
 apply wp_ret
 replace s := s.al 9300000 131 rfl
 obtain rfl := Option.some.inj hg
 refine fin1 (fn := Tryz.f30) s rfl (r_tmp s rfl) ?_
 exact ⟨(Aq46), (cq46), (cs23 ++ (cellsOfL [vT name_])), rfl, ((s.ren [(9200000, Ob.row (Aq46) ((out_20 ++ [name_]).length) (cq46) 9 1 (cs23 ++ (cellsOfL [vT name_])))] [700122] ⟨rfl, trivial⟩ (by decide)).outL ⟨rfl, trivial⟩ ⟨rfl, trivial⟩)⟩
set_option maxHeartbeats 1000000 in
theorem c_r22_Order (n : Nat) (M : Bs) (w0 : World) (hM : ∀ b, M b → b < w0.heap.size) (l_ : (List Module)) (Ap01 : Option Addr) (cp01 : Nat) (hp01 : SlR RModule M w0 Ap01 (l_).length cp01 (l_)) (main_ : (List UInt8)) (lp11 : (main_).length ≤ 9223372036854775807) (r : ((List (List UInt8)) × Int)) (hg : r22_Order n l_ main_ = some r) :
    Calls Tryz.prog 13 [.slice (Ap01) ((l_).length) (cp01), .string (bs (main_))].toArray w0 (Ret noB w0 fun v w => ∃ (Aa1 : Option Addr), ∃ (ca1 : Nat), v = .tuple #[.slice (Aa1) ((r.1).length) (ca1), .int .i64 (r.2)] ∧ (SlR Rep.str M w Aa1 (r.1).length ca1 (r.1))) := by
 unfold r22_Order at hg
 refine enter M noB func13 rfl rfl hM ?_
 intro a s
 replace s := s.es 101 hp01
 apply wR
 refine asg s rfl rfl fun a s => ?_
 refine asg s rfl rfl fun a s => ?_
 apply wN
 apply wQ
 apply wR
 refine asg s rfl rfl fun a s => ?_
 apply wN
 obtain ⟨k1, hg, hk1⟩ := jn_some hg
 refine c_post (fun a w => k1 = some r ∧ St (cx f13 M w0) [(0, sl Ap01 l_ cp01), (1, vT main_)] [] [(101, sF RModule Ap01 cp01 l_)] a w) ?_ ?_
 ·apply wp_block
  refine c_loop (σ := Nat) (fun m1 a w => ∃ (i_2 : Nat), r22_Order_L0 n l_ k1 m1 i_2 = some r ∧ St (cx f13 M w0) [(0, sl Ap01 l_ cp01), (1, vT main_), (6, vI (((i_2 : Nat) : Int)))] [] [(101, sF RModule Ap01 cp01 l_)] a w) (fun m1 => m1) n ⟨(0), hg, (s.sb rfl rfl rfl)⟩ ?_
  clear s a; rintro m1 a w ⟨i_2, hg, s⟩
  rcases m1 with _ | m1
  ·rw [r22_Order_L0] at hg; cases hg
  rw [r22_Order_L0] at hg
  apply wQ
  apply wR
  refine mv s rfl rfl fun a s => ?_
  refine mv s rfl rfl fun a s => ?_
  refine qq s rfl (y_lenSlice s rfl underlying22) fun a s => ?_
  refine qq s rfl (y_lssN (i := i_2) (j := ((l_).length)) s rfl rfl) fun a s => ?_
  apply wN
  refine c_dec s rfl (fun hc3 => ?_) (fun hc3 => ?_)
  ·replace hg := br_t hg hc3
   have hmx4 := SlR.mx (s.ft 101 rfl)
   apply wp_skip
   apply pN
   apply wQ
   apply wp_block
   apply wQ
   obtain ⟨x6, hx6, hg⟩ := bind_some hg
   obtain ⟨r8, hr8, hg⟩ := bind_some hg
   apply wL
   refine mv s rfl rfl fun a s => ?_
   refine mv s rfl rfl fun a s => ?_
   refine mv s rfl rfl fun a s => ?_
   obtain ⟨p11, hep11, hpp11⟩ := SlR.elemX (s.ft 101 rfl) hx6
   refine qq s rfl (y_elem (sz := 10) (i := i_2) s rfl rfl underlying22 rfl hep11 rfl (lt_of_get hx6)) fun a s => ?_
   refine qq s rfl (y_ptrField (o' := 0) s rfl underlying38 rfl rfl rfl) fun a s => ?_
   obtain ⟨hlq12, hmq12, csq12, hdq12, hcq12⟩ := hpp11
   obtain ⟨Aq122, cq122, Aq123, cq123, Aq124, cq124, Aq125, cq125, Aq126, cq126, Aq127, cq127, Aq128, cq128, Aq129, cq129, Aq1210, cq1210, rfl, lq121, hq122, hq123, hq124, hq125, hq126, hq127, hq128, hq129, hq1210⟩ := RModule.open hdq12
   replace s := s.ns 111 hq122
   replace s := s.ns 112 hq123
   replace s := s.ns 113 hq124
   replace s := s.ns 114 hq125
   replace s := s.ns 115 hq126
   replace s := s.ns 116 hq127
   replace s := s.ns 117 hq128
   replace s := s.ns 118 hq129
   replace s := s.ns 119 hq1210
   refine qq s rfl (y_ldp1 s rfl hlq12 hmq12 (hcq12 0 _ rfl) underlying9 rfl) fun a s => ?_
   refine lc s rfl func28 (by kernel_rfl) (c_r22_find n _ _ s.lt _ _ _ (s.ft 101 rfl) _ (by omega) _ hr8) fun v13 a w hK hp s => ?_
   obtain rfl := hp
   refine mv s rfl rfl fun a s => ?_
   refine qq s rfl (y_neq s rfl rfl) fun a s => ?_
   apply wN
   refine c_dec s rfl (fun hc15 => ?_) (fun hc15 => ?_)
   ·replace hg := br_t hg hc15
    apply wR
    refine asg s rfl rfl fun a s => ?_
    refine asg s rfl rfl fun a s => ?_
    apply wN
    apply wp_ret
    refine p_inR ?_
    refine p_thenR ?_
    refine p_thenR ?_
    refine p_inR ?_
    refine p_thenR ?_
    obtain rfl := Option.some.inj hg
    refine fin2 (fn := Tryz.f13) s rfl (r_tmp s rfl) (r_tmp s rfl) ?_
    exact ⟨(none), (0), rfl, (SlR.nil_ _ _ _)⟩
   replace hg := br_f hg hc15
   apply wp_skip
   refine p_inN ?_
   apply pN
   apply wL
   refine mv s rfl rfl fun a s => ?_
   refine qq s rfl (y_addN (i := i_2) (j := 1) s rfl rfl (in64.2 (by omega))) fun a s => ?_
   refine asg s rfl rfl fun a s => ?_
   apply wN
   exact ⟨m1, Nat.lt_succ_self _, ⟨(i_2 + 1), hg, (s.sb rfl rfl rfl)⟩⟩
  replace hg := br_f hg hc3
  apply wp_exit
  refine p_then ?_
  refine p_then ?_
  refine p_in ?_
  apply pN
  exact ⟨hg, (s.sb rfl rfl rfl)⟩
 clear s a; rintro a w ⟨hg, s⟩
 subst hk1
 apply wQ
 obtain ⟨r16, hr16, hg⟩ := bind_some hg
 apply wL
 refine mv s rfl rfl fun a s => ?_
 refine mv s rfl rfl fun a s => ?_
 refine lc s rfl func21 (by kernel_rfl) (c_r22_Needs n _ _ s.lt _ _ _ (s.ft 101 rfl) _ (by omega) _ hr16) fun v19 a w hK hp s => ?_
 obtain ⟨Au20a1, cu20a1, rfl, hu20a1⟩ := hp
 replace s := s.ns 121 hu20a1
 refine asg s rfl rfl fun a s => ?_
 apply wN
 apply wQ
 apply wR
 refine asg s rfl rfl fun a s => ?_
 apply wN
 obtain ⟨k21, hg, hk21⟩ := jn_some hg
 refine c_post (fun a w => k21 = some r ∧ St (cx f13 M w0) [(0, sl Ap01 l_ cp01), (1, vT main_), (7, sl Au20a1 r16 cu20a1)] [] [(101, sF RModule Ap01 cp01 l_), (121, sF Rep.str Au20a1 cu20a1 r16)] a w) ?_ ?_
 ·apply wp_block
  refine c_loop (σ := Nat) (fun m2 a w => ∃ (i_22 : Nat), r22_Order_L1 n l_ r16 k21 m2 i_22 = some r ∧ St (cx f13 M w0) [(0, sl Ap01 l_ cp01), (1, vT main_), (7, sl Au20a1 r16 cu20a1), (8, vI (((i_22 : Nat) : Int)))] [] [(101, sF RModule Ap01 cp01 l_), (121, sF Rep.str Au20a1 cu20a1 r16)] a w) (fun m2 => m2) n ⟨(0), hg, (s.sb rfl rfl rfl)⟩ ?_
  clear s a; rintro m2 a w ⟨i_22, hg, s⟩
  rcases m2 with _ | m2
  ·rw [r22_Order_L1] at hg; cases hg
  rw [r22_Order_L1] at hg
  apply wQ
  apply wR
  refine mv s rfl rfl fun a s => ?_
  refine mv s rfl rfl fun a s => ?_
  refine qq s rfl (y_lenSlice s rfl underlying25) fun a s => ?_
  refine qq s rfl (y_lssN (i := i_22) (j := ((r16).length)) s rfl rfl) fun a s => ?_
  apply wN
  refine c_dec s rfl (fun hc23 => ?_) (fun hc23 => ?_)
  ·replace hg := br_t hg hc23
   have hmx24 := SlR.mx (s.ft 121 rfl)
   apply wp_skip
   apply pN
   apply wQ
   apply wp_block
   apply wQ
   obtain ⟨x26, hx26, hg⟩ := bind_some hg
   obtain ⟨r28, hr28, hg⟩ := bind_some hg
   apply wL
   refine mv s rfl rfl fun a s => ?_
   refine mv s rfl rfl fun a s => ?_
   refine mv s rfl rfl fun a s => ?_
   obtain ⟨p31, hep31, hpp31⟩ := SlR.elemX (s.ft 121 rfl) hx26
   refine qq s rfl (y_elem (sz := 1) (i := i_22) s rfl rfl underlying25 rfl hep31 rfl (lt_of_get hx26)) fun a s => ?_
   obtain ⟨hlq32, hmq32, csq32, hdq32, hcq32⟩ := hpp31
   obtain ⟨rfl, lq321⟩ := hdq32
   refine qq s rfl (y_ldp1 s rfl hlq32 hmq32 (hcq32 0 _ rfl) underlying9 rfl) fun a s => ?_
   refine lc s rfl func28 (by kernel_rfl) (c_r22_find n _ _ s.lt _ _ _ (s.ft 101 rfl) _ (by omega) _ hr28) fun v33 a w hK hp s => ?_
   obtain rfl := hp
   refine qq s rfl (y_lss s rfl rfl) fun a s => ?_
   apply wN
   refine c_dec s rfl (fun hc35 => ?_) (fun hc35 => ?_)
   ·replace hg := br_t hg hc35
    apply wR
    refine asg s rfl rfl fun a s => ?_
    refine asg s rfl rfl fun a s => ?_
    apply wN
    apply wp_ret
    refine p_inR ?_
    refine p_thenR ?_
    refine p_thenR ?_
    refine p_inR ?_
    refine p_thenR ?_
    obtain rfl := Option.some.inj hg
    refine fin2 (fn := Tryz.f13) s rfl (r_tmp s rfl) (r_tmp s rfl) ?_
    exact ⟨(none), (0), rfl, (SlR.nil_ _ _ _)⟩
   replace hg := br_f hg hc35
   apply wp_skip
   refine p_inN ?_
   apply pN
   apply wL
   refine mv s rfl rfl fun a s => ?_
   refine qq s rfl (y_addN (i := i_22) (j := 1) s rfl rfl (in64.2 (by omega))) fun a s => ?_
   refine asg s rfl rfl fun a s => ?_
   apply wN
   exact ⟨m2, Nat.lt_succ_self _, ⟨(i_22 + 1), hg, (s.sb rfl rfl rfl)⟩⟩
  replace hg := br_f hg hc23
  apply wp_exit
  refine p_then ?_
  refine p_then ?_
  refine p_in ?_
  apply pN
  exact ⟨hg, (s.sb rfl rfl rfl)⟩
 clear s a; rintro a w ⟨hg, s⟩
 subst hk21
 apply wQ
 apply wR
 refine asg s rfl rfl fun a s => ?_
 apply wN
 obtain ⟨k36, hg, hk36⟩ := jn_some hg
 refine c_post (fun a w => k36 = some r ∧ St (cx f13 M w0) [(0, sl Ap01 l_ cp01), (1, vT main_)] [] [(101, sF RModule Ap01 cp01 l_)] a w) ?_ ?_
 ·apply wp_block
  refine c_loop (σ := Nat) (fun m3 a w => ∃ (i_37 : Nat), r22_Order_L2 n l_ r16 k36 m3 i_37 = some r ∧ St (cx f13 M w0) [(0, sl Ap01 l_ cp01), (1, vT main_), (7, sl Au20a1 r16 cu20a1), (9, vI (((i_37 : Nat) : Int)))] [] [(101, sF RModule Ap01 cp01 l_), (121, sF Rep.str Au20a1 cu20a1 r16)] a w) (fun m3 => m3) n ⟨(0), hg, (s.sb rfl rfl rfl)⟩ ?_
  clear s a; rintro m3 a w ⟨i_37, hg, s⟩
  rcases m3 with _ | m3
  ·rw [r22_Order_L2] at hg; cases hg
  rw [r22_Order_L2] at hg
  apply wQ
  apply wR
  refine mv s rfl rfl fun a s => ?_
  refine mv s rfl rfl fun a s => ?_
  refine qq s rfl (y_lenSlice s rfl underlying25) fun a s => ?_
  refine qq s rfl (y_lssN (i := i_37) (j := ((r16).length)) s rfl rfl) fun a s => ?_
  apply wN
  refine c_dec s rfl (fun hc38 => ?_) (fun hc38 => ?_)
  ·replace hg := br_t hg hc38
   have hmx39 := SlR.mx (s.ft 121 rfl)
   apply wp_skip
   apply pN
   apply wQ
   apply wp_block
   apply wQ
   obtain ⟨x41, hx41, hg⟩ := bind_some hg
   obtain ⟨r43, hr43, hg⟩ := bind_some hg
   apply wL
   refine mv s rfl rfl fun a s => ?_
   refine mv s rfl rfl fun a s => ?_
   refine mv s rfl rfl fun a s => ?_
   obtain ⟨p46, hep46, hpp46⟩ := SlR.elemX (s.ft 121 rfl) hx41
   refine qq s rfl (y_elem (sz := 1) (i := i_37) s rfl rfl underlying25 rfl hep46 rfl (lt_of_get hx41)) fun a s => ?_
   obtain ⟨hlq47, hmq47, csq47, hdq47, hcq47⟩ := hpp46
   obtain ⟨rfl, lq471⟩ := hdq47
   refine qq s rfl (y_ldp1 s rfl hlq47 hmq47 (hcq47 0 _ rfl) underlying9 rfl) fun a s => ?_
   refine lc s rfl func29 (by kernel_rfl) (c_r22_cyclic n _ _ s.lt _ _ _ (s.ft 101 rfl) _ (by omega) _ hr43) fun v48 a w hK hp s => ?_
   obtain rfl := hp
   apply wN
   refine c_cond s rfl (fun hc50 => ?_) (fun hc50 => ?_)
   ·replace hg := br_t hg hc50
    apply wR
    refine asg s rfl rfl fun a s => ?_
    refine asg s rfl rfl fun a s => ?_
    apply wN
    apply wp_ret
    refine p_inR ?_
    refine p_thenR ?_
    refine p_thenR ?_
    refine p_inR ?_
    refine p_thenR ?_
    obtain rfl := Option.some.inj hg
    refine fin2 (fn := Tryz.f13) s rfl (r_tmp s rfl) (r_tmp s rfl) ?_
    exact ⟨(none), (0), rfl, (SlR.nil_ _ _ _)⟩
   replace hg := br_n hg hc50
   apply wp_skip
   refine p_inN ?_
   apply pN
   apply wL
   refine mv s rfl rfl fun a s => ?_
   refine qq s rfl (y_addN (i := i_37) (j := 1) s rfl rfl (in64.2 (by omega))) fun a s => ?_
   refine asg s rfl rfl fun a s => ?_
   apply wN
   exact ⟨m3, Nat.lt_succ_self _, ⟨(i_37 + 1), hg, (s.sb rfl rfl rfl)⟩⟩
  replace hg := br_f hg hc38
  apply wp_exit
  refine p_then ?_
  refine p_then ?_
  refine p_in ?_
  apply pN
  exact ⟨hg, (s.sb rfl rfl rfl)⟩
 clear s a; rintro a w ⟨hg, s⟩
 subst hk36
 apply wQ
 obtain ⟨r51, hr51, hg⟩ := bind_some hg
 apply wL
 refine mv s rfl rfl fun a s => ?_
 refine mv s rfl rfl fun a s => ?_
 replace s := s.nilRow 800125 9 1 rfl
 replace s := s.add 126 (rdF Rep.str ([]) ([])) (RdAll.nil _ _ _)
 have hT := s.pk [(9200000, 800125)] (by decide)
 replace hT := hT.al 9300000 126 rfl
 replace hT := hT.al 9400000 101 rfl
 refine l_seq rfl (l_callMut (cap := []) hT _ [] (sbA (by rfl)) trivial (by rfl) rfl func30 rfl (by kernel_rfl) rfl rfl (c_r22_visit n _ _ (hT.restLt []) _ l_ (Ap01) (cp01) main_ (by omega) [] (none) (0) ([]) (hT.wd.lendL _ _ _ (sbA (by rfl)) (keep_sub []) (by rfl) (sbA (by rfl))) r51 hr51) ?_); intro v54 a' w' hK hp hF
 obtain ⟨Aou55, cou55, csou55, rfl, hWu55⟩ := hp
 have hS2 := St.mk hF (hT.wd.back (sbA (by rfl)) (keep_sub []) (by rfl) hWu55 (by rfl))
 clear s hT hF hWu55 hK; revert hS2; revert w'; revert a'; intro a w s
 replace s := s.al 127 9300000 rfl
 replace s := s.ren [(800125, Ob.row (Aou55) ((r51).length) (cou55) 9 1 (csou55))] [9200000] ⟨rfl, trivial⟩ (by decide)
 refine asg s rfl rfl fun a s => ?_
 refine asg s rfl rfl fun a s => ?_
 apply wN
 apply wp_ret
 obtain rfl := Option.some.inj hg
 refine fin2 (fn := Tryz.f13) s rfl (r_tmp s rfl) (r_tmp s rfl) ?_
 exact ⟨(Aou55), (cou55), rfl, (s.rowOut (R := Rep.str) (kk := 800125) rfl rfl (s.ft 127 rfl))⟩
end Go.Proofs.YtbhjplflnkidgaaGreat


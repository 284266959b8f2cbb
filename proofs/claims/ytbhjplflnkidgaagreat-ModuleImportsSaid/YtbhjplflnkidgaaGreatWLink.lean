/- Chapter 22: a walk -/
import Derived.Test.YtbhjplflnkidgaaGreatW4
namespace Go.Proofs.YtbhjplflnkidgaaGreat
open Go.Gl Go.RowKit Tryz
set_option linter.unusedVariables false
set_option linter.unusedSimpArgs false
set_option maxRecDepth 4000

set_option maxHeartbeats 20000000 in
theorem c_module_Link (n : Nat) (M : Bs) (w0 : World) (hM : ∀ b, M b → b < w0.heap.size) (t_ : (List Module)) (Ap01 : Option Addr) (cp01 : Nat) (hp01 : sR RModule M w0 Ap01 cp01 t_) (t_' : (List UInt8)) (lp11 : (t_').length ≤ 9223372036854775807) (r : (Module × Int)) (hg : module_Link n t_ t_' = some r) :
    Calls Tryz.prog 17 [sl Ap01 t_ cp01, vT t_'].toArray w0 (Ret noB w0 fun v w => ∃ (Aa2 : Option Addr), ∃ (ca2 : Nat), ∃ (Aa3 : Option Addr), ∃ (ca3 : Nat), ∃ (Aa4 : Option Addr), ∃ (ca4 : Nat), ∃ (Aa5 : Option Addr), ∃ (ca5 : Nat), ∃ (Aa6 : Option Addr), ∃ (ca6 : Nat), ∃ (Aa7 : Option Addr), ∃ (ca7 : Nat), ∃ (Aa8 : Option Addr), ∃ (ca8 : Nat), ∃ (Aa9 : Option Addr), ∃ (ca9 : Nat), ∃ (Aa10 : Option Addr), ∃ (ca10 : Nat), v = .tuple #[.agg #[vT r.1.Name, sl Aa2 r.1.Imports ca2, sl Aa3 r.1.Types ca3, sl Aa4 r.1.Templates ca4, sl Aa5 r.1.Entries ca5, sl Aa6 r.1.LexRules ca6, sl Aa7 r.1.Rules ca7, sl Aa8 r.1.Roots ca8, sl Aa9 r.1.Checks ca9, sl Aa10 r.1.Drops ca10], .int .i64 (r.2)] ∧ ((r.1.Name).length ≤ 9223372036854775807) ∧ (SlR Rep.str M w Aa2 (r.1.Imports).length ca2 (r.1.Imports)) ∧ (SlR RTypeDecl M w Aa3 (r.1.Types).length ca3 (r.1.Types)) ∧ (SlR RDef M w Aa4 (r.1.Templates).length ca4 (r.1.Templates)) ∧ (SlR REntryDecl M w Aa5 (r.1.Entries).length ca5 (r.1.Entries)) ∧ (SlR RLexDecl M w Aa6 (r.1.LexRules).length ca6 (r.1.LexRules)) ∧ (SlR RDef M w Aa7 (r.1.Rules).length ca7 (r.1.Rules)) ∧ (SlR RDef M w Aa8 (r.1.Roots).length ca8 (r.1.Roots)) ∧ (SlR (Rep.list Rep.str) M w Aa9 (r.1.Checks).length ca9 (r.1.Checks)) ∧ (SlR Rep.str M w Aa10 (r.1.Drops).length ca10 (r.1.Drops))) := by
 unfold module_Link at hg
 refine enter M noB func17 rfl rfl hM ?_
 intro a s
 replace s := s.es 101 hp01
 apply wR
 refine l_seq rfl (l_alloc (zs := [vT ([]), .slice none 0 0, .slice none 0 0, .slice none 0 0, .slice none 0 0, .slice none 0 0, .slice none 0 0, .slice none 0 0, .slice none 0 0, .slice none 0 0]) s 1000 rfl rfl rfl rfl fun b2 a w hb hK s => ?_)
 obtain ⟨r3, hr3, hg⟩ := bind_some hg
 refine S s <| aw rfl <| nw <| sw <| lw <| mw rfl <| mw rfl fun a s => ?_
 refine lC s rfl func12 (c_module_Order n _ _ s.lt _ _ _ (s.ft 101 rfl) _ (by omega) _ hr3) fun v6 a w hK hp s => ?_
 obtain ⟨Au7a1, cu7a1, rfl, hu7a1⟩ := hp
 refine S s <| nsw 103 hu7a1 <| mw rfl <| yw rfl (y_extract · rfl rfl) <| yw rfl (y_extract · rfl rfl) <| aw rfl <| aw rfl <| nw <| sw <| vw <| mw rfl <| yw rfl (y_neq · rfl rfl) <| nw fun a s => c_dec s rfl (fun hc8 => ?_) (fun hc8 => ?_)
 ·replace hg := br_t hg hc8
  refine S s <| vw <| yw rfl (y_build (parts := []) (ps := []) (cells := #[vT ([]), .slice none 0 0, .slice none 0 0, .slice none 0 0, .slice none 0 0, .slice none 0 0, .slice none 0 0, .slice none 0 0, .slice none 0 0, .slice none 0 0]) · rfl (by kernel_rfl)) <| mw rfl fun a s => ?_
  refine l_seq rfl (l_store (n := 10) (cs' := [vT ([]), .slice none 0 0, .slice none 0 0, .slice none 0 0, .slice none 0 0, .slice none 0 0, .slice none 0 0, .slice none 0 0, .slice none 0 0, .slice none 0 0]) s 1000 rfl rfl rfl rfl rfl rfl rfl rfl ?_); clear s; intro w hK s; clear hK
  refine S s <| aw rfl <| nw fun a s => ?_
  apply wp_ret
  refine p_thenR ?_
  obtain rfl := Option.some.inj hg
  refine fin2 (fn := Tryz.f17) s rfl (r_cell (kk := 1000) (n := 10) (vs := [vT ([]), .slice none 0 0, .slice none 0 0, .slice none 0 0, .slice none 0 0, .slice none 0 0, .slice none 0 0, .slice none 0 0, .slice none 0 0, .slice none 0 0]) s rfl rfl underlying38 rfl rfl rfl rfl) (r_tmp s rfl) ?_
  exact ⟨(none), (0), (none), (0), (none), (0), (none), (0), (none), (0), (none), (0), (none), (0), (none), (0), (none), (0), rfl, (Nat.le_of_ble_eq_true (by rfl)), (SlR.nil_ _ _ _), (SlR.nil_ _ _ _), (SlR.nil_ _ _ _), (SlR.nil_ _ _ _), (SlR.nil_ _ _ _), (SlR.nil_ _ _ _), (SlR.nil_ _ _ _), (SlR.nil_ _ _ _), (SlR.nil_ _ _ _)⟩
 replace hg := br_f hg hc8
 refine S s <| kw <| pw <| vw <| mw rfl <| yw rfl (y_build (parts := [(0, .tmp 28)]) (ps := [(0, vT (t_'))]) (cells := #[vT (t_'), .slice none 0 0, .slice none 0 0, .slice none 0 0, .slice none 0 0, .slice none 0 0, .slice none 0 0, .slice none 0 0, .slice none 0 0, .slice none 0 0]) · rfl (by kernel_rfl)) fun a s => ?_
 refine l_seq rfl (l_alloc (zs := [vT ([]), .slice none 0 0, .slice none 0 0, .slice none 0 0, .slice none 0 0, .slice none 0 0, .slice none 0 0, .slice none 0 0, .slice none 0 0, .slice none 0 0]) s 1402 rfl rfl rfl rfl fun b10 a w hb hK s => ?_)
 refine l_seq rfl (l_store (n := 10) (cs' := [vT (t_'), .slice none 0 0, .slice none 0 0, .slice none 0 0, .slice none 0 0, .slice none 0 0, .slice none 0 0, .slice none 0 0, .slice none 0 0, .slice none 0 0]) s 1402 rfl rfl rfl rfl rfl rfl rfl rfl ?_); clear s; intro w hK s; clear hK
 refine S s <| nw <| sw <| vw <| mw rfl <| yw rfl (y_lenSlice · rfl underlying25) <| mw rfl <| nw fun a s => ?_
 obtain ⟨k11, hg, hk11⟩ := jn_some hg
 refine c_post (fun a w => ∃ (b_12 : (List TypeDecl)) (b_16 : (List Def)) (b_20 : (List EntryDecl)) (b_24 : (List LexDecl)) (b_28 : (List Def)) (b_32 : (List Def)) (b_36 : (List (List (List UInt8)))), ∃ (b_40 : (List (List UInt8))) (A13 : Option Addr) (c14 : Nat) (cs15 : List Value) (A17 : Option Addr) (c18 : Nat) (cs19 : List Value) (A21 : Option Addr) (c22 : Nat) (cs23 : List Value) (A25 : Option Addr) (c26 : Nat) (cs27 : List Value) (A29 : Option Addr) (c30 : Nat) (cs31 : List Value) (A33 : Option Addr) (c34 : Nat) (cs35 : List Value) (A37 : Option Addr) (c38 : Nat) (cs39 : List Value) (A41 : Option Addr) (c42 : Nat) (cs43 : List Value), k11 b_12 b_16 b_20 b_24 b_28 b_32 b_36 b_40 = some r ∧ St (cx f17 M w0) [(0, sl Ap01 t_ cp01), (4, vP b2 0), (6, sl Au7a1 r3.1 cu7a1), (8, vP b10 0)] [(1000, Ob.box b2 [vT ([]), .slice none 0 0, .slice none 0 0, .slice none 0 0, .slice none 0 0, .slice none 0 0, .slice none 0 0, .slice none 0 0, .slice none 0 0, .slice none 0 0] 38), (1402, Ob.box b10 [vT (t_'), .slice none 0 0, sl A13 b_12 c14, sl A17 b_16 c18, sl A21 b_20 c22, sl A25 b_24 c26, sl A29 b_28 c30, sl A33 b_32 c34, sl A37 b_36 c38, sl A41 b_40 c42] 38), (700104, Ob.row (A13) ((b_12).length) (c14) 49 3 (cs15)), (700106, Ob.row (A17) ((b_16).length) (c18) 62 6 (cs19)), (700108, Ob.row (A21) ((b_20).length) (c22) 89 7 (cs23)), (700110, Ob.row (A25) ((b_24).length) (c26) 94 8 (cs27)), (700112, Ob.row (A29) ((b_28).length) (c30) 62 6 (cs31)), (700114, Ob.row (A33) ((b_32).length) (c34) 62 6 (cs35)), (700116, Ob.row (A37) ((b_36).length) (c38) 25 1 (cs39)), (700118, Ob.row (A41) ((b_40).length) (c42) 9 1 (cs43))] [(101, sF RModule Ap01 cp01 t_), (103, sF Rep.str Au7a1 cu7a1 r3.1), (105, rdF RTypeDecl (cs15) (b_12)), (107, rdF RDef (cs19) (b_16)), (109, rdF REntryDecl (cs23) (b_20)), (111, rdF RLexDecl (cs27) (b_24)), (113, rdF RDef (cs31) (b_28)), (115, rdF RDef (cs35) (b_32)), (117, rdF (Rep.list Rep.str) (cs39) (b_36)), (119, rdF Rep.str (cs43) (b_40))] a w) ?_ ?_
 ·apply wp_block
  replace s := s.nilRow 700120 49 3 rfl
  replace s := s.add 121 (rdF RTypeDecl [] []) (RdAll.nil _ _ _)
  replace s := s.nilRow 700122 62 6 rfl
  replace s := s.add 123 (rdF RDef [] []) (RdAll.nil _ _ _)
  replace s := s.nilRow 700124 89 7 rfl
  replace s := s.add 125 (rdF REntryDecl [] []) (RdAll.nil _ _ _)
  replace s := s.nilRow 700126 94 8 rfl
  replace s := s.add 127 (rdF RLexDecl [] []) (RdAll.nil _ _ _)
  replace s := s.nilRow 700128 62 6 rfl
  replace s := s.add 129 (rdF RDef [] []) (RdAll.nil _ _ _)
  replace s := s.nilRow 700130 62 6 rfl
  replace s := s.add 131 (rdF RDef [] []) (RdAll.nil _ _ _)
  replace s := s.nilRow 700132 25 1 rfl
  replace s := s.add 133 (rdF (Rep.list Rep.str) [] []) (RdAll.nil _ _ _)
  replace s := s.nilRow 700134 9 1 rfl
  replace s := s.add 135 (rdF Rep.str [] []) (RdAll.nil _ _ _)
  refine c_loop (σ := Nat) (fun m1 a w => ∃ (t_44 : Nat) (b_45 : (List TypeDecl)) (b_49 : (List Def)) (b_53 : (List EntryDecl)) (b_57 : (List LexDecl)) (b_61 : (List Def)) (b_65 : (List Def)) (b_69 : (List (List (List UInt8)))), ∃ (b_73 : (List (List UInt8))) (A46 : Option Addr) (c47 : Nat) (cs48 : List Value) (A50 : Option Addr) (c51 : Nat) (cs52 : List Value) (A54 : Option Addr) (c55 : Nat) (cs56 : List Value) (A58 : Option Addr) (c59 : Nat) (cs60 : List Value) (A62 : Option Addr) (c63 : Nat) (cs64 : List Value) (A66 : Option Addr) (c67 : Nat) (cs68 : List Value) (A70 : Option Addr) (c71 : Nat) (cs72 : List Value) (A74 : Option Addr) (c75 : Nat) (cs76 : List Value), module_Link_L0 n t_ r3 k11 m1 t_44 b_45 b_49 b_53 b_57 b_61 b_65 b_69 b_73 = some r ∧ St (cx f17 M w0) [(0, sl Ap01 t_ cp01), (4, vP b2 0), (6, sl Au7a1 r3.1 cu7a1), (8, vP b10 0), (30, sl Au7a1 r3.1 cu7a1), (31, vI ((((r3.1).length : Nat) : Int))), (32, vI (((t_44 : Nat) : Int)))] [(1000, Ob.box b2 [vT ([]), .slice none 0 0, .slice none 0 0, .slice none 0 0, .slice none 0 0, .slice none 0 0, .slice none 0 0, .slice none 0 0, .slice none 0 0, .slice none 0 0] 38), (1402, Ob.box b10 [vT (t_'), .slice none 0 0, sl A46 b_45 c47, sl A50 b_49 c51, sl A54 b_53 c55, sl A58 b_57 c59, sl A62 b_61 c63, sl A66 b_65 c67, sl A70 b_69 c71, sl A74 b_73 c75] 38), (700120, Ob.row (A46) ((b_45).length) (c47) 49 3 (cs48)), (700122, Ob.row (A50) ((b_49).length) (c51) 62 6 (cs52)), (700124, Ob.row (A54) ((b_53).length) (c55) 89 7 (cs56)), (700126, Ob.row (A58) ((b_57).length) (c59) 94 8 (cs60)), (700128, Ob.row (A62) ((b_61).length) (c63) 62 6 (cs64)), (700130, Ob.row (A66) ((b_65).length) (c67) 62 6 (cs68)), (700132, Ob.row (A70) ((b_69).length) (c71) 25 1 (cs72)), (700134, Ob.row (A74) ((b_73).length) (c75) 9 1 (cs76))] [(101, sF RModule Ap01 cp01 t_), (103, sF Rep.str Au7a1 cu7a1 r3.1), (121, rdF RTypeDecl (cs48) (b_45)), (123, rdF RDef (cs52) (b_49)), (125, rdF REntryDecl (cs56) (b_53)), (127, rdF RLexDecl (cs60) (b_57)), (129, rdF RDef (cs64) (b_61)), (131, rdF RDef (cs68) (b_65)), (133, rdF (Rep.list Rep.str) (cs72) (b_69)), (135, rdF Rep.str (cs76) (b_73))] a w) (fun m1 => m1) n ⟨(0), ([]), ([]), ([]), ([]), ([]), ([]), ([]), ([]), (none), (0), ([]), (none), (0), ([]), (none), (0), ([]), (none), (0), ([]), (none), (0), ([]), (none), (0), ([]), (none), (0), ([]), (none), (0), ([]), hg, (s.sb rfl rfl rfl)⟩ ?_
  clear s a; rintro m1 a w ⟨t_44, b_45, b_49, b_53, b_57, b_61, b_65, b_69, b_73, A46, c47, cs48, A50, c51, cs52, A54, c55, cs56, A58, c59, cs60, A62, c63, cs64, A66, c67, cs68, A70, c71, cs72, A74, c75, cs76, hg, s⟩
  rcases m1 with _ | m1
  ·rw [module_Link_L0] at hg; cases hg
  rw [module_Link_L0] at hg
  refine S s <| vw <| yw rfl (y_lssN (i := t_44) (j := ((r3.1).length)) · rfl rfl) <| nw <| sw fun a s => c_dec s rfl (fun hc77 => ?_) (fun hc77 => ?_)
  ·replace hg := br_t hg hc77
   have hmx78 := SlR.mx (s.ft 103 rfl)
   obtain ⟨x80, hx80, hg⟩ := bind_some hg
   refine S s <| kw <| pw <| sw <| bw <| sw <| lw fun a s => ?_
   obtain ⟨p82, hep82, hlq83, hmq83, csq83, hdq83, hcq83⟩ := SlR.elemX (s.ft 103 rfl) hx80
   refine qq s rfl (y_elem (sz := 1) (i := t_44) s rfl rfl underlying25 rfl hep82 rfl (lt_of_get hx80)) fun a s => ?_
   obtain ⟨rfl, lq831⟩ := hdq83
   obtain ⟨r84, hr84, hg⟩ := bind_some hg
   refine S s <| yw rfl (y_ldp1 · rfl hlq83 hmq83 (hcq83 0 _ rfl) underlying9 rfl) <| aw rfl <| nw <| sw <| lw <| mw rfl <| mw rfl fun a s => ?_
   refine lC s rfl func27 (c_module_find n _ _ s.lt _ _ _ (s.ft 101 rfl) _ (by omega) _ hr84) fun v88 a w hK hp s => ?_
   obtain ⟨Au89a2, cu89a2, Au89a3, cu89a3, Au89a4, cu89a4, Au89a5, cu89a5, Au89a6, cu89a6, Au89a7, cu89a7, Au89a8, cu89a8, Au89a9, cu89a9, Au89a10, cu89a10, rfl, lu89a1, hu89a2, hu89a3, hu89a4, hu89a5, hu89a6, hu89a7, hu89a8, hu89a9, hu89a10⟩ := hp
   refine S s <| nsw 145 hu89a2 <| nsw 146 hu89a3 <| nsw 147 hu89a4 <| nsw 148 hu89a5 <| nsw 149 hu89a6 <| nsw 150 hu89a7 <| nsw 151 hu89a8 <| nsw 152 hu89a9 <| nsw 153 hu89a10 <| mw rfl <| yw rfl (y_extract · rfl rfl) <| yw rfl (y_extract · rfl rfl) fun a s => ?_
   refine l_seq rfl (l_alloc (zs := [vT ([]), .slice none 0 0, .slice none 0 0, .slice none 0 0, .slice none 0 0, .slice none 0 0, .slice none 0 0, .slice none 0 0, .slice none 0 0, .slice none 0 0]) s 1806 rfl rfl rfl rfl fun b90 a w hb hK s => ?_)
   refine l_seq rfl (l_store (n := 10) (cs' := [vT r84.1.Name, sl Au89a2 r84.1.Imports cu89a2, sl Au89a3 r84.1.Types cu89a3, sl Au89a4 r84.1.Templates cu89a4, sl Au89a5 r84.1.Entries cu89a5, sl Au89a6 r84.1.LexRules cu89a6, sl Au89a7 r84.1.Rules cu89a7, sl Au89a8 r84.1.Roots cu89a8, sl Au89a9 r84.1.Checks cu89a9, sl Au89a10 r84.1.Drops cu89a10]) s 1806 rfl rfl rfl rfl rfl rfl rfl rfl ?_); clear s; intro w hK s; clear hK
   obtain ⟨hk91, hg⟩ := chk_some hg
   refine S s <| aw rfl <| nw <| sw <| lw <| yw rfl (y_boxField (o' := 2) · rfl underlying38 rfl rfl rfl) <| yw rfl (y_loadBox1 (kk := 1402) · rfl rfl rfl underlying32 rfl) <| yw rfl (y_boxField (o' := 2) · rfl underlying38 rfl rfl rfl) <| yw rfl (y_loadBox1 (kk := 1806) · rfl rfl rfl underlying32 rfl) fun a s => ?_
   obtain ⟨ns95, hs95, hns95⟩ := SlR.src (s.ft 146 rfl)
   replace s := s.add 156 (rdF RTypeDecl ns95 (r84.1.Types)) hns95
   refine l_seq rfl (l_append (sz := 3) (by_ := 64) (N := (b_45 ++ r84.1.Types).length) s 700120 rfl rfl rfl underlying32 rfl rfl rfl rfl rfl hs95 (by rw [List.length_append]; try rfl) rfl (rmA hk91 rfl) (rmB hk91) rfl fun Aq94 cq94 a w hA hK s => ?_)
   replace s := s.add 157 (rdF RTypeDecl (cs48 ++ ns95) (b_45 ++ r84.1.Types)) (RdAll.append (s.ft 121 rfl) (s.ft 156 rfl))
   refine qq s rfl (y_boxField (o' := 2) s rfl underlying38 rfl rfl rfl) fun a s => ?_
   refine l_seq rfl (l_store (n := 1) (cs' := [vT (t_'), .slice none 0 0, sl Aq94 (b_45 ++ r84.1.Types) cq94, sl A50 b_49 c51, sl A54 b_53 c55, sl A58 b_57 c59, sl A62 b_61 c63, sl A66 b_65 c67, sl A70 b_69 c71, sl A74 b_73 c75]) s 1402 rfl rfl rfl rfl rfl rfl rfl rfl ?_); clear s; intro w hK s; clear hK
   obtain ⟨hk96, hg⟩ := chk_some hg
   refine S s <| nw <| sw <| lw <| yw rfl (y_boxField (o' := 3) · rfl underlying38 rfl rfl rfl) <| yw rfl (y_loadBox1 (kk := 1402) · rfl rfl rfl underlying33 rfl) <| yw rfl (y_boxField (o' := 3) · rfl underlying38 rfl rfl rfl) <| yw rfl (y_loadBox1 (kk := 1806) · rfl rfl rfl underlying33 rfl) fun a s => ?_
   obtain ⟨ns100, hs100, hns100⟩ := SlR.src (s.ft 147 rfl)
   replace s := s.add 160 (rdF RDef ns100 (r84.1.Templates)) hns100
   refine l_seq rfl (l_append (sz := 6) (by_ := 112) (N := (b_49 ++ r84.1.Templates).length) s 700122 rfl rfl rfl underlying33 rfl rfl rfl rfl rfl hs100 (by rw [List.length_append]; try rfl) rfl (rmA hk96 rfl) (rmB hk96) rfl fun Aq99 cq99 a w hA hK s => ?_)
   replace s := s.add 161 (rdF RDef (cs52 ++ ns100) (b_49 ++ r84.1.Templates)) (RdAll.append (s.ft 123 rfl) (s.ft 160 rfl))
   refine qq s rfl (y_boxField (o' := 3) s rfl underlying38 rfl rfl rfl) fun a s => ?_
   refine l_seq rfl (l_store (n := 1) (cs' := [vT (t_'), .slice none 0 0, sl Aq94 (b_45 ++ r84.1.Types) cq94, sl Aq99 (b_49 ++ r84.1.Templates) cq99, sl A54 b_53 c55, sl A58 b_57 c59, sl A62 b_61 c63, sl A66 b_65 c67, sl A70 b_69 c71, sl A74 b_73 c75]) s 1402 rfl rfl rfl rfl rfl rfl rfl rfl ?_); clear s; intro w hK s; clear hK
   obtain ⟨hk101, hg⟩ := chk_some hg
   refine S s <| nw <| sw <| lw <| yw rfl (y_boxField (o' := 4) · rfl underlying38 rfl rfl rfl) <| yw rfl (y_loadBox1 (kk := 1402) · rfl rfl rfl underlying34 rfl) <| yw rfl (y_boxField (o' := 4) · rfl underlying38 rfl rfl rfl) <| yw rfl (y_loadBox1 (kk := 1806) · rfl rfl rfl underlying34 rfl) fun a s => ?_
   obtain ⟨ns105, hs105, hns105⟩ := SlR.src (s.ft 148 rfl)
   replace s := s.add 164 (rdF REntryDecl ns105 (r84.1.Entries)) hns105
   refine l_seq rfl (l_append (sz := 7) (by_ := 136) (N := (b_53 ++ r84.1.Entries).length) s 700124 rfl rfl rfl underlying34 rfl rfl rfl rfl rfl hs105 (by rw [List.length_append]; try rfl) rfl (rmA hk101 rfl) (rmB hk101) rfl fun Aq104 cq104 a w hA hK s => ?_)
   replace s := s.add 165 (rdF REntryDecl (cs56 ++ ns105) (b_53 ++ r84.1.Entries)) (RdAll.append (s.ft 125 rfl) (s.ft 164 rfl))
   refine qq s rfl (y_boxField (o' := 4) s rfl underlying38 rfl rfl rfl) fun a s => ?_
   refine l_seq rfl (l_store (n := 1) (cs' := [vT (t_'), .slice none 0 0, sl Aq94 (b_45 ++ r84.1.Types) cq94, sl Aq99 (b_49 ++ r84.1.Templates) cq99, sl Aq104 (b_53 ++ r84.1.Entries) cq104, sl A58 b_57 c59, sl A62 b_61 c63, sl A66 b_65 c67, sl A70 b_69 c71, sl A74 b_73 c75]) s 1402 rfl rfl rfl rfl rfl rfl rfl rfl ?_); clear s; intro w hK s; clear hK
   obtain ⟨hk106, hg⟩ := chk_some hg
   refine S s <| nw <| sw <| lw <| yw rfl (y_boxField (o' := 5) · rfl underlying38 rfl rfl rfl) <| yw rfl (y_loadBox1 (kk := 1402) · rfl rfl rfl underlying35 rfl) <| yw rfl (y_boxField (o' := 5) · rfl underlying38 rfl rfl rfl) <| yw rfl (y_loadBox1 (kk := 1806) · rfl rfl rfl underlying35 rfl) fun a s => ?_
   obtain ⟨ns110, hs110, hns110⟩ := SlR.src (s.ft 149 rfl)
   replace s := s.add 168 (rdF RLexDecl ns110 (r84.1.LexRules)) hns110
   refine l_seq rfl (l_append (sz := 8) (by_ := 144) (N := (b_57 ++ r84.1.LexRules).length) s 700126 rfl rfl rfl underlying35 rfl rfl rfl rfl rfl hs110 (by rw [List.length_append]; try rfl) rfl (rmA hk106 rfl) (rmB hk106) rfl fun Aq109 cq109 a w hA hK s => ?_)
   replace s := s.add 169 (rdF RLexDecl (cs60 ++ ns110) (b_57 ++ r84.1.LexRules)) (RdAll.append (s.ft 127 rfl) (s.ft 168 rfl))
   refine qq s rfl (y_boxField (o' := 5) s rfl underlying38 rfl rfl rfl) fun a s => ?_
   refine l_seq rfl (l_store (n := 1) (cs' := [vT (t_'), .slice none 0 0, sl Aq94 (b_45 ++ r84.1.Types) cq94, sl Aq99 (b_49 ++ r84.1.Templates) cq99, sl Aq104 (b_53 ++ r84.1.Entries) cq104, sl Aq109 (b_57 ++ r84.1.LexRules) cq109, sl A62 b_61 c63, sl A66 b_65 c67, sl A70 b_69 c71, sl A74 b_73 c75]) s 1402 rfl rfl rfl rfl rfl rfl rfl rfl ?_); clear s; intro w hK s; clear hK
   obtain ⟨hk111, hg⟩ := chk_some hg
   refine S s <| nw <| sw <| lw <| yw rfl (y_boxField (o' := 6) · rfl underlying38 rfl rfl rfl) <| yw rfl (y_loadBox1 (kk := 1402) · rfl rfl rfl underlying33 rfl) <| yw rfl (y_boxField (o' := 6) · rfl underlying38 rfl rfl rfl) <| yw rfl (y_loadBox1 (kk := 1806) · rfl rfl rfl underlying33 rfl) fun a s => ?_
   obtain ⟨ns115, hs115, hns115⟩ := SlR.src (s.ft 150 rfl)
   replace s := s.add 172 (rdF RDef ns115 (r84.1.Rules)) hns115
   refine l_seq rfl (l_append (sz := 6) (by_ := 112) (N := (b_61 ++ r84.1.Rules).length) s 700128 rfl rfl rfl underlying33 rfl rfl rfl rfl rfl hs115 (by rw [List.length_append]; try rfl) rfl (rmA hk111 rfl) (rmB hk111) rfl fun Aq114 cq114 a w hA hK s => ?_)
   replace s := s.add 173 (rdF RDef (cs64 ++ ns115) (b_61 ++ r84.1.Rules)) (RdAll.append (s.ft 129 rfl) (s.ft 172 rfl))
   refine qq s rfl (y_boxField (o' := 6) s rfl underlying38 rfl rfl rfl) fun a s => ?_
   refine l_seq rfl (l_store (n := 1) (cs' := [vT (t_'), .slice none 0 0, sl Aq94 (b_45 ++ r84.1.Types) cq94, sl Aq99 (b_49 ++ r84.1.Templates) cq99, sl Aq104 (b_53 ++ r84.1.Entries) cq104, sl Aq109 (b_57 ++ r84.1.LexRules) cq109, sl Aq114 (b_61 ++ r84.1.Rules) cq114, sl A66 b_65 c67, sl A70 b_69 c71, sl A74 b_73 c75]) s 1402 rfl rfl rfl rfl rfl rfl rfl rfl ?_); clear s; intro w hK s; clear hK
   obtain ⟨hk116, hg⟩ := chk_some hg
   refine S s <| nw <| sw <| lw <| yw rfl (y_boxField (o' := 7) · rfl underlying38 rfl rfl rfl) <| yw rfl (y_loadBox1 (kk := 1402) · rfl rfl rfl underlying33 rfl) <| yw rfl (y_boxField (o' := 7) · rfl underlying38 rfl rfl rfl) <| yw rfl (y_loadBox1 (kk := 1806) · rfl rfl rfl underlying33 rfl) fun a s => ?_
   obtain ⟨ns120, hs120, hns120⟩ := SlR.src (s.ft 151 rfl)
   replace s := s.add 176 (rdF RDef ns120 (r84.1.Roots)) hns120
   refine l_seq rfl (l_append (sz := 6) (by_ := 112) (N := (b_65 ++ r84.1.Roots).length) s 700130 rfl rfl rfl underlying33 rfl rfl rfl rfl rfl hs120 (by rw [List.length_append]; try rfl) rfl (rmA hk116 rfl) (rmB hk116) rfl fun Aq119 cq119 a w hA hK s => ?_)
   replace s := s.add 177 (rdF RDef (cs68 ++ ns120) (b_65 ++ r84.1.Roots)) (RdAll.append (s.ft 131 rfl) (s.ft 176 rfl))
   refine qq s rfl (y_boxField (o' := 7) s rfl underlying38 rfl rfl rfl) fun a s => ?_
   refine l_seq rfl (l_store (n := 1) (cs' := [vT (t_'), .slice none 0 0, sl Aq94 (b_45 ++ r84.1.Types) cq94, sl Aq99 (b_49 ++ r84.1.Templates) cq99, sl Aq104 (b_53 ++ r84.1.Entries) cq104, sl Aq109 (b_57 ++ r84.1.LexRules) cq109, sl Aq114 (b_61 ++ r84.1.Rules) cq114, sl Aq119 (b_65 ++ r84.1.Roots) cq119, sl A70 b_69 c71, sl A74 b_73 c75]) s 1402 rfl rfl rfl rfl rfl rfl rfl rfl ?_); clear s; intro w hK s; clear hK
   obtain ⟨hk121, hg⟩ := chk_some hg
   refine S s <| nw <| sw <| lw <| yw rfl (y_boxField (o' := 8) · rfl underlying38 rfl rfl rfl) <| yw rfl (y_loadBox1 (kk := 1402) · rfl rfl rfl underlying36 rfl) <| yw rfl (y_boxField (o' := 8) · rfl underlying38 rfl rfl rfl) <| yw rfl (y_loadBox1 (kk := 1806) · rfl rfl rfl underlying36 rfl) fun a s => ?_
   obtain ⟨ns125, hs125, hns125⟩ := SlR.src (s.ft 152 rfl)
   replace s := s.add 180 (rdF (Rep.list Rep.str) ns125 (r84.1.Checks)) hns125
   refine l_seq rfl (l_append (sz := 1) (by_ := 24) (N := (b_69 ++ r84.1.Checks).length) s 700132 rfl rfl rfl underlying36 rfl rfl rfl rfl rfl hs125 (by rw [List.length_append]; try rfl) rfl (rmA hk121 rfl) (rmB hk121) rfl fun Aq124 cq124 a w hA hK s => ?_)
   replace s := s.add 181 (rdF (Rep.list Rep.str) (cs72 ++ ns125) (b_69 ++ r84.1.Checks)) (RdAll.append (s.ft 133 rfl) (s.ft 180 rfl))
   refine qq s rfl (y_boxField (o' := 8) s rfl underlying38 rfl rfl rfl) fun a s => ?_
   refine l_seq rfl (l_store (n := 1) (cs' := [vT (t_'), .slice none 0 0, sl Aq94 (b_45 ++ r84.1.Types) cq94, sl Aq99 (b_49 ++ r84.1.Templates) cq99, sl Aq104 (b_53 ++ r84.1.Entries) cq104, sl Aq109 (b_57 ++ r84.1.LexRules) cq109, sl Aq114 (b_61 ++ r84.1.Rules) cq114, sl Aq119 (b_65 ++ r84.1.Roots) cq119, sl Aq124 (b_69 ++ r84.1.Checks) cq124, sl A74 b_73 c75]) s 1402 rfl rfl rfl rfl rfl rfl rfl rfl ?_); clear s; intro w hK s; clear hK
   obtain ⟨hk126, hg⟩ := chk_some hg
   refine S s <| nw <| lw <| yw rfl (y_boxField (o' := 9) · rfl underlying38 rfl rfl rfl) <| yw rfl (y_loadBox1 (kk := 1402) · rfl rfl rfl underlying25 rfl) <| yw rfl (y_boxField (o' := 9) · rfl underlying38 rfl rfl rfl) <| yw rfl (y_loadBox1 (kk := 1806) · rfl rfl rfl underlying25 rfl) fun a s => ?_
   obtain ⟨ns130, hs130, hns130⟩ := SlR.src (s.ft 153 rfl)
   replace s := s.add 184 (rdF Rep.str ns130 (r84.1.Drops)) hns130
   refine l_seq rfl (l_append (sz := 1) (by_ := 16) (N := (b_73 ++ r84.1.Drops).length) s 700134 rfl rfl rfl underlying25 rfl rfl rfl rfl rfl hs130 (by rw [List.length_append]; try rfl) rfl (rmA hk126 rfl) (rmB hk126) rfl fun Aq129 cq129 a w hA hK s => ?_)
   replace s := s.add 185 (rdF Rep.str (cs76 ++ ns130) (b_73 ++ r84.1.Drops)) (RdAll.append (s.ft 135 rfl) (s.ft 184 rfl))
   refine qq s rfl (y_boxField (o' := 9) s rfl underlying38 rfl rfl rfl) fun a s => ?_
   refine l_seq rfl (l_store (n := 1) (cs' := [vT (t_'), .slice none 0 0, sl Aq94 (b_45 ++ r84.1.Types) cq94, sl Aq99 (b_49 ++ r84.1.Templates) cq99, sl Aq104 (b_53 ++ r84.1.Entries) cq104, sl Aq109 (b_57 ++ r84.1.LexRules) cq109, sl Aq114 (b_61 ++ r84.1.Rules) cq114, sl Aq119 (b_65 ++ r84.1.Roots) cq119, sl Aq124 (b_69 ++ r84.1.Checks) cq124, sl Aq129 (b_73 ++ r84.1.Drops) cq129]) s 1402 rfl rfl rfl rfl rfl rfl rfl rfl ?_); clear s; intro w hK s; clear hK
   apply wO
   refine p_inN ?_
   refine S s <| pw <| lw <| yw rfl (y_addN (i := t_44) (j := 1) · rfl rfl (in64.2 (by omega))) <| mw rfl <| nw <| alw 121 157 rfl <| alw 123 161 rfl <| alw 125 165 rfl <| alw 127 169 rfl <| alw 129 173 rfl <| alw 131 177 rfl <| alw 133 181 rfl <| alw 135 185 rfl fun a s => ?_
   exact ⟨m1, Nat.lt_succ_self _, ⟨(t_44 + 1), (b_45 ++ r84.1.Types), (b_49 ++ r84.1.Templates), (b_53 ++ r84.1.Entries), (b_57 ++ r84.1.LexRules), (b_61 ++ r84.1.Rules), (b_65 ++ r84.1.Roots), (b_69 ++ r84.1.Checks), (b_73 ++ r84.1.Drops), (Aq94), (cq94), (cs48 ++ ns95), (Aq99), (cq99), (cs52 ++ ns100), (Aq104), (cq104), (cs56 ++ ns105), (Aq109), (cq109), (cs60 ++ ns110), (Aq114), (cq114), (cs64 ++ ns115), (Aq119), (cq119), (cs68 ++ ns120), (Aq124), (cq124), (cs72 ++ ns125), (Aq129), (cq129), (cs76 ++ ns130), hg, (s.sb rfl rfl rfl)⟩⟩
  replace hg := br_f hg hc77
  apply wp_exit
  refine p_then ?_
  refine p_then ?_
  refine p_in ?_
  refine S s <| pw <| alw 105 121 rfl <| alw 107 123 rfl <| alw 109 125 rfl <| alw 111 127 rfl <| alw 113 129 rfl <| alw 115 131 rfl <| alw 117 133 rfl <| alw 119 135 rfl fun a s => ?_
  replace s := s.pk [(1000, 1000), (1402, 1402), (700104, 700120), (700106, 700122), (700108, 700124), (700110, 700126), (700112, 700128), (700114, 700130), (700116, 700132), (700118, 700134)] (by decide)
  exact ⟨(b_45), (b_49), (b_53), (b_57), (b_61), (b_65), (b_69), (b_73), (A46), (c47), (cs48), (A50), (c51), (cs52), (A54), (c55), (cs56), (A58), (c59), (cs60), (A62), (c63), (cs64), (A66), (c67), (cs68), (A70), (c71), (cs72), (A74), (c75), (cs76), hg, (s.sb rfl rfl rfl)⟩
 clear s a; rintro a w ⟨b_12, b_16, b_20, b_24, b_28, b_32, b_36, b_40, A13, c14, cs15, A17, c18, cs19, A21, c22, cs23, A25, c26, cs27, A29, c30, cs31, A33, c34, cs35, A37, c38, cs39, A41, c42, cs43, hg, s⟩
 subst hk11
 obtain ⟨r131, hr131, hg⟩ := bind_some hg
 refine S s <| sw <| sw <| lw <| yw rfl (y_loadAll (kk := 1402) · rfl rfl underlying38 rfl rfl) fun a s => ?_
 have hT := s
 replace hT := hT.freeze (R := RTypeDecl) (kk := 700104) (L' := [(1000, Ob.box b2 [vT ([]), .slice none 0 0, .slice none 0 0, .slice none 0 0, .slice none 0 0, .slice none 0 0, .slice none 0 0, .slice none 0 0, .slice none 0 0, .slice none 0 0] 38), (1402, Ob.box b10 [vT (t_'), .slice none 0 0, sl A13 b_12 c14, sl A17 b_16 c18, sl A21 b_20 c22, sl A25 b_24 c26, sl A29 b_28 c30, sl A33 b_32 c34, sl A37 b_36 c38, sl A41 b_40 c42] 38), (700106, Ob.row (A17) ((b_16).length) (c18) 62 6 (cs19)), (700108, Ob.row (A21) ((b_20).length) (c22) 89 7 (cs23)), (700110, Ob.row (A25) ((b_24).length) (c26) 94 8 (cs27)), (700112, Ob.row (A29) ((b_28).length) (c30) 62 6 (cs31)), (700114, Ob.row (A33) ((b_32).length) (c34) 62 6 (cs35)), (700116, Ob.row (A37) ((b_36).length) (c38) 25 1 (cs39)), (700118, Ob.row (A41) ((b_40).length) (c42) 9 1 (cs43))]) 194 rfl rfl (hT.ft 105 rfl) ⟨rfl, rfl, rfl, rfl, rfl, rfl, rfl, rfl, rfl, trivial⟩ rfl
 replace hT := hT.freeze (R := RDef) (kk := 700106) (L' := [(1000, Ob.box b2 [vT ([]), .slice none 0 0, .slice none 0 0, .slice none 0 0, .slice none 0 0, .slice none 0 0, .slice none 0 0, .slice none 0 0, .slice none 0 0, .slice none 0 0] 38), (1402, Ob.box b10 [vT (t_'), .slice none 0 0, sl A13 b_12 c14, sl A17 b_16 c18, sl A21 b_20 c22, sl A25 b_24 c26, sl A29 b_28 c30, sl A33 b_32 c34, sl A37 b_36 c38, sl A41 b_40 c42] 38), (700108, Ob.row (A21) ((b_20).length) (c22) 89 7 (cs23)), (700110, Ob.row (A25) ((b_24).length) (c26) 94 8 (cs27)), (700112, Ob.row (A29) ((b_28).length) (c30) 62 6 (cs31)), (700114, Ob.row (A33) ((b_32).length) (c34) 62 6 (cs35)), (700116, Ob.row (A37) ((b_36).length) (c38) 25 1 (cs39)), (700118, Ob.row (A41) ((b_40).length) (c42) 9 1 (cs43))]) 195 rfl rfl (hT.ft 107 rfl) ⟨rfl, rfl, rfl, rfl, rfl, rfl, rfl, rfl, trivial⟩ rfl
 replace hT := hT.freeze (R := REntryDecl) (kk := 700108) (L' := [(1000, Ob.box b2 [vT ([]), .slice none 0 0, .slice none 0 0, .slice none 0 0, .slice none 0 0, .slice none 0 0, .slice none 0 0, .slice none 0 0, .slice none 0 0, .slice none 0 0] 38), (1402, Ob.box b10 [vT (t_'), .slice none 0 0, sl A13 b_12 c14, sl A17 b_16 c18, sl A21 b_20 c22, sl A25 b_24 c26, sl A29 b_28 c30, sl A33 b_32 c34, sl A37 b_36 c38, sl A41 b_40 c42] 38), (700110, Ob.row (A25) ((b_24).length) (c26) 94 8 (cs27)), (700112, Ob.row (A29) ((b_28).length) (c30) 62 6 (cs31)), (700114, Ob.row (A33) ((b_32).length) (c34) 62 6 (cs35)), (700116, Ob.row (A37) ((b_36).length) (c38) 25 1 (cs39)), (700118, Ob.row (A41) ((b_40).length) (c42) 9 1 (cs43))]) 196 rfl rfl (hT.ft 109 rfl) ⟨rfl, rfl, rfl, rfl, rfl, rfl, rfl, trivial⟩ rfl
 replace hT := hT.freeze (R := RLexDecl) (kk := 700110) (L' := [(1000, Ob.box b2 [vT ([]), .slice none 0 0, .slice none 0 0, .slice none 0 0, .slice none 0 0, .slice none 0 0, .slice none 0 0, .slice none 0 0, .slice none 0 0, .slice none 0 0] 38), (1402, Ob.box b10 [vT (t_'), .slice none 0 0, sl A13 b_12 c14, sl A17 b_16 c18, sl A21 b_20 c22, sl A25 b_24 c26, sl A29 b_28 c30, sl A33 b_32 c34, sl A37 b_36 c38, sl A41 b_40 c42] 38), (700112, Ob.row (A29) ((b_28).length) (c30) 62 6 (cs31)), (700114, Ob.row (A33) ((b_32).length) (c34) 62 6 (cs35)), (700116, Ob.row (A37) ((b_36).length) (c38) 25 1 (cs39)), (700118, Ob.row (A41) ((b_40).length) (c42) 9 1 (cs43))]) 197 rfl rfl (hT.ft 111 rfl) ⟨rfl, rfl, rfl, rfl, rfl, rfl, trivial⟩ rfl
 replace hT := hT.freeze (R := RDef) (kk := 700112) (L' := [(1000, Ob.box b2 [vT ([]), .slice none 0 0, .slice none 0 0, .slice none 0 0, .slice none 0 0, .slice none 0 0, .slice none 0 0, .slice none 0 0, .slice none 0 0, .slice none 0 0] 38), (1402, Ob.box b10 [vT (t_'), .slice none 0 0, sl A13 b_12 c14, sl A17 b_16 c18, sl A21 b_20 c22, sl A25 b_24 c26, sl A29 b_28 c30, sl A33 b_32 c34, sl A37 b_36 c38, sl A41 b_40 c42] 38), (700114, Ob.row (A33) ((b_32).length) (c34) 62 6 (cs35)), (700116, Ob.row (A37) ((b_36).length) (c38) 25 1 (cs39)), (700118, Ob.row (A41) ((b_40).length) (c42) 9 1 (cs43))]) 198 rfl rfl (hT.ft 113 rfl) ⟨rfl, rfl, rfl, rfl, rfl, trivial⟩ rfl
 replace hT := hT.freeze (R := RDef) (kk := 700114) (L' := [(1000, Ob.box b2 [vT ([]), .slice none 0 0, .slice none 0 0, .slice none 0 0, .slice none 0 0, .slice none 0 0, .slice none 0 0, .slice none 0 0, .slice none 0 0, .slice none 0 0] 38), (1402, Ob.box b10 [vT (t_'), .slice none 0 0, sl A13 b_12 c14, sl A17 b_16 c18, sl A21 b_20 c22, sl A25 b_24 c26, sl A29 b_28 c30, sl A33 b_32 c34, sl A37 b_36 c38, sl A41 b_40 c42] 38), (700116, Ob.row (A37) ((b_36).length) (c38) 25 1 (cs39)), (700118, Ob.row (A41) ((b_40).length) (c42) 9 1 (cs43))]) 199 rfl rfl (hT.ft 115 rfl) ⟨rfl, rfl, rfl, rfl, trivial⟩ rfl
 replace hT := hT.freeze (R := (Rep.list Rep.str)) (kk := 700116) (L' := [(1000, Ob.box b2 [vT ([]), .slice none 0 0, .slice none 0 0, .slice none 0 0, .slice none 0 0, .slice none 0 0, .slice none 0 0, .slice none 0 0, .slice none 0 0, .slice none 0 0] 38), (1402, Ob.box b10 [vT (t_'), .slice none 0 0, sl A13 b_12 c14, sl A17 b_16 c18, sl A21 b_20 c22, sl A25 b_24 c26, sl A29 b_28 c30, sl A33 b_32 c34, sl A37 b_36 c38, sl A41 b_40 c42] 38), (700118, Ob.row (A41) ((b_40).length) (c42) 9 1 (cs43))]) 200 rfl rfl (hT.ft 117 rfl) ⟨rfl, rfl, rfl, trivial⟩ rfl
 replace hT := hT.freeze (R := Rep.str) (kk := 700118) (L' := [(1000, Ob.box b2 [vT ([]), .slice none 0 0, .slice none 0 0, .slice none 0 0, .slice none 0 0, .slice none 0 0, .slice none 0 0, .slice none 0 0, .slice none 0 0, .slice none 0 0] 38), (1402, Ob.box b10 [vT (t_'), .slice none 0 0, sl A13 b_12 c14, sl A17 b_16 c18, sl A21 b_20 c22, sl A25 b_24 c26, sl A29 b_28 c30, sl A33 b_32 c34, sl A37 b_36 c38, sl A41 b_40 c42] 38)]) 201 rfl rfl (hT.ft 119 rfl) ⟨rfl, rfl, trivial⟩ rfl
 refine lV s rfl func36 (c_module_repeats n _ _ hT.lt (Module.mk t_' [] b_12 b_16 b_20 b_24 b_28 b_32 b_36 b_40) (none) (0) (A13) (c14) (A17) (c18) (A21) (c22) (A25) (c26) (A29) (c30) (A33) (c34) (A37) (c38) (A41) (c42) (by omega) (SlR.nil_ _ _ _) (hT.ft 194 rfl) (hT.ft 195 rfl) (hT.ft 196 rfl) (hT.ft 197 rfl) (hT.ft 198 rfl) (hT.ft 199 rfl) (hT.ft 200 rfl) (hT.ft 201 rfl) _ hr131) fun a w hK s => ?_
 apply wN
 refine c_cond s rfl (fun hc136 => ?_) (fun hc136 => ?_)
 ·replace hg := br_t hg hc136
  apply wR
  refine qq s rfl (y_build (parts := []) (ps := []) (cells := #[vT ([]), .slice none 0 0, .slice none 0 0, .slice none 0 0, .slice none 0 0, .slice none 0 0, .slice none 0 0, .slice none 0 0, .slice none 0 0, .slice none 0 0]) s rfl (by kernel_rfl)) fun a s => ?_
  refine l_seq rfl (l_store (n := 10) (cs' := [vT ([]), .slice none 0 0, .slice none 0 0, .slice none 0 0, .slice none 0 0, .slice none 0 0, .slice none 0 0, .slice none 0 0, .slice none 0 0, .slice none 0 0]) s 1000 rfl rfl rfl rfl rfl rfl rfl rfl ?_); clear s; intro w hK s; clear hK
  refine S s <| aw rfl <| nw fun a s => ?_
  apply wp_ret
  refine p_thenR ?_
  obtain rfl := Option.some.inj hg
  refine fin2 (fn := Tryz.f17) s rfl (r_cell (kk := 1000) (n := 10) (vs := [vT ([]), .slice none 0 0, .slice none 0 0, .slice none 0 0, .slice none 0 0, .slice none 0 0, .slice none 0 0, .slice none 0 0, .slice none 0 0, .slice none 0 0]) s rfl rfl underlying38 rfl rfl rfl rfl) (r_tmp s rfl) ?_
  exact ⟨(none), (0), (none), (0), (none), (0), (none), (0), (none), (0), (none), (0), (none), (0), (none), (0), (none), (0), rfl, (Nat.le_of_ble_eq_true (by rfl)), (SlR.nil_ _ _ _), (SlR.nil_ _ _ _), (SlR.nil_ _ _ _), (SlR.nil_ _ _ _), (SlR.nil_ _ _ _), (SlR.nil_ _ _ _), (SlR.nil_ _ _ _), (SlR.nil_ _ _ _), (SlR.nil_ _ _ _)⟩
 replace hg := br_n hg hc136
 refine S s <| kw <| pw <| sw <| vw <| mw rfl <| yw rfl (y_lenSlice · rfl underlying25) <| mw rfl <| nw fun a s => ?_
 obtain ⟨k137, hg, hk137⟩ := jn_some hg
 refine c_post (fun a w => k137 = some r ∧ St (cx f17 M w0) [(4, vP b2 0), (8, vP b10 0)] [(1000, Ob.box b2 [vT ([]), .slice none 0 0, .slice none 0 0, .slice none 0 0, .slice none 0 0, .slice none 0 0, .slice none 0 0, .slice none 0 0, .slice none 0 0, .slice none 0 0] 38), (1402, Ob.box b10 [vT (t_'), .slice none 0 0, sl A13 b_12 c14, sl A17 b_16 c18, sl A21 b_20 c22, sl A25 b_24 c26, sl A29 b_28 c30, sl A33 b_32 c34, sl A37 b_36 c38, sl A41 b_40 c42] 38), (700104, Ob.row (A13) ((b_12).length) (c14) 49 3 (cs15)), (700106, Ob.row (A17) ((b_16).length) (c18) 62 6 (cs19)), (700108, Ob.row (A21) ((b_20).length) (c22) 89 7 (cs23)), (700110, Ob.row (A25) ((b_24).length) (c26) 94 8 (cs27)), (700112, Ob.row (A29) ((b_28).length) (c30) 62 6 (cs31)), (700114, Ob.row (A33) ((b_32).length) (c34) 62 6 (cs35)), (700116, Ob.row (A37) ((b_36).length) (c38) 25 1 (cs39)), (700118, Ob.row (A41) ((b_40).length) (c42) 9 1 (cs43))] [(105, rdF RTypeDecl (cs15) (b_12)), (107, rdF RDef (cs19) (b_16)), (109, rdF REntryDecl (cs23) (b_20)), (111, rdF RLexDecl (cs27) (b_24)), (113, rdF RDef (cs31) (b_28)), (115, rdF RDef (cs35) (b_32)), (117, rdF (Rep.list Rep.str) (cs39) (b_36)), (119, rdF Rep.str (cs43) (b_40))] a w) ?_ ?_
 ·apply wp_block
  refine c_loop (σ := Nat) (fun m2 a w => ∃ (t_138 : Nat), module_Link_L1 n t_ r3 k137 m2 t_138 = some r ∧ St (cx f17 M w0) [(0, sl Ap01 t_ cp01), (4, vP b2 0), (8, vP b10 0), (94, sl Au7a1 r3.1 cu7a1), (95, vI ((((r3.1).length : Nat) : Int))), (96, vI (((t_138 : Nat) : Int)))] [(1000, Ob.box b2 [vT ([]), .slice none 0 0, .slice none 0 0, .slice none 0 0, .slice none 0 0, .slice none 0 0, .slice none 0 0, .slice none 0 0, .slice none 0 0, .slice none 0 0] 38), (1402, Ob.box b10 [vT (t_'), .slice none 0 0, sl A13 b_12 c14, sl A17 b_16 c18, sl A21 b_20 c22, sl A25 b_24 c26, sl A29 b_28 c30, sl A33 b_32 c34, sl A37 b_36 c38, sl A41 b_40 c42] 38), (700104, Ob.row (A13) ((b_12).length) (c14) 49 3 (cs15)), (700106, Ob.row (A17) ((b_16).length) (c18) 62 6 (cs19)), (700108, Ob.row (A21) ((b_20).length) (c22) 89 7 (cs23)), (700110, Ob.row (A25) ((b_24).length) (c26) 94 8 (cs27)), (700112, Ob.row (A29) ((b_28).length) (c30) 62 6 (cs31)), (700114, Ob.row (A33) ((b_32).length) (c34) 62 6 (cs35)), (700116, Ob.row (A37) ((b_36).length) (c38) 25 1 (cs39)), (700118, Ob.row (A41) ((b_40).length) (c42) 9 1 (cs43))] [(101, sF RModule Ap01 cp01 t_), (103, sF Rep.str Au7a1 cu7a1 r3.1), (105, rdF RTypeDecl (cs15) (b_12)), (107, rdF RDef (cs19) (b_16)), (109, rdF REntryDecl (cs23) (b_20)), (111, rdF RLexDecl (cs27) (b_24)), (113, rdF RDef (cs31) (b_28)), (115, rdF RDef (cs35) (b_32)), (117, rdF (Rep.list Rep.str) (cs39) (b_36)), (119, rdF Rep.str (cs43) (b_40))] a w) (fun m2 => m2) n ⟨(0), hg, (s.sb rfl rfl rfl)⟩ ?_
  clear s a; rintro m2 a w ⟨t_138, hg, s⟩
  rcases m2 with _ | m2
  ·rw [module_Link_L1] at hg; cases hg
  rw [module_Link_L1] at hg
  refine S s <| vw <| yw rfl (y_lssN (i := t_138) (j := ((r3.1).length)) · rfl rfl) <| nw <| sw fun a s => c_dec s rfl (fun hc139 => ?_) (fun hc139 => ?_)
  ·replace hg := br_t hg hc139
   have hmx140 := SlR.mx (s.ft 103 rfl)
   obtain ⟨x142, hx142, hg⟩ := bind_some hg
   refine S s <| kw <| pw <| sw <| bw <| sw <| lw fun a s => ?_
   obtain ⟨p144, hep144, hlq145, hmq145, csq145, hdq145, hcq145⟩ := SlR.elemX (s.ft 103 rfl) hx142
   refine qq s rfl (y_elem (sz := 1) (i := t_138) s rfl rfl underlying25 rfl hep144 rfl (lt_of_get hx142)) fun a s => ?_
   obtain ⟨rfl, lq1451⟩ := hdq145
   obtain ⟨r146, hr146, hg⟩ := bind_some hg
   refine S s <| yw rfl (y_ldp1 · rfl hlq145 hmq145 (hcq145 0 _ rfl) underlying9 rfl) <| aw rfl <| nw <| sw <| lw <| mw rfl <| mw rfl fun a s => ?_
   refine lC s rfl func27 (c_module_find n _ _ s.lt _ _ _ (s.ft 101 rfl) _ (by omega) _ hr146) fun v150 a w hK hp s => ?_
   obtain ⟨Au151a2, cu151a2, Au151a3, cu151a3, Au151a4, cu151a4, Au151a5, cu151a5, Au151a6, cu151a6, Au151a7, cu151a7, Au151a8, cu151a8, Au151a9, cu151a9, Au151a10, cu151a10, rfl, lu151a1, hu151a2, hu151a3, hu151a4, hu151a5, hu151a6, hu151a7, hu151a8, hu151a9, hu151a10⟩ := hp
   refine S s <| nsw 211 hu151a2 <| nsw 212 hu151a3 <| nsw 213 hu151a4 <| nsw 214 hu151a5 <| nsw 215 hu151a6 <| nsw 216 hu151a7 <| nsw 217 hu151a8 <| nsw 218 hu151a9 <| nsw 219 hu151a10 <| mw rfl <| yw rfl (y_extract · rfl rfl) <| yw rfl (y_extract · rfl rfl) fun a s => ?_
   refine l_seq rfl (l_alloc (zs := [vT ([]), .slice none 0 0, .slice none 0 0, .slice none 0 0, .slice none 0 0, .slice none 0 0, .slice none 0 0, .slice none 0 0, .slice none 0 0, .slice none 0 0]) s 3306 rfl rfl rfl rfl fun b152 a w hb hK s => ?_)
   refine l_seq rfl (l_store (n := 10) (cs' := [vT r146.1.Name, sl Au151a2 r146.1.Imports cu151a2, sl Au151a3 r146.1.Types cu151a3, sl Au151a4 r146.1.Templates cu151a4, sl Au151a5 r146.1.Entries cu151a5, sl Au151a6 r146.1.LexRules cu151a6, sl Au151a7 r146.1.Rules cu151a7, sl Au151a8 r146.1.Roots cu151a8, sl Au151a9 r146.1.Checks cu151a9, sl Au151a10 r146.1.Drops cu151a10]) s 3306 rfl rfl rfl rfl rfl rfl rfl rfl ?_); clear s; intro w hK s; clear hK
   obtain ⟨r153, hr153, hg⟩ := bind_some hg
   refine S s <| aw rfl <| nw <| sw <| lw <| mw rfl <| mw rfl fun a s => ?_
   refine lC s rfl func15 (c_module_Visible n _ _ s.lt _ _ _ (s.ft 101 rfl) _ (by omega) _ hr153) fun v157 a w hK hp s => ?_
   obtain ⟨Au158a1, cu158a1, rfl, hu158a1⟩ := hp
   replace s := s.ns 221 hu158a1
   refine l_seq rfl (l_alloc (zs := [.slice none 0 0]) s 3403 rfl rfl rfl rfl fun b159 a w hb hK s => ?_)
   refine l_seq rfl (l_store (n := 1) (cs' := [sl Au158a1 r153 cu158a1]) s 3403 rfl rfl rfl rfl rfl rfl rfl rfl ?_); clear s; intro w hK s; clear hK
   obtain ⟨r160, hr160, hg⟩ := bind_some hg
   obtain ⟨r163, hr163, hg⟩ := bind_some hg
   refine S s <| nw <| sw <| lw <| yw rfl (y_loadAll (kk := 3306) · rfl rfl underlying38 rfl rfl) fun a s => ?_
   refine lC s rfl func38 (c_module_uses n _ _ s.lt _ _ _ _ _ _ _ _ _ _ _ _ _ _ _ _ _ _ _ (by omega) (s.ft 211 rfl) (s.ft 212 rfl) (s.ft 213 rfl) (s.ft 214 rfl) (s.ft 215 rfl) (s.ft 216 rfl) (s.ft 217 rfl) (s.ft 218 rfl) (s.ft 219 rfl) _ hr160) fun v166 a w hK hp s => ?_
   obtain ⟨Au167a1, cu167a1, rfl, hu167a1⟩ := hp
   replace s := s.ns 224 hu167a1
   replace s := s.freezeBox (L' := [(1000, Ob.box b2 [vT ([]), .slice none 0 0, .slice none 0 0, .slice none 0 0, .slice none 0 0, .slice none 0 0, .slice none 0 0, .slice none 0 0, .slice none 0 0, .slice none 0 0] 38), (1402, Ob.box b10 [vT (t_'), .slice none 0 0, sl A13 b_12 c14, sl A17 b_16 c18, sl A21 b_20 c22, sl A25 b_24 c26, sl A29 b_28 c30, sl A33 b_32 c34, sl A37 b_36 c38, sl A41 b_40 c42] 38), (3306, Ob.box b152 [vT r146.1.Name, sl Au151a2 r146.1.Imports cu151a2, sl Au151a3 r146.1.Types cu151a3, sl Au151a4 r146.1.Templates cu151a4, sl Au151a5 r146.1.Entries cu151a5, sl Au151a6 r146.1.LexRules cu151a6, sl Au151a7 r146.1.Rules cu151a7, sl Au151a8 r146.1.Roots cu151a8, sl Au151a9 r146.1.Checks cu151a9, sl Au151a10 r146.1.Drops cu151a10] 38), (700104, Ob.row (A13) ((b_12).length) (c14) 49 3 (cs15)), (700106, Ob.row (A17) ((b_16).length) (c18) 62 6 (cs19)), (700108, Ob.row (A21) ((b_20).length) (c22) 89 7 (cs23)), (700110, Ob.row (A25) ((b_24).length) (c26) 94 8 (cs27)), (700112, Ob.row (A29) ((b_28).length) (c30) 62 6 (cs31)), (700114, Ob.row (A33) ((b_32).length) (c34) 62 6 (cs35)), (700116, Ob.row (A37) ((b_36).length) (c38) 25 1 (cs39)), (700118, Ob.row (A41) ((b_40).length) (c42) 9 1 (cs43))]) 225 3403 rfl ⟨rfl, rfl, rfl, rfl, rfl, rfl, rfl, rfl, rfl, rfl, rfl, trivial⟩ rfl
   refine qq s rfl (y_makeFunc (xs := [.tmp 17]) (vs := [vP b159 0]) s rfl) fun a s => ?_
   refine lV s rfl func37 (c_slices_ContainsFunc_string n _ _ s.lt _ _ _ (s.ft 224 rfl) _ _ _ ⟨⟨_, _, func39, rfl, by kernel_rfl⟩, fun M1 w1 hk hm hlt vs x r hp hr => by obtain ⟨rfl, la1⟩ := hp; exact c_module_Link_1 n M1 w1 hlt (x) la1 b159 (r153) (Au158a1) (cu158a1) (Fact.move (sF Rep.str Au158a1 cu158a1 r153) hk hm (s.ft 221 rfl)) (Fact.move (boxF b159 [sl Au158a1 r153 cu158a1] 25) hk hm (s.ft 225 rfl)) r hr⟩ _ hr163) fun a w hK s => ?_
   apply wN
   refine c_cond s rfl (fun hc170 => ?_) (fun hc170 => ?_)
   ·replace hg := br_t hg hc170
    refine S s <| vw <| yw rfl (y_build (parts := []) (ps := []) (cells := #[vT ([]), .slice none 0 0, .slice none 0 0, .slice none 0 0, .slice none 0 0, .slice none 0 0, .slice none 0 0, .slice none 0 0, .slice none 0 0, .slice none 0 0]) · rfl (by kernel_rfl)) fun a s => ?_
    refine l_seq rfl (l_store (n := 10) (cs' := [vT ([]), .slice none 0 0, .slice none 0 0, .slice none 0 0, .slice none 0 0, .slice none 0 0, .slice none 0 0, .slice none 0 0, .slice none 0 0, .slice none 0 0]) s 1000 rfl rfl rfl rfl rfl rfl rfl rfl ?_); clear s; intro w hK s; clear hK
    refine S s <| aw rfl <| nw fun a s => ?_
    apply wp_ret
    refine p_inR ?_
    refine p_thenR ?_
    refine p_thenR ?_
    refine p_inR ?_
    refine p_thenR ?_
    obtain rfl := Option.some.inj hg
    refine fin2 (fn := Tryz.f17) s rfl (r_cell (kk := 1000) (n := 10) (vs := [vT ([]), .slice none 0 0, .slice none 0 0, .slice none 0 0, .slice none 0 0, .slice none 0 0, .slice none 0 0, .slice none 0 0, .slice none 0 0, .slice none 0 0]) s rfl rfl underlying38 rfl rfl rfl rfl) (r_tmp s rfl) ?_
    exact ⟨(none), (0), (none), (0), (none), (0), (none), (0), (none), (0), (none), (0), (none), (0), (none), (0), (none), (0), rfl, (Nat.le_of_ble_eq_true (by rfl)), (SlR.nil_ _ _ _), (SlR.nil_ _ _ _), (SlR.nil_ _ _ _), (SlR.nil_ _ _ _), (SlR.nil_ _ _ _), (SlR.nil_ _ _ _), (SlR.nil_ _ _ _), (SlR.nil_ _ _ _), (SlR.nil_ _ _ _)⟩
   replace hg := br_n hg hc170
   apply wp_skip
   refine p_inN ?_
   refine S s <| pw <| lw <| yw rfl (y_addN (i := t_138) (j := 1) · rfl rfl (in64.2 (by omega))) <| mw rfl <| nw fun a s => ?_
   exact ⟨m2, Nat.lt_succ_self _, ⟨(t_138 + 1), hg, (s.sb rfl rfl rfl)⟩⟩
  replace hg := br_f hg hc139
  apply wp_exit
  refine p_then ?_
  refine p_then ?_
  refine p_in ?_
  apply pN
  exact ⟨hg, (s.sb rfl rfl rfl)⟩
 clear s a; rintro a w ⟨hg, s⟩
 subst hk137
 apply wR
 refine qq s rfl (y_loadAll (kk := 1402) s rfl rfl underlying38 rfl rfl) fun a s => ?_
 refine l_seq rfl (l_store (n := 10) (cs' := [vT (t_'), .slice none 0 0, sl A13 b_12 c14, sl A17 b_16 c18, sl A21 b_20 c22, sl A25 b_24 c26, sl A29 b_28 c30, sl A33 b_32 c34, sl A37 b_36 c38, sl A41 b_40 c42]) s 1000 rfl rfl rfl rfl rfl rfl rfl rfl ?_); clear s; intro w hK s; clear hK
 refine S s <| aw rfl <| nw fun a s => ?_
 apply wp_ret
 obtain rfl := Option.some.inj hg
 refine fin2 (fn := Tryz.f17) s rfl (r_cell (kk := 1000) (n := 10) (vs := [vT (t_'), .slice none 0 0, sl A13 b_12 c14, sl A17 b_16 c18, sl A21 b_20 c22, sl A25 b_24 c26, sl A29 b_28 c30, sl A33 b_32 c34, sl A37 b_36 c38, sl A41 b_40 c42]) s rfl rfl underlying38 rfl rfl rfl rfl) (r_tmp s rfl) ?_
 exact ⟨(none), (0), (A13), (c14), (A17), (c18), (A21), (c22), (A25), (c26), (A29), (c30), (A33), (c34), (A37), (c38), (A41), (c42), rfl, (by omega), (SlR.nil_ _ _ _), (s.rowOut (R := RTypeDecl) (kk := 700104) rfl rfl (s.ft 105 rfl)), (s.rowOut (R := RDef) (kk := 700106) rfl rfl (s.ft 107 rfl)), (s.rowOut (R := REntryDecl) (kk := 700108) rfl rfl (s.ft 109 rfl)), (s.rowOut (R := RLexDecl) (kk := 700110) rfl rfl (s.ft 111 rfl)), (s.rowOut (R := RDef) (kk := 700112) rfl rfl (s.ft 113 rfl)), (s.rowOut (R := RDef) (kk := 700114) rfl rfl (s.ft 115 rfl)), (s.rowOut (R := (Rep.list Rep.str)) (kk := 700116) rfl rfl (s.ft 117 rfl)), (s.rowOut (R := Rep.str) (kk := 700118) rfl rfl (s.ft 119 rfl))⟩
end Go.Proofs.YtbhjplflnkidgaaGreat


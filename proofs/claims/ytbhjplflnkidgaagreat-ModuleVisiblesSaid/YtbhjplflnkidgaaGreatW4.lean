/- Chapter 22: the walks, part 4 -/
import Derived.Test.YtbhjplflnkidgaaGreatW3
namespace Go.Proofs.YtbhjplflnkidgaaGreat
open Go.Gl Go.RowKit Tryz
set_option linter.unusedVariables false
set_option linter.unusedSimpArgs false
set_option maxRecDepth 4000

set_option maxHeartbeats 1000000 in
theorem c_desc_Names_1 (n : Nat) : ∀ (M : Bs) (w0 : World) (hM : ∀ b, M b → b < w0.heap.size) (C : Bs) (d_ : Desc) (Ap03 : Option Addr) (cp03 : Nat) (Ap04 : Option Addr) (cp04 : Nat) (lp02 : (d_.Name).length ≤ 9223372036854775807) (bf0 : Nat) (c0_ : (List (List UInt8))) (Af01 : Option Addr) (cf01 : Nat) (csf00 : List Value) (bf1 : Nat) (c1_ : (List (List UInt8))) (Af11 : Option Addr) (cf11 : Nat) (csf10 : List Value) (bf2 : Nat) (hW : Wd ⟨0, M, C, w0⟩ [(9100000, Ob.box bf0 [.slice (Af01) ((c0_).length) (cf01)] 25), (9100100, Ob.box bf1 [.slice (Af11) ((c1_).length) (cf11)] 25), (9200000, Ob.row (Af01) ((c0_).length) (cf01) 9 1 (csf00)), (9200100, Ob.row (Af11) ((c1_).length) (cf11) 9 1 (csf10))] [(9300000, rdF Rep.str (csf00) (c0_)), (9300100, rdF Rep.str (csf10) (c1_)), (9400000, slF Rep.str (Ap03) ((d_.Path).length) (cp03) (d_.Path)), (9400001, slF RDesc (Ap04) ((d_.Kids).length) (cp04) (d_.Kids)), (9400002, boxF bf2 [.func (.func 107) #[] #[.pointer (some ⟨bf0, 0, none⟩), .pointer (some ⟨bf1, 0, none⟩), .pointer (some ⟨bf2, 0, none⟩)]] 139)] w0) (r : ((List (List UInt8)) × (List (List UInt8)))) (hg : desc_Names_1 n d_ c0_ c1_ = some r),
    Calls Tryz.prog 107 [.agg #[.int .i64 (d_.Op), .string (bs (d_.Name)), .slice (Ap03) ((d_.Path).length) (cp03), .slice (Ap04) ((d_.Kids).length) (cp04)], .pointer (some ⟨bf0, 0, none⟩), .pointer (some ⟨bf1, 0, none⟩), .pointer (some ⟨bf2, 0, none⟩)].toArray w0 (Ret C w0 fun v w => ∃ (Am01 : Option Addr), ∃ (cm01 : Nat), ∃ (csm0_0 : List Value), ∃ (Am11 : Option Addr), ∃ (cm11 : Nat), ∃ (csm1_0 : List Value), v = .tuple #[] ∧ (Wd ⟨0, M, C, w0⟩ [(9100000, Ob.box bf0 [.slice (Am01) ((r.1).length) (cm01)] 25), (9100100, Ob.box bf1 [.slice (Am11) ((r.2).length) (cm11)] 25), (9200000, Ob.row (Am01) ((r.1).length) (cm01) 9 1 (csm0_0)), (9200100, Ob.row (Am11) ((r.2).length) (cm11) 9 1 (csm1_0))] [(9300000, rdF Rep.str (csm0_0) (r.1)), (9300100, rdF Rep.str (csm1_0) (r.2))] w)) := by
 induction n with
 | zero => intros; rename_i hg; rw [desc_Names_1] at hg; cases hg
 | succ n c_self =>
 intro M w0 hM C d_ Ap03 cp03 Ap04 cp04 lp02 bf0 c0_ Af01 cf01 csf00 bf1 c1_ Af11 cf11 csf10 bf2 hW r hg
 rw [desc_Names_1] at hg
 refine enterL M C func107 rfl rfl hW ?_
 intro a s
 refine S s <| alw 104 9400000 rfl <| alw 105 9400001 rfl <| alw 106 9400002 rfl <| vw fun a s => ?_
 refine l_seq rfl (l_box (zs := [vI d_.Op, vT d_.Name, sl Ap03 d_.Path cp03, sl Ap04 d_.Kids cp04]) s 1000 rfl rfl rfl rfl fun b2 a w hb hK s => ?_)
 refine S s <| nw <| sw <| vw <| yw rfl (y_boxField (o' := 0) · rfl underlying60 rfl rfl rfl) <| yw rfl (y_loadBox1 (kk := 1000) · rfl rfl rfl underlying3 rfl) <| nw fun a s => ?_
 obtain ⟨k3, hg, hk3⟩ := jn_some hg
 refine c_post (fun a w => ∃ (b_4 : (List (List UInt8))) (b_8 : (List (List UInt8))) (A5 : Option Addr) (c6 : Nat) (cs7 : List Value) (A9 : Option Addr) (c10 : Nat) (cs11 : List Value), k3 b_4 b_8 = some r ∧ St (⟨Tryz.f107.ntmps, M, C, w0⟩ : Ctx) [(1, vP bf0 0), (2, vP bf1 0), (3, vP bf2 0), (4, vP b2 0)] [(1000, Ob.box b2 [vI d_.Op, vT d_.Name, sl Ap03 d_.Path cp03, sl Ap04 d_.Kids cp04] 60), (700107, Ob.row (A5) ((b_4).length) (c6) 9 1 (cs7)), (700109, Ob.row (A9) ((b_8).length) (c10) 9 1 (cs11)), (9100000, Ob.box bf0 [sl A5 b_4 c6] 25), (9100100, Ob.box bf1 [sl A9 b_8 c10] 25)] [(104, sF Rep.str Ap03 cp03 d_.Path), (105, sF RDesc Ap04 cp04 d_.Kids), (106, boxF bf2 [.func (.func 107) #[] #[vP bf0 0, vP bf1 0, vP bf2 0]] 139), (108, rdF Rep.str (cs7) (b_4)), (110, rdF Rep.str (cs11) (b_8))] a w) ?_ ?_
 ·refine S s <| bw <| vw <| yw rfl (y_eql · rfl rfl) <| aw rfl <| nw fun a s => c_dec s rfl (fun hc12 => ?_) (fun hc12 => ?_)
  ·replace hg := br_t hg hc12
   obtain ⟨hk14, hg⟩ := chk_some hg
   refine S s <| lw <| yw rfl (y_loadBox1 (kk := 9100000) · rfl rfl rfl underlying25 rfl) <| yw rfl (y_boxField (o' := 1) · rfl underlying60 rfl rfl rfl) <| yw rfl (y_loadBox1 (kk := 1000) · rfl rfl rfl underlying9 rfl) fun a s => ?_
   refine l_seq rfl (l_buildDense (sz := 1) s 1303 rfl rfl rfl underlying25 rfl rfl rfl rfl rfl rfl rfl fun b17 a w hbb17 hK s => ?_)
   clear hbb17
   replace s := s.add 113 (rdF Rep.str (cellsOfL [vT d_.Name]) ([d_.Name])) (RdAll.cons (by exact ⟨rfl, (by omega)⟩) (RdAll.nil _ _ _))
   have hs19 := row_src (s.wd.holds 1303 _ rfl) (RdAll.one (s.ft 113 rfl))
   refine l_seq rfl (l_append (sz := 1) (by_ := 16) (N := (c0_ ++ [d_.Name]).length) s 9200000 rfl rfl rfl underlying25 rfl rfl rfl rfl rfl hs19 (by rw [List.length_append]; try rfl) rfl (rmA hk14 rfl) (rmB hk14) rfl fun Aq18 cq18 a w hA hK s => ?_)
   replace s := s.add 114 (rdF Rep.str (csf00 ++ (cellsOfL [vT d_.Name])) (c0_ ++ [d_.Name])) (RdAll.append (s.ft 9300000 rfl) (s.ft 113 rfl))
   refine l_seq rfl (l_store (n := 1) (cs' := [sl Aq18 (c0_ ++ [d_.Name]) cq18]) s 9100000 rfl rfl rfl rfl rfl rfl rfl rfl ?_); clear s; intro w hK s; clear hK
   apply wO
   refine p_inN ?_
   refine S s <| pw <| alw 108 114 rfl <| alw 110 9300100 rfl fun a s => ?_
   replace s := s.pk [(1000, 1000), (1303, 1303), (700107, 9200000), (700109, 9200100), (9100000, 9100000), (9100100, 9100100)] (by decide)
   exact ⟨(c0_ ++ [d_.Name]), (c1_), (Aq18), (cq18), (csf00 ++ (cellsOfL [vT d_.Name])), (Af11), (cf11), (csf10), hg, (s.sb rfl rfl rfl)⟩
  replace hg := br_f hg hc12
  refine S s <| vw <| yw rfl (y_eql · rfl rfl) <| aw rfl <| nw fun a s => c_dec s rfl (fun hc20 => ?_) (fun hc20 => ?_)
  ·replace hg := br_t hg hc20
   obtain ⟨hk22, hg⟩ := chk_some hg
   refine S s <| lw <| yw rfl (y_loadBox1 (kk := 9100100) · rfl rfl rfl underlying25 rfl) <| yw rfl (y_boxField (o' := 1) · rfl underlying60 rfl rfl rfl) <| yw rfl (y_loadBox1 (kk := 1000) · rfl rfl rfl underlying9 rfl) fun a s => ?_
   refine l_seq rfl (l_buildDense (sz := 1) s 1503 rfl rfl rfl underlying25 rfl rfl rfl rfl rfl rfl rfl fun b25 a w hbb25 hK s => ?_)
   clear hbb25
   replace s := s.add 117 (rdF Rep.str (cellsOfL [vT d_.Name]) ([d_.Name])) (RdAll.cons (by exact ⟨rfl, (by omega)⟩) (RdAll.nil _ _ _))
   have hs27 := row_src (s.wd.holds 1503 _ rfl) (RdAll.one (s.ft 117 rfl))
   refine l_seq rfl (l_append (sz := 1) (by_ := 16) (N := (c1_ ++ [d_.Name]).length) s 9200100 rfl rfl rfl underlying25 rfl rfl rfl rfl rfl hs27 (by rw [List.length_append]; try rfl) rfl (rmA hk22 rfl) (rmB hk22) rfl fun Aq26 cq26 a w hA hK s => ?_)
   replace s := s.add 118 (rdF Rep.str (csf10 ++ (cellsOfL [vT d_.Name])) (c1_ ++ [d_.Name])) (RdAll.append (s.ft 9300100 rfl) (s.ft 117 rfl))
   refine l_seq rfl (l_store (n := 1) (cs' := [sl Aq26 (c1_ ++ [d_.Name]) cq26]) s 9100100 rfl rfl rfl rfl rfl rfl rfl rfl ?_); clear s; intro w hK s; clear hK
   apply wO
   refine p_inN ?_
   refine S s <| pw <| alw 108 9300000 rfl <| alw 110 118 rfl fun a s => ?_
   replace s := s.pk [(1000, 1000), (1503, 1503), (700107, 9200000), (700109, 9200100), (9100000, 9100000), (9100100, 9100100)] (by decide)
   exact ⟨(c0_), (c1_ ++ [d_.Name]), (Af01), (cf01), (csf00), (Aq26), (cq26), (csf10 ++ (cellsOfL [vT d_.Name])), hg, (s.sb rfl rfl rfl)⟩
  replace hg := br_f hg hc20
  apply wp_skip
  refine p_inN ?_
  refine S s <| pw <| alw 108 9300000 rfl <| alw 110 9300100 rfl fun a s => ?_
  replace s := s.pk [(1000, 1000), (700107, 9200000), (700109, 9200100), (9100000, 9100000), (9100100, 9100100)] (by decide)
  exact ⟨(c0_), (c1_), (Af01), (cf01), (csf00), (Af11), (cf11), (csf10), hg, (s.sb rfl rfl rfl)⟩
 clear s a; rintro a w ⟨b_4, b_8, A5, c6, cs7, A9, c10, cs11, hg, s⟩
 subst hk3
 refine S s <| vw <| yw rfl (y_boxField (o' := 3) · rfl underlying60 rfl rfl rfl) <| yw rfl (y_loadBox1 (kk := 1000) · rfl rfl rfl underlying58 rfl) <| yw rfl (y_lenSlice · rfl underlying58) <| mw rfl <| nw <| bw <| alw 120 108 rfl <| alw 122 110 rfl fun a s => ?_
 replace s := s.pk [(1000, 1000), (700119, 700107), (700121, 700109), (9100000, 9100000), (9100100, 9100100)] (by decide)
 refine c_loop (σ := Nat) (fun m1 a w => ∃ (t_28 : Nat) (b_29 : (List (List UInt8))) (b_33 : (List (List UInt8))) (A30 : Option Addr) (c31 : Nat) (cs32 : List Value) (A34 : Option Addr) (c35 : Nat) (cs36 : List Value), desc_Names_1_L0 n d_ (desc_Names_1 n) m1 t_28 b_29 b_33 = some r ∧ St (⟨Tryz.f107.ntmps, M, C, w0⟩ : Ctx) [(1, vP bf0 0), (2, vP bf1 0), (3, vP bf2 0), (24, sl Ap04 d_.Kids cp04), (25, vI ((((d_.Kids).length : Nat) : Int))), (26, vI (((t_28 : Nat) : Int)))] [(700119, Ob.row (A30) ((b_29).length) (c31) 9 1 (cs32)), (700121, Ob.row (A34) ((b_33).length) (c35) 9 1 (cs36)), (9100000, Ob.box bf0 [sl A30 b_29 c31] 25), (9100100, Ob.box bf1 [sl A34 b_33 c35] 25)] [(105, sF RDesc Ap04 cp04 d_.Kids), (106, boxF bf2 [.func (.func 107) #[] #[vP bf0 0, vP bf1 0, vP bf2 0]] 139), (120, rdF Rep.str (cs32) (b_29)), (122, rdF Rep.str (cs36) (b_33))] a w) (fun m1 => m1) n ⟨(0), (b_4), (b_8), (A5), (c6), (cs7), (A9), (c10), (cs11), hg, (s.sb rfl rfl rfl)⟩ ?_
 clear s a; rintro m1 a w ⟨t_28, b_29, b_33, A30, c31, cs32, A34, c35, cs36, hg, s⟩
 rcases m1 with _ | m1
 ·rw [desc_Names_1_L0] at hg; cases hg
 rw [desc_Names_1_L0] at hg
 refine S s <| vw <| yw rfl (y_lssN (i := t_28) (j := ((d_.Kids).length)) · rfl rfl) <| nw <| sw fun a s => c_dec s rfl (fun hc37 => ?_) (fun hc37 => ?_)
 ·replace hg := br_t hg hc37
  have hmx38 := SlR.mx (s.ft 105 rfl)
  obtain ⟨x40, hx40, hg⟩ := bind_some hg
  refine S s <| kw <| pw <| sw <| bw <| sw <| lw fun a s => ?_
  obtain ⟨p43, hep43, hpp43⟩ := SlR.elemX (s.ft 105 rfl) hx40
  refine qq s rfl (y_elem (sz := 4) (i := t_28) s rfl rfl underlying58 rfl hep43 rfl (lt_of_get hx40)) fun a s => ?_
  obtain ⟨hlq44, hmq44, csq44, hdq44, hcq44⟩ := hpp43
  obtain ⟨Aq443, cq443, Aq444, cq444, rfl, lq442, hq443, hq444⟩ := RDesc.open hdq44
  refine S s <| nsw 125 hq443 <| nsw 126 hq444 <| yw rfl (y_ldp · rfl hlq44 hmq44 (by simpa using hcq44) underlying60 rfl rfl) fun a s => ?_
  refine l_seq rfl (l_alloc (zs := [vI 0, vT ([]), .slice none 0 0, .slice none 0 0]) s 1802 rfl rfl rfl rfl fun b45 a w hb hK s => ?_)
  refine l_seq rfl (l_store (n := 4) (cs' := [vI x40.Op, vT x40.Name, sl Aq443 x40.Path cq443, sl Aq444 x40.Kids cq444]) s 1802 rfl rfl rfl rfl rfl rfl rfl rfl ?_); clear s; intro w hK s; clear hK
  obtain ⟨r46, hr46, hg⟩ := bind_some hg
  refine S s <| nw <| lw <| yw rfl (fun s => y_loadF1 s rfl (s.ft 106 rfl) rfl underlying139 rfl) <| yw rfl (y_loadAll (kk := 1802) · rfl rfl underlying60 rfl rfl) fun a s => ?_
  have hT := s.pk [(1802, 1802), (9100000, 9100000), (9100100, 9100100), (9200000, 700119), (9200100, 700121)] (by decide)
  replace hT := hT.al 9300000 120 rfl
  replace hT := hT.al 9300100 122 rfl
  replace hT := hT.al 9400000 125 rfl
  replace hT := hT.al 9400001 126 rfl
  replace hT := hT.al 9400002 106 rfl
  refine l_seq rfl (l_callMut (cap := [vP bf0 0, vP bf1 0, vP bf2 0]) hT _ [] (sbA (by rfl)) trivial (by rfl) rfl func107 rfl (by kernel_rfl) rfl rfl (c_self _ _ (hT.restLt [1802]) _ x40 (Aq443) (cq443) (Aq444) (cq444) (by omega) bf0 b_29 (A30) (c31) (cs32) bf1 b_33 (A34) (c35) (cs36) bf2 (hT.wd.lendL _ _ _ (sbA (by rfl)) (keep_sub [1802]) (by rfl) (sbA (by rfl))) r46 hr46) ?_); intro v49 a' w' hK hp hF
  obtain ⟨Am01u50, cm01u50, csm0_0u50, Am11u50, cm11u50, csm1_0u50, rfl, hWu50⟩ := hp
  have hS2 := St.mk hF (hT.wd.back (sbA (by rfl)) (keep_sub [1802]) (by rfl) hWu50 (by rfl))
  clear s hT hF hWu50 hK; revert hS2; revert w'; revert a'; intro a w s
  replace s := s.al 129 9300000 rfl |>.al 130 9300100 rfl
  replace s := s.ren [(1802, Ob.box b45 [vI x40.Op, vT x40.Name, sl Aq443 x40.Path cq443, sl Aq444 x40.Kids cq444] 60), (700119, Ob.row (Am01u50) ((r46.1).length) (cm01u50) 9 1 (csm0_0u50)), (700121, Ob.row (Am11u50) ((r46.2).length) (cm11u50) 9 1 (csm1_0u50)), (9100000, Ob.box bf0 [sl Am01u50 r46.1 cm01u50] 25), (9100100, Ob.box bf1 [sl Am11u50 r46.2 cm11u50] 25)] [1802, 9200000, 9200100, 9100000, 9100100] ⟨rfl, rfl, rfl, rfl, rfl, trivial⟩ (by decide)
  apply wO
  refine p_inN ?_
  refine S s <| pw <| lw <| yw rfl (y_addN (i := t_28) (j := 1) · rfl rfl (in64.2 (by omega))) <| mw rfl <| nw <| alw 120 129 rfl <| alw 122 130 rfl fun a s => ?_
  exact ⟨m1, Nat.lt_succ_self _, ⟨(t_28 + 1), (r46.1), (r46.2), (Am01u50), (cm01u50), (csm0_0u50), (Am11u50), (cm11u50), (csm1_0u50), hg, (s.sb rfl rfl rfl)⟩⟩
 replace hg := br_f hg hc37
 apply wp_exit
 refine p_then ?_
 refine p_then ?_
 refine p_in ?_
 replace s := s.al 9300000 120 rfl |>.al 9300100 122 rfl
 obtain rfl := Option.some.inj hg
 refine fin0 (fn := Tryz.f107) s rfl ?_ (.inr rfl)
 exact ⟨(A30), (c31), (cs32), (A34), (c35), (cs36), rfl, ((s.ren [(9100000, Ob.box bf0 [sl A30 b_29 c31] 25), (9100100, Ob.box bf1 [sl A34 b_33 c35] 25), (9200000, Ob.row (A30) ((b_29).length) (c31) 9 1 (cs32)), (9200100, Ob.row (A34) ((b_33).length) (c35) 9 1 (cs36))] [9100000, 9100100, 700119, 700121] ⟨rfl, rfl, rfl, rfl, trivial⟩ (by decide)).outL ⟨rfl, rfl, rfl, rfl, trivial⟩ ⟨rfl, rfl, trivial⟩)⟩
set_option maxHeartbeats 1000000 in
theorem c_desc_Names (n : Nat) (M : Bs) (w0 : World) (hM : ∀ b, M b → b < w0.heap.size) (d_ : Desc) (Ap03 : Option Addr) (cp03 : Nat) (Ap04 : Option Addr) (cp04 : Nat) (lp02 : (d_.Name).length ≤ 9223372036854775807) (hp03 : SlR Rep.str M w0 Ap03 (d_.Path).length cp03 (d_.Path)) (hp04 : SlR RDesc M w0 Ap04 (d_.Kids).length cp04 (d_.Kids)) (r : ((List (List UInt8)) × (List (List UInt8)))) (hg : desc_Names n d_ = some r) :
    Calls Tryz.prog 66 [.agg #[.int .i64 (d_.Op), .string (bs (d_.Name)), .slice (Ap03) ((d_.Path).length) (cp03), .slice (Ap04) ((d_.Kids).length) (cp04)]].toArray w0 (Ret noB w0 fun v w => ∃ (Aa1 : Option Addr), ∃ (ca1 : Nat), ∃ (Ab1 : Option Addr), ∃ (cb1 : Nat), v = .tuple #[.slice (Aa1) ((r.1).length) (ca1), .slice (Ab1) ((r.2).length) (cb1)] ∧ (SlR Rep.str M w Aa1 (r.1).length ca1 (r.1)) ∧ (SlR Rep.str M w Ab1 (r.2).length cb1 (r.2))) := by
 unfold desc_Names at hg
 refine enter M noB func66 rfl rfl hM ?_
 intro a s
 refine S s <| esw 101 hp03 <| esw 102 hp04 <| vw fun a s => ?_
 refine l_seq rfl (l_box (zs := [vI d_.Op, vT d_.Name, sl Ap03 d_.Path cp03, sl Ap04 d_.Kids cp04]) s 1000 rfl rfl rfl rfl fun b2 a w hb hK s => ?_)
 refine S s <| aw rfl <| aw rfl <| nw <| vw fun a s => ?_
 refine l_seq rfl (l_alloc (zs := [.slice none 0 0]) s 1100 rfl rfl rfl rfl fun b5 a w hb hK s => ?_)
 refine l_seq rfl (l_alloc (zs := [.slice none 0 0]) s 1101 rfl rfl rfl rfl fun b6 a w hb hK s => ?_)
 apply wN
 apply wR
 refine l_seq rfl (l_alloc (zs := [.nilFunc]) s 1200 rfl rfl rfl rfl fun b8 a w hb hK s => ?_)
 refine S s <| nw <| vw <| yw rfl (y_makeFunc (xs := [.tmp 4, .tmp 5, .tmp 6]) (vs := [vP b5 0, vP b6 0, vP b8 0]) · rfl) fun a s => ?_
 refine l_seq rfl (l_store (n := 1) (cs' := [.func (.func 107) #[] #[vP b5 0, vP b6 0, vP b8 0]]) s 1200 rfl rfl rfl rfl rfl rfl rfl rfl ?_); clear s; intro w hK s; clear hK
 obtain ⟨r9, hr9, hg⟩ := bind_some hg
 refine S s <| nw <| sw <| lw <| yw rfl (y_loadBox1 (kk := 1200) · rfl rfl rfl underlying139 rfl) <| yw rfl (y_loadAll (kk := 1000) · rfl rfl underlying60 rfl rfl) fun a s => ?_
 replace s := s.freezeBox (L' := [(1000, Ob.box b2 [vI d_.Op, vT d_.Name, sl Ap03 d_.Path cp03, sl Ap04 d_.Kids cp04] 60), (1100, Ob.box b5 [.slice none 0 0] 25), (1101, Ob.box b6 [.slice none 0 0] 25)]) 110 1200 rfl ⟨rfl, rfl, rfl, trivial⟩ rfl
 replace s := s.nilRow 800111 9 1 rfl
 replace s := s.add 112 (rdF Rep.str ([]) ([])) (RdAll.nil _ _ _)
 replace s := s.nilRow 800113 9 1 rfl
 replace s := s.add 114 (rdF Rep.str ([]) ([])) (RdAll.nil _ _ _)
 have hT := s.pk [(1000, 1000), (9100000, 1100), (9100100, 1101), (9200000, 800111), (9200100, 800113)] (by decide)
 replace hT := hT.al 9300000 112 rfl
 replace hT := hT.al 9300100 114 rfl
 replace hT := hT.al 9400000 101 rfl
 replace hT := hT.al 9400001 102 rfl
 replace hT := hT.al 9400002 110 rfl
 refine l_seq rfl (l_callMut (cap := [vP b5 0, vP b6 0, vP b8 0]) hT _ [] (sbA (by rfl)) trivial (by rfl) rfl func107 rfl (by kernel_rfl) rfl rfl (c_desc_Names_1 n _ _ (hT.restLt [1000]) _ d_ (Ap03) (cp03) (Ap04) (cp04) (by omega) b5 [] (none) (0) ([]) b6 [] (none) (0) ([]) b8 (hT.wd.lendL _ _ _ (sbA (by rfl)) (keep_sub [1000]) (by rfl) (sbA (by rfl))) r9 hr9) ?_); intro v12 a' w' hK hp hF
 obtain ⟨Am01u13, cm01u13, csm0_0u13, Am11u13, cm11u13, csm1_0u13, rfl, hWu13⟩ := hp
 have hS2 := St.mk hF (hT.wd.back (sbA (by rfl)) (keep_sub [1000]) (by rfl) hWu13 (by rfl))
 clear s hT hF hWu13 hK; revert hS2; revert w'; revert a'; intro a w s
 replace s := s.al 115 9300000 rfl |>.al 116 9300100 rfl
 replace s := s.ren [(1000, Ob.box b2 [vI d_.Op, vT d_.Name, sl Ap03 d_.Path cp03, sl Ap04 d_.Kids cp04] 60), (1100, Ob.box b5 [sl Am01u13 r9.1 cm01u13] 25), (1101, Ob.box b6 [sl Am11u13 r9.2 cm11u13] 25), (800111, Ob.row (Am01u13) ((r9.1).length) (cm01u13) 9 1 (csm0_0u13)), (800113, Ob.row (Am11u13) ((r9.2).length) (cm11u13) 9 1 (csm1_0u13))] [1000, 9100000, 9100100, 9200000, 9200100] ⟨rfl, rfl, rfl, rfl, rfl, trivial⟩ (by decide)
 apply wN
 apply wQ
 apply wR
 refine l_seq rfl (l_buildDense (sz := 1) s 1500 rfl rfl rfl underlying141 rfl rfl rfl rfl rfl rfl rfl fun b15 a w hbb15 hK s => ?_)
 clear hbb15
 refine S s <| yw rfl (y_lenSlice · rfl underlying141) <| mw rfl <| nw fun a s => ?_
 obtain ⟨k16, hg, hk16⟩ := jn_some hg
 refine c_post (fun a w => ∃ (types_17 : (List (List UInt8))) (templates_21 : (List (List UInt8))) (A18 : Option Addr) (c19 : Nat) (cs20 : List Value) (A22 : Option Addr) (c23 : Nat) (cs24 : List Value), k16 types_17 templates_21 = some r ∧ St (cx f66 M w0) [(4, vP b5 0), (5, vP b6 0)] [(1100, Ob.box b5 [sl A18 types_17 c19] 25), (1101, Ob.box b6 [sl A22 templates_21 c23] 25), (700117, Ob.row (A18) ((types_17).length) (c19) 9 1 (cs20)), (700119, Ob.row (A22) ((templates_21).length) (c23) 9 1 (cs24))] [(118, rdF Rep.str (cs20) (types_17)), (120, rdF Rep.str (cs24) (templates_21))] a w) ?_ ?_
 ·apply wp_block
  refine wp_loop_rounds 3 ?_
  refine c_round ?_
  refine S s <| vw <| yw rfl (y_lss · rfl rfl) <| nw <| sw fun a s => c_t s rfl ?_
  obtain ⟨r25, hr25, hg⟩ := bind_some hg
  refine S s <| kw <| pw <| sw <| bw <| vw <| yw rfl (y_rowIndex (sz := 1) (i := 0) · rfl rfl underlying141 rfl rfl rfl (by decide)) <| yw rfl (y_loadRow1 (kk := 1500) · rfl rfl rfl rfl underlying140 rfl) <| aw rfl <| nw <| sw <| lw <| mw rfl <| yw rfl (y_nilCheck · rfl) <| yw rfl (y_loadBox1 (kk := 1100) · rfl rfl rfl underlying25 rfl) fun a s => ?_
  have hT := s.pk [(1000, 1000), (1100, 1100), (1101, 1101), (1500, 1500), (800113, 800113), (9200000, 800111)] (by decide)
  replace hT := hT.al 9300000 115 rfl
  refine l_seq rfl (l_callMut (cap := []) hT _ [] (sbA (by rfl)) trivial (by rfl) rfl func32 rfl (by kernel_rfl) rfl rfl (c_slices_Sort_string n _ _ (hT.restLt [1000, 1100, 1101, 1500, 800113]) _ r9.1 (Am01u13) (cm01u13) (csm0_0u13) (hT.wd.lendL _ _ _ (sbA (by rfl)) (keep_sub [1000, 1100, 1101, 1500, 800113]) (by rfl) (sbA (by rfl))) r25 hr25) ?_); intro v28 a' w' hK hp hF
  obtain ⟨csm0_0u29, rfl, hWu29⟩ := hp
  have hS2 := St.mk hF (hT.wd.back (sbA (by rfl)) (keep_sub [1000, 1100, 1101, 1500, 800113]) (by rfl) hWu29 (by rfl))
  clear s hT hF hWu29 hK; revert hS2; revert w'; revert a'; intro a w s
  replace s := s.al 122 9300000 rfl
  replace s := s.ren [(1000, Ob.box b2 [vI d_.Op, vT d_.Name, sl Ap03 d_.Path cp03, sl Ap04 d_.Kids cp04] 60), (1100, Ob.box b5 [sl Am01u13 r9.1 cm01u13] 25), (1101, Ob.box b6 [sl Am11u13 r9.2 cm11u13] 25), (1500, Ob.row (some ⟨b15, 0, none⟩) (2) (2) 140 1 (cellsOfL [vP b5 0, vP b6 0])), (800111, Ob.row (Am01u13) ((r9.1).length) (cm01u13) 9 1 (csm0_0u29)), (800113, Ob.row (Am11u13) ((r9.2).length) (cm11u13) 9 1 (csm1_0u13))] [1000, 1100, 1101, 1500, 9200000, 800113] ⟨rfl, rfl, rfl, rfl, rfl, rfl, trivial⟩ (by decide)
  replace s := s.sub (l' := [(0, .agg #[.int .i64 (d_.Op), .string (bs (d_.Name)), .slice (Ap03) ((d_.Path).length) (cp03), .slice (Ap04) ((d_.Kids).length) (cp04)]), (1, .pointer (some ⟨b2, 0, none⟩)), (2, .slice (none) (0) (0)), (3, .slice (none) (0) (0)), (4, .pointer (some ⟨b5, 0, none⟩)), (5, .pointer (some ⟨b6, 0, none⟩)), (6, .pointer (some ⟨b8, 0, none⟩)), (8, .pointer (some ⟨b5, 0, none⟩)), (9, .func (.func 107) #[] #[.pointer (some ⟨b5, 0, none⟩), .pointer (some ⟨b6, 0, none⟩), .pointer (some ⟨b8, 0, none⟩)]), (10, .func (.func 107) #[] #[.pointer (some ⟨b5, 0, none⟩), .pointer (some ⟨b6, 0, none⟩), .pointer (some ⟨b8, 0, none⟩)]), (11, .agg #[.int .i64 (d_.Op), .string (bs (d_.Name)), .slice (Ap03) ((d_.Path).length) (cp03), .slice (Ap04) ((d_.Kids).length) (cp04)]), (12, .tuple #[]), (13, .slice (some ⟨b15, 0, none⟩) (2) (2)), (14, .int .i64 (2)), (15, .int .i64 (0)), (16, .bool (true)), (17, .pointer (some ⟨b15, 0 * 1, none⟩)), (18, .pointer (some ⟨b5, 0, none⟩)), (19, .pointer (some ⟨b5, 0, none⟩)), (20, .pointer (some ⟨b5, 0, none⟩)), (21, .slice (Am01u13) ((r9.1).length) (cm01u13)), (22, .tuple #[])]) (L' := [(1000, Ob.box b2 [.int .i64 (d_.Op), .string (bs (d_.Name)), .slice (Ap03) ((d_.Path).length) (cp03), .slice (Ap04) ((d_.Kids).length) (cp04)] 60), (1100, Ob.box b5 [.slice (Am01u13) ((r9.1).length) (cm01u13)] 25), (1101, Ob.box b6 [.slice (Am11u13) ((r9.2).length) (cm11u13)] 25), (1500, Ob.row (some ⟨b15, 0, none⟩) (2) (2) 140 1 (cellsOfL [.pointer (some ⟨b5, 0, none⟩), .pointer (some ⟨b6, 0, none⟩)])), (800111, Ob.row (Am01u13) ((r9.1).length) (cm01u13) 9 1 (csm0_0u29)), (800113, Ob.row (Am11u13) ((r9.2).length) (cm11u13) 9 1 (csm1_0u13))]) (D' := [(101, slF Rep.str (Ap03) ((d_.Path).length) (cp03) (d_.Path)), (102, slF RDesc (Ap04) ((d_.Kids).length) (cp04) (d_.Kids)), (110, boxF b8 [.func (.func 107) #[] #[.pointer (some ⟨b5, 0, none⟩), .pointer (some ⟨b6, 0, none⟩), .pointer (some ⟨b8, 0, none⟩)]] 139), (112, rdF Rep.str ([]) ([])), (114, rdF Rep.str ([]) ([])), (115, rdF Rep.str (csm0_0u13) (r9.1)), (116, rdF Rep.str (csm1_0u13) (r9.2)), (122, rdF Rep.str (csm0_0u29) (r25))]) ⟨rfl, rfl, rfl, rfl, rfl, rfl, rfl, rfl, rfl, rfl, rfl, rfl, rfl, rfl, rfl, rfl, rfl, rfl, rfl, rfl, rfl, rfl, trivial⟩ ⟨rfl, rfl, rfl, rfl, rfl, rfl, trivial⟩ ⟨rfl, rfl, rfl, rfl, rfl, rfl, rfl, rfl, trivial⟩
  have hrlu290 := rowN (s.wd.holds 800111 _ rfl) (s.ft 122 rfl) rfl rfl
  replace s := s.eqs (l' := [(0, .agg #[.int .i64 (d_.Op), .string (bs (d_.Name)), .slice (Ap03) ((d_.Path).length) (cp03), .slice (Ap04) ((d_.Kids).length) (cp04)]), (1, .pointer (some ⟨b2, 0, none⟩)), (2, .slice (none) (0) (0)), (3, .slice (none) (0) (0)), (4, .pointer (some ⟨b5, 0, none⟩)), (5, .pointer (some ⟨b6, 0, none⟩)), (6, .pointer (some ⟨b8, 0, none⟩)), (8, .pointer (some ⟨b5, 0, none⟩)), (9, .func (.func 107) #[] #[.pointer (some ⟨b5, 0, none⟩), .pointer (some ⟨b6, 0, none⟩), .pointer (some ⟨b8, 0, none⟩)]), (10, .func (.func 107) #[] #[.pointer (some ⟨b5, 0, none⟩), .pointer (some ⟨b6, 0, none⟩), .pointer (some ⟨b8, 0, none⟩)]), (11, .agg #[.int .i64 (d_.Op), .string (bs (d_.Name)), .slice (Ap03) ((d_.Path).length) (cp03), .slice (Ap04) ((d_.Kids).length) (cp04)]), (12, .tuple #[]), (13, .slice (some ⟨b15, 0, none⟩) (2) (2)), (14, .int .i64 (2)), (15, .int .i64 (0)), (16, .bool (true)), (17, .pointer (some ⟨b15, 0 * 1, none⟩)), (18, .pointer (some ⟨b5, 0, none⟩)), (19, .pointer (some ⟨b5, 0, none⟩)), (20, .pointer (some ⟨b5, 0, none⟩)), (21, .slice (Am01u13) ((r25).length) (cm01u13)), (22, .tuple #[])]) (L' := [(1000, Ob.box b2 [.int .i64 (d_.Op), .string (bs (d_.Name)), .slice (Ap03) ((d_.Path).length) (cp03), .slice (Ap04) ((d_.Kids).length) (cp04)] 60), (1100, Ob.box b5 [.slice (Am01u13) ((r25).length) (cm01u13)] 25), (1101, Ob.box b6 [.slice (Am11u13) ((r9.2).length) (cm11u13)] 25), (1500, Ob.row (some ⟨b15, 0, none⟩) (2) (2) 140 1 (cellsOfL [.pointer (some ⟨b5, 0, none⟩), .pointer (some ⟨b6, 0, none⟩)])), (800111, Ob.row (Am01u13) ((r25).length) (cm01u13) 9 1 (csm0_0u29)), (800113, Ob.row (Am11u13) ((r9.2).length) (cm11u13) 9 1 (csm1_0u13))]) (by simp only [hrlu290]) (by simp only [hrlu290])
  obtain ⟨r30, hr30, hg⟩ := bind_some hg
  refine S s <| nw <| lw <| mw rfl <| mw rfl <| yw rfl (y_nilCheck · rfl) <| yw rfl (y_loadBox1 (kk := 1100) · rfl rfl rfl underlying25 rfl) fun a s => ?_
  have hT := s.pk [(1000, 1000), (1100, 1100), (1101, 1101), (1500, 1500), (800113, 800113), (9200000, 800111)] (by decide)
  replace hT := hT.al 9300000 122 rfl
  refine l_seq rfl (l_callMut (cap := []) hT _ [] (sbA (by rfl)) trivial (by rfl) rfl func33 rfl (by kernel_rfl) rfl rfl (c_slices_Compact_string n _ _ (hT.restLt [1000, 1100, 1101, 1500, 800113]) _ r25 (Am01u13) (cm01u13) (csm0_0u29) (hT.wd.lendL _ _ _ (sbA (by rfl)) (keep_sub [1000, 1100, 1101, 1500, 800113]) (by rfl) (sbA (by rfl))) r30 hr30) ?_); intro v33 a' w' hK hp hF
  obtain ⟨Aou34, cou34, csou34, rfl, hWu34⟩ := hp
  have hS2 := St.mk hF (hT.wd.back (sbA (by rfl)) (keep_sub [1000, 1100, 1101, 1500, 800113]) (by rfl) hWu34 (by rfl))
  clear s hT hF hWu34 hK; revert hS2; revert w'; revert a'; intro a w s
  replace s := s.al 124 9300000 rfl
  replace s := s.ren [(1000, Ob.box b2 [vI d_.Op, vT d_.Name, sl Ap03 d_.Path cp03, sl Ap04 d_.Kids cp04] 60), (1100, Ob.box b5 [sl Am01u13 r25 cm01u13] 25), (1101, Ob.box b6 [sl Am11u13 r9.2 cm11u13] 25), (1500, Ob.row (some ⟨b15, 0, none⟩) (2) (2) 140 1 (cellsOfL [vP b5 0, vP b6 0])), (800111, Ob.row (Aou34) ((r30).length) (cou34) 9 1 (csou34)), (800113, Ob.row (Am11u13) ((r9.2).length) (cm11u13) 9 1 (csm1_0u13))] [1000, 1100, 1101, 1500, 9200000, 800113] ⟨rfl, rfl, rfl, rfl, rfl, rfl, trivial⟩ (by decide)
  refine qq s rfl (y_nilCheck s rfl) fun a s => ?_
  refine l_seq rfl (l_store (n := 1) (cs' := [sl Aou34 r30 cou34]) s 1100 rfl rfl rfl rfl rfl rfl rfl rfl ?_); clear s; intro w hK s; clear hK
  apply wO
  refine p_inN ?_
  obtain ⟨hk35, hg⟩ := chk_some hg
  refine S s <| pw <| lw <| yw rfl (y_addN (i := 0) (j := 1) · rfl rfl (in64.2 (by omega))) <| mw rfl <| nw fun a s => ?_
  refine c_round ?_
  refine S s <| vw <| yw rfl (y_lss · rfl rfl) <| nw <| sw fun a s => c_t s rfl ?_
  obtain ⟨r36, hr36, hg⟩ := bind_some hg
  refine S s <| kw <| pw <| sw <| bw <| vw <| yw rfl (y_rowIndex (sz := 1) (i := 1) · rfl rfl underlying141 rfl rfl rfl (by decide)) <| yw rfl (y_loadRow1 (kk := 1500) · rfl rfl rfl rfl underlying140 rfl) <| aw rfl <| nw <| sw <| lw <| mw rfl <| yw rfl (y_nilCheck · rfl) <| yw rfl (y_loadBox1 (kk := 1101) · rfl rfl rfl underlying25 rfl) fun a s => ?_
  have hT := s.pk [(1000, 1000), (1100, 1100), (1101, 1101), (1500, 1500), (800111, 800111), (9200000, 800113)] (by decide)
  replace hT := hT.al 9300000 116 rfl
  refine l_seq rfl (l_callMut (cap := []) hT _ [] (sbA (by rfl)) trivial (by rfl) rfl func32 rfl (by kernel_rfl) rfl rfl (c_slices_Sort_string n _ _ (hT.restLt [1000, 1100, 1101, 1500, 800111]) _ r9.2 (Am11u13) (cm11u13) (csm1_0u13) (hT.wd.lendL _ _ _ (sbA (by rfl)) (keep_sub [1000, 1100, 1101, 1500, 800111]) (by rfl) (sbA (by rfl))) r36 hr36) ?_); intro v39 a' w' hK hp hF
  obtain ⟨csm0_0u40, rfl, hWu40⟩ := hp
  have hS2 := St.mk hF (hT.wd.back (sbA (by rfl)) (keep_sub [1000, 1100, 1101, 1500, 800111]) (by rfl) hWu40 (by rfl))
  clear s hT hF hWu40 hK; revert hS2; revert w'; revert a'; intro a w s
  replace s := s.al 126 9300000 rfl
  replace s := s.ren [(1000, Ob.box b2 [vI d_.Op, vT d_.Name, sl Ap03 d_.Path cp03, sl Ap04 d_.Kids cp04] 60), (1100, Ob.box b5 [sl Aou34 r30 cou34] 25), (1101, Ob.box b6 [sl Am11u13 r9.2 cm11u13] 25), (1500, Ob.row (some ⟨b15, 0, none⟩) (2) (2) 140 1 (cellsOfL [vP b5 0, vP b6 0])), (800111, Ob.row (Aou34) ((r30).length) (cou34) 9 1 (csou34)), (800113, Ob.row (Am11u13) ((r9.2).length) (cm11u13) 9 1 (csm0_0u40))] [1000, 1100, 1101, 1500, 800111, 9200000] ⟨rfl, rfl, rfl, rfl, rfl, rfl, trivial⟩ (by decide)
  replace s := s.sub (l' := [(0, .agg #[.int .i64 (d_.Op), .string (bs (d_.Name)), .slice (Ap03) ((d_.Path).length) (cp03), .slice (Ap04) ((d_.Kids).length) (cp04)]), (1, .pointer (some ⟨b2, 0, none⟩)), (2, .slice (none) (0) (0)), (3, .slice (none) (0) (0)), (4, .pointer (some ⟨b5, 0, none⟩)), (5, .pointer (some ⟨b6, 0, none⟩)), (6, .pointer (some ⟨b8, 0, none⟩)), (8, .pointer (some ⟨b6, 0, none⟩)), (9, .func (.func 107) #[] #[.pointer (some ⟨b5, 0, none⟩), .pointer (some ⟨b6, 0, none⟩), .pointer (some ⟨b8, 0, none⟩)]), (10, .func (.func 107) #[] #[.pointer (some ⟨b5, 0, none⟩), .pointer (some ⟨b6, 0, none⟩), .pointer (some ⟨b8, 0, none⟩)]), (11, .agg #[.int .i64 (d_.Op), .string (bs (d_.Name)), .slice (Ap03) ((d_.Path).length) (cp03), .slice (Ap04) ((d_.Kids).length) (cp04)]), (12, .tuple #[]), (13, .slice (some ⟨b15, 0, none⟩) (2) (2)), (14, .int .i64 (2)), (15, .int .i64 (((1 : Nat) : Int))), (16, .bool (true)), (17, .pointer (some ⟨b15, 1 * 1, none⟩)), (18, .pointer (some ⟨b6, 0, none⟩)), (19, .pointer (some ⟨b6, 0, none⟩)), (20, .pointer (some ⟨b6, 0, none⟩)), (21, .slice (Am11u13) ((r9.2).length) (cm11u13)), (22, .tuple #[]), (23, .pointer (some ⟨b5, 0, none⟩)), (24, .pointer (some ⟨b5, 0, none⟩)), (25, .pointer (some ⟨b5, 0, none⟩)), (27, .slice (Aou34) ((r30).length) (cou34)), (28, .pointer (some ⟨b5, 0, none⟩)), (29, .int .i64 (((1 : Nat) : Int)))]) (L' := [(1000, Ob.box b2 [.int .i64 (d_.Op), .string (bs (d_.Name)), .slice (Ap03) ((d_.Path).length) (cp03), .slice (Ap04) ((d_.Kids).length) (cp04)] 60), (1100, Ob.box b5 [.slice (Aou34) ((r30).length) (cou34)] 25), (1101, Ob.box b6 [.slice (Am11u13) ((r9.2).length) (cm11u13)] 25), (1500, Ob.row (some ⟨b15, 0, none⟩) (2) (2) 140 1 (cellsOfL [.pointer (some ⟨b5, 0, none⟩), .pointer (some ⟨b6, 0, none⟩)])), (800111, Ob.row (Aou34) ((r30).length) (cou34) 9 1 (csou34)), (800113, Ob.row (Am11u13) ((r9.2).length) (cm11u13) 9 1 (csm0_0u40))]) (D' := [(101, slF Rep.str (Ap03) ((d_.Path).length) (cp03) (d_.Path)), (102, slF RDesc (Ap04) ((d_.Kids).length) (cp04) (d_.Kids)), (110, boxF b8 [.func (.func 107) #[] #[.pointer (some ⟨b5, 0, none⟩), .pointer (some ⟨b6, 0, none⟩), .pointer (some ⟨b8, 0, none⟩)]] 139), (112, rdF Rep.str ([]) ([])), (114, rdF Rep.str ([]) ([])), (115, rdF Rep.str (csm0_0u13) (r9.1)), (116, rdF Rep.str (csm1_0u13) (r9.2)), (122, rdF Rep.str (csm0_0u29) (r25)), (124, rdF Rep.str (csou34) (r30)), (126, rdF Rep.str (csm0_0u40) (r36))]) ⟨rfl, rfl, rfl, rfl, rfl, rfl, rfl, rfl, rfl, rfl, rfl, rfl, rfl, rfl, rfl, rfl, rfl, rfl, rfl, rfl, rfl, rfl, rfl, rfl, rfl, rfl, rfl, rfl, trivial⟩ ⟨rfl, rfl, rfl, rfl, rfl, rfl, trivial⟩ ⟨rfl, rfl, rfl, rfl, rfl, rfl, rfl, rfl, rfl, rfl, trivial⟩
  have hrlu400 := rowN (s.wd.holds 800113 _ rfl) (s.ft 126 rfl) rfl rfl
  replace s := s.eqs (l' := [(0, .agg #[.int .i64 (d_.Op), .string (bs (d_.Name)), .slice (Ap03) ((d_.Path).length) (cp03), .slice (Ap04) ((d_.Kids).length) (cp04)]), (1, .pointer (some ⟨b2, 0, none⟩)), (2, .slice (none) (0) (0)), (3, .slice (none) (0) (0)), (4, .pointer (some ⟨b5, 0, none⟩)), (5, .pointer (some ⟨b6, 0, none⟩)), (6, .pointer (some ⟨b8, 0, none⟩)), (8, .pointer (some ⟨b6, 0, none⟩)), (9, .func (.func 107) #[] #[.pointer (some ⟨b5, 0, none⟩), .pointer (some ⟨b6, 0, none⟩), .pointer (some ⟨b8, 0, none⟩)]), (10, .func (.func 107) #[] #[.pointer (some ⟨b5, 0, none⟩), .pointer (some ⟨b6, 0, none⟩), .pointer (some ⟨b8, 0, none⟩)]), (11, .agg #[.int .i64 (d_.Op), .string (bs (d_.Name)), .slice (Ap03) ((d_.Path).length) (cp03), .slice (Ap04) ((d_.Kids).length) (cp04)]), (12, .tuple #[]), (13, .slice (some ⟨b15, 0, none⟩) (2) (2)), (14, .int .i64 (2)), (15, .int .i64 (((1 : Nat) : Int))), (16, .bool (true)), (17, .pointer (some ⟨b15, 1 * 1, none⟩)), (18, .pointer (some ⟨b6, 0, none⟩)), (19, .pointer (some ⟨b6, 0, none⟩)), (20, .pointer (some ⟨b6, 0, none⟩)), (21, .slice (Am11u13) ((r36).length) (cm11u13)), (22, .tuple #[]), (23, .pointer (some ⟨b5, 0, none⟩)), (24, .pointer (some ⟨b5, 0, none⟩)), (25, .pointer (some ⟨b5, 0, none⟩)), (27, .slice (Aou34) ((r30).length) (cou34)), (28, .pointer (some ⟨b5, 0, none⟩)), (29, .int .i64 (((1 : Nat) : Int)))]) (L' := [(1000, Ob.box b2 [.int .i64 (d_.Op), .string (bs (d_.Name)), .slice (Ap03) ((d_.Path).length) (cp03), .slice (Ap04) ((d_.Kids).length) (cp04)] 60), (1100, Ob.box b5 [.slice (Aou34) ((r30).length) (cou34)] 25), (1101, Ob.box b6 [.slice (Am11u13) ((r36).length) (cm11u13)] 25), (1500, Ob.row (some ⟨b15, 0, none⟩) (2) (2) 140 1 (cellsOfL [.pointer (some ⟨b5, 0, none⟩), .pointer (some ⟨b6, 0, none⟩)])), (800111, Ob.row (Aou34) ((r30).length) (cou34) 9 1 (csou34)), (800113, Ob.row (Am11u13) ((r36).length) (cm11u13) 9 1 (csm0_0u40))]) (by simp only [hrlu400]) (by simp only [hrlu400])
  obtain ⟨r41, hr41, hg⟩ := bind_some hg
  refine S s <| nw <| lw <| mw rfl <| mw rfl <| yw rfl (y_nilCheck · rfl) <| yw rfl (y_loadBox1 (kk := 1101) · rfl rfl rfl underlying25 rfl) fun a s => ?_
  have hT := s.pk [(1000, 1000), (1100, 1100), (1101, 1101), (1500, 1500), (800111, 800111), (9200000, 800113)] (by decide)
  replace hT := hT.al 9300000 126 rfl
  refine l_seq rfl (l_callMut (cap := []) hT _ [] (sbA (by rfl)) trivial (by rfl) rfl func33 rfl (by kernel_rfl) rfl rfl (c_slices_Compact_string n _ _ (hT.restLt [1000, 1100, 1101, 1500, 800111]) _ r36 (Am11u13) (cm11u13) (csm0_0u40) (hT.wd.lendL _ _ _ (sbA (by rfl)) (keep_sub [1000, 1100, 1101, 1500, 800111]) (by rfl) (sbA (by rfl))) r41 hr41) ?_); intro v44 a' w' hK hp hF
  obtain ⟨Aou45, cou45, csou45, rfl, hWu45⟩ := hp
  have hS2 := St.mk hF (hT.wd.back (sbA (by rfl)) (keep_sub [1000, 1100, 1101, 1500, 800111]) (by rfl) hWu45 (by rfl))
  clear s hT hF hWu45 hK; revert hS2; revert w'; revert a'; intro a w s
  replace s := s.al 128 9300000 rfl
  replace s := s.ren [(1000, Ob.box b2 [vI d_.Op, vT d_.Name, sl Ap03 d_.Path cp03, sl Ap04 d_.Kids cp04] 60), (1100, Ob.box b5 [sl Aou34 r30 cou34] 25), (1101, Ob.box b6 [sl Am11u13 r36 cm11u13] 25), (1500, Ob.row (some ⟨b15, 0, none⟩) (2) (2) 140 1 (cellsOfL [vP b5 0, vP b6 0])), (800111, Ob.row (Aou34) ((r30).length) (cou34) 9 1 (csou34)), (800113, Ob.row (Aou45) ((r41).length) (cou45) 9 1 (csou45))] [1000, 1100, 1101, 1500, 800111, 9200000] ⟨rfl, rfl, rfl, rfl, rfl, rfl, trivial⟩ (by decide)
  refine qq s rfl (y_nilCheck s rfl) fun a s => ?_
  refine l_seq rfl (l_store (n := 1) (cs' := [sl Aou45 r41 cou45]) s 1101 rfl rfl rfl rfl rfl rfl rfl rfl ?_); clear s; intro w hK s; clear hK
  apply wO
  refine p_inN ?_
  obtain ⟨hk46, hg⟩ := chk_some hg
  refine S s <| pw <| lw <| yw rfl (y_addN (i := 1) (j := 1) · rfl rfl (in64.2 (by omega))) <| mw rfl <| nw fun a s => ?_
  refine c_round ?_
  refine S s <| vw <| yw rfl (y_lss · rfl rfl) <| nw <| sw fun a s => c_f s rfl ?_
  apply wp_exit
  refine p_then ?_
  refine p_then ?_
  refine p_in ?_
  refine S s <| pw <| alw 118 124 rfl <| alw 120 128 rfl fun a s => ?_
  replace s := s.pk [(1000, 1000), (1100, 1100), (1101, 1101), (1500, 1500), (700117, 800111), (700119, 800113)] (by decide)
  exact ⟨(r30), (r41), (Aou34), (cou34), (csou34), (Aou45), (cou45), (csou45), hg, (s.sb rfl rfl rfl)⟩
 clear s a; rintro a w ⟨types_17, templates_21, A18, c19, cs20, A22, c23, cs24, hg, s⟩
 subst hk16
 apply wQ
 refine d_plan s [] [(0, some 1100), (1, some 1101), (2, some 0), (3, some 0)] rfl (by kernel_rfl) (by kernel_rfl) rfl ?_; clear s; intro wr hZ s; have hR := s.wd
 refine qt s hR rfl (y_loadBox1 (kk := 1100) s rfl rfl rfl underlying25 rfl) fun a s => ?_
 refine qt s hR rfl (y_loadBox1 (kk := 1101) s rfl rfl rfl underlying25 rfl) fun a s => ?_
 refine qt s hR rfl (y_assign s rfl) fun a s => ?_
 refine qt s hR rfl (y_assign s rfl) fun a s => ?_
 clear hR hZ
 apply pN
 apply wp_ret
 obtain rfl := Option.some.inj hg
 refine fin2 (fn := Tryz.f66) s rfl (r_tmp s rfl) (r_tmp s rfl) ?_
 exact ⟨(A18), (c19), (A22), (c23), rfl, (s.rowOut (R := Rep.str) (kk := 700117) rfl rfl (s.ft 118 rfl)), (s.rowOut (R := Rep.str) (kk := 700119) rfl rfl (s.ft 120 rfl))⟩
set_option maxHeartbeats 1000000 in
theorem c_module_uses (n : Nat) (M : Bs) (w0 : World) (hM : ∀ b, M b → b < w0.heap.size) (t_ : Module) (Ap02 : Option Addr) (cp02 : Nat) (Ap03 : Option Addr) (cp03 : Nat) (Ap04 : Option Addr) (cp04 : Nat) (Ap05 : Option Addr) (cp05 : Nat) (Ap06 : Option Addr) (cp06 : Nat) (Ap07 : Option Addr) (cp07 : Nat) (Ap08 : Option Addr) (cp08 : Nat) (Ap09 : Option Addr) (cp09 : Nat) (Ap010 : Option Addr) (cp010 : Nat) (lp01 : (t_.Name).length ≤ 9223372036854775807) (hp02 : SlR Rep.str M w0 Ap02 (t_.Imports).length cp02 (t_.Imports)) (hp03 : SlR RTypeDecl M w0 Ap03 (t_.Types).length cp03 (t_.Types)) (hp04 : SlR RDef M w0 Ap04 (t_.Templates).length cp04 (t_.Templates)) (hp05 : SlR REntryDecl M w0 Ap05 (t_.Entries).length cp05 (t_.Entries)) (hp06 : SlR RLexDecl M w0 Ap06 (t_.LexRules).length cp06 (t_.LexRules)) (hp07 : SlR RDef M w0 Ap07 (t_.Rules).length cp07 (t_.Rules)) (hp08 : SlR RDef M w0 Ap08 (t_.Roots).length cp08 (t_.Roots)) (hp09 : SlR (Rep.list Rep.str) M w0 Ap09 (t_.Checks).length cp09 (t_.Checks)) (hp010 : SlR Rep.str M w0 Ap010 (t_.Drops).length cp010 (t_.Drops)) (r : (List (List UInt8))) (hg : module_uses n t_ = some r) :
    Calls Tryz.prog 38 [.agg #[.string (bs (t_.Name)), .slice (Ap02) ((t_.Imports).length) (cp02), .slice (Ap03) ((t_.Types).length) (cp03), .slice (Ap04) ((t_.Templates).length) (cp04), .slice (Ap05) ((t_.Entries).length) (cp05), .slice (Ap06) ((t_.LexRules).length) (cp06), .slice (Ap07) ((t_.Rules).length) (cp07), .slice (Ap08) ((t_.Roots).length) (cp08), .slice (Ap09) ((t_.Checks).length) (cp09), .slice (Ap010) ((t_.Drops).length) (cp010)]].toArray w0 (Ret noB w0 fun v w => ∃ (Aa1 : Option Addr), ∃ (ca1 : Nat), v = .slice (Aa1) ((r).length) (ca1) ∧ (SlR Rep.str M w Aa1 (r).length ca1 (r))) := by
 unfold module_uses at hg
 refine enter M noB func38 rfl rfl hM ?_
 intro a s
 refine S s <| esw 101 hp02 <| esw 102 hp03 <| esw 103 hp04 <| esw 104 hp05 <| esw 105 hp06 <| esw 106 hp07 <| esw 107 hp08 <| esw 108 hp09 <| esw 109 hp010 <| vw fun a s => ?_
 refine l_seq rfl (l_box (zs := [vT t_.Name, sl Ap02 t_.Imports cp02, sl Ap03 t_.Types cp03, sl Ap04 t_.Templates cp04, sl Ap05 t_.Entries cp05, sl Ap06 t_.LexRules cp06, sl Ap07 t_.Rules cp07, sl Ap08 t_.Roots cp08, sl Ap09 t_.Checks cp09, sl Ap010 t_.Drops cp010]) s 1000 rfl rfl rfl rfl fun b2 a w hb hK s => ?_)
 refine S s <| aw rfl <| nw <| vw <| aw rfl <| nw <| sw <| vw <| yw rfl (y_boxField (o' := 2) · rfl underlying38 rfl rfl rfl) <| yw rfl (y_loadBox1 (kk := 1000) · rfl rfl rfl underlying32 rfl) <| yw rfl (y_lenSlice · rfl underlying32) <| mw rfl <| nw fun a s => ?_
 obtain ⟨k3, hg, hk3⟩ := jn_some hg
 refine c_post (fun a w => ∃ (t_4 : (List (List UInt8))) (A5 : Option Addr) (c6 : Nat) (cs7 : List Value), k3 t_4 = some r ∧ St (cx f38 M w0) [(1, vP b2 0), (3, sl A5 t_4 c6)] [(1000, Ob.box b2 [vT t_.Name, sl Ap02 t_.Imports cp02, sl Ap03 t_.Types cp03, sl Ap04 t_.Templates cp04, sl Ap05 t_.Entries cp05, sl Ap06 t_.LexRules cp06, sl Ap07 t_.Rules cp07, sl Ap08 t_.Roots cp08, sl Ap09 t_.Checks cp09, sl Ap010 t_.Drops cp010] 38), (700110, Ob.row (A5) ((t_4).length) (c6) 9 1 (cs7))] [(101, sF Rep.str Ap02 cp02 t_.Imports), (102, sF RTypeDecl Ap03 cp03 t_.Types), (103, sF RDef Ap04 cp04 t_.Templates), (104, sF REntryDecl Ap05 cp05 t_.Entries), (105, sF RLexDecl Ap06 cp06 t_.LexRules), (106, sF RDef Ap07 cp07 t_.Rules), (107, sF RDef Ap08 cp08 t_.Roots), (108, sF (Rep.list Rep.str) Ap09 cp09 t_.Checks), (109, sF Rep.str Ap010 cp010 t_.Drops), (111, rdF Rep.str (cs7) (t_4))] a w) ?_ ?_
 ·apply wp_block
  replace s := s.nilRow 700112 9 1 rfl
  replace s := s.add 113 (rdF Rep.str [] []) (RdAll.nil _ _ _)
  refine c_loop (σ := Nat) (fun m1 a w => ∃ (t_8 : (List (List UInt8))) (t_12 : Nat) (A9 : Option Addr) (c10 : Nat) (cs11 : List Value), module_uses_L0 n t_ k3 m1 t_8 t_12 = some r ∧ St (cx f38 M w0) [(1, vP b2 0), (3, sl A9 t_8 c10), (17, sl Ap03 t_.Types cp03), (18, vI ((((t_.Types).length : Nat) : Int))), (19, vI (((t_12 : Nat) : Int)))] [(1000, Ob.box b2 [vT t_.Name, sl Ap02 t_.Imports cp02, sl Ap03 t_.Types cp03, sl Ap04 t_.Templates cp04, sl Ap05 t_.Entries cp05, sl Ap06 t_.LexRules cp06, sl Ap07 t_.Rules cp07, sl Ap08 t_.Roots cp08, sl Ap09 t_.Checks cp09, sl Ap010 t_.Drops cp010] 38), (700112, Ob.row (A9) ((t_8).length) (c10) 9 1 (cs11))] [(101, sF Rep.str Ap02 cp02 t_.Imports), (102, sF RTypeDecl Ap03 cp03 t_.Types), (103, sF RDef Ap04 cp04 t_.Templates), (104, sF REntryDecl Ap05 cp05 t_.Entries), (105, sF RLexDecl Ap06 cp06 t_.LexRules), (106, sF RDef Ap07 cp07 t_.Rules), (107, sF RDef Ap08 cp08 t_.Roots), (108, sF (Rep.list Rep.str) Ap09 cp09 t_.Checks), (109, sF Rep.str Ap010 cp010 t_.Drops), (113, rdF Rep.str (cs11) (t_8))] a w) (fun m1 => m1) n ⟨([]), (0), (none), (0), ([]), hg, (s.sb rfl rfl rfl)⟩ ?_
  clear s a; rintro m1 a w ⟨t_8, t_12, A9, c10, cs11, hg, s⟩
  rcases m1 with _ | m1
  ·rw [module_uses_L0] at hg; cases hg
  rw [module_uses_L0] at hg
  refine S s <| vw <| yw rfl (y_lssN (i := t_12) (j := ((t_.Types).length)) · rfl rfl) <| nw <| sw fun a s => c_dec s rfl (fun hc13 => ?_) (fun hc13 => ?_)
  ·replace hg := br_t hg hc13
   have hmx14 := SlR.mx (s.ft 102 rfl)
   apply wp_skip
   apply pN
   apply wQ
   obtain ⟨k15, hg, hk15⟩ := jn_some hg
   refine c_post (fun a w => ∃ (t_16 : (List (List UInt8))) (A17 : Option Addr) (c18 : Nat) (cs19 : List Value), k15 t_16 = some r ∧ St (cx f38 M w0) [(1, vP b2 0), (3, sl A17 t_16 c18), (17, sl Ap03 t_.Types cp03), (18, vI ((((t_.Types).length : Nat) : Int))), (19, vI (((t_12 : Nat) : Int)))] [(1000, Ob.box b2 [vT t_.Name, sl Ap02 t_.Imports cp02, sl Ap03 t_.Types cp03, sl Ap04 t_.Templates cp04, sl Ap05 t_.Entries cp05, sl Ap06 t_.LexRules cp06, sl Ap07 t_.Rules cp07, sl Ap08 t_.Roots cp08, sl Ap09 t_.Checks cp09, sl Ap010 t_.Drops cp010] 38), (700114, Ob.row (A17) ((t_16).length) (c18) 9 1 (cs19))] [(101, sF Rep.str Ap02 cp02 t_.Imports), (102, sF RTypeDecl Ap03 cp03 t_.Types), (103, sF RDef Ap04 cp04 t_.Templates), (104, sF REntryDecl Ap05 cp05 t_.Entries), (105, sF RLexDecl Ap06 cp06 t_.LexRules), (106, sF RDef Ap07 cp07 t_.Rules), (107, sF RDef Ap08 cp08 t_.Roots), (108, sF (Rep.list Rep.str) Ap09 cp09 t_.Checks), (109, sF Rep.str Ap010 cp010 t_.Drops), (115, rdF Rep.str (cs19) (t_16))] a w) ?_ ?_
   ·obtain ⟨x21, hx21, hg⟩ := bind_some hg
    apply wp_block
    apply wQ
    apply wL
    obtain ⟨p24, hep24, hpp24⟩ := SlR.elemX (s.ft 102 rfl) hx21
    refine qq s rfl (y_elem (sz := 3) (i := t_12) s rfl rfl underlying32 rfl hep24 rfl (lt_of_get hx21)) fun a s => ?_
    obtain ⟨hlq25, hmq25, csq25, hdq25, hcq25⟩ := hpp24
    obtain ⟨Aq252, cq252, Aq253, cq253, rfl, lq251, hq252, hq253⟩ := RTypeDecl.open hdq25
    refine S s <| nsw 118 hq252 <| nsw 119 hq253 <| yw rfl (y_ldp · rfl hlq25 hmq25 (by simpa using hcq25) underlying49 rfl rfl) fun a s => ?_
    refine l_seq rfl (l_alloc (zs := [vT ([]), .slice none 0 0, .slice none 0 0]) s 1402 rfl rfl rfl rfl fun b26 a w hb hK s => ?_)
    refine l_seq rfl (l_store (n := 3) (cs' := [vT x21.Name, sl Aq252 x21.Supers cq252, sl Aq253 x21.Feats cq253]) s 1402 rfl rfl rfl rfl rfl rfl rfl rfl ?_); clear s; intro w hK s; clear hK
    obtain ⟨hk27, hg⟩ := chk_some hg
    refine S s <| nw <| sw <| lw <| mw rfl <| yw rfl (y_boxField (o' := 1) · rfl underlying49 rfl rfl rfl) <| yw rfl (y_loadBox1 (kk := 1402) · rfl rfl rfl underlying25 rfl) fun a s => ?_
    obtain ⟨ns31, hs31, hns31⟩ := SlR.src (s.ft 118 rfl)
    replace s := s.add 122 (rdF Rep.str ns31 (x21.Supers)) hns31
    refine l_seq rfl (l_append (sz := 1) (by_ := 16) (N := (t_8 ++ x21.Supers).length) s 700112 rfl rfl rfl underlying25 rfl rfl rfl rfl rfl hs31 (by rw [List.length_append]; try rfl) rfl (rmA hk27 rfl) (rmB hk27) rfl fun Aq30 cq30 a w hA hK s => ?_)
    replace s := s.add 123 (rdF Rep.str (cs11 ++ ns31) (t_8 ++ x21.Supers)) (RdAll.append (s.ft 113 rfl) (s.ft 122 rfl))
    refine S s <| aw rfl <| nw <| vw <| yw rfl (y_boxField (o' := 2) · rfl underlying49 rfl rfl rfl) <| yw rfl (y_loadBox1 (kk := 1402) · rfl rfl rfl underlying47 rfl) <| yw rfl (y_lenSlice · rfl underlying47) <| mw rfl <| nw <| bw <| alw 125 123 rfl fun a s => ?_
    replace s := s.pk [(1000, 1000), (1402, 1402), (700124, 700112)] (by decide)
    refine c_loop (σ := Nat) (fun m2 a w => ∃ (t_32 : (List (List UInt8))) (t_36 : Nat) (A33 : Option Addr) (c34 : Nat) (cs35 : List Value), module_uses_L1 n k15 x21 m2 t_32 t_36 = some r ∧ St (cx f38 M w0) [(1, vP b2 0), (3, sl A33 t_32 c34), (17, sl Ap03 t_.Types cp03), (18, vI ((((t_.Types).length : Nat) : Int))), (19, vI (((t_12 : Nat) : Int))), (28, sl Aq253 x21.Feats cq253), (29, vI ((((x21.Feats).length : Nat) : Int))), (30, vI (((t_36 : Nat) : Int)))] [(1000, Ob.box b2 [vT t_.Name, sl Ap02 t_.Imports cp02, sl Ap03 t_.Types cp03, sl Ap04 t_.Templates cp04, sl Ap05 t_.Entries cp05, sl Ap06 t_.LexRules cp06, sl Ap07 t_.Rules cp07, sl Ap08 t_.Roots cp08, sl Ap09 t_.Checks cp09, sl Ap010 t_.Drops cp010] 38), (700124, Ob.row (A33) ((t_32).length) (c34) 9 1 (cs35))] [(101, sF Rep.str Ap02 cp02 t_.Imports), (102, sF RTypeDecl Ap03 cp03 t_.Types), (103, sF RDef Ap04 cp04 t_.Templates), (104, sF REntryDecl Ap05 cp05 t_.Entries), (105, sF RLexDecl Ap06 cp06 t_.LexRules), (106, sF RDef Ap07 cp07 t_.Rules), (107, sF RDef Ap08 cp08 t_.Roots), (108, sF (Rep.list Rep.str) Ap09 cp09 t_.Checks), (109, sF Rep.str Ap010 cp010 t_.Drops), (119, sF RFeatDecl Aq253 cq253 x21.Feats), (125, rdF Rep.str (cs35) (t_32))] a w) (fun m2 => m2) n ⟨(t_8 ++ x21.Supers), (0), (Aq30), (cq30), (cs11 ++ ns31), hg, (s.sb rfl rfl rfl)⟩ ?_
    clear s a; rintro m2 a w ⟨t_32, t_36, A33, c34, cs35, hg, s⟩
    rcases m2 with _ | m2
    ·rw [module_uses_L1] at hg; cases hg
    rw [module_uses_L1] at hg
    refine S s <| vw <| yw rfl (y_lssN (i := t_36) (j := ((x21.Feats).length)) · rfl rfl) <| nw <| sw fun a s => c_dec s rfl (fun hc37 => ?_) (fun hc37 => ?_)
    ·replace hg := br_t hg hc37
     have hmx38 := SlR.mx (s.ft 119 rfl)
     obtain ⟨x40, hx40, hg⟩ := bind_some hg
     refine S s <| kw <| pw <| sw <| bw <| sw <| lw fun a s => ?_
     obtain ⟨p43, hep43, hpp43⟩ := SlR.elemX (s.ft 119 rfl) hx40
     refine qq s rfl (y_elem (sz := 2) (i := t_36) s rfl rfl underlying47 rfl hep43 rfl (lt_of_get hx40)) fun a s => ?_
     obtain ⟨hlq44, hmq44, csq44, hdq44, hcq44⟩ := hpp43
     obtain ⟨rfl, lq441, lq442⟩ := RFeatDecl.open hdq44
     refine qq s rfl (y_ldp s rfl hlq44 hmq44 (by simpa using hcq44) underlying82 rfl rfl) fun a s => ?_
     refine l_seq rfl (l_alloc (zs := [vT ([]), vT ([])]) s 1802 rfl rfl rfl rfl fun b45 a w hb hK s => ?_)
     refine l_seq rfl (l_store (n := 2) (cs' := [vT x40.Feat, vT x40.Value]) s 1802 rfl rfl rfl rfl rfl rfl rfl rfl ?_); clear s; intro w hK s; clear hK
     obtain ⟨hk47, hg⟩ := chk_some hg
     refine S s <| nw <| lw <| mw rfl <| yw rfl (y_boxField (o' := 1) · rfl underlying82 rfl rfl rfl) <| yw rfl (y_loadBox1 (kk := 1802) · rfl rfl rfl underlying9 rfl) fun a s => ?_
     refine l_seq rfl (l_buildDense (sz := 1) s 1903 rfl rfl rfl underlying25 rfl rfl rfl rfl rfl rfl rfl fun b50 a w hbb50 hK s => ?_)
     clear hbb50
     replace s := s.add 128 (rdF Rep.str (cellsOfL [vT x40.Value]) ([x40.Value])) (RdAll.cons (by exact ⟨rfl, (by omega)⟩) (RdAll.nil _ _ _))
     have hs52 := row_src (s.wd.holds 1903 _ rfl) (RdAll.one (s.ft 128 rfl))
     refine l_seq rfl (l_append (sz := 1) (by_ := 16) (N := (t_32 ++ [x40.Value]).length) s 700124 rfl rfl rfl underlying25 rfl rfl rfl rfl rfl hs52 (by rw [List.length_append]; try rfl) rfl (rmA hk47 rfl) (rmB hk47) rfl fun Aq51 cq51 a w hA hK s => ?_)
     replace s := s.add 129 (rdF Rep.str (cs35 ++ (cellsOfL [vT x40.Value])) (t_32 ++ [x40.Value])) (RdAll.append (s.ft 125 rfl) (s.ft 128 rfl))
     refine asg s rfl rfl fun a s => ?_
     apply wO
     refine p_inN ?_
     refine S s <| pw <| lw <| yw rfl (y_addN (i := t_36) (j := 1) · rfl rfl (in64.2 (by omega))) <| mw rfl <| nw <| alw 125 129 rfl fun a s => ?_
     exact ⟨m2, Nat.lt_succ_self _, ⟨(t_32 ++ [x40.Value]), (t_36 + 1), (Aq51), (cq51), (cs35 ++ (cellsOfL [vT x40.Value])), hg, (s.sb rfl rfl rfl)⟩⟩
    replace hg := br_f hg hc37
    apply wp_exit
    refine p_then ?_
    refine p_then ?_
    refine p_in ?_
    refine p_inN ?_
    apply pN
    replace s := s.al 115 125 rfl
    replace s := s.pk [(1000, 1000), (700114, 700124)] (by decide)
    exact ⟨(t_32), (A33), (c34), (cs35), hg, (s.sb rfl rfl rfl)⟩
   clear s a; rintro a w ⟨t_16, A17, c18, cs19, hg, s⟩
   subst hk15
   refine S s <| lw <| yw rfl (y_addN (i := t_12) (j := 1) · rfl rfl (in64.2 (by omega))) <| mw rfl <| nw <| alw 113 115 rfl fun a s => ?_
   replace s := s.pk [(1000, 1000), (700112, 700114)] (by decide)
   exact ⟨m1, Nat.lt_succ_self _, ⟨(t_16), (t_12 + 1), (A17), (c18), (cs19), hg, (s.sb rfl rfl rfl)⟩⟩
  replace hg := br_f hg hc13
  apply wp_exit
  refine p_then ?_
  refine p_then ?_
  refine p_in ?_
  apply pN
  replace s := s.al 111 113 rfl
  replace s := s.pk [(1000, 1000), (700110, 700112)] (by decide)
  exact ⟨(t_8), (A9), (c10), (cs11), hg, (s.sb rfl rfl rfl)⟩
 clear s a; rintro a w ⟨t_4, A5, c6, cs7, hg, s⟩
 subst hk3
 obtain ⟨r53, hr53, hg⟩ := bind_some hg
 refine S s <| sw <| sw <| lw <| yw rfl (y_loadAll (kk := 1000) · rfl rfl underlying38 rfl rfl) fun a s => ?_
 refine lc s rfl func65 (by kernel_rfl) (c_module_definitions n _ _ s.lt _ _ _ _ _ _ _ _ _ _ _ _ _ _ _ _ _ _ _ (by omega) (s.ft 101 rfl) (s.ft 102 rfl) (s.ft 103 rfl) (s.ft 104 rfl) (s.ft 105 rfl) (s.ft 106 rfl) (s.ft 107 rfl) (s.ft 108 rfl) (s.ft 109 rfl) _ hr53) fun v56 a w hK hp s => ?_
 obtain ⟨Au57a1, cu57a1, rfl, hu57a1⟩ := hp
 refine S s <| nsw 131 hu57a1 <| yw rfl (y_lenSlice · rfl underlying33) <| mw rfl <| nw <| bw <| alw 133 111 rfl fun a s => ?_
 replace s := s.pk [(1000, 1000), (700132, 700110)] (by decide)
 refine c_loop (σ := Nat) (fun m3 a w => ∃ (t_58 : (List (List UInt8))) (t_62 : Nat) (A59 : Option Addr) (c60 : Nat) (cs61 : List Value), module_uses_L2 n r53 m3 t_58 t_62 = some r ∧ St (cx f38 M w0) [(3, sl A59 t_58 c60), (42, sl Au57a1 r53 cu57a1), (43, vI ((((r53).length : Nat) : Int))), (44, vI (((t_62 : Nat) : Int)))] [(700132, Ob.row (A59) ((t_58).length) (c60) 9 1 (cs61))] [(131, sF RDef Au57a1 cu57a1 r53), (133, rdF Rep.str (cs61) (t_58))] a w) (fun m3 => m3) n ⟨(t_4), (0), (A5), (c6), (cs7), hg, (s.sb rfl rfl rfl)⟩ ?_
 clear s a; rintro m3 a w ⟨t_58, t_62, A59, c60, cs61, hg, s⟩
 rcases m3 with _ | m3
 ·rw [module_uses_L2] at hg; cases hg
 rw [module_uses_L2] at hg
 refine S s <| vw <| yw rfl (y_lssN (i := t_62) (j := ((r53).length)) · rfl rfl) <| nw <| sw fun a s => c_dec s rfl (fun hc63 => ?_) (fun hc63 => ?_)
 ·replace hg := br_t hg hc63
  have hmx64 := SlR.mx (s.ft 131 rfl)
  apply wp_skip
  apply pN
  apply wQ
  obtain ⟨k65, hg, hk65⟩ := jn_some hg
  refine c_post (fun a w => ∃ (t_66 : (List (List UInt8))) (A67 : Option Addr) (c68 : Nat) (cs69 : List Value), k65 t_66 = some r ∧ St (cx f38 M w0) [(3, sl A67 t_66 c68), (42, sl Au57a1 r53 cu57a1), (43, vI ((((r53).length : Nat) : Int))), (44, vI (((t_62 : Nat) : Int)))] [(700134, Ob.row (A67) ((t_66).length) (c68) 9 1 (cs69))] [(131, sF RDef Au57a1 cu57a1 r53), (135, rdF Rep.str (cs69) (t_66))] a w) ?_ ?_
  ·obtain ⟨x71, hx71, hg⟩ := bind_some hg
   apply wp_block
   apply wQ
   apply wL
   obtain ⟨p74, hep74, hpp74⟩ := SlR.elemX (s.ft 131 rfl) hx71
   refine qq s rfl (y_elem (sz := 6) (i := t_62) s rfl rfl underlying33 rfl hep74 rfl (lt_of_get hx71)) fun a s => ?_
   obtain ⟨hlq75, hmq75, csq75, hdq75, hcq75⟩ := hpp74
   obtain ⟨Aq754, cq754, Aq755, cq755, Aq756, cq756, rfl, lq751, lq753, hq754, hq755, hq756⟩ := RDef.open hdq75
   refine S s <| nsw 139 hq754 <| nsw 140 hq755 <| nsw 141 hq756 <| yw rfl (y_ldp · rfl hlq75 hmq75 (by simpa using hcq75) underlying62 rfl rfl) fun a s => ?_
   refine l_seq rfl (l_alloc (zs := [vT ([]), vI 0, vT ([]), .slice none 0 0, .slice none 0 0, .slice none 0 0]) s 2402 rfl rfl rfl rfl fun b76 a w hb hK s => ?_)
   refine l_seq rfl (l_store (n := 6) (cs' := [vT x71.Name, vI x71.Strict.Op, vT x71.Strict.Name, sl Aq754 x71.Strict.Path cq754, sl Aq755 x71.Strict.Kids cq755, sl Aq756 x71.Defaults cq756]) s 2402 rfl rfl rfl rfl rfl rfl rfl rfl ?_); clear s; intro w hK s; clear hK
   obtain ⟨hk78, hg⟩ := chk_some hg
   refine S s <| nw <| sw <| lw <| yw rfl (y_boxField (o' := 1) · rfl underlying62 rfl rfl rfl) <| yw rfl (y_loadBox (kk := 2402) (n := 4) (vs := [vI x71.Strict.Op, vT x71.Strict.Name, sl Aq754 x71.Strict.Path cq754, sl Aq755 x71.Strict.Kids cq755]) · rfl rfl underlying60 rfl rfl rfl rfl) fun a s => ?_
   refine l_seq rfl (l_buildDense (sz := 4) s 2502 rfl rfl rfl underlying58 rfl rfl rfl rfl rfl rfl rfl fun b81 a w hbb81 hK s => ?_)
   clear hbb81
   refine S s <| yw rfl (y_boxField (o' := 5) · rfl underlying62 rfl rfl rfl) <| yw rfl (y_loadBox1 (kk := 2402) · rfl rfl rfl underlying58 rfl) fun a s => ?_
   replace s := s.add 145 (rdF RDesc (cellsOfL [.agg #[vI x71.Strict.Op, vT x71.Strict.Name, sl Aq754 x71.Strict.Path cq754, sl Aq755 x71.Strict.Kids cq755]]) ([x71.Strict])) (RdAll.cons (by exact (RDesc.mk' (x := x71.Strict) (by omega) (s.ft 139 rfl) (s.ft 140 rfl))) (RdAll.nil _ _ _))
   obtain ⟨ns83, hs83, hns83⟩ := SlR.src (s.ft 141 rfl)
   replace s := s.add 146 (rdF RDesc ns83 (x71.Defaults)) hns83
   refine l_seq rfl (l_append (sz := 4) (by_ := 72) (N := ([x71.Strict] ++ x71.Defaults).length) s 2502 rfl rfl rfl underlying58 rfl rfl rfl rfl rfl hs83 (by rw [List.length_append]; try rfl) rfl (rmA hk78 rfl) (rmB hk78) rfl fun Aq82 cq82 a w hA hK s => ?_)
   replace s := s.add 147 (rdF RDesc ((cellsOfL [.agg #[vI x71.Strict.Op, vT x71.Strict.Name, sl Aq754 x71.Strict.Path cq754, sl Aq755 x71.Strict.Kids cq755]]) ++ ns83) ([x71.Strict] ++ x71.Defaults)) (RdAll.append (s.ft 145 rfl) (s.ft 146 rfl))
   refine S s <| yw rfl (y_lenSlice · rfl underlying58) <| mw rfl <| nw <| bw <| alw 149 133 rfl fun a s => ?_
   replace s := s.pk [(2402, 2402), (2502, 2502), (700148, 700132)] (by decide)
   refine c_loop (σ := Nat) (fun m4 a w => ∃ (t_84 : (List (List UInt8))) (t_88 : Nat) (A85 : Option Addr) (c86 : Nat) (cs87 : List Value), module_uses_L3 n k65 x71 m4 t_84 t_88 = some r ∧ St (cx f38 M w0) [(3, sl A85 t_84 c86), (42, sl Au57a1 r53 cu57a1), (43, vI ((((r53).length : Nat) : Int))), (44, vI (((t_62 : Nat) : Int))), (53, sl Aq82 ([x71.Strict] ++ x71.Defaults) cq82), (54, vI (((([x71.Strict] ++ x71.Defaults).length : Nat) : Int))), (55, vI (((t_88 : Nat) : Int)))] [(2502, Ob.row (Aq82) (([x71.Strict] ++ x71.Defaults).length) (cq82) 60 4 ((cellsOfL [.agg #[vI x71.Strict.Op, vT x71.Strict.Name, sl Aq754 x71.Strict.Path cq754, sl Aq755 x71.Strict.Kids cq755]]) ++ ns83)), (700148, Ob.row (A85) ((t_84).length) (c86) 9 1 (cs87))] [(131, sF RDef Au57a1 cu57a1 r53), (147, rdF RDesc ((cellsOfL [.agg #[vI x71.Strict.Op, vT x71.Strict.Name, sl Aq754 x71.Strict.Path cq754, sl Aq755 x71.Strict.Kids cq755]]) ++ ns83) ([x71.Strict] ++ x71.Defaults)), (149, rdF Rep.str (cs87) (t_84))] a w) (fun m4 => m4) n ⟨(t_58), (0), (A59), (c60), (cs61), hg, (s.sb rfl rfl rfl)⟩ ?_
   clear s a; rintro m4 a w ⟨t_84, t_88, A85, c86, cs87, hg, s⟩
   rcases m4 with _ | m4
   ·rw [module_uses_L3] at hg; cases hg
   rw [module_uses_L3] at hg
   refine S s <| vw <| yw rfl (y_lssN (i := t_88) (j := (([x71.Strict] ++ x71.Defaults).length)) · rfl rfl) <| nw <| sw fun a s => c_dec s rfl (fun hc89 => ?_) (fun hc89 => ?_)
   ·replace hg := br_t hg hc89
    have hmx90 := row_mx (s.wd.holds 2502 _ rfl)
    apply wp_skip
    apply pN
    apply wQ
    obtain ⟨k91, hg, hk91⟩ := jn_some hg
    refine c_post (fun a w => ∃ (t_92 : (List (List UInt8))) (A93 : Option Addr) (c94 : Nat) (cs95 : List Value), k91 t_92 = some r ∧ St (cx f38 M w0) [(3, sl A93 t_92 c94), (42, sl Au57a1 r53 cu57a1), (43, vI ((((r53).length : Nat) : Int))), (44, vI (((t_62 : Nat) : Int))), (53, sl Aq82 ([x71.Strict] ++ x71.Defaults) cq82), (54, vI (((([x71.Strict] ++ x71.Defaults).length : Nat) : Int))), (55, vI (((t_88 : Nat) : Int)))] [(2502, Ob.row (Aq82) (([x71.Strict] ++ x71.Defaults).length) (cq82) 60 4 ((cellsOfL [.agg #[vI x71.Strict.Op, vT x71.Strict.Name, sl Aq754 x71.Strict.Path cq754, sl Aq755 x71.Strict.Kids cq755]]) ++ ns83)), (700150, Ob.row (A93) ((t_92).length) (c94) 9 1 (cs95))] [(131, sF RDef Au57a1 cu57a1 r53), (147, rdF RDesc ((cellsOfL [.agg #[vI x71.Strict.Op, vT x71.Strict.Name, sl Aq754 x71.Strict.Path cq754, sl Aq755 x71.Strict.Kids cq755]]) ++ ns83) ([x71.Strict] ++ x71.Defaults)), (151, rdF Rep.str (cs95) (t_92))] a w) ?_ ?_
    ·obtain ⟨x97, hx97, hg⟩ := bind_some hg
     apply wp_block
     apply wQ
     apply wL
     obtain ⟨hiq100, bq100, hAq100⟩ := SlR.row1 (s.wd.holds 2502 _ rfl) (s.ft 147 rfl) rfl rfl hx97
     refine qq s rfl (y_rowIndex (sz := 4) (i := t_88) s rfl rfl underlying58 rfl hAq100 rfl hiq100) fun a s => ?_
     have hz101 := (s.ft 147 rfl).at_ _ _ hx97
     obtain ⟨Az1013, cz1013, Az1014, cz1014, ez101, lz1012, hz1013, hz1014⟩ := RDesc.open hz101
     refine S s <| nsw 154 hz1013 <| nsw 155 hz1014 <| yw rfl (y_loadRow (kk := 2502) (vs := [vI x97.Op, vT x97.Name, sl Az1013 x97.Path cz1013, sl Az1014 x97.Kids cz1014]) · rfl rfl hAq100 ez101 underlying60 rfl rfl) fun a s => ?_
     refine l_seq rfl (l_alloc (zs := [vI 0, vT ([]), .slice none 0 0, .slice none 0 0]) s 2702 rfl rfl rfl rfl fun b102 a w hb hK s => ?_)
     refine l_seq rfl (l_store (n := 4) (cs' := [vI x97.Op, vT x97.Name, sl Az1013 x97.Path cz1013, sl Az1014 x97.Kids cz1014]) s 2702 rfl rfl rfl rfl rfl rfl rfl rfl ?_); clear s; intro w hK s; clear hK
     obtain ⟨r103, hr103, hg⟩ := bind_some hg
     refine S s <| nw <| sw <| lw <| yw rfl (y_loadAll (kk := 2702) · rfl rfl underlying60 rfl rfl) fun a s => ?_
     refine lc s rfl func66 (by kernel_rfl) (c_desc_Names n _ _ s.lt _ _ _ _ _ (by omega) (s.ft 154 rfl) (s.ft 155 rfl) _ hr103) fun v106 a w hK hp s => ?_
     obtain ⟨Au107a1, cu107a1, Au107b1, cu107b1, rfl, hu107a1, hu107b1⟩ := hp
     obtain ⟨hk108, hg⟩ := chk_some hg
     refine S s <| nsw 158 hu107a1 <| nsw 159 hu107b1 <| mw rfl <| yw rfl (y_extract · rfl rfl) <| yw rfl (y_extract · rfl rfl) <| aw rfl <| aw rfl <| nw <| sw <| lw <| mw rfl <| mw rfl fun a s => ?_
     obtain ⟨ns112, hs112, hns112⟩ := SlR.src (s.ft 158 rfl)
     replace s := s.add 162 (rdF Rep.str ns112 (r103.1)) hns112
     refine l_seq rfl (l_append (sz := 1) (by_ := 16) (N := (t_84 ++ r103.1).length) s 700148 rfl rfl rfl underlying25 rfl rfl rfl rfl rfl hs112 (by rw [List.length_append]; try rfl) rfl (rmA hk108 rfl) (rmB hk108) rfl fun Aq111 cq111 a w hA hK s => ?_)
     replace s := s.add 163 (rdF Rep.str (cs87 ++ ns112) (t_84 ++ r103.1)) (RdAll.append (s.ft 149 rfl) (s.ft 162 rfl))
     refine S s <| aw rfl <| nw <| vw <| mw rfl <| yw rfl (y_lenSlice · rfl underlying25) <| mw rfl <| nw <| bw <| alw 165 163 rfl fun a s => ?_
     replace s := s.pk [(2502, 2502), (2702, 2702), (700164, 700148)] (by decide)
     refine c_loop (σ := Nat) (fun m5 a w => ∃ (t_113 : (List (List UInt8))) (t_117 : Nat) (A114 : Option Addr) (c115 : Nat) (cs116 : List Value), module_uses_L4 n k91 r103 m5 t_113 t_117 = some r ∧ St (cx f38 M w0) [(3, sl A114 t_113 c115), (42, sl Au57a1 r53 cu57a1), (43, vI ((((r53).length : Nat) : Int))), (44, vI (((t_62 : Nat) : Int))), (53, sl Aq82 ([x71.Strict] ++ x71.Defaults) cq82), (54, vI (((([x71.Strict] ++ x71.Defaults).length : Nat) : Int))), (55, vI (((t_88 : Nat) : Int))), (67, sl Au107b1 r103.2 cu107b1), (68, vI ((((r103.2).length : Nat) : Int))), (69, vI (((t_117 : Nat) : Int)))] [(2502, Ob.row (Aq82) (([x71.Strict] ++ x71.Defaults).length) (cq82) 60 4 ((cellsOfL [.agg #[vI x71.Strict.Op, vT x71.Strict.Name, sl Aq754 x71.Strict.Path cq754, sl Aq755 x71.Strict.Kids cq755]]) ++ ns83)), (700164, Ob.row (A114) ((t_113).length) (c115) 9 1 (cs116))] [(131, sF RDef Au57a1 cu57a1 r53), (147, rdF RDesc ((cellsOfL [.agg #[vI x71.Strict.Op, vT x71.Strict.Name, sl Aq754 x71.Strict.Path cq754, sl Aq755 x71.Strict.Kids cq755]]) ++ ns83) ([x71.Strict] ++ x71.Defaults)), (159, sF Rep.str Au107b1 cu107b1 r103.2), (165, rdF Rep.str (cs116) (t_113))] a w) (fun m5 => m5) n ⟨(t_84 ++ r103.1), (0), (Aq111), (cq111), (cs87 ++ ns112), hg, (s.sb rfl rfl rfl)⟩ ?_
     clear s a; rintro m5 a w ⟨t_113, t_117, A114, c115, cs116, hg, s⟩
     rcases m5 with _ | m5
     ·rw [module_uses_L4] at hg; cases hg
     rw [module_uses_L4] at hg
     refine S s <| vw <| yw rfl (y_lssN (i := t_117) (j := ((r103.2).length)) · rfl rfl) <| nw <| sw fun a s => c_dec s rfl (fun hc118 => ?_) (fun hc118 => ?_)
     ·replace hg := br_t hg hc118
      have hmx119 := SlR.mx (s.ft 159 rfl)
      obtain ⟨x121, hx121, hg⟩ := bind_some hg
      refine S s <| kw <| pw <| sw <| bw <| sw <| lw fun a s => ?_
      obtain ⟨p123, hep123, hpp123⟩ := SlR.elemX (s.ft 159 rfl) hx121
      refine qq s rfl (y_elem (sz := 1) (i := t_117) s rfl rfl underlying25 rfl hep123 rfl (lt_of_get hx121)) fun a s => ?_
      obtain ⟨hlq124, hmq124, csq124, hdq124, hcq124⟩ := hpp123
      obtain ⟨rfl, lq1241⟩ := hdq124
      obtain ⟨hk125, hg⟩ := chk_some hg
      obtain ⟨hk127, hg⟩ := chk_some hg
      refine S s <| yw rfl (y_ldp1 · rfl hlq124 hmq124 (hcq124 0 _ rfl) underlying9 rfl) <| aw rfl <| nw <| lw <| mw rfl <| mw rfl <| yw rfl (y_concat · rfl rfl hk125) fun a s => ?_
      refine l_seq rfl (l_buildDense (sz := 1) s 3303 rfl rfl rfl underlying25 rfl rfl rfl rfl rfl rfl rfl fun b130 a w hbb130 hK s => ?_)
      clear hbb130
      replace s := s.add 168 (rdF Rep.str (cellsOfL [vT ([64] ++ x121)]) ([[64] ++ x121])) (RdAll.cons (by exact ⟨rfl, (by rw [List.length_append]; omega)⟩) (RdAll.nil _ _ _))
      have hs132 := row_src (s.wd.holds 3303 _ rfl) (RdAll.one (s.ft 168 rfl))
      refine l_seq rfl (l_append (sz := 1) (by_ := 16) (N := (t_113 ++ [[64] ++ x121]).length) s 700164 rfl rfl rfl underlying25 rfl rfl rfl rfl rfl hs132 (by simp only [List.length_append]; try rfl) rfl (rmA hk127 rfl) (rmB hk127) rfl fun Aq131 cq131 a w hA hK s => ?_)
      replace s := s.add 169 (rdF Rep.str (cs116 ++ (cellsOfL [vT ([64] ++ x121)])) (t_113 ++ [[64] ++ x121])) (RdAll.append (s.ft 165 rfl) (s.ft 168 rfl))
      refine asg s rfl rfl fun a s => ?_
      apply wO
      refine p_inN ?_
      refine S s <| pw <| lw <| yw rfl (y_addN (i := t_117) (j := 1) · rfl rfl (in64.2 (by omega))) <| mw rfl <| nw <| alw 165 169 rfl fun a s => ?_
      exact ⟨m5, Nat.lt_succ_self _, ⟨(t_113 ++ [[64] ++ x121]), (t_117 + 1), (Aq131), (cq131), (cs116 ++ (cellsOfL [vT ([64] ++ x121)])), hg, (s.sb rfl rfl rfl)⟩⟩
     replace hg := br_f hg hc118
     apply wp_exit
     refine p_then ?_
     refine p_then ?_
     refine p_in ?_
     refine p_inN ?_
     apply pN
     replace s := s.al 151 165 rfl
     replace s := s.pk [(2502, 2502), (700150, 700164)] (by decide)
     exact ⟨(t_113), (A114), (c115), (cs116), hg, (s.sb rfl rfl rfl)⟩
    clear s a; rintro a w ⟨t_92, A93, c94, cs95, hg, s⟩
    subst hk91
    refine S s <| lw <| yw rfl (y_addN (i := t_88) (j := 1) · rfl rfl (in64.2 (by omega))) <| mw rfl <| nw <| alw 149 151 rfl fun a s => ?_
    replace s := s.pk [(2502, 2502), (700148, 700150)] (by decide)
    exact ⟨m4, Nat.lt_succ_self _, ⟨(t_92), (t_88 + 1), (A93), (c94), (cs95), hg, (s.sb rfl rfl rfl)⟩⟩
   replace hg := br_f hg hc89
   apply wp_exit
   refine p_then ?_
   refine p_then ?_
   refine p_in ?_
   refine p_inN ?_
   apply pN
   replace s := s.al 135 149 rfl
   replace s := s.pk [(2502, 2502), (700134, 700148)] (by decide)
   exact ⟨(t_84), (A85), (c86), (cs87), hg, (s.sb rfl rfl rfl)⟩
  clear s a; rintro a w ⟨t_66, A67, c68, cs69, hg, s⟩
  subst hk65
  refine S s <| lw <| yw rfl (y_addN (i := t_62) (j := 1) · rfl rfl (in64.2 (by omega))) <| mw rfl <| nw <| alw 133 135 rfl fun a s => ?_
  replace s := s.pk [(700132, 700134)] (by decide)
  exact ⟨m3, Nat.lt_succ_self _, ⟨(t_66), (t_62 + 1), (A67), (c68), (cs69), hg, (s.sb rfl rfl rfl)⟩⟩
 replace hg := br_f hg hc63
 apply wp_exit
 refine p_then ?_
 refine p_then ?_
 refine p_in ?_
 refine S s <| pw <| vw <| mw rfl <| aw rfl <| nw fun a s => ?_
 apply wp_ret
 obtain rfl := Option.some.inj hg
 refine fin1 (fn := Tryz.f38) s rfl (r_tmp s rfl) ?_
 exact ⟨(A59), (c60), rfl, (s.rowOut (R := Rep.str) (kk := 700132) rfl rfl (s.ft 133 rfl))⟩
set_option maxHeartbeats 1000000 in
theorem c_module_Link_1 (n : Nat) (M : Bs) (w0 : World) (hM : ∀ b, M b → b < w0.heap.size) (x_ : (List UInt8)) (lp01 : (x_).length ≤ 9223372036854775807) (bf0 : Nat) (c0_ : (List (List UInt8))) (Af01 : Option Addr) (cf01 : Nat) (hf01 : SlR Rep.str M w0 Af01 (c0_).length cf01 (c0_)) (hb0 : BoxR bf0 [.slice (Af01) ((c0_).length) (cf01)] 25 M w0) (r : Bool) (hg : module_Link_1 n x_ c0_ = some r) :
    Calls Tryz.prog 39 [.string (bs (x_)), .pointer (some ⟨bf0, 0, none⟩)].toArray w0 (Ret noB w0 fun v w => v = .bool (r)) := by
 unfold module_Link_1 at hg
 refine enter M noB func39 rfl rfl hM ?_
 intro a s
 replace s := s.es 101 hf01
 replace s := s.ebx 102 hb0
 obtain ⟨r1, hr1, hg⟩ := bind_some hg
 refine S s <| vw <| aw rfl <| nw <| sw <| lw <| yw rfl (fun s => y_loadF1 s rfl (s.ft 102 rfl) rfl underlying25 rfl) <| mw rfl fun a s => ?_
 refine lc s rfl func40 (by kernel_rfl) (c_slices_Contains_string n _ _ s.lt _ _ _ (s.ft 101 rfl) _ (by omega) _ hr1) fun v4 a w hK hp s => ?_
 obtain rfl := hp
 refine S s <| yw rfl (y_not · rfl) <| aw rfl <| nw fun a s => ?_
 apply wp_ret
 obtain rfl := Option.some.inj hg
 refine fin1 (fn := Tryz.f39) s rfl (r_tmp s rfl) ?_
 exact rfl
set_option maxHeartbeats 1000000 in
theorem c_r22_find (n : Nat) (M : Bs) (w0 : World) (hM : ∀ b, M b → b < w0.heap.size) (l_ : (List Module)) (Ap01 : Option Addr) (cp01 : Nat) (hp01 : SlR RModule M w0 Ap01 (l_).length cp01 (l_)) (name_ : (List UInt8)) (lp11 : (name_).length ≤ 9223372036854775807) (r : Int) (hg : r22_find n l_ name_ = some r) :
    Calls Tryz.prog 28 [.slice (Ap01) ((l_).length) (cp01), .string (bs (name_))].toArray w0 (Ret noB w0 fun v w => v = .int .i64 (r)) := by
 unfold r22_find at hg
 refine enter M noB func28 rfl rfl hM ?_
 intro a s
 refine S s <| esw 101 hp01 <| vw <| aw rfl <| nw <| sw <| vw <| aw rfl <| nw <| bw fun a s => ?_
 refine c_loop (σ := Nat) (fun m1 a w => ∃ (i_1 : Nat), r22_find_L0 n l_ name_ m1 i_1 = some r ∧ St (cx f28 M w0) [(0, sl Ap01 l_ cp01), (1, vT name_), (5, vI (((i_1 : Nat) : Int)))] [] [(101, sF RModule Ap01 cp01 l_)] a w) (fun m1 => m1) n ⟨(0), hg, (s.sb rfl rfl rfl)⟩ ?_
 clear s a; rintro m1 a w ⟨i_1, hg, s⟩
 rcases m1 with _ | m1
 ·rw [r22_find_L0] at hg; cases hg
 rw [r22_find_L0] at hg
 refine S s <| sw <| vw <| mw rfl <| mw rfl <| yw rfl (y_lenSlice · rfl underlying22) <| yw rfl (y_lssN (i := i_1) (j := ((l_).length)) · rfl rfl) <| nw fun a s => c_dec s rfl (fun hc2 => ?_) (fun hc2 => ?_)
 ·replace hg := br_t hg hc2
  have hmx3 := SlR.mx (s.ft 101 rfl)
  obtain ⟨x5, hx5, hg⟩ := bind_some hg
  refine S s <| kw <| pw <| sw <| bw <| sw <| lw <| mw rfl <| mw rfl fun a s => ?_
  obtain ⟨p7, hep7, hpp7⟩ := SlR.elemX (s.ft 101 rfl) hx5
  refine S s <| yw rfl (y_elem (sz := 10) (i := i_1) · rfl rfl underlying22 rfl hep7 rfl (lt_of_get hx5)) <| yw rfl (y_ptrField (o' := 0) · rfl underlying38 rfl rfl rfl) fun a s => ?_
  obtain ⟨hlq8, hmq8, csq8, hdq8, hcq8⟩ := hpp7
  obtain ⟨Aq82, cq82, Aq83, cq83, Aq84, cq84, Aq85, cq85, Aq86, cq86, Aq87, cq87, Aq88, cq88, Aq89, cq89, Aq810, cq810, rfl, lq81, hq82, hq83, hq84, hq85, hq86, hq87, hq88, hq89, hq810⟩ := RModule.open hdq8
  refine S s <| nsw 111 hq82 <| nsw 112 hq83 <| nsw 113 hq84 <| nsw 114 hq85 <| nsw 115 hq86 <| nsw 116 hq87 <| nsw 117 hq88 <| nsw 118 hq89 <| nsw 119 hq810 <| yw rfl (y_ldp1 · rfl hlq8 hmq8 (hcq8 0 _ rfl) underlying9 rfl) <| mw rfl <| yw rfl (y_seq · rfl rfl) <| nw fun a s => c_dec s rfl (fun hc9 => ?_) (fun hc9 => ?_)
  ·replace hg := br_t hg hc9
   refine S s <| vw <| mw rfl <| aw rfl <| nw fun a s => ?_
   apply wp_ret
   refine p_inR ?_
   refine p_thenR ?_
   refine p_thenR ?_
   refine p_inR ?_
   refine p_thenR ?_
   obtain rfl := Option.some.inj hg
   refine fin1 (fn := Tryz.f28) s rfl (r_tmp s rfl) ?_
   exact rfl
  replace hg := br_f hg hc9
  apply wp_skip
  refine p_inN ?_
  refine S s <| pw <| lw <| mw rfl <| yw rfl (y_addN (i := i_1) (j := 1) · rfl rfl (in64.2 (by omega))) <| aw rfl <| nw fun a s => ?_
  exact ⟨m1, Nat.lt_succ_self _, ⟨(i_1 + 1), hg, (s.sb rfl rfl rfl)⟩⟩
 replace hg := br_f hg hc2
 apply wp_exit
 refine p_then ?_
 refine p_then ?_
 refine p_in ?_
 refine S s <| pw <| vw <| aw rfl <| nw fun a s => ?_
 apply wp_ret
 obtain rfl := Option.some.inj hg
 refine fin1 (fn := Tryz.f28) s rfl (r_tmp s rfl) ?_
 exact rfl
set_option maxHeartbeats 1000000 in
theorem c_r22_has (n : Nat) (M : Bs) (w0 : World) (hM : ∀ b, M b → b < w0.heap.size) (l_ : (List (List UInt8))) (Ap01 : Option Addr) (cp01 : Nat) (hp01 : SlR Rep.str M w0 Ap01 (l_).length cp01 (l_)) (s_ : (List UInt8)) (lp11 : (s_).length ≤ 9223372036854775807) (r : Bool) (hg : r22_has n l_ s_ = some r) :
    Calls Tryz.prog 47 [.slice (Ap01) ((l_).length) (cp01), .string (bs (s_))].toArray w0 (Ret noB w0 fun v w => v = .bool (r)) := by
 unfold r22_has at hg
 refine enter M noB func47 rfl rfl hM ?_
 intro a s
 refine S s <| esw 101 hp01 <| vw <| aw rfl <| nw <| sw <| vw <| aw rfl <| nw <| bw fun a s => ?_
 refine c_loop (σ := Nat) (fun m1 a w => ∃ (i_1 : Nat), r22_has_L0 n l_ s_ m1 i_1 = some r ∧ St (cx f47 M w0) [(0, sl Ap01 l_ cp01), (1, vT s_), (5, vI (((i_1 : Nat) : Int)))] [] [(101, sF Rep.str Ap01 cp01 l_)] a w) (fun m1 => m1) n ⟨(0), hg, (s.sb rfl rfl rfl)⟩ ?_
 clear s a; rintro m1 a w ⟨i_1, hg, s⟩
 rcases m1 with _ | m1
 ·rw [r22_has_L0] at hg; cases hg
 rw [r22_has_L0] at hg
 refine S s <| sw <| vw <| mw rfl <| mw rfl <| yw rfl (y_lenSlice · rfl underlying25) <| yw rfl (y_lssN (i := i_1) (j := ((l_).length)) · rfl rfl) <| nw fun a s => c_dec s rfl (fun hc2 => ?_) (fun hc2 => ?_)
 ·replace hg := br_t hg hc2
  have hmx3 := SlR.mx (s.ft 101 rfl)
  obtain ⟨x5, hx5, hg⟩ := bind_some hg
  refine S s <| kw <| pw <| sw <| bw <| sw <| lw <| mw rfl <| mw rfl fun a s => ?_
  obtain ⟨p7, hep7, hpp7⟩ := SlR.elemX (s.ft 101 rfl) hx5
  refine qq s rfl (y_elem (sz := 1) (i := i_1) s rfl rfl underlying25 rfl hep7 rfl (lt_of_get hx5)) fun a s => ?_
  obtain ⟨hlq8, hmq8, csq8, hdq8, hcq8⟩ := hpp7
  obtain ⟨rfl, lq81⟩ := hdq8
  refine S s <| yw rfl (y_ldp1 · rfl hlq8 hmq8 (hcq8 0 _ rfl) underlying9 rfl) <| mw rfl <| yw rfl (y_seq · rfl rfl) <| nw fun a s => c_dec s rfl (fun hc9 => ?_) (fun hc9 => ?_)
  ·replace hg := br_t hg hc9
   refine S s <| vw <| aw rfl <| nw fun a s => ?_
   apply wp_ret
   refine p_inR ?_
   refine p_thenR ?_
   refine p_thenR ?_
   refine p_inR ?_
   refine p_thenR ?_
   obtain rfl := Option.some.inj hg
   refine fin1 (fn := Tryz.f47) s rfl (r_tmp s rfl) ?_
   exact rfl
  replace hg := br_f hg hc9
  apply wp_skip
  refine p_inN ?_
  refine S s <| pw <| lw <| mw rfl <| yw rfl (y_addN (i := i_1) (j := 1) · rfl rfl (in64.2 (by omega))) <| aw rfl <| nw fun a s => ?_
  exact ⟨m1, Nat.lt_succ_self _, ⟨(i_1 + 1), hg, (s.sb rfl rfl rfl)⟩⟩
 replace hg := br_f hg hc2
 apply wp_exit
 refine p_then ?_
 refine p_then ?_
 refine p_in ?_
 refine S s <| pw <| vw <| aw rfl <| nw fun a s => ?_
 apply wp_ret
 obtain rfl := Option.some.inj hg
 refine fin1 (fn := Tryz.f47) s rfl (r_tmp s rfl) ?_
 exact rfl
set_option maxHeartbeats 1000000 in
theorem c_r22_Needs (n : Nat) (M : Bs) (w0 : World) (hM : ∀ b, M b → b < w0.heap.size) (l_ : (List Module)) (Ap01 : Option Addr) (cp01 : Nat) (hp01 : SlR RModule M w0 Ap01 (l_).length cp01 (l_)) (name_ : (List UInt8)) (lp11 : (name_).length ≤ 9223372036854775807) (r : (List (List UInt8))) (hg : r22_Needs n l_ name_ = some r) :
    Calls Tryz.prog 21 [.slice (Ap01) ((l_).length) (cp01), .string (bs (name_))].toArray w0 (Ret noB w0 fun v w => ∃ (Aa1 : Option Addr), ∃ (ca1 : Nat), v = .slice (Aa1) ((r).length) (ca1) ∧ (SlR Rep.str M w Aa1 (r).length ca1 (r))) := by
 unfold r22_Needs at hg
 refine enter M noB func21 rfl rfl hM ?_
 intro a s
 refine S s <| esw 101 hp01 <| vw <| aw rfl <| nw <| vw <| mw rfl fun a s => ?_
 refine l_seq rfl (l_buildDense (sz := 1) s 1101 rfl rfl rfl underlying25 rfl rfl rfl rfl rfl rfl rfl fun b2 a w hbb2 hK s => ?_)
 clear hbb2
 refine S s <| aw rfl <| nw <| sw <| vw <| aw rfl <| nw <| bw fun a s => ?_
 replace s := s.add 104 (rdF Rep.str (cellsOfL [vT name_]) ([name_])) (RdAll.cons (by exact ⟨rfl, (by omega)⟩) (RdAll.nil _ _ _))
 replace s := s.al 103 104 rfl
 replace s := s.pk [(700102, 1101)] (by decide)
 refine c_loop (σ := Nat) (fun m1 a w => ∃ (out_3 : (List (List UInt8))) (i_7 : Nat) (A4 : Option Addr) (c5 : Nat) (cs6 : List Value), r22_Needs_L0 n l_ m1 out_3 i_7 = some r ∧ St (cx f21 M w0) [(0, sl Ap01 l_ cp01), (5, sl A4 out_3 c5), (6, vI (((i_7 : Nat) : Int)))] [(700102, Ob.row (A4) ((out_3).length) (c5) 9 1 (cs6))] [(101, sF RModule Ap01 cp01 l_), (103, rdF Rep.str (cs6) (out_3))] a w) (fun m1 => m1) n ⟨([name_]), (0), (some ⟨b2, 0, none⟩), (1), (cellsOfL [vT name_]), hg, (s.sb rfl rfl rfl)⟩ ?_
 clear s a; rintro m1 a w ⟨out_3, i_7, A4, c5, cs6, hg, s⟩
 rcases m1 with _ | m1
 ·rw [r22_Needs_L0] at hg; cases hg
 rw [r22_Needs_L0] at hg
 refine S s <| sw <| vw <| mw rfl <| mw rfl <| yw rfl (y_lenSlice · rfl underlying25) <| yw rfl (y_lssN (i := i_7) (j := ((out_3).length)) · rfl rfl) <| nw fun a s => c_dec s rfl (fun hc8 => ?_) (fun hc8 => ?_)
 ·replace hg := br_t hg hc8
  have hmx9 := row_mx (s.wd.holds 700102 _ rfl)
  apply wp_skip
  apply pN
  apply wQ
  obtain ⟨k10, hg, hk10⟩ := jn_some hg
  refine c_post (fun a w => ∃ (out_11 : (List (List UInt8))) (A12 : Option Addr) (c13 : Nat) (cs14 : List Value), k10 out_11 = some r ∧ St (cx f21 M w0) [(0, sl Ap01 l_ cp01), (5, sl A12 out_11 c13), (6, vI (((i_7 : Nat) : Int)))] [(700105, Ob.row (A12) ((out_11).length) (c13) 9 1 (cs14))] [(101, sF RModule Ap01 cp01 l_), (106, rdF Rep.str (cs14) (out_11))] a w) ?_ ?_
  ·obtain ⟨x16, hx16, hg⟩ := bind_some hg
   obtain ⟨r18, hr18, hg⟩ := bind_some hg
   refine S s <| bw <| sw <| lw <| mw rfl <| mw rfl <| mw rfl fun a s => ?_
   obtain ⟨hiq21, bq21, hAq21⟩ := SlR.row1 (s.wd.holds 700102 _ rfl) (s.ft 103 rfl) rfl rfl hx16
   refine qq s rfl (y_rowIndex (sz := 1) (i := i_7) s rfl rfl underlying25 rfl hAq21 rfl hiq21) fun a s => ?_
   have hz22 := (s.ft 103 rfl).at_ _ _ hx16
   obtain ⟨ez22, lz221⟩ := hz22
   refine qq s rfl (y_loadRow1 (kk := 700102) s rfl rfl hAq21 (take1 ez22) underlying9 rfl) fun a s => ?_
   refine lc s rfl func28 (by kernel_rfl) (c_r22_find n _ _ s.lt _ _ _ (s.ft 101 rfl) _ (by omega) _ hr18) fun v23 a w hK hp s => ?_
   obtain rfl := hp
   refine S s <| aw rfl <| nw <| sw <| vw <| mw rfl <| yw rfl (y_lss · rfl rfl) <| nw fun a s => c_dec s rfl (fun hc25 => ?_) (fun hc25 => ?_)
   ·replace hg := br_t hg hc25
    apply wp_exit
    refine p_then ?_
    refine p_in ?_
    apply pN
    replace s := s.al 106 103 rfl
    replace s := s.pk [(700105, 700102)] (by decide)
    exact ⟨(out_3), (A4), (c5), (cs6), hg, (s.sb rfl rfl rfl)⟩
   replace hg := br_f hg hc25
   refine S s <| kw <| pw <| vw <| aw rfl <| nw <| bw <| alw 108 103 rfl fun a s => ?_
   replace s := s.pk [(700107, 700102)] (by decide)
   refine c_loop (σ := Nat) (fun m2 a w => ∃ (out_26 : (List (List UInt8))) (m_30 : Nat) (A27 : Option Addr) (c28 : Nat) (cs29 : List Value), r22_Needs_L1 n l_ k10 r18 m2 out_26 m_30 = some r ∧ St (cx f21 M w0) [(0, sl Ap01 l_ cp01), (5, sl A27 out_26 c28), (6, vI (((i_7 : Nat) : Int))), (7, vI r18), (8, vI (((m_30 : Nat) : Int)))] [(700107, Ob.row (A27) ((out_26).length) (c28) 9 1 (cs29))] [(101, sF RModule Ap01 cp01 l_), (108, rdF Rep.str (cs29) (out_26))] a w) (fun m2 => m2) n ⟨(out_3), (0), (A4), (c5), (cs6), hg, (s.sb rfl rfl rfl)⟩ ?_
   clear s a; rintro m2 a w ⟨out_26, m_30, A27, c28, cs29, hg, s⟩
   rcases m2 with _ | m2
   ·rw [r22_Needs_L1] at hg; cases hg
   rw [r22_Needs_L1] at hg
   obtain ⟨x32, hx32, hg⟩ := bind_some hg
   refine S s <| sw <| sw <| lw <| mw rfl <| mw rfl <| mw rfl fun a s => ?_
   obtain ⟨p34, hep34, hpp34⟩ := SlR.elemX (s.ft 101 rfl) (ix_some hx32).1
   refine S s <| yw rfl (y_elem (sz := 10) (i := ((r18).toNat)) · rfl rfl underlying22 rfl hep34 (ix_some hx32).2.1 (lt_of_get (ix_some hx32).1)) <| yw rfl (y_ptrField (o' := 1) · rfl underlying38 rfl rfl rfl) fun a s => ?_
   obtain ⟨hlq35, hmq35, csq35, hdq35, hcq35⟩ := hpp34
   obtain ⟨Aq352, cq352, Aq353, cq353, Aq354, cq354, Aq355, cq355, Aq356, cq356, Aq357, cq357, Aq358, cq358, Aq359, cq359, Aq3510, cq3510, rfl, lq351, hq352, hq353, hq354, hq355, hq356, hq357, hq358, hq359, hq3510⟩ := RModule.open hdq35
   refine S s <| nsw 118 hq352 <| nsw 119 hq353 <| nsw 120 hq354 <| nsw 121 hq355 <| nsw 122 hq356 <| nsw 123 hq357 <| nsw 124 hq358 <| nsw 125 hq359 <| nsw 126 hq3510 <| yw rfl (y_ldp1 · rfl hlq35 hmq35 (hcq35 1 _ rfl) underlying25 rfl) <| yw rfl (y_lenSlice · rfl underlying25) <| yw rfl (y_lssN (i := m_30) (j := ((x32.Imports).length)) · rfl rfl) <| nw fun a s => c_dec s rfl (fun hc36 => ?_) (fun hc36 => ?_)
   ·replace hg := br_t hg hc36
    have hmx37 := SlR.mx (s.ft 118 rfl)
    obtain ⟨x41, hx41, hg⟩ := bind_some hg
    obtain ⟨r43, hr43, hg⟩ := bind_some hg
    refine S s <| kw <| pw <| sw <| bw <| sw <| lw <| mw rfl <| mw rfl <| mw rfl fun a s => ?_
    obtain ⟨p46, hep46, hpp46⟩ := SlR.elemX (s.ft 101 rfl) (ix_some hx32).1
    refine S s <| yw rfl (y_elem (sz := 10) (i := ((r18).toNat)) · rfl rfl underlying22 rfl hep46 (ix_some hx32).2.1 (lt_of_get (ix_some hx32).1)) <| yw rfl (y_ptrField (o' := 1) · rfl underlying38 rfl rfl rfl) fun a s => ?_
    obtain ⟨hlq47, hmq47, csq47, hdq47, hcq47⟩ := hpp46
    obtain ⟨Aq472, cq472, Aq473, cq473, Aq474, cq474, Aq475, cq475, Aq476, cq476, Aq477, cq477, Aq478, cq478, Aq479, cq479, Aq4710, cq4710, rfl, lq471, hq472, hq473, hq474, hq475, hq476, hq477, hq478, hq479, hq4710⟩ := RModule.open hdq47
    refine S s <| nsw 137 hq472 <| nsw 138 hq473 <| nsw 139 hq474 <| nsw 140 hq475 <| nsw 141 hq476 <| nsw 142 hq477 <| nsw 143 hq478 <| nsw 144 hq479 <| nsw 145 hq4710 <| yw rfl (y_ldp1 · rfl hlq47 hmq47 (hcq47 1 _ rfl) underlying25 rfl) <| mw rfl fun a s => ?_
    obtain ⟨p48, hep48, hpp48⟩ := SlR.elemX (s.ft 137 rfl) hx41
    refine qq s rfl (y_elem (sz := 1) (i := m_30) s rfl rfl underlying25 rfl hep48 rfl (lt_of_get hx41)) fun a s => ?_
    obtain ⟨hlq49, hmq49, csq49, hdq49, hcq49⟩ := hpp48
    obtain ⟨rfl, lq491⟩ := hdq49
    refine qq s rfl (y_ldp1 s rfl hlq49 hmq49 (hcq49 0 _ rfl) underlying9 rfl) fun a s => ?_
    have hT := s
    replace hT := hT.fz (R := Rep.str) (kk := 700107) [] 146 rfl rfl (hT.ft 108 rfl) rfl
    refine lc s rfl func47 (by kernel_rfl) (c_r22_has n _ _ hT.lt _ _ _ (hT.ft 146 rfl) _ (by omega) _ hr43) fun v50 a w hK hp s => ?_
    obtain rfl := hp
    refine S s <| yw rfl (y_not · rfl) <| nw fun a s => c_cond s rfl (fun hc52 => ?_) (fun hc52 => ?_)
    ·replace hg := br_t hg hc52
     obtain ⟨hk58, hg⟩ := chk_some hg
     refine S s <| lw <| mw rfl <| mw rfl <| mw rfl fun a s => ?_
     obtain ⟨p61, hep61, hpp61⟩ := SlR.elemX (s.ft 101 rfl) (ix_some hx32).1
     refine S s <| yw rfl (y_elem (sz := 10) (i := ((r18).toNat)) · rfl rfl underlying22 rfl hep61 (ix_some hx32).2.1 (lt_of_get (ix_some hx32).1)) <| yw rfl (y_ptrField (o' := 1) · rfl underlying38 rfl rfl rfl) fun a s => ?_
     obtain ⟨hlq62, hmq62, csq62, hdq62, hcq62⟩ := hpp61
     obtain ⟨Aq622, cq622, Aq623, cq623, Aq624, cq624, Aq625, cq625, Aq626, cq626, Aq627, cq627, Aq628, cq628, Aq629, cq629, Aq6210, cq6210, rfl, lq621, hq622, hq623, hq624, hq625, hq626, hq627, hq628, hq629, hq6210⟩ := RModule.open hdq62
     refine S s <| nsw 158 hq622 <| nsw 159 hq623 <| nsw 160 hq624 <| nsw 161 hq625 <| nsw 162 hq626 <| nsw 163 hq627 <| nsw 164 hq628 <| nsw 165 hq629 <| nsw 166 hq6210 <| yw rfl (y_ldp1 · rfl hlq62 hmq62 (hcq62 1 _ rfl) underlying25 rfl) <| mw rfl fun a s => ?_
     obtain ⟨p63, hep63, hpp63⟩ := SlR.elemX (s.ft 158 rfl) hx41
     refine qq s rfl (y_elem (sz := 1) (i := m_30) s rfl rfl underlying25 rfl hep63 rfl (lt_of_get hx41)) fun a s => ?_
     obtain ⟨hlq64, hmq64, csq64, hdq64, hcq64⟩ := hpp63
     obtain ⟨rfl, lq641⟩ := hdq64
     refine qq s rfl (y_ldp1 s rfl hlq64 hmq64 (hcq64 0 _ rfl) underlying9 rfl) fun a s => ?_
     refine l_seq rfl (l_buildDense (sz := 1) s 2109 rfl rfl rfl underlying25 rfl rfl rfl rfl rfl rfl rfl fun b65 a w hbb65 hK s => ?_)
     clear hbb65
     replace s := s.add 167 (rdF Rep.str (cellsOfL [vT x41]) ([x41])) (RdAll.cons (by exact ⟨rfl, (by omega)⟩) (RdAll.nil _ _ _))
     have hs67 := row_src (s.wd.holds 2109 _ rfl) (RdAll.one (s.ft 167 rfl))
     refine l_seq rfl (l_append (sz := 1) (by_ := 16) (N := (out_26 ++ [x41]).length) s 700107 rfl rfl rfl underlying25 rfl rfl rfl rfl rfl hs67 (by rw [List.length_append]; try rfl) rfl (rmA hk58 rfl) (rmB hk58) rfl fun Aq66 cq66 a w hA hK s => ?_)
     replace s := s.add 168 (rdF Rep.str (cs29 ++ (cellsOfL [vT x41])) (out_26 ++ [x41])) (RdAll.append (s.ft 108 rfl) (s.ft 167 rfl))
     refine asg s rfl rfl fun a s => ?_
     apply wO
     refine p_inN ?_
     refine S s <| pw <| lw <| mw rfl <| yw rfl (y_addN (i := m_30) (j := 1) · rfl rfl (in64.2 (by omega))) <| aw rfl <| nw <| alw 108 168 rfl fun a s => ?_
     exact ⟨m2, Nat.lt_succ_self _, ⟨(out_26 ++ [x41]), (m_30 + 1), (Aq66), (cq66), (cs29 ++ (cellsOfL [vT x41])), hg, (s.sb rfl rfl rfl)⟩⟩
    replace hg := br_n hg hc52
    apply wp_skip
    refine p_inN ?_
    refine S s <| pw <| lw <| mw rfl <| yw rfl (y_addN (i := m_30) (j := 1) · rfl rfl (in64.2 (by omega))) <| aw rfl <| nw <| alw 108 108 rfl fun a s => ?_
    exact ⟨m2, Nat.lt_succ_self _, ⟨(out_26), (m_30 + 1), (A27), (c28), (cs29), hg, (s.sb rfl rfl rfl)⟩⟩
   replace hg := br_f hg hc36
   apply wp_exit
   refine p_then ?_
   refine p_then ?_
   refine p_in ?_
   refine p_inN ?_
   apply pN
   replace s := s.al 106 108 rfl
   replace s := s.pk [(700105, 700107)] (by decide)
   exact ⟨(out_26), (A27), (c28), (cs29), hg, (s.sb rfl rfl rfl)⟩
  clear s a; rintro a w ⟨out_11, A12, c13, cs14, hg, s⟩
  subst hk10
  refine S s <| lw <| mw rfl <| yw rfl (y_addN (i := i_7) (j := 1) · rfl rfl (in64.2 (by omega))) <| aw rfl <| nw <| alw 103 106 rfl fun a s => ?_
  replace s := s.pk [(700102, 700105)] (by decide)
  exact ⟨m1, Nat.lt_succ_self _, ⟨(out_11), (i_7 + 1), (A12), (c13), (cs14), hg, (s.sb rfl rfl rfl)⟩⟩
 replace hg := br_f hg hc8
 apply wp_exit
 refine p_then ?_
 refine p_then ?_
 refine p_in ?_
 refine S s <| pw <| vw <| mw rfl <| aw rfl <| nw fun a s => ?_
 apply wp_ret
 obtain rfl := Option.some.inj hg
 refine fin1 (fn := Tryz.f21) s rfl (r_tmp s rfl) ?_
 exact ⟨(A4), (c5), rfl, (s.rowOut (R := Rep.str) (kk := 700102) rfl rfl (s.ft 103 rfl))⟩
set_option maxHeartbeats 1000000 in
theorem c_r06_decl (n : Nat) (M : Bs) (w0 : World) (hM : ∀ b, M b → b < w0.heap.size) (name_ : (List UInt8)) (lp01 : (name_).length ≤ 9223372036854775807) (super_ : (List UInt8)) (lp11 : (super_).length ≤ 9223372036854775807) (feats_ : (List (List UInt8))) (Ap21 : Option Addr) (cp21 : Nat) (hp21 : SlR Rep.str M w0 Ap21 (feats_).length cp21 (feats_)) (r : TypeDecl) (hg : r06_decl n name_ super_ feats_ = some r) :
    Calls Tryz.prog 60 [.string (bs (name_)), .string (bs (super_)), .slice (Ap21) ((feats_).length) (cp21)].toArray w0 (Ret noB w0 fun v w => ∃ (Aa2 : Option Addr), ∃ (ca2 : Nat), ∃ (Aa3 : Option Addr), ∃ (ca3 : Nat), v = .agg #[.string (bs (r.Name)), .slice (Aa2) ((r.Supers).length) (ca2), .slice (Aa3) ((r.Feats).length) (ca3)] ∧ ((r.Name).length ≤ 9223372036854775807) ∧ (SlR Rep.str M w Aa2 (r.Supers).length ca2 (r.Supers)) ∧ (SlR RFeatDecl M w Aa3 (r.Feats).length ca3 (r.Feats))) := by
 unfold r06_decl at hg
 refine enter M noB func60 rfl rfl hM ?_
 intro a s
 replace s := s.es 101 hp21
 apply wR
 refine l_seq rfl (l_alloc (zs := [vT ([]), .slice none 0 0, .slice none 0 0]) s 1000 rfl rfl rfl rfl fun b2 a w hb hK s => ?_)
 refine S s <| nw <| vw <| mw rfl <| yw rfl (y_build (parts := [(0, .tmp 9)]) (ps := [(0, vT name_)]) (cells := #[vT name_, .slice none 0 0, .slice none 0 0]) · rfl (by kernel_rfl)) fun a s => ?_
 refine l_seq rfl (l_alloc (zs := [vT ([]), .slice none 0 0, .slice none 0 0]) s 1102 rfl rfl rfl rfl fun b4 a w hb hK s => ?_)
 refine l_seq rfl (l_store (n := 3) (cs' := [vT name_, .slice none 0 0, .slice none 0 0]) s 1102 rfl rfl rfl rfl rfl rfl rfl rfl ?_); clear s; intro w hK s; clear hK
 refine S s <| nw <| sw <| vw <| mw rfl <| yw rfl (y_sne · rfl rfl) <| nw fun a s => ?_
 obtain ⟨k5, hg, hk5⟩ := jn_some hg
 refine c_post (fun a w => ∃ (x_6 : (List (List UInt8))) (A7 : Option Addr) (c8 : Nat) (cs9 : List Value), k5 x_6 = some r ∧ St (cx f60 M w0) [(2, sl Ap21 feats_ cp21), (6, vP b2 0), (7, vP b4 0)] [(1000, Ob.box b2 [vT ([]), .slice none 0 0, .slice none 0 0] 49), (1102, Ob.box b4 [vT name_, sl A7 x_6 c8, .slice none 0 0] 49), (700102, Ob.row (A7) ((x_6).length) (c8) 9 1 (cs9))] [(101, sF Rep.str Ap21 cp21 feats_), (103, rdF Rep.str (cs9) (x_6))] a w) ?_ ?_
 ·refine c_dec s rfl (fun hc10 => ?_) (fun hc10 => ?_)
  ·replace hg := br_t hg hc10
   refine S s <| lw <| mw rfl fun a s => ?_
   refine l_seq rfl (l_buildDense (sz := 1) s 1301 rfl rfl rfl underlying25 rfl rfl rfl rfl rfl rfl rfl fun b12 a w hbb12 hK s => ?_)
   clear hbb12
   refine qq s rfl (y_boxField (o' := 1) s rfl underlying49 rfl rfl rfl) fun a s => ?_
   refine l_seq rfl (l_store (n := 1) (cs' := [vT name_, .slice (some ⟨b12, 0, none⟩) (1) (1), .slice none 0 0]) s 1102 rfl rfl rfl rfl rfl rfl rfl rfl ?_); clear s; intro w hK s; clear hK
   apply wN
   replace s := s.add 104 (rdF Rep.str (cellsOfL [vT super_]) ([super_])) (RdAll.cons (by exact ⟨rfl, (by omega)⟩) (RdAll.nil _ _ _))
   replace s := s.al 103 104 rfl
   replace s := s.pk [(1000, 1000), (1102, 1102), (700102, 1301)] (by decide)
   exact ⟨([super_]), (some ⟨b12, 0, none⟩), (1), (cellsOfL [vT super_]), hg, (s.sb rfl rfl rfl)⟩
  replace hg := br_f hg hc10
  apply wp_skip
  apply pN
  replace s := s.nilRow 700102 9 1 rfl
  replace s := s.add 103 (rdF Rep.str [] []) (RdAll.nil _ _ _)
  exact ⟨([]), (none), (0), ([]), hg, (s.sb rfl rfl rfl)⟩
 clear s a; rintro a w ⟨x_6, A7, c8, cs9, hg, s⟩
 subst hk5
 refine S s <| sw <| vw <| aw rfl <| nw fun a s => ?_
 obtain ⟨k13, hg, hk13⟩ := jn_some hg
 refine c_post (fun a w => ∃ (x_14 : (List FeatDecl)) (A15 : Option Addr) (c16 : Nat) (cs17 : List Value), k13 x_14 = some r ∧ St (cx f60 M w0) [(6, vP b2 0), (7, vP b4 0)] [(1000, Ob.box b2 [vT ([]), .slice none 0 0, .slice none 0 0] 49), (1102, Ob.box b4 [vT name_, sl A7 x_6 c8, sl A15 x_14 c16] 49), (700102, Ob.row (A7) ((x_6).length) (c8) 9 1 (cs9)), (700105, Ob.row (A15) ((x_14).length) (c16) 82 2 (cs17))] [(103, rdF Rep.str (cs9) (x_6)), (106, rdF RFeatDecl (cs17) (x_14))] a w) ?_ ?_
 ·apply wp_block
  replace s := s.nilRow 700107 82 2 rfl
  replace s := s.add 108 (rdF RFeatDecl [] []) (RdAll.nil _ _ _)
  refine c_loop (σ := Nat) (fun m1 a w => ∃ (i_18 : Nat) (x_19 : (List FeatDecl)) (A20 : Option Addr) (c21 : Nat) (cs22 : List Value), r06_decl_L0 n feats_ k13 m1 i_18 x_19 = some r ∧ St (cx f60 M w0) [(2, sl Ap21 feats_ cp21), (6, vP b2 0), (7, vP b4 0), (8, vI (((i_18 : Nat) : Int)))] [(1000, Ob.box b2 [vT ([]), .slice none 0 0, .slice none 0 0] 49), (1102, Ob.box b4 [vT name_, sl A7 x_6 c8, sl A20 x_19 c21] 49), (700102, Ob.row (A7) ((x_6).length) (c8) 9 1 (cs9)), (700107, Ob.row (A20) ((x_19).length) (c21) 82 2 (cs22))] [(101, sF Rep.str Ap21 cp21 feats_), (103, rdF Rep.str (cs9) (x_6)), (108, rdF RFeatDecl (cs22) (x_19))] a w) (fun m1 => m1) n ⟨(0), ([]), (none), (0), ([]), hg, (s.sb rfl rfl rfl)⟩ ?_
  clear s a; rintro m1 a w ⟨i_18, x_19, A20, c21, cs22, hg, s⟩
  rcases m1 with _ | m1
  ·rw [r06_decl_L0] at hg; cases hg
  rw [r06_decl_L0] at hg
  obtain ⟨hk23, hg⟩ := chk_some hg
  refine S s <| sw <| sw <| lw <| mw rfl <| yw rfl (y_addN (i := i_18) (j := 1) · rfl rfl (in64.2 (by omega))) <| mw rfl <| yw rfl (y_lenSlice · rfl underlying25) <| yw rfl (y_lssN (i := (i_18 + 1)) (j := ((feats_).length)) · rfl rfl) <| nw fun a s => c_dec s rfl (fun hc24 => ?_) (fun hc24 => ?_)
  ·replace hg := br_t hg hc24
   have hmx25 := SlR.mx (s.ft 101 rfl)
   obtain ⟨x27, hx27, hg⟩ := bind_some hg
   obtain ⟨x30, hx30, hg⟩ := bind_some hg
   obtain ⟨hk33, hg⟩ := chk_some hg
   refine S s <| kw <| pw <| sw <| bw fun a s => ?_
   refine d_plan s [(13, 700107), (15, 1102)] [(0, some 0), (1, some 1102), (2, some 0), (3, some 0), (4, some 0), (5, some 0), (6, some 0), (7, some 0), (8, some 0), (9, some 0), (10, some 0), (11, some 0), (12, none), (13, none), (14, none), (15, none)] rfl (by kernel_rfl) (by kernel_rfl) rfl ?_; clear s; intro wr hZ s; have hR := s.wd
   refine qt s hR rfl (y_boxField (o' := 2) s rfl underlying49 rfl rfl rfl) fun a s => ?_
   refine qt s hR rfl (y_loadBox1 (kk := 1102) s rfl rfl rfl underlying47 rfl) fun a s => ?_
   refine qt s hR rfl (y_move s rfl) fun a s => ?_
   refine qt s hR rfl (y_move s rfl) fun a s => ?_
   obtain ⟨p36, hep36, hpp36⟩ := SlR.elemX (s.ft 101 rfl) hx27
   refine qt s hR rfl (y_elem (sz := 1) (i := i_18) s rfl rfl underlying25 rfl hep36 rfl (lt_of_get hx27)) fun a s => ?_
   obtain ⟨hlq37, hmq37, csq37, hdq37, hcq37⟩ := hpp36
   obtain ⟨rfl, lq371⟩ := hdq37
   refine qt s hR rfl (y_ldp1 s rfl hlq37 hmq37 (hcq37 0 _ rfl) underlying9 rfl) fun a s => ?_
   refine qt s hR rfl (y_move s rfl) fun a s => ?_
   refine qt s hR rfl (y_move s rfl) fun a s => ?_
   refine qt s hR rfl (y_addN (i := i_18) (j := 1) s rfl rfl (in64.2 (by omega))) fun a s => ?_
   obtain ⟨p38, hep38, hpp38⟩ := SlR.elemX (s.ft 101 rfl) hx30
   refine qt s hR rfl (y_elem (sz := 1) (i := (i_18 + 1)) s rfl rfl underlying25 rfl hep38 rfl (lt_of_get hx30)) fun a s => ?_
   obtain ⟨hlq39, hmq39, csq39, hdq39, hcq39⟩ := hpp38
   obtain ⟨rfl, lq391⟩ := hdq39
   refine qt s hR rfl (y_ldp1 s rfl hlq39 hmq39 (hcq39 0 _ rfl) underlying9 rfl) fun a s => ?_
   refine qt s hR rfl (y_build (parts := [(0, .tmp 28), (1, .tmp 33)]) (ps := [(0, vT x27), (1, vT x30)]) (cells := #[vT x27, vT x30]) s rfl (by kernel_rfl)) fun a s => ?_
   refine l_take s rfl rfl (l_buildDense (sz := 2) s 1712 rfl rfl rfl underlying47 rfl rfl rfl rfl rfl rfl rfl fun b40 a w hbb40 hK s => ?_)
   have hNb40 := NewA.lit hZ hbb40
   clear hbb40
   replace hZ := Nat.le_trans hZ hK.size; refine ⟨fun g _ h => h.grow hK, ?_⟩; clear hK
   replace s := s.add 111 (rdF RFeatDecl (cellsOfL [.agg #[vT x27, vT x30]]) ([(FeatDecl.mk x27 x30)])) (RdAll.cons (by exact (RFeatDecl.mk' (x := (FeatDecl.mk x27 x30)) (by omega) (by omega))) (RdAll.nil _ _ _))
   have hs42 := row_src (s.wd.holds 1712 _ rfl) (RdAll.one (s.ft 111 rfl))
   refine l_take s rfl rfl (l_append (sz := 2) (by_ := 32) (N := (x_19 ++ [(FeatDecl.mk x27 x30)]).length) s 700107 rfl rfl rfl underlying47 rfl rfl rfl rfl rfl hs42 (by rw [List.length_append]; try rfl) rfl (rmA hk33 rfl) (rmB hk33) rfl fun Aq41 cq41 a w hA hK s => ?_)
   replace hZ := Nat.le_trans hZ hK.size; refine ⟨fun g hg h => h.obj hR (kk := 700107) rfl hK (by rintro rfl; exact absurd hg (by decide)), ?_⟩
   replace s := s.add 112 (rdF RFeatDecl (cs22 ++ (cellsOfL [.agg #[vT x27, vT x30]])) (x_19 ++ [(FeatDecl.mk x27 x30)])) (RdAll.append (s.ft 108 rfl) (s.ft 111 rfl))
   refine l_take s rfl rfl (l_quiet s rfl rfl (y_boxField (o' := 2) s rfl underlying49 rfl rfl rfl) fun a s => ?_); refine ⟨fun g _ h => h, ?_⟩
   refine l_take s rfl rfl (l_store (n := 1) (cs' := [vT name_, sl A7 x_6 c8, sl Aq41 (x_19 ++ [(FeatDecl.mk x27 x30)]) cq41]) s 1102 rfl rfl rfl rfl rfl rfl rfl rfl ?_); clear s; intro w hK s; replace hZ := Nat.le_trans hZ hK.size
   refine ⟨fun g hg h => h.obj hR (kk := 1102) rfl hK (by rintro rfl; exact absurd hg (by decide)), ?_⟩; clear hK
   clear hR hZ
   refine p_inN ?_
   obtain ⟨hk43, hg⟩ := chk_some hg
   refine S s <| pw <| lw <| mw rfl <| yw rfl (y_addN (i := i_18) (j := 2) · rfl rfl (in64.2 (by omega))) <| aw rfl <| nw <| alw 108 112 rfl fun a s => ?_
   exact ⟨m1, Nat.lt_succ_self _, ⟨(i_18 + 2), (x_19 ++ [(FeatDecl.mk x27 x30)]), (Aq41), (cq41), (cs22 ++ (cellsOfL [.agg #[vT x27, vT x30]])), hg, (s.sb rfl rfl rfl)⟩⟩
  replace hg := br_f hg hc24
  apply wp_exit
  refine p_then ?_
  refine p_then ?_
  refine p_in ?_
  apply pN
  replace s := s.al 106 108 rfl
  replace s := s.pk [(1000, 1000), (1102, 1102), (700102, 700102), (700105, 700107)] (by decide)
  exact ⟨(x_19), (A20), (c21), (cs22), hg, (s.sb rfl rfl rfl)⟩
 clear s a; rintro a w ⟨x_14, A15, c16, cs17, hg, s⟩
 subst hk13
 apply wR
 refine qq s rfl (y_loadAll (kk := 1102) s rfl rfl underlying49 rfl rfl) fun a s => ?_
 refine l_seq rfl (l_store (n := 3) (cs' := [vT name_, sl A7 x_6 c8, sl A15 x_14 c16]) s 1000 rfl rfl rfl rfl rfl rfl rfl rfl ?_); clear s; intro w hK s; clear hK
 apply wN
 apply wp_ret
 obtain rfl := Option.some.inj hg
 refine fin1 (fn := Tryz.f60) s rfl (r_cell (kk := 1000) (n := 3) (vs := [vT name_, sl A7 x_6 c8, sl A15 x_14 c16]) s rfl rfl underlying49 rfl rfl rfl rfl) ?_
 exact ⟨(A7), (c8), (A15), (c16), rfl, (by omega), (s.rowOut (R := Rep.str) (kk := 700102) rfl rfl (s.ft 103 rfl)), (s.rowOut (R := RFeatDecl) (kk := 700105) rfl rfl (s.ft 106 rfl))⟩
set_option maxHeartbeats 1000000 in
theorem c_r06_Prelude (n : Nat) (M : Bs) (w0 : World) (hM : ∀ b, M b → b < w0.heap.size)  (r : (List TypeDecl)) (hg : r06_Prelude n = some r) :
    Calls Tryz.prog 34 [].toArray w0 (Ret noB w0 fun v w => ∃ (Aa1 : Option Addr), ∃ (ca1 : Nat), v = .slice (Aa1) ((r).length) (ca1) ∧ (SlR RTypeDecl M w Aa1 (r).length ca1 (r))) := by
 unfold r06_Prelude at hg
 refine enter M noB func34 rfl rfl hM ?_
 intro a s
 obtain ⟨r1, hr1, hg⟩ := bind_some hg
 obtain ⟨r4, hr4, hg⟩ := bind_some hg
 obtain ⟨r8, hr8, hg⟩ := bind_some hg
 obtain ⟨r11, hr11, hg⟩ := bind_some hg
 obtain ⟨r15, hr15, hg⟩ := bind_some hg
 obtain ⟨r18, hr18, hg⟩ := bind_some hg
 obtain ⟨r21, hr21, hg⟩ := bind_some hg
 obtain ⟨r24, hr24, hg⟩ := bind_some hg
 obtain ⟨r27, hr27, hg⟩ := bind_some hg
 obtain ⟨r31, hr31, hg⟩ := bind_some hg
 obtain ⟨r35, hr35, hg⟩ := bind_some hg
 obtain ⟨r39, hr39, hg⟩ := bind_some hg
 obtain ⟨r43, hr43, hg⟩ := bind_some hg
 refine S s <| vw <| aw rfl <| nw <| sw <| lw fun a s => ?_
 refine lc s rfl func60 (by kernel_rfl) (c_r06_decl n _ _ s.lt _ (Nat.le_of_ble_eq_true (by rfl)) _ (Nat.le_of_ble_eq_true (by rfl)) [] (none) (0) (SlR.nil_ _ _ _) _ hr1) fun v47 a w hK hp s => ?_
 obtain ⟨Au48a2, cu48a2, Au48a3, cu48a3, rfl, lu48a1, hu48a2, hu48a3⟩ := hp
 replace s := s.ns 139 hu48a2 |>.ns 140 hu48a3
 refine lc s rfl func60 (by kernel_rfl) (c_r06_decl n _ _ s.lt _ (Nat.le_of_ble_eq_true (by rfl)) _ (Nat.le_of_ble_eq_true (by rfl)) [] (none) (0) (SlR.nil_ _ _ _) _ hr4) fun v49 a w hK hp s => ?_
 obtain ⟨Au50a2, cu50a2, Au50a3, cu50a3, rfl, lu50a1, hu50a2, hu50a3⟩ := hp
 replace s := s.ns 141 hu50a2 |>.ns 142 hu50a3
 refine l_seq rfl (l_buildDense (sz := 1) s 1102 rfl rfl rfl underlying25 rfl rfl rfl rfl rfl rfl rfl fun b51 a w hbb51 hK s => ?_)
 clear hbb51
 replace s := s.add 143 (rdF Rep.str (cellsOfL [vT ([70, 73, 82, 83, 84]), vT ([116, 111, 112]), vT ([82, 69, 83, 84]), vT ([108, 105, 115, 116])]) ([[70, 73, 82, 83, 84], [116, 111, 112], [82, 69, 83, 84], [108, 105, 115, 116]])) (RdAll.cons (by exact ⟨rfl, (Nat.le_of_ble_eq_true (by rfl))⟩) (RdAll.cons (by exact ⟨rfl, (Nat.le_of_ble_eq_true (by rfl))⟩) (RdAll.cons (by exact ⟨rfl, (Nat.le_of_ble_eq_true (by rfl))⟩) (RdAll.cons (by exact ⟨rfl, (Nat.le_of_ble_eq_true (by rfl))⟩) (RdAll.nil _ _ _)))))
 replace s := s.freeze (R := Rep.str) (kk := 1102) (L' := []) 144 rfl rfl (s.ft 143 rfl) trivial rfl
 refine lc s rfl func60 (by kernel_rfl) (c_r06_decl n _ _ s.lt _ (Nat.le_of_ble_eq_true (by rfl)) _ (Nat.le_of_ble_eq_true (by rfl)) [[70, 73, 82, 83, 84], [116, 111, 112], [82, 69, 83, 84], [108, 105, 115, 116]] (some ⟨b51, 0, none⟩) (4) (s.ft 144 rfl) _ hr8) fun v52 a w hK hp s => ?_
 obtain ⟨Au53a2, cu53a2, Au53a3, cu53a3, rfl, lu53a1, hu53a2, hu53a3⟩ := hp
 replace s := s.ns 145 hu53a2 |>.ns 146 hu53a3
 refine lc s rfl func60 (by kernel_rfl) (c_r06_decl n _ _ s.lt _ (Nat.le_of_ble_eq_true (by rfl)) _ (Nat.le_of_ble_eq_true (by rfl)) [] (none) (0) (SlR.nil_ _ _ _) _ hr11) fun v54 a w hK hp s => ?_
 obtain ⟨Au55a2, cu55a2, Au55a3, cu55a3, rfl, lu55a1, hu55a2, hu55a3⟩ := hp
 replace s := s.ns 147 hu55a2 |>.ns 148 hu55a3
 refine l_seq rfl (l_buildDense (sz := 1) s 1105 rfl rfl rfl underlying25 rfl rfl rfl rfl rfl rfl rfl fun b56 a w hbb56 hK s => ?_)
 clear hbb56
 replace s := s.add 149 (rdF Rep.str (cellsOfL [vT ([76, 73, 83, 84]), vT ([108, 105, 115, 116]), vT ([76, 65, 83, 84]), vT ([108, 105, 115, 116])]) ([[76, 73, 83, 84], [108, 105, 115, 116], [76, 65, 83, 84], [108, 105, 115, 116]])) (RdAll.cons (by exact ⟨rfl, (Nat.le_of_ble_eq_true (by rfl))⟩) (RdAll.cons (by exact ⟨rfl, (Nat.le_of_ble_eq_true (by rfl))⟩) (RdAll.cons (by exact ⟨rfl, (Nat.le_of_ble_eq_true (by rfl))⟩) (RdAll.cons (by exact ⟨rfl, (Nat.le_of_ble_eq_true (by rfl))⟩) (RdAll.nil _ _ _)))))
 replace s := s.freeze (R := Rep.str) (kk := 1105) (L' := []) 150 rfl rfl (s.ft 149 rfl) trivial rfl
 refine lc s rfl func60 (by kernel_rfl) (c_r06_decl n _ _ s.lt _ (Nat.le_of_ble_eq_true (by rfl)) _ (Nat.le_of_ble_eq_true (by rfl)) [[76, 73, 83, 84], [108, 105, 115, 116], [76, 65, 83, 84], [108, 105, 115, 116]] (some ⟨b56, 0, none⟩) (4) (s.ft 150 rfl) _ hr15) fun v57 a w hK hp s => ?_
 obtain ⟨Au58a2, cu58a2, Au58a3, cu58a3, rfl, lu58a1, hu58a2, hu58a3⟩ := hp
 replace s := s.ns 151 hu58a2 |>.ns 152 hu58a3
 refine lc s rfl func60 (by kernel_rfl) (c_r06_decl n _ _ s.lt _ (Nat.le_of_ble_eq_true (by rfl)) _ (Nat.le_of_ble_eq_true (by rfl)) [] (none) (0) (SlR.nil_ _ _ _) _ hr18) fun v59 a w hK hp s => ?_
 obtain ⟨Au60a2, cu60a2, Au60a3, cu60a3, rfl, lu60a1, hu60a2, hu60a3⟩ := hp
 replace s := s.ns 153 hu60a2 |>.ns 154 hu60a3
 refine lc s rfl func60 (by kernel_rfl) (c_r06_decl n _ _ s.lt _ (Nat.le_of_ble_eq_true (by rfl)) _ (Nat.le_of_ble_eq_true (by rfl)) [] (none) (0) (SlR.nil_ _ _ _) _ hr21) fun v61 a w hK hp s => ?_
 obtain ⟨Au62a2, cu62a2, Au62a3, cu62a3, rfl, lu62a1, hu62a2, hu62a3⟩ := hp
 replace s := s.ns 155 hu62a2 |>.ns 156 hu62a3
 refine lc s rfl func60 (by kernel_rfl) (c_r06_decl n _ _ s.lt _ (Nat.le_of_ble_eq_true (by rfl)) _ (Nat.le_of_ble_eq_true (by rfl)) [] (none) (0) (SlR.nil_ _ _ _) _ hr24) fun v63 a w hK hp s => ?_
 obtain ⟨Au64a2, cu64a2, Au64a3, cu64a3, rfl, lu64a1, hu64a2, hu64a3⟩ := hp
 replace s := s.ns 157 hu64a2 |>.ns 158 hu64a3
 refine lc s rfl func60 (by kernel_rfl) (c_r06_decl n _ _ s.lt _ (Nat.le_of_ble_eq_true (by rfl)) _ (Nat.le_of_ble_eq_true (by rfl)) [] (none) (0) (SlR.nil_ _ _ _) _ hr27) fun v65 a w hK hp s => ?_
 obtain ⟨Au66a2, cu66a2, Au66a3, cu66a3, rfl, lu66a1, hu66a2, hu66a3⟩ := hp
 replace s := s.ns 159 hu66a2 |>.ns 160 hu66a3
 refine l_seq rfl (l_buildDense (sz := 1) s 1111 rfl rfl rfl underlying25 rfl rfl rfl rfl rfl rfl rfl fun b67 a w hbb67 hK s => ?_)
 clear hbb67
 replace s := s.add 161 (rdF Rep.str (cellsOfL [vT ([76, 65, 66, 69, 76]), vT ([104, 97, 110, 100, 108, 101])]) ([[76, 65, 66, 69, 76], [104, 97, 110, 100, 108, 101]])) (RdAll.cons (by exact ⟨rfl, (Nat.le_of_ble_eq_true (by rfl))⟩) (RdAll.cons (by exact ⟨rfl, (Nat.le_of_ble_eq_true (by rfl))⟩) (RdAll.nil _ _ _)))
 replace s := s.freeze (R := Rep.str) (kk := 1111) (L' := []) 162 rfl rfl (s.ft 161 rfl) trivial rfl
 refine lc s rfl func60 (by kernel_rfl) (c_r06_decl n _ _ s.lt _ (Nat.le_of_ble_eq_true (by rfl)) _ (Nat.le_of_ble_eq_true (by rfl)) [[76, 65, 66, 69, 76], [104, 97, 110, 100, 108, 101]] (some ⟨b67, 0, none⟩) (2) (s.ft 162 rfl) _ hr31) fun v68 a w hK hp s => ?_
 obtain ⟨Au69a2, cu69a2, Au69a3, cu69a3, rfl, lu69a1, hu69a2, hu69a3⟩ := hp
 replace s := s.ns 163 hu69a2 |>.ns 164 hu69a3
 refine l_seq rfl (l_buildDense (sz := 1) s 1113 rfl rfl rfl underlying25 rfl rfl rfl rfl rfl rfl rfl fun b70 a w hbb70 hK s => ?_)
 clear hbb70
 replace s := s.add 165 (rdF Rep.str (cellsOfL [vT ([72, 73, 71, 72]), vT ([104, 97, 110, 100, 108, 101]), vT ([76, 79, 87]), vT ([104, 97, 110, 100, 108, 101])]) ([[72, 73, 71, 72], [104, 97, 110, 100, 108, 101], [76, 79, 87], [104, 97, 110, 100, 108, 101]])) (RdAll.cons (by exact ⟨rfl, (Nat.le_of_ble_eq_true (by rfl))⟩) (RdAll.cons (by exact ⟨rfl, (Nat.le_of_ble_eq_true (by rfl))⟩) (RdAll.cons (by exact ⟨rfl, (Nat.le_of_ble_eq_true (by rfl))⟩) (RdAll.cons (by exact ⟨rfl, (Nat.le_of_ble_eq_true (by rfl))⟩) (RdAll.nil _ _ _)))))
 replace s := s.freeze (R := Rep.str) (kk := 1113) (L' := []) 166 rfl rfl (s.ft 165 rfl) trivial rfl
 refine lc s rfl func60 (by kernel_rfl) (c_r06_decl n _ _ s.lt _ (Nat.le_of_ble_eq_true (by rfl)) _ (Nat.le_of_ble_eq_true (by rfl)) [[72, 73, 71, 72], [104, 97, 110, 100, 108, 101], [76, 79, 87], [104, 97, 110, 100, 108, 101]] (some ⟨b70, 0, none⟩) (4) (s.ft 166 rfl) _ hr35) fun v71 a w hK hp s => ?_
 obtain ⟨Au72a2, cu72a2, Au72a3, cu72a3, rfl, lu72a1, hu72a2, hu72a3⟩ := hp
 replace s := s.ns 167 hu72a2 |>.ns 168 hu72a3
 refine l_seq rfl (l_buildDense (sz := 1) s 1115 rfl rfl rfl underlying25 rfl rfl rfl rfl rfl rfl rfl fun b73 a w hbb73 hK s => ?_)
 clear hbb73
 replace s := s.add 169 (rdF Rep.str (cellsOfL [vT ([84, 79, 80]), vT ([104, 97, 110, 100, 108, 101]), vT ([73, 78, 68, 69, 88]), vT ([105, 110, 100, 101, 120]), vT ([82, 69, 76, 83]), vT ([100, 108, 105, 115, 116]), vT ([67, 79, 78, 83]), vT ([100, 108, 105, 115, 116])]) ([[84, 79, 80], [104, 97, 110, 100, 108, 101], [73, 78, 68, 69, 88], [105, 110, 100, 101, 120], [82, 69, 76, 83], [100, 108, 105, 115, 116], [67, 79, 78, 83], [100, 108, 105, 115, 116]])) (RdAll.cons (by exact ⟨rfl, (Nat.le_of_ble_eq_true (by rfl))⟩) (RdAll.cons (by exact ⟨rfl, (Nat.le_of_ble_eq_true (by rfl))⟩) (RdAll.cons (by exact ⟨rfl, (Nat.le_of_ble_eq_true (by rfl))⟩) (RdAll.cons (by exact ⟨rfl, (Nat.le_of_ble_eq_true (by rfl))⟩) (RdAll.cons (by exact ⟨rfl, (Nat.le_of_ble_eq_true (by rfl))⟩) (RdAll.cons (by exact ⟨rfl, (Nat.le_of_ble_eq_true (by rfl))⟩) (RdAll.cons (by exact ⟨rfl, (Nat.le_of_ble_eq_true (by rfl))⟩) (RdAll.cons (by exact ⟨rfl, (Nat.le_of_ble_eq_true (by rfl))⟩) (RdAll.nil _ _ _)))))))))
 replace s := s.freeze (R := Rep.str) (kk := 1115) (L' := []) 170 rfl rfl (s.ft 169 rfl) trivial rfl
 refine lc s rfl func60 (by kernel_rfl) (c_r06_decl n _ _ s.lt _ (Nat.le_of_ble_eq_true (by rfl)) _ (Nat.le_of_ble_eq_true (by rfl)) [[84, 79, 80], [104, 97, 110, 100, 108, 101], [73, 78, 68, 69, 88], [105, 110, 100, 101, 120], [82, 69, 76, 83], [100, 108, 105, 115, 116], [67, 79, 78, 83], [100, 108, 105, 115, 116]] (some ⟨b73, 0, none⟩) (8) (s.ft 170 rfl) _ hr39) fun v74 a w hK hp s => ?_
 obtain ⟨Au75a2, cu75a2, Au75a3, cu75a3, rfl, lu75a1, hu75a2, hu75a3⟩ := hp
 replace s := s.ns 171 hu75a2 |>.ns 172 hu75a3
 refine l_seq rfl (l_buildDense (sz := 1) s 1117 rfl rfl rfl underlying25 rfl rfl rfl rfl rfl rfl rfl fun b76 a w hbb76 hK s => ?_)
 clear hbb76
 replace s := s.add 173 (rdF Rep.str (cellsOfL [vT ([83, 69, 77]), vT ([115, 101, 109]), vT ([65, 82, 71, 83]), vT ([108, 105, 115, 116])]) ([[83, 69, 77], [115, 101, 109], [65, 82, 71, 83], [108, 105, 115, 116]])) (RdAll.cons (by exact ⟨rfl, (Nat.le_of_ble_eq_true (by rfl))⟩) (RdAll.cons (by exact ⟨rfl, (Nat.le_of_ble_eq_true (by rfl))⟩) (RdAll.cons (by exact ⟨rfl, (Nat.le_of_ble_eq_true (by rfl))⟩) (RdAll.cons (by exact ⟨rfl, (Nat.le_of_ble_eq_true (by rfl))⟩) (RdAll.nil _ _ _)))))
 replace s := s.freeze (R := Rep.str) (kk := 1117) (L' := []) 174 rfl rfl (s.ft 173 rfl) trivial rfl
 refine lc s rfl func60 (by kernel_rfl) (c_r06_decl n _ _ s.lt _ (Nat.le_of_ble_eq_true (by rfl)) _ (Nat.le_of_ble_eq_true (by rfl)) [[83, 69, 77], [115, 101, 109], [65, 82, 71, 83], [108, 105, 115, 116]] (some ⟨b76, 0, none⟩) (4) (s.ft 174 rfl) _ hr43) fun v77 a w hK hp s => ?_
 obtain ⟨Au78a2, cu78a2, Au78a3, cu78a3, rfl, lu78a1, hu78a2, hu78a3⟩ := hp
 replace s := s.ns 175 hu78a2 |>.ns 176 hu78a3
 refine l_seq rfl (l_buildDense (sz := 3) s 1119 rfl rfl rfl underlying32 rfl rfl rfl rfl rfl rfl rfl fun b79 a w hbb79 hK s => ?_)
 clear hbb79
 refine S s <| aw rfl <| nw fun a s => ?_
 apply wp_ret
 obtain rfl := Option.some.inj hg
 refine fin1 (fn := Tryz.f34) s rfl (r_tmp s rfl) ?_
 replace s := s.add 177 (rdF RTypeDecl (cellsOfL [.agg #[vT r1.Name, sl Au48a2 r1.Supers cu48a2, sl Au48a3 r1.Feats cu48a3], .agg #[vT r4.Name, sl Au50a2 r4.Supers cu50a2, sl Au50a3 r4.Feats cu50a3], .agg #[vT r8.Name, sl Au53a2 r8.Supers cu53a2, sl Au53a3 r8.Feats cu53a3], .agg #[vT r11.Name, sl Au55a2 r11.Supers cu55a2, sl Au55a3 r11.Feats cu55a3], .agg #[vT r15.Name, sl Au58a2 r15.Supers cu58a2, sl Au58a3 r15.Feats cu58a3], .agg #[vT r18.Name, sl Au60a2 r18.Supers cu60a2, sl Au60a3 r18.Feats cu60a3], .agg #[vT r21.Name, sl Au62a2 r21.Supers cu62a2, sl Au62a3 r21.Feats cu62a3], .agg #[vT r24.Name, sl Au64a2 r24.Supers cu64a2, sl Au64a3 r24.Feats cu64a3], .agg #[vT r27.Name, sl Au66a2 r27.Supers cu66a2, sl Au66a3 r27.Feats cu66a3], .agg #[vT r31.Name, sl Au69a2 r31.Supers cu69a2, sl Au69a3 r31.Feats cu69a3], .agg #[vT r35.Name, sl Au72a2 r35.Supers cu72a2, sl Au72a3 r35.Feats cu72a3], .agg #[vT r39.Name, sl Au75a2 r39.Supers cu75a2, sl Au75a3 r39.Feats cu75a3], .agg #[vT r43.Name, sl Au78a2 r43.Supers cu78a2, sl Au78a3 r43.Feats cu78a3]]) ([r1, r4, r8, r11, r15, r18, r21, r24, r27, r31, r35, r39, r43])) (RdAll.cons (by exact (RTypeDecl.mk' (x := r1) (by omega) (s.ft 139 rfl) (s.ft 140 rfl))) (RdAll.cons (by exact (RTypeDecl.mk' (x := r4) (by omega) (s.ft 141 rfl) (s.ft 142 rfl))) (RdAll.cons (by exact (RTypeDecl.mk' (x := r8) (by omega) (s.ft 145 rfl) (s.ft 146 rfl))) (RdAll.cons (by exact (RTypeDecl.mk' (x := r11) (by omega) (s.ft 147 rfl) (s.ft 148 rfl))) (RdAll.cons (by exact (RTypeDecl.mk' (x := r15) (by omega) (s.ft 151 rfl) (s.ft 152 rfl))) (RdAll.cons (by exact (RTypeDecl.mk' (x := r18) (by omega) (s.ft 153 rfl) (s.ft 154 rfl))) (RdAll.cons (by exact (RTypeDecl.mk' (x := r21) (by omega) (s.ft 155 rfl) (s.ft 156 rfl))) (RdAll.cons (by exact (RTypeDecl.mk' (x := r24) (by omega) (s.ft 157 rfl) (s.ft 158 rfl))) (RdAll.cons (by exact (RTypeDecl.mk' (x := r27) (by omega) (s.ft 159 rfl) (s.ft 160 rfl))) (RdAll.cons (by exact (RTypeDecl.mk' (x := r31) (by omega) (s.ft 163 rfl) (s.ft 164 rfl))) (RdAll.cons (by exact (RTypeDecl.mk' (x := r35) (by omega) (s.ft 167 rfl) (s.ft 168 rfl))) (RdAll.cons (by exact (RTypeDecl.mk' (x := r39) (by omega) (s.ft 171 rfl) (s.ft 172 rfl))) (RdAll.cons (by exact (RTypeDecl.mk' (x := r43) (by omega) (s.ft 175 rfl) (s.ft 176 rfl))) (RdAll.nil _ _ _))))))))))))))
 exact ⟨(some ⟨b79, 0, none⟩), (13), rfl, (s.rowOut (R := RTypeDecl) (kk := 1119) rfl rfl (s.ft 177 rfl))⟩
set_option maxHeartbeats 1000000 in
theorem c_r19_With (n : Nat) (M : Bs) (w0 : World) (hM : ∀ b, M b → b < w0.heap.size) (l_ : (List (List UInt8))) (Ap01 : Option Addr) (cp01 : Nat) (hp01 : SlR Rep.str M w0 Ap01 (l_).length cp01 (l_)) (s_ : (List UInt8)) (lp11 : (s_).length ≤ 9223372036854775807) (r : (List (List UInt8))) (hg : r19_With n l_ s_ = some r) :
    Calls Tryz.prog 35 [.slice (Ap01) ((l_).length) (cp01), .string (bs (s_))].toArray w0 (Ret noB w0 fun v w => ∃ (Aa1 : Option Addr), ∃ (ca1 : Nat), v = .slice (Aa1) ((r).length) (ca1) ∧ (SlR Rep.str M w Aa1 (r).length ca1 (r))) := by
 unfold r19_With at hg
 refine enter M noB func35 rfl rfl hM ?_
 intro a s
 refine S s <| esw 101 hp01 <| vw <| aw rfl <| nw <| vw <| aw rfl <| nw <| vw <| aw rfl <| nw <| sw <| vw <| aw rfl <| nw fun a s => ?_
 obtain ⟨k1, hg, hk1⟩ := jn_some hg
 refine c_post (fun a w => ∃ (out_2 : (List (List UInt8))) (done_6 : Bool) (A3 : Option Addr) (c4 : Nat) (cs5 : List Value), k1 out_2 done_6 = some r ∧ St (cx f35 M w0) [(1, vT s_), (5, sl A3 out_2 c4), (6, .bool (done_6))] [(700102, Ob.row (A3) ((out_2).length) (c4) 9 1 (cs5))] [(103, rdF Rep.str (cs5) (out_2))] a w) ?_ ?_
 ·apply wp_block
  replace s := s.nilRow 700104 9 1 rfl
  replace s := s.add 105 (rdF Rep.str [] []) (RdAll.nil _ _ _)
  refine c_loop (σ := Nat) (fun m1 a w => ∃ (out_7 : (List (List UInt8))) (done_11 : Bool) (i_12 : Nat) (A8 : Option Addr) (c9 : Nat) (cs10 : List Value), r19_With_L0 n l_ s_ k1 m1 out_7 done_11 i_12 = some r ∧ St (cx f35 M w0) [(0, sl Ap01 l_ cp01), (1, vT s_), (5, sl A8 out_7 c9), (6, .bool (done_11)), (7, vI (((i_12 : Nat) : Int)))] [(700104, Ob.row (A8) ((out_7).length) (c9) 9 1 (cs10))] [(101, sF Rep.str Ap01 cp01 l_), (105, rdF Rep.str (cs10) (out_7))] a w) (fun m1 => m1) n ⟨([]), (false), (0), (none), (0), ([]), hg, (s.sb rfl rfl rfl)⟩ ?_
  clear s a; rintro m1 a w ⟨out_7, done_11, i_12, A8, c9, cs10, hg, s⟩
  rcases m1 with _ | m1
  ·rw [r19_With_L0] at hg; cases hg
  rw [r19_With_L0] at hg
  refine S s <| sw <| vw <| mw rfl <| mw rfl <| yw rfl (y_lenSlice · rfl underlying25) <| yw rfl (y_lssN (i := i_12) (j := ((l_).length)) · rfl rfl) <| nw fun a s => c_dec s rfl (fun hc13 => ?_) (fun hc13 => ?_)
  ·replace hg := br_t hg hc13
   have hmx14 := SlR.mx (s.ft 101 rfl)
   refine S s <| kw <| pw <| sw <| bw <| sw <| sw fun a s => ?_
   obtain ⟨k15, hg, hk15⟩ := jn_some hg
   refine c_post (fun a w => ∃ (t_16 : Bool), k15 t_16 = some r ∧ St (cx f35 M w0) [(0, sl Ap01 l_ cp01), (1, vT s_), (5, sl A8 out_7 c9), (6, .bool (done_11)), (7, vI (((i_12 : Nat) : Int))), (23, .bool (t_16))] [(700104, Ob.row (A8) ((out_7).length) (c9) 9 1 (cs10))] [(101, sF Rep.str Ap01 cp01 l_), (105, rdF Rep.str (cs10) (out_7))] a w) ?_ ?_
   ·rcases Bool.eq_false_or_eq_true (!(done_11)) with hs17 | hs17
    ·replace hg := br_t hg hs17
     obtain ⟨x19, hx19, hg⟩ := bind_some hg
     refine S s <| lw <| mw rfl <| yw rfl (fun s => yl_b (y_not s rfl) hs17) <| mw rfl <| hw rfl <| hw rfl fun a s => ?_
     obtain ⟨p21, hep21, hpp21⟩ := SlR.elemX (s.ft 101 rfl) hx19
     refine gy s rfl (y_elem (sz := 1) (i := i_12) s rfl rfl underlying25 rfl hep21 rfl (lt_of_get hx19)) fun a s => ?_
     obtain ⟨hlq22, hmq22, csq22, hdq22, hcq22⟩ := hpp21
     obtain ⟨rfl, lq221⟩ := hdq22
     refine S s <| zw rfl (y_ldp1 · rfl hlq22 hmq22 (hcq22 0 _ rfl) underlying9 rfl) <| hw rfl <| zw rfl (y_sgeq · rfl rfl) <| yw rfl (y_pick_t · rfl rfl) <| nw fun a s => ?_
     exact ⟨(!(Op.bytesLess x19 s_)), hg, (s.sb rfl rfl rfl)⟩
    replace hg := br_n hg hs17
    refine S s <| lw <| mw rfl <| yw rfl (fun s => yl_b (y_not s rfl) hs17) <| mw rfl <| gw rfl <| gw rfl <| gw rfl <| gw rfl <| gw rfl <| gw rfl <| yw rfl (y_pick_f · rfl rfl) <| nw fun a s => ?_
    exact ⟨(false), hg, (s.sb rfl rfl rfl)⟩
   clear s a; rintro a w ⟨t_16, hg, s⟩
   subst hk15
   obtain ⟨k23, hg, hk23⟩ := jn_some hg
   refine c_post (fun a w => ∃ (out_24 : (List (List UInt8))) (done_28 : Bool) (A25 : Option Addr) (c26 : Nat) (cs27 : List Value), k23 out_24 done_28 = some r ∧ St (cx f35 M w0) [(0, sl Ap01 l_ cp01), (1, vT s_), (5, sl A25 out_24 c26), (6, .bool (done_28)), (7, vI (((i_12 : Nat) : Int)))] [(700106, Ob.row (A25) ((out_24).length) (c26) 9 1 (cs27))] [(101, sF Rep.str Ap01 cp01 l_), (107, rdF Rep.str (cs27) (out_24))] a w) ?_ ?_
   ·refine c_cond s rfl (fun hc29 => ?_) (fun hc29 => ?_)
    ·replace hg := br_t hg hc29
     obtain ⟨hk31, hg⟩ := chk_some hg
     refine S s <| sw <| lw <| mw rfl <| mw rfl fun a s => ?_
     refine l_seq rfl (l_buildDense (sz := 1) s 1702 rfl rfl rfl underlying25 rfl rfl rfl rfl rfl rfl rfl fun b34 a w hbb34 hK s => ?_)
     clear hbb34
     replace s := s.add 110 (rdF Rep.str (cellsOfL [vT s_]) ([s_])) (RdAll.cons (by exact ⟨rfl, (by omega)⟩) (RdAll.nil _ _ _))
     have hs36 := row_src (s.wd.holds 1702 _ rfl) (RdAll.one (s.ft 110 rfl))
     refine l_seq rfl (l_append (sz := 1) (by_ := 16) (N := (out_7 ++ [s_]).length) s 700104 rfl rfl rfl underlying25 rfl rfl rfl rfl rfl hs36 (by rw [List.length_append]; try rfl) rfl (rmA hk31 rfl) (rmB hk31) rfl fun Aq35 cq35 a w hA hK s => ?_)
     replace s := s.add 111 (rdF Rep.str (cs10 ++ (cellsOfL [vT s_])) (out_7 ++ [s_])) (RdAll.append (s.ft 105 rfl) (s.ft 110 rfl))
     refine S s <| aw rfl <| nw <| lw <| aw rfl <| nw <| alw 107 111 rfl fun a s => ?_
     replace s := s.pk [(1702, 1702), (700106, 700104)] (by decide)
     exact ⟨(out_7 ++ [s_]), (true), (Aq35), (cq35), (cs10 ++ (cellsOfL [vT s_])), hg, (s.sb rfl rfl rfl)⟩
    replace hg := br_n hg hc29
    refine S s <| kw <| pw <| alw 107 105 rfl fun a s => ?_
    replace s := s.pk [(700106, 700104)] (by decide)
    exact ⟨(out_7), (done_11), (A8), (c9), (cs10), hg, (s.sb rfl rfl rfl)⟩
   clear s a; rintro a w ⟨out_24, done_28, A25, c26, cs27, hg, s⟩
   subst hk23
   obtain ⟨x38, hx38, hg⟩ := bind_some hg
   refine S s <| sw <| lw <| mw rfl <| mw rfl fun a s => ?_
   obtain ⟨p40, hep40, hpp40⟩ := SlR.elemX (s.ft 101 rfl) hx38
   refine qq s rfl (y_elem (sz := 1) (i := i_12) s rfl rfl underlying25 rfl hep40 rfl (lt_of_get hx38)) fun a s => ?_
   obtain ⟨hlq41, hmq41, csq41, hdq41, hcq41⟩ := hpp40
   obtain ⟨rfl, lq411⟩ := hdq41
   refine S s <| yw rfl (y_ldp1 · rfl hlq41 hmq41 (hcq41 0 _ rfl) underlying9 rfl) <| mw rfl <| yw rfl (y_sne · rfl rfl) <| nw fun a s => c_dec s rfl (fun hc42 => ?_) (fun hc42 => ?_)
   ·replace hg := br_t hg hc42
    obtain ⟨hk46, hg⟩ := chk_some hg
    refine S s <| lw <| mw rfl <| mw rfl <| mw rfl fun a s => ?_
    obtain ⟨p49, hep49, hpp49⟩ := SlR.elemX (s.ft 101 rfl) hx38
    refine qq s rfl (y_elem (sz := 1) (i := i_12) s rfl rfl underlying25 rfl hep49 rfl (lt_of_get hx38)) fun a s => ?_
    obtain ⟨hlq50, hmq50, csq50, hdq50, hcq50⟩ := hpp49
    obtain ⟨rfl, lq501⟩ := hdq50
    refine qq s rfl (y_ldp1 s rfl hlq50 hmq50 (hcq50 0 _ rfl) underlying9 rfl) fun a s => ?_
    refine l_seq rfl (l_buildDense (sz := 1) s 2005 rfl rfl rfl underlying25 rfl rfl rfl rfl rfl rfl rfl fun b51 a w hbb51 hK s => ?_)
    clear hbb51
    replace s := s.add 114 (rdF Rep.str (cellsOfL [vT x38]) ([x38])) (RdAll.cons (by exact ⟨rfl, (by omega)⟩) (RdAll.nil _ _ _))
    have hs53 := row_src (s.wd.holds 2005 _ rfl) (RdAll.one (s.ft 114 rfl))
    refine l_seq rfl (l_append (sz := 1) (by_ := 16) (N := (out_24 ++ [x38]).length) s 700106 rfl rfl rfl underlying25 rfl rfl rfl rfl rfl hs53 (by rw [List.length_append]; try rfl) rfl (rmA hk46 rfl) (rmB hk46) rfl fun Aq52 cq52 a w hA hK s => ?_)
    replace s := s.add 115 (rdF Rep.str (cs27 ++ (cellsOfL [vT x38])) (out_24 ++ [x38])) (RdAll.append (s.ft 107 rfl) (s.ft 114 rfl))
    refine asg s rfl rfl fun a s => ?_
    apply wO
    refine p_inN ?_
    refine S s <| pw <| lw <| mw rfl <| yw rfl (y_addN (i := i_12) (j := 1) · rfl rfl (in64.2 (by omega))) <| aw rfl <| nw <| alw 105 115 rfl fun a s => ?_
    replace s := s.pk [(2005, 2005), (700104, 700106)] (by decide)
    exact ⟨m1, Nat.lt_succ_self _, ⟨(out_24 ++ [x38]), (done_28), (i_12 + 1), (Aq52), (cq52), (cs27 ++ (cellsOfL [vT x38])), hg, (s.sb rfl rfl rfl)⟩⟩
   replace hg := br_f hg hc42
   apply wp_skip
   refine p_inN ?_
   refine S s <| pw <| lw <| mw rfl <| yw rfl (y_addN (i := i_12) (j := 1) · rfl rfl (in64.2 (by omega))) <| aw rfl <| nw <| alw 105 107 rfl fun a s => ?_
   replace s := s.pk [(700104, 700106)] (by decide)
   exact ⟨m1, Nat.lt_succ_self _, ⟨(out_24), (done_28), (i_12 + 1), (A25), (c26), (cs27), hg, (s.sb rfl rfl rfl)⟩⟩
  replace hg := br_f hg hc13
  apply wp_exit
  refine p_then ?_
  refine p_then ?_
  refine p_in ?_
  apply pN
  replace s := s.al 103 105 rfl
  replace s := s.pk [(700102, 700104)] (by decide)
  exact ⟨(out_7), (done_11), (A8), (c9), (cs10), hg, (s.sb rfl rfl rfl)⟩
 clear s a; rintro a w ⟨out_2, done_6, A3, c4, cs5, hg, s⟩
 subst hk1
 refine S s <| sw <| vw <| mw rfl <| yw rfl (y_not · rfl) <| nw fun a s => c_cond s rfl (fun hc54 => ?_) (fun hc54 => ?_)
 ·replace hg := br_t hg hc54
  obtain ⟨hk56, hg⟩ := chk_some hg
  refine S s <| lw <| mw rfl <| mw rfl fun a s => ?_
  refine l_seq rfl (l_buildDense (sz := 1) s 2202 rfl rfl rfl underlying25 rfl rfl rfl rfl rfl rfl rfl fun b59 a w hbb59 hK s => ?_)
  clear hbb59
  replace s := s.add 118 (rdF Rep.str (cellsOfL [vT s_]) ([s_])) (RdAll.cons (by exact ⟨rfl, (by omega)⟩) (RdAll.nil _ _ _))
  have hs61 := row_src (s.wd.holds 2202 _ rfl) (RdAll.one (s.ft 118 rfl))
  refine l_seq rfl (l_append (sz := 1) (by_ := 16) (N := (out_2 ++ [s_]).length) s 700102 rfl rfl rfl underlying25 rfl rfl rfl rfl rfl hs61 (by rw [List.length_append]; try rfl) rfl (rmA hk56 rfl) (rmB hk56) rfl fun Aq60 cq60 a w hA hK s => ?_)
  replace s := s.add 119 (rdF Rep.str (cs5 ++ (cellsOfL [vT s_])) (out_2 ++ [s_])) (RdAll.append (s.ft 103 rfl) (s.ft 118 rfl))
  refine S s <| aw rfl <| nw <| vw <| mw rfl <| aw rfl <| nw fun a s => ?_
  apply wp_ret
  obtain rfl := Option.some.inj hg
  refine fin1 (fn := Tryz.f35) s rfl (r_tmp s rfl) ?_
  exact ⟨(Aq60), (cq60), rfl, (s.rowOut (R := Rep.str) (kk := 700102) rfl rfl (s.ft 119 rfl))⟩
 replace hg := br_n hg hc54
 refine S s <| kw <| pw <| vw <| mw rfl <| aw rfl <| nw fun a s => ?_
 apply wp_ret
 obtain rfl := Option.some.inj hg
 refine fin1 (fn := Tryz.f35) s rfl (r_tmp s rfl) ?_
 exact ⟨(A3), (c4), rfl, (s.rowOut (R := Rep.str) (kk := 700102) rfl rfl (s.ft 103 rfl))⟩
set_option maxHeartbeats 1000000 in
theorem c_r22_Visible (n : Nat) (M : Bs) (w0 : World) (hM : ∀ b, M b → b < w0.heap.size) (t_ : (List Module)) (Ap01 : Option Addr) (cp01 : Nat) (hp01 : SlR RModule M w0 Ap01 (t_).length cp01 (t_)) (t_' : (List UInt8)) (lp11 : (t_').length ≤ 9223372036854775807) (r : (List (List UInt8))) (hg : r22_Visible n t_ t_' = some r) :
    Calls Tryz.prog 16 [.slice (Ap01) ((t_).length) (cp01), .string (bs (t_'))].toArray w0 (Ret noB w0 fun v w => ∃ (Aa1 : Option Addr), ∃ (ca1 : Nat), v = .slice (Aa1) ((r).length) (ca1) ∧ (SlR Rep.str M w Aa1 (r).length ca1 (r))) := by
 unfold r22_Visible at hg
 refine enter M noB func16 rfl rfl hM ?_
 intro a s
 obtain ⟨r1, hr1, hg⟩ := bind_some hg
 refine S s <| esw 101 hp01 <| vw <| aw rfl <| nw <| vw <| aw rfl <| nw <| sw <| lw fun a s => ?_
 refine lc s rfl func34 (by kernel_rfl) (c_r06_Prelude n _ _ s.lt  _ hr1) fun v4 a w hK hp s => ?_
 obtain ⟨Au5a1, cu5a1, rfl, hu5a1⟩ := hp
 refine S s <| nsw 103 hu5a1 <| aw rfl <| nw <| sw <| vw <| aw rfl <| nw fun a s => ?_
 obtain ⟨k6, hg, hk6⟩ := jn_some hg
 refine c_post (fun a w => ∃ (t_7 : (List (List UInt8))) (A8 : Option Addr) (c9 : Nat), k6 t_7 = some r ∧ St (cx f16 M w0) [(0, sl Ap01 t_ cp01), (1, vT (t_')), (5, sl A8 t_7 c9)] [] [(101, sF RModule Ap01 cp01 t_), (104, sF Rep.str A8 c9 t_7)] a w) ?_ ?_
 ·apply wp_block
  replace s := s.add 105 (slF Rep.str none 0 0 []) (SlR.nil_ _ _ _)
  refine c_loop (σ := Nat) (fun m1 a w => ∃ (t_10 : (List (List UInt8))) (t_13 : Nat) (A11 : Option Addr) (c12 : Nat), r22_Visible_L0 n r1 k6 m1 t_10 t_13 = some r ∧ St (cx f16 M w0) [(0, sl Ap01 t_ cp01), (1, vT (t_')), (5, sl A11 t_10 c12), (6, sl Au5a1 r1 cu5a1), (7, vI (((t_13 : Nat) : Int)))] [] [(101, sF RModule Ap01 cp01 t_), (103, sF RTypeDecl Au5a1 cu5a1 r1), (105, sF Rep.str A11 c12 t_10)] a w) (fun m1 => m1) n ⟨([]), (0), (none), (0), hg, (s.sb rfl rfl rfl)⟩ ?_
  clear s a; rintro m1 a w ⟨t_10, t_13, A11, c12, hg, s⟩
  rcases m1 with _ | m1
  ·rw [r22_Visible_L0] at hg; cases hg
  rw [r22_Visible_L0] at hg
  refine S s <| sw <| vw <| mw rfl <| mw rfl <| yw rfl (y_lenSlice · rfl underlying32) <| yw rfl (y_lssN (i := t_13) (j := ((r1).length)) · rfl rfl) <| nw fun a s => c_dec s rfl (fun hc14 => ?_) (fun hc14 => ?_)
  ·replace hg := br_t hg hc14
   have hmx15 := SlR.mx (s.ft 103 rfl)
   obtain ⟨x17, hx17, hg⟩ := bind_some hg
   obtain ⟨r19, hr19, hg⟩ := bind_some hg
   refine S s <| kw <| pw <| sw <| bw <| lw <| mw rfl <| mw rfl <| mw rfl fun a s => ?_
   obtain ⟨p22, hep22, hpp22⟩ := SlR.elemX (s.ft 103 rfl) hx17
   refine S s <| yw rfl (y_elem (sz := 3) (i := t_13) · rfl rfl underlying32 rfl hep22 rfl (lt_of_get hx17)) <| yw rfl (y_ptrField (o' := 0) · rfl underlying49 rfl rfl rfl) fun a s => ?_
   obtain ⟨hlq23, hmq23, csq23, hdq23, hcq23⟩ := hpp22
   obtain ⟨Aq232, cq232, Aq233, cq233, rfl, lq231, hq232, hq233⟩ := RTypeDecl.open hdq23
   refine S s <| nsw 109 hq232 <| nsw 110 hq233 <| yw rfl (y_ldp1 · rfl hlq23 hmq23 (hcq23 0 _ rfl) underlying9 rfl) fun a s => ?_
   refine lc s rfl func35 (by kernel_rfl) (c_r19_With n _ _ s.lt _ _ _ (s.ft 105 rfl) _ (by omega) _ hr19) fun v24 a w hK hp s => ?_
   obtain ⟨Au25a1, cu25a1, rfl, hu25a1⟩ := hp
   refine S s <| nsw 111 hu25a1 <| aw rfl fun a s => ?_
   apply wO
   refine p_inN ?_
   refine S s <| pw <| lw <| mw rfl <| yw rfl (y_addN (i := t_13) (j := 1) · rfl rfl (in64.2 (by omega))) <| aw rfl <| nw <| alw 105 111 rfl fun a s => ?_
   exact ⟨m1, Nat.lt_succ_self _, ⟨(r19), (t_13 + 1), (Au25a1), (cu25a1), hg, (s.sb rfl rfl rfl)⟩⟩
  replace hg := br_f hg hc14
  apply wp_exit
  refine p_then ?_
  refine p_then ?_
  refine p_in ?_
  apply pN
  replace s := s.al 104 105 rfl
  exact ⟨(t_10), (A11), (c12), hg, (s.sb rfl rfl rfl)⟩
 clear s a; rintro a w ⟨t_7, A8, c9, hg, s⟩
 subst hk6
 obtain ⟨r26, hr26, hg⟩ := bind_some hg
 refine S s <| sw <| lw <| mw rfl <| mw rfl fun a s => ?_
 refine lc s rfl func21 (by kernel_rfl) (c_r22_Needs n _ _ s.lt _ _ _ (s.ft 101 rfl) _ (by omega) _ hr26) fun v29 a w hK hp s => ?_
 obtain ⟨Au30a1, cu30a1, rfl, hu30a1⟩ := hp
 refine S s <| nsw 113 hu30a1 <| aw rfl <| nw <| sw <| vw <| aw rfl <| nw <| bw <| alw 114 104 rfl fun a s => ?_
 refine c_loop (σ := Nat) (fun m2 a w => ∃ (t_31 : (List (List UInt8))) (t_34 : Nat) (A32 : Option Addr) (c33 : Nat), r22_Visible_L1 n t_ r26 m2 t_31 t_34 = some r ∧ St (cx f16 M w0) [(0, sl Ap01 t_ cp01), (5, sl A32 t_31 c33), (8, sl Au30a1 r26 cu30a1), (9, vI (((t_34 : Nat) : Int)))] [] [(101, sF RModule Ap01 cp01 t_), (113, sF Rep.str Au30a1 cu30a1 r26), (114, sF Rep.str A32 c33 t_31)] a w) (fun m2 => m2) n ⟨(t_7), (0), (A8), (c9), hg, (s.sb rfl rfl rfl)⟩ ?_
 clear s a; rintro m2 a w ⟨t_31, t_34, A32, c33, hg, s⟩
 rcases m2 with _ | m2
 ·rw [r22_Visible_L1] at hg; cases hg
 rw [r22_Visible_L1] at hg
 refine S s <| sw <| vw <| mw rfl <| mw rfl <| yw rfl (y_lenSlice · rfl underlying25) <| yw rfl (y_lssN (i := t_34) (j := ((r26).length)) · rfl rfl) <| nw fun a s => c_dec s rfl (fun hc35 => ?_) (fun hc35 => ?_)
 ·replace hg := br_t hg hc35
  have hmx36 := SlR.mx (s.ft 113 rfl)
  apply wp_skip
  apply pN
  apply wQ
  obtain ⟨k37, hg, hk37⟩ := jn_some hg
  refine c_post (fun a w => ∃ (t_38 : (List (List UInt8))) (A39 : Option Addr) (c40 : Nat), k37 t_38 = some r ∧ St (cx f16 M w0) [(0, sl Ap01 t_ cp01), (5, sl A39 t_38 c40), (8, sl Au30a1 r26 cu30a1), (9, vI (((t_34 : Nat) : Int)))] [] [(101, sF RModule Ap01 cp01 t_), (113, sF Rep.str Au30a1 cu30a1 r26), (115, sF Rep.str A39 c40 t_38)] a w) ?_ ?_
  ·obtain ⟨x42, hx42, hg⟩ := bind_some hg
   obtain ⟨r44, hr44, hg⟩ := bind_some hg
   refine S s <| bw <| sw <| lw <| mw rfl <| mw rfl <| mw rfl fun a s => ?_
   obtain ⟨p47, hep47, hpp47⟩ := SlR.elemX (s.ft 113 rfl) hx42
   refine qq s rfl (y_elem (sz := 1) (i := t_34) s rfl rfl underlying25 rfl hep47 rfl (lt_of_get hx42)) fun a s => ?_
   obtain ⟨hlq48, hmq48, csq48, hdq48, hcq48⟩ := hpp47
   obtain ⟨rfl, lq481⟩ := hdq48
   refine qq s rfl (y_ldp1 s rfl hlq48 hmq48 (hcq48 0 _ rfl) underlying9 rfl) fun a s => ?_
   refine lc s rfl func28 (by kernel_rfl) (c_r22_find n _ _ s.lt _ _ _ (s.ft 101 rfl) _ (by omega) _ hr44) fun v49 a w hK hp s => ?_
   obtain rfl := hp
   refine S s <| aw rfl <| nw <| sw <| vw <| mw rfl <| yw rfl (y_lss · rfl rfl) <| nw fun a s => c_dec s rfl (fun hc51 => ?_) (fun hc51 => ?_)
   ·replace hg := br_t hg hc51
    apply wp_exit
    refine p_then ?_
    refine p_in ?_
    apply pN
    replace s := s.al 115 114 rfl
    exact ⟨(t_31), (A32), (c33), hg, (s.sb rfl rfl rfl)⟩
   replace hg := br_f hg hc51
   refine S s <| kw <| pw <| sw <| vw <| aw rfl <| nw fun a s => ?_
   obtain ⟨k52, hg, hk52⟩ := jn_some hg
   refine c_post (fun a w => ∃ (t_53 : (List (List UInt8))) (A54 : Option Addr) (c55 : Nat), k52 t_53 = some r ∧ St (cx f16 M w0) [(0, sl Ap01 t_ cp01), (5, sl A54 t_53 c55), (8, sl Au30a1 r26 cu30a1), (9, vI (((t_34 : Nat) : Int))), (10, vI r44)] [] [(101, sF RModule Ap01 cp01 t_), (113, sF Rep.str Au30a1 cu30a1 r26), (116, sF Rep.str A54 c55 t_53)] a w) ?_ ?_
   ·apply wp_block
    replace s := s.al 117 114 rfl
    refine c_loop (σ := Nat) (fun m3 a w => ∃ (t_56 : (List (List UInt8))) (t_59 : Nat) (A57 : Option Addr) (c58 : Nat), r22_Visible_L2 n t_ r44 k52 m3 t_56 t_59 = some r ∧ St (cx f16 M w0) [(0, sl Ap01 t_ cp01), (5, sl A57 t_56 c58), (8, sl Au30a1 r26 cu30a1), (9, vI (((t_34 : Nat) : Int))), (10, vI r44), (11, vI (((t_59 : Nat) : Int)))] [] [(101, sF RModule Ap01 cp01 t_), (113, sF Rep.str Au30a1 cu30a1 r26), (117, sF Rep.str A57 c58 t_56)] a w) (fun m3 => m3) n ⟨(t_31), (0), (A32), (c33), hg, (s.sb rfl rfl rfl)⟩ ?_
    clear s a; rintro m3 a w ⟨t_56, t_59, A57, c58, hg, s⟩
    rcases m3 with _ | m3
    ·rw [r22_Visible_L2] at hg; cases hg
    rw [r22_Visible_L2] at hg
    obtain ⟨x61, hx61, hg⟩ := bind_some hg
    refine S s <| sw <| sw <| lw <| mw rfl <| mw rfl <| mw rfl fun a s => ?_
    obtain ⟨p63, hep63, hpp63⟩ := SlR.elemX (s.ft 101 rfl) (ix_some hx61).1
    refine S s <| yw rfl (y_elem (sz := 10) (i := ((r44).toNat)) · rfl rfl underlying22 rfl hep63 (ix_some hx61).2.1 (lt_of_get (ix_some hx61).1)) <| yw rfl (y_ptrField (o' := 2) · rfl underlying38 rfl rfl rfl) fun a s => ?_
    obtain ⟨hlq64, hmq64, csq64, hdq64, hcq64⟩ := hpp63
    obtain ⟨Aq642, cq642, Aq643, cq643, Aq644, cq644, Aq645, cq645, Aq646, cq646, Aq647, cq647, Aq648, cq648, Aq649, cq649, Aq6410, cq6410, rfl, lq641, hq642, hq643, hq644, hq645, hq646, hq647, hq648, hq649, hq6410⟩ := RModule.open hdq64
    refine S s <| nsw 127 hq642 <| nsw 128 hq643 <| nsw 129 hq644 <| nsw 130 hq645 <| nsw 131 hq646 <| nsw 132 hq647 <| nsw 133 hq648 <| nsw 134 hq649 <| nsw 135 hq6410 <| yw rfl (y_ldp1 · rfl hlq64 hmq64 (hcq64 2 _ rfl) underlying32 rfl) <| yw rfl (y_lenSlice · rfl underlying32) <| yw rfl (y_lssN (i := t_59) (j := ((x61.Types).length)) · rfl rfl) <| nw fun a s => c_dec s rfl (fun hc65 => ?_) (fun hc65 => ?_)
    ·replace hg := br_t hg hc65
     have hmx66 := SlR.mx (s.ft 128 rfl)
     obtain ⟨x70, hx70, hg⟩ := bind_some hg
     obtain ⟨r72, hr72, hg⟩ := bind_some hg
     refine S s <| kw <| pw <| sw <| bw <| lw <| mw rfl <| mw rfl <| mw rfl fun a s => ?_
     obtain ⟨p75, hep75, hpp75⟩ := SlR.elemX (s.ft 101 rfl) (ix_some hx61).1
     refine S s <| yw rfl (y_elem (sz := 10) (i := ((r44).toNat)) · rfl rfl underlying22 rfl hep75 (ix_some hx61).2.1 (lt_of_get (ix_some hx61).1)) <| yw rfl (y_ptrField (o' := 2) · rfl underlying38 rfl rfl rfl) fun a s => ?_
     obtain ⟨hlq76, hmq76, csq76, hdq76, hcq76⟩ := hpp75
     obtain ⟨Aq762, cq762, Aq763, cq763, Aq764, cq764, Aq765, cq765, Aq766, cq766, Aq767, cq767, Aq768, cq768, Aq769, cq769, Aq7610, cq7610, rfl, lq761, hq762, hq763, hq764, hq765, hq766, hq767, hq768, hq769, hq7610⟩ := RModule.open hdq76
     refine S s <| nsw 148 hq762 <| nsw 149 hq763 <| nsw 150 hq764 <| nsw 151 hq765 <| nsw 152 hq766 <| nsw 153 hq767 <| nsw 154 hq768 <| nsw 155 hq769 <| nsw 156 hq7610 <| yw rfl (y_ldp1 · rfl hlq76 hmq76 (hcq76 2 _ rfl) underlying32 rfl) <| mw rfl fun a s => ?_
     obtain ⟨p77, hep77, hpp77⟩ := SlR.elemX (s.ft 149 rfl) hx70
     refine S s <| yw rfl (y_elem (sz := 3) (i := t_59) · rfl rfl underlying32 rfl hep77 rfl (lt_of_get hx70)) <| yw rfl (y_ptrField (o' := 0) · rfl underlying49 rfl rfl rfl) fun a s => ?_
     obtain ⟨hlq78, hmq78, csq78, hdq78, hcq78⟩ := hpp77
     obtain ⟨Aq782, cq782, Aq783, cq783, rfl, lq781, hq782, hq783⟩ := RTypeDecl.open hdq78
     refine S s <| nsw 157 hq782 <| nsw 158 hq783 <| yw rfl (y_ldp1 · rfl hlq78 hmq78 (hcq78 0 _ rfl) underlying9 rfl) fun a s => ?_
     refine lc s rfl func35 (by kernel_rfl) (c_r19_With n _ _ s.lt _ _ _ (s.ft 117 rfl) _ (by omega) _ hr72) fun v79 a w hK hp s => ?_
     obtain ⟨Au80a1, cu80a1, rfl, hu80a1⟩ := hp
     refine S s <| nsw 159 hu80a1 <| aw rfl fun a s => ?_
     apply wO
     refine p_inN ?_
     refine S s <| pw <| lw <| mw rfl <| yw rfl (y_addN (i := t_59) (j := 1) · rfl rfl (in64.2 (by omega))) <| aw rfl <| nw <| alw 117 159 rfl fun a s => ?_
     exact ⟨m3, Nat.lt_succ_self _, ⟨(r72), (t_59 + 1), (Au80a1), (cu80a1), hg, (s.sb rfl rfl rfl)⟩⟩
    replace hg := br_f hg hc65
    apply wp_exit
    refine p_then ?_
    refine p_then ?_
    refine p_in ?_
    apply pN
    replace s := s.al 116 117 rfl
    exact ⟨(t_56), (A57), (c58), hg, (s.sb rfl rfl rfl)⟩
   clear s a; rintro a w ⟨t_53, A54, c55, hg, s⟩
   subst hk52
   refine S s <| vw <| aw rfl <| nw <| bw <| alw 160 116 rfl fun a s => ?_
   refine c_loop (σ := Nat) (fun m4 a w => ∃ (t_81 : (List (List UInt8))) (t_84 : Nat) (A82 : Option Addr) (c83 : Nat), r22_Visible_L3 n t_ k37 r44 m4 t_81 t_84 = some r ∧ St (cx f16 M w0) [(0, sl Ap01 t_ cp01), (5, sl A82 t_81 c83), (8, sl Au30a1 r26 cu30a1), (9, vI (((t_34 : Nat) : Int))), (10, vI r44), (12, vI (((t_84 : Nat) : Int)))] [] [(101, sF RModule Ap01 cp01 t_), (113, sF Rep.str Au30a1 cu30a1 r26), (160, sF Rep.str A82 c83 t_81)] a w) (fun m4 => m4) n ⟨(t_53), (0), (A54), (c55), hg, (s.sb rfl rfl rfl)⟩ ?_
   clear s a; rintro m4 a w ⟨t_81, t_84, A82, c83, hg, s⟩
   rcases m4 with _ | m4
   ·rw [r22_Visible_L3] at hg; cases hg
   rw [r22_Visible_L3] at hg
   obtain ⟨x86, hx86, hg⟩ := bind_some hg
   refine S s <| sw <| sw <| lw <| mw rfl <| mw rfl <| mw rfl fun a s => ?_
   obtain ⟨p88, hep88, hpp88⟩ := SlR.elemX (s.ft 101 rfl) (ix_some hx86).1
   refine S s <| yw rfl (y_elem (sz := 10) (i := ((r44).toNat)) · rfl rfl underlying22 rfl hep88 (ix_some hx86).2.1 (lt_of_get (ix_some hx86).1)) <| yw rfl (y_ptrField (o' := 3) · rfl underlying38 rfl rfl rfl) fun a s => ?_
   obtain ⟨hlq89, hmq89, csq89, hdq89, hcq89⟩ := hpp88
   obtain ⟨Aq892, cq892, Aq893, cq893, Aq894, cq894, Aq895, cq895, Aq896, cq896, Aq897, cq897, Aq898, cq898, Aq899, cq899, Aq8910, cq8910, rfl, lq891, hq892, hq893, hq894, hq895, hq896, hq897, hq898, hq899, hq8910⟩ := RModule.open hdq89
   refine S s <| nsw 170 hq892 <| nsw 171 hq893 <| nsw 172 hq894 <| nsw 173 hq895 <| nsw 174 hq896 <| nsw 175 hq897 <| nsw 176 hq898 <| nsw 177 hq899 <| nsw 178 hq8910 <| yw rfl (y_ldp1 · rfl hlq89 hmq89 (hcq89 3 _ rfl) underlying33 rfl) <| yw rfl (y_lenSlice · rfl underlying33) <| yw rfl (y_lssN (i := t_84) (j := ((x86.Templates).length)) · rfl rfl) <| nw fun a s => c_dec s rfl (fun hc90 => ?_) (fun hc90 => ?_)
   ·replace hg := br_t hg hc90
    have hmx91 := SlR.mx (s.ft 172 rfl)
    obtain ⟨x95, hx95, hg⟩ := bind_some hg
    obtain ⟨hk97, hg⟩ := chk_some hg
    obtain ⟨r98, hr98, hg⟩ := bind_some hg
    refine S s <| kw <| pw <| sw <| bw <| lw <| mw rfl <| mw rfl <| mw rfl fun a s => ?_
    obtain ⟨p101, hep101, hpp101⟩ := SlR.elemX (s.ft 101 rfl) (ix_some hx86).1
    refine S s <| yw rfl (y_elem (sz := 10) (i := ((r44).toNat)) · rfl rfl underlying22 rfl hep101 (ix_some hx86).2.1 (lt_of_get (ix_some hx86).1)) <| yw rfl (y_ptrField (o' := 3) · rfl underlying38 rfl rfl rfl) fun a s => ?_
    obtain ⟨hlq102, hmq102, csq102, hdq102, hcq102⟩ := hpp101
    obtain ⟨Aq1022, cq1022, Aq1023, cq1023, Aq1024, cq1024, Aq1025, cq1025, Aq1026, cq1026, Aq1027, cq1027, Aq1028, cq1028, Aq1029, cq1029, Aq10210, cq10210, rfl, lq1021, hq1022, hq1023, hq1024, hq1025, hq1026, hq1027, hq1028, hq1029, hq10210⟩ := RModule.open hdq102
    refine S s <| nsw 192 hq1022 <| nsw 193 hq1023 <| nsw 194 hq1024 <| nsw 195 hq1025 <| nsw 196 hq1026 <| nsw 197 hq1027 <| nsw 198 hq1028 <| nsw 199 hq1029 <| nsw 200 hq10210 <| yw rfl (y_ldp1 · rfl hlq102 hmq102 (hcq102 3 _ rfl) underlying33 rfl) <| mw rfl fun a s => ?_
    obtain ⟨p103, hep103, hpp103⟩ := SlR.elemX (s.ft 194 rfl) hx95
    refine S s <| yw rfl (y_elem (sz := 6) (i := t_84) · rfl rfl underlying33 rfl hep103 rfl (lt_of_get hx95)) <| yw rfl (y_ptrField (o' := 0) · rfl underlying62 rfl rfl rfl) fun a s => ?_
    obtain ⟨hlq104, hmq104, csq104, hdq104, hcq104⟩ := hpp103
    obtain ⟨Aq1044, cq1044, Aq1045, cq1045, Aq1046, cq1046, rfl, lq1041, lq1043, hq1044, hq1045, hq1046⟩ := RDef.open hdq104
    refine S s <| nsw 201 hq1044 <| nsw 202 hq1045 <| nsw 203 hq1046 <| yw rfl (y_ldp1 · rfl hlq104 hmq104 (hcq104 0 _ rfl) underlying9 rfl) <| yw rfl (y_concat · rfl rfl hk97) fun a s => ?_
    refine lc s rfl func35 (by kernel_rfl) (c_r19_With n _ _ s.lt _ _ _ (s.ft 160 rfl) _ (by rw [List.length_append]; omega) _ hr98) fun v105 a w hK hp s => ?_
    obtain ⟨Au106a1, cu106a1, rfl, hu106a1⟩ := hp
    refine S s <| nsw 204 hu106a1 <| aw rfl fun a s => ?_
    apply wO
    refine p_inN ?_
    refine S s <| pw <| lw <| mw rfl <| yw rfl (y_addN (i := t_84) (j := 1) · rfl rfl (in64.2 (by omega))) <| aw rfl <| nw <| alw 160 204 rfl fun a s => ?_
    exact ⟨m4, Nat.lt_succ_self _, ⟨(r98), (t_84 + 1), (Au106a1), (cu106a1), hg, (s.sb rfl rfl rfl)⟩⟩
   replace hg := br_f hg hc90
   apply wp_exit
   refine p_then ?_
   refine p_then ?_
   refine p_in ?_
   refine p_inN ?_
   apply pN
   replace s := s.al 115 160 rfl
   exact ⟨(t_81), (A82), (c83), hg, (s.sb rfl rfl rfl)⟩
  clear s a; rintro a w ⟨t_38, A39, c40, hg, s⟩
  subst hk37
  refine S s <| lw <| mw rfl <| yw rfl (y_addN (i := t_34) (j := 1) · rfl rfl (in64.2 (by omega))) <| aw rfl <| nw <| alw 114 115 rfl fun a s => ?_
  exact ⟨m2, Nat.lt_succ_self _, ⟨(t_38), (t_34 + 1), (A39), (c40), hg, (s.sb rfl rfl rfl)⟩⟩
 replace hg := br_f hg hc35
 apply wp_exit
 refine p_then ?_
 refine p_then ?_
 refine p_in ?_
 refine S s <| pw <| vw <| mw rfl <| aw rfl <| nw fun a s => ?_
 apply wp_ret
 obtain rfl := Option.some.inj hg
 refine fin1 (fn := Tryz.f16) s rfl (r_tmp s rfl) ?_
 exact ⟨(A32), (c33), rfl, (s.out (k := 114) rfl)⟩
set_option maxHeartbeats 1000000 in
theorem c_law22_has (n : Nat) (M : Bs) (w0 : World) (hM : ∀ b, M b → b < w0.heap.size) (l_ : (List (List UInt8))) (Ap01 : Option Addr) (cp01 : Nat) (hp01 : SlR Rep.str M w0 Ap01 (l_).length cp01 (l_)) (s_ : (List UInt8)) (lp11 : (s_).length ≤ 9223372036854775807) (r : Bool) (hg : law22_has n l_ s_ = some r) :
    Calls Tryz.prog 20 [.slice (Ap01) ((l_).length) (cp01), .string (bs (s_))].toArray w0 (Ret noB w0 fun v w => v = .bool (r)) := by
 unfold law22_has at hg
 refine enter M noB func20 rfl rfl hM ?_
 intro a s
 refine S s <| esw 101 hp01 <| vw <| aw rfl <| nw <| sw <| vw <| aw rfl <| nw <| bw fun a s => ?_
 refine c_loop (σ := Nat) (fun m1 a w => ∃ (i_1 : Nat), law22_has_L0 n l_ s_ m1 i_1 = some r ∧ St (cx f20 M w0) [(0, sl Ap01 l_ cp01), (1, vT s_), (5, vI (((i_1 : Nat) : Int)))] [] [(101, sF Rep.str Ap01 cp01 l_)] a w) (fun m1 => m1) n ⟨(0), hg, (s.sb rfl rfl rfl)⟩ ?_
 clear s a; rintro m1 a w ⟨i_1, hg, s⟩
 rcases m1 with _ | m1
 ·rw [law22_has_L0] at hg; cases hg
 rw [law22_has_L0] at hg
 refine S s <| sw <| vw <| mw rfl <| mw rfl <| yw rfl (y_lenSlice · rfl underlying25) <| yw rfl (y_lssN (i := i_1) (j := ((l_).length)) · rfl rfl) <| nw fun a s => c_dec s rfl (fun hc2 => ?_) (fun hc2 => ?_)
 ·replace hg := br_t hg hc2
  have hmx3 := SlR.mx (s.ft 101 rfl)
  obtain ⟨x5, hx5, hg⟩ := bind_some hg
  refine S s <| kw <| pw <| sw <| bw <| sw <| lw <| mw rfl <| mw rfl fun a s => ?_
  obtain ⟨p7, hep7, hpp7⟩ := SlR.elemX (s.ft 101 rfl) hx5
  refine qq s rfl (y_elem (sz := 1) (i := i_1) s rfl rfl underlying25 rfl hep7 rfl (lt_of_get hx5)) fun a s => ?_
  obtain ⟨hlq8, hmq8, csq8, hdq8, hcq8⟩ := hpp7
  obtain ⟨rfl, lq81⟩ := hdq8
  refine S s <| yw rfl (y_ldp1 · rfl hlq8 hmq8 (hcq8 0 _ rfl) underlying9 rfl) <| mw rfl <| yw rfl (y_seq · rfl rfl) <| nw fun a s => c_dec s rfl (fun hc9 => ?_) (fun hc9 => ?_)
  ·replace hg := br_t hg hc9
   refine S s <| vw <| aw rfl <| nw fun a s => ?_
   apply wp_ret
   refine p_inR ?_
   refine p_thenR ?_
   refine p_thenR ?_
   refine p_inR ?_
   refine p_thenR ?_
   obtain rfl := Option.some.inj hg
   refine fin1 (fn := Tryz.f20) s rfl (r_tmp s rfl) ?_
   exact rfl
  replace hg := br_f hg hc9
  apply wp_skip
  refine p_inN ?_
  refine S s <| pw <| lw <| mw rfl <| yw rfl (y_addN (i := i_1) (j := 1) · rfl rfl (in64.2 (by omega))) <| aw rfl <| nw fun a s => ?_
  exact ⟨m1, Nat.lt_succ_self _, ⟨(i_1 + 1), hg, (s.sb rfl rfl rfl)⟩⟩
 replace hg := br_f hg hc2
 apply wp_exit
 refine p_then ?_
 refine p_then ?_
 refine p_in ?_
 refine S s <| pw <| vw <| aw rfl <| nw fun a s => ?_
 apply wp_ret
 obtain rfl := Option.some.inj hg
 refine fin1 (fn := Tryz.f20) s rfl (r_tmp s rfl) ?_
 exact rfl
end Go.Proofs.YtbhjplflnkidgaaGreat


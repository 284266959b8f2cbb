/- Chapter 22: the walks, part 4 -/
import Derived.Test.YtbhjplflnkidgaaGreatW3
namespace Go.Proofs.YtbhjplflnkidgaaGreat
open Go.Gl Go.RowKit Tryz
set_option linter.unusedVariables false
set_option linter.unusedSimpArgs false
set_option maxRecDepth 4000

set_option maxHeartbeats 1000000 in
theorem c_desc_Names_1 (n : Nat) : ∀ (M : Bs) (w0 : World) (hM : ∀ b, M b → b < w0.heap.size) (C : Bs) (d_ : Desc) (Ap03 : Option Addr) (cp03 : Nat) (Ap04 : Option Addr) (cp04 : Nat) (lp02 : (d_.Name).length ≤ 9223372036854775807) (bf0 : Nat) (c0_ : (List (List UInt8))) (Af01 : Option Addr) (cf01 : Nat) (csf00 : List Value) (bf1 : Nat) (c1_ : (List (List UInt8))) (Af11 : Option Addr) (cf11 : Nat) (csf10 : List Value) (bf2 : Nat) (hW : Wd ⟨0, M, C, w0⟩ [(9100000, Ob.box bf0 [.slice (Af01) ((c0_).length) (cf01)] 25), (9100100, Ob.box bf1 [.slice (Af11) ((c1_).length) (cf11)] 25), (9200000, Ob.row (Af01) ((c0_).length) (cf01) 9 1 (csf00)), (9200100, Ob.row (Af11) ((c1_).length) (cf11) 9 1 (csf10))] [(9300000, rdF Rep.str (csf00) (c0_)), (9300100, rdF Rep.str (csf10) (c1_)), (9400000, slF Rep.str (Ap03) ((d_.Path).length) (cp03) (d_.Path)), (9400001, slF RDesc (Ap04) ((d_.Kids).length) (cp04) (d_.Kids)), (9400002, boxF bf2 [.func (.func 107) #[] #[.pointer (some ⟨bf0, 0, none⟩), .pointer (some ⟨bf1, 0, none⟩), .pointer (some ⟨bf2, 0, none⟩)]] 139)] w0) (r : ((List (List UInt8)) × (List (List UInt8)))) (hg : desc_Names_1 n d_ c0_ c1_ = some r),
    Calls Tryz.prog 107 [.agg #[.int .i64 (d_.Op), vT d_.Name, sl Ap03 d_.Path cp03, sl Ap04 d_.Kids cp04], .pointer (some ⟨bf0, 0, none⟩), .pointer (some ⟨bf1, 0, none⟩), .pointer (some ⟨bf2, 0, none⟩)].toArray w0 (Ret C w0 fun v w => ∃ (Am01 : Option Addr), ∃ (cm01 : Nat), ∃ (csm0_0 : List Value), ∃ (Am11 : Option Addr), ∃ (cm11 : Nat), ∃ (csm1_0 : List Value), v = .tuple #[] ∧ (Wd ⟨0, M, C, w0⟩ [(9100000, Ob.box bf0 [sl Am01 r.1 cm01] 25), (9100100, Ob.box bf1 [sl Am11 r.2 cm11] 25), (9200000, Ob.row (Am01) ((r.1).length) (cm01) 9 1 (csm0_0)), (9200100, Ob.row (Am11) ((r.2).length) (cm11) 9 1 (csm1_0))] [(9300000, rdF Rep.str (csm0_0) (r.1)), (9300100, rdF Rep.str (csm1_0) (r.2))] w)) := by
 induction n with
 | zero => intros; rename_i hg; rw [desc_Names_1] at hg; cases hg
 | succ n c_self =>
 intro M w0 hM C d_ Ap03 cp03 Ap04 cp04 lp02 bf0 c0_ Af01 cf01 csf00 bf1 c1_ Af11 cf11 csf10 bf2 hW r hg
 rw [desc_Names_1] at hg
 refine enterL M C func107 rfl rfl hW ?_
 intro a s
 refine S s <| alw 104 9400000 rfl <| alw 105 9400001 rfl <| alw 106 9400002 rfl <| vw fun a s => ?_
 refine l_seq rfl (l_box (zs := [vI d_.Op, vT d_.Name, sl Ap03 d_.Path cp03, sl Ap04 d_.Kids cp04]) s 1000 rfl rfl rfl rfl fun b2 a w hb hK s => ?_)
 refine S s <| nw <| sw <| vw <| yw rfl (y_boxField (o' := 0) · rfl underlying60 rfl rfl rfl) <| yw rfl (y_loadBox1 (kk := 1000) · rfl rfl rfl underlying3 rfl) <| nw fun a s => ?_
 obtain ⟨k3, hg, hk3⟩ := jn_some hg
 refine c_post (fun a w => ∃ (b_4 : (List (List UInt8))) (b_8 : (List (List UInt8))) (A5 : Option Addr) (c6 : Nat) (cs7 : List Value) (A9 : Option Addr) (c10 : Nat) (cs11 : List Value), k3 b_4 b_8 = some r ∧ St (⟨Tryz.f107.ntmps, M, C, w0⟩ : Ctx) [(1, vP bf0 0), (2, vP bf1 0), (3, vP bf2 0), (4, vP b2 0)] [(1000, Ob.box b2 [vI d_.Op, vT d_.Name, sl Ap03 d_.Path cp03, sl Ap04 d_.Kids cp04] 60), (700107, Ob.row (A5) ((b_4).length) (c6) 9 1 (cs7)), (700109, Ob.row (A9) ((b_8).length) (c10) 9 1 (cs11)), (9100000, Ob.box bf0 [sl A5 b_4 c6] 25), (9100100, Ob.box bf1 [sl A9 b_8 c10] 25)] [(104, sF Rep.str Ap03 cp03 d_.Path), (105, sF RDesc Ap04 cp04 d_.Kids), (106, boxF bf2 [.func (.func 107) #[] #[vP bf0 0, vP bf1 0, vP bf2 0]] 139), (108, rdF Rep.str (cs7) (b_4)), (110, rdF Rep.str (cs11) (b_8))] a w) ?_ ?_
 ·refine S s <| bw <| vw <| yw rfl (y_eql · rfl rfl) <| aw rfl <| nw fun a s => c_dec s rfl (fun hc12 => ?_) (fun hc12 => ?_)
  ·replace hg := br_t hg hc12
   obtain ⟨hk14, hg⟩ := chk_some hg
   refine S s <| lw <| yw rfl (y_loadBox1 (kk := 9100000) · rfl rfl rfl underlying25 rfl) <| yw rfl (y_boxField (o' := 1) · rfl underlying60 rfl rfl rfl) <| yw rfl (y_loadBox1 (kk := 1000) · rfl rfl rfl underlying9 rfl) fun a s => ?_
   refine l_seq rfl (l_buildDense (sz := 1) s 1303 rfl rfl rfl underlying25 rfl rfl rfl rfl rfl rfl rfl fun b17 a w hbb17 hK s => ?_)
   clear hbb17
   replace s := s.add 113 (rdF Rep.str (cellsOfL [vT d_.Name]) ([d_.Name])) (RdAll.cons (by exact ⟨rfl, (by omega)⟩) (RdAll.nil _ _ _))
   have hs19 := row_src (s.wd.holds 1303 _ rfl) (RdAll.one (s.ft 113 rfl))
   refine l_seq rfl (l_append (sz := 1) (by_ := 16) (N := (c0_ ++ [d_.Name]).length) s 9200000 rfl rfl rfl underlying25 rfl rfl rfl rfl rfl hs19 (by rw [List.length_append]; try rfl) rfl (rmA hk14 rfl) (rmB hk14) rfl fun Aq18 cq18 a w hA hK s => ?_)
   replace s := s.add 114 (rdF Rep.str (csf00 ++ (cellsOfL [vT d_.Name])) (c0_ ++ [d_.Name])) (RdAll.append (s.ft 9300000 rfl) (s.ft 113 rfl))
   refine l_seq rfl (l_store (n := 1) (cs' := [sl Aq18 (c0_ ++ [d_.Name]) cq18]) s 9100000 rfl rfl rfl rfl rfl rfl rfl rfl ?_); clear s; intro w hK s; clear hK
   apply wO
   refine p_inN ?_
   refine S s <| pw <| alw 108 114 rfl <| alw 110 9300100 rfl fun a s => ?_
   replace s := s.pk [(1000, 1000), (1303, 1303), (700107, 9200000), (700109, 9200100), (9100000, 9100000), (9100100, 9100100)] (by decide)
   exact ⟨(c0_ ++ [d_.Name]), (c1_), (Aq18), (cq18), (csf00 ++ (cellsOfL [vT d_.Name])), (Af11), (cf11), (csf10), hg, (s.sb rfl rfl rfl)⟩
  replace hg := br_f hg hc12
  refine S s <| vw <| yw rfl (y_eql · rfl rfl) <| aw rfl <| nw fun a s => c_dec s rfl (fun hc20 => ?_) (fun hc20 => ?_)
  ·replace hg := br_t hg hc20
   obtain ⟨hk22, hg⟩ := chk_some hg
   refine S s <| lw <| yw rfl (y_loadBox1 (kk := 9100100) · rfl rfl rfl underlying25 rfl) <| yw rfl (y_boxField (o' := 1) · rfl underlying60 rfl rfl rfl) <| yw rfl (y_loadBox1 (kk := 1000) · rfl rfl rfl underlying9 rfl) fun a s => ?_
   refine l_seq rfl (l_buildDense (sz := 1) s 1503 rfl rfl rfl underlying25 rfl rfl rfl rfl rfl rfl rfl fun b25 a w hbb25 hK s => ?_)
   clear hbb25
   replace s := s.add 117 (rdF Rep.str (cellsOfL [vT d_.Name]) ([d_.Name])) (RdAll.cons (by exact ⟨rfl, (by omega)⟩) (RdAll.nil _ _ _))
   have hs27 := row_src (s.wd.holds 1503 _ rfl) (RdAll.one (s.ft 117 rfl))
   refine l_seq rfl (l_append (sz := 1) (by_ := 16) (N := (c1_ ++ [d_.Name]).length) s 9200100 rfl rfl rfl underlying25 rfl rfl rfl rfl rfl hs27 (by rw [List.length_append]; try rfl) rfl (rmA hk22 rfl) (rmB hk22) rfl fun Aq26 cq26 a w hA hK s => ?_)
   replace s := s.add 118 (rdF Rep.str (csf10 ++ (cellsOfL [vT d_.Name])) (c1_ ++ [d_.Name])) (RdAll.append (s.ft 9300100 rfl) (s.ft 117 rfl))
   refine l_seq rfl (l_store (n := 1) (cs' := [sl Aq26 (c1_ ++ [d_.Name]) cq26]) s 9100100 rfl rfl rfl rfl rfl rfl rfl rfl ?_); clear s; intro w hK s; clear hK
   apply wO
   refine p_inN ?_
   refine S s <| pw <| alw 108 9300000 rfl <| alw 110 118 rfl fun a s => ?_
   replace s := s.pk [(1000, 1000), (1503, 1503), (700107, 9200000), (700109, 9200100), (9100000, 9100000), (9100100, 9100100)] (by decide)
   exact ⟨(c0_), (c1_ ++ [d_.Name]), (Af01), (cf01), (csf00), (Aq26), (cq26), (csf10 ++ (cellsOfL [vT d_.Name])), hg, (s.sb rfl rfl rfl)⟩
  replace hg := br_f hg hc20
  apply wp_skip
  refine p_inN ?_
  refine S s <| pw <| alw 108 9300000 rfl <| alw 110 9300100 rfl fun a s => ?_
  replace s := s.pk [(1000, 1000), (700107, 9200000), (700109, 9200100), (9100000, 9100000), (9100100, 9100100)] (by decide)
  exact ⟨(c0_), (c1_), (Af01), (cf01), (csf00), (Af11), (cf11), (csf10), hg, (s.sb rfl rfl rfl)⟩
 clear s a; rintro a w ⟨b_4, b_8, A5, c6, cs7, A9, c10, cs11, hg, s⟩
 subst hk3
 refine S s <| vw <| yw rfl (y_boxField (o' := 3) · rfl underlying60 rfl rfl rfl) <| yw rfl (y_loadBox1 (kk := 1000) · rfl rfl rfl underlying58 rfl) <| yw rfl (y_lenSlice · rfl underlying58) <| mw rfl <| nw <| bw <| alw 120 108 rfl <| alw 122 110 rfl fun a s => ?_
 replace s := s.pk [(1000, 1000), (700119, 700107), (700121, 700109), (9100000, 9100000), (9100100, 9100100)] (by decide)
 refine c_loop (σ := Nat) (fun m1 a w => ∃ (t_28 : Nat) (b_29 : (List (List UInt8))) (b_33 : (List (List UInt8))) (A30 : Option Addr) (c31 : Nat) (cs32 : List Value) (A34 : Option Addr) (c35 : Nat) (cs36 : List Value), desc_Names_1_L0 n d_ (desc_Names_1 n) m1 t_28 b_29 b_33 = some r ∧ St (⟨Tryz.f107.ntmps, M, C, w0⟩ : Ctx) [(1, vP bf0 0), (2, vP bf1 0), (3, vP bf2 0), (24, sl Ap04 d_.Kids cp04), (25, vI ((((d_.Kids).length : Nat) : Int))), (26, vI (((t_28 : Nat) : Int)))] [(700119, Ob.row (A30) ((b_29).length) (c31) 9 1 (cs32)), (700121, Ob.row (A34) ((b_33).length) (c35) 9 1 (cs36)), (9100000, Ob.box bf0 [sl A30 b_29 c31] 25), (9100100, Ob.box bf1 [sl A34 b_33 c35] 25)] [(105, sF RDesc Ap04 cp04 d_.Kids), (106, boxF bf2 [.func (.func 107) #[] #[vP bf0 0, vP bf1 0, vP bf2 0]] 139), (120, rdF Rep.str (cs32) (b_29)), (122, rdF Rep.str (cs36) (b_33))] a w) (fun m1 => m1) n ⟨(0), (b_4), (b_8), (A5), (c6), (cs7), (A9), (c10), (cs11), hg, (s.sb rfl rfl rfl)⟩ ?_
 clear s a; rintro m1 a w ⟨t_28, b_29, b_33, A30, c31, cs32, A34, c35, cs36, hg, s⟩
 rcases m1 with _ | m1
 ·rw [desc_Names_1_L0] at hg; cases hg
 rw [desc_Names_1_L0] at hg
 refine S s <| vw <| yw rfl (y_lssN (i := t_28) (j := ((d_.Kids).length)) · rfl rfl) <| nw <| sw fun a s => c_dec s rfl (fun hc37 => ?_) (fun hc37 => ?_)
 ·replace hg := br_t hg hc37
  have hmx38 := SlR.mx (s.ft 105 rfl)
  obtain ⟨x40, hx40, hg⟩ := bind_some hg
  refine S s <| kw <| pw <| sw <| bw <| sw <| lw fun a s => ?_
  obtain ⟨p43, hep43, hlq44, hmq44, csq44, hdq44, hcq44⟩ := SlR.elemX (s.ft 105 rfl) hx40
  refine qq s rfl (y_elem (sz := 4) (i := t_28) s rfl rfl underlying58 rfl hep43 rfl (lt_of_get hx40)) fun a s => ?_
  obtain ⟨Aq443, cq443, Aq444, cq444, rfl, lq442, hq443, hq444⟩ := RDesc.open hdq44
  refine S s <| nsw 125 hq443 <| nsw 126 hq444 <| yw rfl (y_ldp · rfl hlq44 hmq44 (by simpa using hcq44) underlying60 rfl rfl) fun a s => ?_
  refine l_seq rfl (l_alloc (zs := [vI 0, vT ([]), .slice none 0 0, .slice none 0 0]) s 1802 rfl rfl rfl rfl fun b45 a w hb hK s => ?_)
  refine l_seq rfl (l_store (n := 4) (cs' := [vI x40.Op, vT x40.Name, sl Aq443 x40.Path cq443, sl Aq444 x40.Kids cq444]) s 1802 rfl rfl rfl rfl rfl rfl rfl rfl ?_); clear s; intro w hK s; clear hK
  obtain ⟨r46, hr46, hg⟩ := bind_some hg
  refine S s <| nw <| lw <| yw rfl (fun s => y_loadF1 s rfl (s.ft 106 rfl) rfl underlying139 rfl) <| yw rfl (y_loadAll (kk := 1802) · rfl rfl underlying60 rfl rfl) fun a s => ?_
  have hT := s.pk [(1802, 1802), (9100000, 9100000), (9100100, 9100100), (9200000, 700119), (9200100, 700121)] (by decide)
  replace hT := hT.al 9300000 120 rfl
  replace hT := hT.al 9300100 122 rfl
  replace hT := hT.al 9400000 125 rfl
  replace hT := hT.al 9400001 126 rfl
  replace hT := hT.al 9400002 106 rfl
  refine l_seq rfl (l_callMut (cap := [vP bf0 0, vP bf1 0, vP bf2 0]) hT _ [] (sbA (by rfl)) trivial (by rfl) rfl func107 rfl (by kernel_rfl) rfl rfl (c_self _ _ (hT.restLt [1802]) _ x40 (Aq443) (cq443) (Aq444) (cq444) (by omega) bf0 b_29 (A30) (c31) (cs32) bf1 b_33 (A34) (c35) (cs36) bf2 (hT.wd.lendL _ _ _ (sbA (by rfl)) (keep_sub [1802]) (by rfl) (sbA (by rfl))) r46 hr46) ?_); intro v49 a' w' hK hp hF
  obtain ⟨Am01u50, cm01u50, csm0_0u50, Am11u50, cm11u50, csm1_0u50, rfl, hWu50⟩ := hp
  have hS2 := St.mk hF (hT.wd.back (sbA (by rfl)) (keep_sub [1802]) (by rfl) hWu50 (by rfl))
  clear s hT hF hWu50 hK; revert hS2; revert w'; revert a'; intro a w s
  replace s := s.al 129 9300000 rfl |>.al 130 9300100 rfl
  replace s := s.ren [(1802, Ob.box b45 [vI x40.Op, vT x40.Name, sl Aq443 x40.Path cq443, sl Aq444 x40.Kids cq444] 60), (700119, Ob.row (Am01u50) ((r46.1).length) (cm01u50) 9 1 (csm0_0u50)), (700121, Ob.row (Am11u50) ((r46.2).length) (cm11u50) 9 1 (csm1_0u50)), (9100000, Ob.box bf0 [sl Am01u50 r46.1 cm01u50] 25), (9100100, Ob.box bf1 [sl Am11u50 r46.2 cm11u50] 25)] [1802, 9200000, 9200100, 9100000, 9100100] ⟨rfl, rfl, rfl, rfl, rfl, trivial⟩ (by decide)
  apply wO
  refine p_inN ?_
  refine S s <| pw <| lw <| yw rfl (y_addN (i := t_28) (j := 1) · rfl rfl (in64.2 (by omega))) <| mw rfl <| nw <| alw 120 129 rfl <| alw 122 130 rfl fun a s => ?_
  exact ⟨m1, Nat.lt_succ_self _, ⟨(t_28 + 1), (r46.1), (r46.2), (Am01u50), (cm01u50), (csm0_0u50), (Am11u50), (cm11u50), (csm1_0u50), hg, (s.sb rfl rfl rfl)⟩⟩
 replace hg := br_f hg hc37
 apply wp_exit
 refine p_then ?_
 refine p_then ?_
 refine p_in ?_
 replace s := s.al 9300000 120 rfl |>.al 9300100 122 rfl
 obtain rfl := Option.some.inj hg
 refine fin0 (fn := Tryz.f107) s rfl ?_ (.inr rfl)
 exact ⟨(A30), (c31), (cs32), (A34), (c35), (cs36), rfl, ((s.ren [(9100000, Ob.box bf0 [sl A30 b_29 c31] 25), (9100100, Ob.box bf1 [sl A34 b_33 c35] 25), (9200000, Ob.row (A30) ((b_29).length) (c31) 9 1 (cs32)), (9200100, Ob.row (A34) ((b_33).length) (c35) 9 1 (cs36))] [9100000, 9100100, 700119, 700121] ⟨rfl, rfl, rfl, rfl, trivial⟩ (by decide)).outL ⟨rfl, rfl, rfl, rfl, trivial⟩ ⟨rfl, rfl, trivial⟩)⟩
set_option maxHeartbeats 1000000 in
theorem c_desc_Names (n : Nat) (M : Bs) (w0 : World) (hM : ∀ b, M b → b < w0.heap.size) (d_ : Desc) (Ap03 : Option Addr) (cp03 : Nat) (Ap04 : Option Addr) (cp04 : Nat) (lp02 : (d_.Name).length ≤ 9223372036854775807) (hp03 : sR Rep.str M w0 Ap03 cp03 d_.Path) (hp04 : sR RDesc M w0 Ap04 cp04 d_.Kids) (r : ((List (List UInt8)) × (List (List UInt8)))) (hg : desc_Names n d_ = some r) :
    Calls Tryz.prog 66 [.agg #[.int .i64 (d_.Op), vT d_.Name, sl Ap03 d_.Path cp03, sl Ap04 d_.Kids cp04]].toArray w0 (Ret noB w0 fun v w => ∃ (Aa1 : Option Addr), ∃ (ca1 : Nat), ∃ (Ab1 : Option Addr), ∃ (cb1 : Nat), v = .tuple #[sl Aa1 r.1 ca1, sl Ab1 r.2 cb1] ∧ (SlR Rep.str M w Aa1 (r.1).length ca1 (r.1)) ∧ (SlR Rep.str M w Ab1 (r.2).length cb1 (r.2))) := by
 unfold desc_Names at hg
 refine enter M noB func66 rfl rfl hM ?_
 intro a s
 refine S s <| esw 101 hp03 <| esw 102 hp04 <| vw fun a s => ?_
 refine l_seq rfl (l_box (zs := [vI d_.Op, vT d_.Name, sl Ap03 d_.Path cp03, sl Ap04 d_.Kids cp04]) s 1000 rfl rfl rfl rfl fun b2 a w hb hK s => ?_)
 refine S s <| aw rfl <| aw rfl <| nw <| vw fun a s => ?_
 refine l_seq rfl (l_alloc (zs := [.slice none 0 0]) s 1100 rfl rfl rfl rfl fun b5 a w hb hK s => ?_)
 refine l_seq rfl (l_alloc (zs := [.slice none 0 0]) s 1101 rfl rfl rfl rfl fun b6 a w hb hK s => ?_)
 apply wN
 apply wR
 refine l_seq rfl (l_alloc (zs := [.nilFunc]) s 1200 rfl rfl rfl rfl fun b8 a w hb hK s => ?_)
 refine S s <| nw <| vw <| yw rfl (y_makeFunc (xs := [.tmp 4, .tmp 5, .tmp 6]) (vs := [vP b5 0, vP b6 0, vP b8 0]) · rfl) fun a s => ?_
 refine l_seq rfl (l_store (n := 1) (cs' := [.func (.func 107) #[] #[vP b5 0, vP b6 0, vP b8 0]]) s 1200 rfl rfl rfl rfl rfl rfl rfl rfl ?_); clear s; intro w hK s; clear hK
 obtain ⟨r9, hr9, hg⟩ := bind_some hg
 refine S s <| nw <| sw <| lw <| yw rfl (y_loadBox1 (kk := 1200) · rfl rfl rfl underlying139 rfl) <| yw rfl (y_loadAll (kk := 1000) · rfl rfl underlying60 rfl rfl) fun a s => ?_
 replace s := s.freezeBox (L' := [(1000, Ob.box b2 [vI d_.Op, vT d_.Name, sl Ap03 d_.Path cp03, sl Ap04 d_.Kids cp04] 60), (1100, Ob.box b5 [.slice none 0 0] 25), (1101, Ob.box b6 [.slice none 0 0] 25)]) 110 1200 rfl ⟨rfl, rfl, rfl, trivial⟩ rfl
 replace s := s.nilRow 800111 9 1 rfl
 replace s := s.add 112 (rdF Rep.str ([]) ([])) (RdAll.nil _ _ _)
 replace s := s.nilRow 800113 9 1 rfl
 replace s := s.add 114 (rdF Rep.str ([]) ([])) (RdAll.nil _ _ _)
 have hT := s.pk [(1000, 1000), (9100000, 1100), (9100100, 1101), (9200000, 800111), (9200100, 800113)] (by decide)
 replace hT := hT.al 9300000 112 rfl
 replace hT := hT.al 9300100 114 rfl
 replace hT := hT.al 9400000 101 rfl
 replace hT := hT.al 9400001 102 rfl
 replace hT := hT.al 9400002 110 rfl
 refine l_seq rfl (l_callMut (cap := [vP b5 0, vP b6 0, vP b8 0]) hT _ [] (sbA (by rfl)) trivial (by rfl) rfl func107 rfl (by kernel_rfl) rfl rfl (c_desc_Names_1 n _ _ (hT.restLt [1000]) _ d_ (Ap03) (cp03) (Ap04) (cp04) (by omega) b5 [] (none) (0) ([]) b6 [] (none) (0) ([]) b8 (hT.wd.lendL _ _ _ (sbA (by rfl)) (keep_sub [1000]) (by rfl) (sbA (by rfl))) r9 hr9) ?_); intro v12 a' w' hK hp hF
 obtain ⟨Am01u13, cm01u13, csm0_0u13, Am11u13, cm11u13, csm1_0u13, rfl, hWu13⟩ := hp
 have hS2 := St.mk hF (hT.wd.back (sbA (by rfl)) (keep_sub [1000]) (by rfl) hWu13 (by rfl))
 clear s hT hF hWu13 hK; revert hS2; revert w'; revert a'; intro a w s
 replace s := s.al 115 9300000 rfl |>.al 116 9300100 rfl
 replace s := s.ren [(1000, Ob.box b2 [vI d_.Op, vT d_.Name, sl Ap03 d_.Path cp03, sl Ap04 d_.Kids cp04] 60), (1100, Ob.box b5 [sl Am01u13 r9.1 cm01u13] 25), (1101, Ob.box b6 [sl Am11u13 r9.2 cm11u13] 25), (800111, Ob.row (Am01u13) ((r9.1).length) (cm01u13) 9 1 (csm0_0u13)), (800113, Ob.row (Am11u13) ((r9.2).length) (cm11u13) 9 1 (csm1_0u13))] [1000, 9100000, 9100100, 9200000, 9200100] ⟨rfl, rfl, rfl, rfl, rfl, trivial⟩ (by decide)
 apply wN
 apply wQ
 apply wR
 refine l_seq rfl (l_buildDense (sz := 1) s 1500 rfl rfl rfl underlying141 rfl rfl rfl rfl rfl rfl rfl fun b15 a w hbb15 hK s => ?_)
 clear hbb15
 refine S s <| yw rfl (y_lenSlice · rfl underlying141) <| mw rfl <| nw fun a s => ?_
 obtain ⟨k16, hg, hk16⟩ := jn_some hg
 refine c_post (fun a w => ∃ (types_17 : (List (List UInt8))) (templates_21 : (List (List UInt8))) (A18 : Option Addr) (c19 : Nat) (cs20 : List Value) (A22 : Option Addr) (c23 : Nat) (cs24 : List Value), k16 types_17 templates_21 = some r ∧ St (cx f66 M w0) [(4, vP b5 0), (5, vP b6 0)] [(1100, Ob.box b5 [sl A18 types_17 c19] 25), (1101, Ob.box b6 [sl A22 templates_21 c23] 25), (700117, Ob.row (A18) ((types_17).length) (c19) 9 1 (cs20)), (700119, Ob.row (A22) ((templates_21).length) (c23) 9 1 (cs24))] [(118, rdF Rep.str (cs20) (types_17)), (120, rdF Rep.str (cs24) (templates_21))] a w) ?_ ?_
 ·apply wp_block
  refine wp_loop_rounds 3 ?_
  refine c_round ?_
  refine S s <| vw <| yw rfl (y_lss · rfl rfl) <| nw <| sw fun a s => c_t s rfl ?_
  obtain ⟨r25, hr25, hg⟩ := bind_some hg
  refine S s <| kw <| pw <| sw <| bw <| vw <| yw rfl (y_rowIndex (sz := 1) (i := 0) · rfl rfl underlying141 rfl rfl rfl (by decide)) <| yw rfl (y_loadRow1 (kk := 1500) · rfl rfl rfl rfl underlying140 rfl) <| aw rfl <| nw <| sw <| lw <| mw rfl <| yw rfl (y_nilCheck · rfl) <| yw rfl (y_loadBox1 (kk := 1100) · rfl rfl rfl underlying25 rfl) fun a s => ?_
  have hT := s.pk [(1000, 1000), (1100, 1100), (1101, 1101), (1500, 1500), (800113, 800113), (9200000, 800111)] (by decide)
  replace hT := hT.al 9300000 115 rfl
  refine l_seq rfl (l_callMut (cap := []) hT _ [] (sbA (by rfl)) trivial (by rfl) rfl func32 rfl (by kernel_rfl) rfl rfl (c_slices_Sort_string n _ _ (hT.restLt [1000, 1100, 1101, 1500, 800113]) _ r9.1 (Am01u13) (cm01u13) (csm0_0u13) (hT.wd.lendL _ _ _ (sbA (by rfl)) (keep_sub [1000, 1100, 1101, 1500, 800113]) (by rfl) (sbA (by rfl))) r25 hr25) ?_); intro v28 a' w' hK hp hF
  obtain ⟨csm0_0u29, rfl, hWu29⟩ := hp
  have hS2 := St.mk hF (hT.wd.back (sbA (by rfl)) (keep_sub [1000, 1100, 1101, 1500, 800113]) (by rfl) hWu29 (by rfl))
  clear s hT hF hWu29 hK; revert hS2; revert w'; revert a'; intro a w s
  replace s := s.al 122 9300000 rfl
  replace s := s.ren [(1000, Ob.box b2 [vI d_.Op, vT d_.Name, sl Ap03 d_.Path cp03, sl Ap04 d_.Kids cp04] 60), (1100, Ob.box b5 [sl Am01u13 r9.1 cm01u13] 25), (1101, Ob.box b6 [sl Am11u13 r9.2 cm11u13] 25), (1500, Ob.row (some ⟨b15, 0, none⟩) (2) (2) 140 1 (cellsOfL [vP b5 0, vP b6 0])), (800111, Ob.row (Am01u13) ((r9.1).length) (cm01u13) 9 1 (csm0_0u29)), (800113, Ob.row (Am11u13) ((r9.2).length) (cm11u13) 9 1 (csm1_0u13))] [1000, 1100, 1101, 1500, 9200000, 800113] ⟨rfl, rfl, rfl, rfl, rfl, rfl, trivial⟩ (by decide)
  replace s := s.sub (l' := [(0, .agg #[.int .i64 (d_.Op), .string (bs (d_.Name)), .slice (Ap03) ((d_.Path).length) (cp03), .slice (Ap04) ((d_.Kids).length) (cp04)]), (1, .pointer (some ⟨b2, 0, none⟩)), (2, .slice (none) (0) (0)), (3, .slice (none) (0) (0)), (4, .pointer (some ⟨b5, 0, none⟩)), (5, .pointer (some ⟨b6, 0, none⟩)), (6, .pointer (some ⟨b8, 0, none⟩)), (8, .pointer (some ⟨b5, 0, none⟩)), (9, .func (.func 107) #[] #[.pointer (some ⟨b5, 0, none⟩), .pointer (some ⟨b6, 0, none⟩), .pointer (some ⟨b8, 0, none⟩)]), (10, .func (.func 107) #[] #[.pointer (some ⟨b5, 0, none⟩), .pointer (some ⟨b6, 0, none⟩), .pointer (some ⟨b8, 0, none⟩)]), (11, .agg #[.int .i64 (d_.Op), .string (bs (d_.Name)), .slice (Ap03) ((d_.Path).length) (cp03), .slice (Ap04) ((d_.Kids).length) (cp04)]), (12, .tuple #[]), (13, .slice (some ⟨b15, 0, none⟩) (2) (2)), (14, .int .i64 (2)), (15, .int .i64 (0)), (16, .bool (true)), (17, .pointer (some ⟨b15, 0 * 1, none⟩)), (18, .pointer (some ⟨b5, 0, none⟩)), (19, .pointer (some ⟨b5, 0, none⟩)), (20, .pointer (some ⟨b5, 0, none⟩)), (21, .slice (Am01u13) ((r9.1).length) (cm01u13)), (22, .tuple #[])]) (L' := [(1000, Ob.box b2 [.int .i64 (d_.Op), .string (bs (d_.Name)), .slice (Ap03) ((d_.Path).length) (cp03), .slice (Ap04) ((d_.Kids).length) (cp04)] 60), (1100, Ob.box b5 [.slice (Am01u13) ((r9.1).length) (cm01u13)] 25), (1101, Ob.box b6 [.slice (Am11u13) ((r9.2).length) (cm11u13)] 25), (1500, Ob.row (some ⟨b15, 0, none⟩) (2) (2) 140 1 (cellsOfL [.pointer (some ⟨b5, 0, none⟩), .pointer (some ⟨b6, 0, none⟩)])), (800111, Ob.row (Am01u13) ((r9.1).length) (cm01u13) 9 1 (csm0_0u29)), (800113, Ob.row (Am11u13) ((r9.2).length) (cm11u13) 9 1 (csm1_0u13))]) (D' := [(101, slF Rep.str (Ap03) ((d_.Path).length) (cp03) (d_.Path)), (102, slF RDesc (Ap04) ((d_.Kids).length) (cp04) (d_.Kids)), (110, boxF b8 [.func (.func 107) #[] #[.pointer (some ⟨b5, 0, none⟩), .pointer (some ⟨b6, 0, none⟩), .pointer (some ⟨b8, 0, none⟩)]] 139), (112, rdF Rep.str ([]) ([])), (114, rdF Rep.str ([]) ([])), (115, rdF Rep.str (csm0_0u13) (r9.1)), (116, rdF Rep.str (csm1_0u13) (r9.2)), (122, rdF Rep.str (csm0_0u29) (r25))]) ⟨rfl, rfl, rfl, rfl, rfl, rfl, rfl, rfl, rfl, rfl, rfl, rfl, rfl, rfl, rfl, rfl, rfl, rfl, rfl, rfl, rfl, rfl, trivial⟩ ⟨rfl, rfl, rfl, rfl, rfl, rfl, trivial⟩ ⟨rfl, rfl, rfl, rfl, rfl, rfl, rfl, rfl, trivial⟩
  have hrlu290 := rowN (s.wd.holds 800111 _ rfl) (s.ft 122 rfl) rfl rfl
  replace s := s.eqs (l' := [(0, .agg #[.int .i64 (d_.Op), .string (bs (d_.Name)), .slice (Ap03) ((d_.Path).length) (cp03), .slice (Ap04) ((d_.Kids).length) (cp04)]), (1, .pointer (some ⟨b2, 0, none⟩)), (2, .slice (none) (0) (0)), (3, .slice (none) (0) (0)), (4, .pointer (some ⟨b5, 0, none⟩)), (5, .pointer (some ⟨b6, 0, none⟩)), (6, .pointer (some ⟨b8, 0, none⟩)), (8, .pointer (some ⟨b5, 0, none⟩)), (9, .func (.func 107) #[] #[.pointer (some ⟨b5, 0, none⟩), .pointer (some ⟨b6, 0, none⟩), .pointer (some ⟨b8, 0, none⟩)]), (10, .func (.func 107) #[] #[.pointer (some ⟨b5, 0, none⟩), .pointer (some ⟨b6, 0, none⟩), .pointer (some ⟨b8, 0, none⟩)]), (11, .agg #[.int .i64 (d_.Op), .string (bs (d_.Name)), .slice (Ap03) ((d_.Path).length) (cp03), .slice (Ap04) ((d_.Kids).length) (cp04)]), (12, .tuple #[]), (13, .slice (some ⟨b15, 0, none⟩) (2) (2)), (14, .int .i64 (2)), (15, .int .i64 (0)), (16, .bool (true)), (17, .pointer (some ⟨b15, 0 * 1, none⟩)), (18, .pointer (some ⟨b5, 0, none⟩)), (19, .pointer (some ⟨b5, 0, none⟩)), (20, .pointer (some ⟨b5, 0, none⟩)), (21, .slice (Am01u13) ((r25).length) (cm01u13)), (22, .tuple #[])]) (L' := [(1000, Ob.box b2 [.int .i64 (d_.Op), .string (bs (d_.Name)), .slice (Ap03) ((d_.Path).length) (cp03), .slice (Ap04) ((d_.Kids).length) (cp04)] 60), (1100, Ob.box b5 [.slice (Am01u13) ((r25).length) (cm01u13)] 25), (1101, Ob.box b6 [.slice (Am11u13) ((r9.2).length) (cm11u13)] 25), (1500, Ob.row (some ⟨b15, 0, none⟩) (2) (2) 140 1 (cellsOfL [.pointer (some ⟨b5, 0, none⟩), .pointer (some ⟨b6, 0, none⟩)])), (800111, Ob.row (Am01u13) ((r25).length) (cm01u13) 9 1 (csm0_0u29)), (800113, Ob.row (Am11u13) ((r9.2).length) (cm11u13) 9 1 (csm1_0u13))]) (by simp only [hrlu290]) (by simp only [hrlu290])
  obtain ⟨r30, hr30, hg⟩ := bind_some hg
  refine S s <| nw <| lw <| mw rfl <| mw rfl <| yw rfl (y_nilCheck · rfl) <| yw rfl (y_loadBox1 (kk := 1100) · rfl rfl rfl underlying25 rfl) fun a s => ?_
  have hT := s.pk [(1000, 1000), (1100, 1100), (1101, 1101), (1500, 1500), (800113, 800113), (9200000, 800111)] (by decide)
  replace hT := hT.al 9300000 122 rfl
  refine l_seq rfl (l_callMut (cap := []) hT _ [] (sbA (by rfl)) trivial (by rfl) rfl func33 rfl (by kernel_rfl) rfl rfl (c_slices_Compact_string n _ _ (hT.restLt [1000, 1100, 1101, 1500, 800113]) _ r25 (Am01u13) (cm01u13) (csm0_0u29) (hT.wd.lendL _ _ _ (sbA (by rfl)) (keep_sub [1000, 1100, 1101, 1500, 800113]) (by rfl) (sbA (by rfl))) r30 hr30) ?_); intro v33 a' w' hK hp hF
  obtain ⟨Aou34, cou34, csou34, rfl, hWu34⟩ := hp
  have hS2 := St.mk hF (hT.wd.back (sbA (by rfl)) (keep_sub [1000, 1100, 1101, 1500, 800113]) (by rfl) hWu34 (by rfl))
  clear s hT hF hWu34 hK; revert hS2; revert w'; revert a'; intro a w s
  replace s := s.al 124 9300000 rfl
  replace s := s.ren [(1000, Ob.box b2 [vI d_.Op, vT d_.Name, sl Ap03 d_.Path cp03, sl Ap04 d_.Kids cp04] 60), (1100, Ob.box b5 [sl Am01u13 r25 cm01u13] 25), (1101, Ob.box b6 [sl Am11u13 r9.2 cm11u13] 25), (1500, Ob.row (some ⟨b15, 0, none⟩) (2) (2) 140 1 (cellsOfL [vP b5 0, vP b6 0])), (800111, Ob.row (Aou34) ((r30).length) (cou34) 9 1 (csou34)), (800113, Ob.row (Am11u13) ((r9.2).length) (cm11u13) 9 1 (csm1_0u13))] [1000, 1100, 1101, 1500, 9200000, 800113] ⟨rfl, rfl, rfl, rfl, rfl, rfl, trivial⟩ (by decide)
  refine qq s rfl (y_nilCheck s rfl) fun a s => ?_
  refine l_seq rfl (l_store (n := 1) (cs' := [sl Aou34 r30 cou34]) s 1100 rfl rfl rfl rfl rfl rfl rfl rfl ?_); clear s; intro w hK s; clear hK
  apply wO
  refine p_inN ?_
  obtain ⟨hk35, hg⟩ := chk_some hg
  refine S s <| pw <| lw <| yw rfl (y_addN (i := 0) (j := 1) · rfl rfl (in64.2 (by omega))) <| mw rfl <| nw fun a s => ?_
  refine c_round ?_
  refine S s <| vw <| yw rfl (y_lss · rfl rfl) <| nw <| sw fun a s => c_t s rfl ?_
  obtain ⟨r36, hr36, hg⟩ := bind_some hg
  refine S s <| kw <| pw <| sw <| bw <| vw <| yw rfl (y_rowIndex (sz := 1) (i := 1) · rfl rfl underlying141 rfl rfl rfl (by decide)) <| yw rfl (y_loadRow1 (kk := 1500) · rfl rfl rfl rfl underlying140 rfl) <| aw rfl <| nw <| sw <| lw <| mw rfl <| yw rfl (y_nilCheck · rfl) <| yw rfl (y_loadBox1 (kk := 1101) · rfl rfl rfl underlying25 rfl) fun a s => ?_
  have hT := s.pk [(1000, 1000), (1100, 1100), (1101, 1101), (1500, 1500), (800111, 800111), (9200000, 800113)] (by decide)
  replace hT := hT.al 9300000 116 rfl
  refine l_seq rfl (l_callMut (cap := []) hT _ [] (sbA (by rfl)) trivial (by rfl) rfl func32 rfl (by kernel_rfl) rfl rfl (c_slices_Sort_string n _ _ (hT.restLt [1000, 1100, 1101, 1500, 800111]) _ r9.2 (Am11u13) (cm11u13) (csm1_0u13) (hT.wd.lendL _ _ _ (sbA (by rfl)) (keep_sub [1000, 1100, 1101, 1500, 800111]) (by rfl) (sbA (by rfl))) r36 hr36) ?_); intro v39 a' w' hK hp hF
  obtain ⟨csm0_0u40, rfl, hWu40⟩ := hp
  have hS2 := St.mk hF (hT.wd.back (sbA (by rfl)) (keep_sub [1000, 1100, 1101, 1500, 800111]) (by rfl) hWu40 (by rfl))
  clear s hT hF hWu40 hK; revert hS2; revert w'; revert a'; intro a w s
  replace s := s.al 126 9300000 rfl
  replace s := s.ren [(1000, Ob.box b2 [vI d_.Op, vT d_.Name, sl Ap03 d_.Path cp03, sl Ap04 d_.Kids cp04] 60), (1100, Ob.box b5 [sl Aou34 r30 cou34] 25), (1101, Ob.box b6 [sl Am11u13 r9.2 cm11u13] 25), (1500, Ob.row (some ⟨b15, 0, none⟩) (2) (2) 140 1 (cellsOfL [vP b5 0, vP b6 0])), (800111, Ob.row (Aou34) ((r30).length) (cou34) 9 1 (csou34)), (800113, Ob.row (Am11u13) ((r9.2).length) (cm11u13) 9 1 (csm0_0u40))] [1000, 1100, 1101, 1500, 800111, 9200000] ⟨rfl, rfl, rfl, rfl, rfl, rfl, trivial⟩ (by decide)
  replace s := s.sub (l' := [(0, .agg #[.int .i64 (d_.Op), .string (bs (d_.Name)), .slice (Ap03) ((d_.Path).length) (cp03), .slice (Ap04) ((d_.Kids).length) (cp04)]), (1, .pointer (some ⟨b2, 0, none⟩)), (2, .slice (none) (0) (0)), (3, .slice (none) (0) (0)), (4, .pointer (some ⟨b5, 0, none⟩)), (5, .pointer (some ⟨b6, 0, none⟩)), (6, .pointer (some ⟨b8, 0, none⟩)), (8, .pointer (some ⟨b6, 0, none⟩)), (9, .func (.func 107) #[] #[.pointer (some ⟨b5, 0, none⟩), .pointer (some ⟨b6, 0, none⟩), .pointer (some ⟨b8, 0, none⟩)]), (10, .func (.func 107) #[] #[.pointer (some ⟨b5, 0, none⟩), .pointer (some ⟨b6, 0, none⟩), .pointer (some ⟨b8, 0, none⟩)]), (11, .agg #[.int .i64 (d_.Op), .string (bs (d_.Name)), .slice (Ap03) ((d_.Path).length) (cp03), .slice (Ap04) ((d_.Kids).length) (cp04)]), (12, .tuple #[]), (13, .slice (some ⟨b15, 0, none⟩) (2) (2)), (14, .int .i64 (2)), (15, .int .i64 (((1 : Nat) : Int))), (16, .bool (true)), (17, .pointer (some ⟨b15, 1 * 1, none⟩)), (18, .pointer (some ⟨b6, 0, none⟩)), (19, .pointer (some ⟨b6, 0, none⟩)), (20, .pointer (some ⟨b6, 0, none⟩)), (21, .slice (Am11u13) ((r9.2).length) (cm11u13)), (22, .tuple #[]), (23, .pointer (some ⟨b5, 0, none⟩)), (24, .pointer (some ⟨b5, 0, none⟩)), (25, .pointer (some ⟨b5, 0, none⟩)), (27, .slice (Aou34) ((r30).length) (cou34)), (28, .pointer (some ⟨b5, 0, none⟩)), (29, .int .i64 (((1 : Nat) : Int)))]) (L' := [(1000, Ob.box b2 [.int .i64 (d_.Op), .string (bs (d_.Name)), .slice (Ap03) ((d_.Path).length) (cp03), .slice (Ap04) ((d_.Kids).length) (cp04)] 60), (1100, Ob.box b5 [.slice (Aou34) ((r30).length) (cou34)] 25), (1101, Ob.box b6 [.slice (Am11u13) ((r9.2).length) (cm11u13)] 25), (1500, Ob.row (some ⟨b15, 0, none⟩) (2) (2) 140 1 (cellsOfL [.pointer (some ⟨b5, 0, none⟩), .pointer (some ⟨b6, 0, none⟩)])), (800111, Ob.row (Aou34) ((r30).length) (cou34) 9 1 (csou34)), (800113, Ob.row (Am11u13) ((r9.2).length) (cm11u13) 9 1 (csm0_0u40))]) (D' := [(101, slF Rep.str (Ap03) ((d_.Path).length) (cp03) (d_.Path)), (102, slF RDesc (Ap04) ((d_.Kids).length) (cp04) (d_.Kids)), (110, boxF b8 [.func (.func 107) #[] #[.pointer (some ⟨b5, 0, none⟩), .pointer (some ⟨b6, 0, none⟩), .pointer (some ⟨b8, 0, none⟩)]] 139), (112, rdF Rep.str ([]) ([])), (114, rdF Rep.str ([]) ([])), (115, rdF Rep.str (csm0_0u13) (r9.1)), (116, rdF Rep.str (csm1_0u13) (r9.2)), (122, rdF Rep.str (csm0_0u29) (r25)), (124, rdF Rep.str (csou34) (r30)), (126, rdF Rep.str (csm0_0u40) (r36))]) ⟨rfl, rfl, rfl, rfl, rfl, rfl, rfl, rfl, rfl, rfl, rfl, rfl, rfl, rfl, rfl, rfl, rfl, rfl, rfl, rfl, rfl, rfl, rfl, rfl, rfl, rfl, rfl, rfl, trivial⟩ ⟨rfl, rfl, rfl, rfl, rfl, rfl, trivial⟩ ⟨rfl, rfl, rfl, rfl, rfl, rfl, rfl, rfl, rfl, rfl, trivial⟩
  have hrlu400 := rowN (s.wd.holds 800113 _ rfl) (s.ft 126 rfl) rfl rfl
  replace s := s.eqs (l' := [(0, .agg #[.int .i64 (d_.Op), .string (bs (d_.Name)), .slice (Ap03) ((d_.Path).length) (cp03), .slice (Ap04) ((d_.Kids).length) (cp04)]), (1, .pointer (some ⟨b2, 0, none⟩)), (2, .slice (none) (0) (0)), (3, .slice (none) (0) (0)), (4, .pointer (some ⟨b5, 0, none⟩)), (5, .pointer (some ⟨b6, 0, none⟩)), (6, .pointer (some ⟨b8, 0, none⟩)), (8, .pointer (some ⟨b6, 0, none⟩)), (9, .func (.func 107) #[] #[.pointer (some ⟨b5, 0, none⟩), .pointer (some ⟨b6, 0, none⟩), .pointer (some ⟨b8, 0, none⟩)]), (10, .func (.func 107) #[] #[.pointer (some ⟨b5, 0, none⟩), .pointer (some ⟨b6, 0, none⟩), .pointer (some ⟨b8, 0, none⟩)]), (11, .agg #[.int .i64 (d_.Op), .string (bs (d_.Name)), .slice (Ap03) ((d_.Path).length) (cp03), .slice (Ap04) ((d_.Kids).length) (cp04)]), (12, .tuple #[]), (13, .slice (some ⟨b15, 0, none⟩) (2) (2)), (14, .int .i64 (2)), (15, .int .i64 (((1 : Nat) : Int))), (16, .bool (true)), (17, .pointer (some ⟨b15, 1 * 1, none⟩)), (18, .pointer (some ⟨b6, 0, none⟩)), (19, .pointer (some ⟨b6, 0, none⟩)), (20, .pointer (some ⟨b6, 0, none⟩)), (21, .slice (Am11u13) ((r36).length) (cm11u13)), (22, .tuple #[]), (23, .pointer (some ⟨b5, 0, none⟩)), (24, .pointer (some ⟨b5, 0, none⟩)), (25, .pointer (some ⟨b5, 0, none⟩)), (27, .slice (Aou34) ((r30).length) (cou34)), (28, .pointer (some ⟨b5, 0, none⟩)), (29, .int .i64 (((1 : Nat) : Int)))]) (L' := [(1000, Ob.box b2 [.int .i64 (d_.Op), .string (bs (d_.Name)), .slice (Ap03) ((d_.Path).length) (cp03), .slice (Ap04) ((d_.Kids).length) (cp04)] 60), (1100, Ob.box b5 [.slice (Aou34) ((r30).length) (cou34)] 25), (1101, Ob.box b6 [.slice (Am11u13) ((r36).length) (cm11u13)] 25), (1500, Ob.row (some ⟨b15, 0, none⟩) (2) (2) 140 1 (cellsOfL [.pointer (some ⟨b5, 0, none⟩), .pointer (some ⟨b6, 0, none⟩)])), (800111, Ob.row (Aou34) ((r30).length) (cou34) 9 1 (csou34)), (800113, Ob.row (Am11u13) ((r36).length) (cm11u13) 9 1 (csm0_0u40))]) (by simp only [hrlu400]) (by simp only [hrlu400])
  obtain ⟨r41, hr41, hg⟩ := bind_some hg
  refine S s <| nw <| lw <| mw rfl <| mw rfl <| yw rfl (y_nilCheck · rfl) <| yw rfl (y_loadBox1 (kk := 1101) · rfl rfl rfl underlying25 rfl) fun a s => ?_
  have hT := s.pk [(1000, 1000), (1100, 1100), (1101, 1101), (1500, 1500), (800111, 800111), (9200000, 800113)] (by decide)
  replace hT := hT.al 9300000 126 rfl
  refine l_seq rfl (l_callMut (cap := []) hT _ [] (sbA (by rfl)) trivial (by rfl) rfl func33 rfl (by kernel_rfl) rfl rfl (c_slices_Compact_string n _ _ (hT.restLt [1000, 1100, 1101, 1500, 800111]) _ r36 (Am11u13) (cm11u13) (csm0_0u40) (hT.wd.lendL _ _ _ (sbA (by rfl)) (keep_sub [1000, 1100, 1101, 1500, 800111]) (by rfl) (sbA (by rfl))) r41 hr41) ?_); intro v44 a' w' hK hp hF
  obtain ⟨Aou45, cou45, csou45, rfl, hWu45⟩ := hp
  have hS2 := St.mk hF (hT.wd.back (sbA (by rfl)) (keep_sub [1000, 1100, 1101, 1500, 800111]) (by rfl) hWu45 (by rfl))
  clear s hT hF hWu45 hK; revert hS2; revert w'; revert a'; intro a w s
  replace s := s.al 128 9300000 rfl
  replace s := s.ren [(1000, Ob.box b2 [vI d_.Op, vT d_.Name, sl Ap03 d_.Path cp03, sl Ap04 d_.Kids cp04] 60), (1100, Ob.box b5 [sl Aou34 r30 cou34] 25), (1101, Ob.box b6 [sl Am11u13 r36 cm11u13] 25), (1500, Ob.row (some ⟨b15, 0, none⟩) (2) (2) 140 1 (cellsOfL [vP b5 0, vP b6 0])), (800111, Ob.row (Aou34) ((r30).length) (cou34) 9 1 (csou34)), (800113, Ob.row (Aou45) ((r41).length) (cou45) 9 1 (csou45))] [1000, 1100, 1101, 1500, 800111, 9200000] ⟨rfl, rfl, rfl, rfl, rfl, rfl, trivial⟩ (by decide)
  refine qq s rfl (y_nilCheck s rfl) fun a s => ?_
  refine l_seq rfl (l_store (n := 1) (cs' := [sl Aou45 r41 cou45]) s 1101 rfl rfl rfl rfl rfl rfl rfl rfl ?_); clear s; intro w hK s; clear hK
  apply wO
  refine p_inN ?_
  obtain ⟨hk46, hg⟩ := chk_some hg
  refine S s <| pw <| lw <| yw rfl (y_addN (i := 1) (j := 1) · rfl rfl (in64.2 (by omega))) <| mw rfl <| nw fun a s => ?_
  refine c_round ?_
  refine S s <| vw <| yw rfl (y_lss · rfl rfl) <| nw <| sw fun a s => c_f s rfl ?_
  apply wp_exit
  refine p_then ?_
  refine p_then ?_
  refine p_in ?_
  refine S s <| pw <| alw 118 124 rfl <| alw 120 128 rfl fun a s => ?_
  replace s := s.pk [(1000, 1000), (1100, 1100), (1101, 1101), (1500, 1500), (700117, 800111), (700119, 800113)] (by decide)
  exact ⟨(r30), (r41), (Aou34), (cou34), (csou34), (Aou45), (cou45), (csou45), hg, (s.sb rfl rfl rfl)⟩
 clear s a; rintro a w ⟨types_17, templates_21, A18, c19, cs20, A22, c23, cs24, hg, s⟩
 subst hk16
 apply wQ
 refine d_plan s [] [(0, some 1100), (1, some 1101), (2, some 0), (3, some 0)] rfl (by kernel_rfl) (by kernel_rfl) rfl ?_; clear s; intro wr hZ s; have hR := s.wd
 refine S s <| qw hR rfl (y_loadBox1 (kk := 1100) · rfl rfl rfl underlying25 rfl) <| qw hR rfl (y_loadBox1 (kk := 1101) · rfl rfl rfl underlying25 rfl) <| qw hR rfl (y_assign · rfl) <| qw hR rfl (y_assign · rfl) fun a s => ?_
 clear hR hZ
 apply pN
 apply wp_ret
 obtain rfl := Option.some.inj hg
 refine fin2 (fn := Tryz.f66) s rfl (r_tmp s rfl) (r_tmp s rfl) ?_
 exact ⟨(A18), (c19), (A22), (c23), rfl, (s.rowOut (R := Rep.str) (kk := 700117) rfl rfl (s.ft 118 rfl)), (s.rowOut (R := Rep.str) (kk := 700119) rfl rfl (s.ft 120 rfl))⟩
set_option maxHeartbeats 1000000 in
theorem c_module_uses (n : Nat) (M : Bs) (w0 : World) (hM : ∀ b, M b → b < w0.heap.size) (t_ : Module) (Ap02 : Option Addr) (cp02 : Nat) (Ap03 : Option Addr) (cp03 : Nat) (Ap04 : Option Addr) (cp04 : Nat) (Ap05 : Option Addr) (cp05 : Nat) (Ap06 : Option Addr) (cp06 : Nat) (Ap07 : Option Addr) (cp07 : Nat) (Ap08 : Option Addr) (cp08 : Nat) (Ap09 : Option Addr) (cp09 : Nat) (Ap010 : Option Addr) (cp010 : Nat) (lp01 : (t_.Name).length ≤ 9223372036854775807) (hp02 : sR Rep.str M w0 Ap02 cp02 t_.Imports) (hp03 : sR RTypeDecl M w0 Ap03 cp03 t_.Types) (hp04 : sR RDef M w0 Ap04 cp04 t_.Templates) (hp05 : sR REntryDecl M w0 Ap05 cp05 t_.Entries) (hp06 : sR RLexDecl M w0 Ap06 cp06 t_.LexRules) (hp07 : sR RDef M w0 Ap07 cp07 t_.Rules) (hp08 : sR RDef M w0 Ap08 cp08 t_.Roots) (hp09 : sR (Rep.list Rep.str) M w0 Ap09 cp09 t_.Checks) (hp010 : sR Rep.str M w0 Ap010 cp010 t_.Drops) (r : (List (List UInt8))) (hg : module_uses n t_ = some r) :
    Calls Tryz.prog 38 [.agg #[vT t_.Name, sl Ap02 t_.Imports cp02, sl Ap03 t_.Types cp03, sl Ap04 t_.Templates cp04, sl Ap05 t_.Entries cp05, sl Ap06 t_.LexRules cp06, sl Ap07 t_.Rules cp07, sl Ap08 t_.Roots cp08, sl Ap09 t_.Checks cp09, sl Ap010 t_.Drops cp010]].toArray w0 (Ret noB w0 fun v w => ∃ (Aa1 : Option Addr), ∃ (ca1 : Nat), v = sl Aa1 r ca1 ∧ (SlR Rep.str M w Aa1 (r).length ca1 (r))) := by
 unfold module_uses at hg
 refine enter M noB func38 rfl rfl hM ?_
 intro a s
 let F : Al Fact := [(101, sF Rep.str Ap02 cp02 t_.Imports), (102, sF RTypeDecl Ap03 cp03 t_.Types), (103, sF RDef Ap04 cp04 t_.Templates), (104, sF REntryDecl Ap05 cp05 t_.Entries), (105, sF RLexDecl Ap06 cp06 t_.LexRules), (106, sF RDef Ap07 cp07 t_.Rules), (107, sF RDef Ap08 cp08 t_.Roots), (108, sF (Rep.list Rep.str) Ap09 cp09 t_.Checks), (109, sF Rep.str Ap010 cp010 t_.Drops)]
 let B : List Value := [vT t_.Name, sl Ap02 t_.Imports cp02, sl Ap03 t_.Types cp03, sl Ap04 t_.Templates cp04, sl Ap05 t_.Entries cp05, sl Ap06 t_.LexRules cp06, sl Ap07 t_.Rules cp07, sl Ap08 t_.Roots cp08, sl Ap09 t_.Checks cp09, sl Ap010 t_.Drops cp010]
 refine S s <| esw 101 hp02 <| esw 102 hp03 <| esw 103 hp04 <| esw 104 hp05 <| esw 105 hp06 <| esw 106 hp07 <| esw 107 hp08 <| esw 108 hp09 <| esw 109 hp010 <| vw fun a s => ?_
 refine l_seq rfl (l_box (zs := B) s 1000 rfl rfl rfl rfl fun b2 a w hb hK s => ?_)
 refine S s <| aw rfl <| nw <| vw <| aw rfl <| nw <| sw <| vw <| yw rfl (y_boxField (o' := 2) · rfl underlying38 rfl rfl rfl) <| yw rfl (y_loadBox1 (kk := 1000) · rfl rfl rfl underlying32 rfl) <| yw rfl (y_lenSlice · rfl underlying32) <| mw rfl <| nw fun a s => ?_
 obtain ⟨k3, hg, hk3⟩ := jn_some hg
 refine c_post (fun a w => ∃ (t_4 : (List (List UInt8))) (A5 : Option Addr) (c6 : Nat) (cs7 : List Value), k3 t_4 = some r ∧ St (cx f38 M w0) [(1, vP b2 0), (3, sl A5 t_4 c6)] [(1000, Ob.box b2 B 38), (700110, Ob.row (A5) ((t_4).length) (c6) 9 1 (cs7))] (F ++ [(111, rdF Rep.str (cs7) (t_4))]) a w) ?_ ?_
 ·apply wp_block
  replace s := s.nilRow 700112 9 1 rfl
  replace s := s.add 113 (rdF Rep.str [] []) (RdAll.nil _ _ _)
  refine c_loop (σ := Nat) (fun m1 a w => ∃ (t_8 : (List (List UInt8))) (t_12 : Nat) (A9 : Option Addr) (c10 : Nat) (cs11 : List Value), module_uses_L0 n t_ k3 m1 t_8 t_12 = some r ∧ St (cx f38 M w0) [(1, vP b2 0), (3, sl A9 t_8 c10), (17, sl Ap03 t_.Types cp03), (18, vI ((((t_.Types).length : Nat) : Int))), (19, vI (((t_12 : Nat) : Int)))] [(1000, Ob.box b2 B 38), (700112, Ob.row (A9) ((t_8).length) (c10) 9 1 (cs11))] (F ++ [(113, rdF Rep.str (cs11) (t_8))]) a w) (fun m1 => m1) n ⟨([]), (0), (none), (0), ([]), hg, (s.sb rfl rfl rfl)⟩ ?_
  clear s a; rintro m1 a w ⟨t_8, t_12, A9, c10, cs11, hg, s⟩
  rcases m1 with _ | m1
  ·rw [module_uses_L0] at hg; cases hg
  rw [module_uses_L0] at hg
  refine S s <| vw <| yw rfl (y_lssN (i := t_12) (j := ((t_.Types).length)) · rfl rfl) <| nw <| sw fun a s => c_dec s rfl (fun hc13 => ?_) (fun hc13 => ?_)
  ·replace hg := br_t hg hc13
   have hmx14 := SlR.mx (s.ft 102 rfl)
   apply wp_skip
   apply pN
   apply wQ
   obtain ⟨k15, hg, hk15⟩ := jn_some hg
   refine c_post (fun a w => ∃ (t_16 : (List (List UInt8))) (A17 : Option Addr) (c18 : Nat) (cs19 : List Value), k15 t_16 = some r ∧ St (cx f38 M w0) [(1, vP b2 0), (3, sl A17 t_16 c18), (17, sl Ap03 t_.Types cp03), (18, vI ((((t_.Types).length : Nat) : Int))), (19, vI (((t_12 : Nat) : Int)))] [(1000, Ob.box b2 B 38), (700114, Ob.row (A17) ((t_16).length) (c18) 9 1 (cs19))] (F ++ [(115, rdF Rep.str (cs19) (t_16))]) a w) ?_ ?_
   ·obtain ⟨x21, hx21, hg⟩ := bind_some hg
    apply wp_block
    apply wQ
    apply wL
    obtain ⟨p24, hep24, hlq25, hmq25, csq25, hdq25, hcq25⟩ := SlR.elemX (s.ft 102 rfl) hx21
    refine qq s rfl (y_elem (sz := 3) (i := t_12) s rfl rfl underlying32 rfl hep24 rfl (lt_of_get hx21)) fun a s => ?_
    obtain ⟨Aq252, cq252, Aq253, cq253, rfl, lq251, hq252, hq253⟩ := RTypeDecl.open hdq25
    refine S s <| nsw 118 hq252 <| nsw 119 hq253 <| yw rfl (y_ldp · rfl hlq25 hmq25 (by simpa using hcq25) underlying49 rfl rfl) fun a s => ?_
    refine l_seq rfl (l_alloc (zs := [vT ([]), .slice none 0 0, .slice none 0 0]) s 1402 rfl rfl rfl rfl fun b26 a w hb hK s => ?_)
    refine l_seq rfl (l_store (n := 3) (cs' := [vT x21.Name, sl Aq252 x21.Supers cq252, sl Aq253 x21.Feats cq253]) s 1402 rfl rfl rfl rfl rfl rfl rfl rfl ?_); clear s; intro w hK s; clear hK
    obtain ⟨hk27, hg⟩ := chk_some hg
    refine S s <| nw <| sw <| lw <| mw rfl <| yw rfl (y_boxField (o' := 1) · rfl underlying49 rfl rfl rfl) <| yw rfl (y_loadBox1 (kk := 1402) · rfl rfl rfl underlying25 rfl) fun a s => ?_
    obtain ⟨ns31, hs31, hns31⟩ := SlR.src (s.ft 118 rfl)
    replace s := s.add 122 (rdF Rep.str ns31 (x21.Supers)) hns31
    refine l_seq rfl (l_append (sz := 1) (by_ := 16) (N := (t_8 ++ x21.Supers).length) s 700112 rfl rfl rfl underlying25 rfl rfl rfl rfl rfl hs31 (by rw [List.length_append]; try rfl) rfl (rmA hk27 rfl) (rmB hk27) rfl fun Aq30 cq30 a w hA hK s => ?_)
    replace s := s.add 123 (rdF Rep.str (cs11 ++ ns31) (t_8 ++ x21.Supers)) (RdAll.append (s.ft 113 rfl) (s.ft 122 rfl))
    refine S s <| aw rfl <| nw <| vw <| yw rfl (y_boxField (o' := 2) · rfl underlying49 rfl rfl rfl) <| yw rfl (y_loadBox1 (kk := 1402) · rfl rfl rfl underlying47 rfl) <| yw rfl (y_lenSlice · rfl underlying47) <| mw rfl <| nw <| bw <| alw 125 123 rfl fun a s => ?_
    replace s := s.pk [(1000, 1000), (1402, 1402), (700124, 700112)] (by decide)
    refine c_loop (σ := Nat) (fun m2 a w => ∃ (t_32 : (List (List UInt8))) (t_36 : Nat) (A33 : Option Addr) (c34 : Nat) (cs35 : List Value), module_uses_L1 n k15 x21 m2 t_32 t_36 = some r ∧ St (cx f38 M w0) [(1, vP b2 0), (3, sl A33 t_32 c34), (17, sl Ap03 t_.Types cp03), (18, vI ((((t_.Types).length : Nat) : Int))), (19, vI (((t_12 : Nat) : Int))), (28, sl Aq253 x21.Feats cq253), (29, vI ((((x21.Feats).length : Nat) : Int))), (30, vI (((t_36 : Nat) : Int)))] [(1000, Ob.box b2 B 38), (700124, Ob.row (A33) ((t_32).length) (c34) 9 1 (cs35))] (F ++ [(119, sF RFeatDecl Aq253 cq253 x21.Feats), (125, rdF Rep.str (cs35) (t_32))]) a w) (fun m2 => m2) n ⟨(t_8 ++ x21.Supers), (0), (Aq30), (cq30), (cs11 ++ ns31), hg, (s.sb rfl rfl rfl)⟩ ?_
    clear s a; rintro m2 a w ⟨t_32, t_36, A33, c34, cs35, hg, s⟩
    rcases m2 with _ | m2
    ·rw [module_uses_L1] at hg; cases hg
    rw [module_uses_L1] at hg
    refine S s <| vw <| yw rfl (y_lssN (i := t_36) (j := ((x21.Feats).length)) · rfl rfl) <| nw <| sw fun a s => c_dec s rfl (fun hc37 => ?_) (fun hc37 => ?_)
    ·replace hg := br_t hg hc37
     have hmx38 := SlR.mx (s.ft 119 rfl)
     obtain ⟨x40, hx40, hg⟩ := bind_some hg
     refine S s <| kw <| pw <| sw <| bw <| sw <| lw fun a s => ?_
     obtain ⟨p43, hep43, hlq44, hmq44, csq44, hdq44, hcq44⟩ := SlR.elemX (s.ft 119 rfl) hx40
     refine qq s rfl (y_elem (sz := 2) (i := t_36) s rfl rfl underlying47 rfl hep43 rfl (lt_of_get hx40)) fun a s => ?_
     obtain ⟨rfl, lq441, lq442⟩ := RFeatDecl.open hdq44
     refine qq s rfl (y_ldp s rfl hlq44 hmq44 (by simpa using hcq44) underlying82 rfl rfl) fun a s => ?_
     refine l_seq rfl (l_alloc (zs := [vT ([]), vT ([])]) s 1802 rfl rfl rfl rfl fun b45 a w hb hK s => ?_)
     refine l_seq rfl (l_store (n := 2) (cs' := [vT x40.Feat, vT x40.Value]) s 1802 rfl rfl rfl rfl rfl rfl rfl rfl ?_); clear s; intro w hK s; clear hK
     obtain ⟨hk47, hg⟩ := chk_some hg
     refine S s <| nw <| lw <| mw rfl <| yw rfl (y_boxField (o' := 1) · rfl underlying82 rfl rfl rfl) <| yw rfl (y_loadBox1 (kk := 1802) · rfl rfl rfl underlying9 rfl) fun a s => ?_
     refine l_seq rfl (l_buildDense (sz := 1) s 1903 rfl rfl rfl underlying25 rfl rfl rfl rfl rfl rfl rfl fun b50 a w hbb50 hK s => ?_)
     clear hbb50
     replace s := s.add 128 (rdF Rep.str (cellsOfL [vT x40.Value]) ([x40.Value])) (RdAll.cons (by exact ⟨rfl, (by omega)⟩) (RdAll.nil _ _ _))
     have hs52 := row_src (s.wd.holds 1903 _ rfl) (RdAll.one (s.ft 128 rfl))
     refine l_seq rfl (l_append (sz := 1) (by_ := 16) (N := (t_32 ++ [x40.Value]).length) s 700124 rfl rfl rfl underlying25 rfl rfl rfl rfl rfl hs52 (by rw [List.length_append]; try rfl) rfl (rmA hk47 rfl) (rmB hk47) rfl fun Aq51 cq51 a w hA hK s => ?_)
     replace s := s.add 129 (rdF Rep.str (cs35 ++ (cellsOfL [vT x40.Value])) (t_32 ++ [x40.Value])) (RdAll.append (s.ft 125 rfl) (s.ft 128 rfl))
     refine asg s rfl rfl fun a s => ?_
     apply wO
     refine p_inN ?_
     refine S s <| pw <| lw <| yw rfl (y_addN (i := t_36) (j := 1) · rfl rfl (in64.2 (by omega))) <| mw rfl <| nw <| alw 125 129 rfl fun a s => ?_
     exact ⟨m2, Nat.lt_succ_self _, ⟨(t_32 ++ [x40.Value]), (t_36 + 1), (Aq51), (cq51), (cs35 ++ (cellsOfL [vT x40.Value])), hg, (s.sb rfl rfl rfl)⟩⟩
    replace hg := br_f hg hc37
    apply wp_exit
    refine p_then ?_
    refine p_then ?_
    refine p_in ?_
    refine p_inN ?_
    apply pN
    replace s := s.al 115 125 rfl
    replace s := s.pk [(1000, 1000), (700114, 700124)] (by decide)
    exact ⟨(t_32), (A33), (c34), (cs35), hg, (s.sb rfl rfl rfl)⟩
   clear s a; rintro a w ⟨t_16, A17, c18, cs19, hg, s⟩
   subst hk15
   refine S s <| lw <| yw rfl (y_addN (i := t_12) (j := 1) · rfl rfl (in64.2 (by omega))) <| mw rfl <| nw <| alw 113 115 rfl fun a s => ?_
   replace s := s.pk [(1000, 1000), (700112, 700114)] (by decide)
   exact ⟨m1, Nat.lt_succ_self _, ⟨(t_16), (t_12 + 1), (A17), (c18), (cs19), hg, (s.sb rfl rfl rfl)⟩⟩
  replace hg := br_f hg hc13
  apply wp_exit
  refine p_then ?_
  refine p_then ?_
  refine p_in ?_
  apply pN
  replace s := s.al 111 113 rfl
  replace s := s.pk [(1000, 1000), (700110, 700112)] (by decide)
  exact ⟨(t_8), (A9), (c10), (cs11), hg, (s.sb rfl rfl rfl)⟩
 clear s a; rintro a w ⟨t_4, A5, c6, cs7, hg, s⟩
 subst hk3
 obtain ⟨r53, hr53, hg⟩ := bind_some hg
 refine S s <| sw <| sw <| lw <| yw rfl (y_loadAll (kk := 1000) · rfl rfl underlying38 rfl rfl) fun a s => ?_
 refine lC s rfl func65 (c_module_definitions n _ _ s.lt _ _ _ _ _ _ _ _ _ _ _ _ _ _ _ _ _ _ _ (by omega) (s.ft 101 rfl) (s.ft 102 rfl) (s.ft 103 rfl) (s.ft 104 rfl) (s.ft 105 rfl) (s.ft 106 rfl) (s.ft 107 rfl) (s.ft 108 rfl) (s.ft 109 rfl) _ hr53) fun v56 a w hK hp s => ?_
 obtain ⟨Au57a1, cu57a1, rfl, hu57a1⟩ := hp
 refine S s <| nsw 131 hu57a1 <| yw rfl (y_lenSlice · rfl underlying33) <| mw rfl <| nw <| bw <| alw 133 111 rfl fun a s => ?_
 replace s := s.pk [(1000, 1000), (700132, 700110)] (by decide)
 refine c_loop (σ := Nat) (fun m3 a w => ∃ (t_58 : (List (List UInt8))) (t_62 : Nat) (A59 : Option Addr) (c60 : Nat) (cs61 : List Value), module_uses_L2 n r53 m3 t_58 t_62 = some r ∧ St (cx f38 M w0) [(3, sl A59 t_58 c60), (42, sl Au57a1 r53 cu57a1), (43, vI ((((r53).length : Nat) : Int))), (44, vI (((t_62 : Nat) : Int)))] [(700132, Ob.row (A59) ((t_58).length) (c60) 9 1 (cs61))] [(131, sF RDef Au57a1 cu57a1 r53), (133, rdF Rep.str (cs61) (t_58))] a w) (fun m3 => m3) n ⟨(t_4), (0), (A5), (c6), (cs7), hg, (s.sb rfl rfl rfl)⟩ ?_
 clear s a; rintro m3 a w ⟨t_58, t_62, A59, c60, cs61, hg, s⟩
 rcases m3 with _ | m3
 ·rw [module_uses_L2] at hg; cases hg
 rw [module_uses_L2] at hg
 refine S s <| vw <| yw rfl (y_lssN (i := t_62) (j := ((r53).length)) · rfl rfl) <| nw <| sw fun a s => c_dec s rfl (fun hc63 => ?_) (fun hc63 => ?_)
 ·replace hg := br_t hg hc63
  have hmx64 := SlR.mx (s.ft 131 rfl)
  apply wp_skip
  apply pN
  apply wQ
  obtain ⟨k65, hg, hk65⟩ := jn_some hg
  refine c_post (fun a w => ∃ (t_66 : (List (List UInt8))) (A67 : Option Addr) (c68 : Nat) (cs69 : List Value), k65 t_66 = some r ∧ St (cx f38 M w0) [(3, sl A67 t_66 c68), (42, sl Au57a1 r53 cu57a1), (43, vI ((((r53).length : Nat) : Int))), (44, vI (((t_62 : Nat) : Int)))] [(700134, Ob.row (A67) ((t_66).length) (c68) 9 1 (cs69))] [(131, sF RDef Au57a1 cu57a1 r53), (135, rdF Rep.str (cs69) (t_66))] a w) ?_ ?_
  ·obtain ⟨x71, hx71, hg⟩ := bind_some hg
   apply wp_block
   apply wQ
   apply wL
   obtain ⟨p74, hep74, hlq75, hmq75, csq75, hdq75, hcq75⟩ := SlR.elemX (s.ft 131 rfl) hx71
   refine qq s rfl (y_elem (sz := 6) (i := t_62) s rfl rfl underlying33 rfl hep74 rfl (lt_of_get hx71)) fun a s => ?_
   obtain ⟨Aq754, cq754, Aq755, cq755, Aq756, cq756, rfl, lq751, lq753, hq754, hq755, hq756⟩ := RDef.open hdq75
   refine S s <| nsw 139 hq754 <| nsw 140 hq755 <| nsw 141 hq756 <| yw rfl (y_ldp · rfl hlq75 hmq75 (by simpa using hcq75) underlying62 rfl rfl) fun a s => ?_
   refine l_seq rfl (l_alloc (zs := [vT ([]), vI 0, vT ([]), .slice none 0 0, .slice none 0 0, .slice none 0 0]) s 2402 rfl rfl rfl rfl fun b76 a w hb hK s => ?_)
   refine l_seq rfl (l_store (n := 6) (cs' := [vT x71.Name, vI x71.Strict.Op, vT x71.Strict.Name, sl Aq754 x71.Strict.Path cq754, sl Aq755 x71.Strict.Kids cq755, sl Aq756 x71.Defaults cq756]) s 2402 rfl rfl rfl rfl rfl rfl rfl rfl ?_); clear s; intro w hK s; clear hK
   obtain ⟨hk78, hg⟩ := chk_some hg
   refine S s <| nw <| sw <| lw <| yw rfl (y_boxField (o' := 1) · rfl underlying62 rfl rfl rfl) <| yw rfl (y_loadBox (kk := 2402) (n := 4) (vs := [vI x71.Strict.Op, vT x71.Strict.Name, sl Aq754 x71.Strict.Path cq754, sl Aq755 x71.Strict.Kids cq755]) · rfl rfl underlying60 rfl rfl rfl rfl) fun a s => ?_
   refine l_seq rfl (l_buildDense (sz := 4) s 2502 rfl rfl rfl underlying58 rfl rfl rfl rfl rfl rfl rfl fun b81 a w hbb81 hK s => ?_)
   clear hbb81
   refine S s <| yw rfl (y_boxField (o' := 5) · rfl underlying62 rfl rfl rfl) <| yw rfl (y_loadBox1 (kk := 2402) · rfl rfl rfl underlying58 rfl) fun a s => ?_
   replace s := s.add 145 (rdF RDesc (cellsOfL [.agg #[vI x71.Strict.Op, vT x71.Strict.Name, sl Aq754 x71.Strict.Path cq754, sl Aq755 x71.Strict.Kids cq755]]) ([x71.Strict])) (RdAll.cons (by exact (RDesc.mk' (x := x71.Strict) (by omega) (s.ft 139 rfl) (s.ft 140 rfl))) (RdAll.nil _ _ _))
   obtain ⟨ns83, hs83, hns83⟩ := SlR.src (s.ft 141 rfl)
   replace s := s.add 146 (rdF RDesc ns83 (x71.Defaults)) hns83
   refine l_seq rfl (l_append (sz := 4) (by_ := 72) (N := ([x71.Strict] ++ x71.Defaults).length) s 2502 rfl rfl rfl underlying58 rfl rfl rfl rfl rfl hs83 (by rw [List.length_append]; try rfl) rfl (rmA hk78 rfl) (rmB hk78) rfl fun Aq82 cq82 a w hA hK s => ?_)
   replace s := s.add 147 (rdF RDesc ((cellsOfL [.agg #[vI x71.Strict.Op, vT x71.Strict.Name, sl Aq754 x71.Strict.Path cq754, sl Aq755 x71.Strict.Kids cq755]]) ++ ns83) ([x71.Strict] ++ x71.Defaults)) (RdAll.append (s.ft 145 rfl) (s.ft 146 rfl))
   refine S s <| yw rfl (y_lenSlice · rfl underlying58) <| mw rfl <| nw <| bw <| alw 149 133 rfl fun a s => ?_
   replace s := s.pk [(2402, 2402), (2502, 2502), (700148, 700132)] (by decide)
   refine c_loop (σ := Nat) (fun m4 a w => ∃ (t_84 : (List (List UInt8))) (t_88 : Nat) (A85 : Option Addr) (c86 : Nat) (cs87 : List Value), module_uses_L3 n k65 x71 m4 t_84 t_88 = some r ∧ St (cx f38 M w0) [(3, sl A85 t_84 c86), (42, sl Au57a1 r53 cu57a1), (43, vI ((((r53).length : Nat) : Int))), (44, vI (((t_62 : Nat) : Int))), (53, sl Aq82 ([x71.Strict] ++ x71.Defaults) cq82), (54, vI (((([x71.Strict] ++ x71.Defaults).length : Nat) : Int))), (55, vI (((t_88 : Nat) : Int)))] [(2502, Ob.row (Aq82) (([x71.Strict] ++ x71.Defaults).length) (cq82) 60 4 ((cellsOfL [.agg #[vI x71.Strict.Op, vT x71.Strict.Name, sl Aq754 x71.Strict.Path cq754, sl Aq755 x71.Strict.Kids cq755]]) ++ ns83)), (700148, Ob.row (A85) ((t_84).length) (c86) 9 1 (cs87))] [(131, sF RDef Au57a1 cu57a1 r53), (147, rdF RDesc ((cellsOfL [.agg #[vI x71.Strict.Op, vT x71.Strict.Name, sl Aq754 x71.Strict.Path cq754, sl Aq755 x71.Strict.Kids cq755]]) ++ ns83) ([x71.Strict] ++ x71.Defaults)), (149, rdF Rep.str (cs87) (t_84))] a w) (fun m4 => m4) n ⟨(t_58), (0), (A59), (c60), (cs61), hg, (s.sb rfl rfl rfl)⟩ ?_
   clear s a; rintro m4 a w ⟨t_84, t_88, A85, c86, cs87, hg, s⟩
   rcases m4 with _ | m4
   ·rw [module_uses_L3] at hg; cases hg
   rw [module_uses_L3] at hg
   refine S s <| vw <| yw rfl (y_lssN (i := t_88) (j := (([x71.Strict] ++ x71.Defaults).length)) · rfl rfl) <| nw <| sw fun a s => c_dec s rfl (fun hc89 => ?_) (fun hc89 => ?_)
   ·replace hg := br_t hg hc89
    have hmx90 := row_mx (s.wd.holds 2502 _ rfl)
    apply wp_skip
    apply pN
    apply wQ
    obtain ⟨k91, hg, hk91⟩ := jn_some hg
    refine c_post (fun a w => ∃ (t_92 : (List (List UInt8))) (A93 : Option Addr) (c94 : Nat) (cs95 : List Value), k91 t_92 = some r ∧ St (cx f38 M w0) [(3, sl A93 t_92 c94), (42, sl Au57a1 r53 cu57a1), (43, vI ((((r53).length : Nat) : Int))), (44, vI (((t_62 : Nat) : Int))), (53, sl Aq82 ([x71.Strict] ++ x71.Defaults) cq82), (54, vI (((([x71.Strict] ++ x71.Defaults).length : Nat) : Int))), (55, vI (((t_88 : Nat) : Int)))] [(2502, Ob.row (Aq82) (([x71.Strict] ++ x71.Defaults).length) (cq82) 60 4 ((cellsOfL [.agg #[vI x71.Strict.Op, vT x71.Strict.Name, sl Aq754 x71.Strict.Path cq754, sl Aq755 x71.Strict.Kids cq755]]) ++ ns83)), (700150, Ob.row (A93) ((t_92).length) (c94) 9 1 (cs95))] [(131, sF RDef Au57a1 cu57a1 r53), (147, rdF RDesc ((cellsOfL [.agg #[vI x71.Strict.Op, vT x71.Strict.Name, sl Aq754 x71.Strict.Path cq754, sl Aq755 x71.Strict.Kids cq755]]) ++ ns83) ([x71.Strict] ++ x71.Defaults)), (151, rdF Rep.str (cs95) (t_92))] a w) ?_ ?_
    ·obtain ⟨x97, hx97, hg⟩ := bind_some hg
     apply wp_block
     apply wQ
     apply wL
     obtain ⟨hiq100, bq100, hAq100⟩ := SlR.row1 (s.wd.holds 2502 _ rfl) (s.ft 147 rfl) rfl rfl hx97
     refine qq s rfl (y_rowIndex (sz := 4) (i := t_88) s rfl rfl underlying58 rfl hAq100 rfl hiq100) fun a s => ?_
     have hz101 := (s.ft 147 rfl).at_ _ _ hx97
     obtain ⟨Az1013, cz1013, Az1014, cz1014, ez101, lz1012, hz1013, hz1014⟩ := RDesc.open hz101
     refine S s <| nsw 154 hz1013 <| nsw 155 hz1014 <| yw rfl (y_loadRow (kk := 2502) (vs := [vI x97.Op, vT x97.Name, sl Az1013 x97.Path cz1013, sl Az1014 x97.Kids cz1014]) · rfl rfl hAq100 ez101 underlying60 rfl rfl) fun a s => ?_
     refine l_seq rfl (l_alloc (zs := [vI 0, vT ([]), .slice none 0 0, .slice none 0 0]) s 2702 rfl rfl rfl rfl fun b102 a w hb hK s => ?_)
     refine l_seq rfl (l_store (n := 4) (cs' := [vI x97.Op, vT x97.Name, sl Az1013 x97.Path cz1013, sl Az1014 x97.Kids cz1014]) s 2702 rfl rfl rfl rfl rfl rfl rfl rfl ?_); clear s; intro w hK s; clear hK
     obtain ⟨r103, hr103, hg⟩ := bind_some hg
     refine S s <| nw <| sw <| lw <| yw rfl (y_loadAll (kk := 2702) · rfl rfl underlying60 rfl rfl) fun a s => ?_
     refine lC s rfl func66 (c_desc_Names n _ _ s.lt _ _ _ _ _ (by omega) (s.ft 154 rfl) (s.ft 155 rfl) _ hr103) fun v106 a w hK hp s => ?_
     obtain ⟨Au107a1, cu107a1, Au107b1, cu107b1, rfl, hu107a1, hu107b1⟩ := hp
     obtain ⟨hk108, hg⟩ := chk_some hg
     refine S s <| nsw 158 hu107a1 <| nsw 159 hu107b1 <| mw rfl <| yw rfl (y_extract · rfl rfl) <| yw rfl (y_extract · rfl rfl) <| aw rfl <| aw rfl <| nw <| sw <| lw <| mw rfl <| mw rfl fun a s => ?_
     obtain ⟨ns112, hs112, hns112⟩ := SlR.src (s.ft 158 rfl)
     replace s := s.add 162 (rdF Rep.str ns112 (r103.1)) hns112
     refine l_seq rfl (l_append (sz := 1) (by_ := 16) (N := (t_84 ++ r103.1).length) s 700148 rfl rfl rfl underlying25 rfl rfl rfl rfl rfl hs112 (by rw [List.length_append]; try rfl) rfl (rmA hk108 rfl) (rmB hk108) rfl fun Aq111 cq111 a w hA hK s => ?_)
     replace s := s.add 163 (rdF Rep.str (cs87 ++ ns112) (t_84 ++ r103.1)) (RdAll.append (s.ft 149 rfl) (s.ft 162 rfl))
     refine S s <| aw rfl <| nw <| vw <| mw rfl <| yw rfl (y_lenSlice · rfl underlying25) <| mw rfl <| nw <| bw <| alw 165 163 rfl fun a s => ?_
     replace s := s.pk [(2502, 2502), (2702, 2702), (700164, 700148)] (by decide)
     refine c_loop (σ := Nat) (fun m5 a w => ∃ (t_113 : (List (List UInt8))) (t_117 : Nat) (A114 : Option Addr) (c115 : Nat) (cs116 : List Value), module_uses_L4 n k91 r103 m5 t_113 t_117 = some r ∧ St (cx f38 M w0) [(3, sl A114 t_113 c115), (42, sl Au57a1 r53 cu57a1), (43, vI ((((r53).length : Nat) : Int))), (44, vI (((t_62 : Nat) : Int))), (53, sl Aq82 ([x71.Strict] ++ x71.Defaults) cq82), (54, vI (((([x71.Strict] ++ x71.Defaults).length : Nat) : Int))), (55, vI (((t_88 : Nat) : Int))), (67, sl Au107b1 r103.2 cu107b1), (68, vI ((((r103.2).length : Nat) : Int))), (69, vI (((t_117 : Nat) : Int)))] [(2502, Ob.row (Aq82) (([x71.Strict] ++ x71.Defaults).length) (cq82) 60 4 ((cellsOfL [.agg #[vI x71.Strict.Op, vT x71.Strict.Name, sl Aq754 x71.Strict.Path cq754, sl Aq755 x71.Strict.Kids cq755]]) ++ ns83)), (700164, Ob.row (A114) ((t_113).length) (c115) 9 1 (cs116))] [(131, sF RDef Au57a1 cu57a1 r53), (147, rdF RDesc ((cellsOfL [.agg #[vI x71.Strict.Op, vT x71.Strict.Name, sl Aq754 x71.Strict.Path cq754, sl Aq755 x71.Strict.Kids cq755]]) ++ ns83) ([x71.Strict] ++ x71.Defaults)), (159, sF Rep.str Au107b1 cu107b1 r103.2), (165, rdF Rep.str (cs116) (t_113))] a w) (fun m5 => m5) n ⟨(t_84 ++ r103.1), (0), (Aq111), (cq111), (cs87 ++ ns112), hg, (s.sb rfl rfl rfl)⟩ ?_
     clear s a; rintro m5 a w ⟨t_113, t_117, A114, c115, cs116, hg, s⟩
     rcases m5 with _ | m5
     ·rw [module_uses_L4] at hg; cases hg
     rw [module_uses_L4] at hg
     refine S s <| vw <| yw rfl (y_lssN (i := t_117) (j := ((r103.2).length)) · rfl rfl) <| nw <| sw fun a s => c_dec s rfl (fun hc118 => ?_) (fun hc118 => ?_)
     ·replace hg := br_t hg hc118
      have hmx119 := SlR.mx (s.ft 159 rfl)
      obtain ⟨x121, hx121, hg⟩ := bind_some hg
      refine S s <| kw <| pw <| sw <| bw <| sw <| lw fun a s => ?_
      obtain ⟨p123, hep123, hlq124, hmq124, csq124, hdq124, hcq124⟩ := SlR.elemX (s.ft 159 rfl) hx121
      refine qq s rfl (y_elem (sz := 1) (i := t_117) s rfl rfl underlying25 rfl hep123 rfl (lt_of_get hx121)) fun a s => ?_
      obtain ⟨rfl, lq1241⟩ := hdq124
      obtain ⟨hk125, hg⟩ := chk_some hg
      obtain ⟨hk127, hg⟩ := chk_some hg
      refine S s <| yw rfl (y_ldp1 · rfl hlq124 hmq124 (hcq124 0 _ rfl) underlying9 rfl) <| aw rfl <| nw <| lw <| mw rfl <| mw rfl <| yw rfl (y_concat · rfl rfl hk125) fun a s => ?_
      refine l_seq rfl (l_buildDense (sz := 1) s 3303 rfl rfl rfl underlying25 rfl rfl rfl rfl rfl rfl rfl fun b130 a w hbb130 hK s => ?_)
      clear hbb130
      replace s := s.add 168 (rdF Rep.str (cellsOfL [vT ([64] ++ x121)]) ([[64] ++ x121])) (RdAll.cons (by exact ⟨rfl, (by rw [List.length_append]; omega)⟩) (RdAll.nil _ _ _))
      have hs132 := row_src (s.wd.holds 3303 _ rfl) (RdAll.one (s.ft 168 rfl))
      refine l_seq rfl (l_append (sz := 1) (by_ := 16) (N := (t_113 ++ [[64] ++ x121]).length) s 700164 rfl rfl rfl underlying25 rfl rfl rfl rfl rfl hs132 (by simp only [List.length_append]; try rfl) rfl (rmA hk127 rfl) (rmB hk127) rfl fun Aq131 cq131 a w hA hK s => ?_)
      replace s := s.add 169 (rdF Rep.str (cs116 ++ (cellsOfL [vT ([64] ++ x121)])) (t_113 ++ [[64] ++ x121])) (RdAll.append (s.ft 165 rfl) (s.ft 168 rfl))
      refine asg s rfl rfl fun a s => ?_
      apply wO
      refine p_inN ?_
      refine S s <| pw <| lw <| yw rfl (y_addN (i := t_117) (j := 1) · rfl rfl (in64.2 (by omega))) <| mw rfl <| nw <| alw 165 169 rfl fun a s => ?_
      exact ⟨m5, Nat.lt_succ_self _, ⟨(t_113 ++ [[64] ++ x121]), (t_117 + 1), (Aq131), (cq131), (cs116 ++ (cellsOfL [vT ([64] ++ x121)])), hg, (s.sb rfl rfl rfl)⟩⟩
     replace hg := br_f hg hc118
     apply wp_exit
     refine p_then ?_
     refine p_then ?_
     refine p_in ?_
     refine p_inN ?_
     apply pN
     replace s := s.al 151 165 rfl
     replace s := s.pk [(2502, 2502), (700150, 700164)] (by decide)
     exact ⟨(t_113), (A114), (c115), (cs116), hg, (s.sb rfl rfl rfl)⟩
    clear s a; rintro a w ⟨t_92, A93, c94, cs95, hg, s⟩
    subst hk91
    refine S s <| lw <| yw rfl (y_addN (i := t_88) (j := 1) · rfl rfl (in64.2 (by omega))) <| mw rfl <| nw <| alw 149 151 rfl fun a s => ?_
    replace s := s.pk [(2502, 2502), (700148, 700150)] (by decide)
    exact ⟨m4, Nat.lt_succ_self _, ⟨(t_92), (t_88 + 1), (A93), (c94), (cs95), hg, (s.sb rfl rfl rfl)⟩⟩
   replace hg := br_f hg hc89
   apply wp_exit
   refine p_then ?_
   refine p_then ?_
   refine p_in ?_
   refine p_inN ?_
   apply pN
   replace s := s.al 135 149 rfl
   replace s := s.pk [(2502, 2502), (700134, 700148)] (by decide)
   exact ⟨(t_84), (A85), (c86), (cs87), hg, (s.sb rfl rfl rfl)⟩
  clear s a; rintro a w ⟨t_66, A67, c68, cs69, hg, s⟩
  subst hk65
  refine S s <| lw <| yw rfl (y_addN (i := t_62) (j := 1) · rfl rfl (in64.2 (by omega))) <| mw rfl <| nw <| alw 133 135 rfl fun a s => ?_
  replace s := s.pk [(700132, 700134)] (by decide)
  exact ⟨m3, Nat.lt_succ_self _, ⟨(t_66), (t_62 + 1), (A67), (c68), (cs69), hg, (s.sb rfl rfl rfl)⟩⟩
 replace hg := br_f hg hc63
 apply wp_exit
 refine p_then ?_
 refine p_then ?_
 refine p_in ?_
 refine S s <| pw <| vw <| mw rfl <| aw rfl <| nw fun a s => ?_
 apply wp_ret
 obtain rfl := Option.some.inj hg
 refine fin1 (fn := Tryz.f38) s rfl (r_tmp s rfl) ?_
 exact ⟨(A59), (c60), rfl, (s.rowOut (R := Rep.str) (kk := 700132) rfl rfl (s.ft 133 rfl))⟩
set_option maxHeartbeats 1000000 in
theorem c_module_Link_1 (n : Nat) (M : Bs) (w0 : World) (hM : ∀ b, M b → b < w0.heap.size) (x_ : (List UInt8)) (lp01 : (x_).length ≤ 9223372036854775807) (bf0 : Nat) (c0_ : (List (List UInt8))) (Af01 : Option Addr) (cf01 : Nat) (hf01 : sR Rep.str M w0 Af01 cf01 c0_) (hb0 : BoxR bf0 [.slice (Af01) ((c0_).length) (cf01)] 25 M w0) (r : Bool) (hg : module_Link_1 n x_ c0_ = some r) :
    Calls Tryz.prog 39 [vT x_, .pointer (some ⟨bf0, 0, none⟩)].toArray w0 (Ret noB w0 fun v w => v = .bool (r)) := by
 unfold module_Link_1 at hg
 refine enter M noB func39 rfl rfl hM ?_
 intro a s
 replace s := s.es 101 hf01
 replace s := s.ebx 102 hb0
 obtain ⟨r1, hr1, hg⟩ := bind_some hg
 refine S s <| vw <| aw rfl <| nw <| sw <| lw <| yw rfl (fun s => y_loadF1 s rfl (s.ft 102 rfl) rfl underlying25 rfl) <| mw rfl fun a s => ?_
 refine lV s rfl func40 (c_slices_Contains_string n _ _ s.lt _ _ _ (s.ft 101 rfl) _ (by omega) _ hr1) fun a w hK s => ?_
 refine S s <| yw rfl (y_not · rfl) <| aw rfl <| nw fun a s => ?_
 apply wp_ret
 obtain rfl := Option.some.inj hg
 exact fin1 (fn := Tryz.f39) s rfl (r_tmp s rfl) rfl
set_option maxHeartbeats 1000000 in
theorem c_law22_has (n : Nat) (M : Bs) (w0 : World) (hM : ∀ b, M b → b < w0.heap.size) (l_ : (List (List UInt8))) (Ap01 : Option Addr) (cp01 : Nat) (hp01 : sR Rep.str M w0 Ap01 cp01 l_) (s_ : (List UInt8)) (lp11 : (s_).length ≤ 9223372036854775807) (r : Bool) (hg : law22_has n l_ s_ = some r) :
    Calls Tryz.prog 20 [sl Ap01 l_ cp01, vT s_].toArray w0 (Ret noB w0 fun v w => v = .bool (r)) := by
 unfold law22_has at hg
 refine enter M noB func20 rfl rfl hM ?_
 intro a s
 refine S s <| esw 101 hp01 <| vw <| aw rfl <| nw <| sw <| vw <| aw rfl <| nw <| bw fun a s => ?_
 refine c_loop (σ := Nat) (fun m1 a w => ∃ (i_1 : Nat), law22_has_L0 n l_ s_ m1 i_1 = some r ∧ St (cx f20 M w0) [(0, sl Ap01 l_ cp01), (1, vT s_), (5, vI (((i_1 : Nat) : Int)))] [] [(101, sF Rep.str Ap01 cp01 l_)] a w) (fun m1 => m1) n ⟨(0), hg, (s.sb rfl rfl rfl)⟩ ?_
 clear s a; rintro m1 a w ⟨i_1, hg, s⟩
 rcases m1 with _ | m1
 ·rw [law22_has_L0] at hg; cases hg
 rw [law22_has_L0] at hg
 refine S s <| sw <| vw <| mw rfl <| mw rfl <| yw rfl (y_lenSlice · rfl underlying25) <| yw rfl (y_lssN (i := i_1) (j := ((l_).length)) · rfl rfl) <| nw fun a s => c_dec s rfl (fun hc2 => ?_) (fun hc2 => ?_)
 ·replace hg := br_t hg hc2
  have hmx3 := SlR.mx (s.ft 101 rfl)
  obtain ⟨x5, hx5, hg⟩ := bind_some hg
  refine S s <| kw <| pw <| sw <| bw <| sw <| lw <| mw rfl <| mw rfl fun a s => ?_
  obtain ⟨p7, hep7, hlq8, hmq8, csq8, hdq8, hcq8⟩ := SlR.elemX (s.ft 101 rfl) hx5
  refine qq s rfl (y_elem (sz := 1) (i := i_1) s rfl rfl underlying25 rfl hep7 rfl (lt_of_get hx5)) fun a s => ?_
  obtain ⟨rfl, lq81⟩ := hdq8
  refine S s <| yw rfl (y_ldp1 · rfl hlq8 hmq8 (hcq8 0 _ rfl) underlying9 rfl) <| mw rfl <| yw rfl (y_seq · rfl rfl) <| nw fun a s => c_dec s rfl (fun hc9 => ?_) (fun hc9 => ?_)
  ·replace hg := br_t hg hc9
   refine S s <| vw <| aw rfl <| nw fun a s => ?_
   apply wp_ret
   refine p_inR ?_
   refine p_thenR ?_
   refine p_thenR ?_
   refine p_inR ?_
   refine p_thenR ?_
   obtain rfl := Option.some.inj hg
   exact fin1 (fn := Tryz.f20) s rfl (r_tmp s rfl) rfl
  replace hg := br_f hg hc9
  apply wp_skip
  refine p_inN ?_
  refine S s <| pw <| lw <| mw rfl <| yw rfl (y_addN (i := i_1) (j := 1) · rfl rfl (in64.2 (by omega))) <| aw rfl <| nw fun a s => ?_
  exact ⟨m1, Nat.lt_succ_self _, ⟨(i_1 + 1), hg, (s.sb rfl rfl rfl)⟩⟩
 replace hg := br_f hg hc2
 apply wp_exit
 refine p_then ?_
 refine p_then ?_
 refine p_in ?_
 refine S s <| pw <| vw <| aw rfl <| nw fun a s => ?_
 apply wp_ret
 obtain rfl := Option.some.inj hg
 exact fin1 (fn := Tryz.f20) s rfl (r_tmp s rfl) rfl
end Go.Proofs.YtbhjplflnkidgaaGreat


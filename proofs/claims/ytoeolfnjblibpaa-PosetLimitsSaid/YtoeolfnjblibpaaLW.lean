/- Chapter 03: the walk of PosetLimits, by hand. -/
import Derived.Test.YtoeolfnjblibpaaLX
import Derived.Test.YtoeolfnjblibpaaL6
namespace Go.Proofs.Ytoeolfnjblibpaa
open Go.Gl Go.RowKit Try
set_option linter.unusedVariables false
set_option linter.unusedSimpArgs false
set_option maxRecDepth 4000
set_option maxHeartbeats 1000000
theorem c_law03_PosetLimits (n : Nat) (M : Bs) (w0 : World) (hM : ∀ b, M b → b < w0.heap.size) (x_ : UInt8) (T T' T2 : List TypeDecl) (b : TypeDecl) (hT : T = b :: T2) (hbn : b.Name.length ≤ 100) (hbs : b.Supers = [[116]]) (hbf : b.Feats = [])
    (h256 : law03_many n 256 = some (tI :: T)) (hlen : (tI :: T).length = 256) (h257 : law03_many n 257 = some T')
    (e0 : poset_Check n (tI :: T) = some 0) (e1 : poset_Check n T' = some 7)
    (e2 : poset_Check n (TypeDecl.mk [116] [] (fds 257) :: T) = some 7) (e3 : poset_Check n [TypeDecl.mk [116] [] (fds 256)] = some 0)
    (e4 : poset_Check n (tI :: TypeDecl.mk b.Name (reps 257) b.Feats :: T2) = some 7) (e5 : poset_Check n [tI, TypeDecl.mk [97] (reps 256) []] = some 4)
    (ex : law03_exampleHolds n = some true) :
    Calls Try.prog 10 [.int .u8 ((x_.toNat : Nat) : Int)].toArray w0 (Ret noB w0 fun v w => v = .bool true) := by
 refine enter M noB func10 rfl rfl hM ?_
 intro a s
 apply wR
 refine asg s rfl rfl fun a s => ?_
 apply wN
 apply wQ
 apply wL
 refine l_seq rfl (l_callOwn (cap := []) (post := (fun v ob w' => ∃ Ao co cso, ob = Ob.row Ao (tI :: T).length co 40 3 cso ∧ v = sl Ao (tI :: T) co ∧ RdAll RTN (fun b => mtb _ _ b ∨ ob.ids b) w' cso (tI :: T))) s 1 rfl rfl func29 rfl (by kernel_rfl) rfl rfl ((c_manyN n _ _ s.lt 256 _ h256).mono (fun e w' h => by obtain ⟨v, he, hk, Ao, co, cso, hv, ho1, ho2, ho3⟩ := h; exact ⟨v, he, hk, _, ho1, ho2, ⟨Ao, co, cso, rfl, hv, ho3⟩⟩)) fun v5 ob a w hK hp s => ?_)
 obtain ⟨A, c, cs, rfl, rfl, ho⟩ := hp
 replace s := s.add 2 (rdF RTN cs (tI :: T)) (RdAll.up2 s ho)
 refine asg s rfl rfl fun a s => ?_
 apply wN
 apply wQ
 apply wR
 refine mv s rfl rfl fun a s => ?_
 refine qq s rfl (y_remN (i := x_.toNat) (j := 3) s rfl rfl (by decide)) fun a s => ?_
 apply wN
 apply wp_block
 apply wR
 refine qq s rfl (y_eqlN (i := x_.toNat % 3) (j := 0) s rfl rfl) fun a s => ?_
 refine asg s rfl rfl fun a s => ?_
 apply wN
 refine c_dec s rfl (fun c0 => ?_) (fun c0 => ?_)
 ·have d0 := decide_eq_true c0
  apply wQ
  apply wL
  refine mv s rfl rfl fun a s => ?_
  have hT := s
  replace hT := hT.fz (R := RTypeDecl) (kk := 1) [] 10 rfl rfl (weakAll (hT.ft 2 rfl)) rfl
  refine lc s rfl func13 (by kernel_rfl) (c_poset_Check n _ _ hT.lt (tI :: T) A c (hT.ft 10 rfl) _ e0) fun v7 a w hK hp s => ?_
  obtain rfl := hp
  refine qq s rfl (yl_b (y_eql s rfl rfl) (decide_eq_true rfl)) fun a s => ?_
  refine mv s rfl rfl fun a s => ?_
  refine gl s rfl (l_call (cap := []) s rfl func29 rfl (by kernel_rfl) rfl rfl (c_law03_many n _ _ s.lt 257 _ h257) fun v8 a w hK hp s => ?_)
  obtain ⟨A2, c2, rfl, h2⟩ := hp
  replace s := s.ns 11 h2
  refine gl s rfl (l_call (cap := []) s rfl func13 rfl (by kernel_rfl) rfl rfl (c_poset_Check n _ _ s.lt _ _ _ (s.ft 11 rfl) _ e1) fun v9 a w hK hp s => ?_)
  obtain rfl := hp
  refine gy s rfl (yl_b (y_eql s rfl rfl) (decide_eq_true rfl)) fun a s => ?_
  refine qq s rfl (y_pick_t s rfl rfl) fun a s => ?_
  refine mv s rfl rfl fun a s => ?_
  refine gl s rfl (l_call (cap := []) s rfl func12 rfl (by kernel_rfl) rfl rfl (c_law03_exampleHolds n _ _ s.lt _ ex) fun v10 a w hK hp s => ?_)
  obtain rfl := hp
  refine qq s rfl (y_pick_t s rfl rfl) fun a s => ?_
  refine asg s rfl rfl fun a s => ?_
  apply wN
  apply wp_ret
  refine p_inR ?_
  refine p_thenR ?_
  exact fin1 (fn := Try.f10) s rfl (r_tmp s rfl) rfl
 have d0 := decide_eq_false c0
 apply wR
 refine qq s rfl (y_eqlN (i := x_.toNat % 3) (j := 1) s rfl rfl) fun a s => ?_
 refine asg s rfl rfl fun a s => ?_
 apply wN
 refine c_dec s rfl (fun c1 => ?_) (fun c1 => ?_)
 ·apply wQ
  apply wR
  refine asg s rfl rfl fun a s => ?_
  apply wN
  apply wp_block
  have h0 := (s.ft 2 rfl).at_ 0 tI rfl
  obtain ⟨A0, c0', hc, _, _, hs0⟩ := RTN.open h0
  have hd := (s.ft 2 rfl).drop 1 (by simp)
  obtain ⟨hi, bx, hA⟩ := SlR.row1 (s.wd.holds 1 _ rfl) (s.ft 2 rfl) rfl rfl (i := 0) (x := tI) rfl
  obtain ⟨cs', rfl⟩ : ∃ cs', cs = [vT [116], .slice A0 ([] : List (List UInt8)).length c0', .slice none 0 0] ++ cs' := ⟨cs.drop 3, by have hc' : cs.take 3 = [vT [116], .slice A0 ([] : List (List UInt8)).length c0', .slice none 0 0] := hc; rw [← hc', List.take_append_drop]⟩
  subst hA
  replace s := s.ns 3 hs0
  replace s := s.add 4 (rdF RTN cs' T) hd
  replace s := s.nilRow 5 44 2 rfl
  replace s := s.add 6 (rdF RFeatDecl [] (fds 0)) (RdAll.nil _ _ _)
  refine c_loop (σ := Nat) (fun m a w => ∃ (i : Nat) (A5 : Option Addr) (c5 : Nat) (cs5 : List Value), m + i = 257 ∧ St (⟨Try.f10.ntmps, M, noB, w0⟩ : Ctx) [(3, sl (some ⟨bx, 0, none⟩) (tI :: T) c), (4, vI ((i : Nat) : Int))] [(1, Ob.row (some ⟨bx, 0, none⟩) (tI :: T).length c 40 3 ([vT [116], .slice A0 ([] : List (List UInt8)).length c0', .slice A5 (fds i).length c5] ++ cs')), (5, Ob.row A5 (fds i).length c5 44 2 cs5)] [(3, sF Rep.str A0 c0' ([] : List (List UInt8))), (4, rdF RTN cs' T), (6, rdF RFeatDecl cs5 (fds i))] a w) (fun m => m) 257 ⟨0, none, 0, [], rfl, (s.sb rfl rfl rfl)⟩ ?_
  clear s a; rintro m a w ⟨i, A5, c5, cs5, hm, s⟩
  apply wQ
  apply wR
  refine mv s rfl rfl fun a s => ?_
  refine qq s rfl (y_leqN (i := i) (j := 256) s rfl rfl) fun a s => ?_
  apply wN
  refine c_dec s rfl (fun hc => ?_) (fun hc => ?_)
  ·apply wp_skip
   apply pN
   apply wQ
   apply wp_block
   apply wL
   refine mv s rfl rfl fun a s => ?_
   refine mv s rfl rfl fun a s => ?_
   refine qq s rfl (y_rowIndex (sz := 3) (i := 0) s rfl rfl underlying22 rfl rfl rfl (Nat.succ_pos _)) fun a s => ?_
   refine qq s rfl (y_boxField (o' := 2) s rfl underlying40 rfl rfl rfl) fun a s => ?_
   refine qq s rfl (y_loadRow1 (kk := 1) s rfl rfl rfl rfl underlying38 rfl) fun a s => ?_
   refine qq s rfl (y_build (parts := [(0, .const (.string ⟨#[70]⟩)), (1, .const (.string ⟨#[116]⟩))]) (ps := [(0, vT [70]), (1, vT [116])]) (cells := #[vT [70], vT [116]]) s rfl (by kernel_rfl)) fun a s => ?_
   refine l_seq rfl (l_buildDense (sz := 2) s 7 rfl rfl rfl underlying38 rfl rfl rfl rfl rfl rfl rfl fun b7 a w hbb hK s => ?_)
   replace s := s.add 8 (rdF RFeatDecl (cellsOfL [.agg #[vT [70], vT [116]]]) [FeatDecl.mk [70] [116]]) (RdAll.cons (by exact (RFeatDecl.mk' (x := FeatDecl.mk [70] [116]) (by simp) (by simp))) (RdAll.nil _ _ _))
   have hs := row_src (s.wd.holds 7 _ rfl) (RdAll.one (s.ft 8 rfl))
   have hf1 : (fds i).length = i := List.length_replicate
   have hf2 : (fds (i + 1)).length = i + 1 := List.length_replicate
   have hf3 : fds i ++ [FeatDecl.mk [70] [116]] = fds (i + 1) := (List.replicate_succ' (n := i)).symm
   refine l_seq rfl (l_append (sz := 2) (by_ := 32) (N := (fds (i + 1)).length) s 5 rfl rfl rfl underlying38 rfl rfl rfl rfl rfl hs (by rw [hf1, hf2]) rfl (by rw [hf2]; omega) (by rw [hf2]; omega) rfl fun A6 c6 a w hA hK s => ?_)
   replace s := s.add 9 (rdF RFeatDecl (cs5 ++ cellsOfL [.agg #[vT [70], vT [116]]]) (fds (i + 1))) (by have q := RdAll.append (s.ft 6 rfl) (s.ft 8 rfl); rw [hf3] at q; exact q)
   refine qq s rfl (y_rowIndex (sz := 3) (i := 0) s rfl rfl underlying22 rfl rfl rfl (Nat.succ_pos _)) fun a s => ?_
   refine qq s rfl (y_boxField (o' := 2) s rfl underlying40 rfl rfl rfl) fun a s => ?_
   refine l_seq rfl (l_storeRow (N := 1) (cs' := [vT [116], .slice A0 ([] : List (List UInt8)).length c0', .slice A6 (fds (i + 1)).length c6] ++ cs') s 1 rfl rfl rfl rfl rfl rfl (by rw [List.length_cons]; omega) rfl rfl ?_)
   clear s; intro w hK s
   apply wO
   refine p_inN ?_
   apply pN
   apply wL
   refine mv s rfl rfl fun a s => ?_
   refine qq s rfl (y_addN (i := i) (j := 1) s rfl rfl (in64.2 (by omega))) fun a s => ?_
   refine asg s rfl rfl fun a s => ?_
   apply wN
   replace s := s.al 6 9 rfl
   exact ⟨m - 1, by omega, ⟨i + 1, A6, c6, _, by omega, (s.sb rfl rfl rfl)⟩⟩
  obtain rfl : i = 257 := by omega
  apply wp_exit
  refine p_then ?_
  refine p_then ?_
  refine p_in ?_
  apply pN
  apply wR
  have hl7 : (fds 257).length = 257 := List.length_replicate
  have ht7 : (fds 257).take 256 = fds 256 := List.take_replicate
  rw [← ht7] at e3
  generalize fds 257 = F7 at s e2 e3 hl7
  clear ht7
  refine mv s rfl rfl fun a s => ?_
  refine qq s rfl (y_rowIndex (sz := 3) (i := 0) s rfl rfl underlying22 rfl rfl rfl (Nat.succ_pos _)) fun a s => ?_
  refine qq s rfl (y_boxField (o' := 2) s rfl underlying40 rfl rfl rfl) fun a s => ?_
  refine qq s rfl (y_loadRow1 (kk := 1) s rfl rfl rfl rfl underlying38 rfl) fun a s => ?_
  replace s := s.fz (R := RFeatDecl) (kk := 5) [1] 10 rfl rfl (s.ft 6 rfl) rfl
  have hcap := (s.ft 10 rfl).cap
  refine qq s rfl (y_cutH (xs := F7) (sz := 2) (i := 256) s rfl rfl underlying38 rfl rfl (by rw [hl7]; omega) hcap) fun a s => ?_
  replace s := s.add 11 (sF RFeatDecl A5 c5 (F7.take 256)) (SlR.cutH (s.ft 10 rfl) 256 (by rw [hl7]; omega))
  refine qq s rfl (y_build (parts := [(0, .const (.string ⟨#[116]⟩)), (2, .tmp 44)]) (ps := [(0, vT [116]), (2, .slice A5 (F7.take 256).length c5)]) (cells := #[vT [116], .slice none 0 0, .slice A5 (F7.take 256).length c5]) s rfl (by kernel_rfl)) fun a s => ?_
  refine l_seq rfl (l_buildDense (sz := 3) s 12 rfl rfl rfl underlying22 rfl rfl rfl rfl rfl rfl rfl fun b7 a w hbb hK s => ?_)
  refine asg s rfl rfl fun a s => ?_
  apply wN
  apply wQ
  apply wL
  refine mv s rfl rfl fun a s => ?_
  replace s := s.add 13 (rdF RTypeDecl ([vT [116], .slice A0 ([] : List (List UInt8)).length c0', .slice A5 F7.length c5] ++ cs') (TypeDecl.mk [116] [] F7 :: T)) (RdAll.append (RdAll.single (RTypeDecl.mk' (x := TypeDecl.mk [116] [] F7) (by simp) (s.ft 3 rfl) (s.ft 10 rfl))) (weakAll (s.ft 4 rfl)))
  replace s := s.add 14 (rdF RTypeDecl (cellsOfL [.agg #[vT [116], .slice none 0 0, .slice A5 (F7.take 256).length c5]]) [TypeDecl.mk [116] [] (F7.take 256)]) (RdAll.cons (by exact RTypeDecl.mk' (x := TypeDecl.mk [116] [] (F7.take 256)) (by simp) (SlR.nil_ _ _ _) (s.ft 11 rfl)) (RdAll.nil _ _ _))
  replace s := s.fz (R := RTypeDecl) (kk := 1) [12] 15 rfl rfl (s.ft 13 rfl) rfl
  replace s := s.fz (R := RTypeDecl) (kk := 12) [] 16 rfl rfl (s.ft 14 rfl) rfl
  refine lc s rfl func13 (by kernel_rfl) (c_poset_Check n _ _ s.lt (TypeDecl.mk [116] [] F7 :: T) _ _ (s.ft 15 rfl) _ e2) fun v7 a w hK hp s => ?_
  obtain rfl := hp
  refine qq s rfl (yl_b (y_eql s rfl rfl) (decide_eq_true rfl)) fun a s => ?_
  refine mv s rfl rfl fun a s => ?_
  refine gm s rfl rfl fun a s => ?_
  refine gl s rfl (l_call (cap := []) s rfl func13 rfl (by kernel_rfl) rfl rfl (c_poset_Check n _ _ s.lt [TypeDecl.mk [116] [] (F7.take 256)] _ _ (s.ft 16 rfl) _ e3) fun v9 a w hK hp s => ?_)
  obtain rfl := hp
  refine gy s rfl (yl_b (y_eql s rfl rfl) (decide_eq_true rfl)) fun a s => ?_
  refine qq s rfl (y_pick_t s rfl rfl) fun a s => ?_
  refine mv s rfl rfl fun a s => ?_
  refine gl s rfl (l_call (cap := []) s rfl func12 rfl (by kernel_rfl) rfl rfl (c_law03_exampleHolds n _ _ s.lt _ ex) fun v10 a w hK hp s => ?_)
  obtain rfl := hp
  refine qq s rfl (y_pick_t s rfl rfl) fun a s => ?_
  refine asg s rfl rfl fun a s => ?_
  apply wN
  apply wp_ret
  refine p_inR ?_
  refine p_thenR ?_
  exact fin1 (fn := Try.f10) s rfl (r_tmp s rfl) rfl
 apply wp_skip
 refine p_inN ?_
 apply pN
 apply wQ
 apply wR
 refine asg s rfl rfl fun a s => ?_
 apply wN
 apply wp_block
 subst hT
 have h0 := (s.ft 2 rfl).at_ 0 tI rfl
 obtain ⟨A0, c0', hc, _, _, hs0⟩ := RTN.open h0
 have h1 := (s.ft 2 rfl).at_ 1 b rfl
 obtain ⟨A1, c1', hc1, _, _, hs1⟩ := RTN.open h1
 have hd := (s.ft 2 rfl).drop 2 (by simp)
 obtain ⟨hi, bx, hA⟩ := SlR.row1 (s.wd.holds 1 _ rfl) (s.ft 2 rfl) rfl rfl (i := 0) (x := tI) rfl
 obtain ⟨cs', rfl⟩ : ∃ cs', cs = [vT [116], .slice A0 ([] : List (List UInt8)).length c0', .slice none 0 0] ++ ([vT b.Name, .slice A1 b.Supers.length c1', .slice none 0 0] ++ cs') := ⟨cs.drop 6, by
  have hc' : cs.take 3 = [vT [116], .slice A0 ([] : List (List UInt8)).length c0', .slice none 0 0] := hc
  have hc1' : (cs.drop 3).take 3 = [vT b.Name, .slice A1 b.Supers.length c1', .slice none 0 0] := hc1
  rw [← hc', ← hc1', show cs.drop 6 = (cs.drop 3).drop 3 by rw [List.drop_drop], List.take_append_drop, List.take_append_drop]⟩
 subst hA
 replace s := s.ns 3 hs0
 replace s := s.ns 5 hs1
 replace s := s.add 4 (rdF RTN cs' T2) hd
 refine c_loop (σ := Nat) (fun m a w => ∃ (i : Nat) (A5 : Option Addr) (c5 : Nat) (xs : List (List UInt8)), m + i = 257 ∧ i ≤ xs.length ∧ xs.take i = reps i ∧ (i = 0 ∨ xs = reps i) ∧ St (⟨Try.f10.ntmps, M, noB, w0⟩ : Ctx) [(3, sl (some ⟨bx, 0, none⟩) (tI :: b :: T2) c), (6, vI ((i : Nat) : Int))] [(1, Ob.row (some ⟨bx, 0, none⟩) (tI :: b :: T2).length c 40 3 ([vT [116], .slice A0 ([] : List (List UInt8)).length c0', .slice none 0 0] ++ ([vT b.Name, .slice A5 xs.length c5, .slice none 0 0] ++ cs')))] [(3, sF Rep.str A0 c0' ([] : List (List UInt8))), (4, rdF RTN cs' T2), (5, sF Rep.str A5 c5 xs)] a w) (fun m => m) 257 ⟨0, A1, c1', b.Supers, rfl, Nat.zero_le _, rfl, .inl rfl, (s.sb rfl rfl rfl)⟩ ?_
 clear s a; rintro m a w ⟨i, A5, c5, xs, hm, hix, htk, hor, s⟩
 apply wQ
 apply wR
 refine mv s rfl rfl fun a s => ?_
 refine qq s rfl (y_leqN (i := i) (j := 256) s rfl rfl) fun a s => ?_
 apply wN
 refine c_dec s rfl (fun hc => ?_) (fun hc => ?_)
 ·apply wp_skip
  apply pN
  apply wQ
  apply wp_block
  apply wL
  refine mv s rfl rfl fun a s => ?_
  refine mv s rfl rfl fun a s => ?_
  refine qq s rfl (y_rowIndex (sz := 3) (i := 1) s rfl rfl underlying22 rfl rfl rfl (Nat.succ_lt_succ (Nat.succ_pos _))) fun a s => ?_
  refine qq s rfl (y_boxField (o' := 4) s rfl underlying40 rfl rfl rfl) fun a s => ?_
  refine qq s rfl (y_loadRow1 (kk := 1) s rfl rfl rfl rfl underlying27 rfl) fun a s => ?_
  refine mv s rfl rfl fun a s => ?_
  refine mv s rfl rfl fun a s => ?_
  have hcap := (s.ft 5 rfl).cap
  refine qq s rfl (y_cutHM (xs := xs) (sz := 1) (i := i) (j := i) s rfl rfl rfl underlying27 rfl rfl rfl hix (Nat.le_refl _) (Nat.le_trans hix hcap)) fun a s => ?_
  have hcut := SlR.cutHM (s.ft 5 rfl) i i hix (Nat.le_refl _) (Nat.le_trans hix hcap)
  have hti : (xs.take i).length = i := by rw [List.length_take]; omega
  have hr2 : xs.take i ++ [[116]] = reps (i + 1) := by rw [htk]; exact (List.replicate_succ' (n := i)).symm
  have hr3 : (reps (i + 1)).length = i + 1 := List.length_replicate
  replace s := s.ns 6 hcut
  obtain ⟨olds, ho2, hrd⟩ := SlR.src (s.ft 6 rfl)
  replace s := s.add 7 (rdF Rep.str olds (xs.take i)) hrd
  refine l_seq rfl (l_buildDense (sz := 1) s 8 rfl rfl rfl underlying27 rfl rfl rfl rfl rfl rfl rfl fun b7 a w' hbb hK s => ?_)
  replace s := s.add 9 (rdF Rep.str (cellsOfL [vT [116]]) [[116]]) (RdAll.cons (by exact ⟨rfl, by simp⟩) (RdAll.nil _ _ _))
  have hs := row_src (s.wd.holds 8 _ rfl) (RdAll.one (s.ft 9 rfl))
  obtain ⟨olds', ho3, hrd'⟩ := SlR.src (s.ft 6 rfl)
  replace s := s.add 7 (rdF Rep.str olds' (xs.take i)) hrd'
  refine l_seq rfl (l_appendGrow (sz := 1) (by_ := 16) (N := (xs.take i).length + 1) s 10 rfl rfl rfl underlying27 rfl rfl rfl rfl ho3 (fun hn => ?_) hs (Nat.le_of_eq hti) rfl (by rw [hti]; omega) (by rw [hti]; omega) (by rw [hti]; omega) rfl fun A6 c6 a w hA hK s => ?_)
  · exact (s.ft 6 rfl).nil hn
  replace s := s.add 11 (rdF Rep.str (olds' ++ cellsOfL [vT [116]]) (reps (i + 1))) (by have q := RdAll.append (s.ft 7 rfl) (s.ft 9 rfl); rw [hr2] at q; exact q)
  have hN : (xs.take i).length + 1 = (reps (i + 1)).length := by rw [hti, hr3]
  rw [hN] at s
  refine qq s rfl (y_rowIndex (sz := 3) (i := 1) s rfl rfl underlying22 rfl rfl rfl (Nat.succ_lt_succ (Nat.succ_pos _))) fun a s => ?_
  refine qq s rfl (y_boxField (o' := 4) s rfl underlying40 rfl rfl rfl) fun a s => ?_
  replace s := s.fz (R := Rep.str) (kk := 10) [1] 12 rfl rfl (s.ft 11 rfl) rfl
  refine l_seq rfl (l_storeRow (N := 1) (cs' := [vT [116], .slice A0 ([] : List (List UInt8)).length c0', .slice none 0 0] ++ ([vT b.Name, .slice A6 (reps (i + 1)).length c6, .slice none 0 0] ++ cs')) s 1 rfl rfl rfl rfl rfl rfl (by rw [List.length_cons, List.length_cons]; omega) rfl rfl ?_)
  clear s; intro w hK s
  apply wO
  refine p_inN ?_
  apply pN
  apply wL
  refine mv s rfl rfl fun a s => ?_
  refine qq s rfl (y_addN (i := i) (j := 1) s rfl rfl (in64.2 (by omega))) fun a s => ?_
  refine asg s rfl rfl fun a s => ?_
  apply wN
  replace s := s.al 5 12 rfl
  exact ⟨m - 1, by omega, ⟨i + 1, A6, c6, reps (i + 1), by omega, by rw [hr3]; omega, List.take_of_length_le (by rw [hr3]; omega), .inr rfl, (s.sb rfl rfl rfl)⟩⟩
 obtain rfl : i = 257 := by omega
 obtain rfl : xs = reps 257 := hor.resolve_left (by omega)
 apply wp_exit
 refine p_then ?_
 refine p_then ?_
 refine p_in ?_
 apply pN
 have hl7 : (reps 257).length = 257 := List.length_replicate
 have ht7 : (reps 257).take 256 = reps 256 := List.take_replicate
 rw [← ht7] at e5
 generalize reps 257 = R7 at s e4 e5 hl7
 clear ht7 htk hix hor
 rw [hbf] at e4
 apply wQ
 refine d_plan s [] [(1, some 0), (2, some 0), (3, some 0), (4, some 1), (5, some 0), (6, some 0), (0, none), (7, none), (8, none)] rfl (by kernel_rfl) (by kernel_rfl) rfl ?_; clear s; intro wr hZ s; have hR := s.wd
 refine qt s hR rfl (y_move s rfl) fun a s => ?_
 refine qt s hR rfl (y_rowIndex (sz := 3) (i := 1) s rfl rfl underlying22 rfl rfl rfl (Nat.succ_lt_succ (Nat.succ_pos _))) fun a s => ?_
 refine qt s hR rfl (y_boxField (o' := 4) s rfl underlying40 rfl rfl rfl) fun a s => ?_
 refine qt s hR rfl (y_loadRow1 (kk := 1) s rfl rfl rfl rfl underlying27 rfl) fun a s => ?_
 have hcap := (s.ft 5 rfl).cap
 refine qt s hR rfl (y_cutH (xs := R7) (sz := 1) (i := 256) s rfl rfl underlying27 rfl rfl (by rw [hl7]; omega) hcap) fun a s => ?_
 replace s := s.ns 6 (SlR.cutH (s.ft 5 rfl) 256 (by rw [hl7]; omega))
 refine qt s hR rfl (y_build (parts := [(0, .const (.string ⟨#[97]⟩)), (1, .tmp 79)]) (ps := [(0, vT [97]), (1, .slice A5 (R7.take 256).length c5)]) (cells := #[vT [97], .slice A5 (R7.take 256).length c5, .slice none 0 0]) s rfl (by kernel_rfl)) fun a s => ?_
 refine l_take s rfl rfl (l_call (cap := []) s rfl func30 rfl (by kernel_rfl) rfl rfl (c_law03_decl n _ _ s.lt [116] (by simp) [] none 0 (SlR.nil_ _ _ _) (TypeDecl.mk [116] [] []) rfl) fun v a w hK hp s => ?_)
 replace hZ := Nat.le_trans hZ hK.size; refine ⟨fun g _ h => h.grow hK, ?_⟩; clear hK
 obtain ⟨Aa, ca, Ab, cb, rfl, hl, hp2, hp3⟩ := hp
 replace s := s.ns 7 hp2
 replace s := s.ns 8 hp3
 refine l_take s rfl rfl (l_buildDense (sz := 3) s 12 rfl rfl rfl underlying22 rfl rfl rfl rfl rfl rfl rfl fun b7 a w hbb hK s => ?_)
 replace hZ := Nat.le_trans hZ hK.size; refine ⟨fun g _ h => h.grow hK, ?_⟩; clear hK hbb
 refine l_take s rfl rfl (l_quiet s rfl rfl (y_assign s rfl) fun a s => ?_); refine ⟨fun g _ h => h, ?_⟩
 clear hR hZ
 apply pN
 apply wQ
 apply wL
 refine mv s rfl rfl fun a s => ?_
 replace s := s.add 13 (rdF RTypeDecl ([vT [116], .slice A0 ([] : List (List UInt8)).length c0', .slice none 0 0] ++ ([vT b.Name, .slice A5 R7.length c5, .slice none 0 0] ++ cs')) (tI :: TypeDecl.mk b.Name R7 [] :: T2)) (RdAll.append (RdAll.single (RTypeDecl.mk' (x := tI) (Nat.le_of_ble_eq_true (by rfl)) (s.ft 3 rfl) (SlR.nil_ _ _ _))) (RdAll.append (RdAll.single (RTypeDecl.mk' (x := TypeDecl.mk b.Name R7 []) (by show b.Name.length ≤ _; omega) (s.ft 5 rfl) (SlR.nil_ _ _ _))) (weakAll (s.ft 4 rfl))))
 replace s := s.add 14 (rdF RTypeDecl (cellsOfL [.agg #[vT [116], .slice Aa ([] : List (List UInt8)).length ca, .slice Ab ([] : List FeatDecl).length cb], .agg #[vT [97], .slice A5 (R7.take 256).length c5, .slice none 0 0]]) [tI, TypeDecl.mk [97] (R7.take 256) []]) (RdAll.cons (by exact RTypeDecl.mk' (x := tI) (Nat.le_of_ble_eq_true (by rfl)) (s.ft 7 rfl) (s.ft 8 rfl)) (RdAll.cons (by exact RTypeDecl.mk' (x := TypeDecl.mk [97] (R7.take 256) []) (Nat.le_of_ble_eq_true (by rfl)) (s.ft 6 rfl) (SlR.nil_ _ _ _)) (RdAll.nil _ _ _)))
 replace s := s.fz (R := RTypeDecl) (kk := 1) [12] 15 rfl rfl (s.ft 13 rfl) rfl
 replace s := s.fz (R := RTypeDecl) (kk := 12) [] 16 rfl rfl (s.ft 14 rfl) rfl
 refine lc s rfl func13 (by kernel_rfl) (c_poset_Check n _ _ s.lt (tI :: TypeDecl.mk b.Name R7 [] :: T2) _ _ (s.ft 15 rfl) _ e4) fun v7 a w hK hp s => ?_
 obtain rfl := hp
 refine qq s rfl (yl_b (y_eql s rfl rfl) (decide_eq_true rfl)) fun a s => ?_
 refine mv s rfl rfl fun a s => ?_
 refine gm s rfl rfl fun a s => ?_
 refine gl s rfl (l_call (cap := []) s rfl func13 rfl (by kernel_rfl) rfl rfl (c_poset_Check n _ _ s.lt [tI, TypeDecl.mk [97] (R7.take 256) []] _ _ (s.ft 16 rfl) _ e5) fun v9 a w hK hp s => ?_)
 obtain rfl := hp
 refine gy s rfl (yl_b (y_eql s rfl rfl) (decide_eq_true rfl)) fun a s => ?_
 refine qq s rfl (y_pick_t s rfl rfl) fun a s => ?_
 refine mv s rfl rfl fun a s => ?_
 refine gl s rfl (l_call (cap := []) s rfl func12 rfl (by kernel_rfl) rfl rfl (c_law03_exampleHolds n _ _ s.lt _ ex) fun v10 a w hK hp s => ?_)
 obtain rfl := hp
 refine qq s rfl (y_pick_t s rfl rfl) fun a s => ?_
 refine asg s rfl rfl fun a s => ?_
 apply wN
 apply wp_ret
 exact fin1 (fn := Try.f10) s rfl (r_tmp s rfl) rfl
end Go.Proofs.Ytoeolfnjblibpaa

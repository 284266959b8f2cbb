/- Chapter 03: many, its declarations known to have no features. -/
import Derived.Test.YtoeolfnjblibpaaW1
namespace Go.Proofs.Ytoeolfnjblibpaa
open Go.Gl Go.RowKit Try
set_option linter.unusedVariables false
set_option linter.unusedSimpArgs false
set_option maxRecDepth 4000
/-- no features: a nil slice -/
def nilR : Rep (List FeatDecl) where
  size := 1
  rd := fun _ _ cs x => cs = [.slice none 0 0] ∧ x = []
  len := fun h => by rw [h.1]; rfl
  one := fun h v hv => by rw [h.1] at hv; simp at hv; subst hv; rfl
  keep := fun _ h => h
  change := fun _ h => h
def RTN : Rep TypeDecl := Rep.via (Rep.prod Rep.str (Rep.prod (Rep.list Rep.str) nilR)) (fun x => (x.Name, (x.Supers, x.Feats)))
theorem RTN.open {M : Bs} {w : World} {cs : List Value} {x : TypeDecl} (h : RTN.rd M w cs x) : ∃ (A : Option Addr), ∃ (c : Nat), cs = [.string (bs (x.Name)), .slice A ((x.Supers).length) c, .slice none 0 0] ∧ x.Feats = [] ∧ ((x.Name).length ≤ 9223372036854775807) ∧ (SlR Rep.str M w A (x.Supers).length c (x.Supers)) := by
  obtain ⟨_, _, rfl, h0, r0⟩ := h
  obtain ⟨rfl, p0⟩ := h0
  obtain ⟨_, _, rfl, h1, r1⟩ := r0
  obtain ⟨A1, n1, c1, rfl, p1⟩ := h1
  obtain rfl := p1.len
  obtain ⟨rfl, p2⟩ := r1
  exact ⟨A1, c1, rfl, p2, p0, p1⟩
theorem RTN.mk' {M : Bs} {w : World} {x : TypeDecl} {A : Option Addr} {c : Nat} (p0 : (x.Name).length ≤ 9223372036854775807) (p2 : x.Feats = []) (p1 : SlR Rep.str M w A (x.Supers).length c (x.Supers)) : RTN.rd M w [.string (bs (x.Name)), .slice A ((x.Supers).length) c, .slice none 0 0] x := ⟨_, _, rfl, ⟨rfl, p0⟩, ⟨_, _, rfl, ⟨_, _, _, rfl, p1⟩, ⟨rfl, p2⟩⟩⟩
theorem RTN.weak {M : Bs} {w : World} {cs : List Value} {x : TypeDecl} (h : RTN.rd M w cs x) : RTypeDecl.rd M w cs x := by
  obtain ⟨A, c, rfl, h1, h2, h3⟩ := RTN.open h
  have := RTypeDecl.mk' (x := x) (Aq3 := none) (cq3 := 0) h2 h3 (by rw [h1]; exact SlR.nil_ _ _ _)
  rw [h1] at this
  exact this
theorem weakAll {M : Bs} {w : World} {cs : List Value} {xs : List TypeDecl} (h : RdAll RTN M w cs xs) : RdAll RTypeDecl M w cs xs := ⟨h.len, fun i x hx => RTN.weak (h.at_ i x hx)⟩
set_option maxHeartbeats 1000000 in
theorem c_declN (n : Nat) (M : Bs) (w0 : World) (hM : ∀ b, M b → b < w0.heap.size) (name_ : (List UInt8)) (lp01 : (name_).length ≤ 9223372036854775807) (supers_ : (List (List UInt8))) (Ap11 : Option Addr) (cp11 : Nat) (hp11 : SlR Rep.str M w0 Ap11 (supers_).length cp11 (supers_)) (r : TypeDecl) (hg : law03_decl n name_ supers_ = some r) :
    Calls Try.prog 30 [.string (bs (name_)), .slice (Ap11) ((supers_).length) (cp11)].toArray w0 (Ret noB w0 fun v w => ∃ (Aa2 : Option Addr), ∃ (ca2 : Nat), v = .agg #[.string (bs (r.Name)), .slice (Aa2) ((r.Supers).length) (ca2), .slice none 0 0] ∧ r.Feats = [] ∧ ((r.Name).length ≤ 9223372036854775807) ∧ (SlR Rep.str M w Aa2 (r.Supers).length ca2 (r.Supers))) := by
 unfold law03_decl at hg
 refine enter M noB func30 rfl rfl hM ?_
 intro a s
 replace s := s.es 101 hp11
 apply wR
 refine l_seq rfl (l_alloc (zs := [vT ([]), .slice none 0 0, .slice none 0 0]) s 1000 rfl rfl rfl rfl fun b2 a w hb hK s => ?_)
 apply wN
 apply wR
 refine mv s rfl rfl fun a s => ?_
 refine mv s rfl rfl fun a s => ?_
 refine qq s rfl (y_build (parts := [(0, .tmp 5), (1, .tmp 6)]) (ps := [(0, vT name_), (1, sl Ap11 supers_ cp11)]) (cells := #[vT name_, sl Ap11 supers_ cp11, .slice none 0 0]) s rfl (by kernel_rfl)) fun a s => ?_
 refine l_seq rfl (l_store (n := 3) (cs' := [vT name_, sl Ap11 supers_ cp11, .slice none 0 0]) s 1000 rfl rfl rfl rfl rfl rfl rfl rfl ?_); clear s; intro w hK s; clear hK
 apply wN
 apply wp_ret
 obtain rfl := Option.some.inj hg
 refine fin1 (fn := Try.f30) s rfl (r_cell (kk := 1000) (n := 3) (vs := [vT name_, sl Ap11 supers_ cp11, .slice none 0 0]) s rfl rfl underlying40 rfl rfl rfl rfl) ?_
 exact ⟨(Ap11), (cp11), rfl, rfl, (by omega), (s.out (k := 101) rfl)⟩
set_option maxHeartbeats 1000000 in
theorem c_manyN (n : Nat) (M : Bs) (w0 : World) (hM : ∀ b, M b → b < w0.heap.size) (n_ : Int) (r : (List TypeDecl)) (hg : law03_many n n_ = some r) :
    Calls Try.prog 29 [.int .i64 (n_)].toArray w0 (Ret noB w0 fun v w => ∃ (Ao : Option Addr), ∃ (co : Nat), ∃ (cso : List Value), v = .slice (Ao) ((r).length) (co) ∧ ((Ob.row Ao (r).length co 40 3 cso).holds w) ∧ (∀ b, (Ob.row Ao (r).length co 40 3 cso).ids b → w0.heap.size ≤ b) ∧ (RdAll RTN (fun b => M b ∨ (Ob.row Ao (r).length co 40 3 cso).ids b) w cso (r))) := by
 unfold law03_many at hg
 refine enter M noB func29 rfl rfl hM ?_
 intro a s
 apply wR
 refine asg s rfl rfl fun a s => ?_
 apply wN
 apply wQ
 obtain ⟨r1, hr1, hg⟩ := bind_some hg
 apply wL
 refine lc s rfl func30 (by kernel_rfl) (c_declN n _ _ s.lt _ (Nat.le_of_ble_eq_true (by rfl)) [] (none) (0) (SlR.nil_ _ _ _) _ hr1) fun v5 a w hK hp s => ?_
 obtain ⟨Au6a2, cu6a2, rfl, fe1, lu6a1, hu6a2⟩ := hp
 replace s := s.ns 103 hu6a2
 refine l_seq rfl (l_buildDense (sz := 3) s 1101 rfl rfl rfl underlying22 rfl rfl rfl rfl rfl rfl rfl fun b7 a w hbb7 hK s => ?_)
 clear hbb7
 refine asg s rfl rfl fun a s => ?_
 apply wN
 apply wQ
 apply wR
 refine asg s rfl rfl fun a s => ?_
 apply wN
 apply wp_block
 replace s := s.add 107 (rdF RTN (cellsOfL [.agg #[vT r1.Name, sl Au6a2 r1.Supers cu6a2, (.slice none 0 0)]]) ([r1])) (RdAll.cons (by exact (RTN.mk' (x := r1) (by omega) fe1 (s.ft 103 rfl))) (RdAll.nil _ _ _))
 replace s := s.al 106 107 rfl
 replace s := s.pk [(700105, 1101)] (by decide)
 refine c_loop (σ := Nat) (fun m1 a w => ∃ (d_8 : (List TypeDecl)) (i_12 : Nat) (A9 : Option Addr) (c10 : Nat) (cs11 : List Value), law03_many_L0 n n_ m1 d_8 i_12 = some r ∧ St (⟨Try.f29.ntmps, M, noB, w0⟩ : Ctx) [(0, vI n_), (3, sl A9 d_8 c10), (4, vI (((i_12 : Nat) : Int)))] [(700105, Ob.row (A9) ((d_8).length) (c10) 40 3 (cs11))] [(106, rdF RTN (cs11) (d_8))] a w) (fun m1 => m1) n ⟨([r1]), (1), (some ⟨b7, 0, none⟩), (1), (cellsOfL [.agg #[vT r1.Name, sl Au6a2 r1.Supers cu6a2, (.slice none 0 0)]]), hg, (s.sb rfl rfl rfl)⟩ ?_
 clear s a; rintro m1 a w ⟨d_8, i_12, A9, c10, cs11, hg, s⟩
 rcases m1 with _ | m1
 ·rw [law03_many_L0] at hg; cases hg
 rw [law03_many_L0] at hg
 apply wQ
 apply wR
 refine mv s rfl rfl fun a s => ?_
 refine mv s rfl rfl fun a s => ?_
 refine qq s rfl (y_lss s rfl rfl) fun a s => ?_
 apply wN
 refine c_dec s rfl (fun hc13 => ?_) (fun hc13 => ?_)
 ·replace hg := br_t hg hc13
  apply wp_skip
  apply pN
  apply wQ
  apply wp_block
  obtain ⟨hk14, hg⟩ := chk_some hg
  obtain ⟨hk15, hg⟩ := chk_some hg
  obtain ⟨hk16, hg⟩ := chk_some hg
  obtain ⟨hk18, hg⟩ := chk_some hg
  obtain ⟨r20, hr20, hg⟩ := bind_some hg
  obtain ⟨hk24, hg⟩ := chk_some hg
  apply wL
  refine mv s rfl rfl fun a s => ?_
  refine mv s rfl rfl fun a s => ?_
  refine qq s rfl (y_quoN (i := i_12) (j := 26) s rfl rfl (by decide) (in64.2 (by omega))) fun a s => ?_
  refine qq s rfl (y_addN (i := 97) (j := (i_12 / 26)) s rfl rfl (in64.2 (by omega))) fun a s => ?_
  refine qq s rfl (y_convU8 s rfl underlying3 underlying5) fun a s => ?_
  refine mv s rfl rfl fun a s => ?_
  refine qq s rfl (y_remN (i := i_12) (j := 26) s rfl rfl (by decide)) fun a s => ?_
  refine qq s rfl (y_addN (i := 97) (j := (i_12 % 26)) s rfl rfl (in64.2 (by omega))) fun a s => ?_
  refine qq s rfl (y_convU8 s rfl underlying3 underlying5) fun a s => ?_
  refine l_seq rfl (l_buildDense (sz := 1) s 1509 rfl rfl rfl underlying57 rfl rfl rfl rfl rfl rfl rfl fun b27 a w hbb27 hK s => ?_)
  clear hbb27
  replace s := s.add 115 (rdF Rep.u8 (cellsOfL [.int .u8 ((((toU8 ((97 + i_12 / 26 : Nat) : Int)).toNat : Nat) : Int)), .int .u8 ((((toU8 ((97 + i_12 % 26 : Nat) : Int)).toNat : Nat) : Int))]) ([toU8 ((97 + i_12 / 26 : Nat) : Int), toU8 ((97 + i_12 % 26 : Nat) : Int)])) (RdAll.cons (by exact rfl) (RdAll.cons (by exact rfl) (RdAll.nil _ _ _)))
  have hbl := row_len1 (s.wd.holds 1509 _ rfl) (s.ft 115 rfl)
  refine qq s rfl (y_bytesRow (kk := 1509) s rfl rfl (s.ft 115 rfl) underlying57 underlying5 underlying9) fun a s => ?_
  refine qq s rfl (y_concat s rfl rfl hk18) fun a s => ?_
  refine l_seq rfl (l_buildDense (sz := 1) s 1512 rfl rfl rfl underlying27 rfl rfl rfl rfl rfl rfl rfl fun b28 a w hbb28 hK s => ?_)
  clear hbb28
  replace s := s.add 116 (rdF Rep.str (cellsOfL [vT ([116])]) ([[116]])) (RdAll.cons (by exact ⟨rfl, (Nat.le_of_ble_eq_true (by rfl))⟩) (RdAll.nil _ _ _))
  replace s := s.freeze (R := Rep.str) (kk := 1512) (L' := [(1509, Ob.row (some ⟨b27, 0, none⟩) (2) (2) 5 1 (cellsOfL [.int .u8 ((((toU8 ((97 + i_12 / 26 : Nat) : Int)).toNat : Nat) : Int)), .int .u8 ((((toU8 ((97 + i_12 % 26 : Nat) : Int)).toNat : Nat) : Int))])), (700105, Ob.row (A9) ((d_8).length) (c10) 40 3 (cs11))]) 117 rfl rfl (s.ft 116 rfl) ⟨rfl, rfl, trivial⟩ rfl
  refine lc s rfl func30 (by kernel_rfl) (c_declN n _ _ s.lt _ (by rw [List.length_append]; omega) [[116]] (some ⟨b28, 0, none⟩) (1) (s.ft 117 rfl) _ hr20) fun v29 a w hK hp s => ?_
  obtain ⟨Au30a2, cu30a2, rfl, fe2, lu30a1, hu30a2⟩ := hp
  replace s := s.ns 118 hu30a2
  refine l_seq rfl (l_buildDense (sz := 3) s 1514 rfl rfl rfl underlying22 rfl rfl rfl rfl rfl rfl rfl fun b31 a w hbb31 hK s => ?_)
  clear hbb31
  replace s := s.add 120 (rdF RTN (cellsOfL [.agg #[vT r20.Name, sl Au30a2 r20.Supers cu30a2, (.slice none 0 0)]]) ([r20])) (RdAll.cons (by exact (RTN.mk' (x := r20) (by omega) fe2 (s.ft 118 rfl))) (RdAll.nil _ _ _))
  have hs33 := row_src (s.wd.holds 1514 _ rfl) (RdAll.one (s.ft 120 rfl))
  refine l_seq rfl (l_append (sz := 3) (by_ := 64) (N := (d_8 ++ [r20]).length) s 700105 rfl rfl rfl underlying22 rfl rfl rfl rfl rfl hs33 (by rw [List.length_append]; try rfl) rfl (rmA hk24 rfl) (rmB hk24) rfl fun Aq32 cq32 a w hA hK s => ?_)
  replace s := s.add 121 (rdF RTN (cs11 ++ (cellsOfL [.agg #[vT r20.Name, sl Au30a2 r20.Supers cu30a2, (.slice none 0 0)]])) (d_8 ++ [r20])) (RdAll.append (s.ft 106 rfl) (s.ft 120 rfl))
  refine asg s rfl rfl fun a s => ?_
  apply wO
  refine p_inN ?_
  apply pN
  obtain ⟨hk34, hg⟩ := chk_some hg
  apply wL
  refine mv s rfl rfl fun a s => ?_
  refine qq s rfl (y_addN (i := i_12) (j := 1) s rfl rfl (in64.2 (by omega))) fun a s => ?_
  refine asg s rfl rfl fun a s => ?_
  apply wN
  replace s := s.al 106 121 rfl
  exact ⟨m1, Nat.lt_succ_self _, ⟨(d_8 ++ [r20]), (i_12 + 1), (Aq32), (cq32), (cs11 ++ (cellsOfL [.agg #[vT r20.Name, sl Au30a2 r20.Supers cu30a2, (.slice none 0 0)]])), hg, (s.sb rfl rfl rfl)⟩⟩
 replace hg := br_f hg hc13
 apply wp_exit
 refine p_then ?_
 refine p_then ?_
 refine p_in ?_
 apply pN
 apply wR
 refine mv s rfl rfl fun a s => ?_
 refine asg s rfl rfl fun a s => ?_
 apply wN
 apply wp_ret
 obtain rfl := Option.some.inj hg
 refine fin1 (fn := Try.f29) s rfl (r_tmp s rfl) ?_
 exact ⟨(A9), (c10), (cs11), rfl, (s.wd.holds 700105 _ rfl), (row_new s (kk := 700105) rfl rfl), (RdAll.own s (kk := 700105) rfl (s.ft 106 rfl))⟩
end Go.Proofs.Ytoeolfnjblibpaa

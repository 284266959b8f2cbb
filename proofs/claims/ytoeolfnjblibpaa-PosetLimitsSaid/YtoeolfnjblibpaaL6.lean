/- Chapter 03: Check at the declarations of PosetLimits, plain laws. -/
import Derived.Test.YtoeolfnjblibpaaL5
import Derived.Test.YtoeolfnjblibpaaL0
import Derived.Test.YtoeolfnjblibpaaGl12
namespace Go.Proofs.Ytoeolfnjblibpaa
open Go.Gl Go.Sort
set_option linter.unusedVariables false
set_option linter.unusedSimpArgs false
def nmI (i : Nat) : List UInt8 := [97] ++ [toU8 ((97 + i / 26 : Nat) : Int), toU8 ((97 + i % 26 : Nat) : Int)]
def dlI (i : Nat) : TypeDecl := TypeDecl.mk (nmI i) [[116]] []
def tI : TypeDecl := TypeDecl.mk [116] [] []
def dls (a k : Nat) : List TypeDecl := (List.range' a k).map dlI
theorem many_L0 (n K : Nat) : ∀ (k m i : Nat) (d : List TypeDecl), i + k = K → k < m → K ≤ 300 → d.length + k ≤ 1000 → law03_many_L0 n (K : Int) m d i = some (d ++ dls i k)
  | 0, m + 1, i, d, h, _, _, _ => by rw [law03_many_L0, if_neg (by omega)]; simp [dls]
  | k + 1, m + 1, i, d, h, hm, hK, hb => by
    rw [law03_many_L0, if_pos (by omega), chk_pos (by omega), chk_pos (by omega), chk_pos (by omega), chk_pos (by simp)]
    unfold law03_decl
    rw [bind_some', chk_pos (by simp; omega), chk_pos (by omega), many_L0 n K k m (i + 1) _ (by omega) (by omega) hK (by simp; omega)]
    simp [dls, List.range'_succ, dlI, nmI]
theorem many_eq (n K : Nat) (h1 : 1 ≤ K) (h2 : K ≤ 300) (hn : 400 ≤ n) : law03_many n (K : Int) = some (tI :: dls 1 (K - 1)) := by
  unfold law03_many
  unfold law03_decl
  rw [bind_some', many_L0 n K (K - 1) n 1 _ (by omega) (by omega) h2 (by simp; omega)]
  rfl
theorem toU8_lo {a : Nat} (h : a ≤ 25) : (toU8 ((97 + a : Nat) : Int)).toNat = 97 + a := by
  rw [toU8_small (by omega), UInt8.toNat_ofNat', Nat.mod_eq_of_lt (by omega)]
theorem nmI_inj {i j : Nat} (hi : i < 300) (hj : j < 300) (h : nmI i = nmI j) : i = j := by
  unfold nmI at h
  simp only [List.cons_append, List.nil_append, List.cons.injEq, and_true, true_and] at h
  have a1 := congrArg UInt8.toNat h.1
  have a2 := congrArg UInt8.toNat h.2
  rw [toU8_lo (by omega), toU8_lo (by omega)] at a1 a2
  omega
theorem nmI_name {i : Nat} (hi : i < 300) : isName (nmI i) := by
  have h1 := toU8_lo (a := i / 26) (by omega)
  have h2 := toU8_lo (a := i % 26) (by omega)
  show [toU8 ((97 + i / 26 : Nat) : Int), toU8 ((97 + i % 26 : Nat) : Int)].length ≤ 31 ∧ isLo 97 ∧ namy [toU8 ((97 + i / 26 : Nat) : Int), toU8 ((97 + i % 26 : Nat) : Int)]
  refine ⟨by simp, by decide, fun x hx => ?_⟩
  left
  simp only [List.mem_cons, List.not_mem_nil, or_false] at hx
  unfold isLo
  rcases hx with rfl | rfl <;> omega
theorem dls_mem {a k : Nat} {x : TypeDecl} (h : x ∈ dls a k) : ∃ i, a ≤ i ∧ i < a + k ∧ x = dlI i := by
  obtain ⟨i, hi, rfl⟩ := List.mem_map.1 h
  rw [List.mem_range'_1] at hi
  exact ⟨i, hi.1, hi.2, rfl⟩
theorem dls_nodup {k : Nat} (hk : k < 299) : (nms (dls 1 k)).Nodup := by
  unfold nms dls
  rw [List.map_map]
  unfold List.Nodup
  rw [List.pairwise_map]
  refine List.Pairwise.imp_of_mem (fun {i j} hi hj hne e => hne ?_) (List.nodup_range' (s := 1) (n := k))
  rw [List.mem_range'_1] at hi hj
  exact nmI_inj (by omega) (by omega) e
theorem namesE_zero : ∀ (t : List TypeDecl) (pre : List (List UInt8)), (∀ x ∈ t, isName x.Name) → (pre ++ nms t).Nodup → namesE pre t = 0
  | [], pre, _, _ => rfl
  | x :: t, pre, h, hn => by
    have hx : x.Name ∉ pre := fun hm => by
      rw [List.nodup_append] at hn
      exact hn.2.2 x.Name hm x.Name (by simp) rfl
    unfold namesE
    rw [if_pos (h x (by simp)), if_neg hx, namesE_zero t _ (fun y hy => h y (by simp [hy])) (by simpa using hn)]
theorem linksE_zero (N : List (List UInt8)) (hN : [116] ∈ N) : ∀ t : List TypeDecl, (∀ x ∈ t, x.Supers = [] ∨ x.Supers = [[116]]) → linksE N t = some 0
  | [], _ => rfl
  | x :: t, h => by
    unfold linksE
    rw [linksE_zero N hN t (fun y hy => h y (by simp [hy]))]
    rcases h x (by simp) with e | e
    · rw [e]; rfl
    · rw [e]; unfold linkE; rw [if_pos hN, if_neg (by simp)]; rfl
theorem topsN_zero : ∀ t : List TypeDecl, (∀ x ∈ t, x.Supers = [[116]]) → topsN t = 0
  | [], _ => rfl
  | x :: t, h => by unfold topsN; rw [topsN_zero t (fun y hy => h y (by simp [hy])), h x (by simp)]; rfl
/-- one most general type, and others right below it -/
structure Flat (x : TypeDecl) (D : List TypeDecl) : Prop where
  nm : x.Name = [116]
  sup : x.Supers = []
  ft : x.Feats.length ≤ 256
  below : ∀ y ∈ D, y.Supers = [[116]] ∧ y.Feats = [] ∧ isName y.Name
  nd : (nms (x :: D)).Nodup
  len : D.length ≤ 255
theorem Flat.check {x : TypeDecl} {D : List TypeDecl} (h : Flat x D) (n : Nat) (hn : 3000 ≤ n) : poset_Check n (x :: D) = some 0 := by
  have hl : lightD (x :: D) := ⟨by have := h.len; simp; omega, fun y hy => by
    rcases List.mem_cons.1 hy with rfl | hy
    · rw [h.sup]; exact ⟨by simp, h.ft⟩
    · rw [(h.below y hy).1, (h.below y hy).2.1]; exact ⟨by simp, by simp⟩⟩
  have hN : [116] ∈ nms (x :: D) := by rw [nms_cons, h.nm]; simp
  have e1 : namesE [] (x :: D) = 0 := namesE_zero _ _ (fun y hy => by
    rcases List.mem_cons.1 hy with rfl | hy
    · rw [h.nm]; decide
    · exact (h.below y hy).2.2) (by simpa using h.nd)
  have e2 : linksE (nms (x :: D)) (x :: D) = some 0 := linksE_zero _ hN _ (fun y hy => by
    rcases List.mem_cons.1 hy with rfl | hy
    · exact .inl h.sup
    · exact .inr (h.below y hy).1)
  have e3 : topsN (x :: D) = 1 := by unfold topsN; rw [topsN_zero D (fun y hy => (h.below y hy).1), h.sup]; rfl
  obtain ⟨b1, b2⟩ := namesE_ok (x :: D) [] e1 List.nodup_nil
  simp only [List.nil_append] at b1
  obtain ⟨c, c1, c2⟩ := linksE_tot (nms (x :: D)) (x :: D)
  have hc : c = 0 := by rw [e2] at c1; exact (Option.some.inj c1).symm
  have hd : Wf (x :: D) := ⟨hl, b1, b2, fun y hy => (c2 hc y hy).1, fun y hy => (c2 hc y hy).2⟩
  obtain ⟨o, o1, o2, o3⟩ := ordered_eq n (x :: D) hd hn
  have hT : [116] ∈ o := Classical.byContradiction fun hn' => by
    refine o3.full [116] ⟨hN, hn', fun s hs => ?_⟩
    have : supOf (x :: D) [116] = [] := by unfold supOf; rw [if_pos h.nm, h.sup]
    rw [this] at hs; cases hs
  have hall : ∀ y ∈ nms (x :: D), y ∈ o := fun y hy => Classical.byContradiction fun hn' => by
    refine o3.full y ⟨hy, hn', fun s hs => ?_⟩
    obtain ⟨z, hz, rfl⟩ := mem_nms.1 hy
    rw [supOf_of h.nd hz] at hs
    rcases List.mem_cons.1 hz with rfl | hz
    · rw [h.sup] at hs; cases hs
    · rw [(h.below z hz).1] at hs
      simp at hs
      subst hs
      exact hT
  have hle := nodup_lenK (nms (x :: D)) o h.nd hall
  rw [nms_len] at hle
  have h0 := hl.1
  unfold poset_Check
  rw [long_eq n (x :: D) (by omega) hl, (names_eq n (x :: D) (by omega) hl).1]
  simp only [bind_some', Bool.false_eq_true, if_false, e1, ne_eq, not_true]
  rw [(links_eq n (x :: D) (by omega) hl b1).1, e2]
  simp only [bind_some', not_true, if_false, jn_def]
  rw [tops_p n (x :: D) _ (x :: D) n 0 0 rfl (by omega) (by omega)]
  simp only [Nat.zero_add, o1, bind_some', e3, not_true, if_false]
  rw [if_neg (by omega)]
/-- too much -/
theorem long_check (n : Nat) (d : List TypeDecl) (h : poset_long n d = some true) : poset_Check n d = some 7 := by
  unfold poset_Check
  rw [h]
  simp
theorem long_many (n : Nat) (d : List TypeDecl) (h : 256 < d.length) : poset_long n d = some true := by
  unfold poset_long
  rw [if_pos h]
theorem long_first (n : Nat) (hn : 100 ≤ n) (x : TypeDecl) (D : List TypeDecl) (hx : 256 < x.Feats.length ∨ 256 < x.Supers.length) : poset_long n (x :: D) = some true := by
  obtain ⟨m, rfl⟩ : ∃ m, n = m + 1 := ⟨n - 1, by omega⟩
  by_cases hl : 256 < (x :: D).length
  · exact long_many _ _ hl
  · unfold poset_long slices_ContainsFunc_TypeDecl slices_IndexFunc_TypeDecl
    rw [if_neg hl, slices_IndexFunc_TypeDecl_L0, if_pos (by simp)]
    have e : poset_long_1 (m + 1) x = some true := by
      unfold poset_long_1
      rcases hx with hx | hx
      · by_cases h2 : 256 < x.Supers.length
        · rw [if_pos h2]
        · rw [if_neg h2]; simp [hx]
      · rw [if_pos hx]
    have e0 : (x :: D)[0]? = some x := rfl
    rw [e0, bind_some', e]
    simp
theorem long_second (n : Nat) (hn : 100 ≤ n) (x y : TypeDecl) (D : List TypeDecl) (hx : x.Supers.length ≤ 256 ∧ x.Feats.length ≤ 256) (hy : 256 < y.Feats.length ∨ 256 < y.Supers.length) : poset_long n (x :: y :: D) = some true := by
  obtain ⟨m, rfl⟩ : ∃ m, n = m + 2 := ⟨n - 2, by omega⟩
  by_cases hl : 256 < (x :: y :: D).length
  · exact long_many _ _ hl
  · unfold poset_long slices_ContainsFunc_TypeDecl slices_IndexFunc_TypeDecl
    rw [if_neg hl, slices_IndexFunc_TypeDecl_L0, if_pos (by simp)]
    have e : poset_long_1 (m + 2) x = some false := by
      unfold poset_long_1
      rw [if_neg (by omega)]
      simp; omega
    have e' : poset_long_1 (m + 2) y = some true := by
      unfold poset_long_1
      rcases hy with hy | hy
      · by_cases h2 : 256 < y.Supers.length
        · rw [if_pos h2]
        · rw [if_neg h2]; simp [hy]
      · rw [if_pos hy]
    have e0 : (x :: y :: D)[0]? = some x := rfl
    have e1 : (x :: y :: D)[1]? = some y := rfl
    rw [e0, bind_some', e, bind_some', if_neg (by simp), slices_IndexFunc_TypeDecl_L0, if_pos (by simp), e1, bind_some', e']
    simp
def fds (k : Nat) : List FeatDecl := List.replicate k (FeatDecl.mk [70] [116])
def reps (k : Nat) : List (List UInt8) := List.replicate k [116]
theorem dup_check (n : Nat) (hn : 3000 ≤ n) : poset_Check n [tI, TypeDecl.mk [97] (reps 256) []] = some 4 := by
  have hl : lightD [tI, TypeDecl.mk [97] (reps 256) []] := ⟨by simp, fun y hy => by
    simp only [List.mem_cons, List.not_mem_nil, or_false] at hy
    rcases hy with rfl | rfl
    · simp [tI]
    · exact ⟨Nat.le_of_eq List.length_replicate, Nat.zero_le _⟩⟩
  have e1 : namesE [] [tI, TypeDecl.mk [97] (reps 256) []] = 0 := namesE_zero _ _ (fun y hy => by
    simp only [List.mem_cons, List.not_mem_nil, or_false] at hy
    rcases hy with rfl | rfl
    · show isName [116]; decide
    · show isName [97]; decide) (by show ([[116], [97]] : List (List UInt8)).Nodup; decide)
  obtain ⟨b1, b2⟩ := namesE_ok _ [] e1 List.nodup_nil
  simp only [List.nil_append] at b1
  have e2 : linksE (nms [tI, TypeDecl.mk [97] (reps 256) []]) [tI, TypeDecl.mk [97] (reps 256) []] = some 4 := by
    have hr : reps 256 = [116] :: [116] :: reps 254 := rfl
    have hN : [116] ∈ nms [tI, TypeDecl.mk [97] (reps 256) []] := by show ([116] : List UInt8) ∈ [[116], [97]]; simp
    generalize nms [tI, TypeDecl.mk [97] (reps 256) []] = N at hN
    show linkE N [] [] (linkE N [] (reps 256) (linksE N [])) = some 4
    rw [hr]
    show linkE N [] ([116] :: [116] :: reps 254) (linksE N []) = some 4
    unfold linkE
    rw [if_pos hN, if_neg (by simp)]
    unfold linkE
    rw [if_pos hN, if_pos (by simp)]
  unfold poset_Check
  rw [long_eq n _ (by omega) hl, (names_eq n _ (by omega) hl).1]
  simp only [bind_some', Bool.false_eq_true, if_false, e1, ne_eq, not_true]
  rw [(links_eq n _ (by omega) hl b1).1, e2]
  simp
theorem flat_many : Flat tI (dls 1 255) := by
  refine ⟨rfl, rfl, by simp [tI], fun y hy => ?_, ?_, by simp [dls]⟩
  · obtain ⟨i, h1, h2, rfl⟩ := dls_mem hy
    exact ⟨rfl, rfl, nmI_name (by omega)⟩
  · rw [nms_cons, List.nodup_cons]
    refine ⟨fun hm => ?_, dls_nodup (by omega)⟩
    obtain ⟨y, hy, e⟩ := mem_nms.1 hm
    obtain ⟨i, h1, h2, rfl⟩ := dls_mem hy
    have := congrArg List.length e
    simp [dlI, nmI, tI] at this
theorem flat_feats : Flat (TypeDecl.mk [116] [] (fds 256)) [] := ⟨rfl, rfl, Nat.le_of_eq List.length_replicate, by simp, by simp, by simp⟩
end Go.Proofs.Ytoeolfnjblibpaa

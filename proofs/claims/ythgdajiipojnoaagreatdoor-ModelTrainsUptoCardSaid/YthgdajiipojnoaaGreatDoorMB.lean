/- Chapter 37: plain laws of training -/
import Derived.Test.YthgdajiipojnoaaGreatDoorMA
namespace Go.Proofs.YthgdajiipojnoaaGreatDoor
open Go.Gl Go.Sort
set_option linter.unusedVariables false
set_option linter.unusedSimpArgs false
/-! maps; what is learned -/
theorem mget_mset {α : Type} (k j : List UInt8) (v : α) : ∀ kv : List (List UInt8 × α), mget (mset kv k v) j = if j = k then some v else mget kv j
  | [] => by
    by_cases h : j = k
    · subst h; simp [mset, mget]
    · simp [mset, mget, h]
  | (a, x) :: t => by
    have ih := mget_mset k j v t
    by_cases h : k = a
    · subst h
      by_cases h2 : j = k
      · subst h2; simp [mset, mget]
      · simp [mset, mget, h2]
    · by_cases h2 : j = a
      · subst h2
        have h' : ¬ j = k := fun e => h e.symm
        simp [mset, mget, h, h']
      · simp [mset, mget, h, h2, ih]
theorem nodup_lenS : ∀ (l S : List (List UInt8)), l.Nodup → (∀ x ∈ l, x ∈ S) → l.length ≤ S.length
  | [], S, _, _ => by simp
  | x :: l, S, h, hs => by
    obtain ⟨h1, h2⟩ := List.nodup_cons.1 h
    have hx := hs x (by simp)
    have := nodup_lenS l (S.erase x) h2 (fun y hy => (List.mem_erase_of_ne (fun (e : y = x) => h1 (e ▸ hy))).2 (hs y (by simp [hy])))
    rw [List.length_erase_of_mem hx] at this
    have := List.length_pos_of_mem hx
    simp; omega
abbrev KV := List (List UInt8 × Int)
def ks (W : KV) : List (List UInt8) := W.map (·.1)
theorem mget_of_mem : ∀ {W : KV} {p : List UInt8 × Int}, (ks W).Nodup → p ∈ W → mget W p.1 = some p.2
  | (a, x) :: t, p, hn, hp => by
    obtain ⟨h1, h2⟩ := List.nodup_cons.1 hn
    rcases List.mem_cons.1 hp with rfl | hp
    · simp [mget]
    · have hne : ¬ p.1 = a := fun e => h1 (e ▸ List.mem_map.2 ⟨p, hp, rfl⟩)
      simp only [mget, hne, if_false]
      exact mget_of_mem h2 hp
theorem mget_iff {W : KV} (hn : (ks W).Nodup) {s : List UInt8} {v : Int} : mget W s = some v ↔ (s, v) ∈ W := ⟨mget_mem, fun h => mget_of_mem hn h⟩
theorem mget_ks {W : KV} (hn : (ks W).Nodup) {s : List UInt8} : s ∈ ks W ↔ ∃ v, mget W s = some v := by
  constructor
  · intro h
    obtain ⟨p, hp, rfl⟩ := List.mem_map.1 h
    exact ⟨p.2, mget_of_mem hn hp⟩
  · rintro ⟨v, hv⟩
    exact List.mem_map.2 ⟨(s, v), mget_mem hv, rfl⟩
theorem picks_spec {W R : KV} {p : List UInt8 × Int} (h : Picks W p R) (hn : (ks W).Nodup) : p ∈ W ∧ R.length + 1 = W.length ∧ (ks R).Nodup ∧ ∀ s, mget R s = if s = p.1 then none else mget W s := by
  obtain ⟨q, h1, rfl⟩ := h
  have hq := (List.getElem?_eq_some_iff.1 h1).1
  have hR : (ks (W.eraseIdx q)).Nodup := List.Sublist.nodup (List.Sublist.map _ (List.eraseIdx_sublist W q)) hn
  refine ⟨List.mem_of_getElem? h1, by rw [List.length_eraseIdx, if_pos hq]; omega, hR, fun s => ?_⟩
  have key : ∀ v, mget (W.eraseIdx q) s = some v ↔ (if s = p.1 then none else mget W s) = some v := by
    intro v
    rw [mget_iff hR, List.mem_eraseIdx_iff_getElem?]
    constructor
    · rintro ⟨j, hj, hjs⟩
      have hne : ¬ s = p.1 := fun e => by
        have hjl := (List.getElem?_eq_some_iff.1 hjs).1
        have e1 : (ks W)[j]? = some s := by unfold ks; rw [List.getElem?_map, hjs]; rfl
        have e2 : (ks W)[q]? = some s := by unfold ks; rw [List.getElem?_map, h1, e]; rfl
        obtain ⟨a1, a2⟩ := List.getElem?_eq_some_iff.1 e1
        obtain ⟨b1, b2⟩ := List.getElem?_eq_some_iff.1 e2
        exact hj ((List.getElem_inj hn).1 (a2.trans b2.symm))
      rw [if_neg hne, mget_iff hn]
      exact List.mem_of_getElem? hjs
    · intro hv
      by_cases e : s = p.1
      · rw [if_pos e] at hv; cases hv
      · rw [if_neg e, mget_iff hn] at hv
        obtain ⟨j, hj⟩ := List.getElem?_of_mem hv
        refine ⟨j, fun ej => ?_, hj⟩
        rw [ej, h1] at hj
        cases hj
        exact e rfl
  cases h2 : mget (W.eraseIdx q) s with
  | some v => exact ((key v).1 h2).symm
  | none =>
    cases h3 : (if s = p.1 then none else mget W s) with
    | none => rfl
    | some v => rw [(key v).2 h3] at h2; cases h2
/-- all entries put in, one after the other -/
def ins (l W : KV) : KV := l.foldl (fun W p => mset W p.1 p.2) W
theorem ins_spec : ∀ (l W : KV), (ks l).Nodup → (ks W).Nodup → (ks (ins l W)).Nodup ∧ ∀ s, mget (ins l W) s = match mget l s with
    | some v => some v
    | none => mget W s
  | [], W, _, hW => ⟨hW, fun s => rfl⟩
  | (a, x) :: t, W, hn, hW => by
    obtain ⟨h1, h2⟩ := List.nodup_cons.1 hn
    obtain ⟨r1, r2⟩ := ins_spec t (mset W a x) h2 (mset_nodup hW)
    refine ⟨r1, fun s => (r2 s).trans ?_⟩
    by_cases e : s = a
    · subst e
      have h3 : mget t s = none := by
        cases h4 : mget t s with
        | none => rfl
        | some v => exact absurd (List.mem_map.2 ⟨(s, v), mget_mem h4, rfl⟩) h1
      rw [h3, mget_mset, if_pos rfl]
      simp [mget]
    · have h5 : mget ((a, x) :: t) s = mget t s := by simp [mget, e]
      rw [h5]
      cases mget t s with
      | some v => rfl
      | none => show mget (mset W a x) s = mget W s; rw [mget_mset, if_neg e]
def clip (z : Int) : Int := if 1048576 < if z < -1048576 then -1048576 else z then 1048576 else if z < -1048576 then -1048576 else z
theorem clip_bound (z : Int) : -1048576 ≤ clip z ∧ clip z ≤ 1048576 := by
  unfold clip
  (repeat' split) <;> omega
def ent (W : KV) (s : List UInt8) : Option Weight := if (mget W s).getD 0 ≠ 0 then some (Weight.mk s ((mget W s).getD 0)) else none
def outW (W : KV) : List Weight := (sortS (ks W)).filterMap (ent W)
theorem learned_L2 (n : Nat) (W : KV) (K : List (List UInt8)) (k : List Weight → Option Model) : ∀ (t : List (List UInt8)) (m i : Nat) (out : List Weight), K.drop i = t → t.length < m → out.length + t.length ≤ 100000000 → model_learned_L2 n W K k m i out = k (out ++ t.filterMap (ent W))
  | [], m + 1, i, out, h, _, _ => by rw [model_learned_L2, if_neg (drop_nil' h)]; simp
  | x :: t, m + 1, i, out, h, hm, hb => by
    obtain ⟨h1, h2, h3⟩ := drop_cons h
    rw [List.length_cons] at hb
    rw [model_learned_L2, if_pos h1, h2, bind_some', List.filterMap_cons]
    by_cases e : (mget W x).getD 0 ≠ 0
    · have e1 : ent W x = some (Weight.mk x ((mget W x).getD 0)) := by unfold ent; rw [if_pos e]
      rw [if_pos e, chk_pos (by rw [List.length_singleton]; omega), learned_L2 n W K k t m (i + 1) _ h3 (by simpa using hm) (by rw [List.length_append, List.length_singleton]; omega), e1]
      simp
    · have e1 : ent W x = none := by unfold ent; rw [if_neg e]
      rw [if_neg e, learned_L2 n W K k t m (i + 1) _ h3 (by simpa using hm) (by omega), e1]
theorem tail_eq (n : Nat) (W : KV) (hl : W.length ≤ 9000000) (hn : 9500000 ≤ n) (hk : ∀ p ∈ W, p.1.length ≤ 9223372036854775807) : ((sortedKeys n W).bind fun r55 => jn (fun (b_63 : (List Weight)) => some (Model.mk b_63)) (fun k62 => model_learned_L2 n W r55 k62 n 0 [])) = some (Model.mk (outW W)) := by
  have e : sortedKeys n W = some (sortS (ks W)) := by
    unfold sortedKeys
    rw [chk_pos ⟨by omega, hk⟩]
    rfl
  have hlen : (sortS (ks W)).length = W.length := by rw [sortS_len]; simp [ks]
  rw [e, bind_some', jn_def, learned_L2 n W (sortS (ks W)) _ (sortS (ks W)) n 0 [] rfl (by omega) (by simp; omega)]
  rfl
theorem learned_L1 (n : Nat) (k : KV → Option Model) (b : List Weight) (hv : okV b) (r : Model) (G : List UInt8 → Option Int) (hk : ∀ W : KV, (ks W).Nodup → (∀ s, mget W s = G s) → k W = some r) : ∀ (m : Nat) (W rest : KV), rest.length < m → (ks W).Nodup → (ks rest).Nodup → (∀ p ∈ rest, (mget W p.1).getD 0 = wt b p.1 ∧ -1000000000 ≤ p.2 ∧ p.2 ≤ 1000000000) → (∀ s, G s = match mget rest s with
    | some v => some (clip (wt b s + v))
    | none => mget W s) → model_learned_L1 n k m W rest = some r
  | 0, _, _, h, _, _, _, _ => by omega
  | m + 1, W, rest, hm, hW, hR, hp, hG => by
    rw [model_learned_L1]
    by_cases q : 0 < rest.length
    · rw [if_pos q]
      refine agree_of q (fun p rest' hpk => ?_)
      obtain ⟨p1, p2, p3, p4⟩ := picks_spec hpk hR
      obtain ⟨b1, b2⟩ := wt_bound hv p.1
      obtain ⟨c1, c2, c3⟩ := hp p p1
      have hpR := mget_of_mem hR p1
      rw [c1, chk_pos (by omega)]
      refine learned_L1 n k b hv r G hk m (mset W p.1 (clip (wt b p.1 + p.2))) rest' (by omega) (mset_nodup hW) p3 (fun p' hp' => ?_) (fun s => ?_)
      · have h1 := mget_of_mem p3 hp'
        rw [p4] at h1
        by_cases e : p'.1 = p.1
        · rw [if_pos e] at h1; cases h1
        · rw [if_neg e] at h1
          rw [mget_mset, if_neg e]
          exact hp p' (mget_mem h1)
      · rw [hG s, p4 s, mget_mset]
        by_cases e : s = p.1
        · subst e
          rw [if_pos rfl, if_pos rfl, hpR]
        · rw [if_neg e, if_neg e]
    · rw [if_neg q]
      have e : rest = [] := List.length_eq_zero_iff.1 (by omega)
      subst e
      exact hk W hW (fun s => (hG s).symm)
theorem sortS_asc {l : List (List UInt8)} (h : l.Nodup) : (sortS l).Pairwise (· < ·) := by
  have h1 := sortS_sorted l
  have h2 : (sortS l).Nodup := (sortS_perm l).nodup_iff.2 h
  have key : ∀ (l : List (List UInt8)), l.Pairwise (· ≤ ·) → l.Nodup → l.Pairwise (· < ·) := by
    intro l
    induction l with
    | nil => intro _ _; exact .nil
    | cons x t ih =>
      intro a b
      obtain ⟨a1, a2⟩ := List.pairwise_cons.1 a
      obtain ⟨b1, b2⟩ := List.nodup_cons.1 b
      exact .cons (fun y hy => lt_of_le_ne (a1 y hy) (fun e => b1 (e ▸ hy))) (ih a2 b2)
  exact key _ h1 h2
theorem mem_outW {W : KV} {w : Weight} : w ∈ outW W ↔ w.Feature ∈ ks W ∧ w.Value = (mget W w.Feature).getD 0 ∧ w.Value ≠ 0 := by
  unfold outW
  rw [List.mem_filterMap]
  constructor
  · rintro ⟨s, h1, h2⟩
    unfold ent at h2
    split at h2
    · rename_i h3
      cases h2
      exact ⟨(sortS_perm _).mem_iff.1 h1, rfl, h3⟩
    · cases h2
  · rintro ⟨h1, h2, h3⟩
    refine ⟨w.Feature, (sortS_perm _).mem_iff.2 h1, ?_⟩
    unfold ent
    rw [if_pos (by rw [← h2]; exact h3), ← h2]
theorem outW_asc {W : KV} (hW : (ks W).Nodup) : (outW W).Pairwise (fun a b => a.Feature < b.Feature) := by
  refine List.Pairwise.filterMap (ent W) ?_ (sortS_asc hW)
  intro a a' h b hb b' hb'
  unfold ent at hb hb'
  split at hb
  · split at hb'
    · cases hb; cases hb'; exact h
    · cases hb'
  · cases hb
theorem outW_wt {W : KV} (hW : (ks W).Nodup) (s : List UInt8) : wt (outW W) s = (mget W s).getD 0 := by
  rcases wt_cases (l := outW W) s with ⟨h1, h2⟩ | ⟨w, h1, h2, h3⟩
  · rw [h1]
    cases hs : mget W s with
    | none => rfl
    | some v =>
      by_cases e : v = 0
      · rw [e]; rfl
      · exact absurd rfl (h2 ⟨s, v⟩ (mem_outW.2 ⟨(mget_ks hW).2 ⟨v, hs⟩, by rw [hs]; rfl, e⟩))
  · rw [h3, (mem_outW.1 h1).2.1, h2]
theorem outW_congr {W W' : KV} (hW : (ks W).Nodup) (hW' : (ks W').Nodup) (h : ∀ s, mget W s = mget W' s) : outW W = outW W' := by
  have h1 : sortS (ks W) = sortS (ks W') := by
    refine asc_eq _ _ (sortS_asc hW) (sortS_asc hW') (fun v => ?_)
    rw [(sortS_perm _).mem_iff, (sortS_perm _).mem_iff, mget_ks hW, mget_ks hW', h v]
  unfold outW
  rw [h1]
  congr 1
  funext s
  unfold ent
  rw [h s]
/-- weights are told by what they give each feature -/
theorem wt_unique {A B : List Weight} (hA : okV A) (hB : okV B) (h : ∀ s, wt A s = wt B s) : A = B := by
  have mem : ∀ {L : List Weight}, okV L → ∀ s, s ∈ L.map (·.Feature) ↔ wt L s ≠ 0 := fun {L} hL s => by
    constructor
    · intro q
      obtain ⟨w, hw, rfl⟩ := List.mem_map.1 q
      rw [wt_in hL.asc hw]
      exact hL.nz w hw
    · intro q
      rcases wt_cases (l := L) s with ⟨h1, _⟩ | ⟨w, h1, h2, _⟩
      · exact absurd h1 q
      · exact List.mem_map.2 ⟨w, h1, h2⟩
  have asc : ∀ {L : List Weight}, okV L → (L.map (·.Feature)).Pairwise (· < ·) := fun hL => List.pairwise_map.2 hL.asc
  have e1 : A.map (·.Feature) = B.map (·.Feature) := asc_eq _ _ (asc hA) (asc hB) (fun v => by rw [mem hA, mem hB, h v])
  have re : ∀ {L : List Weight}, okV L → L = (L.map (·.Feature)).map (fun s => Weight.mk s (wt L s)) := fun {L} hL => by
    rw [List.map_map]
    conv => lhs; rw [← List.map_id L]
    refine List.map_congr_left fun w hw => ?_
    show w = Weight.mk w.Feature (wt L w.Feature)
    rw [wt_in hL.asc hw]
  rw [re hA, re hB, e1]
  exact List.map_congr_left fun s _ => by rw [h s]
def kvB (b : List Weight) : KV := b.map fun w => (w.Feature, w.Value)
theorem ks_kvB (b : List Weight) : ks (kvB b) = b.map (·.Feature) := by simp [ks, kvB, List.map_map, Function.comp_def]
theorem kvB_nodup {b : List Weight} (h : b.Pairwise (fun a b => a.Feature < b.Feature)) : (ks (kvB b)).Nodup := by
  rw [ks_kvB]
  exact List.pairwise_map.2 (h.imp fun q e => by rw [e] at q; exact List.lt_irrefl _ q)
theorem kvB_get : ∀ (b : List Weight) (s : List UInt8), (mget (kvB b) s).getD 0 = wt b s
  | [], s => rfl
  | w :: t, s => by
    have ih := kvB_get t s
    show (mget ((w.Feature, w.Value) :: kvB t) s).getD 0 = if w.Feature = s then w.Value else wt t s
    by_cases e : s = w.Feature
    · rw [if_pos e.symm]; simp [mget, e]
    · rw [if_neg (fun q => e q.symm), ← ih]; simp [mget, e]
theorem learned_L0 (n : Nat) (M : Model) (k : KV → Option Model) : ∀ (t : List Weight) (m i : Nat) (W : KV), M.Weights.drop i = t → t.length < m → model_learned_L0 n M k m W i = k (ins (kvB t) W)
  | [], m + 1, i, W, h, _ => by rw [model_learned_L0, if_neg (drop_nil' h)]; rfl
  | x :: t, m + 1, i, W, h, hm => by
    obtain ⟨h1, h2, h3⟩ := drop_cons h
    rw [model_learned_L0, if_pos h1, h2, bind_some', learned_L0 n M k t m (i + 1) _ h3 (by simpa using hm)]
    rfl
theorem learned_spec (n : Nat) (b : List Weight) (C : KV) (hv : okV b) (hbl : b.length ≤ 4000000) (hbk : ∀ w ∈ b, w.Feature.length ≤ 1048576) (hC : (ks C).Nodup) (hCl : C.length ≤ 4500000) (hCk : ∀ p ∈ C, p.1.length ≤ 1048576 ∧ -1000000000 ≤ p.2 ∧ p.2 ≤ 1000000000) (hn : 9500000 ≤ n) :
    ∃ R, model_learned n (Model.mk b) C = some (Model.mk R) ∧ okV R ∧ (∀ s, wt R s = match mget C s with
      | some v => clip (wt b s + v)
      | none => wt b s) ∧ ∀ w ∈ R, w.Feature ∈ b.map (·.Feature) ∨ w.Feature ∈ ks C := by
  have hB := kvB_nodup hv.asc
  obtain ⟨i1, i2⟩ := ins_spec (kvB b) [] hB (by simp [ks])
  have hB0 : ∀ s, mget (ins (kvB b) []) s = mget (kvB b) s := fun s => by
    rw [i2 s]
    cases mget (kvB b) s <;> rfl
  let C' : KV := C.map fun p => (p.1, clip (wt b p.1 + p.2))
  have hC' : (ks C').Nodup := by
    have : ks C' = ks C := by simp [ks, C', List.map_map, Function.comp_def]
    rw [this]; exact hC
  have hC'g : ∀ s, mget C' s = (mget C s).map fun v => clip (wt b s + v) := by
    have key : ∀ (D : KV) (s : List UInt8), mget (D.map fun p => (p.1, clip (wt b p.1 + p.2))) s = (mget D s).map fun v => clip (wt b s + v) := by
      intro D s
      induction D with
      | nil => rfl
      | cons p t ih =>
        obtain ⟨a, x⟩ := p
        rw [List.map_cons]
        by_cases e : s = a
        · subst e; simp [mget]
        · simp [mget, e, ih]
    exact key C
  obtain ⟨w1, w2⟩ := ins_spec C' (ins (kvB b) []) hC' i1
  have hG : ∀ s, mget (ins C' (ins (kvB b) [])) s = match mget C s with
      | some v => some (clip (wt b s + v))
      | none => mget (ins (kvB b) []) s := fun s => by
    rw [w2 s, hC'g s]
    cases mget C s <;> rfl
  have keysOf : ∀ W : KV, (ks W).Nodup → (∀ s, mget W s = mget (ins C' (ins (kvB b) [])) s) → ∀ s ∈ ks W, s ∈ b.map (·.Feature) ∨ s ∈ ks C := by
    intro W hW hWg s hs
    obtain ⟨v, hv'⟩ := (mget_ks hW).1 hs
    rw [hWg, hG] at hv'
    cases hc : mget C s with
    | some x => exact .inr (List.mem_map.2 ⟨(s, x), mget_mem hc, rfl⟩)
    | none =>
      rw [hc] at hv'
      have hv2 : mget (kvB b) s = some v := by rw [← hB0]; exact hv'
      exact .inl (by rw [← ks_kvB]; exact List.mem_map.2 ⟨(s, v), mget_mem hv2, rfl⟩)
  refine ⟨outW (ins C' (ins (kvB b) [])), ?_, ?_, ?_, ?_⟩
  · unfold model_learned
    rw [jn_def, learned_L0 n (Model.mk b) _ b n 0 [] rfl (by omega), jn_def]
    refine learned_L1 n _ b hv _ (fun s => mget (ins C' (ins (kvB b) [])) s) (fun W hW hWg => ?_) n (ins (kvB b) []) C (by omega) i1 hC (fun p hp => ?_) hG
    · have hlen : W.length ≤ 8500000 := by
        have := nodup_lenS (ks W) (b.map (·.Feature) ++ ks C) hW (fun s hs => List.mem_append.2 (keysOf W hW hWg s hs))
        rw [List.length_append, List.length_map] at this
        simp only [ks, List.length_map] at this
        omega
      have := tail_eq n W (by omega) (by omega) (fun p hp => by
        rcases keysOf W hW hWg p.1 (List.mem_map.2 ⟨p, hp, rfl⟩) with q | q
        · obtain ⟨w, hw, e⟩ := List.mem_map.1 q
          have := hbk w hw
          rw [← e]; omega
        · obtain ⟨p', hp', e⟩ := List.mem_map.1 q
          have := (hCk p' hp').1
          have e' : p'.1 = p.1 := e
          rw [← e']; omega)
      rw [outW_congr hW w1 hWg] at this
      exact this
    · refine ⟨?_, (hCk p hp).2⟩
      rw [hB0, kvB_get]
  · have hm : ∀ w ∈ outW (ins C' (ins (kvB b) [])), -1048576 ≤ w.Value ∧ w.Value ≤ 1048576 := fun w hw => by
      obtain ⟨_, q2, _⟩ := mem_outW.1 hw
      rw [hG] at q2
      cases hc : mget C w.Feature with
      | some x =>
        rw [hc] at q2
        have q3 : w.Value = clip (wt b w.Feature + x) := q2
        rw [q3]; exact clip_bound _
      | none =>
        rw [hc] at q2
        have q3 : w.Value = (mget (ins (kvB b) []) w.Feature).getD 0 := q2
        rw [q3, hB0, kvB_get]; exact wt_bound hv _
    exact ⟨fun w hw => (mem_outW.1 hw).2.2, fun w hw => (hm w hw).1, fun w hw => (hm w hw).2, outW_asc w1⟩
  · intro s
    rw [outW_wt w1, hG]
    cases hc : mget C s with
    | some x => rfl
    | none => show (mget (ins (kvB b) []) s).getD 0 = wt b s; rw [hB0, kvB_get]
  · intro w hw
    exact keysOf _ w1 (fun s => rfl) _ (mem_outW.1 hw).1
/-! training -/
theorem eta (d : Deriv) : Deriv.mk d.Kind d.Name d.From d.To d.Kids = d := by cases d; rfl
theorem Train_L3 (n : Nat) (X : List (List UInt8)) (k : KV → Option (Model × Int)) : ∀ (t : List (List UInt8)) (m i : Nat) (W : KV) (A : Int), X.drop i = t → t.length < m → (ks W).Nodup → (∀ s, -A ≤ (mget W s).getD 0 ∧ (mget W s).getD 0 ≤ A) → A + (t.length : Int) ≤ 1000000000 → ∃ W', model_Train_L3 n X k m W i = k W' ∧ (ks W').Nodup ∧ ∀ s, mget W' s = if s ∈ t then some ((mget W s).getD 0 + (t.count s : Int)) else mget W s
  | [], m + 1, i, W, A, h, _, hW, _, _ => ⟨W, by rw [model_Train_L3, if_neg (drop_nil' h)], hW, fun s => by simp⟩
  | x :: t, m + 1, i, W, A, h, hm, hW, hA, hb => by
    obtain ⟨h1, h2, h3⟩ := drop_cons h
    rw [List.length_cons] at hb
    have hx := hA x
    have hA' : ∀ s, -(A + 1) ≤ (mget (mset W x ((mget W x).getD 0 + 1)) s).getD 0 ∧ (mget (mset W x ((mget W x).getD 0 + 1)) s).getD 0 ≤ A + 1 := fun s => by
      rw [mget_mset]
      have := hA s
      split
      · show _ ≤ (mget W x).getD 0 + 1 ∧ (mget W x).getD 0 + 1 ≤ _; omega
      · omega
    obtain ⟨W', r1, r2, r3⟩ := Train_L3 n X k t m (i + 1) (mset W x ((mget W x).getD 0 + 1)) (A + 1) h3 (by simpa using hm) (mset_nodup hW) hA' (by omega)
    refine ⟨W', by rw [model_Train_L3, if_pos h1, h2, bind_some', chk_pos (by omega), r1], r2, fun s => ?_⟩
    rw [r3 s, mget_mset]
    by_cases e : s = x
    · subst e
      rw [if_pos rfl, List.count_cons_self]
      by_cases q : s ∈ t
      · rw [if_pos q, if_pos (by simp)]
        show some ((mget W s).getD 0 + 1 + (t.count s : Int)) = _
        congr 1; omega
      · rw [if_neg q, if_pos (by simp), List.count_eq_zero.2 q]
        congr 1
    · rw [if_neg e, List.count_cons_of_ne (fun q => e q.symm)]
      by_cases q : s ∈ t
      · rw [if_pos q, if_pos (by simp [q])]
      · rw [if_neg q, if_neg (by simp [q, e])]
theorem Train_L4 (n : Nat) (X : List (List UInt8)) (k : KV → Option (Model × Int)) : ∀ (t : List (List UInt8)) (m i : Nat) (W : KV) (A : Int), X.drop i = t → t.length < m → (ks W).Nodup → (∀ s, -A ≤ (mget W s).getD 0 ∧ (mget W s).getD 0 ≤ A) → A + (t.length : Int) ≤ 1000000000 → ∃ W', model_Train_L4 n X k m W i = k W' ∧ (ks W').Nodup ∧ ∀ s, mget W' s = if s ∈ t then some ((mget W s).getD 0 - (t.count s : Int)) else mget W s
  | [], m + 1, i, W, A, h, _, hW, _, _ => ⟨W, by rw [model_Train_L4, if_neg (drop_nil' h)], hW, fun s => by simp⟩
  | x :: t, m + 1, i, W, A, h, hm, hW, hA, hb => by
    obtain ⟨h1, h2, h3⟩ := drop_cons h
    rw [List.length_cons] at hb
    have hx := hA x
    have hA' : ∀ s, -(A + 1) ≤ (mget (mset W x ((mget W x).getD 0 - 1)) s).getD 0 ∧ (mget (mset W x ((mget W x).getD 0 - 1)) s).getD 0 ≤ A + 1 := fun s => by
      rw [mget_mset]
      have := hA s
      split
      · show _ ≤ (mget W x).getD 0 - 1 ∧ (mget W x).getD 0 - 1 ≤ _; omega
      · omega
    obtain ⟨W', r1, r2, r3⟩ := Train_L4 n X k t m (i + 1) (mset W x ((mget W x).getD 0 - 1)) (A + 1) h3 (by simpa using hm) (mset_nodup hW) hA' (by omega)
    refine ⟨W', by rw [model_Train_L4, if_pos h1, h2, bind_some', chk_pos (by omega), r1], r2, fun s => ?_⟩
    rw [r3 s, mget_mset]
    by_cases e : s = x
    · subst e
      rw [if_pos rfl, List.count_cons_self]
      by_cases q : s ∈ t
      · rw [if_pos q, if_pos (by simp)]
        show some ((mget W s).getD 0 - 1 - (t.count s : Int)) = _
        congr 1; omega
      · rw [if_neg q, if_pos (by simp), List.count_eq_zero.2 q]
        congr 1
    · rw [if_neg e, List.count_cons_of_ne (fun q => e q.symm)]
      by_cases q : s ∈ t
      · rw [if_pos q, if_pos (by simp [q])]
      · rw [if_neg q, if_neg (by simp [q, e])]
/-- what a feature weighs after one element -/
def FF (b : List Weight) (X Y : List (List UInt8)) (s : List UInt8) : Int := if s ∈ X ∨ s ∈ Y then clip (wt b s + ((X.count s : Int) - (Y.count s : Int))) else wt b s
def Step (b : List Weight) (j : Judged) (R : List Weight) : Prop := ∃ q bd g, bst (scD b) j.Readings 0 none = some (q, bd) ∧ j.Readings[q]? = some bd ∧ j.Readings[j.Gold.toNat]? = some g ∧ ((cmD bd g = 0 ∧ R = b) ∨ (cmD bd g ≠ 0 ∧ okV R ∧ ∀ s, wt R s = FF b (ftD g) (ftD bd) s))
theorem Step.unique {b R R' : List Weight} {j : Judged} (h : Step b j R) (k : Step b j R') : R = R' := by
  obtain ⟨q, bd, g, h1, _, h3, h4⟩ := h
  obtain ⟨q', bd', g', k1, _, k3, k4⟩ := k
  rw [h1] at k1; cases k1
  rw [h3] at k3; cases k3
  rcases h4 with ⟨a1, a2⟩ | ⟨a1, a2, a3⟩
  · rcases k4 with ⟨b1, b2⟩ | ⟨b1, _⟩
    · rw [a2, b2]
    · exact absurd a1 b1
  · rcases k4 with ⟨b1, _⟩ | ⟨_, b2, b3⟩
    · exact absurd b1 a1
    · exact wt_unique a2 b2 (fun s => by rw [a3, b3])
def Round (b : List Weight) : List Judged → List Weight → Prop
  | [], R => R = b
  | j :: t, R => ∃ c, Step b j c ∧ Round c t R
theorem Round.unique : ∀ {l : List Judged} {b R R' : List Weight}, Round b l R → Round b l R' → R = R'
  | [], b, R, R', h, k => by rw [show R = b from h, show R' = b from k]
  | j :: t, b, R, R', ⟨c, h1, h2⟩, ⟨c', k1, k2⟩ => by
    obtain rfl := h1.unique k1
    exact Round.unique h2 k2
def Rounds (l : List Judged) : Nat → List Weight → List Weight → Prop
  | 0, b, R => R = b
  | k + 1, b, R => ∃ c, Round b l c ∧ Rounds l k c R
theorem Rounds.unique {l : List Judged} : ∀ {k : Nat} {b R R' : List Weight}, Rounds l k b R → Rounds l k b R' → R = R'
  | 0, b, R, R', h, k => by rw [show R = b from h, show R' = b from k]
  | k + 1, b, R, R', ⟨c, h1, h2⟩, ⟨c', k1, k2⟩ => by
    obtain rfl := h1.unique k1
    exact Rounds.unique h2 k2
theorem Rounds.add {l : List Judged} {j : Nat} : ∀ {k : Nat} {b c R : List Weight}, Rounds l k b c → Rounds l j c R → Rounds l (k + j) b R
  | 0, b, c, R, h, k => by rw [show c = b from h] at k; rwa [Nat.zero_add]
  | k + 1, b, c, R, ⟨d, h1, h2⟩, h3 => by
    rw [show k + 1 + j = (k + j) + 1 by omega]
    exact ⟨d, h1, Rounds.add h2 h3⟩
/-- all features that may come -/
structure Uni (l : List Judged) (U : List (List UInt8)) : Prop where
  len : U.length ≤ 3500000
  each : ∀ s ∈ U, s.length ≤ 1048576
  ft : ∀ j ∈ l, ∀ d ∈ j.Readings, ∀ s ∈ ftD d, s ∈ U
  sz : ∀ j ∈ l, szL j.Readings ≤ 1048576
structure GoodB (U : List (List UInt8)) (b : List Weight) : Prop where
  v : okV b
  u : ∀ w ∈ b, w.Feature ∈ U
theorem GoodB.len {U : List (List UInt8)} {b : List Weight} (h : GoodB U b) : b.length ≤ U.length := by
  have := nodup_lenS (b.map (·.Feature)) U (List.pairwise_map.2 (h.v.asc.imp fun q e => by rw [e] at q; exact List.lt_irrefl _ q)) (fun s hs => by
    obtain ⟨w, hw, rfl⟩ := List.mem_map.1 hs
    exact h.u w hw)
  simpa using this
def gold (l : List Judged) : Prop := ∀ j ∈ l, 0 ≤ j.Gold ∧ j.Gold < (j.Readings.length : Int)
theorem Train_L2 (n : Nat) (l : List Judged) (U : List (List UInt8)) (hU : Uni l U) (hn : 9500000 ≤ n) (hg : gold l) (k : List Weight → Option (Model × Int)) : ∀ (t : List Judged) (p i : Nat) (b : List Weight), l.drop i = t → t.length < p → GoodB U b → ∃ R, model_Train_L2 n l k p i b = k R ∧ Round b t R ∧ GoodB U R
  | [], p + 1, i, b, h, _, hb => ⟨b, by rw [model_Train_L2, if_neg (drop_nil' h)], rfl, hb⟩
  | x :: t, p + 1, i, b, h, hp, hb => by
    obtain ⟨h1, h2, h3⟩ := drop_cons h
    have hx := List.mem_of_getElem? h2
    obtain ⟨g1, g2⟩ := hg x hx
    have hsz := hU.sz x hx
    have hbl := hb.len
    have hUl := hU.len
    have hne : x.Readings ≠ [] := fun e => by rw [e] at g2; simp at g2; omega
    obtain ⟨q, bd, e1, e2⟩ := bst_top (scD b) hne
    obtain ⟨gd, hgd⟩ : ∃ gd, x.Readings[x.Gold.toNat]? = some gd := ⟨_, List.getElem?_eq_getElem (by omega)⟩
    obtain ⟨t1, _⟩ := Best_eq n (Model.mk b) x.Readings hb.v (by show b.length ≤ _; omega) hsz (by omega)
    have hix1 : ix x.Readings (outI (some (q, bd))) = some bd := by
      show ix x.Readings (q : Int) = some bd
      rw [ix_nat]; exact e2.at_
    have hix2 : ix x.Readings x.Gold = some gd := by
      rw [show x.Gold = ((x.Gold.toNat : Nat) : Int) by omega, ix_nat]; exact hgd
    have hbm := List.mem_of_getElem? e2.at_
    have hgm := List.mem_of_getElem? hgd
    have hb1 := szL_mem hbm
    have hg1 := szL_mem hgm
    have hbf := ftD_len bd
    have hgf := ftD_len gd
    have et1 : model_Best n (Model.mk b) x.Readings = some (outI (some (q, bd))) := by rw [t1]; show some (outI (bst (scD b) _ 0 none)) = _; rw [e1]
    rw [model_Train_L2, if_pos h1, h2, bind_some', jn_def, et1, bind_some', hix1, bind_some', hix2, bind_some']
    dsimp only
    rw [eta, eta, Cmp_p n bd gd (by omega), bind_some']
    by_cases c : cmD bd gd = 0
    · rw [if_pos c]
      obtain ⟨R, r1, r2, r3⟩ := Train_L2 n l U hU hn hg k t p (i + 1) b h3 (by simpa using hp) hb
      exact ⟨R, r1, ⟨b, ⟨q, bd, gd, e1, e2.at_, hgd, .inl ⟨c, rfl⟩⟩, r2⟩, r3⟩
    · rw [if_neg c, Features_p n gd (by omega) (by omega), bind_some', jn_def]
      obtain ⟨C1, a1, a2, a3⟩ := Train_L3 n (ftD gd) (fun (t_138 : (List (List UInt8 × Int))) =>
      (model_Features n bd).bind fun r153 =>
      jn (fun (t_159 : (List (List UInt8 × Int))) =>
       (model_learned n (Model.mk b) t_159).bind fun r174 =>
       model_Train_L2 n l k p (i + 1) r174.Weights)
        (fun k158 =>
        model_Train_L4 n r153 k158 n t_138 0)) (ftD gd) n 0 [] 0 rfl (by omega) (by simp [ks]) (fun s => by show (-0 : Int) ≤ 0 ∧ (0 : Int) ≤ 0; omega) (by omega)
      rw [a1, Features_p n bd (by omega) (by omega), bind_some', jn_def]
      have hC1 : ∀ s, -((ftD gd).length : Int) ≤ (mget C1 s).getD 0 ∧ (mget C1 s).getD 0 ≤ ((ftD gd).length : Int) := fun s => by
        rw [a3 s]
        have hc : (ftD gd).count s ≤ (ftD gd).length := List.count_le_length
        split
        · show _ ≤ (0 : Int) + _ ∧ (0 : Int) + _ ≤ _; omega
        · show _ ≤ (0 : Int) ∧ (0 : Int) ≤ _; omega
      obtain ⟨C2, d1, d2, d3⟩ := Train_L4 n (ftD bd) (fun (t_159 : (List (List UInt8 × Int))) =>
       (model_learned n (Model.mk b) t_159).bind fun r174 =>
       model_Train_L2 n l k p (i + 1) r174.Weights) (ftD bd) n 0 C1 ((ftD gd).length : Int) rfl (by omega) a2 hC1 (by omega)
      rw [d1]
      have hC2 : ∀ s, mget C2 s = if s ∈ ftD gd ∨ s ∈ ftD bd then some (((ftD gd).count s : Int) - ((ftD bd).count s : Int)) else none := fun s => by
        rw [d3 s, a3 s]
        by_cases q1 : s ∈ ftD gd
        · by_cases q2 : s ∈ ftD bd
          · rw [if_pos q2, if_pos q1, if_pos (.inl q1)]
            show some ((0 : Int) + _ - _) = _
            congr 1; omega
          · rw [if_neg q2, if_pos q1, if_pos (.inl q1), List.count_eq_zero.2 q2]
            show some ((0 : Int) + _) = _
            congr 1; omega
        · by_cases q2 : s ∈ ftD bd
          · rw [if_pos q2, if_neg q1, if_pos (.inr q2), List.count_eq_zero.2 q1]
            show some ((0 : Int) - _) = _
            congr 1
          · rw [if_neg q2, if_neg q1, if_neg (fun z => by rcases z with z | z; exact q1 z; exact q2 z)]
            rfl
      have hkC : ∀ s ∈ ks C2, s ∈ ftD gd ++ ftD bd := fun s hs => by
        obtain ⟨v, hv⟩ := (mget_ks d2).1 hs
        rw [hC2 s] at hv
        split at hv
        · rename_i hz; exact List.mem_append.2 hz
        · cases hv
      have hCl : C2.length ≤ 4500000 := by
        have := nodup_lenS (ks C2) (ftD gd ++ ftD bd) d2 hkC
        rw [List.length_append] at this
        simp only [ks, List.length_map] at this
        omega
      have hfU : ∀ s, s ∈ ftD gd ++ ftD bd → s ∈ U := fun s hs => by
        rcases List.mem_append.1 hs with z | z
        · exact hU.ft x hx gd hgm s z
        · exact hU.ft x hx bd hbm s z
      obtain ⟨R1, m1, m2, m3, m4⟩ := learned_spec n b C2 hb.v (by omega) (fun w hw => hU.each _ (hb.u w hw)) d2 hCl (fun pr hpr => by
        have hk : pr.1 ∈ ks C2 := List.mem_map.2 ⟨pr, hpr, rfl⟩
        refine ⟨hU.each _ (hfU _ (hkC _ hk)), ?_⟩
        have hv := mget_of_mem d2 hpr
        rw [hC2 pr.1] at hv
        have hc1 : (ftD gd).count pr.1 ≤ (ftD gd).length := List.count_le_length
        have hc2 : (ftD bd).count pr.1 ≤ (ftD bd).length := List.count_le_length
        split at hv
        · have := Option.some.inj hv; omega
        · cases hv) hn
      have hR1 : GoodB U R1 := ⟨m2, fun w hw => by
        rcases m4 w hw with z | z
        · obtain ⟨w', hw', e⟩ := List.mem_map.1 z
          have e' : w'.Feature = w.Feature := e
          rw [← e']; exact hb.u w' hw'
        · exact hfU _ (hkC _ z)⟩
      rw [m1, bind_some']
      obtain ⟨R, r1, r2, r3⟩ := Train_L2 n l U hU hn hg k t p (i + 1) R1 h3 (by simpa using hp) hR1
      refine ⟨R, r1, ⟨R1, ⟨q, bd, gd, e1, e2.at_, hgd, .inr ⟨c, m2, fun s => ?_⟩⟩, r2⟩, r3⟩
      rw [m3 s, hC2 s]
      unfold FF
      by_cases z : s ∈ ftD gd ∨ s ∈ ftD bd
      · rw [if_pos z, if_pos z]
      · rw [if_neg z, if_neg z]
theorem Train_L1 (n : Nat) (l : List Judged) (U : List (List UInt8)) (hU : Uni l U) (hn : 9500000 ≤ n) (hg : gold l) (hl : l.length < n) (r : Nat) (hr : r ≤ 16) (k : List Weight → Option (Model × Int)) : ∀ (p i : Nat) (b : List Weight), i ≤ r → r - i < p → GoodB U b → ∃ R, model_Train_L1 n l (r : Int) k p i b = k R ∧ Rounds l (r - i) b R ∧ GoodB U R
  | 0, _, _, _, h, _ => by omega
  | p + 1, i, b, hi, hp, hb => by
    rw [model_Train_L1]
    by_cases q : i < r
    · rw [if_pos (by omega), jn_def]
      obtain ⟨R1, a1, a2, a3⟩ := Train_L2 n l U hU hn hg (fun (b_34 : (List Weight)) =>
    chk (i + 1 ≤ 9223372036854775807) (
    model_Train_L1 n l (r : Int) k p (i + 1) b_34)) l n 0 b rfl hl hb
      rw [a1, chk_pos (by omega)]
      obtain ⟨R, r1, r2, r3⟩ := Train_L1 n l U hU hn hg hl r hr k p (i + 1) R1 (by omega) (by omega) a3
      refine ⟨R, r1, ?_, r3⟩
      rw [show r - i = (r - (i + 1)) + 1 by omega]
      exact ⟨R1, a2, r2⟩
    · rw [if_neg (by omega)]
      refine ⟨b, rfl, ?_, hb⟩
      rw [show r - i = 0 by omega]
      rfl
theorem Train_L0 (n : Nat) (l : List Judged) (k : Option (Model × Int)) : ∀ (t : List Judged) (p i : Nat), l.drop i = t → t.length < p → (gold t ∧ model_Train_L0 n l k p i = k) ∨ (¬ gold t ∧ model_Train_L0 n l k p i = some (Model.mk [], 2))
  | [], p + 1, i, h, _ => .inl ⟨fun j hj => (by cases hj), by rw [model_Train_L0, if_neg (drop_nil' h)]⟩
  | x :: t, p + 1, i, h, hp => by
    obtain ⟨h1, h2, h3⟩ := drop_cons h
    rw [model_Train_L0, if_pos h1, h2, bind_some', jn_def]
    by_cases q1 : x.Gold < 0
    · rw [if_pos q1]
      exact .inr ⟨fun z => by have := (z x (by simp)).1; omega, rfl⟩
    · rw [if_neg q1]
      by_cases q2 : ((x.Readings.length : Nat) : Int) ≤ x.Gold
      · simp only [q2, decide_true, if_true]
        exact .inr ⟨fun z => by have := (z x (by simp)).2; omega, trivial⟩
      · simp only [q2, decide_false, Bool.false_eq_true, if_false]
        rcases Train_L0 n l k t p (i + 1) h3 (by simpa using hp) with ⟨a1, a2⟩ | ⟨a1, a2⟩
        · exact .inl ⟨fun j hj => by
            rcases List.mem_cons.1 hj with rfl | hj
            · omega
            · exact a1 j hj, a2⟩
        · exact .inr ⟨fun z => a1 (fun j hj => z j (by simp [hj])), a2⟩
theorem Train_eq (n : Nat) (m : Model) (l : List Judged) (U : List (List UInt8)) (hU : Uni l U) (hn : 9500000 ≤ n) (hl : l.length < n) (r : Nat) (hr : r ≤ 16) (hb : GoodB U m.Weights) : (gold l ∧ ∃ R, model_Train n m l (r : Int) = some (Model.mk R, 0) ∧ Rounds l r m.Weights R ∧ GoodB U R) ∨ (¬ gold l ∧ model_Train n m l (r : Int) = some (Model.mk [], 2)) := by
  unfold model_Train
  rw [jn_def, if_neg (by omega)]
  have q : ¬ (16 : Int) < (r : Int) := by omega
  simp only [q, decide_false, Bool.false_eq_true, if_false, jn_def]
  rcases Train_L0 n l (model_Train_L1 n l (r : Int) (fun (b_25 : (List Weight)) => some ((Model.mk b_25), 0)) n 0 m.Weights) l n 0 rfl hl with ⟨a1, a2⟩ | ⟨a1, a2⟩
  · left
    refine ⟨a1, ?_⟩
    obtain ⟨R, r1, r2, r3⟩ := Train_L1 n l U hU hn a1 hl r hr (fun (b_25 : (List Weight)) => some ((Model.mk b_25), 0)) n 0 m.Weights (Nat.zero_le _) (by omega) hb
    exact ⟨R, by rw [a2, r1], by simpa using r2, r3⟩
  · exact .inr ⟨a1, a2⟩
/-! training: its laws -/
theorem Check_gen (n : Nat) (m : Model) (hl : m.Weights.length < n) (hs : ∀ w ∈ m.Weights, w.Feature.length ≤ 1048576) (hn : 2000000 ≤ n) : ∃ c, model_Check n m = some c ∧ r37_Check n m = some c ∧ (c = 0 ↔ okM m.Weights) := by
  obtain ⟨c, c1, c2, c3⟩ := Check_L0 n m hs hn m.Weights n 0 rfl hl
  refine ⟨c, c1, c2, c3.trans ⟨fun h => ⟨h.1, ascFrom_pw h.2⟩, fun h => ⟨h.good, pw_ascFrom h.asc (fun q w e _ => by cases e)⟩⟩⟩
theorem Same_L0 (n : Nat) (m : Model) : ∀ (t : List Weight) (p i : Nat), m.Weights.drop i = t → t.length < p → r37_Same_L0 n m m p i = some true
  | [], p + 1, i, h, _ => by rw [r37_Same_L0, if_neg (drop_nil' h)]
  | x :: t, p + 1, i, h, hp => by
    obtain ⟨h1, h2, h3⟩ := drop_cons h
    rw [r37_Same_L0, if_pos h1, h2, bind_some', bind_some', if_pos rfl, Same_L0 n m t p (i + 1) h3 (by simpa using hp)]
theorem Same_self (n : Nat) (m : Model) (hl : m.Weights.length < n) : r37_Same n m m = some true := by
  unfold r37_Same
  rw [if_neg (by simp), Same_L0 n m m.Weights n 0 rfl hl]
theorem tr_len1 (nm : List UInt8) (ks : List Deriv) : ∀ s ∈ tr nm ks, s.length ≤ nm.length + szL ks + 1 := by
  intro s hs
  cases ks with
  | nil => cases hs
  | cons x t =>
    simp only [tr, List.mem_singleton] at hs
    rw [hs, List.length_append, List.length_cons]
    have := jo_len (x :: t)
    omega
mutual
theorem ftD_each : ∀ (d : Deriv), ∀ s ∈ ftD d, s.length ≤ szD d
  | ⟨a, nm, b, c, ks⟩, s, hs => by
    show s.length ≤ nm.length + szL ks + 1
    have hs' : s ∈ nm :: (tr nm ks ++ ftL ks) := hs
    rcases List.mem_cons.1 hs' with rfl | hs'
    · omega
    · rcases List.mem_append.1 hs' with h | h
      · exact tr_len1 nm ks s h
      · have := ftL_each ks s h; omega
theorem ftL_each : ∀ (l : List Deriv), ∀ s ∈ ftL l, s.length ≤ szL l
  | [], s, hs => by cases hs
  | d :: r, s, hs => by
    have hs' : s ∈ ftD d ++ ftL r := hs
    rw [szL_cons]
    rcases List.mem_append.1 hs' with h | h
    · have := ftD_each d s h; omega
    · have := ftL_each r s h; omega
end
theorem ftL_mem : ∀ {l : List Deriv} {d : Deriv}, d ∈ l → ∀ s ∈ ftD d, s ∈ ftL l
  | x :: l, d, h, s, hs => by
    show s ∈ ftD x ++ ftL l
    rcases List.mem_cons.1 h with rfl | h
    · exact List.mem_append.2 (.inl hs)
    · exact List.mem_append.2 (.inr (ftL_mem h s hs))
def ftJ : List Judged → List (List UInt8)
  | [] => []
  | j :: t => ftL j.Readings ++ ftJ t
theorem ftJ_mem : ∀ {l : List Judged} {j : Judged}, j ∈ l → ∀ s ∈ ftL j.Readings, s ∈ ftJ l
  | x :: l, j, h, s, hs => by
    show s ∈ ftL x.Readings ++ ftJ l
    rcases List.mem_cons.1 h with rfl | h
    · exact List.mem_append.2 (.inl hs)
    · exact List.mem_append.2 (.inr (ftJ_mem h s hs))
theorem ftJ_len : ∀ l : List Judged, (ftJ l).length ≤ 2 * (l.map szJ).sum
  | [] => by simp [ftJ]
  | j :: t => by
    have h1 := ftJ_len t
    have h2 := ftL_len j.Readings
    have h3 : szJ j = szL j.Readings + 3 := rfl
    show (ftL j.Readings ++ ftJ t).length ≤ _
    rw [List.length_append, List.map_cons, List.sum_cons]
    omega
theorem ftJ_each : ∀ (l : List Judged), ∀ s ∈ ftJ l, s.length ≤ (l.map szJ).sum
  | [], s, hs => by cases hs
  | j :: t, s, hs => by
    have hs' : s ∈ ftL j.Readings ++ ftJ t := hs
    have h3 : szJ j = szL j.Readings + 3 := rfl
    rw [List.map_cons, List.sum_cons]
    rcases List.mem_append.1 hs' with h | h
    · have := ftL_each _ s h; omega
    · have := ftJ_each t s h; omega
theorem sumJ_len : ∀ l : List Judged, 3 * l.length ≤ (l.map szJ).sum
  | [] => by simp
  | j :: t => by
    have := sumJ_len t
    have h3 : szJ j = szL j.Readings + 3 := rfl
    rw [List.length_cons, List.map_cons, List.sum_cons]
    omega
def uni (m : Model) (l : List Judged) : List (List UInt8) := m.Weights.map (·.Feature) ++ ftJ l
theorem uni_ok {m : Model} {l : List Judged} (hs : szM m + (l.map szJ).sum ≤ 1048576) : Uni l (uni m l) := by
  have h1 := szM_len m
  have h2 := ftJ_len l
  refine ⟨?_, fun s h => ?_, fun j hj d hd s hs' => ?_, fun j hj => ?_⟩
  · unfold uni; rw [List.length_append, List.length_map]; omega
  · rcases List.mem_append.1 h with h | h
    · obtain ⟨w, hw, rfl⟩ := List.mem_map.1 h
      have := szM_feat hw; omega
    · have := ftJ_each l s h; omega
  · exact List.mem_append.2 (.inr (ftJ_mem hj s (ftL_mem hd s hs')))
  · have := sum_mem (List.mem_map.2 ⟨j, hj, rfl⟩ : szJ j ∈ l.map szJ)
    have h3 : szJ j = szL j.Readings + 3 := rfl
    omega
theorem uni_good {m : Model} {l : List Judged} (h : okV m.Weights) : GoodB (uni m l) m.Weights := ⟨h, fun w hw => List.mem_append.2 (.inl (List.mem_map.2 ⟨w, hw, rfl⟩))⟩
theorem lightJ_L0 (n : Nat) (hn : 7000000 ≤ n) (l : List Judged) (hs : ∀ j ∈ l, szL j.Readings ≤ 1048576) (k : Option Bool) (hk : ∃ b, k = some b) : ∀ (t : List Judged) (p i : Nat), l.drop i = t → t.length < p → ∃ b, law37_lightJudged_L0 n l 60 k p i = some b
  | [], p + 1, i, h, _ => by
    rw [law37_lightJudged_L0, jn_def, if_neg (drop_nil' h)]
    exact hk
  | x :: t, p + 1, i, h, hp => by
    obtain ⟨h1, h2, h3⟩ := drop_cons h
    rw [law37_lightJudged_L0, jn_def, if_pos h1]
    by_cases q : i < 9
    · obtain ⟨b, b1⟩ := Light_some n hn x.Readings 60 (by omega) (hs x (List.mem_of_getElem? h2))
      simp only [q, decide_true, if_true, h2, bind_some', b1]
      cases b with
      | false => exact ⟨false, rfl⟩
      | true =>
        simp only [Bool.not_true, Bool.false_eq_true, if_false]
        rw [chk_pos (by omega)]
        exact lightJ_L0 n hn l hs k hk t p (i + 1) h3 (by simpa using hp)
    · simp only [q, decide_false, Bool.false_eq_true, if_false]
      exact hk
theorem lightJ_some (n : Nat) (hn : 7000000 ≤ n) (l : List Judged) (hl : l.length < n) (hs : ∀ j ∈ l, szL j.Readings ≤ 1048576) : ∃ b, law37_lightJudged n l 60 = some b := by
  unfold law37_lightJudged
  rw [jn_def]
  exact lightJ_L0 n hn l hs _ ⟨_, rfl⟩ l n 0 rfl hl
mutual
def nmd : Deriv → Prop
  | ⟨_, nm, _, _, ks⟩ => isName nm ∧ ks.length ≤ 2 ∧ nmdL ks
def nmdL : List Deriv → Prop
  | [] => True
  | d :: r => nmd d ∧ nmdL r
end
theorem nmd_eq (d : Deriv) : nmd d ↔ isName d.Name ∧ d.Kids.length ≤ 2 ∧ nmdL d.Kids := by cases d; exact Iff.rfl
theorem nmdL_mem : ∀ {l : List Deriv} {d : Deriv}, nmdL l → d ∈ l → nmd d
  | x :: l, d, h, hd => by
    rcases List.mem_cons.1 hd with rfl | hd
    · exact h.1
    · exact nmdL_mem h.2 hd
theorem spl_js : ∀ (l : List (List UInt8)) (x : List UInt8), (32 : UInt8) ∉ x → (∀ y ∈ l, (32 : UInt8) ∉ y) → spl 32 (x ++ js l) = x :: l
  | [], x, hx, _ => by
    have : x ++ js [] = x := by simp [js]
    rw [this, spl_none hx]
  | y :: l, x, hx, h => by
    have e : x ++ js (y :: l) = x ++ 32 :: (y ++ js l) := by simp [js]
    rw [e, spl_pre hx, spl_js l y (h y (by simp)) (fun z hz => h z (by simp [hz]))]
theorem nmdL_names : ∀ {l : List Deriv}, nmdL l → ∀ x ∈ l.map (·.Name), isName x
  | d :: r, h, x, hx => by
    rcases List.mem_cons.1 hx with rfl | hx
    · exact ((nmd_eq d).1 h.1).1
    · exact nmdL_names h.2 x hx
theorem tr_feat {nm : List UInt8} {ks : List Deriv} (h1 : isName nm) (h2 : ks.length ≤ 2) (h3 : nmdL ks) : ∀ s ∈ tr nm ks, isFeat s := by
  intro s hs
  cases ks with
  | nil => cases hs
  | cons d t =>
    simp only [tr, List.mem_singleton] at hs
    have hn := nmdL_names h3
    have e : spl 32 (jo ((d :: t).map (·.Name))) = (d :: t).map (·.Name) := by
      show spl 32 (d.Name ++ js (t.map (·.Name))) = d.Name :: t.map (·.Name)
      exact spl_js _ _ (isName_no (hn d.Name (by simp)) no32) (fun y hy => isName_no (hn y (by rw [List.map_cons]; exact List.mem_cons_of_mem _ hy)) no32)
    rw [hs]
    exact .inr ⟨nm, _, rfl, h1, by rw [e, List.length_map]; exact h2, by rw [e]; exact hn⟩
mutual
theorem ftD_feat : ∀ (d : Deriv), nmd d → ∀ s ∈ ftD d, isFeat s
  | ⟨a, nm, b, c, ks⟩, h, s, hs => by
    obtain ⟨h1, h2, h3⟩ := h
    have hs' : s ∈ nm :: (tr nm ks ++ ftL ks) := hs
    rcases List.mem_cons.1 hs' with rfl | hs'
    · exact .inl h1
    · rcases List.mem_append.1 hs' with q | q
      · exact tr_feat h1 h2 h3 s q
      · exact ftL_feat ks h3 s q
theorem ftL_feat : ∀ (l : List Deriv), nmdL l → ∀ s ∈ ftL l, isFeat s
  | [], _, s, hs => by cases hs
  | d :: r, h, s, hs => by
    have hs' : s ∈ ftD d ++ ftL r := hs
    rcases List.mem_append.1 hs' with q | q
    · exact ftD_feat d h.1 s q
    · exact ftL_feat r h.2 s q
end
theorem ftJ_feat : ∀ (l : List Judged), (∀ j ∈ l, nmdL j.Readings) → ∀ s ∈ ftJ l, isFeat s
  | [], _, s, hs => by cases hs
  | j :: t, h, s, hs => by
    have hs' : s ∈ ftL j.Readings ++ ftJ t := hs
    rcases List.mem_append.1 hs' with q | q
    · exact ftL_feat _ (h j (by simp)) s q
    · exact ftJ_feat t (fun j' hj' => h j' (by simp [hj'])) s q
theorem Round_same {R : List Weight} : ∀ {t : List Judged}, (∀ j ∈ t, Step R j R) → Round R t R
  | [], _ => rfl
  | j :: t, h => ⟨R, h j (by simp), Round_same (fun j' hj' => h j' (by simp [hj']))⟩
/-! the reference's training -/
theorem clipR_eq (z : Int) : (if -1048576 < if z < 1048576 then z else 1048576 then if z < 1048576 then z else 1048576 else -1048576) = clip z := by
  unfold clip
  (repeat' split) <;> omega
def one (s : List UInt8) (c : Int) : List Weight := if c ≠ 0 then [Weight.mk s c] else []
def stW (s : List UInt8) (c : Int) : Bool → List Weight → List Weight
  | true, t => t.filter fun w => decide (w.Feature ≠ s)
  | false, [] => one s c
  | false, x :: t => if s ≤ x.Feature then one s c ++ (x :: t).filter fun w => decide (w.Feature ≠ s) else x :: stW s c false t
theorem stW_true (s : List UInt8) (c : Int) (t : List Weight) : stW s c true t = t.filter fun w => decide (w.Feature ≠ s) := by cases t <;> rfl
theorem one_len (s : List UInt8) (c : Int) : (one s c).length ≤ 1 := by unfold one; split <;> simp
theorem mem_one {s : List UInt8} {c : Int} {w : Weight} : w ∈ one s c ↔ w = Weight.mk s c ∧ c ≠ 0 := by
  unfold one
  by_cases h : c = 0 <;> simp [h]
theorem set_L0 (n : Nat) (M : Model) (s : List UInt8) (z : Int) (k : Bool → List Weight → Option Model) : ∀ (t : List Weight) (m i : Nat) (dn : Bool) (out : List Weight), M.Weights.drop i = t → t.length < m → out.length + 2 * t.length ≤ 100000000 → ∃ dn' out', r37_set_L0 n M s z k m dn i out = k dn' out' ∧ out'.length ≤ out.length + 2 * t.length ∧ out' ++ (if dn' = false then one s (clip z) else []) = out ++ stW s (clip z) dn t
  | [], m + 1, i, dn, out, h, _, _ => by
    rw [r37_set_L0, if_neg (drop_nil' h)]
    refine ⟨dn, out, rfl, by simp, ?_⟩
    cases dn <;> rfl
  | x :: t, m + 1, i, dn, out, h, hm, hb => by
    obtain ⟨h1, h2, h3⟩ := drop_cons h
    rw [List.length_cons] at hb ⊢
    rw [r37_set_L0, if_pos h1, h2, bind_some']
    simp only [clipR_eq, jn_def, bytesLess_eq]
    -- what follows the first part
    have go : ∀ (d' : Bool) (o' : List Weight), o'.length ≤ out.length + 1 → ∃ dn' out', (if (x.Feature : List UInt8) ≠ s then chk ((o').length + ([x]).length ≤ 137438953472) (r37_set_L0 n M s z k m d' (i + 1) (o' ++ [x])) else r37_set_L0 n M s z k m d' (i + 1) o') = k dn' out' ∧ out'.length ≤ out.length + 2 * (t.length + 1) ∧ out' ++ (if dn' = false then one s (clip z) else []) = o' ++ ((if x.Feature ≠ s then [x] else []) ++ stW s (clip z) d' t) := by
      intro d' o' ho
      by_cases e : x.Feature = s
      · rw [if_neg (by simp [e]), if_neg (by simp [e])]
        obtain ⟨a, b, r1, r2, r3⟩ := set_L0 n M s z k t m (i + 1) d' o' h3 (by simpa using hm) (by omega)
        exact ⟨a, b, r1, by omega, by rw [r3]; rfl⟩
      · rw [if_pos e, if_pos e, chk_pos (by rw [List.length_singleton]; omega)]
        obtain ⟨a, b, r1, r2, r3⟩ := set_L0 n M s z k t m (i + 1) d' (o' ++ [x]) h3 (by simpa using hm) (by rw [List.length_append, List.length_singleton]; omega)
        rw [List.length_append, List.length_singleton] at r2
        exact ⟨a, b, r1, by omega, by rw [r3, List.append_assoc]⟩
    have fl : (if x.Feature ≠ s then [x] else []) ++ t.filter (fun w => decide (w.Feature ≠ s)) = (x :: t).filter fun w => decide (w.Feature ≠ s) := by
      by_cases e : x.Feature = s
      · rw [if_neg (by simp [e]), List.filter_cons_of_neg (by simp [e])]; rfl
      · rw [if_pos e, List.filter_cons_of_pos (by simp [e])]; rfl
    cases dn with
    | true =>
      simp only [Bool.not_true, Bool.false_eq_true, if_false]
      obtain ⟨a, b, r1, r2, r3⟩ := go true out (by omega)
      refine ⟨a, b, r1, r2, r3.trans ?_⟩
      rw [stW_true, stW_true, fl]
    | false =>
      simp only [Bool.not_false, if_true]
      by_cases q : s ≤ x.Feature
      · have q1 : (decide (s < x.Feature) || s == x.Feature) = true := by
          by_cases e : s = x.Feature
          · simp [e]
          · have := lt_of_le_ne q e
            simp [this]
        rw [if_pos q1]
        have hst : stW s (clip z) false (x :: t) = one s (clip z) ++ (x :: t).filter fun w => decide (w.Feature ≠ s) := by
          show (if s ≤ x.Feature then _ else _) = _
          rw [if_pos q]
        by_cases c0 : clip z = 0
        · rw [if_neg (by simp [c0])]
          obtain ⟨a, b, r1, r2, r3⟩ := go true out (by omega)
          refine ⟨a, b, r1, r2, r3.trans ?_⟩
          rw [hst, stW_true, fl]
          unfold one
          rw [if_neg (by simp [c0])]
          rfl
        · rw [if_pos c0, chk_pos (by rw [List.length_singleton]; omega)]
          obtain ⟨a, b, r1, r2, r3⟩ := go true (out ++ [Weight.mk s (clip z)]) (by rw [List.length_append, List.length_singleton]; omega)
          refine ⟨a, b, r1, r2, r3.trans ?_⟩
          rw [hst, stW_true, fl]
          unfold one
          rw [if_pos c0, List.append_assoc]
      · have q0 : x.Feature < s := Decidable.not_not.1 q
        have q1 : ¬ (decide (s < x.Feature) || s == x.Feature) = true := by
          have a1 : ¬ s < x.Feature := List.lt_asymm q0
          have a2 : ¬ s = x.Feature := fun e => by rw [e] at q0; exact List.lt_irrefl _ q0
          simp [a1, a2]
        have q2 : ¬ x.Feature = s := fun e => by rw [e] at q0; exact List.lt_irrefl _ q0
        rw [if_neg q1]
        obtain ⟨a, b, r1, r2, r3⟩ := go false out (by omega)
        refine ⟨a, b, r1, r2, r3.trans ?_⟩
        show _ = out ++ (if s ≤ x.Feature then _ else x :: stW s (clip z) false t)
        rw [if_neg q, if_pos q2]
        rfl
theorem Set_eq (n : Nat) (b : List Weight) (s : List UInt8) (z : Int) (hl : b.length ≤ 5000000) (hn : 9500000 ≤ n) : r37_set n (Model.mk b) s z = some (Model.mk (stW s (clip z) false b)) := by
  unfold r37_set
  simp only [clipR_eq, jn_def]
  obtain ⟨d', o', r1, r2, r3⟩ := set_L0 n (Model.mk b) s z (fun (t_8 : Bool) (b_9 : (List Weight)) =>
    if (!(t_8)) = true then
     (if (decide ((clip z) ≠ 0)) = true then
      chk ((b_9).length + ([(Weight.mk s (clip z))]).length ≤ 137438953472) (
      some (Model.mk (b_9 ++ [(Weight.mk s (clip z))])))
     else
      some (Model.mk b_9))
    else
     (if false = true then
      chk ((b_9).length + ([(Weight.mk s (clip z))]).length ≤ 137438953472) (
      some (Model.mk (b_9 ++ [(Weight.mk s (clip z))])))
     else
      some (Model.mk b_9))) b n 0 false [] rfl (by omega) (by simp; omega)
  rw [r1]
  rw [List.nil_append] at r3
  rw [← r3]
  cases d' with
  | true => simp
  | false =>
    simp only [Bool.not_false, if_true]
    unfold one
    by_cases c : clip z = 0
    · simp [c]
    · simp only [c, ne_eq, not_false_eq_true, decide_true, if_true]
      rw [chk_pos (by rw [List.length_singleton]; simp only [List.length_nil] at r2; omega)]
theorem mem_stW {s : List UInt8} {c : Int} : ∀ {t : List Weight} {w : Weight}, t.Pairwise (fun a b => a.Feature < b.Feature) → (w ∈ stW s c false t ↔ (w = Weight.mk s c ∧ c ≠ 0) ∨ (w ∈ t ∧ w.Feature ≠ s))
  | [], w, _ => by show w ∈ one s c ↔ _; rw [mem_one]; simp
  | x :: t, w, hp => by
    obtain ⟨h1, h2⟩ := List.pairwise_cons.1 hp
    show w ∈ (if s ≤ x.Feature then _ else _) ↔ _
    by_cases q : s ≤ x.Feature
    · rw [if_pos q, List.mem_append, mem_one, List.mem_filter]
      simp
    · have q0 : x.Feature < s := Decidable.not_not.1 q
      rw [if_neg q, List.mem_cons, mem_stW h2, List.mem_cons]
      constructor
      · rintro (e | e | e)
        · rw [e]; exact .inr ⟨.inl rfl, fun z => by rw [z] at q0; exact List.lt_irrefl _ q0⟩
        · exact .inl e
        · exact .inr ⟨.inr e.1, e.2⟩
      · rintro (e | ⟨e | e, f⟩)
        · exact .inr (.inl e)
        · exact .inl e
        · exact .inr (.inr ⟨e, f⟩)
theorem asc_stW {s : List UInt8} {c : Int} : ∀ {t : List Weight}, t.Pairwise (fun a b => a.Feature < b.Feature) → (stW s c false t).Pairwise (fun a b => a.Feature < b.Feature)
  | [], _ => by
    show (one s c).Pairwise _
    unfold one
    split <;> simp
  | x :: t, hp => by
    obtain ⟨h1, h2⟩ := List.pairwise_cons.1 hp
    show List.Pairwise _ (if s ≤ x.Feature then _ else _)
    by_cases q : s ≤ x.Feature
    · rw [if_pos q, List.pairwise_append]
      refine ⟨by unfold one; split <;> simp, hp.filter _, fun a ha b hb => ?_⟩
      obtain ⟨rfl, _⟩ := mem_one.1 ha
      obtain ⟨hb1, hb2⟩ := List.mem_filter.1 hb
      have hb2 : b.Feature ≠ s := by simpa using hb2
      show s < b.Feature
      rcases List.mem_cons.1 hb1 with rfl | hb1
      · exact lt_of_le_ne q (fun e => hb2 e.symm)
      · have hx := h1 b hb1
        by_cases e : s = x.Feature
        · rw [e]; exact hx
        · exact List.lt_trans (lt_of_le_ne q e) hx
    · have q0 : x.Feature < s := Decidable.not_not.1 q
      rw [if_neg q]
      refine .cons (fun w hw => ?_) (asc_stW h2)
      rcases (mem_stW h2).1 hw with ⟨rfl, _⟩ | ⟨e, _⟩
      · exact q0
      · exact h1 w e
theorem stW_ok {s : List UInt8} {z : Int} {b : List Weight} (h : okV b) : okV (stW s (clip z) false b) ∧ ∀ u, wt (stW s (clip z) false b) u = if u = s then clip z else wt b u := by
  have hA := asc_stW (s := s) (c := clip z) h.asc
  obtain ⟨c1, c2⟩ := clip_bound z
  refine ⟨⟨fun w hw => ?_, fun w hw => ?_, fun w hw => ?_, hA⟩, fun u => ?_⟩
  · rcases (mem_stW h.asc).1 hw with ⟨rfl, e⟩ | ⟨e, _⟩
    · exact e
    · exact h.nz w e
  · rcases (mem_stW h.asc).1 hw with ⟨rfl, e⟩ | ⟨e, _⟩
    · exact c1
    · exact h.lo w e
  · rcases (mem_stW h.asc).1 hw with ⟨rfl, e⟩ | ⟨e, _⟩
    · exact c2
    · exact h.hi w e
  · by_cases e : u = s
    · rw [if_pos e]
      subst e
      by_cases c0 : clip z = 0
      · rw [c0]
        refine wt_out fun w hw hu => ?_
        rcases (mem_stW h.asc).1 hw with ⟨_, e⟩ | ⟨_, e⟩
        · exact e rfl
        · exact e hu
      · have hm : Weight.mk u (clip z) ∈ stW u (clip z) false b := (mem_stW h.asc).2 (.inl ⟨rfl, c0⟩)
        exact wt_in hA hm
    · rw [if_neg e]
      rcases wt_cases (l := b) u with ⟨a1, a2⟩ | ⟨w, a1, a2, a3⟩
      · rw [a1]
        refine wt_out fun w hw hu => ?_
        rcases (mem_stW h.asc).1 hw with ⟨rfl, _⟩ | ⟨f, _⟩
        · exact e hu.symm
        · exact a2 w f hu
      · rw [a3, ← a2]
        exact wt_in hA ((mem_stW h.asc).2 (.inr ⟨a1, fun f => e (a2.symm.trans f)⟩))
theorem Count_L0 (n : Nat) (l : List (List UInt8)) (s : List UInt8) : ∀ (t : List (List UInt8)) (m i a : Nat), l.drop i = t → t.length < m → a + t.length ≤ 100000000 → r37_count_L0 n l s m a i = some ((a + t.count s : Nat) : Int)
  | [], m + 1, i, a, h, _, _ => by rw [r37_count_L0, if_neg (drop_nil' h)]; rfl
  | x :: t, m + 1, i, a, h, hm, hb => by
    obtain ⟨h1, h2, h3⟩ := drop_cons h
    rw [List.length_cons] at hb
    rw [r37_count_L0, if_pos h1, h2, bind_some']
    by_cases e : x = s
    · rw [if_pos e, chk_pos (by omega), Count_L0 n l s t m (i + 1) (a + 1) h3 (by simpa using hm) (by omega), e, List.count_cons_self]
      congr 2; omega
    · rw [if_neg e, Count_L0 n l s t m (i + 1) a h3 (by simpa using hm) (by omega), List.count_cons_of_ne e]
theorem Count_eq (n : Nat) (l : List (List UInt8)) (s : List UInt8) (hl : l.length ≤ 5000000) (hn : 9500000 ≤ n) : r37_count n l s = some ((l.count s : Nat) : Int) := by
  unfold r37_count
  rw [Count_L0 n l s l n 0 0 rfl (by omega) (by omega), Nat.zero_add]
theorem learn_L0 (n : Nat) (b : List Weight) (U X Y : List (List UInt8)) (hv : GoodB U b) (hU : U.length ≤ 3500000) (hX : X.length ≤ 2500000) (hY : Y.length ≤ 2500000) (hXU : ∀ s ∈ X, s ∈ U) (hn : 9500000 ≤ n) (k : List Weight → Option Model) : ∀ (t : List (List UInt8)) (p i : Nat) (c : List Weight), X.drop i = t → t.length < p → GoodB U c → ∃ R, r37_learn_L0 n (Model.mk b) X Y k p i c = k R ∧ GoodB U R ∧ ∀ u, wt R u = if u ∈ t then clip (wt b u + ((X.count u : Int) - (Y.count u : Int))) else wt c u
  | [], p + 1, i, c, h, _, hc => ⟨c, by rw [r37_learn_L0, if_neg (drop_nil' h)], hc, fun u => by simp⟩
  | x :: t, p + 1, i, c, h, hp, hc => by
    obtain ⟨h1, h2, h3⟩ := drop_cons h
    have hb := hv.len
    have hcl := hc.len
    obtain ⟨w1, w2⟩ := wt_bound hv.v x
    have x1 : X.count x ≤ X.length := List.count_le_length
    have y1 : Y.count x ≤ Y.length := List.count_le_length
    obtain ⟨s1, s2⟩ := stW_ok (s := x) (z := wt b x + ((X.count x : Nat) : Int) - ((Y.count x : Nat) : Int)) hc.v
    have hc' : GoodB U (stW x (clip (wt b x + ((X.count x : Nat) : Int) - ((Y.count x : Nat) : Int))) false c) := ⟨s1, fun w hw => by
      rcases (mem_stW hc.v.asc).1 hw with ⟨rfl, _⟩ | ⟨e, _⟩
      · exact hXU x (List.mem_of_getElem? h2)
      · exact hc.u w e⟩
    obtain ⟨R, r1, r2, r3⟩ := learn_L0 n b U X Y hv hU hX hY hXU hn k t p (i + 1) _ h3 (by simpa using hp) hc'
    have hw : r37_weight n (Model.mk b) x = some (wt b x) := weight_r n (Model.mk b) x (by show b.length < n; omega)
    refine ⟨R, ?_, r2, fun u => ?_⟩
    · rw [r37_learn_L0, if_pos h1, h2, bind_some', hw, bind_some', Count_eq n X x (by omega) hn, bind_some', chk_pos (by omega), Count_eq n Y x (by omega) hn, bind_some', chk_pos (by omega), Set_eq n c x _ (by omega) hn, bind_some', r1]
    · rw [r3 u, s2 u]
      by_cases e : u ∈ t
      · rw [if_pos e, if_pos (by simp [e])]
      · rw [if_neg e]
        by_cases f : u = x
        · subst f
          rw [if_pos rfl, if_pos (by simp)]
          congr 1; omega
        · rw [if_neg f, if_neg (by simp [e, f])]
theorem learn_L1 (n : Nat) (b : List Weight) (U X Y : List (List UInt8)) (hv : GoodB U b) (hU : U.length ≤ 3500000) (hX : X.length ≤ 2500000) (hY : Y.length ≤ 2500000) (hYU : ∀ s ∈ Y, s ∈ U) (hn : 9500000 ≤ n) (k : List Weight → Option Model) : ∀ (t : List (List UInt8)) (p i : Nat) (c : List Weight), Y.drop i = t → t.length < p → GoodB U c → ∃ R, r37_learn_L1 n (Model.mk b) X Y k p i c = k R ∧ GoodB U R ∧ ∀ u, wt R u = if u ∈ t then clip (wt b u + ((X.count u : Int) - (Y.count u : Int))) else wt c u
  | [], p + 1, i, c, h, _, hc => ⟨c, by rw [r37_learn_L1, if_neg (drop_nil' h)], hc, fun u => by simp⟩
  | x :: t, p + 1, i, c, h, hp, hc => by
    obtain ⟨h1, h2, h3⟩ := drop_cons h
    have hb := hv.len
    have hcl := hc.len
    obtain ⟨w1, w2⟩ := wt_bound hv.v x
    have x1 : X.count x ≤ X.length := List.count_le_length
    have y1 : Y.count x ≤ Y.length := List.count_le_length
    obtain ⟨s1, s2⟩ := stW_ok (s := x) (z := wt b x + ((X.count x : Nat) : Int) - ((Y.count x : Nat) : Int)) hc.v
    have hc' : GoodB U (stW x (clip (wt b x + ((X.count x : Nat) : Int) - ((Y.count x : Nat) : Int))) false c) := ⟨s1, fun w hw => by
      rcases (mem_stW hc.v.asc).1 hw with ⟨rfl, _⟩ | ⟨e, _⟩
      · exact hYU x (List.mem_of_getElem? h2)
      · exact hc.u w e⟩
    obtain ⟨R, r1, r2, r3⟩ := learn_L1 n b U X Y hv hU hX hY hYU hn k t p (i + 1) _ h3 (by simpa using hp) hc'
    have hw : r37_weight n (Model.mk b) x = some (wt b x) := weight_r n (Model.mk b) x (by show b.length < n; omega)
    refine ⟨R, ?_, r2, fun u => ?_⟩
    · rw [r37_learn_L1, if_pos h1, h2, bind_some', hw, bind_some', Count_eq n X x (by omega) hn, bind_some', chk_pos (by omega), Count_eq n Y x (by omega) hn, bind_some', chk_pos (by omega), Set_eq n c x _ (by omega) hn, bind_some', r1]
    · rw [r3 u, s2 u]
      by_cases e : u ∈ t
      · rw [if_pos e, if_pos (by simp [e])]
      · rw [if_neg e]
        by_cases f : u = x
        · subst f
          rw [if_pos rfl, if_pos (by simp)]
          congr 1; omega
        · rw [if_neg f, if_neg (by simp [e, f])]
theorem Learn_eq (n : Nat) (l : List Judged) (U : List (List UInt8)) (hU : Uni l U) (hn : 9500000 ≤ n) (hg : gold l) (x : Judged) (hx : x ∈ l) (b : List Weight) (hb : GoodB U b) : ∃ R, r37_learn n (Model.mk b) x = some (Model.mk R) ∧ Step b x R ∧ GoodB U R := by
  obtain ⟨g1, g2⟩ := hg x hx
  have hsz := hU.sz x hx
  have hbl := hb.len
  have hUl := hU.len
  have hne : x.Readings ≠ [] := fun e => by rw [e] at g2; simp at g2; omega
  obtain ⟨q, bd, e1, e2⟩ := bst_top (scD b) hne
  obtain ⟨gd, hgd⟩ : ∃ gd, x.Readings[x.Gold.toNat]? = some gd := ⟨_, List.getElem?_eq_getElem (by omega)⟩
  obtain ⟨_, t1⟩ := Best_eq n (Model.mk b) x.Readings hb.v (by show b.length ≤ _; omega) hsz (by omega)
  have hix1 : ix x.Readings (outI (some (q, bd))) = some bd := by
    show ix x.Readings (q : Int) = some bd
    rw [ix_nat]; exact e2.at_
  have hix2 : ix x.Readings x.Gold = some gd := by
    rw [show x.Gold = ((x.Gold.toNat : Nat) : Int) by omega, ix_nat]; exact hgd
  have hbm := List.mem_of_getElem? e2.at_
  have hgm := List.mem_of_getElem? hgd
  have hb1 := szL_mem hbm
  have hg1 := szL_mem hgm
  have hbf := ftD_len bd
  have hgf := ftD_len gd
  have et1 : r37_Best n (Model.mk b) x.Readings = some (outI (some (q, bd))) := by rw [t1]; show some (outI (bst (scD b) _ 0 none)) = _; rw [e1]
  unfold r37_learn
  rw [jn_def, et1, bind_some', hix1, bind_some']
  dsimp only
  rw [hix2, bind_some', eta, Cmp_r n bd gd (by omega) (by omega), bind_some']
  by_cases c : cmD bd gd = 0
  · rw [if_pos c]
    exact ⟨b, rfl, ⟨q, bd, gd, e1, e2.at_, hgd, .inl ⟨c, rfl⟩⟩, hb⟩
  · rw [if_neg c, Features_r n gd (by omega) (by omega), bind_some', Features_r n bd (by omega) (by omega), bind_some', jn_def]
    obtain ⟨R1, a1, a2, a3⟩ := learn_L0 n b U (ftD gd) (ftD bd) hb hUl (by omega) (by omega) (fun s hs => hU.ft x hx gd hgm s hs) hn (fun (b_64 : (List Weight)) =>
    jn (fun (b_117 : (List Weight)) =>
     some (Model.mk b_117))
      (fun k116 =>
      r37_learn_L1 n (Model.mk b) (ftD gd) (ftD bd) k116 n 0 b_64)) (ftD gd) n 0 b rfl (by omega) hb
    obtain ⟨R, d1, d2, d3⟩ := learn_L1 n b U (ftD gd) (ftD bd) hb hUl (by omega) (by omega) (fun s hs => hU.ft x hx bd hbm s hs) hn (fun (b_117 : (List Weight)) =>
     some (Model.mk b_117)) (ftD bd) n 0 R1 rfl (by omega) a2
    refine ⟨R, ?_, ⟨q, bd, gd, e1, e2.at_, hgd, .inr ⟨c, d2.v, fun u => ?_⟩⟩, d2⟩
    · show r37_learn_L0 n (Model.mk b) (ftD gd) (ftD bd) _ n 0 b = _
      rw [a1, jn_def, d1]
    · rw [d3 u, a3 u]
      unfold FF
      by_cases z1 : u ∈ ftD bd
      · rw [if_pos z1, if_pos (.inr z1)]
      · rw [if_neg z1]
        by_cases z2 : u ∈ ftD gd
        · rw [if_pos z2, if_pos (.inl z2)]
        · rw [if_neg z2, if_neg (fun w => by rcases w with w | w; exact z2 w; exact z1 w)]
theorem rTrain_L2 (n : Nat) (l : List Judged) (U : List (List UInt8)) (hU : Uni l U) (hn : 9500000 ≤ n) (hg : gold l) (k : List Weight → Option (Model × Int)) : ∀ (t : List Judged) (p i : Nat) (b : List Weight), l.drop i = t → t.length < p → GoodB U b → ∃ R, r37_Train_L2 n l k p i b = k R ∧ Round b t R ∧ GoodB U R
  | [], p + 1, i, b, h, _, hb => ⟨b, by rw [r37_Train_L2, if_neg (drop_nil' h)], rfl, hb⟩
  | x :: t, p + 1, i, b, h, hp, hb => by
    obtain ⟨h1, h2, h3⟩ := drop_cons h
    obtain ⟨R1, a1, a2, a3⟩ := Learn_eq n l U hU hn hg x (List.mem_of_getElem? h2) b hb
    obtain ⟨R, r1, r2, r3⟩ := rTrain_L2 n l U hU hn hg k t p (i + 1) R1 h3 (by simpa using hp) a3
    exact ⟨R, by rw [r37_Train_L2, if_pos h1, h2, bind_some', a1, bind_some', r1], ⟨R1, a2, r2⟩, r3⟩
theorem rTrain_L1 (n : Nat) (l : List Judged) (U : List (List UInt8)) (hU : Uni l U) (hn : 9500000 ≤ n) (hg : gold l) (hl : l.length < n) (r : Nat) (hr : r ≤ 16) (k : List Weight → Option (Model × Int)) : ∀ (p i : Nat) (b : List Weight), i ≤ r → r - i < p → GoodB U b → ∃ R, r37_Train_L1 n l (r : Int) k p i b = k R ∧ Rounds l (r - i) b R ∧ GoodB U R
  | 0, _, _, _, h, _ => by omega
  | p + 1, i, b, hi, hp, hb => by
    rw [r37_Train_L1]
    by_cases q : i < r
    · rw [if_pos (by omega), jn_def]
      obtain ⟨R1, a1, a2, a3⟩ := rTrain_L2 n l U hU hn hg (fun (m_42 : (List Weight)) =>
    chk (i + 1 ≤ 9223372036854775807) (
    r37_Train_L1 n l (r : Int) k p (i + 1) m_42)) l n 0 b rfl hl hb
      rw [a1, chk_pos (by omega)]
      obtain ⟨R, r1, r2, r3⟩ := rTrain_L1 n l U hU hn hg hl r hr k p (i + 1) R1 (by omega) (by omega) a3
      refine ⟨R, r1, ?_, r3⟩
      rw [show r - i = (r - (i + 1)) + 1 by omega]
      exact ⟨R1, a2, r2⟩
    · rw [if_neg (by omega)]
      refine ⟨b, rfl, ?_, hb⟩
      rw [show r - i = 0 by omega]
      rfl
theorem rTrain_L0 (n : Nat) (l : List Judged) (k : Option (Model × Int)) : ∀ (t : List Judged) (p i : Nat), l.drop i = t → t.length < p → (gold t ∧ r37_Train_L0 n l k p i = k) ∨ (¬ gold t ∧ r37_Train_L0 n l k p i = some (Model.mk [], 2))
  | [], p + 1, i, h, _ => .inl ⟨fun j hj => (by cases hj), by rw [r37_Train_L0, if_neg (drop_nil' h)]⟩
  | x :: t, p + 1, i, h, hp => by
    obtain ⟨h1, h2, h3⟩ := drop_cons h
    rw [r37_Train_L0, if_pos h1, jn_def, h2, bind_some']
    by_cases q1 : x.Gold < 0
    · rw [if_pos q1]
      exact .inr ⟨fun z => by have := (z x (by simp)).1; omega, rfl⟩
    · rw [if_neg q1]
      by_cases q2 : ((x.Readings.length : Nat) : Int) ≤ x.Gold
      · simp only [q2, decide_true, if_true]
        exact .inr ⟨fun z => by have := (z x (by simp)).2; omega, trivial⟩
      · simp only [q2, decide_false, Bool.false_eq_true, if_false]
        rcases rTrain_L0 n l k t p (i + 1) h3 (by simpa using hp) with ⟨a1, a2⟩ | ⟨a1, a2⟩
        · exact .inl ⟨fun j hj => by
            rcases List.mem_cons.1 hj with rfl | hj
            · omega
            · exact a1 j hj, a2⟩
        · exact .inr ⟨fun z => a1 (fun j hj => z j (by simp [hj])), a2⟩
theorem rTrain_eq (n : Nat) (m : Model) (l : List Judged) (U : List (List UInt8)) (hU : Uni l U) (hn : 9500000 ≤ n) (hl : l.length < n) (r : Nat) (hr : r ≤ 16) (hb : GoodB U m.Weights) : (gold l ∧ ∃ R, r37_Train n m l (r : Int) = some (Model.mk R, 0) ∧ Rounds l r m.Weights R ∧ GoodB U R) ∨ (¬ gold l ∧ r37_Train n m l (r : Int) = some (Model.mk [], 2)) := by
  unfold r37_Train
  rw [jn_def, if_neg (by omega)]
  have q : ¬ (16 : Int) < (r : Int) := by omega
  simp only [q, decide_false, Bool.false_eq_true, if_false, jn_def]
  rcases rTrain_L0 n l (r37_Train_L1 n l (r : Int) (fun (b_25 : (List Weight)) => some ((Model.mk b_25), 0)) n 0 m.Weights) l n 0 rfl hl with ⟨a1, a2⟩ | ⟨a1, a2⟩
  · left
    refine ⟨a1, ?_⟩
    obtain ⟨R, r1, r2, r3⟩ := rTrain_L1 n l U hU hn a1 hl r hr (fun (b_25 : (List Weight)) => some ((Model.mk b_25), 0)) n 0 m.Weights (Nat.zero_le _) (by omega) hb
    exact ⟨R, by rw [a2, r1], by simpa using r2, r3⟩
  · exact .inr ⟨a1, a2⟩
theorem Trains_main (n : Nat) (hn : 9500000 ≤ n) (hex : law37_exampleHolds n = some true) (m : Model) (l : List Judged) (z : Int) (hs : szM m + (l.map szJ).sum ≤ 1048576) : law37_ModelTrains n m l z = some true := by
  unfold law37_ModelTrains
  have hJ := sumJ_len l
  have hU := uni_ok hs
  have hUl := hU.len
  obtain ⟨b, b1⟩ := lightJ_some n (by omega) l (by omega) hU.sz
  obtain ⟨c, _, c2, c3⟩ := Check_eq n m (by omega) (by omega)
  rw [hex, b1, c2]
  simp only [jn_def, bind_some']
  by_cases q1 : 30 < m.Weights.length
  · rw [if_pos q1]; rfl
  rw [if_neg q1]
  cases b with
  | false => rfl
  | true =>
    by_cases q3 : c = 0
    · have hv := (c3.1 q3).v
      simp only [q3, ne_eq, not_true, decide_false, Bool.not_true, Bool.false_eq_true, if_false]
      have hz0 := Same_self n (Model.mk []) (by show 0 < n; omega)
      by_cases z1 : z < 0
      · have e1 : model_Train n m l z = some (Model.mk [], 2) := by unfold model_Train; rw [jn_def, if_pos z1]; rfl
        have e2 : r37_Train n m l z = some (Model.mk [], 2) := by unfold r37_Train; rw [jn_def, if_pos z1]; rfl
        rw [e1, e2]
        simp [hz0]
      · by_cases z2 : 16 < z
        · have e1 : model_Train n m l z = some (Model.mk [], 2) := by unfold model_Train; rw [jn_def, if_neg z1]; simp [z2]
          have e2 : r37_Train n m l z = some (Model.mk [], 2) := by unfold r37_Train; rw [jn_def, if_neg z1]; simp [z2]
          rw [e1, e2]
          simp [hz0]
        · obtain ⟨r, rfl⟩ : ∃ r : Nat, z = (r : Int) := ⟨z.toNat, by omega⟩
          rcases Train_eq n m l (uni m l) hU hn (by omega) r (by omega) (uni_good hv) with ⟨g1, R, t1, t2, t3⟩ | ⟨g1, t1⟩
          · rcases rTrain_eq n m l (uni m l) hU hn (by omega) r (by omega) (uni_good hv) with ⟨_, R', s1, s2, s3⟩ | ⟨g2, _⟩
            · have e : R = R' := t2.unique s2
              subst e
              have hl := t3.len
              have hsame := Same_self n (Model.mk R) (by show R.length < n; omega)
              rw [t1, s1]
              simp [hsame]
            · exact absurd g1 g2
          · rcases rTrain_eq n m l (uni m l) hU hn (by omega) r (by omega) (uni_good hv) with ⟨g2, _⟩ | ⟨_, s1⟩
            · exact absurd g2 g1
            · rw [t1, s1]
              simp [hz0]
    · simp [q3]
theorem law37_ModelTrains_true (m : Model) (l : List Judged) (z : Int) (hs : szM m + (l.map szJ).sum ≤ 1048576) : law37_ModelTrains 10000000 m l z = some true := Trains_main 10000000 (by omega) ex37 m l z hs

end Go.Proofs.YthgdajiipojnoaaGreatDoor

/- Chapter 24: back, once, growing -/
import Derived.Test.YtgmghembhenonaaB4
namespace Go.Proofs.Ytgmghembhenonaa
open Go.Gl
set_option linter.unusedVariables false
set_option linter.unusedSimpArgs false
/-! lexicon: analyses lead back, each form's own analysis is found once, more entries and rules only add -/
theorem anaC_nil (e : List Entry) (r : List LexRule) (ws : List (List UInt8)) (i : Int) (cs : List (List Int)) : ((anaC e r ws i (([] : List Int) :: cs)).filter fun a => decide (a.Rules.length = 0)) = if formS e r ⟨i, []⟩ = some ws then ⟨i, []⟩ :: ((anaC e r ws i cs).filter fun a => decide (a.Rules.length = 0)) else ((anaC e r ws i cs).filter fun a => decide (a.Rules.length = 0)) := by
  unfold anaC
  by_cases h : formS e r ⟨i, []⟩ = some ws <;> simp [h]
theorem tail_ne {r : Nat} {c : List Int} (h : c ∈ c1S r ++ c2S r) : c.length ≠ 0 := by
  rcases List.mem_append.1 h with h | h
  · obtain ⟨i, _, rfl⟩ := mem_c1S h
    simp
  · unfold c2S at h
    obtain ⟨x, hx, hc⟩ := List.mem_flatMap.1 h
    simp only [extS, extF, List.mem_map] at hc
    obtain ⟨i, _, rfl⟩ := hc
    simp
def rootsOf (l : List Analysis) : List Int := (l.filter fun a => decide (a.Rules.length = 0)).map (·.Entry)
theorem roots_at (e : List Entry) (r : List LexRule) (ws : List (List UInt8)) (i : Nat) (x : Entry) (hx : e[i]? = some x) : rootsOf (anaC e r ws (i : Int) (allC r.length)) = if x.Words = ws then [(i : Int)] else [] := by
  have hz : ((anaC e r ws (i : Int) (c1S r.length ++ c2S r.length)).filter fun a => decide (a.Rules.length = 0)) = [] := by
    rw [List.filter_eq_nil_iff]
    intro a ha
    simp only [anaC, List.mem_map, List.mem_filter] at ha
    obtain ⟨c, ⟨hc, _⟩, rfl⟩ := ha
    simpa using tail_ne hc
  have hf : formS e r ⟨(i : Int), []⟩ = some x.Words := by
    unfold formS
    simp only [ix_nat, hx, Option.bind_some, formR]
    rw [if_neg (by simp)]
  unfold rootsOf allC
  rw [anaC_nil, hz, hf]
  by_cases h : x.Words = ws
  · rw [if_pos (by rw [h]), if_pos h]
    rfl
  · rw [if_neg (by simpa using h), if_neg h]
    rfl
theorem roots_app (a b : List Analysis) : rootsOf (a ++ b) = rootsOf a ++ rootsOf b := by simp [rootsOf]
theorem roots_all (e : List Entry) (r : List LexRule) (ws : List (List UInt8)) : ∀ (t : List Entry) (i : Nat), e.drop i = t → rootsOf ((List.range' i t.length).flatMap fun (j : Nat) => anaC e r ws (j : Int) (allC r.length)) = idxs (fun x => decide (x.Words = ws)) t i
  | [], i, _ => by simp [idxs, rootsOf]
  | x :: t, i, h => by
    obtain ⟨h1, h2, h3⟩ := drop_cons h
    rw [List.length_cons, List.range'_succ, List.flatMap_cons, roots_app, roots_at e r ws i x h2, roots_all e r ws t (i + 1) h3]
    by_cases hx : x.Words = ws <;> simp [idxs, hx]
theorem Back_L0_eq (n : Nat) (e : List Entry) (r : List LexRule) (ws : List (List UInt8)) (l : List Analysis) (K : List Int → Option Bool) (hn : 1000 ≤ n) (he : ∀ x ∈ e, okE x) (hr : lightR r) (hw : ws.length ≤ 100) : ∀ (t : List Analysis) (m i : Nat) (out : List Int), (∀ a ∈ t, formS e r a = some ws) → l.drop i = t → t.length < m → out.length + t.length ≤ 1000000 → law24_LexiconBack_L0 n e r ws l K m out i = K (out ++ rootsOf t)
  | [], m + 1, i, out, _, h, _, _ => by
    rw [law24_LexiconBack_L0, if_neg (drop_nil' h)]
    simp [rootsOf]
  | a :: t, m + 1, i, out, hf, h, hm, hb => by
    obtain ⟨h1, h2, h3⟩ := drop_cons h
    simp only [List.length_cons] at hb
    have hfa := hf a (by simp)
    obtain ⟨_, _, y, hy, hyl, _⟩ := formS_inv e r a ws he hr hfa
    rw [law24_LexiconBack_L0, if_pos h1, h2]
    simp only [bind_some', jn_def, lexicon_Form_eq n e r a hn he hr, hfa, enc]
    rw [r01_Same_eq n ws ws (.inl (by omega))]
    have ih := fun out hb => Back_L0_eq n e r ws l K hn he hr hw t m (i + 1) out (fun b hb => hf b (by simp [hb])) h3 (by simpa using hm) hb
    simp only [hy, hyl, bind_some', decide_true, Bool.not_true, Bool.false_eq_true, if_false, ne_eq, not_true_eq_false, decide_false]
    by_cases hz : a.Rules.length = 0
    · rw [if_pos hz, chk_true (by simp; omega), ih _ (by simp; omega)]
      have : a.Rules = [] := List.length_eq_zero_iff.1 hz
      simp [rootsOf, this]
    · rw [if_neg hz, ih _ (by omega)]
      have : ¬ a.Rules = [] := fun e => hz (by rw [e]; rfl)
      simp [rootsOf, this]
theorem law24_LexiconBack_true (e : List Entry) (r : List LexRule) (ws : List (List UInt8)) : law24_LexiconBack 100000 e r ws = some true := by
  unfold law24_LexiconBack
  obtain ⟨b, hb, hb'⟩ := r24_Light_tot 100000 e r ws (by omega)
  simp only [jn_def, hb, bind_some', ex24, if_true]
  cases b with
  | false => rfl
  | true =>
    obtain ⟨h1, h2, h3, he, hr, _⟩ := hb' rfl
    have hl := anaS_len e r ws h1 h2
    rw [lexicon_Analyses_eq _ e r ws (by omega) h1 he hr (by omega) h2]
    simp only [bind_some', Bool.not_true, Bool.false_eq_true, if_false]
    rw [Back_L0_eq 100000 e r ws (anaS e r ws) _ (by omega) he hr (by omega) (anaS e r ws) 100000 0 [] (fun a ha => (mem_anaS ha).1) rfl (by omega) (by simp; omega)]
    rw [lexicon_Find_eq _ e ws (by omega) (by omega) (by omega)]
    have hroot : rootsOf (anaS e r ws) = findS e ws := roots_all e r ws e 0 rfl
    have hq := idxs_len (fun x => decide (x.Words = ws)) e 0
    simp only [bind_some', List.nil_append, hroot]
    rw [SameInts_eq _ _ _ (.inl (by unfold findS; omega))]
    simp
/-! once -/
def cntA (a : Analysis) : List Analysis → Nat
  | [] => 0
  | x :: t => (if x = a then 1 else 0) + cntA a t
theorem cntA_zero (a : Analysis) : ∀ (l : List Analysis), a ∉ l → cntA a l = 0
  | [], _ => rfl
  | x :: t, h => by
    have hx : x ≠ a := fun e => h (by simp [e])
    simp [cntA, hx, cntA_zero a t (fun h' => h (by simp [h']))]
theorem cntA_one (a : Analysis) : ∀ (l : List Analysis), l.Nodup → a ∈ l → cntA a l = 1
  | [], _, h => by simp at h
  | x :: t, hd, h => by
    obtain ⟨h1, h2⟩ := List.nodup_cons.1 hd
    by_cases hx : x = a
    · subst hx
      simp [cntA, cntA_zero x t h1]
    · rcases List.mem_cons.1 h with h | h
      · exact absurd h.symm hx
      · simp [cntA, hx, cntA_one a t h2 h]
theorem allC_nodup (r : Nat) (hr : r ≤ 4) : (allC r).Nodup := by
  match r, hr with
  | 0, _ => decide
  | 1, _ => decide
  | 2, _ => decide
  | 3, _ => decide +kernel
  | 4, _ => decide +kernel
theorem anaS_nodup (e : List Entry) (r : List LexRule) (ws : List (List UInt8)) (hr : r.length ≤ 4) : (anaS e r ws).Nodup := by
  unfold anaS List.Nodup
  rw [List.pairwise_flatMap]
  constructor
  · intro i _
    unfold anaC
    rw [List.pairwise_map]
    exact ((allC_nodup r.length hr).filter _).imp (fun h e => h (by injection e))
  · have : (List.range' 0 e.length).Nodup := List.nodup_range'
    refine this.imp ?_
    intro i j hij x hx y hy hxy
    simp only [anaC, List.mem_map] at hx hy
    obtain ⟨_, _, rfl⟩ := hx
    obtain ⟨_, _, rfl⟩ := hy
    injection hxy with h1 _
    exact hij (by omega)
theorem allC_mem (r : Nat) (c : List Int) (hl : c.length ≤ 2) (hc : ∀ x ∈ c, ∃ i : Nat, i < r ∧ x = (i : Int)) : c ∈ allC r := by
  have one : ∀ (p : List Int) (i : Nat), i < r → p ++ [(i : Int)] ∈ extS r p := fun p i hi => by
    simp only [extS, extF, List.mem_map, List.mem_range'_1]
    exact ⟨i, by omega, rfl⟩
  match c, hl, hc with
  | [], _, _ => simp [allC]
  | [x], _, hc =>
    obtain ⟨i, hi, rfl⟩ := hc x (by simp)
    have : [(i : Int)] ∈ c1S r := one [] i hi
    simp [allC, this]
  | [x, y], _, hc =>
    obtain ⟨i, hi, rfl⟩ := hc x (by simp)
    obtain ⟨j, hj, rfl⟩ := hc y (by simp)
    have h1 : [(i : Int)] ∈ c1S r := one [] i hi
    have h2 : [(i : Int), (j : Int)] ∈ c2S r := List.mem_flatMap.2 ⟨_, h1, one [(i : Int)] j hj⟩
    simp [allC, h2]
  | _ :: _ :: _ :: _, h, _ => simp at h
theorem Once_L0_eq (n : Nat) (a : Analysis) (l : List Analysis) (K : Nat → Option Bool) (hn : 1000 ≤ n) (ha : a.Rules.length ≤ 2) : ∀ (t : List Analysis) (m i c : Nat), l.drop i = t → t.length < m → c + t.length ≤ 1000000 → law24_LexiconOnce_L0 n a l K m c i = K (c + cntA a t)
  | [], m + 1, i, c, h, _, _ => by
    rw [law24_LexiconOnce_L0, if_neg (drop_nil' h)]
    simp [cntA]
  | x :: t, m + 1, i, c, h, hm, hb => by
    obtain ⟨h1, h2, h3⟩ := drop_cons h
    simp only [List.length_cons] at hb
    rw [law24_LexiconOnce_L0, if_pos h1]
    simp only [jn_def, h2, bind_some']
    rw [SameInts_eq n _ _ (.inr (by omega))]
    have ih := fun c hb => Once_L0_eq n a l K hn ha t m (i + 1) c h3 (by simpa using hm) hb
    by_cases c1 : x.Entry = a.Entry
    · by_cases c2 : x.Rules = a.Rules
      · have hx : x = a := by cases x; cases a; simp_all
        rw [if_pos c1]
        simp only [bind_some', c2, decide_true, if_true]
        rw [chk_true (by omega), ih _ (by omega)]
        simp [cntA, hx, Nat.add_assoc]
      · have hx : x ≠ a := fun e => c2 (by rw [e])
        rw [if_pos c1]
        simp only [bind_some', c2, decide_false, Bool.false_eq_true, if_false]
        rw [ih _ (by omega)]
        simp [cntA, hx]
    · have hx : x ≠ a := fun e => c1 (by rw [e])
      rw [if_neg c1]
      simp only [Bool.false_eq_true, if_false]
      rw [ih _ (by omega)]
      simp [cntA, hx]
theorem law24_LexiconOnce_true (e : List Entry) (r : List LexRule) (a : Analysis) : law24_LexiconOnce 100000 e r a = some true := by
  unfold law24_LexiconOnce
  obtain ⟨b, hb, hb'⟩ := r24_Light_tot 100000 e r [] (by omega)
  simp only [jn_def, hb, bind_some', ex24, if_true]
  cases b with
  | false => rfl
  | true =>
    obtain ⟨h1, h2, _, he, hr, _⟩ := hb' rfl
    simp only [Bool.not_true, Bool.false_eq_true, if_false]
    by_cases h : 6 < a.Rules.length
    · rw [if_pos (by simpa using h)]
    rw [if_neg (by simpa using h), lexicon_Form_eq _ e r a (by omega) he hr]
    simp only [bind_some']
    cases hf : formS e r a with
    | none => simp [enc]
    | some ws =>
      obtain ⟨g1, g2, y, hy, _, g3, _⟩ := formS_inv e r a ws he hr hf
      have hl := anaS_len e r ws h1 h2
      simp only [enc, Bool.not_true, Bool.false_eq_true, if_false]
      rw [lexicon_Analyses_eq _ e r ws (by omega) h1 he hr (by omega) h2]
      simp only [bind_some']
      rw [Once_L0_eq 100000 a (anaS e r ws) _ (by omega) g1 (anaS e r ws) 100000 0 0 rfl (by omega) (by omega)]
      have hm : a ∈ anaS e r ws := anaS_mem a.Entry.toNat (ix_some hy).2.2 (ix_some hy).2.1 (allC_mem _ _ g1 (fun x hx => by
        obtain ⟨z, hz⟩ := Option.isSome_iff_exists.1 (g2 x hx)
        exact ⟨x.toNat, (ix_some hz).2.2, (ix_some hz).2.1⟩)) hf
      rw [cntA_one a _ (anaS_nodup e r ws h2) hm]
      rfl
/-! growing -/
theorem formR_take (r : List LexRule) (k : Nat) : ∀ (t : List Int) (l : List (List UInt8)), (∀ x ∈ t, x < (k : Int)) → formR (r.take k) t l = formR r t l
  | [], l, _ => rfl
  | x :: t, l, h => by
    have hx : ix (r.take k) x = ix r x := by
      unfold ix
      split
      · have := h x (by simp)
        rw [List.getElem?_take_of_lt (by omega)]
      · rfl
    unfold formR
    rw [hx]
    congr 1
    funext y
    congr 1
    funext l'
    exact formR_take r k t l' (fun z hz => h z (by simp [hz]))
theorem flat_congr {β : Type} {f g : Nat → List β} : ∀ (l : List Nat), (∀ i ∈ l, f i = g i) → l.flatMap f = l.flatMap g
  | [], _ => rfl
  | x :: t, h => by rw [List.flatMap_cons, List.flatMap_cons, h x (by simp), flat_congr t (fun i hi => h i (by simp [hi]))]
theorem grow_entries (e : List Entry) (r : List LexRule) (ws : List (List UInt8)) (k : Nat) (hk : e.length = k + 1) : anaS (e.take k) r ws = (anaS e r ws).filter fun a => decide (a.Entry < (k : Int)) := by
  unfold anaS
  have hl : (e.take k).length = k := by simp; omega
  rw [hl, hk, List.range'_concat, List.flatMap_append, List.filter_append]
  have z : ([0 + 1 * k].flatMap fun (i : Nat) => anaC e r ws (i : Int) (allC r.length)).filter (fun a => decide (a.Entry < (k : Int))) = [] := by
    rw [List.filter_eq_nil_iff]
    intro a ha
    simp only [List.flatMap_cons, List.flatMap_nil, List.append_nil, anaC, List.mem_map] at ha
    obtain ⟨c, _, rfl⟩ := ha
    simp
  rw [z, List.append_nil, List.filter_flatMap]
  apply flat_congr
  intro i hi
  have hi' : i < k := by have := List.mem_range'_1.1 hi; omega
  have hf : ∀ c, formS (e.take k) r ⟨(i : Int), c⟩ = formS e r ⟨(i : Int), c⟩ := fun c => by
    unfold formS
    simp only [ix_nat, List.getElem?_take_of_lt hi']
  rw [List.filter_eq_self.2]
  · unfold anaC
    simp only [hf]
  · intro a ha
    simp only [anaC, List.mem_map] at ha
    obtain ⟨c, _, rfl⟩ := ha
    simpa using hi'
theorem allC_less (k : Nat) (hk : k ≤ 3) : allC k = (allC (k + 1)).filter (fun c => decide ((k : Int) ∉ c)) ∧ ∀ c ∈ allC k, ∀ x ∈ c, x < (k : Int) := by
  match k, hk with
  | 0, _ => decide +kernel
  | 1, _ => decide +kernel
  | 2, _ => decide +kernel
  | 3, _ => decide +kernel
theorem grow_rules (e : List Entry) (r : List LexRule) (ws : List (List UInt8)) (k : Nat) (hk : r.length = k + 1) (h3 : k ≤ 3) : anaS e (r.take k) ws = (anaS e r ws).filter fun a => decide ((k : Int) ∉ a.Rules) := by
  unfold anaS
  have hl : (r.take k).length = k := by simp; omega
  obtain ⟨q1, q2⟩ := allC_less k h3
  rw [hl, hk, List.filter_flatMap]
  apply flat_congr
  intro i hi
  unfold anaC
  rw [List.filter_map, List.filter_filter]
  congr 1
  have : (allC (k + 1)).filter (fun a => ((fun a : Analysis => decide ((k : Int) ∉ a.Rules)) ∘ Analysis.mk (i : Int)) a && decide (formS e r ⟨(i : Int), a⟩ = some ws)) = (allC k).filter fun c => decide (formS e r ⟨(i : Int), c⟩ = some ws) := by
    rw [q1, List.filter_filter]
    apply List.filter_congr
    intro c _
    simp [Bool.and_comm]
  rw [this]
  apply List.filter_congr
  intro c hc
  have : formS e (r.take k) ⟨(i : Int), c⟩ = formS e r ⟨(i : Int), c⟩ := by
    unfold formS
    simp only
    split
    · rfl
    · congr 1
      funext y
      exact formR_take r k c y.Words (q2 c hc)
  rw [this]
theorem Grows_L1_eq (n : Nat) (r : List LexRule) (a : Analysis) (K : Bool → Option Bool) : ∀ (t : List Int) (m i : Nat) (b : Bool), a.Rules.drop i = t → t.length < m → law24_LexiconGrows_L1 n r a K m b i = K (b || decide ((((r.length : Nat) : Int) - 1) ∈ t))
  | [], m + 1, i, b, h, _ => by
    rw [law24_LexiconGrows_L1, if_neg (drop_nil' h)]
    simp
  | x :: t, m + 1, i, b, h, hm => by
    obtain ⟨h1, h2, h3⟩ := drop_cons h
    have ih := fun b => Grows_L1_eq n r a K t m (i + 1) b h3 (by simpa using hm)
    rw [law24_LexiconGrows_L1, if_pos h1]
    cases b with
    | true => simp [ih]
    | false =>
      simp only [h2, bind_some', ih, Bool.false_eq_true, if_false, Bool.false_or]
      congr 1
      by_cases hx : x = ((r.length : Nat) : Int) - 1
      · simp [hx]
      · have : ¬ (((r.length : Nat) : Int) - 1 = x) := fun e => hx e.symm
        simp [hx, this]
theorem Grows_L0_eq (n : Nat) (e : List Entry) (r : List LexRule) (l : List Analysis) (K : List Analysis → List Analysis → Option Bool) (hn : 1000 ≤ n) : ∀ (t : List Analysis) (m i : Nat) (p q : List Analysis), (∀ a ∈ t, a.Rules.length ≤ 2) → l.drop i = t → t.length < m → p.length + t.length ≤ 1000000 → q.length + t.length ≤ 1000000 → law24_LexiconGrows_L0 n e r l K m p q i = K (p ++ t.filter fun a => decide (a.Entry < ((e.length : Nat) : Int) - 1)) (q ++ t.filter fun a => decide ((((r.length : Nat) : Int) - 1) ∉ a.Rules))
  | [], m + 1, i, p, q, _, h, _, _, _ => by
    rw [law24_LexiconGrows_L0, if_neg (drop_nil' h)]
    simp
  | a :: t, m + 1, i, p, q, hr, h, hm, hp, hq => by
    obtain ⟨h1, h2, h3⟩ := drop_cons h
    simp only [List.length_cons] at hp hq
    have hra := hr a (by simp)
    have ih := fun p q hp hq => Grows_L0_eq n e r l K hn t m (i + 1) p q (fun b hb => hr b (by simp [hb])) h3 (by simpa using hm) hp hq
    rw [law24_LexiconGrows_L0, if_pos h1, h2]
    simp only [bind_some', jn_def]
    have inner : ∀ p' : List Analysis, p'.length + t.length ≤ 1000000 → law24_LexiconGrows_L1 n r a (fun t_69 => if (!t_69) = true then chk ((q).length + ([a]).length ≤ 137438953472) (law24_LexiconGrows_L0 n e r l K m p' (q ++ [a]) (i + 1)) else law24_LexiconGrows_L0 n e r l K m p' q (i + 1)) n false 0 = K (p' ++ t.filter fun a => decide (a.Entry < ((e.length : Nat) : Int) - 1)) (q ++ (a :: t).filter fun a => decide ((((r.length : Nat) : Int) - 1) ∉ a.Rules)) := fun p' hp' => by
      rw [Grows_L1_eq n r a _ a.Rules n 0 false rfl (by omega)]
      by_cases hz : (((r.length : Nat) : Int) - 1) ∈ a.Rules
      · simp only [hz, decide_true, Bool.or_true, Bool.not_true, Bool.false_eq_true, if_false]
        rw [ih _ _ hp' (by omega), List.filter_cons_of_neg (by simpa using hz)]
      · simp only [hz, decide_false, Bool.or_false, Bool.not_false, if_true]
        rw [chk_true (by simp; omega), ih _ _ hp' (by simp; omega), List.filter_cons_of_pos (by simpa using hz)]
        simp
    by_cases hx : a.Entry < ((e.length : Nat) : Int) - 1
    · rw [if_pos hx, chk_true (by simp; omega), inner _ (by simp; omega), List.filter_cons_of_pos (p := fun a : Analysis => decide (a.Entry < ((e.length : Nat) : Int) - 1)) (by simpa using hx)]
      simp
    · rw [if_neg hx, inner _ (by omega), List.filter_cons_of_neg (p := fun a : Analysis => decide (a.Entry < ((e.length : Nat) : Int) - 1)) (by simpa using hx)]
theorem law24_LexiconGrows_true (e : List Entry) (r : List LexRule) (ws : List (List UInt8)) : law24_LexiconGrows 100000 e r ws = some true := by
  unfold law24_LexiconGrows
  obtain ⟨b, hb, hb'⟩ := r24_Light_tot 100000 e r ws (by omega)
  simp only [jn_def, hb, bind_some', ex24, if_true]
  cases b with
  | false => rfl
  | true =>
    obtain ⟨h1, h2, h3, he, hr, _⟩ := hb' rfl
    have hl := anaS_len e r ws h1 h2
    simp only [Bool.not_true, Bool.false_eq_true, if_false]
    by_cases z1 : e.length = 0
    · rw [if_pos z1]
    by_cases z2 : r.length = 0
    · rw [if_neg z1, if_pos (by simpa using z2)]
    rw [if_neg z1, if_neg (by simpa using z2)]
    obtain ⟨k, hk⟩ : ∃ k, e.length = k + 1 := ⟨e.length - 1, by omega⟩
    obtain ⟨j, hj⟩ : ∃ j, r.length = j + 1 := ⟨r.length - 1, by omega⟩
    rw [lexicon_Analyses_eq _ e r ws (by omega) h1 he hr (by omega) h2]
    simp only [bind_some']
    rw [Grows_L0_eq 100000 e r (anaS e r ws) _ (by omega) (anaS e r ws) 100000 0 [] [] (fun a ha => anaS_rules he hr ha) rfl (by omega) (by simp; omega) (by simp; omega)]
    have ek : ((e.length : Nat) : Int) - 1 = (k : Int) := by omega
    have ej : ((r.length : Nat) : Int) - 1 = (j : Int) := by omega
    simp only [ek, ej, List.nil_append, Int.toNat_natCast]
    have he' : ∀ x ∈ e.take k, okE x := fun x hx => he x (List.mem_of_mem_take hx)
    have hr' : lightR (r.take j) := fun x hx => hr x (List.mem_of_mem_take hx)
    rw [chk_true (by omega), chk_true (by omega), lexicon_Analyses_eq _ (e.take k) r ws (by omega) (by simp; omega) he' hr (by omega) h2]
    simp only [bind_some']
    rw [← grow_entries e r ws k hk, SameAnalyses_eq _ _ _ (by have := anaS_len (e.take k) r ws (by simp; omega) h2; omega) (fun x hx => by have := anaS_rules he' hr hx; omega)]
    simp only [bind_some', decide_true, if_true]
    rw [chk_true (by omega), chk_true (by omega), lexicon_Analyses_eq _ e (r.take j) ws (by omega) h1 he hr' (by omega) (by simp; omega)]
    simp only [bind_some']
    rw [← grow_rules e r ws j hj (by omega), SameAnalyses_eq _ _ _ (by have := anaS_len e (r.take j) ws h1 (by simp; omega); omega) (fun x hx => by have := anaS_rules he hr' hx; omega)]
    simp only [bind_some', decide_true, if_true]
end Go.Proofs.Ytgmghembhenonaa

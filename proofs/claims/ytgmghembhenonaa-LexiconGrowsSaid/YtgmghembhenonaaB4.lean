/- Chapter 24: chains, analyses -/
import Derived.Test.YtgmghembhenonaaB3
namespace Go.Proofs.Ytgmghembhenonaa
open Go.Gl
set_option linter.unusedVariables false
set_option linter.unusedSimpArgs false
/-! lexicon: chains of rules, analyses -/
def extF (x : List Int) (k d : Nat) : List (List Int) := (List.range' k d).map fun (i : Nat) => x ++ [((i : Nat) : Int)]
def extS (r : Nat) (x : List Int) : List (List Int) := extF x 0 r
theorem extF_succ (x : List Int) (k d : Nat) : extF x k (d + 1) = (x ++ [(k : Int)]) :: extF x (k + 1) d := by simp [extF, List.range'_succ]
theorem extS_len (r : Nat) (x : List Int) : (extS r x).length = r := by simp [extS, extF]
def c1S (r : Nat) : List (List Int) := extS r []
def c2S (r : Nat) : List (List Int) := (c1S r).flatMap (extS r)
def allC (r : Nat) : List (List Int) := [] :: (c1S r ++ c2S r)
theorem r24_chains_L2_eq (n r : Nat) (out : List (List Int)) (i : Nat) (x : List Int) (hx : out[i]? = some x) (hl : x.length ≤ 1000) (hr : r ≤ 1000) (K : List (List Int) → Option (List (List Int))) : ∀ (d m k : Nat) (next : List (List Int)), k + d = r → d < m → next.length + d ≤ 1000000 → r24_chains_L2 n (r : Int) out i K m next k = K (next ++ extF x k d)
  | 0, m + 1, k, next, h, _, _ => by
    rw [r24_chains_L2, if_neg (by omega)]
    simp [extF]
  | d + 1, m + 1, k, next, h, hm, hb => by
    rw [r24_chains_L2, if_pos (by omega), hx]
    simp only [bind_some']
    rw [chk_true (by omega), chk_true (by simp; omega), chk_true (by simp; omega), chk_true (by omega), r24_chains_L2_eq n r out i x hx hl hr K d m (k + 1) _ (by omega) (by omega) (by simp; omega), extF_succ]
    simp
theorem r24_chains_L1_eq (n r : Nat) (out : List (List Int)) (hn : 1001 ≤ n) (hr : r ≤ 1000) (K : List (List Int) → Option (List (List Int))) : ∀ (t : List (List Int)) (m i : Nat) (next : List (List Int)), (∀ x ∈ t, x.length ≤ 1000) → out.drop i = t → t.length < m → next.length + t.length * r ≤ 1000000 → r24_chains_L1 n (r : Int) out K m next i = K (next ++ t.flatMap (extS r))
  | [], m + 1, i, next, _, h, _, _ => by
    rw [r24_chains_L1, if_neg (drop_nil' h)]
    simp
  | x :: t, m + 1, i, next, hl, h, hm, hb => by
    obtain ⟨h1, h2, h3⟩ := drop_cons h
    simp only [List.length_cons, Nat.succ_mul] at hb
    rw [r24_chains_L1, if_pos h1]
    simp only [jn_def]
    rw [r24_chains_L2_eq n r out i x h2 (hl x (by simp)) hr _ r n 0 next (by omega) (by omega) (by omega)]
    rw [r24_chains_L1_eq n r out hn hr K t m (i + 1) _ (fun y hy => hl y (by simp [hy])) h3 (by simpa using hm) (by simp [extF]; omega)]
    simp [extS]
theorem mem_c1S {r : Nat} {x : List Int} (h : x ∈ c1S r) : ∃ i : Nat, i < r ∧ x = [(i : Int)] := by
  simp only [c1S, extS, extF, List.mem_map, List.mem_range'_1] at h
  obtain ⟨i, h1, h2⟩ := h
  exact ⟨i, by omega, by rw [← h2]; rfl⟩
theorem c1S_len (r : Nat) : (c1S r).length = r := extS_len r []
theorem c2S_len (r : Nat) : (c2S r).length = r * r := by
  unfold c2S
  rw [List.length_flatMap]
  have : (c1S r).map (fun a => (extS r a).length) = List.replicate r r := by
    rw [List.eq_replicate_iff]
    refine ⟨by simp [c1S_len], fun b hb => ?_⟩
    obtain ⟨a, _, rfl⟩ := List.mem_map.1 hb
    exact extS_len r a
  rw [this]
  simp
theorem r24_chains_eq (n r : Nat) (hn : 1001 ≤ n) (hr : r ≤ 100) : r24_chains n (r : Int) 0 = some [[]] ∧ r24_chains n (r : Int) 1 = some (c1S r) ∧ r24_chains n (r : Int) 2 = some (c2S r) := by
  obtain ⟨m, hm⟩ : ∃ m, n = m + 3 := ⟨n - 3, by omega⟩
  have g0 : ∀ m out, r24_chains_L0 n (r : Int) (m + 1) 0 out = some out := fun m out => by
    rw [r24_chains_L0, if_neg (by omega)]
  have s1 : ∀ (m : Nat) (k : Int) (out : List (List Int)), 0 < k → k ≤ 10 → (∀ x ∈ out, x.length ≤ 1000) → out.length * r ≤ 1000000 → out.length < n → r24_chains_L0 n (r : Int) (m + 1) k out = r24_chains_L0 n (r : Int) m (k - 1) (out.flatMap (extS r)) := fun m k out h1 h2 h3 h4 h5 => by
    rw [r24_chains_L0, if_pos h1]
    simp only [jn_def]
    rw [r24_chains_L1_eq n r out hn (by omega) _ out n 0 [] h3 rfl h5 (by simpa using h4)]
    rw [chk_true (by omega)]
    rfl
  have e1 : ([[]] : List (List Int)).flatMap (extS r) = c1S r := by simp [c1S]
  have b1 : ∀ x ∈ ([[]] : List (List Int)), x.length ≤ 1000 := fun x hx => by simp at hx; simp [hx]
  have b2 : ∀ x ∈ c1S r, x.length ≤ 1000 := fun x hx => by obtain ⟨i, _, rfl⟩ := mem_c1S hx; simp
  have hrr : r * r ≤ 100 * 100 := Nat.mul_le_mul hr hr
  unfold r24_chains
  refine ⟨?_, ?_, ?_⟩
  · have := g0 (m + 2) [[]]; rwa [← hm] at this
  · have := s1 (m + 2) 1 [[]] (by omega) (by omega) b1 (by simp; omega) (by simp; omega)
    rw [← hm] at this
    rw [this, e1]
    exact g0 _ _
  · have := s1 (m + 2) 2 [[]] (by omega) (by omega) b1 (by simp; omega) (by simp; omega)
    rw [← hm] at this
    rw [this, e1]
    have := s1 (m + 1) 1 (c1S r) (by omega) (by omega) b2 (by rw [c1S_len]; omega) (by rw [c1S_len]; omega)
    show r24_chains_L0 n (r : Int) (m + 1 + 1) (2 - 1) (c1S r) = _
    rw [show (2 - 1 : Int) = 1 by rfl, this]
    exact g0 _ _
theorem lexicon_chains_L2_eq (n r : Nat) (x : List Int) (hl : x.length ≤ 1000) (hr : r ≤ 1000) (K : List (List Int) → Option (List (List Int))) : ∀ (d m k : Nat) (next : List (List Int)), k + d = r → d < m → next.length + d ≤ 1000000 → lexicon_chains_L2 n (r : Int) K x m next k = K (next ++ extF x k d)
  | 0, m + 1, k, next, h, _, _ => by
    rw [lexicon_chains_L2, if_neg (by omega)]
    simp [extF]
  | d + 1, m + 1, k, next, h, hm, hb => by
    rw [lexicon_chains_L2, if_pos (by omega), slices_Clone_int, chk_true (by omega)]
    simp only [bind_some']
    rw [chk_true (by simp; omega), chk_true (by simp; omega), chk_true (by omega), lexicon_chains_L2_eq n r x hl hr K d m (k + 1) _ (by omega) (by omega) (by simp; omega), extF_succ]
    simp
theorem lexicon_chains_L1_eq (n r : Nat) (out0 : List (List Int)) (fr : Nat) (out : List (List Int)) (ho : (out0.drop fr).take (out0.length - fr) = out) (hn : 1001 ≤ n) (hr : r ≤ 1000) (K : List (List Int) → Option (List (List Int))) : ∀ (t : List (List Int)) (m i : Nat) (next : List (List Int)), (∀ x ∈ t, x.length ≤ 1000) → out.drop i = t → t.length < m → next.length + t.length * r ≤ 1000000 → lexicon_chains_L1 n (r : Int) out0 fr K m next i = K (next ++ t.flatMap (extS r))
  | [], m + 1, i, next, _, h, _, _ => by
    rw [lexicon_chains_L1, ho, if_neg (drop_nil' h)]
    simp
  | x :: t, m + 1, i, next, hl, h, hm, hb => by
    obtain ⟨h1, h2, h3⟩ := drop_cons h
    simp only [List.length_cons, Nat.succ_mul] at hb
    rw [lexicon_chains_L1, ho, if_pos h1, h2]
    simp only [jn_def, bind_some']
    rw [lexicon_chains_L2_eq n r x (hl x (by simp)) hr _ r n 0 next (by omega) (by omega) (by omega)]
    rw [lexicon_chains_L1_eq n r out0 fr out ho hn hr K t m (i + 1) _ (fun y hy => hl y (by simp [hy])) h3 (by simpa using hm) (by simp [extF]; omega)]
    simp [extS]
theorem lexicon_chains_eq (n r : Nat) (hn : 1001 ≤ n) (hr : r ≤ 100) : lexicon_chains n (r : Int) 2 = some (allC r) := by
  obtain ⟨m, hm⟩ : ∃ m, n = m + 3 := ⟨n - 3, by omega⟩
  have s1 : ∀ (m k fr : Nat) (out0 out : List (List Int)), (out0.drop fr).take (out0.length - fr) = out → k < 2 → fr ≤ out0.length → (∀ x ∈ out, x.length ≤ 1000) → out0.length + out.length * r ≤ 1000000 → out.length < n → lexicon_chains_L0 n (r : Int) 2 (m + 1) out0 fr k = lexicon_chains_L0 n (r : Int) 2 m (out0 ++ out.flatMap (extS r)) out0.length (k + 1) := fun m k fr out0 out h0 h1 h2 h3 h4 h5 => by
    rw [lexicon_chains_L0, if_pos (by omega), chk_true ⟨h2, Nat.le_refl _⟩]
    simp only [jn_def]
    rw [lexicon_chains_L1_eq n r out0 fr out h0 hn (by omega) _ out n 0 out0 h3 rfl h5 h4, chk_true (by omega)]
  have e1 : ([[]] : List (List Int)).flatMap (extS r) = c1S r := by simp [c1S]
  have b1 : ∀ x ∈ ([[]] : List (List Int)), x.length ≤ 1000 := fun x hx => by simp at hx; simp [hx]
  have b2 : ∀ x ∈ c1S r, x.length ≤ 1000 := fun x hx => by obtain ⟨i, _, rfl⟩ := mem_c1S hx; simp
  have hrr : r * r ≤ 100 * 100 := Nat.mul_le_mul hr hr
  unfold lexicon_chains
  have a1 := s1 (m + 2) 0 0 [[]] [[]] rfl (by omega) (by omega) b1 (by simp; omega) (by simp; omega)
  rw [← hm] at a1
  rw [a1, e1]
  have a2 := s1 (m + 1) 1 1 ([[]] ++ c1S r) (c1S r) (by simp) (by omega) (by simp) b2 (by simp [c1S_len]; omega) (by rw [c1S_len]; omega)
  show lexicon_chains_L0 n (r : Int) 2 (m + 1 + 1) ([[]] ++ c1S r) 1 1 = _
  rw [a2, lexicon_chains_L0, if_neg (by omega)]
  simp [allC, c2S]
theorem allC_len (r : Nat) (hr : r ≤ 4) : (allC r).length ≤ 21 := by
  have : r * r ≤ 4 * 4 := Nat.mul_le_mul hr hr
  simp [allC, c1S_len, c2S_len]; omega
/-! analyses -/
def anaC (e : List Entry) (r : List LexRule) (ws : List (List UInt8)) (i : Int) (cs : List (List Int)) : List Analysis := (cs.filter fun c => decide (formS e r ⟨i, c⟩ = some ws)).map (Analysis.mk i)
def anaS (e : List Entry) (r : List LexRule) (ws : List (List UInt8)) : List Analysis := (List.range' 0 e.length).flatMap fun (i : Nat) => anaC e r ws (i : Int) (allC r.length)
theorem anaC_len (e : List Entry) (r : List LexRule) (ws : List (List UInt8)) (i : Int) (cs : List (List Int)) : (anaC e r ws i cs).length ≤ cs.length := by
  simp only [anaC, List.length_map]
  exact List.length_filter_le _ _
theorem enc_test (o : Option (List (List UInt8))) (ws : List (List UInt8)) (K : Bool → Option (List Analysis)) (f : List (List UInt8) → Option Bool) (hf : ∀ l, f l = some (decide (l = ws))) : (if (enc [] o).2 = true then (f (enc [] o).1).bind fun b => K b else K false) = K (decide (o = some ws)) := by
  cases o with
  | none => simp [enc]
  | some l => simp [enc, hf]
theorem r24_Analyses_L2_eq (n : Nat) (e : List Entry) (r : List LexRule) (ws : List (List UInt8)) (i : Nat) (K : List Analysis → Option (List Analysis)) (cs : List (List Int)) (hn : 1000 ≤ n) (he : ∀ x ∈ e, okE x) (hr : lightR r) (hw : ws.length ≤ 100) : ∀ (t : List (List Int)) (m j : Nat) (out : List Analysis), cs.drop j = t → t.length < m → out.length + t.length ≤ 1000000 → r24_Analyses_L2 n e r ws i K cs m out j = K (out ++ anaC e r ws (i : Int) t)
  | [], m + 1, j, out, h, _, _ => by
    rw [r24_Analyses_L2, if_neg (drop_nil' h)]
    simp [anaC]
  | c :: t, m + 1, j, out, h, hm, hb => by
    obtain ⟨h1, h2, h3⟩ := drop_cons h
    simp only [List.length_cons] at hb
    rw [r24_Analyses_L2, if_pos h1, h2]
    simp only [bind_some', jn_def, r24_Form_eq n e r _ hn he hr]
    rw [enc_test _ ws (fun t_49 => if t_49 = true then
          chk ((out).length + ([(Analysis.mk ((i : Nat) : Int) c)]).length ≤ 137438953472) (
          r24_Analyses_L2 n e r ws i K cs m (out ++ [(Analysis.mk ((i : Nat) : Int) c)]) (j + 1))
        else
          r24_Analyses_L2 n e r ws i K cs m out (j + 1)) (fun l => r01_Same n l ws) (fun l => r01_Same_eq n l ws (.inr (by omega)))]
    have ih := fun out hb => r24_Analyses_L2_eq n e r ws i K cs hn he hr hw t m (j + 1) out h3 (by simpa using hm) hb
    by_cases hx : formS e r ⟨(i : Int), c⟩ = some ws
    · rw [if_pos (by simpa using hx), chk_true (by simp; omega), ih _ (by simp; omega)]
      simp [anaC, hx]
    · rw [if_neg (by simpa using hx), ih _ (by omega)]
      simp [anaC, hx]
theorem anaC_app (e : List Entry) (r : List LexRule) (ws : List (List UInt8)) (i : Int) (a b : List (List Int)) : anaC e r ws i (a ++ b) = anaC e r ws i a ++ anaC e r ws i b := by simp [anaC]
theorem r24_Analyses_L1_eq (n : Nat) (e : List Entry) (r : List LexRule) (ws : List (List UInt8)) (i : Nat) (K : List Analysis → Option (List Analysis)) (hn : 1001 ≤ n) (he : ∀ x ∈ e, okE x) (hr : lightR r) (hw : ws.length ≤ 100) (hrl : r.length ≤ 4) (out : List Analysis) (ho : out.length ≤ 1000) : r24_Analyses_L1 n e r ws i K n out 0 = K (out ++ anaC e r ws (i : Int) (allC r.length)) := by
  obtain ⟨m, hm⟩ : ∃ m, n = m + 4 := ⟨n - 4, by omega⟩
  have s1 : ∀ (m k : Nat) (cs : List (List Int)) (out : List Analysis), k ≤ 2 → r24_chains n ((r.length : Nat) : Int) ((k : Nat) : Int) = some cs → cs.length < n → out.length + cs.length ≤ 1000000 → r24_Analyses_L1 n e r ws i K (m + 1) out k = r24_Analyses_L1 n e r ws i K m (out ++ anaC e r ws (i : Int) cs) (k + 1) := fun m k cs out h1 h2 h3 h4 => by
    rw [r24_Analyses_L1, if_pos h1]
    simp only [jn_def, h2, bind_some']
    rw [r24_Analyses_L2_eq n e r ws i _ cs (by omega) he hr hw cs n 0 out rfl h3 h4, chk_true (by omega)]
  obtain ⟨c0, c1, c2⟩ := r24_chains_eq n r.length hn (by omega)
  have hrr : r.length * r.length ≤ 4 * 4 := Nat.mul_le_mul hrl hrl
  have l1 := c1S_len r.length
  have l2 := c2S_len r.length
  have a0 := s1 (m + 3) 0 _ out (by omega) c0 (by simp; omega) (by simp; omega)
  rw [← hm] at a0
  rw [a0]
  have q0 := anaC_len e r ws (i : Int) [[]]
  have a1 := s1 (m + 2) 1 _ (out ++ anaC e r ws (i : Int) [[]]) (by omega) c1 (by omega) (by simp at q0 ⊢; omega)
  show r24_Analyses_L1 n e r ws i K (m + 2 + 1) _ 1 = _
  rw [a1]
  have q1 := anaC_len e r ws (i : Int) (c1S r.length)
  have a2 := s1 (m + 1) 2 _ (out ++ anaC e r ws (i : Int) [[]] ++ anaC e r ws (i : Int) (c1S r.length)) (by omega) c2 (by omega) (by simp at q0 ⊢; omega)
  show r24_Analyses_L1 n e r ws i K (m + 1 + 1) _ 2 = _
  rw [a2, r24_Analyses_L1, if_neg (by omega)]
  rw [show allC r.length = [[]] ++ (c1S r.length ++ c2S r.length) from rfl, anaC_app, anaC_app]
  simp
theorem r24_Analyses_L0_eq (n : Nat) (e : List Entry) (r : List LexRule) (ws : List (List UInt8)) (hn : 1001 ≤ n) (he : ∀ x ∈ e, okE x) (hr : lightR r) (hw : ws.length ≤ 100) (hrl : r.length ≤ 4) : ∀ (d m i : Nat) (out : List Analysis), i + d = e.length → d < m → out.length + 21 * d ≤ 1000 → r24_Analyses_L0 n e r ws m out i = some (out ++ (List.range' i d).flatMap fun (i : Nat) => anaC e r ws (i : Int) (allC r.length))
  | 0, m + 1, i, out, h, _, _ => by
    rw [r24_Analyses_L0, if_neg (by omega)]
    simp
  | d + 1, m + 1, i, out, h, hm, hb => by
    have q := anaC_len e r ws (i : Int) (allC r.length)
    have q' := allC_len r.length hrl
    rw [r24_Analyses_L0, if_pos (by omega)]
    simp only [jn_def]
    rw [r24_Analyses_L1_eq n e r ws i _ hn he hr hw hrl out (by omega)]
    rw [r24_Analyses_L0_eq n e r ws hn he hr hw hrl d m (i + 1) _ (by omega) (by omega) (by simp; omega)]
    simp [List.range'_succ]
theorem r24_Analyses_eq (n : Nat) (e : List Entry) (r : List LexRule) (ws : List (List UInt8)) (hn : 1001 ≤ n) (hel : e.length ≤ 6) (he : ∀ x ∈ e, okE x) (hr : lightR r) (hw : ws.length ≤ 100) (hrl : r.length ≤ 4) : r24_Analyses n e r ws = some (anaS e r ws) := by
  unfold r24_Analyses anaS
  rw [r24_Analyses_L0_eq n e r ws hn he hr hw hrl e.length n 0 [] (by omega) (by omega) (by simp; omega)]
  simp
theorem lexicon_Analyses_L1_eq (n : Nat) (e : List Entry) (r : List LexRule) (ws : List (List UInt8)) (cs : List (List Int)) (K : List Analysis → Option (List Analysis)) (i : Int) (hn : 1000 ≤ n) (he : ∀ x ∈ e, okE x) (hr : lightR r) (hw : ws.length ≤ 100) : ∀ (t : List (List Int)) (m j : Nat) (out : List Analysis), cs.drop j = t → t.length < m → out.length + t.length ≤ 1000000 → lexicon_Analyses_L1 n e r ws cs K i m out j = K (out ++ anaC e r ws i t)
  | [], m + 1, j, out, h, _, _ => by
    rw [lexicon_Analyses_L1, if_neg (drop_nil' h)]
    simp [anaC]
  | c :: t, m + 1, j, out, h, hm, hb => by
    obtain ⟨h1, h2, h3⟩ := drop_cons h
    simp only [List.length_cons] at hb
    rw [lexicon_Analyses_L1, if_pos h1, h2]
    simp only [bind_some', jn_def, lexicon_Form_eq n e r _ hn he hr]
    rw [enc_test _ ws (fun t_49 => if t_49 = true then
          chk ((out).length + ([(Analysis.mk i c)]).length ≤ 137438953472) (
          lexicon_Analyses_L1 n e r ws cs K i m (out ++ [(Analysis.mk i c)]) (j + 1))
        else
          lexicon_Analyses_L1 n e r ws cs K i m out (j + 1)) (fun l => slices_Equal_string n l ws) (fun l => slices_Equal_eq n l ws (.inr (by omega)))]
    have ih := fun out hb => lexicon_Analyses_L1_eq n e r ws cs K i hn he hr hw t m (j + 1) out h3 (by simpa using hm) hb
    by_cases hx : formS e r ⟨i, c⟩ = some ws
    · rw [if_pos (by simpa using hx), chk_true (by simp; omega), ih _ (by simp; omega)]
      simp [anaC, hx]
    · rw [if_neg (by simpa using hx), ih _ (by omega)]
      simp [anaC, hx]
theorem lexicon_Analyses_L0_eq (n : Nat) (e : List Entry) (r : List LexRule) (ws : List (List UInt8)) (is : List Int) (hn : 1001 ≤ n) (he : ∀ x ∈ e, okE x) (hr : lightR r) (hw : ws.length ≤ 100) (hrl : r.length ≤ 4) : ∀ (t : List Int) (m j : Nat) (out : List Analysis), is.drop j = t → t.length < m → out.length + 21 * t.length ≤ 1000 → lexicon_Analyses_L0 n e r ws (allC r.length) is m out j = some (out ++ t.flatMap fun i => anaC e r ws i (allC r.length))
  | [], m + 1, j, out, h, _, _ => by
    rw [lexicon_Analyses_L0, if_neg (drop_nil' h)]
    simp
  | i :: t, m + 1, j, out, h, hm, hb => by
    obtain ⟨h1, h2, h3⟩ := drop_cons h
    simp only [List.length_cons] at hb
    have q := anaC_len e r ws i (allC r.length)
    have q' := allC_len r.length hrl
    rw [lexicon_Analyses_L0, if_pos h1]
    simp only [jn_def, h2, bind_some']
    rw [lexicon_Analyses_L1_eq n e r ws (allC r.length) _ i (by omega) he hr hw (allC r.length) n 0 out rfl (by omega) (by omega)]
    rw [lexicon_Analyses_L0_eq n e r ws is hn he hr hw hrl t m (j + 1) _ h3 (by simpa using hm) (by simp; omega)]
    simp
theorem idxs_flat {β : Type} (e : List Entry) (p : Entry → Bool) (g : Int → List β) (hg : ∀ (j : Nat) x, e[j]? = some x → p x = false → g (j : Int) = []) : ∀ (t : List Entry) (i : Nat), e.drop i = t → (idxs p t i).flatMap g = (List.range' i t.length).flatMap fun (j : Nat) => g (j : Int)
  | [], i, _ => by simp [idxs]
  | x :: t, i, h => by
    obtain ⟨h1, h2, h3⟩ := drop_cons h
    have ih := idxs_flat e p g hg t (i + 1) h3
    unfold idxs
    cases hp : p x with
    | true => simp [ih, List.range'_succ]
    | false => simp [ih, List.range'_succ, hg i x h2 hp]
theorem lexicon_Analyses_eq (n : Nat) (e : List Entry) (r : List LexRule) (ws : List (List UInt8)) (hn : 1001 ≤ n) (hel : e.length ≤ 6) (he : ∀ x ∈ e, okE x) (hr : lightR r) (hw : ws.length ≤ 100) (hrl : r.length ≤ 4) : lexicon_Analyses n e r ws = some (anaS e r ws) := by
  unfold lexicon_Analyses lexicon_indices_Entry anaS
  rw [lexicon_chains_eq n r.length hn (by omega)]
  simp only [bind_some']
  rw [indices_eq n e (fun p => lexicon_Analyses_1 n p ws) (fun x => decide (x.Words.length = ws.length)) e n 0 [] (fun x _ => rfl) rfl (by omega) (by simp; omega)]
  have q := idxs_len (fun x => decide (x.Words.length = ws.length)) e 0
  simp only [bind_some', List.nil_append]
  rw [lexicon_Analyses_L0_eq n e r ws _ hn he hr hw hrl (idxs (fun x => decide (x.Words.length = ws.length)) e 0) n 0 [] rfl (by omega) (by simp; omega)]
  rw [idxs_flat e _ (fun i => anaC e r ws i (allC r.length)) (fun j x hx hp => by
    unfold anaC
    rw [List.filter_eq_nil_iff.2 (fun c hc hd => ?_)]
    · rfl
    · obtain ⟨_, _, y, hy, hlen, _⟩ := formS_inv e r _ ws he hr (of_decide_eq_true hd)
      simp only [ix_nat] at hy
      rw [hx] at hy
      injection hy with hy
      subst hy
      simp [hlen] at hp) e 0 rfl]
  simp
theorem SameAnalyses_L0_eq (n : Nat) (a b : List Analysis) (hab : a.length = b.length) (hl : ∀ x ∈ a, x.Rules.length < n) : ∀ (t : List Analysis) (m i : Nat), a.drop i = t → t.length < m → r24_SameAnalyses_L0 n a b m i = some (decide (t = b.drop i))
  | [], m + 1, i, h, _ => by
    have := drop_nil' h
    rw [r24_SameAnalyses_L0, if_neg this, List.drop_of_length_le (by omega)]
    simp
  | x :: t, m + 1, i, h, hm => by
    obtain ⟨h1, h2, h3⟩ := drop_cons h
    rcases hbd : b.drop i with _ | ⟨y, u⟩
    · exact absurd (drop_nil' hbd) (by omega)
    obtain ⟨k1, k2, k3⟩ := drop_cons hbd
    rw [r24_SameAnalyses_L0, if_pos h1]
    simp only [jn_def, h2, k2, bind_some']
    rw [SameAnalyses_L0_eq n a b hab hl t m (i + 1) h3 (by simpa using hm), k3, SameInts_eq n _ _ (.inl (hl x (List.mem_of_getElem? h2)))]
    have hxy : x = y ↔ x.Entry = y.Entry ∧ x.Rules = y.Rules := by
      cases x; cases y; simp
    by_cases c1 : x.Entry = y.Entry
    · by_cases c2 : x.Rules = y.Rules
      · have : x = y := hxy.2 ⟨c1, c2⟩
        simp [this]
      · have : x ≠ y := fun e => c2 (by rw [e])
        simp [c1, c2, this]
    · have : x ≠ y := fun e => c1 (by rw [e])
      simp [c1, this]
theorem SameAnalyses_eq (n : Nat) (a b : List Analysis) (hn : a.length < n) (hl : ∀ x ∈ a, x.Rules.length < n) : r24_SameAnalyses n a b = some (decide (a = b)) := by
  unfold r24_SameAnalyses
  by_cases h : a.length = b.length
  · rw [if_neg (by simp [h]), SameAnalyses_L0_eq n a b h hl a n 0 rfl hn]
    rfl
  · have : a ≠ b := fun e => h (by rw [e])
    simp [h, this]
theorem mem_anaS {e : List Entry} {r : List LexRule} {ws : List (List UInt8)} {a : Analysis} (h : a ∈ anaS e r ws) : formS e r a = some ws ∧ a.Rules ∈ allC r.length ∧ ∃ i : Nat, i < e.length ∧ a.Entry = (i : Int) := by
  simp only [anaS, anaC, List.mem_flatMap, List.mem_map, List.mem_filter, List.mem_range'_1, decide_eq_true_eq] at h
  obtain ⟨i, hi, c, ⟨hc, hf⟩, rfl⟩ := h
  exact ⟨hf, hc, i, by omega, rfl⟩
theorem anaS_mem {e : List Entry} {r : List LexRule} {ws : List (List UInt8)} {a : Analysis} (i : Nat) (hi : i < e.length) (ha : a.Entry = (i : Int)) (hc : a.Rules ∈ allC r.length) (hf : formS e r a = some ws) : a ∈ anaS e r ws := by
  simp only [anaS, anaC, List.mem_flatMap, List.mem_map, List.mem_filter, List.mem_range'_1, decide_eq_true_eq]
  refine ⟨i, by omega, a.Rules, ⟨hc, ?_⟩, ?_⟩
  · rw [← ha]; exact hf
  · rw [← ha]
theorem anaS_len (e : List Entry) (r : List LexRule) (ws : List (List UInt8)) (hel : e.length ≤ 6) (hrl : r.length ≤ 4) : (anaS e r ws).length ≤ 200 := by
  have key : ∀ d i : Nat, ((List.range' i d).flatMap fun (i : Nat) => anaC e r ws (i : Int) (allC r.length)).length ≤ 21 * d := by
    intro d
    induction d with
    | zero => intro i; simp
    | succ d ih =>
      intro i
      have q := anaC_len e r ws (i : Int) (allC r.length)
      have q' := allC_len r.length hrl
      have := ih (i + 1)
      rw [List.range'_succ, List.flatMap_cons, List.length_append]
      omega
  have := key e.length 0
  unfold anaS
  omega
theorem anaS_rules {e : List Entry} {r : List LexRule} {ws : List (List UInt8)} {a : Analysis} (he : ∀ x ∈ e, okE x) (hr : lightR r) (h : a ∈ anaS e r ws) : a.Rules.length ≤ 2 := (formS_inv e r a ws he hr (mem_anaS h).1).1
theorem law24_LexiconAnalyses_true (e : List Entry) (r : List LexRule) (ws : List (List UInt8)) : law24_LexiconAnalyses 100000 e r ws = some true := by
  unfold law24_LexiconAnalyses
  obtain ⟨b, hb, hb'⟩ := r24_Light_tot 100000 e r ws (by omega)
  simp only [jn_def, hb, bind_some', ex24, if_true]
  cases b with
  | false => rfl
  | true =>
    obtain ⟨h1, h2, h3, he, hr, _⟩ := hb' rfl
    rw [lexicon_Analyses_eq _ e r ws (by omega) h1 he hr (by omega) h2, r24_Analyses_eq _ e r ws (by omega) h1 he hr (by omega) h2]
    simp only [bind_some', Bool.not_true, Bool.false_eq_true, if_false]
    rw [SameAnalyses_eq _ _ _ (by have := anaS_len e r ws h1 h2; omega) (fun x hx => by have := anaS_rules he hr hx; omega)]
    simp
end Go.Proofs.Ytgmghembhenonaa

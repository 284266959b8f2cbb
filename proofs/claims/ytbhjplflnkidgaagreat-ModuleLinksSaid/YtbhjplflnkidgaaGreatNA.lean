/- Chapter 22: plain laws -/
import Derived.Test.YtbhjplflnkidgaaGreatD1
import Derived.Test.YtbhjplflnkidgaaGreatGl15
import Derived.Test.YtbhjplflnkidgaaGreatGl16
section
namespace Go.Proofs.YtbhjplflnkidgaaGreat
open Go.Gl Go.Sort
set_option linter.unusedVariables false
set_option linter.unusedSimpArgs false
def NmsOk (k : Nat) (l : List (List UInt8)) : Prop := l.length ≤ k ∧ ∀ x ∈ l, x.length ≤ 100
theorem lightNames_L0 (n : Nat) (l : List (List UInt8)) : ∀ (t : List (List UInt8)) (m i : Nat), l.drop i = t → t.length < m → ∃ b, r21_lightNames_L0 n l m i = some b ∧ (b = true → ∀ x ∈ t, x.length ≤ 100)
 | [], m + 1, i, h, _ => ⟨true, by rw [r21_lightNames_L0, if_neg (drop_nil' h)], by simp⟩
 | x :: t, m + 1, i, h, hm => by
  obtain ⟨h1, h2, h3⟩ := drop_cons h
  rw [r21_lightNames_L0, if_pos h1, h2, bind_some']
  by_cases hx : (100 : Nat) < x.length
  ·rw [if_pos hx]; exact ⟨false, rfl, by simp⟩
  ·rw [if_neg hx]
   obtain ⟨b, e, hb⟩ := lightNames_L0 n l t m (i + 1) h3 (by simpa using hm)
   exact ⟨b, e, fun h y hy => by
    rcases List.mem_cons.1 hy with rfl | hy
    ·omega
    ·exact hb h y hy⟩
theorem lightNames_eq (n : Nat) (l : List (List UInt8)) (k : Nat) (hk : k < n) : ∃ b, r21_lightNames n l (k : Int) = some b ∧ (b = true → NmsOk k l) := by
 unfold r21_lightNames
 by_cases h : (k : Int) < ((l.length : Nat) : Int)
 ·rw [if_pos h]; exact ⟨false, rfl, by simp⟩
 ·rw [if_neg h]
  obtain ⟨b, e, hb⟩ := lightNames_L0 n l l n 0 rfl (by omega)
  exact ⟨b, e, fun h' => ⟨by omega, hb h'⟩⟩
def TyOk (x : TypeDecl) : Prop := x.Name.length ≤ 100 ∧ NmsOk 260 x.Supers ∧ x.Feats.length ≤ 260 ∧ ∀ f ∈ x.Feats, f.Feat.length ≤ 100 ∧ f.Value.length ≤ 100
theorem lightTypes_L1 (n : Nat) (l : List TypeDecl) (j : Nat) (x : TypeDecl) (hx : l[j]? = some x) (k4 : Option Bool) (Q : Prop) (hk : ∃ b, k4 = some b ∧ (b = true → Q)) : ∀ (t : List FeatDecl) (m i : Nat), x.Feats.drop i = t → t.length < m → ∃ b, r21_lightTypes_L1 n l j k4 m i = some b ∧ (b = true → Q ∧ ∀ f ∈ t, f.Feat.length ≤ 100 ∧ f.Value.length ≤ 100)
 | [], m + 1, i, h, _ => by
  rw [r21_lightTypes_L1, hx, bind_some', if_neg (drop_nil' h)]
  obtain ⟨b, e, hb⟩ := hk
  exact ⟨b, e, fun h => ⟨hb h, by simp⟩⟩
 | f :: t, m + 1, i, h, hm => by
  obtain ⟨h1, h2, h3⟩ := drop_cons h
  rw [r21_lightTypes_L1, hx, bind_some', if_pos h1, jn_def, h2, bind_some']
  by_cases hf : (100 : Nat) < f.Feat.length
  ·rw [if_pos hf]; exact ⟨false, by simp, by simp⟩
  ·rw [if_neg hf]
   by_cases hv : (100 : Nat) < f.Value.length
   ·rw [decide_eq_true hv]; exact ⟨false, by simp, by simp⟩
   ·rw [decide_eq_false hv]
    obtain ⟨b, e, hb⟩ := lightTypes_L1 n l j x hx k4 Q hk t m (i + 1) h3 (by simpa using hm)
    refine ⟨b, by simpa using e, fun h => ⟨(hb h).1, fun y hy => ?_⟩⟩
    rcases List.mem_cons.1 hy with rfl | hy
    ·omega
    ·exact (hb h).2 y hy
theorem lightTypes_L0 (n : Nat) (hn : 1000 ≤ n) (l : List TypeDecl) : ∀ (t : List TypeDecl) (m i : Nat), l.drop i = t → t.length < m → ∃ b, r21_lightTypes_L0 n l m i = some b ∧ (b = true → ∀ x ∈ t, TyOk x)
 | [], m + 1, i, h, _ => ⟨true, by rw [r21_lightTypes_L0, if_neg (drop_nil' h)], by simp⟩
 | x :: t, m + 1, i, h, hm => by
  obtain ⟨h1, h2, h3⟩ := drop_cons h
  have ih := lightTypes_L0 n hn l t m (i + 1) h3 (by simpa using hm)
  rw [r21_lightTypes_L0, if_pos h1, jn_def, jn_def, h2, bind_some']
  by_cases hx : (100 : Nat) < x.Name.length
  ·rw [if_pos hx]; exact ⟨false, by simp, by simp⟩
  ·rw [if_neg hx]
   obtain ⟨b, e, hb⟩ := lightNames_eq n x.Supers 260 (by omega)
   have e' : r21_lightNames n x.Supers 260 = some b := e
   rw [e', bind_some']
   cases b with
   | false => exact ⟨false, by simp, by simp⟩
   | true =>
    rw [if_neg (by simp)]
    by_cases hf : (260 : Nat) < x.Feats.length
    ·rw [decide_eq_true hf]; exact ⟨false, by simp, by simp⟩
    ·rw [decide_eq_false hf]
     show ∃ b, r21_lightTypes_L1 n l i (r21_lightTypes_L0 n l m (i + 1)) n 0 = some b ∧ _
     obtain ⟨b', e2, hb'⟩ := lightTypes_L1 n l i x h2 _ _ ih x.Feats n 0 rfl (by omega)
     refine ⟨b', e2, fun hbt y hy => ?_⟩
     rcases List.mem_cons.1 hy with hyx | hy
     ·subst hyx; exact ⟨by omega, hb rfl, by omega, (hb' hbt).2⟩
     ·exact (hb' hbt).1 y hy
theorem lightTypes_eq (n : Nat) (hn : 1000 ≤ n) (l : List TypeDecl) (hl : l.length < n) : ∃ b, r21_lightTypes n l = some b ∧ (b = true → ∀ x ∈ l, TyOk x) := lightTypes_L0 n hn l l n 0 rfl hl
def DOk : Nat → Desc → Prop
  | 0, _ => False
  | k + 1, d => d.Name.length ≤ 60 ∧ d.Path.length ≤ 80 ∧ (∀ p ∈ d.Path, p.length ≤ 60) ∧ d.Kids.length ≤ 40 ∧ ∀ x ∈ d.Kids, DOk k x
def szD : Nat → Desc → Nat
  | 0, _ => 1
  | k + 1, d => 1 + (d.Kids.map (szD k)).sum
theorem weight_L0 (n : Nat) (d : Desc) (k11 : Option Int) (Q : Int → Prop) (hk : ∃ r, k11 = some r ∧ Q r) (hQ : Q 41) : ∀ (t : List (List UInt8)) (m i : Nat), d.Path.drop i = t → t.length < m → ∃ r, r19_weight_L0 n d 40 k11 m i = some r ∧ Q r ∧ (r ≤ 40 → (∀ p ∈ t, p.length ≤ 60) )
 | [], m + 1, i, h, _ => by
  rw [r19_weight_L0, if_neg (drop_nil' h)]
  obtain ⟨r, e, hb⟩ := hk
  exact ⟨r, e, hb, by simp⟩
 | x :: t, m + 1, i, h, hm => by
  obtain ⟨h1, h2, h3⟩ := drop_cons h
  rw [r19_weight_L0, if_pos h1, h2, bind_some']
  by_cases hx : (60 : Nat) < x.length
  ·rw [if_pos hx, chk_pos (by omega)]; exact ⟨41, rfl, hQ, by omega⟩
  ·rw [if_neg hx]
   obtain ⟨r, e, hq, hb⟩ := weight_L0 n d k11 Q hk hQ t m (i + 1) h3 (by simpa using hm)
   refine ⟨r, e, hq, fun h y hy => ?_⟩
   rcases List.mem_cons.1 hy with rfl | hy
   ·omega
   ·exact hb h y hy
theorem weight_L1 (n : Nat) (d : Desc) (deep : Int) (hd : 0 ≤ deep ∧ deep ≤ 80) (k : Nat) (R : Int) (hR : 0 ≤ R ∧ R ≤ 100000) (self : Desc → Int → Int → Option Int) (hs : ∀ x, ∃ r, self x (deep + 1) 40 = some r ∧ 1 ≤ r ∧ r ≤ R ∧ (r ≤ 40 → DOk k x ∧ r = (szD k x : Int))) (hkl : d.Kids.length ≤ 100000) :
  ∀ (t : List Desc) (m i : Nat) (acc : Int), d.Kids.drop i = t → t.length < m → 1 ≤ acc → acc ≤ 40 + R → ∃ r, r19_weight_L1 n d deep 40 self m acc i = some r ∧ 1 ≤ r ∧ r ≤ 40 + R ∧ (r ≤ 40 → r = acc + ((t.map (szD k)).sum : Nat) ∧ ∀ x ∈ t, DOk k x)
 | [], m + 1, i, acc, h, _, ha, hb => by
  rw [r19_weight_L1, jn_def, if_neg (drop_nil' h)]
  exact ⟨acc, rfl, ha, hb, fun _ => ⟨by simp, by simp⟩⟩
 | x :: t, m + 1, i, acc, h, hm, ha, hb => by
  obtain ⟨h1, h2, h3⟩ := drop_cons h
  rw [r19_weight_L1, jn_def, if_pos h1]
  by_cases hacc : acc ≤ 40
  ·rw [decide_eq_true hacc]
   show ∃ r, (d.Kids[i]?.bind fun x31 => chk (-9223372036854775808 ≤ deep + 1 ∧ deep + 1 ≤ 9223372036854775807) ((self x31 (deep + 1) 40).bind fun r34 => chk (-9223372036854775808 ≤ acc + r34 ∧ acc + r34 ≤ 9223372036854775807) (chk (i + 1 ≤ 9223372036854775807) (r19_weight_L1 n d deep 40 self m (acc + r34) (i + 1))))) = some r ∧ _
   rw [h2, bind_some', chk_pos (by omega)]
   obtain ⟨r, e, r1, r2, r3⟩ := hs x
   rw [e, bind_some', chk_pos (by omega), chk_pos (by omega)]
   obtain ⟨r', e', q1, q2, q3⟩ := weight_L1 n d deep hd k R hR self hs hkl t m (i + 1) (acc + r) h3 (by simpa using hm) (by omega) (by omega)
   refine ⟨r', e', q1, q2, fun h40 => ?_⟩
   obtain ⟨s1, s2⟩ := q3 h40
   have hr : r ≤ 40 := by omega
   obtain ⟨d1, d2⟩ := r3 hr
   refine ⟨by rw [s1, List.map_cons, List.sum_cons]; omega, fun y hy => ?_⟩
   rcases List.mem_cons.1 hy with rfl | hy
   ·exact d1
   ·exact s2 y hy
  ·rw [decide_eq_false hacc]
   exact ⟨acc, rfl, ha, hb, fun h => absurd h hacc⟩
theorem weight_spec : ∀ (k n : Nat) (d : Desc), k ≤ 80 → k + 200 ≤ n → ∃ r, r19_weight n d (81 - (k : Int)) 40 = some r ∧ 1 ≤ r ∧ r ≤ 41 + 40 * (k : Int) ∧ (r ≤ 40 → DOk k d ∧ r = (szD k d : Int))
 | 0, n + 1, d, _, _ => by
  rw [r19_weight, jn_def, jn_def, if_pos (by omega)]
  exact ⟨41, by simp [chk], by omega, by omega, by omega⟩
 | k + 1, 0, d, _, hn => by omega
 | k + 1, n + 1, d, hk, hn => by
  rw [r19_weight, jn_def, jn_def, if_neg (by omega)]
  by_cases c1 : (60 : Nat) < d.Name.length
  ·rw [if_pos c1]; exact ⟨41, by simp [chk], by omega, by omega, by omega⟩
  rw [if_neg c1]
  by_cases c2 : (80 : Nat) < d.Path.length
  ·rw [if_pos c2]; exact ⟨41, by simp [chk], by omega, by omega, by omega⟩
  rw [if_neg c2]
  by_cases c3 : (40 : Int) < ((d.Kids.length : Nat) : Int)
  ·rw [decide_eq_true c3]; exact ⟨41, by simp [chk], by omega, by omega, by omega⟩
  rw [decide_eq_false c3]
  have hself : ∀ x, ∃ r, r19_weight n x (81 - ((k + 1 : Nat) : Int) + 1) 40 = some r ∧ 1 ≤ r ∧ r ≤ 41 + 40 * (k : Int) ∧ (r ≤ 40 → DOk k x ∧ r = (szD k x : Int)) := fun x => by
   have h := weight_spec k n x (by omega) (by omega)
   have e : (81 - ((k + 1 : Nat) : Int) + 1) = 81 - (k : Int) := by omega
   rw [e]; exact h
  have hL1 := weight_L1 n d (81 - ((k + 1 : Nat) : Int)) (by omega) k (41 + 40 * (k : Int)) (by omega) (r19_weight n) hself (by omega) d.Kids n 0 1 rfl (by omega) (by omega) (by omega)
  obtain ⟨r, e, hq, hp⟩ := weight_L0 n d _ (fun r => 1 ≤ r ∧ r ≤ 41 + 40 * ((k + 1 : Nat) : Int) ∧ (r ≤ 40 → r = 1 + ((d.Kids.map (szD k)).sum : Nat) ∧ ∀ x ∈ d.Kids, DOk k x)) (by
   obtain ⟨r, e, a1, a2, a3⟩ := hL1
   exact ⟨r, e, a1, by omega, a3⟩) ⟨by omega, by omega, by omega⟩ d.Path n 0 rfl (by omega)
  refine ⟨r, by simpa using e, hq.1, hq.2.1, fun h40 => ?_⟩
  obtain ⟨s1, s2⟩ := hq.2.2 h40
  exact ⟨⟨by omega, by omega, hp h40, by omega, s2⟩, by rw [s1]; rfl⟩
def GD (d : Desc) : Prop := DOk 80 d ∧ szD 80 d ≤ 40
theorem Light_eq (n : Nat) (hn : 1000 ≤ n) (d : Desc) : ∃ b, r19_Light n d 40 = some b ∧ (b = true → GD d) := by
 obtain ⟨r, e, r1, r2, r3⟩ := weight_spec 80 n d (by omega) (by omega)
 unfold r19_Light
 have e' : r19_weight n d 1 40 = some r := e
 rw [e', bind_some']
 exact ⟨_, rfl, fun h => by
  have h := of_decide_eq_true h
  obtain ⟨a, b⟩ := r3 h
  exact ⟨a, by omega⟩⟩
end Go.Proofs.YtbhjplflnkidgaaGreat
end
section
namespace Go.Proofs.YtbhjplflnkidgaaGreat
open Go.Gl Go.Sort
set_option linter.unusedVariables false
set_option linter.unusedSimpArgs false
def DfOk (x : Def) : Prop := x.Name.length ≤ 60 ∧ x.Defaults.length ≤ 8 ∧ GD x.Strict ∧ ∀ d ∈ x.Defaults, GD d
theorem lightDef_L0 (n : Nat) (hn : 1000 ≤ n) (x : Def) : ∀ (t : List Desc) (m i : Nat), x.Defaults.drop i = t → t.length < m → ∃ b, r21_lightDef_L0 n x m i = some b ∧ (b = true → ∀ d ∈ t, GD d)
 | [], m + 1, i, h, _ => ⟨true, by rw [r21_lightDef_L0, if_neg (drop_nil' h)], by simp⟩
 | d :: t, m + 1, i, h, hm => by
  obtain ⟨h1, h2, h3⟩ := drop_cons h
  obtain ⟨b, e, hb⟩ := Light_eq n hn d
  rw [r21_lightDef_L0, if_pos h1, h2, bind_some', e, bind_some']
  cases b with
  | false => exact ⟨false, by simp, by simp⟩
  | true =>
   rw [if_neg (by simp)]
   obtain ⟨b', e', hb'⟩ := lightDef_L0 n hn x t m (i + 1) h3 (by simpa using hm)
   refine ⟨b', e', fun hbt y hy => ?_⟩
   rcases List.mem_cons.1 hy with hyx | hy
   ·subst hyx; exact hb rfl
   ·exact hb' hbt y hy
theorem lightDef_eq (n : Nat) (hn : 1000 ≤ n) (x : Def) : ∃ b, r21_lightDef n x = some b ∧ (b = true → DfOk x) := by
 unfold r21_lightDef
 rw [jn_def]
 by_cases c1 : (60 : Nat) < x.Name.length
 ·rw [if_pos c1]; exact ⟨false, by simp, by simp⟩
 rw [if_neg c1]
 by_cases c2 : (8 : Nat) < x.Defaults.length
 ·rw [if_pos c2]; exact ⟨false, by simp, by simp⟩
 rw [if_neg c2]
 obtain ⟨b, e, hb⟩ := Light_eq n hn x.Strict
 rw [e, bind_some']
 cases b with
 | false => exact ⟨false, by simp, by simp⟩
 | true =>
  obtain ⟨b', e', hb'⟩ := lightDef_L0 n hn x x.Defaults n 0 rfl (by omega)
  exact ⟨b', by simpa using e', fun h => ⟨by omega, by omega, hb rfl, hb' h⟩⟩
theorem lightDefs_L0 (n : Nat) (hn : 1000 ≤ n) (l : List Def) : ∀ (t : List Def) (m i : Nat), l.drop i = t → t.length < m → ∃ b, r21_lightDefs_L0 n l m i = some b ∧ (b = true → ∀ d ∈ t, DfOk d)
 | [], m + 1, i, h, _ => ⟨true, by rw [r21_lightDefs_L0, if_neg (drop_nil' h)], by simp⟩
 | d :: t, m + 1, i, h, hm => by
  obtain ⟨h1, h2, h3⟩ := drop_cons h
  obtain ⟨b, e, hb⟩ := lightDef_eq n hn d
  rw [r21_lightDefs_L0, if_pos h1, h2, bind_some', e, bind_some']
  cases b with
  | false => exact ⟨false, by simp, by simp⟩
  | true =>
   rw [if_neg (by simp)]
   obtain ⟨b', e', hb'⟩ := lightDefs_L0 n hn l t m (i + 1) h3 (by simpa using hm)
   refine ⟨b', e', fun hbt y hy => ?_⟩
   rcases List.mem_cons.1 hy with hyx | hy
   ·subst hyx; exact hb rfl
   ·exact hb' hbt y hy
theorem lightDefs_eq (n : Nat) (hn : 1000 ≤ n) (l : List Def) (hl : l.length < n) : ∃ b, r21_lightDefs n l = some b ∧ (b = true → ∀ d ∈ l, DfOk d) := lightDefs_L0 n hn l l n 0 rfl hl
def EnOk (x : EntryDecl) : Prop := NmsOk 8 x.Words ∧ DfOk x.Def
def LxOk (x : LexDecl) : Prop := x.Affix.Pairs.length ≤ 20 ∧ DfOk x.Def ∧ ∀ p ∈ x.Affix.Pairs, p.Old.length ≤ 100 ∧ p.New.length ≤ 100
theorem lightWords_L3 (n : Nat) (hn : 1000 ≤ n) (q : Module) : ∀ (t : List (List (List UInt8))) (m i : Nat), q.Checks.drop i = t → t.length < m → ∃ b, r21_lightWords_L3 n q m i = some b ∧ (b = true → ∀ x ∈ t, NmsOk 80 x)
 | [], m + 1, i, h, _ => ⟨true, by rw [r21_lightWords_L3, if_neg (drop_nil' h)], by simp⟩
 | x :: t, m + 1, i, h, hm => by
  obtain ⟨h1, h2, h3⟩ := drop_cons h
  obtain ⟨b, e, hb⟩ := lightNames_eq n x 80 (by omega)
  have e' : r21_lightNames n x 80 = some b := e
  rw [r21_lightWords_L3, if_pos h1, h2, bind_some', e', bind_some']
  cases b with
  | false => exact ⟨false, by simp, by simp⟩
  | true =>
   rw [if_neg (by simp)]
   obtain ⟨b', e', hb'⟩ := lightWords_L3 n hn q t m (i + 1) h3 (by simpa using hm)
   refine ⟨b', e', fun hbt y hy => ?_⟩
   rcases List.mem_cons.1 hy with hyx | hy
   ·subst hyx; exact hb rfl
   ·exact hb' hbt y hy
theorem lightWords_L2 (n : Nat) (q : Module) (j : Nat) (x : LexDecl) (hx : q.LexRules[j]? = some x) (k : Option Bool) (Q : Prop) (hk : ∃ b, k = some b ∧ (b = true → Q)) : ∀ (t : List Change) (m i : Nat), x.Affix.Pairs.drop i = t → t.length < m → ∃ b, r21_lightWords_L2 n q j k m i = some b ∧ (b = true → Q ∧ ∀ p ∈ t, p.Old.length ≤ 100 ∧ p.New.length ≤ 100)
 | [], m + 1, i, h, _ => by
  rw [r21_lightWords_L2, hx, bind_some', if_neg (drop_nil' h)]
  obtain ⟨b, e, hb⟩ := hk
  exact ⟨b, e, fun h => ⟨hb h, by simp⟩⟩
 | f :: t, m + 1, i, h, hm => by
  obtain ⟨h1, h2, h3⟩ := drop_cons h
  rw [r21_lightWords_L2, hx, bind_some', if_pos h1, jn_def, h2, bind_some']
  by_cases hf : (100 : Nat) < f.Old.length
  ·rw [if_pos hf]; exact ⟨false, by simp, by simp⟩
  ·rw [if_neg hf]
   by_cases hv : (100 : Nat) < f.New.length
   ·rw [decide_eq_true hv]; exact ⟨false, by simp, by simp⟩
   ·rw [decide_eq_false hv]
    obtain ⟨b, e, hb⟩ := lightWords_L2 n q j x hx k Q hk t m (i + 1) h3 (by simpa using hm)
    refine ⟨b, by simpa using e, fun h => ⟨(hb h).1, fun y hy => ?_⟩⟩
    rcases List.mem_cons.1 hy with rfl | hy
    ·omega
    ·exact (hb h).2 y hy
theorem lightWords_L1 (n : Nat) (hn : 1000 ≤ n) (q : Module) (k : Option Bool) (Q : Prop) (hk : ∃ b, k = some b ∧ (b = true → Q)) : ∀ (t : List LexDecl) (m i : Nat), q.LexRules.drop i = t → t.length < m → ∃ b, r21_lightWords_L1 n q k m i = some b ∧ (b = true → Q ∧ ∀ x ∈ t, LxOk x)
 | [], m + 1, i, h, _ => by
  rw [r21_lightWords_L1, if_neg (drop_nil' h)]
  obtain ⟨b, e, hb⟩ := hk
  exact ⟨b, e, fun h => ⟨hb h, by simp⟩⟩
 | x :: t, m + 1, i, h, hm => by
  obtain ⟨h1, h2, h3⟩ := drop_cons h
  have ih := lightWords_L1 n hn q k Q hk t m (i + 1) h3 (by simpa using hm)
  rw [r21_lightWords_L1, if_pos h1, jn_def, jn_def, h2, bind_some']
  by_cases hp : (20 : Nat) < x.Affix.Pairs.length
  ·rw [if_pos hp]; exact ⟨false, by simp, by simp⟩
  rw [if_neg hp]
  obtain ⟨b, e, hb⟩ := lightDef_eq n hn x.Def
  rw [e, bind_some']
  cases b with
  | false => exact ⟨false, by simp, by simp⟩
  | true =>
   obtain ⟨b', e2, hb'⟩ := lightWords_L2 n q i x h2 _ _ ih x.Affix.Pairs n 0 rfl (by omega)
   refine ⟨b', by simpa using e2, fun hbt => ⟨(hb' hbt).1.1, fun y hy => ?_⟩⟩
   rcases List.mem_cons.1 hy with hyx | hy
   ·subst hyx; exact ⟨by omega, hb rfl, (hb' hbt).2⟩
   ·exact (hb' hbt).1.2 y hy
theorem lightWords_L0 (n : Nat) (hn : 1000 ≤ n) (q : Module) (k : Option Bool) (Q : Prop) (hk : ∃ b, k = some b ∧ (b = true → Q)) : ∀ (t : List EntryDecl) (m i : Nat), q.Entries.drop i = t → t.length < m → ∃ b, r21_lightWords_L0 n q k m i = some b ∧ (b = true → Q ∧ ∀ x ∈ t, EnOk x)
 | [], m + 1, i, h, _ => by
  rw [r21_lightWords_L0, if_neg (drop_nil' h)]
  obtain ⟨b, e, hb⟩ := hk
  exact ⟨b, e, fun h => ⟨hb h, by simp⟩⟩
 | x :: t, m + 1, i, h, hm => by
  obtain ⟨h1, h2, h3⟩ := drop_cons h
  obtain ⟨b', e2, hb'⟩ := lightWords_L0 n hn q k Q hk t m (i + 1) h3 (by simpa using hm)
  obtain ⟨c, ec, hc⟩ := lightNames_eq n x.Words 8 (by omega)
  have ec' : r21_lightNames n x.Words 8 = some c := ec
  rw [r21_lightWords_L0, if_pos h1, jn_def, h2, bind_some', ec', bind_some']
  cases c with
  | false => exact ⟨false, by simp, by simp⟩
  | true =>
   rw [if_neg (by simp)]
   obtain ⟨b, e, hb⟩ := lightDef_eq n hn x.Def
   rw [e, bind_some']
   cases b with
   | false => exact ⟨false, by simp, by simp⟩
   | true =>
    refine ⟨b', by simpa using e2, fun hbt => ⟨(hb' hbt).1, fun y hy => ?_⟩⟩
    rcases List.mem_cons.1 hy with hyx | hy
    ·subst hyx; exact ⟨hc rfl, hb rfl⟩
    ·exact (hb' hbt).2 y hy
def LenOk (k : Nat) (q : Module) : Prop := q.Imports.length ≤ k ∧ q.Types.length ≤ k ∧ q.Templates.length ≤ k ∧ q.Entries.length ≤ k ∧ q.LexRules.length ≤ k ∧ q.Rules.length ≤ k ∧ q.Roots.length ≤ k ∧ q.Checks.length ≤ k ∧ q.Drops.length ≤ k
structure MdOk (q : Module) : Prop where
  name : q.Name.length ≤ 100
  imports : NmsOk 300 q.Imports
  drops : NmsOk 300 q.Drops
  types : ∀ x ∈ q.Types, TyOk x
  templates : ∀ x ∈ q.Templates, DfOk x
  rules : ∀ x ∈ q.Rules, DfOk x
  roots : ∀ x ∈ q.Roots, DfOk x
  entries : ∀ x ∈ q.Entries, EnOk x
  lex : ∀ x ∈ q.LexRules, LxOk x
  checks : ∀ x ∈ q.Checks, NmsOk 80 x
theorem lightWords_eq (n : Nat) (hn : 1000 ≤ n) (q : Module) (k : Nat) (hq : LenOk k q) (hk : k < n) : ∃ b, r21_lightWords n q = some b ∧ (b = true → (∀ x ∈ q.Entries, EnOk x) ∧ (∀ x ∈ q.LexRules, LxOk x) ∧ ∀ x ∈ q.Checks, NmsOk 80 x) := by
 obtain ⟨h1, h2, h3, h4, h5, h6, h7, h8, h9⟩ := hq
 unfold r21_lightWords
 simp only [jn_def]
 have a := lightWords_L3 n hn q q.Checks n 0 rfl (by omega)
 have b := lightWords_L1 n hn q _ _ a q.LexRules n 0 rfl (by omega)
 obtain ⟨c, e, hc⟩ := lightWords_L0 n hn q _ _ b q.Entries n 0 rfl (by omega)
 exact ⟨c, e, fun h => ⟨(hc h).2, (hc h).1.2, (hc h).1.1⟩⟩
theorem LightModule_eq (n : Nat) (hn : 1000 ≤ n) (q : Module) (k : Nat) (hq : LenOk k q) (hk : k < n) : ∃ b, r21_LightModule n q = some b ∧ (b = true → MdOk q) := by
 have ⟨h1, h2, h3, h4, h5, h6, h7, h8, h9⟩ := hq
 unfold r21_LightModule
 by_cases c1 : q.Name.length ≤ 100
 ·rw [if_pos c1]
  obtain ⟨c, ec⟩ : ∃ c, r21_count n q = some c := ⟨_, rfl⟩
  rw [ec, bind_some']
  by_cases c2 : c ≤ 300
  ·rw [if_pos c2]
   obtain ⟨b1, e1, p1⟩ := lightNames_eq n q.Imports 300 (by omega)
   have e1' : r21_lightNames n q.Imports 300 = some b1 := e1
   rw [e1', bind_some']
   cases b1 with
   | false => exact ⟨false, rfl, by simp⟩
   | true =>
   rw [if_pos rfl]
   obtain ⟨b2, e2, p2⟩ := lightNames_eq n q.Drops 300 (by omega)
   have e2' : r21_lightNames n q.Drops 300 = some b2 := e2
   rw [e2', bind_some']
   cases b2 with
   | false => exact ⟨false, rfl, by simp⟩
   | true =>
   rw [if_pos rfl]
   obtain ⟨b3, e3, p3⟩ := lightTypes_eq n hn q.Types (by omega)
   rw [e3, bind_some']
   cases b3 with
   | false => exact ⟨false, rfl, by simp⟩
   | true =>
   rw [if_pos rfl]
   obtain ⟨b4, e4, p4⟩ := lightDefs_eq n hn q.Templates (by omega)
   rw [e4, bind_some']
   cases b4 with
   | false => exact ⟨false, rfl, by simp⟩
   | true =>
   rw [if_pos rfl]
   obtain ⟨b5, e5, p5⟩ := lightDefs_eq n hn q.Rules (by omega)
   rw [e5, bind_some']
   cases b5 with
   | false => exact ⟨false, rfl, by simp⟩
   | true =>
   rw [if_pos rfl]
   obtain ⟨b6, e6, p6⟩ := lightDefs_eq n hn q.Roots (by omega)
   rw [e6, bind_some']
   cases b6 with
   | false => exact ⟨false, rfl, by simp⟩
   | true =>
   rw [if_pos rfl]
   obtain ⟨b7, e7, p7⟩ := lightWords_eq n hn q k hq hk
   rw [e7, bind_some']
   exact ⟨b7, rfl, fun h => ⟨c1, p1 rfl, p2 rfl, p3 rfl, p4 rfl, p5 rfl, p6 rfl, (p7 h).1, (p7 h).2.1, (p7 h).2.2⟩⟩
  ·rw [if_neg c2]; exact ⟨false, rfl, by simp⟩
 ·rw [if_neg c1]; exact ⟨false, rfl, by simp⟩
theorem Light_L0 (n : Nat) (hn : 1000 ≤ n) (l : List Module) (k : Nat) (hk : k < n) (hl : ∀ q ∈ l, LenOk k q) : ∀ (t : List Module) (m i : Nat) (c : Int), l.drop i = t → t.length < m → ∃ b, r21_Light_L0 n l m c i = some b ∧ (b = true → ∀ q ∈ t, MdOk q)
 | [], m + 1, i, c, h, _ => ⟨true, by rw [r21_Light_L0, if_neg (drop_nil' h)], by simp⟩
 | x :: t, m + 1, i, c, h, hm => by
  obtain ⟨h1, h2, h3⟩ := drop_cons h
  obtain ⟨b, e, hb⟩ := LightModule_eq n hn x k (hl x (List.mem_of_getElem? h2)) hk
  rw [r21_Light_L0, if_pos h1, h2, bind_some', e, bind_some']
  cases b with
  | false => exact ⟨false, by simp, by simp⟩
  | true =>
   rw [if_neg (by simp)]
   obtain ⟨c', ec⟩ : ∃ c, r21_count n x = some c := ⟨_, rfl⟩
   rw [ec, bind_some']
   split
   ·exact ⟨false, rfl, by simp⟩
   ·obtain ⟨b', e', hb'⟩ := Light_L0 n hn l k hk hl t m (i + 1) (IntKind.i64.wrap (IntKind.i64.wrap (IntKind.i64.wrap (c + c') + ((x.Imports.length : Nat) : Int)) + ((x.Drops.length : Nat) : Int))) h3 (by simpa using hm)
    refine ⟨b', e', fun hbt y hy => ?_⟩
    rcases List.mem_cons.1 hy with hyx | hy
    ·subst hyx; exact hb rfl
    ·exact hb' hbt y hy
theorem LightS_eq (n : Nat) (hn : 1000 ≤ n) (l : List Module) (k : Nat) (hk : k < n) (hl : ∀ q ∈ l, LenOk k q) : ∃ b, r21_Light n l = some b ∧ (b = true → ∀ q ∈ l, MdOk q) := by
 unfold r21_Light
 by_cases h : (300 : Nat) < l.length
 ·rw [if_pos h]; exact ⟨false, rfl, by simp⟩
 ·rw [if_neg h]; exact Light_L0 n hn l k hk hl l n 0 0 rfl (by omega)
end Go.Proofs.YtbhjplflnkidgaaGreat
end
section
namespace Go.Proofs.YtbhjplflnkidgaaGreat
open Go.Gl Go.Sort
set_option linter.unusedVariables false
set_option linter.unusedSimpArgs false
theorem digit_t (n : Nat) (c : UInt8) : ∃ b, r01_digit n c = some b := by unfold r01_digit; split <;> exact ⟨_, rfl⟩
theorem upper_t (n : Nat) (c : UInt8) : ∃ b, r01_upper n c = some b := by unfold r01_upper; split <;> exact ⟨_, rfl⟩
theorem lower_t (n : Nat) (c : UInt8) : ∃ b, r01_lower n c = some b := by unfold r01_lower; split <;> exact ⟨_, rfl⟩
theorem part_t (n : Nat) (c : UInt8) (g : Bool) : ∃ b, r01_part n c g = some b := by
 obtain ⟨a, ha⟩ := digit_t n c
 obtain ⟨b, hb⟩ := upper_t n c
 obtain ⟨d, hd⟩ := lower_t n c
 unfold r01_part
 rw [ha, hb, hd]
 simp only [bind_some']
 repeat' split
 all_goals exact ⟨_, rfl⟩
theorem named_L0 (n : Nat) (s : List UInt8) (g : Bool) : ∀ (t : List UInt8) (m i : Nat), s.drop i = t → t.length < m → ∃ b, r01_named_L0 n s g m i = some b
 | [], m + 1, i, h, _ => ⟨true, by rw [r01_named_L0, if_neg (drop_nil' h)]⟩
 | x :: t, m + 1, i, h, hm => by
  obtain ⟨h1, h2, h3⟩ := drop_cons h
  obtain ⟨b, e⟩ := part_t n x g
  rw [r01_named_L0, if_pos h1, h2, bind_some', e, bind_some']
  split
  ·exact ⟨_, rfl⟩
  ·exact named_L0 n s g t m (i + 1) h3 (by simpa using hm)
theorem named_t (n : Nat) (hn : 40 ≤ n) (s : List UInt8) (g : Bool) : ∃ b, r01_named n s g = some b := by
 unfold r01_named
 rw [jn_def]
 by_cases h1 : s.length < 1
 ·rw [if_pos h1]; exact ⟨false, by simp⟩
 rw [if_neg h1]
 by_cases h2 : (32 : Nat) < s.length
 ·rw [if_pos h2]; exact ⟨false, by simp⟩
 rw [if_neg h2]
 obtain ⟨c, hc⟩ : ∃ c, s[0]? = some c := ⟨_, List.getElem?_eq_getElem (by omega)⟩
 obtain ⟨a, ha⟩ := digit_t n c
 obtain ⟨b, hb⟩ := named_L0 n s g s n 0 rfl (by omega)
 rw [hc, bind_some', ha, bind_some', hb]
 split
 ·exact ⟨false, by simp⟩
 ·by_cases h3 : c.toNat = 45
  ·exact ⟨false, by simp [h3]⟩
  ·exact ⟨b, by simp [h3]⟩
theorem Name_t (n : Nat) (hn : 40 ≤ n) (s : List UInt8) : ∃ b, r01_Name n s = some b := by
 obtain ⟨b, e⟩ := named_t n hn s false
 exact ⟨b, by unfold r01_Name; rw [e]; rfl⟩
theorem Feature_t (n : Nat) (hn : 40 ≤ n) (s : List UInt8) : ∃ b, r01_Feature n s = some b := by
 obtain ⟨b, e⟩ := named_t n hn s true
 exact ⟨b, by unfold r01_Feature; rw [e]; rfl⟩
theorem Word_L0 (n : Nat) (s : List UInt8) : ∀ (t : List UInt8) (m i : Nat), s.drop i = t → t.length < m → ∃ b, r01_Word_L0 n s m i = some b
 | [], m + 1, i, h, _ => ⟨true, by rw [r01_Word_L0, if_neg (drop_nil' h)]⟩
 | x :: t, m + 1, i, h, hm => by
  obtain ⟨h1, h2, h3⟩ := drop_cons h
  obtain ⟨b, e⟩ := Word_L0 n s t m (i + 1) h3 (by simpa using hm)
  obtain ⟨u, hu⟩ := upper_t n x
  rw [r01_Word_L0, if_pos h1, jn_def, h2, bind_some', hu, bind_some', e]
  have gen : ∀ t : Bool, ∃ c, (if t = true then some false else some b) = some c := fun t => by cases t <;> exact ⟨_, rfl⟩
  repeat' split
  all_goals exact gen _
theorem Word_t (n : Nat) (hn : 40 ≤ n) (s : List UInt8) : ∃ b, r01_Word n s = some b := by
 unfold r01_Word
 rw [jn_def]
 by_cases h1 : s.length < 1
 ·rw [if_pos h1]; exact ⟨false, by simp⟩
 rw [if_neg h1]
 by_cases h2 : (32 : Nat) < s.length
 ·exact ⟨false, by simp [h2]⟩
 ·obtain ⟨b, hb⟩ := Word_L0 n s s n 0 rfl (by omega)
  exact ⟨b, by simp [h2, hb]⟩
theorem allNames_L0 (n : Nat) (hn : 40 ≤ n) (l : List (List UInt8)) (g : Bool) : ∀ (t : List (List UInt8)) (m i : Nat), l.drop i = t → t.length < m → ∃ b, r21_allNames_L0 n l g m i = some b
 | [], m + 1, i, h, _ => ⟨true, by rw [r21_allNames_L0, if_neg (drop_nil' h)]⟩
 | x :: t, m + 1, i, h, hm => by
  obtain ⟨h1, h2, h3⟩ := drop_cons h
  obtain ⟨b, e⟩ := allNames_L0 n hn l g t m (i + 1) h3 (by simpa using hm)
  obtain ⟨u, hu⟩ := Name_t n hn x
  obtain ⟨v, hv⟩ := Feature_t n hn x
  rw [r21_allNames_L0, if_pos h1, jn_def, h2]
  simp only [bind_some', hu, hv, e]
  repeat' split
  all_goals exact ⟨_, rfl⟩
theorem allNames_t (n : Nat) (hn : 40 ≤ n) (l : List (List UInt8)) (g : Bool) (hl : l.length < n) : ∃ b, r21_allNames n l g = some b := allNames_L0 n hn l g l n 0 rfl hl
theorem typeError_L0 (n : Nat) (hn : 40 ≤ n) (x : TypeDecl) : ∀ (t : List FeatDecl) (m i : Nat), x.Feats.drop i = t → t.length < m → ∃ b, r21_typeError_L0 n x m i = some b
 | [], m + 1, i, h, _ => ⟨0, by rw [r21_typeError_L0, if_neg (drop_nil' h)]⟩
 | f :: t, m + 1, i, h, hm => by
  obtain ⟨h1, h2, h3⟩ := drop_cons h
  obtain ⟨b, e⟩ := typeError_L0 n hn x t m (i + 1) h3 (by simpa using hm)
  obtain ⟨u, hu⟩ := Name_t n hn f.Value
  obtain ⟨v, hv⟩ := Feature_t n hn f.Feat
  rw [r21_typeError_L0, if_pos h1, jn_def, h2]
  simp only [bind_some', hu, hv, e]
  repeat' split
  all_goals exact ⟨_, rfl⟩
theorem typeError_t (n : Nat) (hn : 400 ≤ n) (x : TypeDecl) (h1 : x.Supers.length ≤ 260) (h2 : x.Feats.length ≤ 260) : ∃ b, r21_typeError n x = some b := by
 obtain ⟨u, hu⟩ := Name_t n (by omega) x.Name
 obtain ⟨v, hv⟩ := allNames_t n (by omega) x.Supers false (by omega)
 obtain ⟨b, e⟩ := typeError_L0 n (by omega) x x.Feats n 0 rfl (by omega)
 unfold r21_typeError
 simp only [bind_some', hu, hv, e, jn_def]
 repeat' split
 all_goals exact ⟨_, rfl⟩
theorem typesError_L0 (n : Nat) (hn : 400 ≤ n) (l : List TypeDecl) (hl : ∀ x ∈ l, TyOk x) : ∀ (t : List TypeDecl) (m i : Nat), l.drop i = t → t.length < m → ∃ b, r21_typesError_L0 n l m i = some b
 | [], m + 1, i, h, _ => ⟨0, by rw [r21_typesError_L0, if_neg (drop_nil' h)]⟩
 | x :: t, m + 1, i, h, hm => by
  obtain ⟨h1, h2, h3⟩ := drop_cons h
  obtain ⟨b, e⟩ := typesError_L0 n hn l hl t m (i + 1) h3 (by simpa using hm)
  obtain ⟨_, g1, g2, _⟩ := hl x (List.mem_of_getElem? h2)
  obtain ⟨u, hu⟩ := typeError_t n hn x g1.1 g2
  rw [r21_typesError_L0, if_pos h1, h2, bind_some', hu, bind_some', e]
  split <;> exact ⟨_, rfl⟩
def CkOk : Nat → Desc → Prop
  | 0, _ => True
  | k + 1, d => (d.Op = 5 → d.Path ≠ [] ∧ d.Kids.length = 1) ∧ ∀ x ∈ d.Kids, CkOk k x
theorem leaf_t (n : Nat) (op : Int) : ∃ b, r19_leaf n op = some b := by
 unfold r19_leaf
 repeat' split
 all_goals exact ⟨_, rfl⟩
theorem kids_L0 (n : Nat) (d : Desc) : ∀ (t : List Desc) (m i : Nat), d.Kids.drop i = t → t.length < m → ∃ b, r19_kids_L0 n d m i = some b
 | [], m + 1, i, h, _ => ⟨_, by rw [r19_kids_L0, if_neg (drop_nil' h)]⟩
 | x :: t, m + 1, i, h, hm => by
  obtain ⟨h1, h2, h3⟩ := drop_cons h
  obtain ⟨b, e⟩ := kids_L0 n d t m (i + 1) h3 (by simpa using hm)
  rw [r19_kids_L0, if_pos h1, h2, bind_some', e]
  split <;> exact ⟨_, rfl⟩
theorem kids_t (n : Nat) (d : Desc) (hl : d.Kids.length < n) : ∃ b, r19_kids n d = some b ∧ (b = true → d.Op = 5 → d.Kids.length = 1) := by
 obtain ⟨b, e⟩ := kids_L0 n d d.Kids n 0 rfl hl
 unfold r19_kids
 rw [jn_def, e]
 by_cases h5 : d.Op = 5
 ·refine ⟨decide (d.Kids.length = 1), by simp [h5], fun h _ => of_decide_eq_true h⟩
 ·have : ∀ b : Bool, (b = true → d.Op = 5 → d.Kids.length = 1) := fun b _ h => absurd h h5
  by_cases h1 : d.Op = 1
  ·exact ⟨decide (d.Kids.length = 0), by simp [h1], this _⟩
  by_cases h2 : d.Op = 2
  ·exact ⟨decide (d.Kids.length = 0), by simp [h2], this _⟩
  by_cases h3 : d.Op = 3
  ·exact ⟨decide (d.Kids.length = 0), by simp [h3], this _⟩
  by_cases h7 : d.Op = 7
  ·exact ⟨decide (2 ≤ d.Kids.length), by simp [h7], this _⟩
  by_cases h4 : d.Op = 4
  ·exact ⟨b, by simp [h4], this _⟩
  ·exact ⟨true, by simp [h1, h2, h3, h5, h7, h4], this _⟩
theorem formed_L0 (n : Nat) (hn : 40 ≤ n) (d : Desc) (k : Option Bool) (Q : Prop) (hk : ∃ b, k = some b ∧ (b = true → Q)) : ∀ (t : List (List UInt8)) (m i : Nat), d.Path.drop i = t → t.length < m → ∃ b, r19_formed_L0 n d k m i = some b ∧ (b = true → Q)
 | [], m + 1, i, h, _ => by rw [r19_formed_L0, if_neg (drop_nil' h)]; exact hk
 | x :: t, m + 1, i, h, hm => by
  obtain ⟨h1, h2, h3⟩ := drop_cons h
  obtain ⟨v, hv⟩ := Feature_t n hn x
  rw [r19_formed_L0, if_pos h1, h2, bind_some', hv, bind_some']
  split
  ·exact ⟨false, rfl, by simp⟩
  ·exact formed_L0 n hn d k Q hk t m (i + 1) h3 (by simpa using hm)
theorem formed_t (n : Nat) (hn : 200 ≤ n) (d : Desc) (hp : d.Path.length ≤ 80) (hk : d.Kids.length ≤ 40) : ∃ b, r19_formed n d = some b ∧ (b = true → d.Op = 5 → d.Path ≠ [] ∧ d.Kids.length = 1) := by
 obtain ⟨a, ha⟩ := leaf_t n d.Op
 obtain ⟨u, hu⟩ := Name_t n (by omega) d.Name
 obtain ⟨c, hc, hc2⟩ := kids_t n d (by omega)
 unfold r19_formed
 rw [jn_def, jn_def, ha, bind_some', hu, bind_some', hc, bind_some']
 have gen : ∀ t : Bool, ∃ b, (if t = true then some false else if (!((decide (d.Op = 5)) == (decide ((0 : Nat) < d.Path.length)))) = true then some false else r19_formed_L0 n d (some c) n 0) = some b ∧ (b = true → d.Op = 5 → d.Path ≠ [] ∧ d.Kids.length = 1) := fun t => by
  cases t with
  | true => exact ⟨false, rfl, by simp⟩
  | false =>
   rw [if_neg (by simp)]
   split
   ·exact ⟨false, rfl, by simp⟩
   ·rename_i hne
    obtain ⟨b, e, hb⟩ := formed_L0 n (by omega) d (some c) (d.Op = 5 → d.Kids.length = 1) ⟨c, rfl, hc2⟩ d.Path n 0 rfl (by omega)
    refine ⟨b, e, fun h h5 => ⟨fun hnil => hne ?_, hb h h5⟩⟩
    rw [h5, hnil]
    rfl
 by_cases c1 : (!(a == u)) = true
 ·rw [if_pos c1]; exact gen true
 rw [if_neg c1]
 by_cases c2 : (!a) = true
 ·rw [if_pos c2]; exact gen _
 ·rw [if_neg c2]; exact gen false
theorem check_L0 (n : Nat) (d : Desc) (self : Desc → Int → Option Int) (v : Int) (k : Nat) (hs : ∀ x ∈ d.Kids, ∃ e, self x v = some e ∧ (e = 0 → CkOk k x)) : ∀ (t : List Desc) (m i : Nat), d.Kids.drop i = t → t.length < m → ∃ e, r19_check_L0 n d self v m i = some e ∧ (e = 0 → ∀ x ∈ t, CkOk k x)
 | [], m + 1, i, h, _ => ⟨0, by rw [r19_check_L0, if_neg (drop_nil' h)], by simp⟩
 | x :: t, m + 1, i, h, hm => by
  obtain ⟨h1, h2, h3⟩ := drop_cons h
  obtain ⟨e, he, hc⟩ := hs x (List.mem_of_getElem? h2)
  rw [r19_check_L0, if_pos h1, h2, bind_some', he, bind_some']
  by_cases h0 : e = 0
  ·rw [if_neg (by simp [h0])]
   obtain ⟨e', he', hc'⟩ := check_L0 n d self v k hs t m (i + 1) h3 (by simpa using hm)
   refine ⟨e', he', fun hz y hy => ?_⟩
   rcases List.mem_cons.1 hy with hyx | hy
   ·subst hyx; exact hc h0
   ·exact hc' hz y hy
  ·rw [if_pos h0]; exact ⟨e, rfl, fun h => absurd h h0⟩
theorem check_t : ∀ (k n : Nat) (d : Desc) (v : Int), DOk k d → k + 200 ≤ n → 0 ≤ v → ∃ e, r19_check n d v = some e ∧ (e = 0 → CkOk k d)
 | 0, n, d, v, h, _, _ => h.elim
 | k + 1, 0, d, v, _, hn, _ => by omega
 | k + 1, n + 1, d, v, hd, hn, hv => by
  obtain ⟨d1, d2, d3, d4, d5⟩ := hd
  rw [r19_check, jn_def, jn_def, jn_def]
  obtain ⟨f, hf, hf2⟩ := formed_t n (by omega) d d2 d4
  rw [hf, bind_some']
  by_cases hv64 : (64 : Int) < v
  ·rw [if_pos hv64]; exact ⟨7, rfl, by simp⟩
  rw [if_neg hv64]
  have key : ∀ v', 0 ≤ v' → ∃ e, r19_check_L0 n d (r19_check n) v' n 0 = some e ∧ (e = 0 → ∀ x ∈ d.Kids, CkOk k x) := fun v' hv' =>
   check_L0 n d (r19_check n) v' k (fun x hx => check_t k n x v' (d5 x hx) (by omega) hv') d.Kids n 0 rfl (by omega)
  have gen2 : ∃ e, (if (!f) = true then some 1 else chk (-9223372036854775808 ≤ v + 1 ∧ v + 1 ≤ 9223372036854775807) (if d.Op = 4 then r19_check_L0 n d (r19_check n) v n 0 else r19_check_L0 n d (r19_check n) (v + 1) n 0)) = some e ∧ (e = 0 → CkOk (k + 1) d) := by
   cases f with
   | false => exact ⟨1, rfl, by simp⟩
   | true =>
    rw [if_neg (by simp), chk_pos (by omega)]
    split
    ·obtain ⟨e, he, hc⟩ := key v hv
     exact ⟨e, he, fun h0 => ⟨hf2 rfl, hc h0⟩⟩
    ·obtain ⟨e, he, hc⟩ := key (v + 1) (by omega)
     exact ⟨e, he, fun h0 => ⟨hf2 rfl, hc h0⟩⟩
  have gen1 : ∀ t : Bool, ∃ e, (if t = true then some 14 else (if (!f) = true then some 1 else chk (-9223372036854775808 ≤ v + 1 ∧ v + 1 ≤ 9223372036854775807) (if d.Op = 4 then r19_check_L0 n d (r19_check n) v n 0 else r19_check_L0 n d (r19_check n) (v + 1) n 0))) = some e ∧ (e = 0 → CkOk (k + 1) d) := fun t => by
   cases t with
   | true => exact ⟨14, rfl, by simp⟩
   | false => exact gen2
  have gen0 : ∀ t : Bool, ∃ e, (if t = true then some 7 else if d.Op < 1 then (if true = true then some 14 else (if (!f) = true then some 1 else chk (-9223372036854775808 ≤ v + 1 ∧ v + 1 ≤ 9223372036854775807) (if d.Op = 4 then r19_check_L0 n d (r19_check n) v n 0 else r19_check_L0 n d (r19_check n) (v + 1) n 0))) else (if decide ((8 : Int) < d.Op) = true then some 14 else (if (!f) = true then some 1 else chk (-9223372036854775808 ≤ v + 1 ∧ v + 1 ≤ 9223372036854775807) (if d.Op = 4 then r19_check_L0 n d (r19_check n) v n 0 else r19_check_L0 n d (r19_check n) (v + 1) n 0)))) = some e ∧ (e = 0 → CkOk (k + 1) d) := fun t => by
   cases t with
   | true => exact ⟨7, rfl, by simp⟩
   | false =>
    rw [if_neg (by simp)]
    split
    ·exact gen1 true
    ·exact gen1 _
  split
  ·exact gen0 true
  ·exact gen0 _
theorem Check_t (n : Nat) (hn : 1000 ≤ n) (d : Desc) (hd : GD d) : ∃ e, r19_Check n d = some e ∧ (e = 0 → CkOk 80 d) := by
 obtain ⟨e, he, hc⟩ := check_t 80 n d 1 hd.1 (by omega) (by omega)
 exact ⟨e, by unfold r19_Check; rw [he]; rfl, hc⟩
end Go.Proofs.YtbhjplflnkidgaaGreat
end
section
namespace Go.Proofs.YtbhjplflnkidgaaGreat
open Go.Gl Go.Sort
set_option linter.unusedVariables false
set_option linter.unusedSimpArgs false
theorem defError_L0 (n : Nat) (hn : 1000 ≤ n) (x : Def) (hx : ∀ d ∈ x.Defaults, GD d) (hl : x.Defaults.length ≤ 8) : ∀ (t : List Desc) (m i : Nat) (e : Int), x.Defaults.drop i = t → t.length < m → ∃ r, r21_defError_L0 n x m e i = some r
 | [], m + 1, i, e, h, _ => by rw [r21_defError_L0, jn_def, if_neg (drop_nil' h)]; exact ⟨e, rfl⟩
 | d :: t, m + 1, i, e, h, hm => by
  obtain ⟨h1, h2, h3⟩ := drop_cons h
  rw [r21_defError_L0, jn_def, if_pos h1]
  by_cases h0 : e = 0
  ·rw [decide_eq_true h0]
   obtain ⟨e', he', _⟩ := Check_t n hn d (hx d (List.mem_of_getElem? h2))
   show ∃ r, (x.Defaults[i]?.bind fun x24 => (r19_Check n x24).bind fun r26 => chk (i + 1 ≤ 9223372036854775807) (r21_defError_L0 n x m r26 (i + 1))) = some r
   rw [h2, bind_some', he', bind_some', chk_pos (by omega)]
   exact defError_L0 n hn x hx hl t m (i + 1) e' h3 (by simpa using hm)
  ·rw [decide_eq_false h0]; exact ⟨e, rfl⟩
theorem defError_t (n : Nat) (hn : 1000 ≤ n) (x : Def) (hx : DfOk x) : ∃ r, r21_defError n x = some r := by
 obtain ⟨u, hu⟩ := Name_t n (by omega) x.Name
 obtain ⟨_, h2, h3, h4⟩ := hx
 obtain ⟨e, he, _⟩ := Check_t n hn x.Strict h3
 obtain ⟨r, hr⟩ := defError_L0 n hn x h4 h2 x.Defaults n 0 e rfl (by omega)
 unfold r21_defError
 rw [hu, bind_some', he, bind_some', hr]
 repeat' split
 all_goals exact ⟨_, rfl⟩
theorem defsError_L0 (n : Nat) (hn : 1000 ≤ n) (l : List Def) (hl : ∀ x ∈ l, DfOk x) : ∀ (t : List Def) (m i : Nat), l.drop i = t → t.length < m → ∃ b, r21_defsError_L0 n l m i = some b
 | [], m + 1, i, h, _ => ⟨0, by rw [r21_defsError_L0, if_neg (drop_nil' h)]⟩
 | x :: t, m + 1, i, h, hm => by
  obtain ⟨h1, h2, h3⟩ := drop_cons h
  obtain ⟨b, e⟩ := defsError_L0 n hn l hl t m (i + 1) h3 (by simpa using hm)
  obtain ⟨u, hu⟩ := defError_t n hn x (hl x (List.mem_of_getElem? h2))
  rw [r21_defsError_L0, if_pos h1, h2, bind_some', hu, bind_some', e]
  split <;> exact ⟨_, rfl⟩
theorem entriesError_L1 (n : Nat) (hn : 1000 ≤ n) (x : EntryDecl) (k : Option Int) (hk : ∃ b, k = some b) : ∀ (t : List (List UInt8)) (m i : Nat), x.Words.drop i = t → t.length < m → ∃ b, r21_entriesError_L1 n x k m i = some b
 | [], m + 1, i, h, _ => by rw [r21_entriesError_L1, if_neg (drop_nil' h)]; exact hk
 | s :: t, m + 1, i, h, hm => by
  obtain ⟨h1, h2, h3⟩ := drop_cons h
  obtain ⟨u, hu⟩ := Word_t n (by omega) s
  obtain ⟨b, e⟩ := entriesError_L1 n hn x k hk t m (i + 1) h3 (by simpa using hm)
  rw [r21_entriesError_L1, if_pos h1, h2, bind_some', hu, bind_some', e]
  split <;> exact ⟨_, rfl⟩
theorem entriesError_L0 (n : Nat) (hn : 1000 ≤ n) (l : List EntryDecl) (hl : ∀ x ∈ l, EnOk x) : ∀ (t : List EntryDecl) (m i : Nat), l.drop i = t → t.length < m → ∃ b, r21_entriesError_L0 n l m i = some b
 | [], m + 1, i, h, _ => ⟨0, by rw [r21_entriesError_L0, if_neg (drop_nil' h)]⟩
 | x :: t, m + 1, i, h, hm => by
  obtain ⟨h1, h2, h3⟩ := drop_cons h
  obtain ⟨b, e⟩ := entriesError_L0 n hn l hl t m (i + 1) h3 (by simpa using hm)
  obtain ⟨g1, g2⟩ := hl x (List.mem_of_getElem? h2)
  obtain ⟨u, hu⟩ := defError_t n hn x.Def g2
  rw [r21_entriesError_L0, if_pos h1, h2, bind_some', jn_def, hu, bind_some', e]
  split
  ·exact ⟨1, rfl⟩
  ·refine entriesError_L1 n hn x _ ?_ x.Words n 0 rfl (by have := g1.1; omega)
   split <;> exact ⟨_, rfl⟩
theorem quotable_L0 (n : Nat) (s : List UInt8) : ∀ (t : List UInt8) (m i : Nat), s.drop i = t → t.length < m → ∃ b, r21_quotable_L0 n s m i = some b
 | [], m + 1, i, h, _ => ⟨true, by rw [r21_quotable_L0, if_neg (drop_nil' h)]⟩
 | c :: t, m + 1, i, h, hm => by
  obtain ⟨h1, h2, h3⟩ := drop_cons h
  obtain ⟨b, e⟩ := quotable_L0 n s t m (i + 1) h3 (by simpa using hm)
  rw [r21_quotable_L0, if_pos h1, jn_def, h2, bind_some', e]
  have gen : ∀ t : Bool, ∃ c, (if t = true then some false else some b) = some c := fun t => by cases t <;> exact ⟨_, rfl⟩
  by_cases c1 : c.toNat < 32
  ·rw [if_pos c1]; exact gen true
  rw [if_neg c1]
  by_cases c2 : (126 : Nat) < c.toNat
  ·rw [if_pos c2]; exact gen true
  ·rw [if_neg c2]; exact gen _
theorem affixError_L0 (n : Nat) (hn : 1000 ≤ n) (a : Affix) (ha : ∀ p ∈ a.Pairs, p.Old.length ≤ 100 ∧ p.New.length ≤ 100) : ∀ (t : List Change) (m i : Nat), a.Pairs.drop i = t → t.length < m → ∃ b, r21_affixError_L0 n a m i = some b
 | [], m + 1, i, h, _ => ⟨0, by rw [r21_affixError_L0, if_neg (drop_nil' h)]⟩
 | p :: t, m + 1, i, h, hm => by
  obtain ⟨h1, h2, h3⟩ := drop_cons h
  obtain ⟨b, e⟩ := affixError_L0 n hn a ha t m (i + 1) h3 (by simpa using hm)
  obtain ⟨g1, g2⟩ := ha p (List.mem_of_getElem? h2)
  obtain ⟨u, hu⟩ := quotable_L0 n p.Old p.Old n 0 rfl (by omega)
  obtain ⟨v, hv⟩ := quotable_L0 n p.New p.New n 0 rfl (by omega)
  have hu' : r21_quotable n p.Old = some u := hu
  have hv' : r21_quotable n p.New = some v := hv
  rw [r21_affixError_L0, if_pos h1, jn_def, h2, bind_some', hu', bind_some', hv', bind_some', e]
  have gen : ∀ t : Bool, ∃ c, (if t = true then some 1 else some b) = some c := fun t => by cases t <;> exact ⟨_, rfl⟩
  by_cases c1 : (!u) = true
  ·rw [if_pos c1]; exact gen true
  ·rw [if_neg c1]; exact gen _
theorem affixError_t (n : Nat) (hn : 1000 ≤ n) (a : Affix) (hl : a.Pairs.length ≤ 20) (ha : ∀ p ∈ a.Pairs, p.Old.length ≤ 100 ∧ p.New.length ≤ 100) : ∃ b, r21_affixError n a = some b := by
 obtain ⟨b, e⟩ := affixError_L0 n hn a ha a.Pairs n 0 rfl (by omega)
 unfold r21_affixError
 rw [jn_def, e]
 have gen : ∀ t : Bool, ∃ c, (if t = true then some 14 else if (!((decide (a.Kind = 0)) == (decide (a.Pairs.length = 0)))) = true then some 1 else some b) = some c := fun t => by
  cases t with
  | true => exact ⟨_, rfl⟩
  | false => rw [if_neg (by simp)]; split <;> exact ⟨_, rfl⟩
 by_cases c1 : a.Kind ≠ 0
 ·rw [if_pos c1]
  by_cases c2 : a.Kind ≠ 1
  ·rw [if_pos c2]; exact gen _
  ·rw [if_neg c2]; exact gen false
 ·rw [if_neg c1]; exact gen false
theorem lexError_L0 (n : Nat) (hn : 1000 ≤ n) (l : List LexDecl) (hl : ∀ x ∈ l, LxOk x) : ∀ (t : List LexDecl) (m i : Nat), l.drop i = t → t.length < m → ∃ b, r21_lexError_L0 n l m i = some b
 | [], m + 1, i, h, _ => ⟨0, by rw [r21_lexError_L0, if_neg (drop_nil' h)]⟩
 | x :: t, m + 1, i, h, hm => by
  obtain ⟨h1, h2, h3⟩ := drop_cons h
  obtain ⟨b, e⟩ := lexError_L0 n hn l hl t m (i + 1) h3 (by simpa using hm)
  obtain ⟨g1, g2, g3⟩ := hl x (List.mem_of_getElem? h2)
  obtain ⟨u, hu⟩ := defError_t n hn x.Def g2
  obtain ⟨v, hv⟩ := affixError_t n hn x.Affix g1 g3
  rw [r21_lexError_L0, if_pos h1, h2, bind_some', hv, bind_some', jn_def, hu, bind_some', e]
  have gen : ∀ t : Int, ∃ c, (if t ≠ 0 then some t else some b) = some c := fun t => by split <;> exact ⟨_, rfl⟩
  by_cases c1 : v = 0
  ·rw [if_pos c1]; exact gen _
  ·rw [if_neg c1]; exact gen _
theorem checksError_L0 (n : Nat) (hn : 1000 ≤ n) (l : List (List (List UInt8))) (hl : ∀ x ∈ l, NmsOk 80 x) : ∀ (t : List (List (List UInt8))) (m i : Nat), l.drop i = t → t.length < m → ∃ b, r21_checksError_L0 n l m i = some b
 | [], m + 1, i, h, _ => ⟨0, by rw [r21_checksError_L0, if_neg (drop_nil' h)]⟩
 | x :: t, m + 1, i, h, hm => by
  obtain ⟨h1, h2, h3⟩ := drop_cons h
  obtain ⟨b, e⟩ := checksError_L0 n hn l hl t m (i + 1) h3 (by simpa using hm)
  obtain ⟨u, hu⟩ := allNames_t n (by omega) x true (by have := (hl x (List.mem_of_getElem? h2)).1; omega)
  rw [r21_checksError_L0, if_pos h1, h2, bind_some', hu, bind_some', e]
  repeat' split
  all_goals exact ⟨_, rfl⟩
theorem first_L0 (n : Nat) (l : List Int) : ∀ (t : List Int) (m i : Nat), l.drop i = t → t.length < m → ∃ b, r21_first_L0 n l m i = some b
 | [], m + 1, i, h, _ => ⟨0, by rw [r21_first_L0, if_neg (drop_nil' h)]⟩
 | x :: t, m + 1, i, h, hm => by
  obtain ⟨h1, h2, h3⟩ := drop_cons h
  obtain ⟨b, e⟩ := first_L0 n l t m (i + 1) h3 (by simpa using hm)
  rw [r21_first_L0, if_pos h1, h2, bind_some', e]
  split <;> exact ⟨_, rfl⟩
theorem long_L0 (n : Nat) (l : List Int) : ∀ (t : List Int) (m i : Nat), l.drop i = t → t.length < m → ∃ b, r21_long_L0 n m l i = some b ∧ (b = false → ∀ x ∈ t, x ≤ 256)
 | [], m + 1, i, h, _ => ⟨false, by rw [r21_long_L0, if_neg (drop_nil' h)], by simp⟩
 | x :: t, m + 1, i, h, hm => by
  obtain ⟨h1, h2, h3⟩ := drop_cons h
  obtain ⟨b, e, hb⟩ := long_L0 n l t m (i + 1) h3 (by simpa using hm)
  rw [r21_long_L0, if_pos h1, h2, bind_some', e]
  by_cases c : (256 : Int) < x
  ·rw [if_pos c]; exact ⟨true, rfl, by simp⟩
  ·rw [if_neg c]
   refine ⟨b, rfl, fun h y hy => ?_⟩
   rcases List.mem_cons.1 hy with hyx | hy
   ·subst hyx; omega
   ·exact hb h y hy
theorem long_t (n : Nat) (hn : 100 ≤ n) (q : Module) : ∃ b, r21_long n q = some b ∧ (b = false → LenOk 256 q) := by
 obtain ⟨b, e, hb⟩ := long_L0 n [((q.Imports.length : Nat) : Int), ((q.Types.length : Nat) : Int), ((q.Templates.length : Nat) : Int), ((q.Entries.length : Nat) : Int), ((q.LexRules.length : Nat) : Int), ((q.Rules.length : Nat) : Int), ((q.Roots.length : Nat) : Int), ((q.Checks.length : Nat) : Int), ((q.Drops.length : Nat) : Int)] _ n 0 rfl (by simp; omega)
 refine ⟨b, e, fun h => ?_⟩
 have := hb h
 simp only [List.drop_zero, List.mem_cons, List.not_mem_nil, or_false, forall_eq_or_imp, forall_eq] at this
 unfold LenOk
 omega
theorem moduleError_t (n : Nat) (hn : 1000 ≤ n) (q : Module) (hq : MdOk q) : ∃ e, r21_moduleError n q = some e ∧ (e = 0 → LenOk 256 q) := by
 obtain ⟨u, hu⟩ := Name_t n (by omega) q.Name
 obtain ⟨v, hv, hv2⟩ := long_t n (by omega) q
 unfold r21_moduleError
 rw [hu, bind_some']
 by_cases c1 : (!u) = true
 ·rw [if_pos c1]; exact ⟨1, rfl, by simp⟩
 rw [if_neg c1, hv, bind_some']
 cases v with
 | true => exact ⟨7, rfl, by simp⟩
 | false =>
  rw [if_neg (by simp)]
  have hL := hv2 rfl
  have ⟨l1, l2, l3, l4, l5, l6, l7, l8, l9⟩ := hL
  obtain ⟨a1, e1⟩ := allNames_t n (by omega) q.Imports false (by omega)
  obtain ⟨a2, e2⟩ := typesError_L0 n (by omega) q.Types hq.types q.Types n 0 rfl (by omega)
  obtain ⟨a3, e3⟩ := defsError_L0 n hn q.Templates hq.templates q.Templates n 0 rfl (by omega)
  obtain ⟨a4, e4⟩ := entriesError_L0 n hn q.Entries hq.entries q.Entries n 0 rfl (by omega)
  obtain ⟨a5, e5⟩ := lexError_L0 n hn q.LexRules hq.lex q.LexRules n 0 rfl (by omega)
  obtain ⟨a6, e6⟩ := defsError_L0 n hn q.Rules hq.rules q.Rules n 0 rfl (by omega)
  obtain ⟨a7, e7⟩ := defsError_L0 n hn q.Roots hq.roots q.Roots n 0 rfl (by omega)
  obtain ⟨a8, e8⟩ := checksError_L0 n hn q.Checks hq.checks q.Checks n 0 rfl (by omega)
  obtain ⟨a9, e9⟩ := allNames_t n (by omega) q.Drops true (by omega)
  obtain ⟨a10, e10⟩ := first_L0 n [a2, a3, a4, a5, a6, a7, a8] _ n 0 rfl (by simp; omega)
  have e2' : r21_typesError n q.Types = some a2 := e2
  have e3' : r21_defsError n q.Templates = some a3 := e3
  have e4' : r21_entriesError n q.Entries = some a4 := e4
  have e5' : r21_lexError n q.LexRules = some a5 := e5
  have e6' : r21_defsError n q.Rules = some a6 := e6
  have e7' : r21_defsError n q.Roots = some a7 := e7
  have e8' : r21_checksError n q.Checks = some a8 := e8
  have e10' : r21_first n [a2, a3, a4, a5, a6, a7, a8] = some a10 := e10
  rw [e1, bind_some']
  by_cases c2 : (!a1) = true
  ·rw [if_pos c2]; exact ⟨1, rfl, by simp⟩
  rw [if_neg c2, e2', bind_some', e3', bind_some', e4', bind_some', e5', bind_some', e6', bind_some', e7', bind_some', e8', bind_some', e10', bind_some', jn_def, e9, bind_some']
  have gen : ∀ t : Bool, ∃ e, (if t = true then some 1 else some a10) = some e ∧ (e = 0 → LenOk 256 q) := fun t => by cases t <;> exact ⟨_, rfl, fun _ => hL⟩
  by_cases c3 : a10 = 0
  ·rw [if_pos c3]; exact gen _
  ·rw [if_neg c3]; exact gen false
end Go.Proofs.YtbhjplflnkidgaaGreat
end
section
namespace Go.Proofs.YtbhjplflnkidgaaGreat
open Go.Gl Go.Sort
set_option linter.unusedVariables false
set_option linter.unusedSimpArgs false
theorem use_k {α β : Type} {A : Option β} {K : α → Option β} {P : α → Prop} {Q : β → Prop} (h : ∃ s', A = K s' ∧ P s') (g : ∀ s', P s' → ∃ s, K s' = some s ∧ Q s) : ∃ s, A = some s ∧ Q s := by
 obtain ⟨s', e, hp⟩ := h
 rw [e]
 exact g s' hp
theorem szD_sub (k : Nat) : ∀ (t : List Desc) (x : Desc), x ∈ t → szD k x ≤ (t.map (szD k)).sum
 | y :: t, x, h => by
  rw [List.map_cons, List.sum_cons]
  rcases List.mem_cons.1 h with rfl | h
  ·omega
  ·have := szD_sub k t x h; omega
theorem joined_L0 (n : Nat) (k : Nat) (l : List Desc) (bt ls : List UInt8) (hb : bt.length ≤ 10 ∧ ls.length ≤ 10) (via : Desc → Option (List UInt8)) (hv : ∀ x ∈ l, ∃ s, via x = some s ∧ s.length ≤ 6000 * szD k x) : ∀ (t : List Desc) (m i : Nat) (s : List UInt8), l.drop i = t → t.length < m → s.length + 6000 * (t.map (szD k)).sum + 10 * t.length ≤ 1000000000 → ∃ r, r19_joined_L0 n l bt ls via m s i = some r ∧ r.length ≤ s.length + 6000 * (t.map (szD k)).sum + 10 * t.length
 | [], m + 1, i, s, h, _, _ => ⟨s, by rw [r19_joined_L0, if_neg (drop_nil' h)], by simp⟩
 | x :: t, m + 1, i, s, h, hm, hs => by
  obtain ⟨h1, h2, h3⟩ := drop_cons h
  obtain ⟨y, hy, hy2⟩ := hv x (List.mem_of_getElem? h2)
  rw [List.map_cons, List.sum_cons, List.length_cons] at hs ⊢
  rw [r19_joined_L0, if_pos h1, h2]
  have gen : ∀ s' : List UInt8, s'.length ≤ s.length + 10 → ∃ r, chk (s'.length + y.length ≤ 9223372036854775807) (r19_joined_L0 n l bt ls via m (s' ++ y) (i + 1)) = some r ∧ r.length ≤ s.length + 6000 * (szD k x + (t.map (szD k)).sum) + 10 * (t.length + 1) := fun s' hs' => by
   rw [chk_pos (by omega)]
   obtain ⟨r, e, hr⟩ := joined_L0 n k l bt ls hb via hv t m (i + 1) (s' ++ y) h3 (by simpa using hm) (by rw [List.length_append]; omega)
   rw [List.length_append] at hr
   exact ⟨r, e, by omega⟩
  have gen2 : ∀ b : Bool, ∃ r, (if b = true then chk (s.length + ls.length ≤ 9223372036854775807) (chk ((s ++ ls).length + y.length ≤ 9223372036854775807) (r19_joined_L0 n l bt ls via m ((s ++ ls) ++ y) (i + 1))) else if (0 : Nat) < i then chk (s.length + bt.length ≤ 9223372036854775807) (chk ((s ++ bt).length + y.length ≤ 9223372036854775807) (r19_joined_L0 n l bt ls via m ((s ++ bt) ++ y) (i + 1))) else chk (s.length + y.length ≤ 9223372036854775807) (r19_joined_L0 n l bt ls via m (s ++ y) (i + 1))) = some r ∧ r.length ≤ s.length + 6000 * (szD k x + (t.map (szD k)).sum) + 10 * (t.length + 1) := fun b => by
   cases b with
   | true => rw [if_pos rfl, chk_pos (by omega)]; exact gen (s ++ ls) (by rw [List.length_append]; omega)
   | false =>
    rw [if_neg (by simp)]
    split
    ·rw [chk_pos (by omega)]; exact gen (s ++ bt) (by rw [List.length_append]; omega)
    ·exact gen s (by omega)
  by_cases c : (0 : Nat) < i
  ·have g := gen2 (decide (((i : Nat) : Int) = (((l.length : Nat) : Int) - 1)))
   simp only [jn_def, bind_some', hy, if_pos c] at g ⊢
   exact g
  ·have g := gen2 false
   simp only [jn_def, bind_some', hy, if_neg c] at g ⊢
   exact g
theorem written_L0 (n : Nat) (d : Desc) (hp : ∀ p ∈ d.Path, p.length ≤ 60) (k21 : List UInt8 → Option (List UInt8)) : ∀ (t : List (List UInt8)) (m i : Nat) (s : List UInt8), d.Path.drop i = t → t.length < m → s.length + 61 * t.length ≤ 1000000000 → ∃ s', r19_written_L0 n d k21 m s i = k21 s' ∧ s'.length ≤ s.length + 61 * t.length
 | [], m + 1, i, s, h, _, _ => ⟨s, by rw [r19_written_L0, if_neg (drop_nil' h)], by simp⟩
 | x :: t, m + 1, i, s, h, hm, hs => by
  obtain ⟨h1, h2, h3⟩ := drop_cons h
  have hx := hp x (List.mem_of_getElem? h2)
  rw [List.length_cons] at hs ⊢
  rw [r19_written_L0, if_pos h1, chk_pos (by first | omega | (simp only [List.length_append, List.length_cons, List.length_nil]; omega)), h2, bind_some', chk_pos (by first | omega | (simp only [List.length_append, List.length_cons, List.length_nil]; omega))]
  obtain ⟨s', e, hs'⟩ := written_L0 n d hp k21 t m (i + 1) ((s ++ [46]) ++ x) h3 (by simpa using hm) (by first | omega | (simp only [List.length_append, List.length_cons, List.length_nil]; omega))
  simp only [List.length_append, List.length_cons, List.length_nil] at hs'
  exact ⟨s', e, by omega⟩
theorem written_t : ∀ (k n : Nat) (d : Desc), DOk k d → CkOk k d → szD k d ≤ 100 → k + 200 ≤ n → ∃ s, r19_written n d = some s ∧ s.length ≤ 6000 * szD k d
 | 0, n, d, h, _, _, _ => h.elim
 | k + 1, 0, d, _, _, _, hn => by omega
 | k + 1, n + 1, d, hd, hc, hz, hn => by
  obtain ⟨d1, d2, d3, d4, d5⟩ := hd
  obtain ⟨c1, c2⟩ := hc
  have hsz : szD (k + 1) d = 1 + (d.Kids.map (szD k)).sum := rfl
  rw [hsz] at hz ⊢
  have hv : ∀ x ∈ d.Kids, ∃ s, r19_written n x = some s ∧ s.length ≤ 6000 * szD k x := fun x hx =>
   written_t k n x (d5 x hx) (c2 x hx) (by have := szD_sub k d.Kids x hx; omega) (by omega)
  have hj : ∀ bt ls : List UInt8, bt.length ≤ 10 ∧ ls.length ≤ 10 → ∃ r, r19_joined n (r19_written n) d.Kids bt ls = some r ∧ r.length ≤ 6000 * (d.Kids.map (szD k)).sum + 400 := fun bt ls hb => by
   obtain ⟨r, e, hr⟩ := joined_L0 n k d.Kids bt ls hb (r19_written n) hv d.Kids n 0 [] rfl (by omega) (by simp only [List.length_nil]; omega)
   simp only [List.length_nil] at hr
   exact ⟨r, e, by omega⟩
  rw [r19_written]
  by_cases o1 : d.Op = 1
  ·rw [if_pos o1]; exact ⟨_, rfl, by omega⟩
  rw [if_neg o1]
  by_cases o2 : d.Op = 2
  ·rw [if_pos o2, chk_pos (by first | omega | (simp only [List.length_append, List.length_cons, List.length_nil]; omega))]; exact ⟨_, rfl, (by first | omega | (simp only [List.length_append, List.length_cons, List.length_nil]; omega))⟩
  rw [if_neg o2]
  by_cases o3 : d.Op = 3
  ·rw [if_pos o3, chk_pos (by first | omega | (simp only [List.length_append, List.length_cons, List.length_nil]; omega))]; exact ⟨_, rfl, (by first | omega | (simp only [List.length_append, List.length_cons, List.length_nil]; omega))⟩
  rw [if_neg o3]
  by_cases o4 : d.Op = 4
  ·rw [if_pos o4]
   obtain ⟨r, e, hr⟩ := hj [32, 38, 32] [32, 38, 32] (by simp)
   rw [e, bind_some']; exact ⟨r, rfl, by omega⟩
  rw [if_neg o4]
  by_cases o5 : d.Op = 5
  ·rw [if_pos o5]
   obtain ⟨q1, q2⟩ := c1 o5
   obtain ⟨p, hp⟩ : ∃ p, d.Path[0]? = some p := ⟨_, List.getElem?_eq_getElem (List.length_pos_iff.2 q1)⟩
   obtain ⟨x, hx⟩ : ∃ x, d.Kids[0]? = some x := ⟨_, List.getElem?_eq_getElem (by omega)⟩
   have hpl := d3 p (List.mem_of_getElem? hp)
   obtain ⟨y, hy, hy2⟩ := hv x (List.mem_of_getElem? hx)
   have hsx := szD_sub k d.Kids x (List.mem_of_getElem? hx)
   have hdl : (d.Path.drop 1).length ≤ 80 := by rw [List.length_drop]; omega
   rw [hp, bind_some', chk_pos (by first | omega | (simp only [List.length_append, List.length_cons, List.length_nil]; omega)), jn_def]
   refine use_k (written_L0 n d d3 _ (d.Path.drop 1) n 1 ([91] ++ p) rfl (by omega) (by simp only [List.length_append, List.length_cons, List.length_nil]; omega)) (fun s' hs' => ?_)
   simp only [List.length_append, List.length_cons, List.length_nil] at hs'
   rw [hx, bind_some', hy, bind_some', chk_pos (by first | omega | (simp only [List.length_append, List.length_cons, List.length_nil]; omega)), chk_pos (by first | omega | (simp only [List.length_append, List.length_cons, List.length_nil]; omega)), chk_pos (by first | omega | (simp only [List.length_append, List.length_cons, List.length_nil]; omega))]
   exact ⟨_, rfl, (by first | omega | (simp only [List.length_append, List.length_cons, List.length_nil]; omega))⟩
  rw [if_neg o5]
  by_cases o6 : d.Op = 6
  ·rw [if_pos o6]
   obtain ⟨r, e, hr⟩ := hj [44, 32] [44, 32] (by simp)
   rw [e, bind_some', chk_pos (by first | omega | (simp only [List.length_append, List.length_cons, List.length_nil]; omega)), chk_pos (by first | omega | (simp only [List.length_append, List.length_cons, List.length_nil]; omega))]; exact ⟨_, rfl, (by first | omega | (simp only [List.length_append, List.length_cons, List.length_nil]; omega))⟩
  rw [if_neg o6]
  by_cases o7 : d.Op = 7
  ·rw [if_pos o7]
   obtain ⟨r, e, hr⟩ := hj [44, 32] [32, 124, 32] (by simp)
   rw [e, bind_some', chk_pos (by first | omega | (simp only [List.length_append, List.length_cons, List.length_nil]; omega)), chk_pos (by first | omega | (simp only [List.length_append, List.length_cons, List.length_nil]; omega))]; exact ⟨_, rfl, (by first | omega | (simp only [List.length_append, List.length_cons, List.length_nil]; omega))⟩
  rw [if_neg o7]
  split
  ·exact ⟨_, rfl, by simp only [List.length_cons, List.length_nil]; omega⟩
  ·obtain ⟨r, e, hr⟩ := hj [44, 32] [44, 32] (by simp)
   rw [e, bind_some', chk_pos (by first | omega | (simp only [List.length_append, List.length_cons, List.length_nil]; omega)), chk_pos (by first | omega | (simp only [List.length_append, List.length_cons, List.length_nil]; omega))]; exact ⟨_, rfl, (by first | omega | (simp only [List.length_append, List.length_cons, List.length_nil]; omega))⟩
theorem PrintD_t (n : Nat) (hn : 1000 ≤ n) (d : Desc) (hd : GD d) : ∃ s e, r19_Print n d = some (s, e) ∧ s.length ≤ 65536 := by
 obtain ⟨e, he, hc⟩ := Check_t n hn d hd
 unfold r19_Print
 rw [he, bind_some']
 by_cases h0 : e = 0
 ·rw [if_neg (by simp [h0])]
  obtain ⟨s, hs, _⟩ := written_t 80 n d hd.1 (hc h0) (by have := hd.2; omega) (by omega)
  rw [hs, bind_some']
  split
  ·exact ⟨_, _, rfl, by simp⟩
  ·exact ⟨_, _, rfl, by omega⟩
 ·rw [if_pos h0]; exact ⟨_, _, rfl, by simp⟩
theorem defined_L0 (n : Nat) (hn : 1000 ≤ n) (x : Def) (hx : ∀ d ∈ x.Defaults, GD d) : ∀ (t : List Desc) (m i : Nat) (s : List UInt8), x.Defaults.drop i = t → t.length < m → s.length + 70000 * t.length ≤ 1000000000000 → ∃ r, r21_defined_L0 n x m s i = some r ∧ r.length ≤ s.length + 70000 * t.length + 2
 | [], m + 1, i, s, h, _, hs => by
  rw [r21_defined_L0, if_neg (drop_nil' h), chk_pos (by first | omega | (simp only [List.length_append, List.length_cons, List.length_nil]; omega))]
  exact ⟨_, rfl, (by first | omega | (simp only [List.length_append, List.length_cons, List.length_nil]; omega))⟩
 | d :: t, m + 1, i, s, h, hm, hs => by
  obtain ⟨h1, h2, h3⟩ := drop_cons h
  obtain ⟨p, e, hp, hl⟩ := PrintD_t n hn d (hx d (List.mem_of_getElem? h2))
  rw [List.length_cons] at hs ⊢
  rw [r21_defined_L0, if_pos h1, h2, bind_some', hp, bind_some', chk_pos (by first | omega | (simp only [List.length_append, List.length_cons, List.length_nil]; omega)), chk_pos (by first | omega | (simp only [List.length_append, List.length_cons, List.length_nil]; omega))]
  obtain ⟨r, e, hr⟩ := defined_L0 n hn x hx t m (i + 1) ((s ++ [32, 47, 32]) ++ p) h3 (by simpa using hm) (by first | omega | (simp only [List.length_append, List.length_cons, List.length_nil]; omega))
  simp only [List.length_append, List.length_cons, List.length_nil] at hr
  exact ⟨r, e, by omega⟩
theorem defined_t (n : Nat) (hn : 1000 ≤ n) (x : Def) (hx : DfOk x) : ∃ r, r21_defined n x = some r ∧ r.length ≤ 700000 := by
 obtain ⟨p, e, hp, hl⟩ := PrintD_t n hn x.Strict hx.2.2.1
 have h8 := hx.2.1
 unfold r21_defined
 rw [hp, bind_some', chk_pos (by first | omega | (simp only [List.length_append, List.length_cons, List.length_nil]; omega))]
 obtain ⟨r, e, hr⟩ := defined_L0 n hn x hx.2.2.2 x.Defaults n 0 ([32, 61, 32] ++ p) rfl (by omega) (by first | omega | (simp only [List.length_append, List.length_cons, List.length_nil]; omega))
 simp only [List.length_append, List.length_cons, List.length_nil] at hr
 exact ⟨r, e, by omega⟩
theorem defs_L0 (n : Nat) (hn : 1000 ≤ n) (w : List UInt8) (hw : w.length ≤ 100) (l : List Def) (hl : ∀ x ∈ l, DfOk x) : ∀ (t : List Def) (m i : Nat) (s : List UInt8), l.drop i = t → t.length < m → s.length + 800000 * t.length ≤ 1000000000000 → ∃ r, r21_defs_L0 n w l m s i = some r ∧ r.length ≤ s.length + 800000 * t.length
 | [], m + 1, i, s, h, _, hs => ⟨s, by rw [r21_defs_L0, if_neg (drop_nil' h)], by omega⟩
 | x :: t, m + 1, i, s, h, hm, hs => by
  obtain ⟨h1, h2, h3⟩ := drop_cons h
  have hx := hl x (List.mem_of_getElem? h2)
  have hx1 := hx.1
  obtain ⟨p, hp, hpl⟩ := defined_t n hn x hx
  rw [List.length_cons] at hs ⊢
  rw [r21_defs_L0, if_pos h1, chk_pos (by omega), h2, bind_some', chk_pos (by first | omega | (simp only [List.length_append, List.length_cons, List.length_nil]; omega)), hp, bind_some', chk_pos (by first | omega | (simp only [List.length_append, List.length_cons, List.length_nil]; omega))]
  obtain ⟨r, e, hr⟩ := defs_L0 n hn w hw l hl t m (i + 1) (((s ++ w) ++ x.Name) ++ p) h3 (by simpa using hm) (by first | omega | (simp only [List.length_append, List.length_cons, List.length_nil]; omega))
  simp only [List.length_append] at hr
  exact ⟨r, e, by omega⟩
theorem defs_t (n : Nat) (hn : 1000 ≤ n) (w : List UInt8) (hw : w.length ≤ 100) (l : List Def) (hl : ∀ x ∈ l, DfOk x) (hk : l.length ≤ 256) : ∃ r, r21_defs n w l = some r ∧ r.length ≤ 300000000 := by
 obtain ⟨r, e, hr⟩ := defs_L0 n hn w hw l hl l n 0 [] rfl (by omega) (by simp only [List.length_nil]; omega)
 simp only [List.length_nil] at hr
 exact ⟨r, e, by omega⟩
theorem joinedS_L0 (n : Nat) (l : List (List UInt8)) (bt : List UInt8) (hb : bt.length ≤ 10) (hl : ∀ x ∈ l, x.length ≤ 100) : ∀ (t : List (List UInt8)) (m i : Nat) (s : List UInt8), l.drop i = t → t.length < m → s.length + 110 * t.length ≤ 1000000000000 → ∃ r, r21_joined_L0 n l bt m s i = some r ∧ r.length ≤ s.length + 110 * t.length
 | [], m + 1, i, s, h, _, hs => ⟨s, by rw [r21_joined_L0, if_neg (drop_nil' h)], by omega⟩
 | x :: t, m + 1, i, s, h, hm, hs => by
  obtain ⟨h1, h2, h3⟩ := drop_cons h
  have hx := hl x (List.mem_of_getElem? h2)
  rw [List.length_cons] at hs ⊢
  rw [r21_joined_L0, if_pos h1]
  simp only [jn_def, h2, bind_some']
  have gen : ∀ s' : List UInt8, s'.length ≤ s.length + 10 → ∃ r, chk (s'.length + x.length ≤ 9223372036854775807) (r21_joined_L0 n l bt m (s' ++ x) (i + 1)) = some r ∧ r.length ≤ s.length + 110 * (t.length + 1) := fun s' hs' => by
   rw [chk_pos (by omega)]
   obtain ⟨r, e, hr⟩ := joinedS_L0 n l bt hb hl t m (i + 1) (s' ++ x) h3 (by simpa using hm) (by rw [List.length_append]; omega)
   rw [List.length_append] at hr
   exact ⟨r, e, by omega⟩
  by_cases c : (0 : Nat) < i
  ·rw [if_pos c, chk_pos (by omega)]; exact gen (s ++ bt) (by rw [List.length_append]; omega)
  ·rw [if_neg c]; exact gen s (by omega)
theorem joinedS_t (n : Nat) (hn : 1000 ≤ n) (l : List (List UInt8)) (bt : List UInt8) (hb : bt.length ≤ 10) (hl : NmsOk 300 l) : ∃ r, r21_joined n l bt = some r ∧ r.length ≤ 33000 := by
 obtain ⟨r, e, hr⟩ := joinedS_L0 n l bt hb hl.2 l n 0 [] rfl (by have := hl.1; omega) (by have := hl.1; simp only [List.length_nil]; omega)
 have := hl.1
 simp only [List.length_nil] at hr
 exact ⟨r, e, by omega⟩
theorem typed_L0 (n : Nat) (x : TypeDecl) (hl : ∀ f ∈ x.Feats, f.Feat.length ≤ 100 ∧ f.Value.length ≤ 100) : ∀ (t : List FeatDecl) (m i : Nat) (s : List UInt8), x.Feats.drop i = t → t.length < m → s.length + 210 * t.length ≤ 1000000000000 → ∃ r, r21_typed_L0 n x m s i = some r ∧ r.length ≤ s.length + 210 * t.length + 2
 | [], m + 1, i, s, h, _, hs => by
  rw [r21_typed_L0, if_neg (drop_nil' h), chk_pos (by first | omega | (simp only [List.length_append, List.length_cons, List.length_nil]; omega))]
  exact ⟨_, rfl, (by first | omega | (simp only [List.length_append, List.length_cons, List.length_nil]; omega))⟩
 | f :: t, m + 1, i, s, h, hm, hs => by
  obtain ⟨h1, h2, h3⟩ := drop_cons h
  obtain ⟨g1, g2⟩ := hl f (List.mem_of_getElem? h2)
  rw [List.length_cons] at hs ⊢
  rw [r21_typed_L0, if_pos h1]
  simp only [jn_def, h2, bind_some']
  have gen : ∀ s' : List UInt8, s'.length ≤ s.length + 3 → ∃ r, chk ((s').length + (f.Feat).length ≤ 9223372036854775807) (chk ((s' ++ f.Feat).length + ([32] : List UInt8).length ≤ 9223372036854775807) (chk (((s' ++ f.Feat) ++ [32]).length + (f.Value).length ≤ 9223372036854775807) (r21_typed_L0 n x m (((s' ++ f.Feat) ++ [32]) ++ f.Value) (i + 1)))) = some r ∧ r.length ≤ s.length + 210 * (t.length + 1) + 2 := fun s' hs' => by
   rw [chk_pos (by first | omega | (simp only [List.length_append, List.length_cons, List.length_nil]; omega)), chk_pos (by first | omega | (simp only [List.length_append, List.length_cons, List.length_nil]; omega)), chk_pos (by first | omega | (simp only [List.length_append, List.length_cons, List.length_nil]; omega))]
   obtain ⟨r, e, hr⟩ := typed_L0 n x hl t m (i + 1) (((s' ++ f.Feat) ++ [32]) ++ f.Value) h3 (by simpa using hm) (by first | omega | (simp only [List.length_append, List.length_cons, List.length_nil]; omega))
   simp only [List.length_append, List.length_cons, List.length_nil] at hr
   exact ⟨r, e, by omega⟩
  by_cases c : i = 0
  ·rw [if_pos c, chk_pos (by first | omega | (simp only [List.length_append, List.length_cons, List.length_nil]; omega))]; exact gen (s ++ [32, 58, 32]) (by first | omega | (simp only [List.length_append, List.length_cons, List.length_nil]; omega))
  ·rw [if_neg c, chk_pos (by first | omega | (simp only [List.length_append, List.length_cons, List.length_nil]; omega))]; exact gen (s ++ [44, 32]) (by first | omega | (simp only [List.length_append, List.length_cons, List.length_nil]; omega))
theorem typed_t (n : Nat) (hn : 1000 ≤ n) (x : TypeDecl) (hx : TyOk x) : ∃ r, r21_typed n x = some r ∧ r.length ≤ 100000 := by
 obtain ⟨t1, t2, t3, t4⟩ := hx
 unfold r21_typed
 rw [jn_def]
 have gen : ∀ s : List UInt8, s.length ≤ 34000 → ∃ r, r21_typed_L0 n x n s 0 = some r ∧ r.length ≤ 100000 := fun s hs => by
  obtain ⟨r, e, hr⟩ := typed_L0 n x t4 x.Feats n 0 s rfl (by omega) (by omega)
  exact ⟨r, e, by omega⟩
 obtain ⟨r, e, hr⟩ := joinedS_t n hn x.Supers [44, 32] (by simp) ⟨by have := t2.1; omega, t2.2⟩
 rw [chk_pos (by first | omega | (simp only [List.length_append, List.length_cons, List.length_nil]; omega)), e, bind_some']
 by_cases c : (0 : Nat) < x.Supers.length
 ·rw [if_pos c, chk_pos (by first | omega | (simp only [List.length_append, List.length_cons, List.length_nil]; omega)), chk_pos (by first | omega | (simp only [List.length_append, List.length_cons, List.length_nil]; omega))]; exact gen _ (by first | omega | (simp only [List.length_append, List.length_cons, List.length_nil]; omega))
 ·rw [if_neg c]; exact gen _ (by first | omega | (simp only [List.length_append, List.length_cons, List.length_nil]; omega))
theorem affixed_L0 (n : Nat) (a : Affix) (hl : ∀ p ∈ a.Pairs, p.Old.length ≤ 100 ∧ p.New.length ≤ 100) : ∀ (t : List Change) (m i : Nat) (s : List UInt8), a.Pairs.drop i = t → t.length < m → s.length + 220 * t.length ≤ 1000000000000 → ∃ r, r21_affixed_L0 n a m s i = some r ∧ r.length ≤ s.length + 220 * t.length
 | [], m + 1, i, s, h, _, hs => ⟨s, by rw [r21_affixed_L0, if_neg (drop_nil' h)], by omega⟩
 | p :: t, m + 1, i, s, h, hm, hs => by
  obtain ⟨h1, h2, h3⟩ := drop_cons h
  obtain ⟨g1, g2⟩ := hl p (List.mem_of_getElem? h2)
  rw [List.length_cons] at hs ⊢
  rw [r21_affixed_L0, if_pos h1]
  simp only [jn_def, h2, bind_some']
  have gen : ∀ s' : List UInt8, s'.length ≤ s.length + 1 → ∃ r, chk ((s').length + ([32, 34] : List UInt8).length ≤ 9223372036854775807) (chk ((s' ++ [32, 34]).length + (p.Old).length ≤ 9223372036854775807) (chk (((s' ++ [32, 34]) ++ p.Old).length + ([34, 32, 34] : List UInt8).length ≤ 9223372036854775807) (chk ((((s' ++ [32, 34]) ++ p.Old) ++ [34, 32, 34]).length + (p.New).length ≤ 9223372036854775807) (chk (((((s' ++ [32, 34]) ++ p.Old) ++ [34, 32, 34]) ++ p.New).length + ([34] : List UInt8).length ≤ 9223372036854775807) (r21_affixed_L0 n a m (((((s' ++ [32, 34]) ++ p.Old) ++ [34, 32, 34]) ++ p.New) ++ [34]) (i + 1)))))) = some r ∧ r.length ≤ s.length + 220 * (t.length + 1) := fun s' hs' => by
   rw [chk_pos (by first | omega | (simp only [List.length_append, List.length_cons, List.length_nil]; omega)), chk_pos (by first | omega | (simp only [List.length_append, List.length_cons, List.length_nil]; omega)), chk_pos (by first | omega | (simp only [List.length_append, List.length_cons, List.length_nil]; omega)), chk_pos (by first | omega | (simp only [List.length_append, List.length_cons, List.length_nil]; omega)), chk_pos (by first | omega | (simp only [List.length_append, List.length_cons, List.length_nil]; omega))]
   obtain ⟨r, e, hr⟩ := affixed_L0 n a hl t m (i + 1) (((((s' ++ [32, 34]) ++ p.Old) ++ [34, 32, 34]) ++ p.New) ++ [34]) h3 (by simpa using hm) (by first | omega | (simp only [List.length_append, List.length_cons, List.length_nil]; omega))
   simp only [List.length_append, List.length_cons, List.length_nil] at hr
   exact ⟨r, e, by omega⟩
  by_cases c : (0 : Nat) < i
  ·rw [if_pos c, chk_pos (by first | omega | (simp only [List.length_append, List.length_cons, List.length_nil]; omega))]; exact gen (s ++ [44]) (by first | omega | (simp only [List.length_append, List.length_cons, List.length_nil]; omega))
  ·rw [if_neg c]; exact gen s (by omega)
theorem affixed_t (n : Nat) (hn : 1000 ≤ n) (a : Affix) (h20 : a.Pairs.length ≤ 20) (hl : ∀ p ∈ a.Pairs, p.Old.length ≤ 100 ∧ p.New.length ≤ 100) : ∃ r, r21_affixed n a = some r ∧ r.length ≤ 5000 := by
 unfold r21_affixed
 rw [jn_def]
 have gen : ∀ s : List UInt8, s.length ≤ 6 → ∃ r, r21_affixed_L0 n a n s 0 = some r ∧ r.length ≤ 5000 := fun s hs => by
  obtain ⟨r, e, hr⟩ := affixed_L0 n a hl a.Pairs n 0 s rfl (by omega) (by omega)
  exact ⟨r, e, by omega⟩
 by_cases c : a.Kind = 0
 ·rw [if_pos c]; exact ⟨_, rfl, by simp only [List.length_cons, List.length_nil]; omega⟩
 rw [if_neg c]
 by_cases c2 : a.Kind = 1
 ·rw [if_pos c2]; exact gen _ (by simp)
 ·rw [if_neg c2]; exact gen _ (by simp)
theorem module_L0 (n : Nat) (hn : 1000 ≤ n) (q : Module) (hq : MdOk q) (k : List UInt8 → Option (List UInt8)) : ∀ (t : List (List UInt8)) (m i : Nat) (s : List UInt8), q.Imports.drop i = t → t.length < m → s.length + 900000 * t.length ≤ 1000000000000 → ∃ s', r21_module_L0 n q k m s i = k s' ∧ s'.length ≤ s.length + 900000 * t.length
 | [], m + 1, i, s, h, _, hs => ⟨s, by rw [r21_module_L0, if_neg (drop_nil' h)], by omega⟩
 | x :: t, m + 1, i, s, h, hm, hs => by
  obtain ⟨h1, h2, h3⟩ := drop_cons h
  have hx := List.mem_of_getElem? h2
  rw [List.length_cons] at hs ⊢
  have g := hq.imports.2 x hx
  rw [r21_module_L0, if_pos h1, chk_pos (by first | omega | (simp only [List.length_append, List.length_cons, List.length_nil]; omega)), h2, bind_some', chk_pos (by first | omega | (simp only [List.length_append, List.length_cons, List.length_nil]; omega)), chk_pos (by first | omega | (simp only [List.length_append, List.length_cons, List.length_nil]; omega))]
  obtain ⟨s', e, hs'⟩ := module_L0 n hn q hq k t m (i + 1) (((s ++ [105, 109, 112, 111, 114, 116, 32]) ++ x) ++ [59, 10]) h3 (by simpa using hm) (by first | omega | (simp only [List.length_append, List.length_cons, List.length_nil]; omega))
  simp only [List.length_append, List.length_cons, List.length_nil] at hs'
  exact ⟨s', e, by omega⟩
theorem module_L1 (n : Nat) (hn : 1000 ≤ n) (q : Module) (hq : MdOk q) (k : List UInt8 → Option (List UInt8)) : ∀ (t : List TypeDecl) (m i : Nat) (s : List UInt8), q.Types.drop i = t → t.length < m → s.length + 900000 * t.length ≤ 1000000000000 → ∃ s', r21_module_L1 n q k m s i = k s' ∧ s'.length ≤ s.length + 900000 * t.length
 | [], m + 1, i, s, h, _, hs => ⟨s, by rw [r21_module_L1, if_neg (drop_nil' h)], by omega⟩
 | x :: t, m + 1, i, s, h, hm, hs => by
  obtain ⟨h1, h2, h3⟩ := drop_cons h
  have hx := List.mem_of_getElem? h2
  rw [List.length_cons] at hs ⊢
  obtain ⟨p, hp, hpl⟩ := typed_t n hn x (hq.types x hx)
  rw [r21_module_L1, if_pos h1, h2, bind_some', hp, bind_some', chk_pos (by first | omega | (simp only [List.length_append, List.length_cons, List.length_nil]; omega))]
  obtain ⟨s', e, hs'⟩ := module_L1 n hn q hq k t m (i + 1) (s ++ p) h3 (by simpa using hm) (by first | omega | (simp only [List.length_append, List.length_cons, List.length_nil]; omega))
  simp only [List.length_append, List.length_cons, List.length_nil] at hs'
  exact ⟨s', e, by omega⟩
theorem module_L2 (n : Nat) (hn : 1000 ≤ n) (q : Module) (hq : MdOk q) (k : List UInt8 → Option (List UInt8)) : ∀ (t : List EntryDecl) (m i : Nat) (s : List UInt8), q.Entries.drop i = t → t.length < m → s.length + 900000 * t.length ≤ 1000000000000 → ∃ s', r21_module_L2 n q k m s i = k s' ∧ s'.length ≤ s.length + 900000 * t.length
 | [], m + 1, i, s, h, _, hs => ⟨s, by rw [r21_module_L2, if_neg (drop_nil' h)], by omega⟩
 | x :: t, m + 1, i, s, h, hm, hs => by
  obtain ⟨h1, h2, h3⟩ := drop_cons h
  have hx := List.mem_of_getElem? h2
  rw [List.length_cons] at hs ⊢
  have g := hq.entries x hx
  have g1 := g.2.1
  obtain ⟨p, hp, hpl⟩ := joinedS_t n hn x.Words [32] (by simp) ⟨by have := g.1.1; omega, g.1.2⟩
  obtain ⟨d, hd, hdl⟩ := defined_t n hn x.Def g.2
  rw [r21_module_L2, if_pos h1, chk_pos (by first | omega | (simp only [List.length_append, List.length_cons, List.length_nil]; omega)), h2, bind_some', chk_pos (by first | omega | (simp only [List.length_append, List.length_cons, List.length_nil]; omega)), chk_pos (by first | omega | (simp only [List.length_append, List.length_cons, List.length_nil]; omega)), hp, bind_some', chk_pos (by first | omega | (simp only [List.length_append, List.length_cons, List.length_nil]; omega)), chk_pos (by first | omega | (simp only [List.length_append, List.length_cons, List.length_nil]; omega)), hd, bind_some', chk_pos (by first | omega | (simp only [List.length_append, List.length_cons, List.length_nil]; omega))]
  obtain ⟨s', e, hs'⟩ := module_L2 n hn q hq k t m (i + 1) ((((((s ++ [101, 110, 116, 114, 121, 32]) ++ x.Def.Name) ++ [32, 34]) ++ p) ++ [34]) ++ d) h3 (by simpa using hm) (by first | omega | (simp only [List.length_append, List.length_cons, List.length_nil]; omega))
  simp only [List.length_append, List.length_cons, List.length_nil] at hs'
  exact ⟨s', e, by omega⟩
theorem module_L3 (n : Nat) (hn : 1000 ≤ n) (q : Module) (hq : MdOk q) (k : List UInt8 → Option (List UInt8)) : ∀ (t : List LexDecl) (m i : Nat) (s : List UInt8), q.LexRules.drop i = t → t.length < m → s.length + 900000 * t.length ≤ 1000000000000 → ∃ s', r21_module_L3 n q k m s i = k s' ∧ s'.length ≤ s.length + 900000 * t.length
 | [], m + 1, i, s, h, _, hs => ⟨s, by rw [r21_module_L3, if_neg (drop_nil' h)], by omega⟩
 | x :: t, m + 1, i, s, h, hm, hs => by
  obtain ⟨h1, h2, h3⟩ := drop_cons h
  have hx := List.mem_of_getElem? h2
  rw [List.length_cons] at hs ⊢
  have g := hq.lex x hx
  have g1 := g.2.1.1
  obtain ⟨p, hp, hpl⟩ := affixed_t n hn x.Affix g.1 g.2.2
  obtain ⟨d, hd, hdl⟩ := defined_t n hn x.Def g.2.1
  rw [r21_module_L3, if_pos h1, chk_pos (by first | omega | (simp only [List.length_append, List.length_cons, List.length_nil]; omega)), h2, bind_some', chk_pos (by first | omega | (simp only [List.length_append, List.length_cons, List.length_nil]; omega)), chk_pos (by first | omega | (simp only [List.length_append, List.length_cons, List.length_nil]; omega)), hp, bind_some', chk_pos (by first | omega | (simp only [List.length_append, List.length_cons, List.length_nil]; omega)), hd, bind_some', chk_pos (by first | omega | (simp only [List.length_append, List.length_cons, List.length_nil]; omega))]
  obtain ⟨s', e, hs'⟩ := module_L3 n hn q hq k t m (i + 1) (((((s ++ [108, 101, 120, 114, 117, 108, 101, 32]) ++ x.Def.Name) ++ [32]) ++ p) ++ d) h3 (by simpa using hm) (by first | omega | (simp only [List.length_append, List.length_cons, List.length_nil]; omega))
  simp only [List.length_append, List.length_cons, List.length_nil] at hs'
  exact ⟨s', e, by omega⟩
theorem module_L4 (n : Nat) (hn : 1000 ≤ n) (q : Module) (hq : MdOk q) (k : List UInt8 → Option (List UInt8)) : ∀ (t : List (List (List UInt8))) (m i : Nat) (s : List UInt8), q.Checks.drop i = t → t.length < m → s.length + 900000 * t.length ≤ 1000000000000 → ∃ s', r21_module_L4 n q k m s i = k s' ∧ s'.length ≤ s.length + 900000 * t.length
 | [], m + 1, i, s, h, _, hs => ⟨s, by rw [r21_module_L4, if_neg (drop_nil' h)], by omega⟩
 | x :: t, m + 1, i, s, h, hm, hs => by
  obtain ⟨h1, h2, h3⟩ := drop_cons h
  have hx := List.mem_of_getElem? h2
  rw [List.length_cons] at hs ⊢
  have g := hq.checks x hx
  obtain ⟨p, hp, hpl⟩ := joinedS_t n hn x [46] (by simp) ⟨by have := g.1; omega, g.2⟩
  rw [r21_module_L4, if_pos h1, chk_pos (by first | omega | (simp only [List.length_append, List.length_cons, List.length_nil]; omega)), h2, bind_some', hp, bind_some', chk_pos (by first | omega | (simp only [List.length_append, List.length_cons, List.length_nil]; omega)), chk_pos (by first | omega | (simp only [List.length_append, List.length_cons, List.length_nil]; omega))]
  obtain ⟨s', e, hs'⟩ := module_L4 n hn q hq k t m (i + 1) (((s ++ [99, 104, 101, 99, 107, 32]) ++ p) ++ [59, 10]) h3 (by simpa using hm) (by first | omega | (simp only [List.length_append, List.length_cons, List.length_nil]; omega))
  simp only [List.length_append, List.length_cons, List.length_nil] at hs'
  exact ⟨s', e, by omega⟩
theorem module_L5 (n : Nat) (hn : 1000 ≤ n) (q : Module) (hq : MdOk q) : ∀ (t : List (List UInt8)) (m i : Nat) (s : List UInt8), q.Drops.drop i = t → t.length < m → s.length + 900000 * t.length ≤ 1000000000000 → ∃ s', r21_module_L5 n q m s i = some s' ∧ s'.length ≤ s.length + 900000 * t.length
 | [], m + 1, i, s, h, _, hs => ⟨s, by rw [r21_module_L5, if_neg (drop_nil' h)], by omega⟩
 | x :: t, m + 1, i, s, h, hm, hs => by
  obtain ⟨h1, h2, h3⟩ := drop_cons h
  have g := hq.drops.2 x (List.mem_of_getElem? h2)
  rw [List.length_cons] at hs ⊢
  rw [r21_module_L5, if_pos h1, chk_pos (by first | omega | (simp only [List.length_append, List.length_cons, List.length_nil]; omega)), h2, bind_some', chk_pos (by first | omega | (simp only [List.length_append, List.length_cons, List.length_nil]; omega)), chk_pos (by first | omega | (simp only [List.length_append, List.length_cons, List.length_nil]; omega))]
  obtain ⟨s', e, hs'⟩ := module_L5 n hn q hq t m (i + 1) (((s ++ [100, 114, 111, 112, 32]) ++ x) ++ [59, 10]) h3 (by simpa using hm) (by first | omega | (simp only [List.length_append, List.length_cons, List.length_nil]; omega))
  simp only [List.length_append, List.length_cons, List.length_nil] at hs'
  exact ⟨s', e, by omega⟩
theorem module_t (n : Nat) (hn : 1000 ≤ n) (q : Module) (hq : MdOk q) (hl : LenOk 256 q) : ∃ r, r21_module n q = some r ∧ r.length ≤ 10000000000 := by
 have ⟨l1, l2, l3, l4, l5, l6, l7, l8, l9⟩ := hl
 have h0 := hq.name
 obtain ⟨a, ea, ha⟩ := defs_t n hn [116, 101, 109, 112, 108, 97, 116, 101, 32] (by simp) q.Templates hq.templates l3
 obtain ⟨b, eb, hb⟩ := defs_t n hn [114, 117, 108, 101, 32] (by simp) q.Rules hq.rules l6
 obtain ⟨c, ec, hc⟩ := defs_t n hn [114, 111, 111, 116, 32] (by simp) q.Roots hq.roots l7
 unfold r21_module
 rw [ea, eb, ec]
 simp only [jn_def, bind_some']
 rw [chk_pos (by first | omega | (simp only [List.length_append, List.length_cons, List.length_nil]; omega)), chk_pos (by first | omega | (simp only [List.length_append, List.length_cons, List.length_nil]; omega))]
 refine use_k (module_L0 n hn q hq _ q.Imports n 0 (([109, 111, 100, 117, 108, 101, 32] ++ q.Name) ++ [59, 10]) rfl (by omega) (by first | omega | (simp only [List.length_append, List.length_cons, List.length_nil]; omega))) (fun s1 h1 => ?_)
 simp only [List.length_append, List.length_cons, List.length_nil] at h1
 refine use_k (module_L1 n hn q hq _ q.Types n 0 s1 rfl (by omega) (by omega)) (fun s2 h2 => ?_)
 rw [chk_pos (by omega)]
 refine use_k (module_L2 n hn q hq _ q.Entries n 0 (s2 ++ a) rfl (by omega) (by rw [List.length_append]; omega)) (fun s3 h3 => ?_)
 rw [List.length_append] at h3
 refine use_k (module_L3 n hn q hq _ q.LexRules n 0 s3 rfl (by omega) (by omega)) (fun s4 h4 => ?_)
 rw [chk_pos (by omega), chk_pos (by rw [List.length_append]; omega)]
 refine use_k (module_L4 n hn q hq _ q.Checks n 0 ((s4 ++ b) ++ c) rfl (by omega) (by rw [List.length_append, List.length_append]; omega)) (fun s5 h5 => ?_)
 rw [List.length_append, List.length_append] at h5
 obtain ⟨s6, e6, h6⟩ := module_L5 n hn q hq q.Drops n 0 s5 rfl (by omega) (by omega)
 exact ⟨s6, e6, by omega⟩
theorem Print_L1 (n : Nat) (hn : 1000 ≤ n) (l : List Module) (hl : ∀ q ∈ l, MdOk q ∧ LenOk 256 q) (k : List UInt8 → Option (List UInt8 × Int)) : ∀ (t : List Module) (m i : Nat) (s : List UInt8), l.drop i = t → t.length < m → s.length + 10000000000 * t.length ≤ 1000000000000000 → ∃ s', r21_Print_L1 n l k m s i = k s'
 | [], m + 1, i, s, h, _, hs => ⟨s, by rw [r21_Print_L1, if_neg (drop_nil' h)]⟩
 | x :: t, m + 1, i, s, h, hm, hs => by
  obtain ⟨h1, h2, h3⟩ := drop_cons h
  have g := hl x (List.mem_of_getElem? h2)
  obtain ⟨r, e, hr⟩ := module_t n hn x g.1 g.2
  rw [List.length_cons] at hs
  rw [r21_Print_L1, if_pos h1, h2, bind_some', e, bind_some', chk_pos (by omega)]
  exact Print_L1 n hn l hl k t m (i + 1) (s ++ r) h3 (by simpa using hm) (by rw [List.length_append]; omega)
theorem Print_L0 (n : Nat) (hn : 1000 ≤ n) (l : List Module) (hl : ∀ q ∈ l, MdOk q) (k : Option (List UInt8 × Int)) : ∀ (t : List Module) (m i : Nat), l.drop i = t → t.length < m → (∃ s e, r21_Print_L0 n l k m i = some (s, e) ∧ e ≠ 0) ∨ (r21_Print_L0 n l k m i = k ∧ ∀ q ∈ t, LenOk 256 q)
 | [], m + 1, i, h, _ => .inr ⟨by rw [r21_Print_L0, if_neg (drop_nil' h)], by simp⟩
 | x :: t, m + 1, i, h, hm => by
  obtain ⟨h1, h2, h3⟩ := drop_cons h
  obtain ⟨e, he, hc⟩ := moduleError_t n hn x (hl x (List.mem_of_getElem? h2))
  rw [r21_Print_L0, if_pos h1, h2, bind_some', he, bind_some']
  by_cases h0 : e = 0
  ·rw [if_neg (by simp [h0])]
   rcases Print_L0 n hn l hl k t m (i + 1) h3 (by simpa using hm) with h | ⟨h, hq⟩
   ·exact .inl h
   ·refine .inr ⟨h, fun q hq' => ?_⟩
    rcases List.mem_cons.1 hq' with hyx | hy
    ·subst hyx; exact hc h0
    ·exact hq q hy
  ·rw [if_pos h0]; exact .inl ⟨_, _, rfl, h0⟩
theorem Print_t (n : Nat) (hn : 1000 ≤ n) (l : List Module) (hl : ∀ q ∈ l, MdOk q) : ∃ s e, r21_Print n l = some (s, e) ∧ (e = 0 → ∀ q ∈ l, LenOk 256 q) := by
 unfold r21_Print
 by_cases c : (256 : Nat) < l.length
 ·rw [if_pos c]; exact ⟨_, _, rfl, by simp⟩
 rw [if_neg c, jn_def, jn_def]
 rcases Print_L0 n hn l hl (r21_Print_L1 n l (fun s_19 => if (65536 : Nat) < s_19.length then some ([], 7) else some (s_19, 0)) n [] 0) l n 0 rfl (by omega) with ⟨s, e, h, h0⟩ | ⟨h, hq⟩
 ·exact ⟨s, e, h, fun h => absurd h h0⟩
 ·rw [h]
  obtain ⟨s', e'⟩ := Print_L1 n hn l (fun q hq' => ⟨hl q hq', hq q hq'⟩) (fun s_19 => if (65536 : Nat) < s_19.length then some ([], 7) else some (s_19, 0)) l n 0 [] rfl (by omega) (by simp only [List.length_nil]; omega)
  rw [e']
  by_cases c2 : (65536 : Nat) < s'.length
  ·exact ⟨[], 7, by simp [c2], by simp⟩
  ·exact ⟨s', 0, by simp [c2], fun _ => hq⟩
end Go.Proofs.YtbhjplflnkidgaaGreat
end

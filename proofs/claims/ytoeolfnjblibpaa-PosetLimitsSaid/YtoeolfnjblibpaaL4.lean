/- Chapter 03: plain laws of the library functions and of the program's order -/
import Derived.Test.YtoeolfnjblibpaaL3
namespace Go.Proofs.Ytoeolfnjblibpaa
open Go.Gl Go.Sort
set_option linter.unusedVariables false
set_option linter.unusedSimpArgs false
/-! the program's order -/
def dn (d : List TypeDecl) (s : List UInt8) : List (List UInt8) := nms (d.filter fun y => decide (s ∈ y.Supers))
theorem dn_dnS {d : List TypeDecl} (hd : (nms d).Nodup) (s : List UInt8) : dn d s = dnS (nms d) (supOf d) s := by
  unfold dn dnS nms
  rw [List.filter_map]
  congr 1
  refine List.filter_congr fun x hx => ?_
  simp only [Function.comp_apply, supOf_of hd hx]
theorem mem_dn {d : List TypeDecl} {s y : List UInt8} : y ∈ dn d s ↔ ∃ x ∈ d, x.Name = y ∧ s ∈ x.Supers := by
  unfold dn
  rw [mem_nms]
  constructor
  · rintro ⟨x, hx, e⟩
    obtain ⟨h1, h2⟩ := List.mem_filter.1 hx
    exact ⟨x, h1, e, by simpa using h2⟩
  · rintro ⟨x, hx, e, h⟩
    exact ⟨x, List.mem_filter.2 ⟨hx, by simpa using h⟩, e⟩
theorem dn_nodup {d : List TypeDecl} (hd : (nms d).Nodup) (s : List UInt8) : (dn d s).Nodup := List.Sublist.nodup (List.Sublist.map _ List.filter_sublist) hd
theorem dn_len (d : List TypeDecl) (s : List UInt8) : (dn d s).length ≤ d.length := by unfold dn nms; rw [List.length_map]; exact List.length_filter_le _ _
theorem dn_snoc (d : List TypeDecl) (x : TypeDecl) (s : List UInt8) : dn (d ++ [x]) s = dn d s ++ if s ∈ x.Supers then [x.Name] else [] := by
  unfold dn
  rw [List.filter_append, nms_append]
  congr 1
  by_cases h : s ∈ x.Supers <;> simp [h]
theorem below_add {x : TypeDecl} : ∀ (t pre : List (List UInt8)) (M : List (List UInt8 × List (List UInt8))) (f : List UInt8 → List (List UInt8)), (pre ++ t).Nodup → (∀ s, (mget M s).getD [] = f s ++ if s ∈ pre then [x.Name] else []) → (∀ s ∈ t, (mget M s).getD [] = f s)
  | t, pre, M, f, hn, h, s, hs => by
    rw [h s, if_neg, List.append_nil]
    rw [List.nodup_append] at hn
    exact fun hp => hn.2.2 s hp s hs rfl
theorem ordered_L1 (n : Nat) (op : List (List UInt8 × Int)) (k : List (List UInt8 × Int) → List (List UInt8 × List (List UInt8)) → List (List UInt8) → Option (List (List UInt8))) (x : TypeDecl) (rd : List (List UInt8)) (f : List UInt8 → List (List UInt8)) (hf : ∀ s, (f s).length ≤ 1000000) (hx : x.Supers.Nodup) :
    ∀ (t : List (List UInt8)) (m i : Nat) (M : List (List UInt8 × List (List UInt8))), x.Supers.drop i = t → t.length < m → (∀ s, (mget M s).getD [] = f s ++ if s ∈ x.Supers.take i then [x.Name] else []) → ∃ M', poset_ordered_L1 n op k x rd m M i = k (mset op x.Name ((x.Supers.length : Nat) : Int)) M' rd ∧ ∀ s, (mget M' s).getD [] = f s ++ if s ∈ x.Supers then [x.Name] else []
  | [], m + 1, i, M, h, _, hM => by
    have hi := drop_nil' h
    rw [poset_ordered_L1, if_neg hi]
    rw [List.take_of_length_le (by omega)] at hM
    exact ⟨M, rfl, hM⟩
  | s :: t, m + 1, i, M, h, hm, hM => by
    obtain ⟨h1, h2, h3⟩ := drop_cons h
    have hsp : s ∉ x.Supers.take i := by
      have e : x.Supers = x.Supers.take i ++ s :: t := by rw [← h, List.take_append_drop]
      rw [e, List.nodup_append] at hx
      exact fun hp => hx.2.2 s hp s (by simp) rfl
    have hs : (mget M s).getD [] = f s := by rw [hM s, if_neg hsp, List.append_nil]
    rw [poset_ordered_L1, if_pos h1, h2]
    simp only [bind_some', hs, List.length_singleton]
    rw [chk_pos (by have := hf s; omega)]
    refine ordered_L1 n op k x rd f hf hx t m (i + 1) _ h3 (by simpa using hm) (fun u => ?_)
    rw [mget_mset, take_snoc' h2]
    by_cases q : u = s
    · subst q; simp
    · rw [if_neg q, hM u]; simp [q]
def rdy (d : List TypeDecl) : List (List UInt8) := nms (d.filter fun x => decide (x.Supers.length = 0))
theorem rdy_snoc (d : List TypeDecl) (x : TypeDecl) : rdy (d ++ [x]) = rdy d ++ if x.Supers.length = 0 then [x.Name] else [] := by
  unfold rdy
  rw [List.filter_append, nms_append]
  congr 1
  rw [List.filter_cons, List.filter_nil]
  by_cases h : x.Supers.length = 0
  · simp only [h, decide_true, if_true]; rfl
  · simp only [h, decide_false, Bool.false_eq_true, if_false]; rfl
theorem rdy_len (d : List TypeDecl) : (rdy d).length ≤ d.length := by unfold rdy nms; rw [List.length_map]; exact List.length_filter_le _ _
theorem ordered_L0 (n : Nat) (d : List TypeDecl) (hd : Wf d) (hn : 3000 ≤ n) (k : List (List UInt8 × Int) → List (List UInt8 × List (List UInt8)) → List (List UInt8) → Option (List (List UInt8))) :
    ∀ (t : List TypeDecl) (m i : Nat) (op : List (List UInt8 × Int)) (M : List (List UInt8 × List (List UInt8))), d.drop i = t → t.length < m → (∀ s ∈ nms (d.take i), mget op s = some (((supOf d s).length : Nat) : Int)) → (∀ s, (mget M s).getD [] = dn (d.take i) s) →
      ∃ op' M', poset_ordered_L0 n d k m op M (rdy (d.take i)) i = k op' M' (rdy d) ∧ (∀ s ∈ nms d, mget op' s = some (((supOf d s).length : Nat) : Int)) ∧ ∀ s, (mget M' s).getD [] = dn d s
  | [], m + 1, i, op, M, h, _, h1, h2 => by
    have hi := drop_nil' h
    rw [poset_ordered_L0, if_neg hi]
    rw [List.take_of_length_le (by omega)] at h1 h2 ⊢
    exact ⟨op, M, rfl, h1, h2⟩
  | x :: t, m + 1, i, op, M, h, hm, h1, h2 => by
    obtain ⟨g1, g2, g3⟩ := drop_cons h
    have hxd := List.mem_of_getElem? g2
    have h0 := hd.lt.1
    have hs := (hd.lt.2 x hxd).1
    have e := take_snoc g2
    rw [poset_ordered_L0, if_pos g1]
    simp only [jn_def, g2, bind_some']
    have hlen := rdy_len (d.take i)
    rw [List.length_take] at hlen
    obtain ⟨M', m1, m2⟩ := ordered_L1 n op (fun t_26 t_28 t_30 => poset_ordered_L0 n d k m t_26 t_28 t_30 (i + 1)) x (rdy (d.take (i + 1))) (dn (d.take i)) (fun s => by have := dn_len (d.take i) s; rw [List.length_take] at this; omega) (hd.sn x hxd) x.Supers n 0 M rfl (by omega) (fun s => by rw [h2 s]; simp)
    have go := ordered_L0 n d hd hn k t m (i + 1) (mset op x.Name ((x.Supers.length : Nat) : Int)) M' g3 (by simpa using hm) (fun s hs => by
      rw [mget_mset]
      by_cases q : s = x.Name
      · rw [if_pos q, q, supOf_of hd.nd hxd]
      · rw [if_neg q]
        refine h1 s ?_
        rw [e, nms_append] at hs
        rcases List.mem_append.1 hs with hs | hs
        · exact hs
        · simp [nms] at hs; exact absurd hs q) (fun s => by rw [m2 s, e, dn_snoc])
    obtain ⟨op', M'', q1, q2⟩ := go
    refine ⟨op', M'', ?_, q2⟩
    rw [← q1, ← m1, e, rdy_snoc]
    by_cases hz : x.Supers.length = 0
    · simp only [hz, if_true, List.length_singleton]
      rw [chk_pos (by omega)]
    · simp only [hz, if_false, List.append_nil]
theorem smin_le (p q : List UInt8) : (smin p q = p ∨ smin p q = q) ∧ smin p q ≤ p ∧ smin p q ≤ q := by
  unfold smin
  rw [bytesLess_eq]
  by_cases h : p < q
  · rw [if_pos (by simp [h])]
    exact ⟨.inl rfl, List.le_refl _, Std.le_of_lt h⟩
  · by_cases e : p = q
    · subst e; simp
    · have : ¬ (decide (p < q) || p == q) = true := by simp [h, e]
      rw [if_neg this]
      exact ⟨.inr rfl, h, List.le_refl _⟩
theorem Min_L0 (n : Nat) (l : List (List UInt8)) : ∀ (t : List (List UInt8)) (m i : Nat) (b : List UInt8), l.drop i = t → t.length < m → ∃ r, slices_Min_string_L0 n l m b i = some r ∧ (r = b ∨ r ∈ t) ∧ r ≤ b ∧ ∀ y ∈ t, r ≤ y
  | [], m + 1, i, b, h, _ => by rw [slices_Min_string_L0, if_neg (drop_nil' h)]; exact ⟨b, rfl, .inl rfl, List.le_refl _, by simp⟩
  | x :: t, m + 1, i, b, h, hm => by
    obtain ⟨h1, h2, h3⟩ := drop_cons h
    rw [slices_Min_string_L0, if_pos h1, h2]
    simp only [bind_some']
    obtain ⟨r, r1, r2, r3, r4⟩ := Min_L0 n l t m (i + 1) (smin b x) h3 (by simpa using hm)
    obtain ⟨s1, s2, s3⟩ := smin_le b x
    refine ⟨r, r1, ?_, List.le_trans r3 s2, fun y hy => ?_⟩
    · rcases r2 with r2 | r2
      · rcases s1 with s1 | s1
        · exact .inl (r2.trans s1)
        · exact .inr (by rw [r2, s1]; simp)
      · exact .inr (by simp [r2])
    · rcases List.mem_cons.1 hy with rfl | hy
      · exact List.le_trans r3 s3
      · exact r4 y hy
theorem Min_eq (n : Nat) (l : List (List UInt8)) (hl : 0 < l.length) (hn : l.length < n) : ∃ r, slices_Min_string n l = some r ∧ r ∈ l ∧ ∀ y ∈ l, r ≤ y := by
  unfold slices_Min_string
  rw [if_neg (by omega)]
  cases l with
  | nil => simp at hl
  | cons x t =>
    simp only [List.getElem?_cons_zero, bind_some']
    obtain ⟨r, r1, r2, r3, r4⟩ := Min_L0 n (x :: t) t n 1 x rfl (by simp at hn; omega)
    exact ⟨r, r1, by rcases r2 with r2 | r2 <;> simp [r2], fun y hy => by
      rcases List.mem_cons.1 hy with rfl | hy
      · exact r3
      · exact r4 y hy⟩
/-! slices.DeleteFunc -/
theorem IndexFunc_L0 (n : Nat) (l : List (List UInt8)) (f : List UInt8 → Option Bool) (p : List UInt8 → Bool) (hf : ∀ x ∈ l, f x = some (p x)) : ∀ (t : List (List UInt8)) (m i : Nat), l.drop i = t → t.length < m →
    ((∀ x ∈ t, p x = false) ∧ slices_IndexFunc_string_L0 n l f m i = some (-1)) ∨ ∃ j : Nat, i ≤ j ∧ j < l.length ∧ slices_IndexFunc_string_L0 n l f m i = some (j : Int) ∧ (∃ x ∈ t, p x = true) ∧ (∀ q x, i ≤ q → q < j → l[q]? = some x → p x = false) ∧ ∃ x, l[j]? = some x ∧ p x = true
  | [], m + 1, i, h, _ => by rw [slices_IndexFunc_string_L0, if_neg (drop_nil' h)]; exact .inl ⟨by simp, rfl⟩
  | x :: t, m + 1, i, h, hm => by
    obtain ⟨h1, h2, h3⟩ := drop_cons h
    rw [slices_IndexFunc_string_L0, if_pos h1, h2]
    simp only [bind_some', hf x (List.mem_of_getElem? h2)]
    cases hp : p x with
    | true => exact .inr ⟨i, Nat.le_refl _, h1, by simp, ⟨x, by simp, hp⟩, fun q y a b => by omega, x, h2, hp⟩
    | false =>
      simp only [Bool.false_eq_true, if_false]
      rcases IndexFunc_L0 n l f p hf t m (i + 1) h3 (by simpa using hm) with ⟨a, b⟩ | ⟨j, a1, a2, a3, ⟨z, a4, a4'⟩, a5, a6⟩
      · exact .inl ⟨fun y hy => by
          rcases List.mem_cons.1 hy with rfl | hy
          · exact hp
          · exact a y hy, b⟩
      · refine .inr ⟨j, by omega, a2, a3, ⟨z, by simp [a4], a4'⟩, fun q y b1 b2 b3 => ?_, a6⟩
        rcases Nat.eq_or_lt_of_le b1 with rfl | b1
        · rw [h2] at b3; cases b3; exact hp
        · exact a5 q y b1 b2 b3
theorem ContainsFunc_eq (n : Nat) (l : List (List UInt8)) (f : List UInt8 → Option Bool) (p : List UInt8 → Bool) (hf : ∀ x ∈ l, f x = some (p x)) (hn : l.length < n) : slices_ContainsFunc_string n l f = some (l.any p) := by
  unfold slices_ContainsFunc_string slices_IndexFunc_string
  rcases IndexFunc_L0 n l f p hf l n 0 rfl hn with ⟨a, b⟩ | ⟨j, a1, a2, a3, ⟨z, a4, a4'⟩, _⟩
  · rw [b]
    have : l.any p = false := by rw [List.any_eq_false]; intro x hx; simp [a x hx]
    simp [this]
  · rw [a3]
    have : l.any p = true := List.any_eq_true.2 ⟨z, a4, a4'⟩
    simp [this]
theorem ix_nat' {α : Type} (l : List α) (i : Nat) (z : Int) (h : z = (i : Int)) : ix l z = l[i]? := by rw [h, ix_nat]
theorem Delete_L0 (n : Nat) (f : List UInt8 → Option Bool) (p : List UInt8 → Bool) (k : List (List UInt8) → Int → Option (List (List UInt8))) : ∀ (t : List (List UInt8)) (m j i : Nat) (s : List (List UInt8)) (zi zj : Int), zi = (i : Int) → zj = (j : Int) → s.drop j = t → t.length < m → i < j → s.length ≤ 1000000 → (∀ x ∈ t, f x = some (p x)) → ∃ s' , slices_DeleteFunc_string_L0 n f k m s zi zj = k s' ((i + (t.filter fun x => !p x).length : Nat) : Int) ∧ s'.length = s.length ∧ s'.take (i + (t.filter fun x => !p x).length) = s.take i ++ t.filter fun x => !p x
  | [], m + 1, j, i, s, zi, zj, ei, ej, h, _, _, _, _ => by
    have hj := drop_nil' h
    rw [slices_DeleteFunc_string_L0, if_neg (by rw [ej]; omega), ei]
    exact ⟨s, by simp, rfl, by simp⟩
  | x :: t, m + 1, j, i, s, zi, zj, ei, ej, h, hm, hij, hs, hf => by
    obtain ⟨h1, h2, h3⟩ := drop_cons h
    have hxf := hf x (by simp)
    rw [slices_DeleteFunc_string_L0, if_pos (by rw [ej]; omega), ix_nat' s j zj ej, h2]
    simp only [bind_some', hxf]
    cases hp : p x with
    | true =>
      simp only [Bool.not_true, Bool.false_eq_true, if_false]
      rw [chk_pos (by omega)]
      obtain ⟨s', a1, a2, a3⟩ := Delete_L0 n f p k t m (j + 1) i s zi (zj + 1) ei (by omega) h3 (by simpa using hm) (by omega) hs (fun y hy => hf y (by simp [hy]))
      refine ⟨s', ?_, a2, ?_⟩
      · rw [a1]; simp [hp]
      · simpa [hp] using a3
    | false =>
      have hi' : i < s.length := by omega
      simp only [Bool.not_false, if_true]
      rw [ix_nat' s i zi ei, List.getElem?_eq_getElem hi', bind_some', chk_pos (by omega), chk_pos (by omega)]
      have ez : zi.toNat = i := by omega
      rw [ez]
      obtain ⟨s', a1, a2, a3⟩ := Delete_L0 n f p k t m (j + 1) (i + 1) (s.set i x) (zi + 1) (zj + 1) (by omega) (by omega) (by rw [List.drop_set_of_lt (by omega)]; exact h3) (by simpa using hm) (by omega) (by simpa using hs) (fun y hy => hf y (by simp [hy]))
      refine ⟨s', ?_, by simpa using a2, ?_⟩
      · rw [a1]
        have : (((x :: t).filter fun x => !p x).length) = (t.filter fun x => !p x).length + 1 := by rw [List.filter_cons_of_pos (by simp [hp])]; rfl
        rw [this]
        congr 2; omega
      · have e : ((x :: t).filter fun x => !p x) = x :: t.filter fun x => !p x := List.filter_cons_of_pos (by simp [hp])
        rw [e, List.length_cons, show i + ((t.filter fun x => !p x).length + 1) = i + 1 + (t.filter fun x => !p x).length by omega, a3]
        have : (s.set i x).take (i + 1) = s.take i ++ [x] := by
          rw [List.take_add_one, List.take_set_of_le (Nat.le_refl _), List.getElem?_set_self hi']; rfl
        rw [this]; simp
theorem Delete_end (s' : List (List UInt8)) (q : Nat) (hle : q ≤ s'.length) : chk (0 ≤ ((q : Nat) : Int)) (chk (((q : Nat) : Int).toNat ≤ s'.length) (chk (((q : Nat) : Int).toNat ≤ (clr s' ((q : Nat) : Int).toNat).length) (some ((clr s' ((q : Nat) : Int).toNat).take ((q : Nat) : Int).toNat)))) = some (s'.take q) := by
  rw [Int.toNat_natCast, chk_pos (Int.natCast_nonneg q), chk_pos hle, chk_pos (by rw [clr_len hle]; exact hle)]
  unfold clr
  rw [List.take_append_of_le_length (by rw [List.length_take]; omega), List.take_take, Nat.min_self]
theorem Delete_split (l : List (List UInt8)) (p : List UInt8 → Bool) (j : Nat) (x : List UInt8) (a2 : j < l.length) (a6 : l[j]? = some x) (a7 : p x = true) (a5 : ∀ q y, q < j → l[q]? = some y → p y = false) : l.take j ++ (l.drop (j + 1)).filter (fun x => !p x) = l.filter fun x => !p x := by
  have e2 : l = l.take j ++ x :: l.drop (j + 1) := by
    have := List.take_append_drop j l
    rw [List.drop_eq_getElem_cons a2] at this
    have q : l[j] = x := by rw [List.getElem?_eq_getElem a2] at a6; exact Option.some.inj a6
    rw [q] at this
    exact this.symm
  have e3 : (l.take j).filter (fun x => !p x) = l.take j := List.filter_eq_self.2 (fun y hy => by
    obtain ⟨q, hq⟩ := List.getElem?_of_mem hy
    have hql := (List.getElem?_eq_some_iff.1 hq).1
    rw [List.length_take] at hql
    rw [List.getElem?_take_of_lt (by omega)] at hq
    simp [a5 q y (by omega) hq])
  conv => rhs; rw [e2, List.filter_append, e3, List.filter_cons_of_neg (by simp [a7])]
theorem Delete_eq (n : Nat) (l : List (List UInt8)) (f : List UInt8 → Option Bool) (p : List UInt8 → Bool) (hf : ∀ x ∈ l, f x = some (p x)) (hn : l.length + 1 < n) (hl : l.length ≤ 1000000) : slices_DeleteFunc_string n l f = some (l.filter fun x => !p x) := by
  unfold slices_DeleteFunc_string slices_IndexFunc_string
  rcases IndexFunc_L0 n l f p hf l n 0 rfl (by omega) with ⟨a, b⟩ | ⟨j, a1, a2, a3, _, a5, x, a6, a7⟩
  · rw [b]
    rw [bind_some', if_pos rfl]
    rw [List.filter_eq_self.2 (fun x hx => by simp [a x hx])]
  · rw [a3]
    rw [bind_some', if_neg (by omega), chk_pos (by omega), jn_def]
    obtain ⟨s', b1, b2, b3⟩ := Delete_L0 n f p (fun s_9 i_13 => chk (0 ≤ i_13) (chk ((i_13).toNat ≤ (s_9).length) (chk ((i_13).toNat ≤ (clr s_9 ((i_13).toNat)).length) (some ((clr s_9 ((i_13).toNat)).take ((i_13).toNat)))))) (l.drop (j + 1)) n (j + 1) j l (j : Int) ((j : Int) + 1) rfl (by omega) rfl (by rw [List.length_drop]; omega) (by omega) hl (fun y hy => hf y (List.mem_of_mem_drop hy))
    rw [b1]
    have hlen : ((l.drop (j + 1)).filter fun x => !p x).length ≤ l.length - (j + 1) := Nat.le_trans (List.length_filter_le _ _) (by rw [List.length_drop]; omega)
    rw [Delete_end s' _ (by omega), b3, Delete_split l p j x a2 a6 a7 (fun q y => a5 q y (Nat.zero_le _))]
end Go.Proofs.Ytoeolfnjblibpaa

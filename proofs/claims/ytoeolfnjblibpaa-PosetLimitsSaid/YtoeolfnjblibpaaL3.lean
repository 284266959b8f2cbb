/- Chapter 03: plain laws of supertypes and of the reference's order -/
import Derived.Test.YtoeolfnjblibpaaL2
import Derived.Test.YtoeolfnjblibpaaA0
namespace Go.Proofs.Ytoeolfnjblibpaa
open Go.Gl Go.Sort
set_option linter.unusedVariables false
set_option linter.unusedSimpArgs false
/-! supertypes -/
def supOf (d : List TypeDecl) (s : List UInt8) : List (List UInt8) := match d with
  | [] => []
  | x :: t => if x.Name = s then x.Supers else supOf t s
theorem supOf_of {d : List TypeDecl} {x : TypeDecl} : (nms d).Nodup → x ∈ d → supOf d x.Name = x.Supers := by
  induction d with
  | nil => intro _ h; cases h
  | cons y t ih =>
    intro hn hx
    obtain ⟨h1, h2⟩ := List.nodup_cons.1 hn
    unfold supOf
    rcases List.mem_cons.1 hx with rfl | hx
    · rw [if_pos rfl]
    · rw [if_neg (fun e => h1 (mem_nms.2 ⟨x, hx, e.symm⟩))]
      exact ih h2 hx
theorem supOf_out {d : List TypeDecl} {s : List UInt8} : s ∉ nms d → supOf d s = [] := by
  induction d with
  | nil => intro _; rfl
  | cons y t ih =>
    intro h
    rw [nms_cons, List.mem_cons, not_or] at h
    unfold supOf
    rw [if_neg (fun e => h.1 e.symm)]
    exact ih h.2
theorem nms_append (a b : List TypeDecl) : nms (a ++ b) = nms a ++ nms b := List.map_append
theorem take_snoc {d : List TypeDecl} {i : Nat} {x : TypeDecl} (h : d[i]? = some x) : d.take (i + 1) = d.take i ++ [x] := by rw [List.take_add_one, h]; rfl
/-- the map holds the supertypes of e -/
def isSup (e : List TypeDecl) (M : List (List UInt8 × List (List UInt8))) : Prop := ∀ s, mget M s = if s ∈ nms e then some (supOf e s) else none
theorem supOf_snoc {e : List TypeDecl} {x : TypeDecl} (hx : x.Name ∉ nms e) (s : List UInt8) : supOf (e ++ [x]) s = if s = x.Name then x.Supers else supOf e s := by
  induction e with
  | nil =>
    show (if x.Name = s then x.Supers else []) = _
    by_cases h : s = x.Name
    · simp [h]
    · have h' : ¬ x.Name = s := fun e => h e.symm
      simp [h, h', supOf]
  | cons y t ih =>
    rw [nms_cons, List.mem_cons, not_or] at hx
    show (if y.Name = s then y.Supers else supOf (t ++ [x]) s) = if s = x.Name then x.Supers else (if y.Name = s then y.Supers else supOf t s)
    rw [ih hx.2]
    by_cases h : y.Name = s
    · have : ¬ s = x.Name := fun e => hx.1 (e ▸ h.symm)
      simp [h, this]
    · simp [h]
theorem supers_L0 (n : Nat) (d : List TypeDecl) (hd : (nms d).Nodup) : ∀ (t : List TypeDecl) (m i : Nat) (M : List (List UInt8 × List (List UInt8))), d.drop i = t → t.length < m → isSup (d.take i) M → ∃ M', poset_supers_L0 n d m M i = some M' ∧ isSup d M'
  | [], m + 1, i, M, h, _, hM => by
    have hi := drop_nil' h
    rw [poset_supers_L0, if_neg hi]
    rw [List.take_of_length_le (by omega)] at hM
    exact ⟨M, rfl, hM⟩
  | x :: t, m + 1, i, M, h, hm, hM => by
    obtain ⟨h1, h2, h3⟩ := drop_cons h
    rw [poset_supers_L0, if_pos h1, h2]
    simp only [bind_some']
    have e := take_snoc h2
    have hx : x.Name ∉ nms (d.take i) := by
      have : (nms (d.take (i + 1))).Nodup := List.Sublist.nodup (List.Sublist.map _ (List.take_sublist _ _)) hd
      rw [e, nms_append, List.nodup_append] at this
      exact fun q => this.2.2 _ q x.Name (by simp [nms]) rfl
    refine supers_L0 n d hd t m (i + 1) _ h3 (by simpa using hm) (fun s => ?_)
    rw [e, mget_mset, hM s, nms_append, supOf_snoc hx]
    by_cases q : s = x.Name
    · simp [q, nms]
    · simp [q, nms]
theorem supers_eq (n : Nat) (d : List TypeDecl) (hd : (nms d).Nodup) (hn : d.length < n) : ∃ M, poset_supers n d = some M ∧ isSup d M := supers_L0 n d hd d n 0 [] rfl hn (fun s => by simp [mget_nil])
theorem isSup_some {d : List TypeDecl} {M : List (List UInt8 × List (List UInt8))} (h : isSup d M) (s : List UInt8) : (mget M s).isSome = decide (s ∈ nms d) := by
  rw [h s]; split <;> simp_all
theorem isSup_get {d : List TypeDecl} {M : List (List UInt8 × List (List UInt8))} (h : isSup d M) (s : List UInt8) : (mget M s).getD [] = supOf d s := by
  rw [h s]
  split
  · rfl
  · rename_i q; rw [supOf_out q]; rfl
/-! links -/
def linkE (N : List (List UInt8)) (pre : List (List UInt8)) : List (List UInt8) → Option Int → Option Int
  | [], k => k
  | s :: t, k => if s ∈ N then (if s ∈ pre then some 4 else linkE N (pre ++ [s]) t k) else some 5
def linksE (N : List (List UInt8)) : List TypeDecl → Option Int
  | [] => some 0
  | x :: t => linkE N [] x.Supers (linksE N t)
theorem take_snoc' {d : List (List UInt8)} {i : Nat} {x : List UInt8} (h : d[i]? = some x) : d.take (i + 1) = d.take i ++ [x] := by rw [List.take_add_one, h]; rfl
theorem links_L1_p (n : Nat) (d : List TypeDecl) (M : List (List UInt8 × List (List UInt8))) (hM : isSup d M) (k : Option Int) (x : TypeDecl) (hx : x.Supers.length < n) : ∀ (t : List (List UInt8)) (m i : Nat), x.Supers.drop i = t → t.length < m → poset_links_L1 n M k x m i = linkE (nms d) (x.Supers.take i) t k
  | [], m + 1, i, h, _ => by rw [poset_links_L1, if_neg (drop_nil' h)]; rfl
  | s :: t, m + 1, i, h, hm => by
    obtain ⟨h1, h2, h3⟩ := drop_cons h
    rw [poset_links_L1, if_pos h1, h2]
    simp only [bind_some', isSup_some hM, linkE, chk_pos (Nat.le_of_lt h1)]
    rw [Contains_eq n _ _ (by rw [List.length_take]; omega)]
    by_cases a : s ∈ nms d
    · by_cases b : s ∈ x.Supers.take i
      · simp [a, b]
      · simp only [a, b, decide_true, decide_false, Bool.not_true, Bool.false_eq_true, if_false, if_true, bind_some']
        rw [links_L1_p n d M hM k x hx t m (i + 1) h3 (by simpa using hm), take_snoc' h2]
    · simp [a]
theorem links_L1_r (n : Nat) (d : List TypeDecl) (hd : d.length < n) (k : Option Int) (x : TypeDecl) (hx : x.Supers.length < n) : ∀ (t : List (List UInt8)) (m i : Nat), x.Supers.drop i = t → t.length < m → r03_supers_L1 n d k x m i = linkE (nms d) (x.Supers.take i) t k
  | [], m + 1, i, h, _ => by rw [r03_supers_L1, if_neg (drop_nil' h)]; rfl
  | s :: t, m + 1, i, h, hm => by
    obtain ⟨h1, h2, h3⟩ := drop_cons h
    rw [r03_supers_L1, if_pos h1, h2]
    simp only [bind_some', find_eq n d _ hd, posN_neg, linkE, chk_pos (Nat.le_of_lt h1)]
    rw [Among_eq n _ _ (by rw [List.length_take]; omega)]
    by_cases a : s ∈ nms d
    · by_cases b : s ∈ x.Supers.take i
      · simp [a, b]
      · simp only [a, b, not_true, decide_false, Bool.false_eq_true, if_false, if_true, bind_some']
        rw [links_L1_r n d hd k x hx t m (i + 1) h3 (by simpa using hm), take_snoc' h2]
    · simp [a]
theorem links_L0_p (n : Nat) (d : List TypeDecl) (M : List (List UInt8 × List (List UInt8))) (hM : isSup d M) (hx : ∀ x ∈ d, x.Supers.length < n) : ∀ (t : List TypeDecl) (m i : Nat), d.drop i = t → t.length < m → poset_links_L0 n d M m i = linksE (nms d) t
  | [], m + 1, i, h, _ => by rw [poset_links_L0, if_neg (drop_nil' h)]; rfl
  | x :: t, m + 1, i, h, hm => by
    obtain ⟨h1, h2, h3⟩ := drop_cons h
    rw [poset_links_L0, if_pos h1]
    simp only [jn_def, h2, bind_some', linksE]
    have hxl := hx x (List.mem_of_getElem? h2)
    rw [links_L1_p n d M hM _ x hxl x.Supers n 0 rfl hxl, links_L0_p n d M hM hx t m (i + 1) h3 (by simpa using hm)]
    rfl
theorem links_L0_r (n : Nat) (d : List TypeDecl) (hd : d.length < n) (hx : ∀ x ∈ d, x.Supers.length < n) : ∀ (t : List TypeDecl) (m i : Nat), d.drop i = t → t.length < m → r03_supers_L0 n d m i = linksE (nms d) t
  | [], m + 1, i, h, _ => by rw [r03_supers_L0, if_neg (drop_nil' h)]; rfl
  | x :: t, m + 1, i, h, hm => by
    obtain ⟨h1, h2, h3⟩ := drop_cons h
    rw [r03_supers_L0, if_pos h1]
    simp only [jn_def, h2, bind_some', linksE]
    have hxl := hx x (List.mem_of_getElem? h2)
    rw [links_L1_r n d hd _ x hxl x.Supers n 0 rfl hxl, links_L0_r n d hd hx t m (i + 1) h3 (by simpa using hm)]
    rfl
theorem links_eq (n : Nat) (d : List TypeDecl) (hn : 3000 ≤ n) (hl : lightD d) (hd : (nms d).Nodup) : poset_links n d = linksE (nms d) d ∧ r03_supers n d = linksE (nms d) d := by
  have h0 := hl.1
  have hx : ∀ x ∈ d, x.Supers.length < n := fun x h => by have := (hl.2 x h).1; omega
  obtain ⟨M, h1, h2⟩ := supers_eq n d hd (by omega)
  exact ⟨by unfold poset_links; rw [h1, bind_some', links_L0_p n d M h2 hx d n 0 rfl (by omega)], by unfold r03_supers; rw [links_L0_r n d (by omega) hx d n 0 rfl (by omega)]⟩
theorem linkE_tot (N : List (List UInt8)) : ∀ (t pre : List (List UInt8)) (k : Option Int) (c : Int), k = some c → ∃ r, linkE N pre t k = some r ∧ (r = 0 → c = 0 ∧ (pre.Nodup → (pre ++ t).Nodup) ∧ ∀ s ∈ t, s ∈ N)
  | [], pre, k, c, h => ⟨c, h, fun h => ⟨h, by simp, by simp⟩⟩
  | s :: t, pre, k, c, h => by
    unfold linkE
    split
    · rename_i hN
      split
      · exact ⟨4, rfl, fun h => by cases h⟩
      · rename_i hp
        obtain ⟨r, h1, h2⟩ := linkE_tot N t (pre ++ [s]) k c h
        refine ⟨r, h1, fun hr => ?_⟩
        obtain ⟨q1, q2, q3⟩ := h2 hr
        refine ⟨q1, fun hn => ?_, fun x hx => ?_⟩
        · have := q2 (by
            rw [List.nodup_append]
            exact ⟨hn, by simp, fun a ha b hb => by simp at hb; subst hb; exact fun e => hp (e ▸ ha)⟩)
          simpa using this
        · rcases List.mem_cons.1 hx with rfl | hx
          · exact hN
          · exact q3 x hx
    · exact ⟨5, rfl, fun h => by cases h⟩
theorem linksE_tot (N : List (List UInt8)) : ∀ (t : List TypeDecl), ∃ r, linksE N t = some r ∧ (r = 0 → ∀ x ∈ t, x.Supers.Nodup ∧ ∀ s ∈ x.Supers, s ∈ N)
  | [] => ⟨0, rfl, fun _ => by simp⟩
  | x :: t => by
    obtain ⟨c, h1, h2⟩ := linksE_tot N t
    obtain ⟨r, h3, h4⟩ := linkE_tot N x.Supers [] _ c h1
    refine ⟨r, h3, fun hr => ?_⟩
    obtain ⟨q1, q2, q3⟩ := h4 hr
    intro y hy
    rcases List.mem_cons.1 hy with rfl | hy
    · exact ⟨by simpa using q2 (by simp), q3⟩
    · exact h2 q1 y hy
/-! tops -/
def topsN : List TypeDecl → Nat
  | [] => 0
  | x :: t => (if x.Supers.length = 0 then 1 else 0) + topsN t
theorem topsN_le : ∀ t : List TypeDecl, topsN t ≤ t.length
  | [] => Nat.le_refl _
  | x :: t => by
    have := topsN_le t
    unfold topsN
    rw [List.length_cons]
    split <;> omega
theorem tops_p (n : Nat) (d : List TypeDecl) (k : Nat → Option Int) : ∀ (t : List TypeDecl) (m i c : Nat), d.drop i = t → t.length < m → c + t.length ≤ 1000000 → poset_Check_L0 n d k m c i = k (c + topsN t)
  | [], m + 1, i, c, h, _, _ => by rw [poset_Check_L0, if_neg (drop_nil' h)]; rfl
  | x :: t, m + 1, i, c, h, hm, hc => by
    obtain ⟨h1, h2, h3⟩ := drop_cons h
    rw [List.length_cons] at hc
    rw [poset_Check_L0, if_pos h1, h2]
    simp only [bind_some', topsN]
    split
    · rw [chk_pos (by omega), tops_p n d k t m (i + 1) _ h3 (by simpa using hm) (by omega)]
      congr 1; omega
    · rw [tops_p n d k t m (i + 1) _ h3 (by simpa using hm) (by omega)]
      congr 1; omega
theorem tops_r (n : Nat) (d : List TypeDecl) (k : Nat → Option Int) : ∀ (t : List TypeDecl) (m i c : Nat), d.drop i = t → t.length < m → c + t.length ≤ 1000000 → r03_Check_L0 n d k m c i = k (c + topsN t)
  | [], m + 1, i, c, h, _, _ => by rw [r03_Check_L0, if_neg (drop_nil' h)]; rfl
  | x :: t, m + 1, i, c, h, hm, hc => by
    obtain ⟨h1, h2, h3⟩ := drop_cons h
    rw [List.length_cons] at hc
    rw [r03_Check_L0, if_pos h1, h2]
    simp only [bind_some', topsN]
    split
    · rw [chk_pos (by omega), tops_r n d k t m (i + 1) _ h3 (by simpa using hm) (by omega)]
      congr 1; omega
    · rw [tops_r n d k t m (i + 1) _ h3 (by simpa using hm) (by omega)]
      congr 1; omega
/-- declarations that name each type once, their supertypes declared and each named once -/
structure Wf (d : List TypeDecl) : Prop where
  lt : lightD d
  nd : (nms d).Nodup
  nm : ∀ x ∈ d, isName x.Name
  sn : ∀ x ∈ d, x.Supers.Nodup
  cl : ∀ x ∈ d, ∀ s ∈ x.Supers, s ∈ nms d
/-! the reference's order -/
def nx (out : List (List UInt8)) (x : TypeDecl) : Prop := x.Name ∉ out ∧ ∀ s ∈ x.Supers, s ∈ out
instance (out : List (List UInt8)) (x : TypeDecl) : Decidable (nx out x) := inferInstanceAs (Decidable (_ ∧ _))
theorem nx_next {d : List TypeDecl} (hd : Wf d) {out : List (List UInt8)} {s : List UInt8} : isNext (nms d) (supOf d) out s ↔ ∃ x ∈ d, x.Name = s ∧ nx out x := by
  constructor
  · rintro ⟨h1, h2, h3⟩
    obtain ⟨x, hx, rfl⟩ := mem_nms.1 h1
    rw [supOf_of hd.nd hx] at h3
    exact ⟨x, hx, rfl, h2, h3⟩
  · rintro ⟨x, hx, rfl, h2, h3⟩
    exact ⟨mem_nms.2 ⟨x, hx, rfl⟩, h2, by rw [supOf_of hd.nd hx]; exact h3⟩
theorem ready_L0 (n : Nat) (x : TypeDecl) (out : List (List UInt8)) (ho : out.length < n) : ∀ (t : List (List UInt8)) (m i : Nat), x.Supers.drop i = t → t.length < m → r03_ready_L0 n x out m i = some (decide (∀ s ∈ t, s ∈ out))
  | [], m + 1, i, h, _ => by rw [r03_ready_L0, if_neg (drop_nil' h)]; simp
  | s :: t, m + 1, i, h, hm => by
    obtain ⟨h1, h2, h3⟩ := drop_cons h
    rw [r03_ready_L0, if_pos h1, h2]
    simp only [bind_some', Among_eq n out s ho]
    rw [ready_L0 n x out ho t m (i + 1) h3 (by simpa using hm)]
    by_cases a : s ∈ out <;> simp [a]
theorem ready_eq (n : Nat) (x : TypeDecl) (out : List (List UInt8)) (ho : out.length < n) (hx : x.Supers.length < n) : r03_ready n x out = some (decide (∀ s ∈ x.Supers, s ∈ out)) := ready_L0 n x out ho x.Supers n 0 rfl hx
/-- the best so far -/
def bestN (out : List (List UInt8)) : List TypeDecl → Option (List UInt8) → Option (List UInt8)
  | [], b => b
  | x :: t, b => bestN out t (if nx out x then (match b with | none => some x.Name | some y => if x.Name < y then some x.Name else some y) else b)
theorem placed_L1 (n : Nat) (d : List TypeDecl) (out : List (List UInt8)) (k : Bool → List UInt8 → Option (List (List UInt8))) (ho : out.length < n) (hx : ∀ x ∈ d, x.Supers.length < n) : ∀ (t : List TypeDecl) (m i : Nat) (b : Option (List UInt8)) (nxt : List UInt8), d.drop i = t → t.length < m → (b = none ∨ b = some nxt) → ∃ nxt', (bestN out t b = none ∨ bestN out t b = some nxt') ∧ r03_placed_L1 n d out k m b.isSome nxt i = k (bestN out t b).isSome nxt'
  | [], m + 1, i, b, nxt, h, _, hb => by rw [r03_placed_L1, if_neg (drop_nil' h)]; exact ⟨nxt, hb, rfl⟩
  | x :: t, m + 1, i, b, nxt, h, hm, hb => by
    obtain ⟨h1, h2, h3⟩ := drop_cons h
    have hxl := hx x (List.mem_of_getElem? h2)
    rw [r03_placed_L1, if_pos h1]
    simp only [jn_def, h2, bind_some', Among_eq n out x.Name ho, ready_eq n x out ho hxl, bytesLess_eq]
    unfold bestN
    by_cases a : x.Name ∈ out
    · have : ¬ nx out x := fun q => q.1 a
      simp only [a, this, decide_true, if_true, if_false]
      exact placed_L1 n d out k ho hx t m (i + 1) b nxt h3 (by simpa using hm) hb
    · by_cases c : ∀ s ∈ x.Supers, s ∈ out
      · have : nx out x := ⟨a, c⟩
        have hc : decide (∀ s ∈ x.Supers, s ∈ out) = true := decide_eq_true c
        simp only [a, hc, this, decide_true, decide_false, Bool.not_true, Bool.false_eq_true, if_false, if_true]
        rcases hb with rfl | rfl
        · simp only [Option.isSome_none, Bool.not_false, if_true]
          exact placed_L1 n d out k ho hx t m (i + 1) (some x.Name) x.Name h3 (by simpa using hm) (.inr rfl)
        · simp only [Option.isSome_some, Bool.not_true, Bool.false_eq_true, if_false, decide_eq_true_eq]
          by_cases e : x.Name < nxt
          · simp only [e, if_true]
            exact placed_L1 n d out k ho hx t m (i + 1) (some x.Name) x.Name h3 (by simpa using hm) (.inr rfl)
          · simp only [e, if_false]
            exact placed_L1 n d out k ho hx t m (i + 1) (some nxt) nxt h3 (by simpa using hm) (.inr rfl)
      · have : ¬ nx out x := fun q => c q.2
        simp only [a, c, this, decide_false, Bool.not_false, Bool.false_eq_true, if_false, if_true]
        exact placed_L1 n d out k ho hx t m (i + 1) b nxt h3 (by simpa using hm) hb
theorem bestN_spec (out : List (List UInt8)) : ∀ (t : List TypeDecl) (P : List UInt8 → Prop) (b : Option (List UInt8)), (b = none → ∀ s, ¬ P s) → (∀ y, b = some y → leastOf P y) → (bestN out t b = none → ∀ s, ¬ (P s ∨ ∃ x ∈ t, x.Name = s ∧ nx out x)) ∧ ∀ y, bestN out t b = some y → leastOf (fun s => P s ∨ ∃ x ∈ t, x.Name = s ∧ nx out x) y
  | [], P, b, h1, h2 => by
    refine ⟨fun h s => ?_, fun y hy => ?_⟩
    · simp; exact h1 h s
    · have := h2 y hy
      exact ⟨.inl this.1, fun z hz => by
        rcases hz with hz | ⟨x, hx, _⟩
        · exact this.2 z hz
        · cases hx⟩
  | x :: t, P, b, h1, h2 => by
    unfold bestN
    have key : ∀ (Q : List UInt8 → Prop) (b' : Option (List UInt8)), (b' = none → ∀ s, ¬ Q s) → (∀ y, b' = some y → leastOf Q y) → (∀ s, Q s ↔ (P s ∨ (x.Name = s ∧ nx out x))) → (bestN out t b' = none → ∀ s, ¬ (P s ∨ ∃ z ∈ x :: t, z.Name = s ∧ nx out z)) ∧ ∀ y, bestN out t b' = some y → leastOf (fun s => P s ∨ ∃ z ∈ x :: t, z.Name = s ∧ nx out z) y := by
      intro Q b' q1 q2 q3
      obtain ⟨r1, r2⟩ := bestN_spec out t Q b' q1 q2
      have e : ∀ s, (P s ∨ ∃ z ∈ x :: t, z.Name = s ∧ nx out z) ↔ (Q s ∨ ∃ z ∈ t, z.Name = s ∧ nx out z) := fun s => by
        rw [q3 s]; simp [or_assoc]
      refine ⟨fun h s hs => r1 h s ((e s).1 hs), fun y hy => ?_⟩
      have := r2 y hy
      exact ⟨(e y).2 this.1, fun z hz => this.2 z ((e z).1 hz)⟩
    by_cases hx : nx out x
    · rw [if_pos hx]
      cases b with
      | none =>
        refine key (fun s => x.Name = s) (some x.Name) (by simp) (fun y hy => ?_) (fun s => ?_)
        · cases hy; exact ⟨rfl, fun z hz => by rw [hz]; exact List.le_refl _⟩
        · simp [hx, h1 rfl s]
      | some y =>
        have hl := h2 y rfl
        show (bestN out t (if x.Name < y then some x.Name else some y) = none → _) ∧ _
        by_cases hlt : x.Name < y
        · simp only [hlt, if_true]
          refine key (fun s => P s ∨ x.Name = s) (some x.Name) (by simp) (fun z hz => ?_) (fun s => by simp [hx])
          cases hz
          exact ⟨.inr rfl, fun z hz => by
            rcases hz with hz | rfl
            · exact List.le_trans (Std.le_of_lt hlt) (hl.2 z hz)
            · exact List.le_refl _⟩
        · simp only [hlt, if_false]
          refine key (fun s => P s ∨ x.Name = s) (some y) (by simp) (fun z hz => ?_) (fun s => by simp [hx])
          cases hz
          exact ⟨.inl hl.1, fun z hz => by
            rcases hz with hz | rfl
            · exact hl.2 z hz
            · exact hlt⟩
    · rw [if_neg hx]
      exact key P b h1 h2 (fun s => by simp [hx])
theorem placed_L0 (n : Nat) (d : List TypeDecl) (hd : Wf d) (hn : 3000 ≤ n) : ∀ (m : Nat) (out : List (List UInt8)), out.Nodup → (∀ x ∈ out, x ∈ nms d) → d.length + 2 ≤ m + out.length → ∃ o, r03_placed_L0 n d m out true = some o ∧ Placed (nms d) (supOf d) out o
  | 0, out, h1, h2, h3 => by
    have := nodup_lenK out (nms d) h1 h2
    simp [nms] at this
    omega
  | m + 1, out, h1, h2, h3 => by
    have hl := nodup_lenK out (nms d) h1 h2
    have h0 := hd.lt.1
    rw [show (nms d).length = d.length by simp [nms]] at hl
    rw [r03_placed_L0, if_pos rfl]
    simp only [jn_def]
    obtain ⟨nxt, q1, q2⟩ := placed_L1 n d out (fun more_8 next_9 => if more_8 = true then chk (out.length + [next_9].length ≤ 137438953472) (r03_placed_L0 n d m (out ++ [next_9]) more_8) else r03_placed_L0 n d m out more_8) (by omega) (fun x hx => by have := (hd.lt.2 x hx).1; omega) d n 0 none [] rfl (by omega) (.inl rfl)
    rw [show (none : Option (List UInt8)).isSome = false from rfl] at q2
    rw [q2]
    obtain ⟨r1, r2⟩ := bestN_spec out d (fun _ => False) none (fun _ _ h => h) (fun y hy => by cases hy)
    rcases q1 with q1 | q1
    · rw [q1]
      simp only [Option.isSome_none, Bool.false_eq_true, if_false]
      obtain ⟨m', rfl⟩ : ∃ m', m = m' + 1 := ⟨m - 1, by omega⟩
      rw [r03_placed_L0, if_neg (by simp)]
      refine ⟨out, rfl, .done fun x hx => r1 q1 x (.inr (nx_next hd |>.1 hx))⟩
    · have hle := r2 nxt q1
      have hle : leastOf (isNext (nms d) (supOf d) out) nxt := by
        refine ⟨?_, fun y hy => hle.2 y (.inr ((nx_next hd).1 hy))⟩
        rcases hle.1 with h | h
        · exact h.elim
        · exact (nx_next hd).2 h
      rw [q1]
      simp only [Option.isSome_some, if_true, List.length_singleton]
      rw [chk_pos (by omega)]
      obtain ⟨o, o1, o2⟩ := placed_L0 n d hd hn m (out ++ [nxt]) (by
        rw [List.nodup_append]
        exact ⟨h1, by simp, fun a ha b hb => by simp at hb; subst hb; exact fun e => hle.1.2.1 (e ▸ ha)⟩) (fun x hx => by
        rcases List.mem_append.1 hx with hx | hx
        · exact h2 x hx
        · simp at hx; subst hx; exact hle.1.1) (by simp; omega)
      exact ⟨o, o1, .more hle o2⟩
end Go.Proofs.Ytoeolfnjblibpaa

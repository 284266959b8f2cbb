/- Chapter 03: plain laws, relations and covers -/
import Derived.Test.YtoeolfnjblibpaaC8
namespace Go.Proofs.Ytoeolfnjblibpaa
open Go.Gl Go.Sort
set_option linter.unusedVariables false
set_option linter.unusedSimpArgs false
/-! the order's laws -/
theorem Order_eq {n : Nat} {d : List TypeDecl} {o : List (List UInt8)} (h1 : poset_ordered n d = some o) (h2 : poset_Check n d = some 0) : poset_Order n d = some (o, 0) := by
  unfold poset_Order
  rw [h2, bind_some', if_neg (by simp), h1]
  rfl
theorem dnR {d : List TypeDecl} (hd : Wf d) {x y : List UInt8} : (x ∈ nms d ∧ Reach (dn d) x y) ↔ (y ∈ nms d ∧ Reach (supOf d) y x) := by
  have e : dn d = dnS (nms d) (supOf d) := funext fun s => dn_dnS hd.nd s
  rw [e]
  constructor
  · rintro ⟨h1, h2⟩
    refine ⟨?_, dn_up h2⟩
    rw [← e] at h2
    exact dn_in ⟨h1, h2⟩
  · rintro ⟨h1, h2⟩
    exact ⟨up_in hd ⟨h1, h2⟩, up_dn (supOf_cl hd) h1 h2⟩
theorem tops_one : ∀ {d : List TypeDecl}, topsN d = 1 → ∀ x ∈ d, ∀ y ∈ d, x.Supers = [] → y.Supers = [] → (nms d).Nodup → x.Name = y.Name
  | [], h, _, _, _, _, _, _, _ => by cases h
  | z :: t, h, x, hx, y, hy, ex, ey, hn => by
    unfold topsN at h
    have zero : ∀ (t : List TypeDecl), topsN t = 0 → ∀ x ∈ t, x.Supers = [] → False := by
      intro t
      induction t with
      | nil => intro _ x hx; cases hx
      | cons u t ih =>
        intro h x hx e
        unfold topsN at h
        rcases List.mem_cons.1 hx with rfl | hx
        · rw [e] at h; simp at h
        · exact ih (by omega) x hx e
    by_cases hz : z.Supers.length = 0
    · rw [if_pos hz] at h
      have ht : topsN t = 0 := by omega
      rcases List.mem_cons.1 hx with rfl | hx
      · rcases List.mem_cons.1 hy with rfl | hy
        · rfl
        · exact (zero t ht y hy ey).elim
      · exact (zero t ht x hx ex).elim
    · rw [if_neg hz] at h
      rcases List.mem_cons.1 hx with rfl | hx
      · rw [ex] at hz; simp at hz
      · rcases List.mem_cons.1 hy with rfl | hy
        · rw [ey] at hz; simp at hz
        · exact tops_one (by omega) x hx y hy ex ey (List.nodup_cons.1 hn).2
theorem Ok.pos {d : List TypeDecl} {o : List (List UInt8)} (h : Ok d o) : 0 < d.length := by
  cases hd : d with
  | nil => have := h.top; rw [hd] at this; cases this
  | cons => simp
/-- the first one is above all -/
theorem Ok.first {d : List TypeDecl} {o : List (List UInt8)} (h : Ok d o) {t : List UInt8} (ht : o[0]? = some t) : (∀ x ∈ nms d, Reach (supOf d) x t) ∧ supOf d t = [] := by
  obtain ⟨h1, h2, h3⟩ := h.names
  have h0 : supOf d t = [] := List.eq_nil_iff_forall_not_mem.2 (fun s hs => by
    obtain ⟨j, hj, _⟩ := h3 0 t ht s hs
    omega)
  refine ⟨fun x hx => ?_, h0⟩
  obtain ⟨i, hi⟩ := List.getElem?_of_mem ((h2 x).2 hx)
  refine reach_top h3 t (fun y hy hy0 => ?_) i x hi
  obtain ⟨a, ha, rfl⟩ := mem_nms.1 ((h2 y).1 hy)
  obtain ⟨b, hb, rfl⟩ := mem_nms.1 ((h2 t).1 (List.mem_of_getElem? ht))
  rw [supOf_of h.wf.nd ha] at hy0
  rw [supOf_of h.wf.nd hb] at h0
  exact tops_one h.top a ha b hb hy0 h0 h.wf.nd
theorem Asc.length_eq {P : List UInt8 → Prop} {a N : List (List UInt8)} (h : Asc P a) (hN : N.Nodup) (e : ∀ x, P x ↔ x ∈ N) : a.length = N.length := by
  have h1 := h.len (N := N) (fun x hx => (e x).1 hx)
  have h2 := nodup_lenK N a hN (fun x hx => (h.mem x).2 ((e x).2 hx))
  omega
theorem Relates_L1 (n : Nat) (d : List TypeDecl) (o : List (List UInt8)) (ho : Ok d o) (hn : 2000 ≤ n) (i : Nat) (k : Option Bool) (x : List UInt8) (hx : o[i]? = some x) (a : List (List UInt8)) (ha : Asc (fun v => x ∈ nms d ∧ Reach (supOf d) x v) a) : ∀ (t : List (List UInt8)) (m j : Nat), o.drop j = t → t.length < m → law03_PosetRelates_L1 n d (o, 0) i k x a m j = k
  | [], m + 1, j, h, _ => by rw [law03_PosetRelates_L1, if_neg (drop_nil' h)]
  | y :: t, m + 1, j, h, hm => by
    obtain ⟨h1, h2, h3⟩ := drop_cons h
    obtain ⟨o1, o2, o3⟩ := ho.names
    have hal := ha.le ho.wf (fun v => up_in ho.wf)
    have hxN := (o2 x).1 (List.mem_of_getElem? hx)
    have hyN := (o2 y).1 (List.mem_of_getElem? h2)
    obtain ⟨b, b1, b2⟩ := Below_eq n d ho.wf (by omega) y
    have hbl := b2.le ho.wf (fun v => dn_in)
    obtain ⟨c, c1, c2⟩ := Above_eq n d ho.wf (by omega) y
    have hcl := c2.le ho.wf (fun v => up_in ho.wf)
    rw [law03_PosetRelates_L1, if_pos h1]
    have e1 : decide (y ∈ a) = decide (x ∈ b) := by
      congr 1
      apply propext
      rw [ha.mem, b2.mem, dnR ho.wf]
    simp only [h2, bind_some', jn_def, Among_eq n a y (by omega), Among_eq n b x (by omega), Among_eq n c x (by omega), b1, c1, e1, beq_self_eq_true, Bool.not_true, Bool.false_eq_true, if_false]
    have ih := Relates_L1 n d o ho hn i k x hx a ha t m (j + 1) h3 (by simpa using hm)
    by_cases q : x ∈ b
    · have hre : Reach (supOf d) x y := ((dnR ho.wf).1 ((b2.mem x).1 q)).2
      obtain ⟨j', j1, j2, j3⟩ := o3.reach hre i hx
      have ej : j' = j := by
        obtain ⟨u1, u2⟩ := List.getElem?_eq_some_iff.1 j2
        obtain ⟨w1, w2⟩ := List.getElem?_eq_some_iff.1 h2
        exact (List.getElem_inj o1).1 (u2.trans w2.symm)
      rw [ej] at j1 j3
      simp only [q, decide_true, if_true]
      rw [if_neg (by omega)]
      by_cases e : j = i
      · rw [if_neg (by simp [e])]
        exact ih
      · rw [if_pos e]
        have hxc : x ∉ c := fun hc => by
          have hre2 := ((c2.mem x).1 hc).2
          have := reach_anti o3 o1 (List.mem_of_getElem? hx) hre hre2
          exact e ((idx_eq o1 hx h2).2 this.symm)
        simp only [hxc, decide_false, Bool.false_eq_true, if_false]
        exact ih
    · simp only [q, decide_false, Bool.false_eq_true, if_false]
      exact ih
theorem Relates_L0 (n : Nat) (d : List TypeDecl) (o : List (List UInt8)) (ho : Ok d o) (hn : 2000 ≤ n) (k : Option Bool) : ∀ (t : List (List UInt8)) (m i : Nat), o.drop i = t → t.length < m → law03_PosetRelates_L0 n d (o, 0) k m i = k
  | [], m + 1, i, h, _ => by rw [law03_PosetRelates_L0, if_neg (drop_nil' h)]
  | x :: t, m + 1, i, h, hm => by
    obtain ⟨h1, h2, h3⟩ := drop_cons h
    obtain ⟨o1, o2, o3⟩ := ho.names
    have h0 := ho.wf.lt.1
    have hol := ho.all
    have hxN := (o2 x).1 (List.mem_of_getElem? h2)
    obtain ⟨a, a1, a2⟩ := Above_eq n d ho.wf (by omega) x
    have hal := a2.le ho.wf (fun v => up_in ho.wf)
    obtain ⟨f, hf⟩ : ∃ f, o[0]? = some f := ⟨_, List.getElem?_eq_getElem (by omega)⟩
    have hfa : f ∈ a := (a2.mem f).2 ⟨hxN, (ho.first hf).1 x hxN⟩
    have hxa : x ∈ a := (a2.mem x).2 ⟨hxN, .refl⟩
    rw [law03_PosetRelates_L0, if_pos h1]
    simp only [jn_def, h2, bind_some', a1, hf, Among_eq n a f (by omega), Among_eq n a x (by omega), hfa, hxa, decide_true, Bool.not_true, Bool.false_eq_true, if_false]
    rw [Relates_L1 n d o ho hn i _ x h2 a a2 o n 0 rfl (by omega)]
    exact Relates_L0 n d o ho hn k t m (i + 1) h3 (by simpa using hm)
theorem Relates_main (n : Nat) (hn : 2000 ≤ n) (hex : law03_exampleHolds n = some true) (d : List TypeDecl) : law03_PosetRelates n d = some true := by
  unfold law03_PosetRelates
  obtain ⟨b, b1, b2⟩ := valid_eq n d hn
  rw [b1, hex]
  cases b with
  | false => simp
  | true =>
    obtain ⟨o, ho, p1, p2⟩ := b2 rfl
    have h0 := ho.wf.lt.1
    have hol := ho.all
    have hp := ho.pos
    obtain ⟨o1, o2, o3⟩ := ho.names
    obtain ⟨f, hf⟩ : ∃ f, o[0]? = some f := ⟨_, List.getElem?_eq_getElem (by omega)⟩
    have hfN := (o2 f).1 (List.mem_of_getElem? hf)
    obtain ⟨f1, f2⟩ := ho.first hf
    obtain ⟨x, x1, x2⟩ := Below_eq n d ho.wf (by omega) f
    obtain ⟨y, y1, y2⟩ := Above_eq n d ho.wf (by omega) f
    have hxl : x.length = d.length := by
      rw [← nms_len d]
      refine x2.length_eq ho.wf.nd (fun v => ?_)
      rw [dnR ho.wf]
      exact ⟨fun q => q.1, fun q => ⟨q, f1 v q⟩⟩
    have hyl : y.length = 1 := by
      refine y2.length_eq (N := [f]) (by simp) (fun v => ?_)
      constructor
      · rintro ⟨_, q⟩
        have key : ∀ z, Reach (supOf d) f z → z = f := by
          intro z hz
          induction hz with
          | refl => rfl
          | tail _ hz ih => rw [ih, f2] at hz; cases hz
        simp [key v q]
      · intro q
        simp at q
        subst q
        exact ⟨hfN, .refl⟩
    simp only [bind_some', Bool.not_true, Bool.false_eq_true, if_false, Order_eq p1 p2, jn_def, ne_eq, not_true, hol, hf, x1, hxl, y1, hyl, decide_false]
    rw [Relates_L0 n d o ho hn _ o n 0 rfl (by omega)]
theorem law03_PosetRelates_true (d : List TypeDecl) : law03_PosetRelates 100000 d = some true := Relates_main 100000 (by omega) ex03 d
/-! covers -/
theorem Covers_L1 (n : Nat) (d : List TypeDecl) (hd : Wf d) (hn : 2000 ≤ n) (r : List (List UInt8)) (x : List UInt8) (k : Bool → Option Bool) : ∀ (t : List (List UInt8)) (m i : Nat) (b : Bool), r.drop i = t → t.length < m → ∃ b', law03_PosetCovers_L1 n d r x k m b i = k b' ∧ (b' = true ↔ b = true ∨ ∃ y ∈ t, x ∈ nms d ∧ Reach (supOf d) x y)
  | [], m + 1, i, b, h, _ => by rw [law03_PosetCovers_L1, if_neg (drop_nil' h)]; exact ⟨b, rfl, by simp⟩
  | y :: t, m + 1, i, b, h, hm => by
    obtain ⟨h1, h2, h3⟩ := drop_cons h
    obtain ⟨c, c1, c2⟩ := Below_eq n d hd (by omega) y
    have hcl := c2.le hd (fun v => dn_in)
    rw [law03_PosetCovers_L1, if_pos h1, h2, bind_some', c1, bind_some', Among_eq n c x (by omega), bind_some']
    cases b with
    | true =>
      rw [if_pos rfl]
      obtain ⟨b', q1, q2⟩ := Covers_L1 n d hd hn r x k t m (i + 1) true h3 (by simpa using hm)
      exact ⟨b', q1, by rw [q2]; simp⟩
    | false =>
      rw [if_neg (by simp)]
      obtain ⟨b', q1, q2⟩ := Covers_L1 n d hd hn r x k t m (i + 1) (decide (x ∈ c)) h3 (by simpa using hm)
      refine ⟨b', q1, q2.trans ?_⟩
      rw [decide_eq_true_eq, c2.mem x, dnR hd]
      simp only [Bool.false_eq_true, false_or, List.mem_cons, exists_eq_or_imp]
theorem Covers_L2 (n : Nat) (d : List TypeDecl) (hd : Wf d) (hn : 2000 ≤ n) (r : List (List UInt8)) (x : List UInt8) (k : Bool → Option Bool) : ∀ (t : List (List UInt8)) (m i : Nat) (b : Bool), r.drop i = t → t.length < m → ∃ b', law03_PosetCovers_L2 n d r x k m b i = k b' ∧ (b' = true ↔ b = true ∨ ∃ y ∈ t, y ∈ nms d ∧ Reach (supOf d) y x)
  | [], m + 1, i, b, h, _ => by rw [law03_PosetCovers_L2, if_neg (drop_nil' h)]; exact ⟨b, rfl, by simp⟩
  | y :: t, m + 1, i, b, h, hm => by
    obtain ⟨h1, h2, h3⟩ := drop_cons h
    obtain ⟨c, c1, c2⟩ := Above_eq n d hd (by omega) y
    have hcl := c2.le hd (fun v => up_in hd)
    rw [law03_PosetCovers_L2, if_pos h1, h2, bind_some', c1, bind_some', Among_eq n c x (by omega), bind_some']
    cases b with
    | true =>
      rw [if_pos rfl]
      obtain ⟨b', q1, q2⟩ := Covers_L2 n d hd hn r x k t m (i + 1) true h3 (by simpa using hm)
      exact ⟨b', q1, by rw [q2]; simp⟩
    | false =>
      rw [if_neg (by simp)]
      obtain ⟨b', q1, q2⟩ := Covers_L2 n d hd hn r x k t m (i + 1) (decide (x ∈ c)) h3 (by simpa using hm)
      refine ⟨b', q1, q2.trans ?_⟩
      rw [decide_eq_true_eq, c2.mem x]
      simp only [Bool.false_eq_true, false_or, List.mem_cons, exists_eq_or_imp]
theorem Covers_L0 (n : Nat) (d : List TypeDecl) (o : List (List UInt8)) (ho : Ok d o) (hn : 2000 ≤ n) (l hi lo N : List (List UInt8)) (hhi : Asc (maxP d l) hi) (hlo : Asc (minP d l) lo) (hN : Asc (fun v => v ∈ nms d) N) (k : Option Bool) : ∀ (t : List (List UInt8)) (m i : Nat), l.drop i = t → t.length < m → law03_PosetCovers_L0 n d l hi lo N k m i = k
  | [], m + 1, i, h, _ => by rw [law03_PosetCovers_L0, if_neg (drop_nil' h)]
  | x :: t, m + 1, i, h, hm => by
    obtain ⟨h1, h2, h3⟩ := drop_cons h
    obtain ⟨o1, o2, o3⟩ := ho.names
    have hNl := hN.le ho.wf (fun v q => q)
    have hhl := maxP_len ho.wf hhi
    have hll := minP_len ho.wf hlo
    have ih := Covers_L0 n d o ho hn l hi lo N hhi hlo hN k t m (i + 1) h3 (by simpa using hm)
    rw [law03_PosetCovers_L0, if_pos h1, h2, bind_some', Among_eq n N x (by omega), bind_some']
    by_cases hx : x ∈ N
    · have hxN := (hN.mem x).1 hx
      have hxl := List.mem_of_getElem? h2
      obtain ⟨q, hq⟩ := List.getElem?_of_mem ((o2 x).2 hxN)
      simp only [hx, decide_true, Bool.not_true, Bool.false_eq_true, if_false, jn_def]
      obtain ⟨b, b1, b2⟩ := Covers_L1 n d ho.wf hn hi x (fun (t_48 : Bool) => law03_PosetCovers_L2 n d lo x (fun (t_70 : Bool) => if (!(t_48)) = true then (if true = true then some false else law03_PosetCovers_L0 n d l hi lo N k m (i + 1)) else (if (!(t_70)) = true then some false else law03_PosetCovers_L0 n d l hi lo N k m (i + 1))) n false 0) hi n 0 false rfl (by omega)
      simp only [if_true] at b1
      rw [if_true] at *
      rw [b1]
      obtain ⟨c, c1, c2⟩ := Covers_L2 n d ho.wf hn lo x (fun (t_70 : Bool) => if (!b) = true then some false else (if (!(t_70)) = true then some false else law03_PosetCovers_L0 n d l hi lo N k m (i + 1))) lo n 0 false rfl (by omega)
      rw [c1]
      have hb : b = true := b2.2 (.inr (by
        obtain ⟨s, s1, s2, s3⟩ := reach_max o3 (fun v => v ∈ nms d ∧ v ∈ l) q x hq ⟨hxN, hxl⟩
        exact ⟨s, (hhi.mem s).2 ⟨s1, fun y hy hne hre => hne (s3 y hy hre)⟩, hxN, s2⟩))
      have hc : c = true := c2.2 (.inr (by
        obtain ⟨s, s1, s2, s3⟩ := reach_min o3 o1 (fun v => v ∈ nms d ∧ v ∈ l) (fun v hv => (o2 v).2 hv.1) q o.length x hq (by omega) ⟨hxN, hxl⟩
        exact ⟨s, (hlo.mem s).2 ⟨s1, fun y hy hne hre => hne (s3 y hy hre)⟩, s1.1, s2⟩))
      rw [hb, hc]
      simp only [Bool.not_true, Bool.false_eq_true, if_false]
      exact ih
    · simp only [hx, decide_false, Bool.not_false, if_true]
      exact ih
theorem Covers_L5 (n : Nat) (d : List TypeDecl) (hd : Wf d) (hn : 2000 ≤ n) (l e : List (List UInt8)) (hl : l.length ≤ 30) (hne : e.Nodup) (hin : ∀ v ∈ e, v ∈ l) (hfree : ∀ v ∈ e, ∀ y ∈ e, y ≠ v → ¬ Reach (supOf d) v y) (i : Nat) (k : Option Bool) (x : List UInt8) (hx : e[i]? = some x) : ∀ (t : List (List UInt8)) (m j : Nat), e.drop j = t → t.length < m → law03_PosetCovers_L5 n d l e i k x m j = k
  | [], m + 1, j, h, _ => by rw [law03_PosetCovers_L5, if_neg (drop_nil' h)]
  | y :: t, m + 1, j, h, hm => by
    obtain ⟨h1, h2, h3⟩ := drop_cons h
    have ih := Covers_L5 n d hd hn l e hl hne hin hfree i k x hx t m (j + 1) h3 (by simpa using hm)
    obtain ⟨c, c1, c2⟩ := Below_eq n d hd (by omega) y
    have hcl := c2.le hd (fun v => dn_in)
    have hxe := List.mem_of_getElem? hx
    have hxl := hin x hxe
    rw [law03_PosetCovers_L5, if_pos h1]
    simp only [jn_def, h2, bind_some', Among_eq n l x (by omega), hxl, decide_true, Bool.not_true, Bool.false_eq_true, if_false, c1, Among_eq n c x (by omega)]
    by_cases q : j = i
    · rw [if_neg (by simp [q])]
      exact ih
    · rw [if_pos q]
      have hyx : y ≠ x := fun e => q ((idx_eq hne hx h2).2 e)
      have : x ∉ c := fun hc => hfree x hxe y (List.mem_of_getElem? h2) hyx ((dnR hd).1 ((c2.mem x).1 hc)).2
      simp only [this, decide_false, Bool.false_eq_true, if_false]
      exact ih
theorem Covers_L4 (n : Nat) (d : List TypeDecl) (hd : Wf d) (hn : 2000 ≤ n) (l e : List (List UInt8)) (hl : l.length ≤ 30) (hel : e.length ≤ 16) (hne : e.Nodup) (hin : ∀ v ∈ e, v ∈ l) (hfree : ∀ v ∈ e, ∀ y ∈ e, y ≠ v → ¬ Reach (supOf d) v y) (k : Option Bool) : ∀ (t : List (List UInt8)) (m i : Nat), e.drop i = t → t.length < m → law03_PosetCovers_L4 n d l k e m i = k
  | [], m + 1, i, h, _ => by rw [law03_PosetCovers_L4, if_neg (drop_nil' h)]
  | x :: t, m + 1, i, h, hm => by
    obtain ⟨h1, h2, h3⟩ := drop_cons h
    rw [law03_PosetCovers_L4, if_pos h1, jn_def, h2, bind_some', Covers_L5 n d hd hn l e hl hne hin hfree i _ x h2 e n 0 rfl (by omega)]
    exact Covers_L4 n d hd hn l e hl hel hne hin hfree k t m (i + 1) h3 (by simpa using hm)
theorem Covers_main (n : Nat) (hn : 2000 ≤ n) (hex : law03_exampleHolds n = some true) (d : List TypeDecl) (l : List (List UInt8)) : law03_PosetCovers n d l = some true := by
  unfold law03_PosetCovers
  obtain ⟨b, b1, b2⟩ := valid_eq n d hn
  simp only [jn_def, b1, hex, bind_some']
  cases b with
  | false => simp
  | true =>
    simp only [Bool.not_true, Bool.false_eq_true, if_false]
    by_cases hl : 30 < l.length
    · simp [hl]
    · obtain ⟨o, ho, _⟩ := b2 rfl
      obtain ⟨x, x1, x2⟩ := Maximal_eq n d ho.wf hn l (by omega)
      obtain ⟨z, z1, z2⟩ := Minimal_eq n d ho.wf hn l (by omega)
      obtain ⟨r, r1, r2⟩ := Names_eq n d ho.wf.lt (by omega)
      simp only [hl, decide_false, Bool.false_eq_true, if_false, x1, z1, r1, bind_some']
      rw [Covers_L0 n d o ho hn l x z r x2 z2 r2 _ l n 0 rfl (by omega)]
      have hxl := maxP_len ho.wf x2
      have hzl := minP_len ho.wf z2
      obtain ⟨m, rfl⟩ : ∃ m, n = m + 3 := ⟨n - 3, by omega⟩
      have c1 := fun k => Covers_L4 (m + 3) d ho.wf hn l x (by omega) hxl x2.nodup (fun v hv => ((x2.mem v).1 hv).1.2) (fun v hv y hy hne => ((x2.mem v).1 hv).2 y ((x2.mem y).1 hy).1 hne) k x (m + 3) 0 rfl (by omega)
      have c2 := fun k => Covers_L4 (m + 3) d ho.wf hn l z (by omega) hzl z2.nodup (fun v hv => ((z2.mem v).1 hv).1.2) (fun v hv y hy hne => ((z2.mem y).1 hy).2 v ((z2.mem v).1 hv).1 (fun e => hne e.symm)) k z (m + 3) 0 rfl (by omega)
      rw [law03_PosetCovers_L3, if_pos (by omega), jn_def, chk_pos (by omega), law03_PosetCovers_L3, if_pos (by omega), jn_def, chk_pos (by omega), law03_PosetCovers_L3, if_neg (by omega)]
      simp only [List.getElem?_cons_zero, List.getElem?_cons_succ, Nat.zero_add, bind_some', c1, c2]
theorem law03_PosetCovers_true (d : List TypeDecl) (l : List (List UInt8)) : law03_PosetCovers 100000 d l = some true := Covers_main 100000 (by omega) ex03 d l
end Go.Proofs.Ytoeolfnjblibpaa

/- Chapter 03: plain laws, the order of the declarations -/
import Derived.Test.YtoeolfnjblibpaaC9
namespace Go.Proofs.Ytoeolfnjblibpaa
open Go.Gl Go.Sort
set_option linter.unusedVariables false
set_option linter.unusedSimpArgs false
/-! the order of the declarations plays no part -/
theorem perm_nms {d e : List TypeDecl} (h : d.Perm e) (x : List UInt8) : x ∈ nms d ↔ x ∈ nms e := (h.map _).mem_iff
theorem perm_sup {d e : List TypeDecl} (hd : (nms d).Nodup) (h : d.Perm e) : supOf e = supOf d := funext fun x => by
  have he : (nms e).Nodup := (h.map _).nodup_iff.1 hd
  by_cases hx : x ∈ nms d
  · obtain ⟨a, ha, rfl⟩ := mem_nms.1 hx
    rw [supOf_of hd ha, supOf_of he (h.mem_iff.1 ha)]
  · rw [supOf_out hx, supOf_out (fun q => hx ((perm_nms h x).2 q))]
theorem perm_tops {d e : List TypeDecl} (h : d.Perm e) : topsN d = topsN e := by
  induction h with
  | nil => rfl
  | cons x _ ih => unfold topsN; rw [ih]
  | swap x y l => simp only [topsN]; omega
  | trans _ _ a b => exact a.trans b
theorem Ok.perm {d e : List TypeDecl} {o : List (List UInt8)} (h : Ok d o) (p : d.Perm e) : Ok e o := by
  refine ⟨⟨⟨?_, fun x hx => h.wf.lt.2 x (p.mem_iff.2 hx)⟩, (p.map _).nodup_iff.1 h.wf.nd, fun x hx => h.wf.nm x (p.mem_iff.2 hx), fun x hx => h.wf.sn x (p.mem_iff.2 hx), fun x hx s hs => (perm_nms p s).1 (h.wf.cl x (p.mem_iff.2 hx) s hs)⟩, ?_, ?_, ?_⟩
  · rw [← p.length_eq]; exact h.wf.lt.1
  · rw [← perm_tops p]; exact h.top
  · exact h.pl.same (perm_nms p) (fun x => by rw [perm_sup h.wf.nd p])
  · rw [← p.length_eq]; exact h.all
theorem namesE_of : ∀ (t : List TypeDecl) (pre : List (List UInt8)), (pre ++ nms t).Nodup → (∀ x ∈ t, isName x.Name) → namesE pre t = 0
  | [], pre, _, _ => rfl
  | x :: t, pre, h, hn => by
    unfold namesE
    rw [if_pos (hn x (by simp)), if_neg (fun q => (List.nodup_append.1 h).2.2 x.Name q x.Name (by simp [nms]) rfl), namesE_of t (pre ++ [x.Name]) (by simpa [nms] using h) (fun y hy => hn y (by simp [hy]))]
theorem linkE_of (N : List (List UInt8)) : ∀ (t pre : List (List UInt8)) (k : Option Int), (pre ++ t).Nodup → (∀ s ∈ t, s ∈ N) → linkE N pre t k = k
  | [], pre, k, _, _ => rfl
  | s :: t, pre, k, h, hn => by
    unfold linkE
    rw [if_pos (hn s (by simp)), if_neg (fun q => (List.nodup_append.1 h).2.2 s q s (by simp) rfl), linkE_of N t (pre ++ [s]) k (by simpa using h) (fun y hy => hn y (by simp [hy]))]
theorem linksE_of (N : List (List UInt8)) : ∀ (t : List TypeDecl), (∀ x ∈ t, x.Supers.Nodup ∧ ∀ s ∈ x.Supers, s ∈ N) → linksE N t = some 0
  | [], _ => rfl
  | x :: t, h => by
    unfold linksE
    rw [linkE_of N x.Supers [] _ (by simpa using (h x (by simp)).1) (h x (by simp)).2, linksE_of N t (fun y hy => h y (by simp [hy]))]
theorem Check_ok (n : Nat) {d : List TypeDecl} {o : List (List UInt8)} (h : Ok d o) (hn : 200 ≤ n) : poset_Check n d = some 0 ∧ poset_ordered n d = some o := by
  have h0 := h.wf.lt.1
  obtain ⟨a1, _⟩ := names_eq n d (by omega) h.wf.lt
  obtain ⟨l1, _⟩ := links_eq n d (by omega) h.wf.lt h.wf.nd
  obtain ⟨o', o1, o2, o3⟩ := ordered_eq n d h.wf hn
  obtain rfl := o3.unique h.pl
  refine ⟨?_, o1⟩
  unfold poset_Check
  rw [long_eq n d (by omega) h.wf.lt, a1, l1, namesE_of d [] (by simpa using h.wf.nd) h.wf.nm, linksE_of (nms d) d (fun x hx => ⟨h.wf.sn x hx, h.wf.cl x hx⟩)]
  simp only [bind_some', Bool.false_eq_true, if_false, ne_eq, not_true, jn_def]
  rw [tops_p n d _ d n 0 0 rfl (by omega) (by omega)]
  simp only [Nat.zero_add, o1, bind_some', h.top, not_true, if_false, h.all, Nat.lt_irrefl]
theorem rot (d : List TypeDecl) (q : Nat) : d.Perm (d.drop q ++ d.take q) := by
  have := List.perm_append_comm (l₁ := d.take q) (l₂ := d.drop q)
  rwa [List.take_append_drop] at this
theorem Turns_L0 (n : Nat) (d : List TypeDecl) (o : List (List UInt8)) (ho : Ok d o) (hn : 2000 ≤ n) (u : UInt8) (k : Option Bool) : ∀ (t : List TypeDecl) (m i : Nat), d.drop i = t → t.length < m → law03_PosetTurns_L0 n d u k m i = k
  | [], m + 1, i, h, _ => by rw [law03_PosetTurns_L0, if_neg (drop_nil' h)]
  | x :: t, m + 1, i, h, hm => by
    obtain ⟨h1, h2, h3⟩ := drop_cons h
    have ih := Turns_L0 n d o ho hn u k t m (i + 1) h3 (by simpa using hm)
    have hp := rot d (u.toNat % d.length)
    rw [law03_PosetTurns_L0, if_pos h1]
    generalize d.drop (u.toNat % d.length) ++ d.take (u.toNat % d.length) = e at hp ⊢
    have he := ho.perm hp
    obtain ⟨a, a1, a2⟩ := Above_eq n d ho.wf (by omega) x.Name
    obtain ⟨b, b1, b2⟩ := Above_eq n e he.wf (by omega) x.Name
    obtain ⟨c, c1, c2⟩ := Below_eq n d ho.wf (by omega) x.Name
    obtain ⟨f, f1, f2⟩ := Below_eq n e he.wf (by omega) x.Name
    obtain rfl : a = b := a2.unique (b2.congr fun v => by rw [perm_sup ho.wf.nd hp, perm_nms hp])
    obtain rfl : c = f := c2.unique (f2.congr fun v => by rw [dnR he.wf, dnR ho.wf, perm_sup ho.wf.nd hp, perm_nms hp])
    have hal := a2.le ho.wf (fun v => up_in ho.wf)
    have hcl := c2.le ho.wf (fun v => dn_in)
    simp only [jn_def, h2, bind_some', a1, b1, c1, f1, Same_eq n a a (by omega), Same_eq n c c (by omega), decide_true, Bool.not_true, Bool.false_eq_true, if_false]
    exact ih
theorem Turns_main (n : Nat) (hn : 2000 ≤ n) (hex : law03_exampleHolds n = some true) (d : List TypeDecl) (u : UInt8) : law03_PosetTurns n d u = some true := by
  unfold law03_PosetTurns
  obtain ⟨b, b1, b2⟩ := valid_eq n d hn
  rw [b1, hex]
  cases b with
  | false => simp
  | true =>
    obtain ⟨o, ho, p1, p2⟩ := b2 rfl
    have hpos := ho.pos
    have h0 := ho.wf.lt.1
    have hol := ho.all
    have he := ho.perm (rot d (u.toNat % d.length))
    obtain ⟨q1, q2⟩ := Check_ok n he (by omega)
    have hq : u.toNat % d.length < d.length := Nat.mod_lt _ hpos
    rw [bind_some', if_neg (by simp), chk_pos hpos, chk_pos (by omega), chk_pos (by rw [List.length_drop]; omega), chk_pos (by rw [List.length_drop, List.length_take]; omega), q1, bind_some', if_neg (by simp), Order_eq p1 p2, bind_some', Order_eq q2 q1, bind_some', Same_eq n _ _ (by show o.length < n; omega)]
    simp only [bind_some', decide_true, Bool.not_true, Bool.false_eq_true, if_false, jn_def]
    rw [Turns_L0 n d o ho hn u _ d n 0 rfl (by omega)]
theorem law03_PosetTurns_true (d : List TypeDecl) (u : UInt8) : law03_PosetTurns 100000 d u = some true := Turns_main 100000 (by omega) ex03 d u
end Go.Proofs.Ytoeolfnjblibpaa

/- Chapter 03: plain laws, Check and Order -/
import Derived.Test.YtoeolfnjblibpaaL4
namespace Go.Proofs.Ytoeolfnjblibpaa
open Go.Gl Go.Sort
set_option linter.unusedVariables false
set_option linter.unusedSimpArgs false
theorem supOf_nodup {d : List TypeDecl} (hd : Wf d) (s : List UInt8) : (supOf d s).Nodup := by
  by_cases h : s ∈ nms d
  · obtain ⟨x, hx, rfl⟩ := mem_nms.1 h
    rw [supOf_of hd.nd hx]; exact hd.sn x hx
  · rw [supOf_out h]; exact List.nodup_nil
theorem supOf_len {d : List TypeDecl} (hd : Wf d) (s : List UInt8) : (supOf d s).length ≤ 256 := by
  by_cases h : s ∈ nms d
  · obtain ⟨x, hx, rfl⟩ := mem_nms.1 h
    rw [supOf_of hd.nd hx]; exact (hd.lt.2 x hx).1
  · rw [supOf_out h]; simp
theorem supOf_cl {d : List TypeDecl} (hd : Wf d) : ∀ x ∈ nms d, ∀ s ∈ supOf d x, s ∈ nms d := by
  intro s h u hu
  obtain ⟨x, hx, rfl⟩ := mem_nms.1 h
  rw [supOf_of hd.nd hx] at hu
  exact hd.cl x hx u hu
theorem left_len (l out : List (List UInt8)) : left l out ≤ l.length := by unfold left; exact List.length_filter_le _ _
theorem nms_len (d : List TypeDecl) : (nms d).length = d.length := by simp [nms]
theorem ordered_L3 (n : Nat) (M : List (List UInt8 × List (List UInt8))) (out : List (List UInt8)) (k : List (List UInt8 × Int) → List (List UInt8) → List (List UInt8) → Option (List (List UInt8))) (r : List UInt8) (B : List (List UInt8)) (hB : (mget M r).getD [] = B) :
    ∀ (t : List (List UInt8)) (m i : Nat) (op : List (List UInt8 × Int)) (rd : List (List UInt8)), B.drop i = t → t.length < m → t.Nodup → (∀ s ∈ t, -1000000 ≤ (mget op s).getD 0 ∧ (mget op s).getD 0 ≤ 1000000) → rd.length + t.length ≤ 1000000 →
      ∃ op', poset_ordered_L3 n M out k r m op rd i = k op' (rd ++ t.filter fun s => decide ((mget op s).getD 0 = 1)) (out ++ [r]) ∧ ∀ s, (mget op' s).getD 0 = if s ∈ t then (mget op s).getD 0 - 1 else (mget op s).getD 0
  | [], m + 1, i, op, rd, h, _, _, _, _ => by
    rw [poset_ordered_L3, hB, if_neg (drop_nil' h)]
    exact ⟨op, by simp, fun s => by simp⟩
  | x :: t, m + 1, i, op, rd, h, hm, hn, hb, hr => by
    obtain ⟨h1, h2, h3⟩ := drop_cons h
    obtain ⟨n1, n2⟩ := List.nodup_cons.1 hn
    have hbx := hb x (by simp)
    rw [List.length_cons] at hr
    rw [poset_ordered_L3, hB, if_pos h1, h2]
    simp only [bind_some']
    rw [chk_pos (by omega)]
    have e0 : (mget (mset op x ((mget op x).getD 0 - 1)) x).getD 0 = (mget op x).getD 0 - 1 := by rw [mget_mset, if_pos rfl]; rfl
    have e1 : ∀ s ∈ t, (mget (mset op x ((mget op x).getD 0 - 1)) s).getD 0 = (mget op s).getD 0 := fun s hs => by
      have hne : s ≠ x := fun e => n1 (e ▸ hs)
      rw [mget_mset, if_neg hne]
    have ef : (t.filter fun s => decide ((mget (mset op x ((mget op x).getD 0 - 1)) s).getD 0 = 1)) = t.filter fun s => decide ((mget op s).getD 0 = 1) := List.filter_congr fun s hs => by rw [e1 s hs]
    rw [e0]
    have go : ∀ rd', rd'.length + t.length ≤ 1000000 → ∃ op', poset_ordered_L3 n M out k r m (mset op x ((mget op x).getD 0 - 1)) rd' (i + 1) = k op' (rd' ++ t.filter fun s => decide ((mget op s).getD 0 = 1)) (out ++ [r]) ∧ ∀ s, (mget op' s).getD 0 = if s ∈ x :: t then (mget op s).getD 0 - 1 else (mget op s).getD 0 := by
      intro rd' hrd
      obtain ⟨op', q1, q2⟩ := ordered_L3 n M out k r B hB t m (i + 1) (mset op x ((mget op x).getD 0 - 1)) rd' h3 (by simpa using hm) n2 (fun s hs => by rw [e1 s hs]; exact hb s (by simp [hs])) hrd
      refine ⟨op', by rw [q1, ef], fun s => ?_⟩
      rw [q2 s]
      by_cases hs : s ∈ t
      · simp only [hs, if_true, List.mem_cons, or_true, e1 s hs]
      · by_cases e : s = x
        · subst e; rw [if_neg hs, e0, if_pos (by simp)]
        · rw [if_neg hs, mget_mset, if_neg e, if_neg (by simp [e, hs])]
    by_cases hz : (mget op x).getD 0 - 1 = 0
    · rw [if_pos hz, List.length_singleton, chk_pos (by omega)]
      obtain ⟨op', q1, q2⟩ := go (rd ++ [x]) (by rw [List.length_append, List.length_singleton]; omega)
      refine ⟨op', ?_, q2⟩
      rw [q1, List.filter_cons_of_pos (by simp; omega), List.append_assoc]; rfl
    · rw [if_neg hz]
      obtain ⟨op', q1, q2⟩ := go rd (by omega)
      refine ⟨op', ?_, q2⟩
      rw [q1, List.filter_cons_of_neg (by simp; omega)]
theorem ordered_L2 (n : Nat) (d : List TypeDecl) (hd : Wf d) (hn : 3000 ≤ n) (M : List (List UInt8 × List (List UInt8))) (hM : ∀ s, (mget M s).getD [] = dn d s) :
    ∀ (m : Nat) (op : List (List UInt8 × Int)) (rd out : List (List UInt8)), (∀ s ∈ nms d, s ∉ out → (mget op s).getD 0 = ((left (supOf d s) out : Nat) : Int)) → rd.Nodup → (∀ s, s ∈ rd ↔ isNext (nms d) (supOf d) out s) → out.Nodup → (∀ x ∈ out, x ∈ nms d) → (∀ y ∈ out, ∀ s ∈ supOf d y, s ∈ out) → d.length + 1 ≤ m + out.length → ∃ o, poset_ordered_L2 n M m op rd out = some o ∧ Placed (nms d) (supOf d) out o
  | 0, op, rd, out, _, _, _, h1, h2, _, h3 => by
    have := nodup_lenK out (nms d) h1 h2
    rw [nms_len] at this
    omega
  | m + 1, op, rd, out, hop, hrn, hrd, h1, h2, hcl, h3 => by
    have hl := nodup_lenK out (nms d) h1 h2
    have h0 := hd.lt.1
    rw [nms_len] at hl
    have hrl := nodup_lenK rd (nms d) hrn (fun x hx => ((hrd x).1 hx).1)
    rw [nms_len] at hrl
    rw [poset_ordered_L2]
    by_cases hz : 0 < rd.length
    · rw [if_pos hz, jn_def]
      obtain ⟨r, r1, r2, r3⟩ := Min_eq n rd hz (by omega)
      have hle : leastOf (isNext (nms d) (supOf d) out) r := ⟨(hrd r).1 r2, fun y hy => r3 y ((hrd y).2 hy)⟩
      have hrout : r ∉ out := hle.1.2.1
      rw [r1, bind_some', Delete_eq n rd (fun p => poset_ordered_1 n p r) (fun p => decide (p = r)) (fun x _ => rfl) (by omega) (by omega), bind_some', List.length_singleton, chk_pos (by omega)]
      have hBN : ∀ s, s ∈ dn d r ↔ s ∈ nms d ∧ r ∈ supOf d s := fun s => by
        rw [dn_dnS hd.nd]; unfold dnS; rw [List.mem_filter]; simp
      have hBout : ∀ s ∈ dn d r, s ∉ out := fun s hs ho => hrout (hcl s ho r ((hBN s).1 hs).2)
      have hfl := List.length_filter_le (fun x => !decide (x = r)) rd
      have hdl := dn_len d r
      obtain ⟨op', q1, q2⟩ := ordered_L3 n M out (fun t_86 t_88 t_92 => poset_ordered_L2 n M m t_86 t_88 t_92) r (dn d r) (hM r) (dn d r) n 0 op (rd.filter fun x => !decide (x = r)) rfl (by omega) (dn_nodup hd.nd r) (fun s hs => by
        rw [hop s ((hBN s).1 hs).1 (hBout s hs)]
        have := left_len (supOf d s) out
        have := supOf_len hd s
        omega) (by omega)
      rw [q1]
      have hstep : ∀ s, left (supOf d s) out = left (supOf d s) (out ++ [r]) + if r ∈ supOf d s then 1 else 0 := fun s => left_step hrout (supOf_nodup hd s)
      have hflt : (dn d r).filter (fun s => decide ((mget op s).getD 0 = 1)) = (dn d r).filter (fun s => decide (left (supOf d s) (out ++ [r]) = 0)) := List.filter_congr fun s hs => by
        rw [hop s ((hBN s).1 hs).1 (hBout s hs), hstep s, if_pos ((hBN s).1 hs).2]
        congr 1
        apply propext
        omega
      rw [hflt]
      obtain ⟨o, o1, o2⟩ := ordered_L2 n d hd hn M hM m op' ((rd.filter fun x => !decide (x = r)) ++ (dn d r).filter fun s => decide (left (supOf d s) (out ++ [r]) = 0)) (out ++ [r]) (fun s hs hso => by
        have hso' : s ∉ out := fun q => hso (by simp [q])
        rw [q2 s, hop s hs hso', hstep s]
        by_cases q : r ∈ supOf d s
        · rw [if_pos ((hBN s).2 ⟨hs, q⟩), if_pos q]; omega
        · rw [if_neg (fun e => q ((hBN s).1 e).2), if_neg q]; omega) (by
          rw [List.nodup_append]
          refine ⟨List.Sublist.nodup List.filter_sublist hrn, List.Sublist.nodup List.filter_sublist (dn_nodup hd.nd r), fun a ha b hb => ?_⟩
          rintro rfl
          have ha' := (hrd a).1 (List.mem_filter.1 ha).1
          exact hrout (ha'.2.2 r ((hBN a).1 (List.mem_filter.1 hb).1).2)) (fun s => by
          rw [next_step hle.1 hcl s, List.mem_append, List.mem_filter, List.mem_filter, hrd s, dn_dnS hd.nd]
          simp) (by
          rw [List.nodup_append]
          exact ⟨h1, by simp, fun a ha b hb => by simp at hb; subst hb; exact fun e => hrout (e ▸ ha)⟩) (fun x hx => by
          rcases List.mem_append.1 hx with hx | hx
          · exact h2 x hx
          · simp at hx; subst hx; exact hle.1.1) (closed_step hle.1 hcl) (by rw [List.length_append, List.length_singleton]; omega)
      exact ⟨o, o1, .more hle o2⟩
    · rw [if_neg hz]
      refine ⟨out, rfl, .done fun x hx => ?_⟩
      have := List.length_pos_of_mem ((hrd x).2 hx)
      omega
theorem ordered_eq (n : Nat) (d : List TypeDecl) (hd : Wf d) (hn : 3000 ≤ n) : ∃ o, poset_ordered n d = some o ∧ r03_placed n d = some o ∧ Placed (nms d) (supOf d) [] o := by
  have h0 := hd.lt.1
  obtain ⟨o, o1, o2⟩ := placed_L0 n d hd hn n [] List.nodup_nil (by simp) (by simp; omega)
  unfold poset_ordered
  rw [jn_def]
  obtain ⟨op, M, q1, q2, q3⟩ := ordered_L0 n d hd hn (fun t_6 t_8 t_10 => poset_ordered_L2 n t_8 n t_6 t_10 []) d n 0 [] [] rfl (by omega) (by simp) (fun s => by simp [mget_nil, dn])
  have e0 : rdy (d.take 0) = [] := rfl
  rw [e0] at q1
  rw [q1]
  have hr : ∀ s, s ∈ rdy d ↔ isNext (nms d) (supOf d) [] s := fun s => by
    rw [nx_next hd]
    unfold rdy
    rw [mem_nms]
    constructor
    · rintro ⟨x, hx, e⟩
      obtain ⟨a, b⟩ := List.mem_filter.1 hx
      refine ⟨x, a, e, by simp, fun s hs => ?_⟩
      have := List.length_pos_of_mem hs
      simp at b
      rw [b] at this
      simp at this
    · rintro ⟨x, hx, e, _, h⟩
      refine ⟨x, List.mem_filter.2 ⟨hx, ?_⟩, e⟩
      have : x.Supers = [] := List.eq_nil_iff_forall_not_mem.2 (fun s hs => by simpa using h s hs)
      simp [this]
  obtain ⟨o', p1, p2⟩ := ordered_L2 n d hd hn M q3 n op (rdy d) [] (fun s hs _ => by rw [q2 s hs, left_nil]; rfl) (List.Sublist.nodup (List.Sublist.map _ List.filter_sublist) hd.nd) hr List.nodup_nil (by simp) (by simp) (by simp; omega)
  have e := p2.unique o2
  subst e
  exact ⟨o', p1, o1, o2⟩
/-- accepted declarations, and their order -/
structure Ok (d : List TypeDecl) (o : List (List UInt8)) : Prop where
  wf : Wf d
  top : topsN d = 1
  pl : Placed (nms d) (supOf d) [] o
  all : o.length = d.length
theorem Check_eq (n : Nat) (d : List TypeDecl) (hl : lightD d) (hn : 3000 ≤ n) : ∃ c, poset_Check n d = some c ∧ r03_Check n d = some c ∧ (c = 0 → ∃ o, Ok d o ∧ poset_ordered n d = some o ∧ r03_placed n d = some o) := by
  have h0 := hl.1
  unfold poset_Check r03_Check
  obtain ⟨a1, a2⟩ := names_eq n d (by omega) hl
  rw [long_eq n d (by omega) hl, sizes_eq n d (by omega) hl, a1, a2]
  simp only [bind_some', Bool.false_eq_true, if_false, ne_eq, not_true]
  by_cases e1 : namesE [] d = 0
  · obtain ⟨b1, b2⟩ := namesE_ok d [] e1 List.nodup_nil
    simp only [List.nil_append] at b1
    obtain ⟨l1, l2⟩ := links_eq n d (by omega) hl b1
    obtain ⟨c, c1, c2⟩ := linksE_tot (nms d) d
    rw [l1, l2, c1]
    simp only [e1, not_true, if_false, bind_some']
    by_cases e2 : c = 0
    · have hd : Wf d := ⟨hl, b1, b2, fun x hx => (c2 e2 x hx).1, fun x hx => (c2 e2 x hx).2⟩
      obtain ⟨o, o1, o2, o3⟩ := ordered_eq n d hd hn
      simp only [e2, not_true, if_false, jn_def]
      rw [tops_p n d _ d n 0 0 rfl (by omega) (by omega), tops_r n d _ d n 0 0 rfl (by omega) (by omega)]
      simp only [Nat.zero_add, o1, o2, bind_some']
      by_cases e3 : topsN d = 1
      · simp only [e3, not_true, if_false]
        by_cases e4 : o.length < d.length
        · simp only [e4, if_true]; exact ⟨6, rfl, rfl, fun h => by cases h⟩
        · simp only [e4, if_false]
          have := nodup_lenK o (nms d) (o3.nodup List.nodup_nil) (o3.sub (by simp))
          rw [nms_len] at this
          exact ⟨0, rfl, rfl, fun _ => ⟨o, ⟨hd, e3, o3, by omega⟩, rfl, rfl⟩⟩
      · simp only [e3, not_false_eq_true, if_true]; exact ⟨1, rfl, rfl, fun h => by cases h⟩
    · simp only [e2, not_false_eq_true, if_true]; exact ⟨c, rfl, rfl, fun h => absurd h e2⟩
  · simp only [e1, not_false_eq_true, if_true]; exact ⟨_, rfl, rfl, fun h => absurd h e1⟩
end Go.Proofs.Ytoeolfnjblibpaa

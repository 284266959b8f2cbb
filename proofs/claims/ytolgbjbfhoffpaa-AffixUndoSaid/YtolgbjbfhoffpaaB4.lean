/- Chapter 23: what Undo returns -/
import Derived.Test.YtolgbjbfhoffpaaB3
import Derived.Test.YtolgbjbfhoffpaaW4
namespace Go.Proofs.Ytolgbjbfhoffpaa
open Go.Gl
set_option linter.unusedVariables false
set_option linter.unusedSimpArgs false
/-! affix: what Undo returns, without the reference -/
theorem undoS_mem' (a : Affix) (w v : List UInt8) (hw : isWord w) : v ∈ undoS a w ↔ isB a w v := by
  by_cases hk : a.Kind = 0
  · unfold undoS isB applyS
    rw [if_pos hk, if_pos hk, List.mem_singleton]
    constructor
    · rintro rfl
      exact ⟨hw, rfl⟩
    · rintro ⟨_, h⟩
      injection h
  · exact undoS_mem a w v hk
theorem Undo_law_L0 (n : Nat) (a : Affix) (v w : List UInt8) (l : List (List UInt8)) (K : Bool → Option Bool) (hn : 1000 ≤ n) (ha : lightA a) (hB : ∀ x ∈ l, isB a w x) (hs : l.Pairwise (· < ·)) : ∀ (t : List (List UInt8)) (m i : Nat) (b : Bool), l.drop i = t → t.length < m → law23_AffixUndo_L0 n a v w l K m b i = K (b || decide (v ∈ t))
  | [], m + 1, i, b, h, _ => by
    rw [law23_AffixUndo_L0, if_neg (drop_nil' h)]
    simp
  | x :: t, m + 1, i, b, h, hm => by
    obtain ⟨h1, h2, h3⟩ := drop_cons h
    have ih := fun b => Undo_law_L0 n a v w l K hn ha hB hs t m (i + 1) b h3 (by simpa using hm)
    obtain ⟨hx1, hx2⟩ := hB x (List.mem_of_getElem? h2)
    have hxl := hx1.2.1
    rw [law23_AffixUndo_L0, if_pos h1, h2]
    simp only [bind_some', jn_def, affix_Apply_eq n a x hn (by omega) ha, hx2, enc, Bool.not_true, Bool.false_eq_true, if_false, ne_eq, not_true_eq_false, r01_Word_eq n x (by omega), hx1, decide_true]
    have hrest : (if b = true then law23_AffixUndo_L0 n a v w l K m true (i + 1) else law23_AffixUndo_L0 n a v w l K m (decide (x = v)) (i + 1)) = K (b || decide (v ∈ x :: t)) := by
      cases b with
      | true => simp [ih]
      | false =>
        simp only [ih, Bool.false_eq_true, if_false, Bool.false_or]
        congr 1
        by_cases hx : x = v
        · simp [hx]
        · have : ¬ v = x := fun e => hx e.symm
          simp [hx, this]
    by_cases hi : 0 < i
    · have e1 : ix l ((i : Int) - 1) = some l[i - 1] := by
        have : ((i : Int) - 1) = ((i - 1 : Nat) : Int) := by omega
        rw [this, ix_nat, List.getElem?_eq_getElem (by omega)]
      have e2 : l[i - 1] < x := by
        have hx : l[i] = x := by
          rw [List.getElem?_eq_getElem h1] at h2
          injection h2
        rw [← hx]
        exact List.pairwise_iff_getElem.1 hs _ _ (by omega) (by omega) (by omega)
      rw [if_pos hi, e1]
      simp only [bind_some', bytesLess_eq, e2, decide_true, Bool.not_true, Bool.false_eq_true, if_false]
      exact hrest
    · rw [if_neg hi]
      exact hrest
theorem law23_AffixUndo_true (a : Affix) (v w : List UInt8) : law23_AffixUndo 100000 a v w = some true := by
  unfold law23_AffixUndo
  simp only [jn_def, r23_Light_eq 100000 a (by omega), bind_some', ex23, r01_Word_eq 100000 v (by omega), r01_Word_eq 100000 w (by omega)]
  by_cases h : lightA a
  case neg => simp [h]
  obtain ⟨c, hc, _⟩ := r23_Check_tot 100000 a (by omega) h
  simp only [h, hc, bind_some', decide_true, Bool.not_true, Bool.false_eq_true, if_false, if_true]
  by_cases h0 : c = 0
  case neg => rw [if_pos h0]
  rw [if_neg (by simpa using h0)]
  by_cases hv : isWord v
  case neg => simp [hv]
  by_cases hw : isWord w
  case neg => simp [hv, hw]
  have hvl := hv.2.1
  have hwl := hw.2.1
  have hb := undoS_bound a w h
  simp only [hv, hw, decide_true, Bool.not_true, Bool.false_eq_true, if_false]
  rw [affix_Undo_eq 100000 a w (by omega) (by omega) h]
  simp only [bind_some']
  rw [Undo_law_L0 100000 a v w (undoS a w) _ (by omega) h (fun x hx => (undoS_mem' a w x hw).1 hx) (undoS_asc a w) (undoS a w) 100000 0 false rfl (by omega)]
  have hm : v ∈ undoS a w ↔ applyS a v = some w := (undoS_mem' a w v hw).trans ⟨fun h => h.2, fun h => ⟨hv, h⟩⟩
  simp only [affix_Apply_eq 100000 a v (by omega) (by omega) h, bind_some', hm, Bool.false_or]
  cases hA : applyS a v with
  | none => simp [enc]
  | some z =>
    simp [enc]
    exact decide_eq_decide.2 Iff.rfl
end Go.Proofs.Ytolgbjbfhoffpaa

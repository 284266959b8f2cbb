/- Pluggings -/
import Derived.Test.YtdicfdfncbmmpaaGreatB0
import Derived.Test.YtdicfdfncbmmpaaGreatB7
import Derived.Test.YtdicfdfncbmmpaaGreatB8
namespace Go.Proofs.YtdicfdfncbmmpaaGreat
open Go.Gl
set_option linter.unusedVariables false
set_option linter.unusedSimpArgs false
theorem valid42 (m : MRS) : ∃ b, law42_valid 100000 m = some b ∧ (b = true → Good m ∧ Small m ∧ m.Rels.length ≤ 5) := by
  unfold law42_valid
  obtain ⟨l, h1, h2⟩ := Light_tot 100000 m 5 (by decide) (by decide)
  rw [h1, bind_some']
  by_cases hl : l = true
  · obtain ⟨hs, hr, _⟩ := h2 hl
    obtain ⟨e, h3, h4⟩ := Check_tot 100000 m hs (by decide)
    rw [if_pos hl, h3, bind_some']
    exact ⟨_, rfl, fun h => ⟨h4 (of_decide_eq_true h), hs, by omega⟩⟩
  · rw [if_neg hl]
    exact ⟨false, rfl, by simp⟩
theorem First_eq (m : MRS) (g : Good m) : solve_First 100000 m = some (if 6 < (hols m).length then (([] : List Int), (7 : Int)) else match Rs m with | [] => (([] : List Int), (18 : Int)) | p :: _ => (p, (0 : Int))) := by
  unfold solve_First
  rw [search_eq m g 1, bind_some']
  by_cases h6 : 6 < (hols m).length
  · simp [h6]
  · simp only [h6, if_false]
    cases hR : Rs m with
    | nil => simp
    | cons p t =>
      by_cases ht : t = []
      · subst ht; simp
      · have : 0 < t.length := List.length_pos_iff.2 ht
        have h1 : (0 : Int) < 1 ∧ (1 : Int) < ((p :: t).length : Int) := ⟨by decide, by simp; omega⟩
        rw [if_pos h1]
        simp
theorem Count_eq (m : MRS) (g : Good m) : solve_Count 100000 m = some (if 6 < (hols m).length then (0, 7) else (((Rs m).length : Int), 0)) := by
  unfold solve_Count
  rw [search_eq m g 0, bind_some']
  by_cases h6 : 6 < (hols m).length
  · simp [h6]
  · simp [h6]
end Go.Proofs.YtdicfdfncbmmpaaGreat


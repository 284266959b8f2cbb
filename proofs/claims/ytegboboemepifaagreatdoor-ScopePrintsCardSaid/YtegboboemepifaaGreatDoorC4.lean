/- Lists held against each other; other constraints -/
import Derived.Test.YtegboboemepifaaGreatDoorB6
import Derived.Test.YtegboboemepifaaGreatDoorB7
import Derived.Test.YtegboboemepifaaGreatDoorC2
namespace Go.Proofs.YtegboboemepifaaGreatDoor
open Go.Gl
set_option linter.unusedVariables false
set_option linter.unusedSimpArgs false
theorem r41_Same_L0_eq (n : Nat) (a b : List Int) (hab : a.length = b.length) : ∀ (t : List Int) (m i : Nat), a.drop i = t → t.length < m → r41_Same_L0 n a b m i = some (decide (t = b.drop i))
  | [], m + 1, i, h, _ => by
    have := drop_nil' h
    rw [r41_Same_L0, if_neg this, List.drop_of_length_le (by omega)]
    simp
  | x :: t, m + 1, i, h, hm => by
    obtain ⟨h1, h2, h3⟩ := drop_cons h
    rcases hbd : b.drop i with _ | ⟨y, u⟩
    · exact absurd (drop_nil' hbd) (by omega)
    obtain ⟨k1, k2, k3⟩ := drop_cons hbd
    rw [r41_Same_L0, if_pos h1, h2, k2]
    simp only [bind_some']
    rw [r41_Same_L0_eq n a b hab t m (i + 1) h3 (by simpa using hm), k3]
    by_cases hx : x = y
    · simp [hx]
    · simp [hx]
theorem r41_Same_eq (n : Nat) (a b : List Int) (hn : a.length < n) : r41_Same n a b = some (decide (a = b)) := by
  unfold r41_Same
  by_cases h : a.length = b.length
  · rw [if_neg (by simp [h]), r41_Same_L0_eq n a b h a n 0 rfl (by omega)]
    rfl
  · have : a ≠ b := fun e => h (by rw [e])
    simp [h, this]
def withCons (m : MRS) (c : List Qeq) : MRS := MRS.mk m.Top m.Index m.Vars m.Rels c
theorem RB.cons {m : MRS} (c : List Qeq) {plug : List Int} {lab v : Int} (h : RB m plug lab v) : RB (withCons m c) plug lab v := by
  induction h with
  | here h => exact .here h
  | down h1 h2 h3 h4 _ ih => exact .down h1 h2 h3 h4 ih
theorem RB.cons' {m : MRS} (c : List Qeq) {plug : List Int} {lab v : Int} (h : RB (withCons m c) plug lab v) : RB m plug lab v := by
  induction h with
  | here h => exact .here h
  | down h1 h2 h3 h4 _ ih => exact .down h1 h2 h3 h4 ih
theorem ArgP.cons {m : MRS} (c : List Qeq) {plug : List Int} : ArgP (withCons m c) plug ↔ ArgP m plug := ⟨fun h => ⟨h.len, h.lab, h.nodup⟩, fun h => ⟨h.len, h.lab, h.nodup⟩⟩
theorem FormP.cons {m : MRS} (c : List Qeq) {plug : List Int} : FormP (withCons m c) plug ↔ FormP m plug := ⟨fun h => ⟨h.root, h.all, h.cnt⟩, fun h => ⟨h.root, h.all, h.cnt⟩⟩
theorem ScopeP.cons {m : MRS} {c : List Qeq} (hc : ∀ x ∈ c, x ∈ m.Cons) {plug : List Int} (h : ScopeP m plug) : ScopeP (withCons m c) plug := ⟨fun x hx => (h.con x (hc x hx)).cons c, h.bnd⟩
theorem ScopeP.cons' {m : MRS} {c : List Qeq} (hc : ∀ x ∈ m.Cons, x ∈ c) {plug : List Int} (h : ScopeP (withCons m c) plug) : ScopeP m plug := ⟨fun x hx => (h.con x (hc x hx)).cons' c, h.bnd⟩
theorem Small.cons {m : MRS} (g : Small m) {c : List Qeq} (hc : c.length ≤ 8) : Small (withCons m c) := ⟨g.nv, g.nr, hc, g.na⟩
end Go.Proofs.YtegboboemepifaaGreatDoor


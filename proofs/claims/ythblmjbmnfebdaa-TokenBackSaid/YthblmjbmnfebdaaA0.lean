/- strings.Join, by the shelf's contract -/
import Derived.Test.YthblmjbmnfebdaaGl14
import Derived.Test.YthblmjbmnfebdaaShelf
import Derived.Test.YthblmjbmnfebdaaProg
namespace Go.Proofs.Ythblmjbmnfebdaa
open Go.Gl Go.RowKit
set_option linter.unusedVariables false
set_option linter.unusedSimpArgs false
def strings_Join (n : Nat) (e_ : List (List UInt8)) (s_ : List UInt8) : Option (List UInt8) :=
  chk (e_.length ≤ 137438953472 ∧ (Lib.join e_ s_).length ≤ 140737488355328) (some (Lib.join e_ s_))
theorem c_strings_Join (n : Nat) (M : Bs) (w0 : World) (hM : ∀ b, M b → b < w0.heap.size) (e_ : List (List UInt8)) (A : Option Addr) (c : Nat) (h : SlR Rep.str M w0 A e_.length c e_) (s_ : List UInt8) (ls : s_.length ≤ 9223372036854775807) (r : List UInt8) (hg : strings_Join n e_ s_ = some r) :
    Calls Try.prog 27 [.slice A e_.length c, .string (bs s_)].toArray w0 (Ret noB w0 fun v w => v = .string (bs r) ∧ r.length ≤ 9223372036854775807) := by
  obtain ⟨⟨h1, h2⟩, hg⟩ := chk_some hg
  obtain rfl := Option.some.inj hg
  have e1 : (e_.map bs).map (fun b => b.data.toList) = e_ := by
    rw [List.map_map]
    conv => rhs; rw [← List.map_id e_]
    exact List.map_congr_left fun x _ => by simp [bs]
  have e2 : (bs s_).data.toList = s_ := by simp [bs]
  cases e_ with
  | nil =>
    refine (Try.strings_Join_none A c (bs s_) w0).mono ?_
    rintro e w' ⟨rfl, rfl⟩
    exact ⟨_, rfl, Keeps.refl _ _, rfl, by simp [Lib.join_nil]⟩
  | cons x xs =>
    obtain ⟨q, rfl⟩ := h.some_ (by simp)
    obtain ⟨cs, hr, hl, hc, _⟩ := h.cells
    have hcell : ∀ j y, (x :: xs)[j]? = some y → w0.cell? (q.add j) = some (.string (bs y)) := fun j y hy => by
      have h3 := hr.at_ j y hy
      have h4 : (cs.drop (j * 1)).take 1 = [.string (bs y)] := h3.1
      rw [Nat.mul_one] at h4
      exact hc j _ (take1 h4)
    have h0 := hcell 0 x rfl
    have hq : q = ⟨q.block, q.off, none⟩ := by
      have h0' : w0.cell? q = some (.string (bs x)) := h0
      unfold World.cell? at h0'
      obtain ⟨qb, qo, qs⟩ := q
      cases qs with
      | none => rfl
      | some z => split at h0' <;> simp at h0'
    have hb : q.block < w0.heap.size := cell_lt (p := q) h0
    have hX := Try.strings_Join q.block q.off c ((x :: xs).map bs) (bs s_) w0 (fun j y hy => by
      rw [List.getElem?_map] at hy
      cases hz : (x :: xs)[j]? with
      | none => rw [hz] at hy; cases hy
      | some z =>
        rw [hz] at hy
        have hy' : bs z = y := by simpa using hy
        have h5 := hcell j z hz
        rw [hq, add_lit] at h5
        rw [← hy']
        exact h5) hb (by rw [List.length_map]; omega) (by rw [List.length_map]; exact h.cap) (by rw [e1, e2]; exact h2)
    rw [e1, e2, List.length_map, ← hq] at hX
    refine hX.mono ?_
    rintro e w' ⟨rfl, hbl⟩
    exact ⟨_, rfl, Keeps.of_below hbl, rfl, by omega⟩
end Go.Proofs.Ythblmjbmnfebdaa

/- Own lemmas, twenty-third part: a table of the library's that the program's text lays. -/
import Derived.Test.YtegboboemepifaaGreatDoorGl22
import Derived.Lib.LaidTab
import Derived.Lib.ItoaNum
namespace Go.Gl
open Go.RowKit
set_option linter.unusedVariables false
def tabF (P : Program) : Fact := ⟨fun M w => Lib.TabIs P w "internal/strconv.uint64pow10" .u64 Lib.pow10Tab ∧ ∀ g, P.globalNamed "internal/strconv.uint64pow10" = some g → g < w.heap.size ∧ ¬ M g,
  fun {M w w'} hk h => ⟨by
    have h1 := h.1
    have h2 := h.2
    unfold Lib.TabIs World.var? at *
    cases hg : P.globalNamed "internal/strconv.uint64pow10" with
    | none => rw [hg] at h1; cases h1
    | some g =>
      rw [hg] at h1
      have hb := hk.block g (h2 g hg).1 (h2 g hg).2
      simp only [Option.bind_some] at h1 ⊢
      rw [hb]
      exact h1, fun g hg => ⟨Nat.lt_of_lt_of_le (h.2 g hg).1 hk.size, (h.2 g hg).2⟩⟩,
  fun {M M' w} hm h => ⟨h.1, fun g hg => ⟨(h.2 g hg).1, fun hb => (h.2 g hg).2 (hm g (h.2 g hg).1 hb)⟩⟩⟩
/-- decimal digits -/
def dec10 : Nat → Nat → List UInt8
  | 0, _ => []
  | k + 1, u => if u < 10 then [UInt8.ofNat (48 + u)] else dec10 k (u / 10) ++ [UInt8.ofNat (48 + u % 10)]
theorem dec10_eq : ∀ (k u : Nat), u < 10 ^ k → 0 < k → dec10 k u = Lib.decDigits u
  | 0, _, _, h => by omega
  | k + 1, u, hu, _ => by
    rw [dec10, Lib.decDigits]
    split
    · rfl
    · rename_i h
      have h1 : u / 10 < 10 ^ k := by
        rw [Nat.pow_succ] at hu
        omega
      have h2 : 0 < k := by
        rcases Nat.eq_zero_or_pos k with rfl | h2
        · simp at hu; omega
        · exact h2
      rw [dec10_eq k (u / 10) h1 h2]
theorem dec10_len : ∀ (k u : Nat), (dec10 k u).length ≤ k
  | 0, _ => by simp [dec10]
  | k + 1, u => by
    rw [dec10]
    split
    · simp
    · have := dec10_len k (u / 10); simp; omega
end Go.Gl


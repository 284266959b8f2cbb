/- Chapter 22: plain laws -/
import Derived.Test.YtbhjplflnkidgaaGreatNB
import Derived.Test.YtbhjplflnkidgaaGreatB0
import Derived.Test.YtbhjplflnkidgaaGreatGl4
import Derived.Test.YtbhjplflnkidgaaGreatGl8
namespace Go.Proofs.YtbhjplflnkidgaaGreat
open Go.Gl Go.Sort
set_option linter.unusedVariables false
set_option linter.unusedSimpArgs false
/-- the bounds of an argument's lists -/
theorem lens_of {M : Bs} {w : World} {A : Option Addr} {n c : Nat} {l : List Module} (h : SlR RModule M w A n c l) : ∀ q ∈ l, LenOk 9223372036854775807 q := fun q hq => by
  cases l with
  | nil => cases hq
  | cons x t =>
    obtain rfl := h.len
    obtain ⟨p, rfl⟩ := h.some_ (by simp)
    obtain ⟨cs, hr, _, _, _⟩ := h.cells
    obtain ⟨i, hi⟩ := List.getElem?_of_mem hq
    obtain ⟨_, _, _, _, _, _, _, _, _, _, _, _, _, _, _, _, _, _, _, _, h2, h3, h4, h5, h6, h7, h8, h9, h10⟩ := RModule.open (hr.at_ i q hi)
    exact ⟨SlR.mx h2, SlR.mx h3, SlR.mx h4, SlR.mx h5, SlR.mx h6, SlR.mx h7, SlR.mx h8, SlR.mx h9, SlR.mx h10⟩
theorem law22_ModuleOrders_true (l : List Module) (a : Nm) (h : ∀ q ∈ l, LenOk 9223372036854775807 q) : law22_ModuleOrders 18446744073709551616 l a = some true := Orders_main _ (by omega) ex22 l a 9223372036854775807 (by omega) h
end Go.Proofs.YtbhjplflnkidgaaGreat


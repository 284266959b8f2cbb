/- Permutations by reckoning -/
import Derived.Test.YtdicfdfncbmmpaaGreatB4
namespace Go.Proofs.YtdicfdfncbmmpaaGreat
open Go.Gl
set_option linter.unusedVariables false
set_option linter.unusedSimpArgs false
theorem nexts0 : (chainB 100000 (lls (upto 0 0) 0 []) && (lls (upto 0 0) 0 []).head? == some (upto 0 0)) = true := by kernel_rfl
theorem nexts1 : (chainB 100000 (lls (upto 0 1) 1 []) && (lls (upto 0 1) 1 []).head? == some (upto 0 1)) = true := by kernel_rfl
theorem nexts2 : (chainB 100000 (lls (upto 0 2) 2 []) && (lls (upto 0 2) 2 []).head? == some (upto 0 2)) = true := by kernel_rfl
theorem nexts3 : (chainB 100000 (lls (upto 0 3) 3 []) && (lls (upto 0 3) 3 []).head? == some (upto 0 3)) = true := by kernel_rfl
theorem nexts4 : (chainB 100000 (lls (upto 0 4) 4 []) && (lls (upto 0 4) 4 []).head? == some (upto 0 4)) = true := by kernel_rfl
theorem nexts5 : (chainB 100000 (lls (upto 0 5) 5 []) && (lls (upto 0 5) 5 []).head? == some (upto 0 5)) = true := by kernel_rfl
theorem nexts6 : (chainB 100000 (lls (upto 0 6) 6 []) && (lls (upto 0 6) 6 []).head? == some (upto 0 6)) = true := by kernel_rfl
theorem nexts (k : Nat) (hk : k ≤ 6) : (chainB 100000 (lls (upto 0 k) k []) && (lls (upto 0 k) k []).head? == some (upto 0 k)) = true := by
  rcases k with _ | _ | _ | _ | _ | _ | _ | k
  · exact nexts0
  · exact nexts1
  · exact nexts2
  · exact nexts3
  · exact nexts4
  · exact nexts5
  · exact nexts6
  · omega
theorem upto_map (l : List Int) : (upto 0 l.length).map (fun v => l.getD v.toNat 0) = l := by
  apply List.ext_getElem?
  intro i
  rw [List.getElem?_map]
  rcases Nat.lt_or_ge i l.length with h | h
  · rw [upto_get _ h, List.getElem?_eq_getElem h]
    simp [h]
  · rw [List.getElem?_eq_none (by rw [upto_len]; exact h), List.getElem?_eq_none h]; rfl
/-- the permutations of a list in ascending order are those that 'next' finds -/
theorem chain_sorted (l : List Int) (hs : l.Pairwise (· < ·)) (hk : l.length ≤ 6) : chain 100000 (lls l l.length []) ∧ (lls l l.length []).head? = some l := by
  have h0 := nexts l.length hk
  obtain ⟨h1, h2⟩ := Bool.and_eq_true_iff.1 h0
  have h2 : (lls (upto 0 l.length) l.length []).head? = some (upto 0 l.length) := by simpa using h2
  have hmono : ∀ x ∈ upto 0 l.length, ∀ y ∈ upto 0 l.length, (l.getD x.toNat 0 < l.getD y.toNat 0 ↔ x < y) := by
    intro x hx y hy
    have hx := mem_upto.1 hx
    have hy := mem_upto.1 hy
    obtain ⟨a, rfl⟩ : ∃ a : Nat, x = a := ⟨x.toNat, by omega⟩
    obtain ⟨b, rfl⟩ : ∃ b : Nat, y = b := ⟨y.toNat, by omega⟩
    have ha : a < l.length := by omega
    have hb : b < l.length := by omega
    have hp := List.pairwise_iff_getElem.1 hs
    simp only [Int.toNat_natCast, List.getD_eq_getElem?_getD, List.getElem?_eq_getElem ha, List.getElem?_eq_getElem hb, Option.getD_some]
    constructor
    · intro h
      rcases Nat.lt_trichotomy a b with h' | rfl | h'
      · omega
      · omega
      · have := hp b a hb ha h'; omega
    · intro h
      exact hp a b ha hb (by omega)
  have hinj : ∀ x ∈ upto 0 l.length, ∀ y ∈ upto 0 l.length, l.getD x.toNat 0 = l.getD y.toNat 0 → x = y := by
    intro x hx y hy e
    have := hmono x hx y hy
    have := hmono y hy x hx
    omega
  have hm := lls_map (fun v => l.getD v.toNat 0) (upto 0 l.length) hinj l.length [] (by simp)
  rw [upto_map, List.map_nil] at hm
  rw [hm]
  refine ⟨chain_map 100000 _ _ (fun p hp x hx y hy => ?_) (chainB_eq _ _ h1), ?_⟩
  · have hx' := (lls_mem _ _ _ _ hp x hx).resolve_left (by simp)
    have hy' := (lls_mem _ _ _ _ hp y hy).resolve_left (by simp)
    exact hmono x hx' y hy'
  · rw [List.head?_map, h2, Option.map_some, upto_map]
end Go.Proofs.YtdicfdfncbmmpaaGreat


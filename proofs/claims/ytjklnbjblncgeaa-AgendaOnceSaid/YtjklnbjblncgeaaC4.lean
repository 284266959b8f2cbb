/- Chapter 31: plain lemmas: what calls of Push and Pop make of an agenda; agendas in memory. -/
import Derived.Test.YtjklnbjblncgeaaC3
namespace Go.Proofs.Ytjklnbjblncgeaa
open Go.Gl Go.RowKit
set_option linter.unusedVariables false
set_option linter.unusedSimpArgs false

abbrev Ag := (Int × Int × Int) × List Queued
def RA : Rep Ag := Rep.prod (Rep.flat 3 (fun x : Int × Int × Int => [.int .i64 x.1, .int .u64 x.2.1, .int .i64 x.2.2]) (fun _ => True) (fun _ => rfl) (fun _ => rfl)) (Rep.list RQ)
def stepT (p : Int) (st : Int × Int × List Queued) (o : Oper) : Int × Int × List Queued :=
  if o.1 = true then (st.1, st.2.1 + 1, st.2.2 ++ [(o.2, st.2.1)])
  else if st.2.2.length = 0 then st else (popSeed p st.1, st.2.1, popRest st.2.2 (popIdx p st.1 st.2.2))
def playT (p : Int) (ops : List Oper) (s b : Int) (xs : List Queued) : Int × Int × List Queued := ops.foldl (stepT p) (s, b, xs)
theorem playT_succ {p s b : Int} {xs : List Queued} {ops : List Oper} {i : Nat} {x : Oper} {st : Int × Int × List Queued} (h : playT p (ops.take i) s b xs = st) (hx : ops[i]? = some x) : playT p (ops.take (i + 1)) s b xs = stepT p st x := by
  obtain ⟨hk, he⟩ := List.getElem?_eq_some_iff.1 hx
  rw [List.take_succ_eq_append_getElem hk, he]
  unfold playT at h ⊢
  rw [List.foldl_append, h]
  rfl
theorem playT_push {p s b s2 b2 : Int} {xs ys : List Queued} {ops : List Oper} {i : Nat} {x : Oper} (h : playT p (ops.take i) s b xs = (s2, b2, ys)) (hx : ops[i]? = some x) (hc : x.1 = true) :
    playT p (ops.take (i + 1)) s b xs = (s2, b2 + 1, ys ++ [((x.2.1, x.2.2.1, x.2.2.2.1, x.2.2.2.2), b2)]) := by
  rw [playT_succ h hx, stepT, if_pos hc]
theorem playT_nil {p s b s2 b2 : Int} {xs ys : List Queued} {ops : List Oper} {i : Nat} {x : Oper} (h : playT p (ops.take i) s b xs = (s2, b2, ys)) (hx : ops[i]? = some x) (hc : x.1 = false) (hl : ys.length = 0) :
    playT p (ops.take (i + 1)) s b xs = (s2, b2, ys) := by
  rw [playT_succ h hx, stepT, if_neg (by simp [hc]), if_pos hl]
theorem playT_pop {p s b s2 b2 : Int} {xs ys : List Queued} {ops : List Oper} {i : Nat} {x : Oper} (h : playT p (ops.take i) s b xs = (s2, b2, ys)) (hx : ops[i]? = some x) (hc : x.1 = false) (hl : ys.length ≠ 0) :
    playT p (ops.take (i + 1)) s b xs = (popSeed p s2, b2, popRest ys (popIdx p s2 ys)) := by
  rw [playT_succ h hx, stepT, if_neg (by simp [hc]), if_neg hl]
theorem playT_len (p : Int) : ∀ (ops : List Oper) (s b : Int) (xs : List Queued), (playT p ops s b xs).2.2.length ≤ xs.length + ops.length
  | [], s, b, xs => by simp [playT]
  | o :: r, s, b, xs => by
    have ih := playT_len p r (stepT p (s, b, xs) o).1 (stepT p (s, b, xs) o).2.1 (stepT p (s, b, xs) o).2.2
    have e : playT p (o :: r) s b xs = playT p r (stepT p (s, b, xs) o).1 (stepT p (s, b, xs) o).2.1 (stepT p (s, b, xs) o).2.2 := rfl
    have hl : (stepT p (s, b, xs) o).2.2.length ≤ xs.length + 1 := by
      unfold stepT
      split
      · simp
      · split
        · simp
        · simp [popRest]; omega
    rw [e]
    simp only [List.length_cons]
    omega
def fin (p : Int) (ops : List Oper) (s b : Int) (xs : List Queued) : Ag := ((p, (playT p ops s b xs).1, (playT p ops s b xs).2.1), (playT p ops s b xs).2.2)
theorem fin_of {p s b s2 b2 : Int} {xs ys : List Queued} {ops : List Oper} (h : playT p ops s b xs = (s2, b2, ys)) : s2 = (fin p ops s b xs).1.2.1 ∧ b2 = (fin p ops s b xs).1.2.2 ∧ ys = (fin p ops s b xs).2 := by
  simp [fin, h]
theorem fin_len (p : Int) (ops : List Oper) (s b : Int) (xs : List Queued) : (fin p ops s b xs).2.length ≤ xs.length + ops.length := playT_len p ops s b xs
theorem rep_get {α : Type} {j i : Nat} {x y : α} (h : (List.replicate j y)[i]? = some x) : x = y := by
  rw [List.getElem?_replicate] at h
  split at h
  · exact (Option.some.inj h).symm
  · cases h
theorem opens37 : Opens Try.prog 37 (Rep.list RO) := opens39.list (by decide) Try.underlying37 (by kernel_rfl)
theorem opens49 : Opens Try.prog 49 (Rep.prod (Rep.list RO) (Rep.list RO)) := opens37.array2 Try.underlying49 (by kernel_rfl)
end Go.Proofs.Ytjklnbjblncgeaa

/- Chapter 31: the data of agendas as they lie in memory; plain functions; no condition. -/
import Derived.Test.YtjklnbjblncgeaaGl6
import Derived.Test.YtjklnbjblncgeaaProg
namespace Go.Proofs.Ytjklnbjblncgeaa
open Go.Gl Go.RowKit
set_option linter.unusedVariables false
set_option linter.unusedSimpArgs false

abbrev Task := Int × Int × Int × Int
abbrev Queued := Task × Int
def encT (t : Task) : List Value := [.int .i64 t.1, .int .i64 t.2.1, .int .i64 t.2.2.1, .int .i64 t.2.2.2]
def encQ (q : Queued) : List Value := [.int .i64 q.1.1, .int .i64 q.1.2.1, .int .i64 q.1.2.2.1, .int .i64 q.1.2.2.2, .int .i64 q.2]
def RT : Rep Task := Rep.flat 4 encT (fun _ => True) (fun _ => rfl) (fun _ => rfl)
def RQ : Rep Queued := Rep.flat 5 encQ (fun _ => True) (fun _ => rfl) (fun _ => rfl)

theorem stood32 : Try.prog.stoodInHeld 32 = false := by kernel_rfl
theorem fields32 : Try.prog.underlying 32 = some (.struct (Try.prog.fieldsOf 32)) := by kernel_rfl
theorem fl32 : (Try.prog.fieldsOf 32).toList = [⟨ "Rule", 3, 0, false, "", "", 0⟩, ⟨ "Left", 3, 1, false, "", "", 8⟩, ⟨ "Right", 3, 2, false, "", "", 16⟩, ⟨ "Priority", 3, 3, false, "", "", 24⟩] := by kernel_rfl
theorem stood45 : Try.prog.stoodInHeld 45 = false := by kernel_rfl
theorem fields45 : Try.prog.underlying 45 = some (.struct (Try.prog.fieldsOf 45)) := by kernel_rfl
theorem fl45 : (Try.prog.fieldsOf 45).toList = [⟨ "Task", 32, 0, false, "", "", 0⟩, ⟨ "Birth", 3, 4, false, "", "", 32⟩] := by kernel_rfl
theorem eq32 (d : Nat) (a0 a1 a2 a3 b0 b1 b2 b3 : Int) (w : World) : (Op.equalIn (d + 2) 32 (.agg #[.int .i64 a0, .int .i64 a1, .int .i64 a2, .int .i64 a3]) (.agg #[.int .i64 b0, .int .i64 b1, .int .i64 b2, .int .i64 b3])).run Try.prog w = .ok (decide (((a0, a1, a2, a3) : Task) = (b0, b1, b2, b3))) w := by
  rw [run_equalIn_agg w (d + 1) 32 _ _ fields32 stood32, fl32]
  have hp := fun (cs : Array Value) (o : Nat) (v : Value) (hv : cs[o]? = some v) w => part1 (P := Try.prog) Try.underlying3 rfl (cs := cs) (o := o) (v := v) hv w
  have hi := fun (x y : Int) w => run_equalIn_int (P := Try.prog) w d 3 .i64 .i64 x y Try.underlying3
  by_cases h0 : a0 = b0 <;> by_cases h1 : a1 = b1 <;> by_cases h2 : a2 = b2 <;> by_cases h3 : a3 = b3 <;>
    simp [Op.eqFields, Sem.run_bind, hp, hi, h0, h1, h2, h3]
theorem eq45 (d : Nat) (a0 a1 a2 a3 a4 b0 b1 b2 b3 b4 : Int) (w : World) : (Op.equalIn (d + 3) 45 (.agg #[.int .i64 a0, .int .i64 a1, .int .i64 a2, .int .i64 a3, .int .i64 a4]) (.agg #[.int .i64 b0, .int .i64 b1, .int .i64 b2, .int .i64 b3, .int .i64 b4])).run Try.prog w = .ok (decide ((((a0, a1, a2, a3), a4) : Queued) = ((b0, b1, b2, b3), b4))) w := by
  rw [run_equalIn_agg w (d + 2) 45 _ _ fields45 stood45, fl45]
  have hp := fun (cs : Array Value) (o : Nat) (v : Value) (hv : cs[o]? = some v) w => part1 (P := Try.prog) Try.underlying3 rfl (cs := cs) (o := o) (v := v) hv w
  have hs := fun (cs : Array Value) (o : Nat) w => partS (P := Try.prog) (n := 4) fields32 rfl rfl (cs := cs) (o := o) w
  have hi := fun (x y : Int) w => run_equalIn_int (P := Try.prog) w (d + 1) 3 .i64 .i64 x y Try.underlying3
  have hq := eq32 d a0 a1 a2 a3 b0 b1 b2 b3
  by_cases h0 : ((a0, a1, a2, a3) : Task) = (b0, b1, b2, b3) <;> by_cases h1 : a4 = b4 <;>
    simp [Op.eqFields, Sem.run_bind, hp, hs, hi, hq, h0, h1]

/-! the plain functions -/
def adv (s : Int) : Int := IntKind.u64.wrap (IntKind.u64.wrap (s * 6364136223846793005) + 1442695040888963407)
def prioAt (xs : List Queued) (i : Nat) : Int := ((xs[i]?).map (·.1.2.2.2)).getD 0
/-- the first element with the least priority among the first n -/
def bestUp (xs : List Queued) : Nat → Nat
  | 0 => 0
  | n + 1 => if prioAt xs n < prioAt xs (bestUp xs n) then n else bestUp xs n
theorem bestUp_le (xs : List Queued) : ∀ n, bestUp xs n ≤ n
  | 0 => Nat.le_refl _
  | n + 1 => by
    have := bestUp_le xs n
    unfold bestUp
    split <;> omega
theorem bestUp_lt (xs : List Queued) (n : Nat) (h : 0 < n) : bestUp xs n < n := by
  induction n with
  | zero => omega
  | succ n ih =>
    unfold bestUp
    split
    · omega
    · rcases Nat.eq_zero_or_pos n with h0 | h0
      · subst h0; simp [bestUp]
      · have := ih h0; omega
theorem bestUp_one (xs : List Queued) : bestUp xs 1 = 0 := by simp [bestUp]
def randIdx (s : Int) (n : Nat) : Int := ((adv s).fdiv (2 ^ min (Int.toNat 33) (IntKind.u64).bits)).tmod n
theorem prioAt_of {xs : List Queued} {i : Nat} {x : Queued} (h : xs[i]? = some x) : prioAt xs i = x.1.2.2.2 := by simp [prioAt, h]
theorem adv_nonneg (s : Int) : 0 ≤ adv s := by unfold adv IntKind.wrap IntKind.bits IntKind.signed; simp; omega
theorem randIdx_bd (s : Int) (n : Nat) (h : 0 < n) : 0 ≤ randIdx s n ∧ randIdx s n < n := by
  unfold randIdx
  have h0 : 0 ≤ (adv s).fdiv (2 ^ min (Int.toNat 33) (IntKind.u64).bits) := Int.fdiv_nonneg (adv_nonneg s) (by decide)
  exact ⟨Int.tmod_nonneg _ h0, Int.tmod_lt_of_pos _ (by omega)⟩
/-- the index of the task that is chosen -/
def popIdx (p s : Int) (xs : List Queued) : Nat :=
  if p = 1 then xs.length - 1 else if p = 2 then bestUp xs xs.length else if p = 3 then (randIdx s xs.length).toNat else 0
theorem popIdx_lt (p s : Int) (xs : List Queued) (h : 0 < xs.length) : popIdx p s xs < xs.length := by
  unfold popIdx
  repeat' split
  · omega
  · exact bestUp_lt xs _ h
  · have := randIdx_bd s xs.length h; omega
  · exact h
def popRest (xs : List Queued) (i : Nat) : List Queued := xs.take i ++ xs.drop (i + 1)
def lens {α : Type} (xss : List (List α)) : Nat := (xss.map List.length).sum
theorem lens_take_succ {α : Type} {xss : List (List α)} {k : Nat} {x : List α} (h : xss[k]? = some x) : lens (xss.take (k + 1)) = lens (xss.take k) + x.length := by
  obtain ⟨hk, he⟩ := List.getElem?_eq_some_iff.1 h
  rw [List.take_succ_eq_append_getElem hk, he]
  simp [lens]
theorem lens_take_le {α : Type} (xss : List (List α)) (k : Nat) : lens (xss.take k) ≤ lens xss := by
  have : lens xss = lens (xss.take k) + lens (xss.drop k) := by
    unfold lens
    rw [← List.sum_append, ← List.map_append, List.take_append_drop]
  omega
theorem flatten_take_succ {α : Type} {xss : List (List α)} {k : Nat} {x : List α} (h : xss[k]? = some x) : (xss.take (k + 1)).flatten = (xss.take k).flatten ++ x := by
  obtain ⟨hk, he⟩ := List.getElem?_eq_some_iff.1 h
  rw [List.take_succ_eq_append_getElem hk, he]
  simp
theorem flatten_len {α : Type} (xss : List (List α)) : xss.flatten.length = lens xss := by simp [lens, List.length_flatten]
def popSeed (p s : Int) : Int := if p = 3 then adv s else s
end Go.Proofs.Ytjklnbjblncgeaa

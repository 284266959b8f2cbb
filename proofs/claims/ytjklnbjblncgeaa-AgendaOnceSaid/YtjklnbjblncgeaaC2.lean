/- Chapter 31: the contracts of New and Pop for any policy; the argument []Op; plain lemmas on the rest of an agenda. -/
import Derived.Test.YtjklnbjblncgeaaW6
import Derived.Test.YtjklnbjblncgeaaGl8
namespace Go.Proofs.Ytjklnbjblncgeaa
open Go.Gl Go.RowKit
set_option linter.unusedVariables false
set_option linter.unusedSimpArgs false

abbrev Oper := Bool × Task
def encO (o : Oper) : List Value := [.bool o.1, .int .i64 o.2.1, .int .i64 o.2.2.1, .int .i64 o.2.2.2.1, .int .i64 o.2.2.2.2]
def RO : Rep Oper := Rep.flat 5 encO (fun _ => True) (fun _ => rfl) (fun _ => rfl)
theorem opens32 : Opens Try.prog 32 RT := by
  have hi : Opens Try.prog 3 (Rep.int .i64) := Opens.int Try.underlying3 (by kernel_rfl)
  refine Opens.change (R := Rep.prod (Rep.int .i64) (Rep.prod (Rep.int .i64) (Rep.prod (Rep.int .i64) (Rep.int .i64)))) (Opens.struct fields32 (by kernel_rfl) ?_) rfl ?_
  · rw [fl32]
    exact OpensFs.cons rfl hi (by decide) (OpensFs.cons rfl hi (by decide) (OpensFs.cons rfl hi (by decide) (OpensFs.one rfl hi)))
  · rintro w cs ⟨a, b, c, d⟩ ⟨_, _, rfl, ⟨rfl, _⟩, _, _, rfl, ⟨rfl, _⟩, _, _, rfl, ⟨rfl, _⟩, ⟨rfl, _⟩⟩
    exact ⟨(a, b, c, d), rfl, trivial⟩
theorem fields39 : Try.prog.underlying 39 = some (.struct (Try.prog.fieldsOf 39)) := by kernel_rfl
theorem fl39 : (Try.prog.fieldsOf 39).toList = [⟨ "Push", 4, 0, false, "", "", 0⟩, ⟨ "T", 32, 1, false, "", "", 8⟩] := by kernel_rfl
theorem opens39 : Opens Try.prog 39 RO := by
  have hb : Opens Try.prog 4 Rep.bool := Opens.bool Try.underlying4 (by kernel_rfl)
  refine Opens.change (R := Rep.prod Rep.bool RT) (Opens.struct fields39 (by kernel_rfl) ?_) rfl ?_
  · rw [fl39]
    exact OpensFs.cons rfl hb (by decide) (OpensFs.one rfl opens32)
  · rintro w cs ⟨a, b⟩ ⟨_, _, rfl, rfl, ⟨rfl, _⟩⟩
    exact ⟨(a, b), rfl, trivial⟩

theorem popRest_len (xs : List Queued) (i : Nat) (h : i < xs.length) : (popRest xs i).length = xs.length - 1 := by
  simp [popRest]; omega

section
variable (M : Bs) (w0 : World) (hM : ∀ b, M b → b < w0.heap.size)
include hM
theorem new_all (p s : Int) (hp : 0 ≤ p ∧ p ≤ 3) : Calls Try.prog 9 [.int .i64 p, .int .u64 s].toArray w0 (Ret noB w0 fun v w => v = .tuple #[.agg #[.int .i64 p, .int .u64 s, .int .i64 0, .slice none 0 0], .int .i64 0]) := by
  rcases (by omega : p = 0 ∨ p = 1 ∨ p = 2 ∨ p = 3) with rfl | rfl | rfl | rfl
  · exact new_spec0 M w0 hM s
  · exact new_spec1 M w0 hM s
  · exact new_spec2 M w0 hM s
  · exact new_spec3 M w0 hM s
theorem rnew_all (p s : Int) (hp : 0 ≤ p ∧ p ≤ 3) : Calls Try.prog 10 [.int .i64 p, .int .u64 s].toArray w0 (Ret noB w0 fun v w => v = .tuple #[.agg #[.int .i64 p, .int .u64 s, .int .i64 0, .slice none 0 0], .int .i64 0]) := by
  rcases (by omega : p = 0 ∨ p = 1 ∨ p = 2 ∨ p = 3) with rfl | rfl | rfl | rfl
  · exact rnew_spec0 M w0 hM s
  · exact rnew_spec1 M w0 hM s
  · exact rnew_spec2 M w0 hM s
  · exact rnew_spec3 M w0 hM s
theorem pop_nil (p s b : Int) (A : Option Addr) (c : Nat) (hp : 0 ≤ p ∧ p ≤ 3) : Calls Try.prog 13 [.agg #[.int .i64 p, .int .u64 s, .int .i64 b, .slice A 0 c]].toArray w0 (Ret noB w0 fun v w => v = .tuple #[.agg #[.int .i64 p, .int .u64 s, .int .i64 b, .slice A 0 c], .agg #[.int .i64 0, .int .i64 0, .int .i64 0, .int .i64 0], .bool false]) := by
  rcases (by omega : p = 0 ∨ p = 1 ∨ p = 2 ∨ p = 3) with rfl | rfl | rfl | rfl
  · exact pop_nil0 M w0 hM s b A c
  · exact pop_nil1 M w0 hM s b A c
  · exact pop_nil2 M w0 hM s b A c
  · exact pop_nil3 M w0 hM s b A c
theorem rpop_nil (p s b : Int) (A : Option Addr) (c : Nat) (hp : 0 ≤ p ∧ p ≤ 3) : Calls Try.prog 17 [.agg #[.int .i64 p, .int .u64 s, .int .i64 b, .slice A 0 c]].toArray w0 (Ret noB w0 fun v w => v = .tuple #[.agg #[.int .i64 p, .int .u64 s, .int .i64 b, .slice A 0 c], .agg #[.int .i64 0, .int .i64 0, .int .i64 0, .int .i64 0], .bool false]) := by
  rcases (by omega : p = 0 ∨ p = 1 ∨ p = 2 ∨ p = 3) with rfl | rfl | rfl | rfl
  · exact rpop_nil0 M w0 hM s b A c
  · exact rpop_nil1 M w0 hM s b A c
  · exact rpop_nil2 M w0 hM s b A c
  · exact rpop_nil3 M w0 hM s b A c
theorem pop_all (p s b : Int) (A : Option Addr) (n c : Nat) (xs : List Queued) (hp : 0 ≤ p ∧ p ≤ 3) (hsl : SlR RQ M w0 A n c xs) (hn : 0 < n ∧ n ≤ 1000) :
    Calls Try.prog 13 [.agg #[.int .i64 p, .int .u64 s, .int .i64 b, .slice A n c]].toArray w0 (Ret noB w0 fun v w => ∃ A' c' x, xs[popIdx p s xs]? = some x ∧ v = .tuple #[.agg #[.int .i64 p, .int .u64 (popSeed p s), .int .i64 b, .slice A' (n - 1) c'], .agg #[.int .i64 x.1.1, .int .i64 x.1.2.1, .int .i64 x.1.2.2.1, .int .i64 x.1.2.2.2], .bool true] ∧ SlR RQ M w A' (n - 1) c' (popRest xs (popIdx p s xs))) := by
  have hl := hsl.len
  subst hl
  have hi := popIdx_lt p s xs hn.1
  have hpl := popRest_len xs _ hi
  rcases (by omega : p = 0 ∨ p = 1 ∨ p = 2 ∨ p = 3) with rfl | rfl | rfl | rfl
  · refine (pop_spec0 M w0 hM s b A _ c xs hsl hn).mono ?_
    rintro e w ⟨v, rfl, hk, A', n', c', x, hx, rfl, h⟩
    obtain rfl : _ = n' := hpl.symm.trans h.len
    exact ⟨_, rfl, hk, A', c', x, hx, rfl, h⟩
  · refine (pop_spec1 M w0 hM s b A _ c xs hsl hn).mono ?_
    rintro e w ⟨v, rfl, hk, A', n', c', x, hx, rfl, h⟩
    obtain rfl : _ = n' := hpl.symm.trans h.len
    exact ⟨_, rfl, hk, A', c', x, hx, rfl, h⟩
  · refine (pop_spec2 M w0 hM s b A _ c xs hsl hn).mono ?_
    rintro e w ⟨v, rfl, hk, A', n', c', x, hx, rfl, h⟩
    obtain rfl : _ = n' := hpl.symm.trans h.len
    exact ⟨_, rfl, hk, A', c', x, hx, rfl, h⟩
  · refine (pop_spec3 M w0 hM s b A _ c xs hsl hn).mono ?_
    rintro e w ⟨v, rfl, hk, A', n', c', x, hx, rfl, h⟩
    obtain rfl : _ = n' := hpl.symm.trans h.len
    exact ⟨_, rfl, hk, A', c', x, hx, rfl, h⟩
theorem rpop_all (p s b : Int) (A : Option Addr) (n c : Nat) (xs : List Queued) (hp : 0 ≤ p ∧ p ≤ 3) (hsl : SlR RQ M w0 A n c xs) (hn : 0 < n ∧ n ≤ 1000) :
    Calls Try.prog 17 [.agg #[.int .i64 p, .int .u64 s, .int .i64 b, .slice A n c]].toArray w0 (Ret noB w0 fun v w => ∃ A' c' x, xs[popIdx p s xs]? = some x ∧ v = .tuple #[.agg #[.int .i64 p, .int .u64 (popSeed p s), .int .i64 b, .slice A' (n - 1) c'], .agg #[.int .i64 x.1.1, .int .i64 x.1.2.1, .int .i64 x.1.2.2.1, .int .i64 x.1.2.2.2], .bool true] ∧ SlR RQ M w A' (n - 1) c' (popRest xs (popIdx p s xs))) := by
  have hl := hsl.len
  subst hl
  have hi := popIdx_lt p s xs hn.1
  have hpl := popRest_len xs _ hi
  rcases (by omega : p = 0 ∨ p = 1 ∨ p = 2 ∨ p = 3) with rfl | rfl | rfl | rfl
  · refine (rpop_spec0 M w0 hM s b A _ c xs hsl hn).mono ?_
    rintro e w ⟨v, rfl, hk, A', n', c', x, hx, rfl, h⟩
    obtain rfl : _ = n' := hpl.symm.trans h.len
    exact ⟨_, rfl, hk, A', c', x, hx, rfl, h⟩
  · refine (rpop_spec1 M w0 hM s b A _ c xs hsl hn).mono ?_
    rintro e w ⟨v, rfl, hk, A', n', c', x, hx, rfl, h⟩
    obtain rfl : _ = n' := hpl.symm.trans h.len
    exact ⟨_, rfl, hk, A', c', x, hx, rfl, h⟩
  · refine (rpop_spec2 M w0 hM s b A _ c xs hsl hn).mono ?_
    rintro e w ⟨v, rfl, hk, A', n', c', x, hx, rfl, h⟩
    obtain rfl : _ = n' := hpl.symm.trans h.len
    exact ⟨_, rfl, hk, A', c', x, hx, rfl, h⟩
  · refine (rpop_spec3 M w0 hM s b A _ c xs hsl hn).mono ?_
    rintro e w ⟨v, rfl, hk, A', n', c', x, hx, rfl, h⟩
    obtain rfl : _ = n' := hpl.symm.trans h.len
    exact ⟨_, rfl, hk, A', c', x, hx, rfl, h⟩
end
end Go.Proofs.Ytjklnbjblncgeaa

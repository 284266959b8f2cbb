/- Own lemmas, thirty-third part: more steps under short names. -/
import Derived.Test.YtoeolfnjblibpaaGl32
namespace Go.Gl
open Go.RowKit
set_option linter.unusedVariables false
abbrev sF {α : Type} (R : Rep α) (A : Option Addr) (c : Nat) (xs : List α) : Fact := slF R A xs.length c xs
abbrev cx (f : Func) (M : Bs) (w0 : World) : Ctx := ⟨f.ntmps, M, noB, w0⟩
theorem rmA {α : Type} {X Y : List α} {b : Nat} (h : X.length + Y.length ≤ 137438953472) (hb : Nat.ble b 1024 = true) : (X ++ Y).length * b ≤ 140737488355328 := by
  rw [List.length_append]
  exact Nat.le_trans (Nat.mul_le_mul h (Nat.le_of_ble_eq_true hb)) (by decide)
theorem rmB {α : Type} {X Y : List α} (h : X.length + Y.length ≤ 137438953472) : (X ++ Y).length ≤ 9223372036854775807 := by
  rw [List.length_append]; omega
theorem rmC {n b : Nat} (h : n ≤ 137438953472) (hb : Nat.ble b 1024 = true) : n * b ≤ 140737488355328 :=
  Nat.le_trans (Nat.mul_le_mul h (Nat.le_of_ble_eq_true hb)) (by decide)
theorem rmD {n : Nat} (h : n ≤ 137438953472) : n ≤ 9223372036854775807 := by omega
theorem len2 {X Y : List UInt8} (h : X.length + Y.length ≤ 9223372036854775807) : (X ++ Y).length ≤ 9223372036854775807 := by
  rw [List.length_append]; exact h
section
variable {Γ : Ctx} {l : Al Value} {L L0 : Al Ob} {D D0 : Al Fact} {a : Act} {w wr : World} {P : Program} {ops : Array Oper} {Q : Exit → Act → World → Prop} {rest : List Oper} {o oj : Oper} {K : Act → World → Prop} {v u : Value} {d dj j : Nat} {want : Bool}
theorem lc {f : FuncId} {fn : Func} {cd : Code} {args : List Operand} {ats : Array TypeId} {vs : List Value} {post : Value → World → Prop} {fo : Operand} {ty : TypeId} {pos : String} {af : Array Edge} {g : Option (Nat × Bool)} (hS : St Γ l L D a w)
    (e : (g, ev l fo, fn.body, evl l args, Nat.blt d Γ.N) = (none, some (.func (.func f) #[] [].toArray), some cd, some vs, true)) (hf : P.funcs[f]? = some fn) (hnm : (fn.name == "runtime.NumGoroutine") = false)
    (hc : Calls P f vs.toArray w (Ret noB w post)) (h : ∀ v a' w', Keeps noB w w' → post v w' → St Γ ((d, v) :: l) L D a' w' → wpList P ops Q rest a' w') : wpList P ops Q (⟨some d, .call ⟨.value fo, args.toArray, ats⟩, ty, pos, af, g⟩ :: rest) a w := by
  injection e with e1 e; injection e with e2 e; injection e with e3 e; injection e with e4 e5
  exact l_seq e1 (l_call (cap := []) hS e2 hf e3 hnm e4 e5 (by rw [List.append_nil]; exact hc) h)
end
section
variable {P : Program} {md : Region.Mode} {ops : Array Oper} {F : Act → World → Prop} {need : Nat → Nat → Bool} {fuel : Nat} {listed : Array Bool} {Γ : Ctx} {l : Al Value} {L L0 : Al Ob} {D D0 : Al Fact} {a : Act} {wr : World} {o : Oper} {v : Value} {d : Nat}
theorem nq (i g : Nat) (hS : St Γ l L D a wr) (hR : Wd Γ L0 D0 wr) (hi : ops[i]? = some o) (e : (Region.noSelect ops && ((Region.ready md ops listed).contains i && freeN md ops need listed i g)) = true) (ho : o.dst = some d) (hg : Runs ops l o true) (hd : Nat.blt d Γ.N = true) (hy : Yl P L0 (one L0 g) o a wr v)
    (h : ∀ a', St Γ ((d, v) :: l) L D a' wr → wpAnyN P md ops F (fun g => Ext L0 (one L0 g) wr) need fuel (listed.setIfInBounds i true) a' wr) : wpAnyN P md ops F (fun g => Ext L0 (one L0 g) wr) need (fuel + 1) listed a wr := by
  rw [Bool.and_eq_true, Bool.and_eq_true] at e
  exact n_q i g hS hR hi e.1 e.2.1 e.2.2 ho hg hd hy h
end
end Go.Gl

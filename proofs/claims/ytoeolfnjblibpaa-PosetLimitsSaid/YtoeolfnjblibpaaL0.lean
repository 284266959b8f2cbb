/- Chapter 03: the plain program of many. -/
import Derived.Test.YtoeolfnjblibpaaD1
namespace Go.Proofs.Ytoeolfnjblibpaa
open Go.Gl
def law03_many_L0 (n : Nat) (n_ : Int) : Nat → (List TypeDecl) → Nat → Option (List TypeDecl)
  | 0, _, _ => none
  | m1 + 1, d_8, i_12 =>
  if ((i_12 : Nat) : Int) < n_ then
   chk (i_12 ≤ 9223372036854775807) (
   chk (97 + i_12 / 26 ≤ 9223372036854775807) (
   chk (97 + i_12 % 26 ≤ 9223372036854775807) (
   chk (([97]).length + ([toU8 ((97 + i_12 / 26 : Nat) : Int), toU8 ((97 + i_12 % 26 : Nat) : Int)]).length ≤ 9223372036854775807) (
   (law03_decl n ([97] ++ [toU8 ((97 + i_12 / 26 : Nat) : Int), toU8 ((97 + i_12 % 26 : Nat) : Int)]) [[116]]).bind fun r20 =>
   chk ((d_8).length + ([r20]).length ≤ 137438953472) (
   chk (i_12 + 1 ≤ 9223372036854775807) (
   law03_many_L0 n n_ m1 (d_8 ++ [r20]) (i_12 + 1)))))))
  else
   some d_8
/-- grammarlab/grammarlablaw03.many -/
def law03_many (n : Nat) (n_ : Int) : Option (List TypeDecl) :=
 (law03_decl n [116] []).bind fun r1 =>
 law03_many_L0 n n_ n [r1] 1
end Go.Proofs.Ytoeolfnjblibpaa

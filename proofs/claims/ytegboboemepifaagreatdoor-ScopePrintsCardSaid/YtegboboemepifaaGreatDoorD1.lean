/- Chapter 41: types, plain programs -/
import Derived.Test.YtegboboemepifaaGreatDoorA0
import Derived.Test.YtegboboemepifaaGreatDoorGl23
import Derived.Test.YtegboboemepifaaGreatDoorGl15
import Derived.Test.YtegboboemepifaaGreatDoorGl16
import Derived.Test.YtegboboemepifaaGreatDoorProg
namespace Go.Proofs.YtegboboemepifaaGreatDoor
open Go.Gl Go.RowKit Tryz
set_option linter.unusedVariables false
set_option linter.unusedSimpArgs false
set_option maxRecDepth 4000

structure Arg where
  mk ::
  Role : (List UInt8)
  Var : Int
  deriving DecidableEq
def RArg : Rep Arg := Rep.via (Rep.prod Rep.str (Rep.num .i64)) (fun x => (x.Role, x.Var))
theorem RArg.open {M : Bs} {w : World} {cs : List Value} {x : Arg} (h : RArg.rd M w cs x) : cs = [.string (bs (x.Role)), .int .i64 (x.Var)] ∧ ((x.Role).length ≤ 9223372036854775807) := by
  obtain ⟨_, _, rfl, h0, r0⟩ := h
  obtain ⟨rfl, p0⟩ := h0
  obtain rfl := r0
  exact ⟨rfl, p0⟩
theorem RArg.mk' {M : Bs} {w : World} {x : Arg}  (p0 : (x.Role).length ≤ 9223372036854775807) : RArg.rd M w [.string (bs (x.Role)), .int .i64 (x.Var)] x := ⟨_, _, rfl, ⟨rfl, p0⟩, rfl⟩
structure EP where
  mk ::
  Pred : (List UInt8)
  Label : Int
  Args : (List Arg)
  deriving DecidableEq
def REP : Rep EP := Rep.via (Rep.prod Rep.str (Rep.prod (Rep.num .i64) (Rep.list RArg))) (fun x => (x.Pred, (x.Label, x.Args)))
theorem REP.open {M : Bs} {w : World} {cs : List Value} {x : EP} (h : REP.rd M w cs x) : ∃ (Aq3 : Option Addr), ∃ (cq3 : Nat), cs = [.string (bs (x.Pred)), .int .i64 (x.Label), .slice (Aq3) ((x.Args).length) (cq3)] ∧ ((x.Pred).length ≤ 9223372036854775807) ∧ (SlR RArg M w Aq3 (x.Args).length cq3 (x.Args)) := by
  obtain ⟨_, _, rfl, h0, r0⟩ := h
  obtain ⟨rfl, p0⟩ := h0
  obtain ⟨_, _, rfl, h1, r1⟩ := r0
  obtain rfl := h1
  obtain ⟨A1, n1, c1, rfl, p1⟩ := r1
  obtain rfl := p1.len
  exact ⟨A1, c1, rfl, p0, p1⟩
theorem REP.mk' {M : Bs} {w : World} {x : EP} {Aq3 : Option Addr} {cq3 : Nat} (p0 : (x.Pred).length ≤ 9223372036854775807) (p1 : SlR RArg M w Aq3 (x.Args).length cq3 (x.Args)) : REP.rd M w [.string (bs (x.Pred)), .int .i64 (x.Label), .slice (Aq3) ((x.Args).length) (cq3)] x := ⟨_, _, rfl, ⟨rfl, p0⟩, ⟨_, _, rfl, rfl, ⟨_, _, _, rfl, p1⟩⟩⟩
structure Qeq where
  mk ::
  High : Int
  Low : Int
  deriving DecidableEq
def RQeq : Rep Qeq := Rep.via (Rep.prod (Rep.num .i64) (Rep.num .i64)) (fun x => (x.High, x.Low))
theorem RQeq.open {M : Bs} {w : World} {cs : List Value} {x : Qeq} (h : RQeq.rd M w cs x) : cs = [.int .i64 (x.High), .int .i64 (x.Low)] := by
  obtain ⟨_, _, rfl, h0, r0⟩ := h
  obtain rfl := h0
  obtain rfl := r0
  rfl
theorem RQeq.mk' {M : Bs} {w : World} {x : Qeq}   : RQeq.rd M w [.int .i64 (x.High), .int .i64 (x.Low)] x := ⟨_, _, rfl, rfl, rfl⟩
structure MRS where
  mk ::
  Top : Int
  Index : Int
  Vars : (List (List UInt8))
  Rels : (List EP)
  Cons : (List Qeq)
  deriving DecidableEq
def RMRS : Rep MRS := Rep.via (Rep.prod (Rep.num .i64) (Rep.prod (Rep.num .i64) (Rep.prod (Rep.list Rep.str) (Rep.prod (Rep.list REP) (Rep.list RQeq))))) (fun x => (x.Top, (x.Index, (x.Vars, (x.Rels, x.Cons)))))
theorem RMRS.open {M : Bs} {w : World} {cs : List Value} {x : MRS} (h : RMRS.rd M w cs x) : ∃ (Aq3 : Option Addr), ∃ (cq3 : Nat), ∃ (Aq4 : Option Addr), ∃ (cq4 : Nat), ∃ (Aq5 : Option Addr), ∃ (cq5 : Nat), cs = [.int .i64 (x.Top), .int .i64 (x.Index), .slice (Aq3) ((x.Vars).length) (cq3), .slice (Aq4) ((x.Rels).length) (cq4), .slice (Aq5) ((x.Cons).length) (cq5)] ∧ (SlR Rep.str M w Aq3 (x.Vars).length cq3 (x.Vars)) ∧ (SlR REP M w Aq4 (x.Rels).length cq4 (x.Rels)) ∧ (SlR RQeq M w Aq5 (x.Cons).length cq5 (x.Cons)) := by
  obtain ⟨_, _, rfl, h0, r0⟩ := h
  obtain rfl := h0
  obtain ⟨_, _, rfl, h1, r1⟩ := r0
  obtain rfl := h1
  obtain ⟨_, _, rfl, h2, r2⟩ := r1
  obtain ⟨A0, n0, c0, rfl, p0⟩ := h2
  obtain rfl := p0.len
  obtain ⟨_, _, rfl, h3, r3⟩ := r2
  obtain ⟨A1, n1, c1, rfl, p1⟩ := h3
  obtain rfl := p1.len
  obtain ⟨A2, n2, c2, rfl, p2⟩ := r3
  obtain rfl := p2.len
  exact ⟨A0, c0, A1, c1, A2, c2, rfl, p0, p1, p2⟩
theorem RMRS.mk' {M : Bs} {w : World} {x : MRS} {Aq3 : Option Addr} {cq3 : Nat} {Aq4 : Option Addr} {cq4 : Nat} {Aq5 : Option Addr} {cq5 : Nat} (p0 : SlR Rep.str M w Aq3 (x.Vars).length cq3 (x.Vars)) (p1 : SlR REP M w Aq4 (x.Rels).length cq4 (x.Rels)) (p2 : SlR RQeq M w Aq5 (x.Cons).length cq5 (x.Cons)) : RMRS.rd M w [.int .i64 (x.Top), .int .i64 (x.Index), .slice (Aq3) ((x.Vars).length) (cq3), .slice (Aq4) ((x.Rels).length) (cq4), .slice (Aq5) ((x.Cons).length) (cq5)] x := ⟨_, _, rfl, rfl, ⟨_, _, rfl, rfl, ⟨_, _, rfl, ⟨_, _, _, rfl, p0⟩, ⟨_, _, rfl, ⟨_, _, _, rfl, p1⟩, ⟨_, _, _, rfl, p2⟩⟩⟩⟩⟩
def pre54 (M : Bs) (w : World) (vs : List Value) (x : EP) : Prop := ∃ (Aa3 : Option Addr), ∃ (ca3 : Nat), vs = [.agg #[.string (bs (x.Pred)), .int .i64 (x.Label), .slice (Aa3) ((x.Args).length) (ca3)]] ∧ ((x.Pred).length ≤ 9223372036854775807) ∧ (SlR RArg M w Aa3 (x.Args).length ca3 (x.Args))
def post54 (M : Bs) (w : World) (v : Value) (x : Bool) : Prop := v = .bool (x)
def pre71 (M : Bs) (w : World) (vs : List Value) (x : Arg) : Prop := vs = [.agg #[.string (bs (x.Role)), .int .i64 (x.Var)]] ∧ ((x.Role).length ≤ 9223372036854775807)
def post71 (M : Bs) (w : World) (v : Value) (x : Bool) : Prop := v = .bool (x)
structure tree where
  mk ::
  m_ : MRS
  labels_ : (List Int)
  at_ : (List Int)
  deriving DecidableEq
def Rtree : Rep tree := Rep.via (Rep.prod RMRS (Rep.prod (Rep.list (Rep.num .i64)) (Rep.list (Rep.num .i64)))) (fun x => (x.m_, (x.labels_, x.at_)))
theorem Rtree.open {M : Bs} {w : World} {cs : List Value} {x : tree} (h : Rtree.rd M w cs x) : ∃ (Aq3 : Option Addr), ∃ (cq3 : Nat), ∃ (Aq4 : Option Addr), ∃ (cq4 : Nat), ∃ (Aq5 : Option Addr), ∃ (cq5 : Nat), ∃ (Aq6 : Option Addr), ∃ (cq6 : Nat), ∃ (Aq7 : Option Addr), ∃ (cq7 : Nat), cs = [.int .i64 (x.m_.Top), .int .i64 (x.m_.Index), .slice (Aq3) ((x.m_.Vars).length) (cq3), .slice (Aq4) ((x.m_.Rels).length) (cq4), .slice (Aq5) ((x.m_.Cons).length) (cq5), .slice (Aq6) ((x.labels_).length) (cq6), .slice (Aq7) ((x.at_).length) (cq7)] ∧ (SlR Rep.str M w Aq3 (x.m_.Vars).length cq3 (x.m_.Vars)) ∧ (SlR REP M w Aq4 (x.m_.Rels).length cq4 (x.m_.Rels)) ∧ (SlR RQeq M w Aq5 (x.m_.Cons).length cq5 (x.m_.Cons)) ∧ (SlR (Rep.num .i64) M w Aq6 (x.labels_).length cq6 (x.labels_)) ∧ (SlR (Rep.num .i64) M w Aq7 (x.at_).length cq7 (x.at_)) := by
  obtain ⟨_, _, rfl, h0, r0⟩ := h
  obtain ⟨E0, E1, E2, E3, E4, E5, rfl, p6, p7, p8⟩ := RMRS.open h0
  obtain ⟨_, _, rfl, h1, r1⟩ := r0
  obtain ⟨A9, n9, c9, rfl, p9⟩ := h1
  obtain rfl := p9.len
  obtain ⟨A10, n10, c10, rfl, p10⟩ := r1
  obtain rfl := p10.len
  exact ⟨E0, E1, E2, E3, E4, E5, A9, c9, A10, c10, rfl, p6, p7, p8, p9, p10⟩
theorem Rtree.mk' {M : Bs} {w : World} {x : tree} {Aq3 : Option Addr} {cq3 : Nat} {Aq4 : Option Addr} {cq4 : Nat} {Aq5 : Option Addr} {cq5 : Nat} {Aq6 : Option Addr} {cq6 : Nat} {Aq7 : Option Addr} {cq7 : Nat} (p0 : SlR Rep.str M w Aq3 (x.m_.Vars).length cq3 (x.m_.Vars)) (p1 : SlR REP M w Aq4 (x.m_.Rels).length cq4 (x.m_.Rels)) (p2 : SlR RQeq M w Aq5 (x.m_.Cons).length cq5 (x.m_.Cons)) (p3 : SlR (Rep.num .i64) M w Aq6 (x.labels_).length cq6 (x.labels_)) (p4 : SlR (Rep.num .i64) M w Aq7 (x.at_).length cq7 (x.at_)) : Rtree.rd M w [.int .i64 (x.m_.Top), .int .i64 (x.m_.Index), .slice (Aq3) ((x.m_.Vars).length) (cq3), .slice (Aq4) ((x.m_.Rels).length) (cq4), .slice (Aq5) ((x.m_.Cons).length) (cq5), .slice (Aq6) ((x.labels_).length) (cq6), .slice (Aq7) ((x.at_).length) (cq7)] x := ⟨_, _, rfl, (RMRS.mk' p0 p1 p2), ⟨_, _, rfl, ⟨_, _, _, rfl, p3⟩, ⟨_, _, _, rfl, p4⟩⟩⟩
structure reader where
  mk ::
  s_ : (List UInt8)
  at_ : Int
  e_ : Int
  sorts_ : (List (List UInt8))
  texts_ : (List (List UInt8))
  deriving DecidableEq
def Rreader : Rep reader := Rep.via (Rep.prod Rep.str (Rep.prod (Rep.num .i64) (Rep.prod (Rep.num .i64) (Rep.prod (Rep.list Rep.str) (Rep.list Rep.str))))) (fun x => (x.s_, (x.at_, (x.e_, (x.sorts_, x.texts_)))))
theorem Rreader.open {M : Bs} {w : World} {cs : List Value} {x : reader} (h : Rreader.rd M w cs x) : ∃ (Aq4 : Option Addr), ∃ (cq4 : Nat), ∃ (Aq5 : Option Addr), ∃ (cq5 : Nat), cs = [.string (bs (x.s_)), .int .i64 (x.at_), .int .i64 (x.e_), .slice (Aq4) ((x.sorts_).length) (cq4), .slice (Aq5) ((x.texts_).length) (cq5)] ∧ ((x.s_).length ≤ 9223372036854775807) ∧ (SlR Rep.str M w Aq4 (x.sorts_).length cq4 (x.sorts_)) ∧ (SlR Rep.str M w Aq5 (x.texts_).length cq5 (x.texts_)) := by
  obtain ⟨_, _, rfl, h0, r0⟩ := h
  obtain ⟨rfl, p0⟩ := h0
  obtain ⟨_, _, rfl, h1, r1⟩ := r0
  obtain rfl := h1
  obtain ⟨_, _, rfl, h2, r2⟩ := r1
  obtain rfl := h2
  obtain ⟨_, _, rfl, h3, r3⟩ := r2
  obtain ⟨A1, n1, c1, rfl, p1⟩ := h3
  obtain rfl := p1.len
  obtain ⟨A2, n2, c2, rfl, p2⟩ := r3
  obtain rfl := p2.len
  exact ⟨A1, c1, A2, c2, rfl, p0, p1, p2⟩
theorem Rreader.mk' {M : Bs} {w : World} {x : reader} {Aq4 : Option Addr} {cq4 : Nat} {Aq5 : Option Addr} {cq5 : Nat} (p0 : (x.s_).length ≤ 9223372036854775807) (p1 : SlR Rep.str M w Aq4 (x.sorts_).length cq4 (x.sorts_)) (p2 : SlR Rep.str M w Aq5 (x.texts_).length cq5 (x.texts_)) : Rreader.rd M w [.string (bs (x.s_)), .int .i64 (x.at_), .int .i64 (x.e_), .slice (Aq4) ((x.sorts_).length) (cq4), .slice (Aq5) ((x.texts_).length) (cq5)] x := ⟨_, _, rfl, ⟨rfl, p0⟩, ⟨_, _, rfl, rfl, ⟨_, _, rfl, rfl, ⟨_, _, rfl, ⟨_, _, _, rfl, p1⟩, ⟨_, _, _, rfl, p2⟩⟩⟩⟩⟩
/-- grammarlab/grammarlabref39.sorted -/
def r39_sorted (n : Nat) (s_ : (List UInt8)) : Option Bool :=
 if (s_ : List UInt8) = [104] then
  some true
 else
  if (s_ : List UInt8) = [101] then
   some true
  else
   if (s_ : List UInt8) = [120] then
    some true
   else
    some (decide ((s_ : List UInt8) = [105]))
/-- grammarlab/grammarlabref01.digit -/
def r01_digit (n : Nat) (c_ : UInt8) : Option Bool :=
 if (48 : Nat) ≤ c_.toNat then
  some (decide (c_.toNat ≤ 57))
 else
  some false
/-- grammarlab/grammarlabref01.upper -/
def r01_upper (n : Nat) (c_ : UInt8) : Option Bool :=
 if (65 : Nat) ≤ c_.toNat then
  some (decide (c_.toNat ≤ 90))
 else
  some false
/-- grammarlab/grammarlabref01.lower -/
def r01_lower (n : Nat) (c_ : UInt8) : Option Bool :=
 if (97 : Nat) ≤ c_.toNat then
  some (decide (c_.toNat ≤ 122))
 else
  some false
/-- grammarlab/grammarlabref01.part -/
def r01_part (n : Nat) (c_ : UInt8) (big_ : Bool) : Option Bool :=
 (r01_digit n c_).bind fun r1 =>
 if r1 = true then
  some true
 else
  if c_.toNat = 45 then
   some true
  else
   if big_ = true then
    (r01_upper n c_).bind fun r11 =>
    if r11 = true then
     some true
    else
     some false
   else
    (r01_lower n c_).bind fun r23 =>
    some r23
def r01_named_L0 (n : Nat) (s_ : (List UInt8)) (big_ : Bool) : Nat → Nat → Option Bool
  | 0, _ => none
  | m1 + 1, i_15 =>
  if i_15 < ((s_).length) then
   (s_[i_15]?).bind fun c18 =>
   (r01_part n c18 big_).bind fun r19 =>
   if (!(r19)) = true then
    some false
   else
    r01_named_L0 n s_ big_ m1 (i_15 + 1)
  else
   some true
/-- grammarlab/grammarlabref01.named -/
def r01_named (n : Nat) (s_ : (List UInt8)) (big_ : Bool) : Option Bool :=
 jn (fun (t_2 : Bool) =>
  if t_2 = true then
   some false
  else
   r01_named_L0 n s_ big_ n 0)
   (fun k1 =>
   if ((s_).length) < 1 then
    k1 true
   else
    if (32 : Nat) < ((s_).length) then
     k1 true
    else
     (s_[0]?).bind fun c5 =>
     (r01_digit n c5).bind fun r6 =>
     if r6 = true then
      k1 true
     else
      k1 (decide (c5.toNat = 45)))
/-- grammarlab/grammarlabref01.Name -/
def r01_Name (n : Nat) (s_ : (List UInt8)) : Option Bool :=
 (r01_named n s_ false).bind fun r1 =>
 some r1
/-- grammarlab/grammarlabref01.Feature -/
def r01_Feature (n : Nat) (s_ : (List UInt8)) : Option Bool :=
 (r01_named n s_ true).bind fun r1 =>
 some r1
def r39_predication_L0 (n : Nat) (e_ : EP) : Nat → Nat → Option Int
  | 0, _ => none
  | m1 + 1, i_9 =>
  if i_9 < ((e_.Args).length) then
   jn (fun (t_13 : Bool) =>
    if t_13 = true then
     some 1
    else
     jn (fun (t_35 : Bool) =>
      if t_35 = true then
       some 3
      else
       r39_predication_L0 n e_ m1 (i_9 + 1))
       (fun k34 =>
       if (0 : Nat) < i_9 then
        (e_.Args[i_9]?).bind fun x38 =>
        (ix e_.Args (((i_9 : Nat) : Int) - 1)).bind fun x41 =>
        k34 ((Op.bytesLess x38.Role x41.Role) || (x38.Role == x41.Role))
       else
        k34 false))
     (fun k12 =>
     (e_.Args[i_9]?).bind fun x15 =>
     (r01_Feature n x15.Role).bind fun r17 =>
     if (!(r17)) = true then
      k12 true
     else
      k12 (decide ((x15.Role : List UInt8) = [76, 65, 66, 69, 76])))
  else
   some 0
/-- grammarlab/grammarlabref39.predication -/
def r39_predication (n : Nat) (e_ : EP) : Option Int :=
 (r01_Name n e_.Pred).bind fun r3 =>
 if (!(r3)) = true then
  some 1
 else
  r39_predication_L0 n e_ n 0
def r39_Occurrences_L1 (n : Nat) (k17 : (List Int) → Option (List Int)) (x23 : EP) : Nat → (List Int) → Nat → Option (List Int)
  | 0, _, _ => none
  | m2 + 1, t_34, t_38 =>
  if t_38 < ((x23.Args).length) then
   (x23.Args[t_38]?).bind fun x48 =>
   chk ((t_34).length + ([x48.Var]).length ≤ 137438953472) (
   r39_Occurrences_L1 n k17 x23 m2 (t_34 ++ [x48.Var]) (t_38 + 1))
  else
   k17 t_34
def r39_Occurrences_L0 (n : Nat) (t_ : MRS) (k5 : (List Int) → Option (List Int)) : Nat → (List Int) → Nat → Option (List Int)
  | 0, _, _ => none
  | m1 + 1, t_10, t_14 =>
  if t_14 < ((t_.Rels).length) then
   jn (fun (t_18 : (List Int)) =>
    r39_Occurrences_L0 n t_ k5 m1 t_18 (t_14 + 1))
     (fun k17 =>
     (t_.Rels[t_14]?).bind fun x23 =>
     chk ((t_10).length + ([x23.Label]).length ≤ 137438953472) (
     r39_Occurrences_L1 n k17 x23 n (t_10 ++ [x23.Label]) 0))
  else
   k5 t_10
def r39_Occurrences_L2 (n : Nat) (t_ : MRS) : Nat → (List Int) → Nat → Option (List Int)
  | 0, _, _ => none
  | m3 + 1, t_61, t_65 =>
  if t_65 < ((t_.Cons).length) then
   (t_.Cons[t_65]?).bind fun x69 =>
   chk ((t_61).length + ([x69.High]).length ≤ 137438953472) (
   chk ((t_61 ++ [x69.High]).length + ([x69.Low]).length ≤ 137438953472) (
   r39_Occurrences_L2 n t_ m3 ((t_61 ++ [x69.High]) ++ [x69.Low]) (t_65 + 1)))
  else
   some t_61
/-- grammarlab/grammarlabref39.Occurrences -/
def r39_Occurrences (n : Nat) (t_ : MRS) : Option (List Int) :=
 jn (fun (t_6 : (List Int)) =>
  r39_Occurrences_L2 n t_ n t_6 0)
   (fun k5 =>
   r39_Occurrences_L0 n t_ k5 n [t_.Top, t_.Index] 0)
def r39_handles_L0 (n : Nat) (m_ : MRS) (k5 : (List Int) → Option (List Int)) : Nat → (List Int) → Nat → Option (List Int)
  | 0, _, _ => none
  | m1 + 1, out_10, i_14 =>
  if i_14 < ((m_.Rels).length) then
   (m_.Rels[i_14]?).bind fun x18 =>
   chk ((out_10).length + ([x18.Label]).length ≤ 137438953472) (
   r39_handles_L0 n m_ k5 m1 (out_10 ++ [x18.Label]) (i_14 + 1))
  else
   k5 out_10
def r39_handles_L1 (n : Nat) (m_ : MRS) : Nat → (List Int) → Nat → Option (List Int)
  | 0, _, _ => none
  | m2 + 1, out_29, i_33 =>
  if i_33 < ((m_.Cons).length) then
   (m_.Cons[i_33]?).bind fun x37 =>
   chk ((out_29).length + ([x37.High]).length ≤ 137438953472) (
   chk ((out_29 ++ [x37.High]).length + ([x37.Low]).length ≤ 137438953472) (
   r39_handles_L1 n m_ m2 ((out_29 ++ [x37.High]) ++ [x37.Low]) (i_33 + 1)))
  else
   some out_29
/-- grammarlab/grammarlabref39.handles -/
def r39_handles (n : Nat) (m_ : MRS) : Option (List Int) :=
 jn (fun (out_6 : (List Int)) =>
  r39_handles_L1 n m_ n out_6 0)
   (fun k5 =>
   r39_handles_L0 n m_ k5 n [m_.Top] 0)
def r39_Loose_L0 (n : Nat) (t_ : MRS) (k10 : Option Int) : Nat → Nat → Option Int
  | 0, _ => none
  | m1 + 1, t_11 =>
  if t_11 < ((t_.Vars).length) then
   (t_.Vars[t_11]?).bind fun x15 =>
   (r39_sorted n x15).bind fun r17 =>
   if (!(r17)) = true then
    some 1
   else
    r39_Loose_L0 n t_ k10 m1 (t_11 + 1)
  else
   k10
def r39_Loose_L1 (n : Nat) (t_ : MRS) (k25 : Option Int) : Nat → Nat → Option Int
  | 0, _ => none
  | m2 + 1, t_26 =>
  if t_26 < ((t_.Rels).length) then
   (t_.Rels[t_26]?).bind fun x30 =>
   (r39_predication n x30).bind fun r32 =>
   if r32 ≠ 0 then
    some r32
   else
    r39_Loose_L1 n t_ k25 m2 (t_26 + 1)
  else
   k25
def r39_Loose_L2 (n : Nat) (t_ : MRS) (r40 : (List Int)) (k45 : Option Int) : Nat → Nat → Option Int
  | 0, _ => none
  | m3 + 1, t_46 =>
  if t_46 < ((r40).length) then
   jn (fun (t_50 : Bool) =>
    if t_50 = true then
     some 2
    else
     r39_Loose_L2 n t_ r40 k45 m3 (t_46 + 1))
     (fun k49 =>
     (r40[t_46]?).bind fun x52 =>
     if x52 < 0 then
      k49 true
     else
      k49 (decide ((((t_.Vars).length : Nat) : Int) ≤ x52)))
  else
   k45
def r39_Loose_L3 (n : Nat) (t_ : MRS) (r64 : (List Int)) : Nat → Nat → Option Int
  | 0, _ => none
  | m4 + 1, t_69 =>
  if t_69 < ((r64).length) then
   (r64[t_69]?).bind fun x73 =>
   (ix t_.Vars x73).bind fun x76 =>
   if (x76 : List UInt8) ≠ [104] then
    some 2
   else
    r39_Loose_L3 n t_ r64 m4 (t_69 + 1)
  else
   some 0
/-- grammarlab/grammarlabref39.Loose -/
def r39_Loose (n : Nat) (t_ : MRS) : Option Int :=
 jn (fun (t_4 : Bool) =>
  if t_4 = true then
   some 7
  else
   jn (
    jn (
     (r39_Occurrences n t_).bind fun r40 =>
     jn (
      (r39_handles n t_).bind fun r64 =>
      r39_Loose_L3 n t_ r64 n 0)
       (fun k45 =>
       r39_Loose_L2 n t_ r40 k45 n 0))
      (fun k25 =>
      r39_Loose_L1 n t_ k25 n 0))
     (fun k10 =>
     r39_Loose_L0 n t_ k10 n 0))
   (fun k3 =>
   if (16 : Nat) < ((t_.Rels).length) then
    k3 true
   else
    if (16 : Nat) < ((t_.Cons).length) then
     k3 true
    else
     k3 (decide ((256 : Nat) < ((t_.Vars).length))))
def r39_place_L0 (n : Nat) (l_ : (List Int)) (n_ : Int) : Nat → Nat → Option Int
  | 0, _ => none
  | m1 + 1, i_1 =>
  if i_1 < ((l_).length) then
   (l_[i_1]?).bind fun x5 =>
   if x5 = n_ then
    some ((i_1 : Nat) : Int)
   else
    r39_place_L0 n l_ n_ m1 (i_1 + 1)
  else
   some (-1)
/-- grammarlab/grammarlabref39.place -/
def r39_place (n : Nat) (l_ : (List Int)) (n_ : Int) : Option Int :=
 r39_place_L0 n l_ n_ n 0
def r39_firsts_L0 (n : Nat) (r3 : (List Int)) : Nat → (List Int) → Nat → Option (List Int)
  | 0, _, _ => none
  | m1 + 1, out_10, i_14 =>
  if i_14 < ((r3).length) then
   (r3[i_14]?).bind fun x18 =>
   (r39_place n out_10 x18).bind fun r20 =>
   if r20 < 0 then
    chk ((out_10).length + ([x18]).length ≤ 137438953472) (
    r39_firsts_L0 n r3 m1 (out_10 ++ [x18]) (i_14 + 1))
   else
    r39_firsts_L0 n r3 m1 out_10 (i_14 + 1)
  else
   some out_10
/-- grammarlab/grammarlabref39.firsts -/
def r39_firsts (n : Nat) (m_ : MRS) : Option (List Int) :=
 (r39_Occurrences n m_).bind fun r3 =>
 r39_firsts_L0 n r3 n [] 0
def r39_Check_L0 (n : Nat) (r9 : (List Int)) : Nat → Nat → Option Int
  | 0, _ => none
  | m1 + 1, i_15 =>
  if i_15 < ((r9).length) then
   (r9[i_15]?).bind fun x19 =>
   if x19 ≠ ((i_15 : Nat) : Int) then
    some 3
   else
    r39_Check_L0 n r9 m1 (i_15 + 1)
  else
   some 0
/-- grammarlab/grammarlabref39.Check -/
def r39_Check (n : Nat) (m_ : MRS) : Option Int :=
 (r39_Loose n m_).bind fun r3 =>
 if r3 ≠ 0 then
  some r3
 else
  (r39_firsts n m_).bind fun r9 =>
  if ((r9).length) ≠ ((m_.Vars).length) then
   some 3
  else
   r39_Check_L0 n r9 n 0
def r39_Light_L0 (n : Nat) (m_ : MRS) : Nat → Nat → Option Bool
  | 0, _ => none
  | m1 + 1, i_8 =>
  if i_8 < ((m_.Rels).length) then
   (m_.Rels[i_8]?).bind fun x12 =>
   if (10 : Nat) < ((x12.Args).length) then
    some false
   else
    r39_Light_L0 n m_ m1 (i_8 + 1)
  else
   some true
/-- grammarlab/grammarlabref39.Light -/
def r39_Light (n : Nat) (m_ : MRS) (most_ : Int) : Option Bool :=
 jn (fun (t_4 : Bool) =>
  if t_4 = true then
   some false
  else
   r39_Light_L0 n m_ n 0)
   (fun k3 =>
   if most_ < (((m_.Rels).length : Nat) : Int) then
    k3 true
   else
    if most_ < (((m_.Cons).length : Nat) : Int) then
     k3 true
    else
     k3 (decide ((300 : Nat) < ((m_.Vars).length))))
/-- grammarlab/grammarlablaw41.valid -/
def law41_valid (n : Nat) (m_ : MRS) : Option Bool :=
 (r39_Light n m_ 8).bind fun r3 =>
 if r3 = true then
  (r39_Check n m_).bind fun r7 =>
  some (decide (r7 = 0))
 else
  some false
def r41_Same_L0 (n : Nat) (a_ : (List Int)) (b_ : (List Int)) : Nat → Nat → Option Bool
  | 0, _ => none
  | m1 + 1, i_2 =>
  if i_2 < ((a_).length) then
   (a_[i_2]?).bind fun x6 =>
   (b_[i_2]?).bind fun x9 =>
   if x6 ≠ x9 then
    some false
   else
    r41_Same_L0 n a_ b_ m1 (i_2 + 1)
  else
   some true
/-- grammarlab/grammarlabref41.Same -/
def r41_Same (n : Nat) (a_ : (List Int)) (b_ : (List Int)) : Option Bool :=
 if ((a_).length) ≠ ((b_).length) then
  some false
 else
  r41_Same_L0 n a_ b_ n 0
def slices_IndexFunc_EP_L0 (n : Nat) (s_ : (List EP)) (f_ : (EP → Option Bool)) : Nat → Nat → Option Int
  | 0, _ => none
  | m1 + 1, t_1 =>
  if t_1 < ((s_).length) then
   (s_[t_1]?).bind fun x5 =>
   (f_ x5).bind fun r7 =>
   if r7 = true then
    some ((t_1 : Nat) : Int)
   else
    slices_IndexFunc_EP_L0 n s_ f_ m1 (t_1 + 1)
  else
   some (-1)
/-- slices.IndexFunc(()grammarlab/api.EP,grammarlab/api.EP) -/
def slices_IndexFunc_EP (n : Nat) (s_ : (List EP)) (f_ : (EP → Option Bool)) : Option Int :=
 slices_IndexFunc_EP_L0 n s_ f_ n 0
/-- slices.ContainsFunc(()grammarlab/api.EP,grammarlab/api.EP) -/
def slices_ContainsFunc_EP (n : Nat) (s_ : (List EP)) (f_ : (EP → Option Bool)) : Option Bool :=
 (slices_IndexFunc_EP n s_ f_).bind fun r1 =>
 some (decide ((0 : Int) ≤ r1))
/-- grammarlab/scope.Labels inner 1 -/
def scope_Labels_1 (n : Nat) (x_ : EP) (c0_ : Int) : Option Bool :=
 some (decide (x_.Label = c0_))
def scope_Labels_L0 (n : Nat) (m_ : MRS) : Nat → (List Int) → Nat → Option (List Int)
  | 0, _, _ => none
  | m1 + 1, out_3, t_7 =>
  if t_7 < ((m_.Vars).length) then
   (slices_ContainsFunc_EP n m_.Rels (fun p => scope_Labels_1 n p ((t_7 : Nat) : Int))).bind fun r12 =>
   if r12 = true then
    chk ((out_3).length + ([((t_7 : Nat) : Int)]).length ≤ 137438953472) (
    scope_Labels_L0 n m_ m1 (out_3 ++ [((t_7 : Nat) : Int)]) (t_7 + 1))
   else
    scope_Labels_L0 n m_ m1 out_3 (t_7 + 1)
  else
   some out_3
/-- grammarlab/scope.Labels -/
def scope_Labels (n : Nat) (m_ : MRS) : Option (List Int) :=
 scope_Labels_L0 n m_ n [] 0
def slices_Index_int_L0 (n : Nat) (s_ : (List Int)) (v_ : Int) : Nat → Nat → Option Int
  | 0, _ => none
  | m1 + 1, t_1 =>
  if t_1 < ((s_).length) then
   (s_[t_1]?).bind fun x5 =>
   if v_ = x5 then
    some ((t_1 : Nat) : Int)
   else
    slices_Index_int_L0 n s_ v_ m1 (t_1 + 1)
  else
   some (-1)
/-- slices.Index(()int,int) -/
def slices_Index_int (n : Nat) (s_ : (List Int)) (v_ : Int) : Option Int :=
 slices_Index_int_L0 n s_ v_ n 0
/-- slices.Contains(()int,int) -/
def slices_Contains_int (n : Nat) (s_ : (List Int)) (v_ : Int) : Option Bool :=
 (slices_Index_int n s_ v_).bind fun r1 =>
 some (decide ((0 : Int) ≤ r1))
def slices_IndexFunc_Arg_L0 (n : Nat) (s_ : (List Arg)) (f_ : (Arg → Option Bool)) : Nat → Nat → Option Int
  | 0, _ => none
  | m1 + 1, t_1 =>
  if t_1 < ((s_).length) then
   (s_[t_1]?).bind fun x5 =>
   (f_ x5).bind fun r7 =>
   if r7 = true then
    some ((t_1 : Nat) : Int)
   else
    slices_IndexFunc_Arg_L0 n s_ f_ m1 (t_1 + 1)
  else
   some (-1)
/-- slices.IndexFunc(()grammarlab/api.Arg,grammarlab/api.Arg) -/
def slices_IndexFunc_Arg (n : Nat) (s_ : (List Arg)) (f_ : (Arg → Option Bool)) : Option Int :=
 slices_IndexFunc_Arg_L0 n s_ f_ n 0
/-- slices.ContainsFunc(()grammarlab/api.Arg,grammarlab/api.Arg) -/
def slices_ContainsFunc_Arg (n : Nat) (s_ : (List Arg)) (f_ : (Arg → Option Bool)) : Option Bool :=
 (slices_IndexFunc_Arg n s_ f_).bind fun r1 =>
 some (decide ((0 : Int) ≤ r1))
/-- grammarlab/scope.used inner 1 -/
def scope_used_1 (n : Nat) (a_ : Arg) (c0_ : Int) : Option Bool :=
 some (decide (a_.Var = c0_))
/-- grammarlab/scope.used -/
def scope_used (n : Nat) (x_ : EP) (v_ : Int) : Option Bool :=
 (slices_ContainsFunc_Arg n x_.Args (fun p => scope_used_1 n p v_)).bind fun r5 =>
 some r5
/-- grammarlab/scope.Holes inner 1 -/
def scope_Holes_1 (n : Nat) (x_ : EP) (c0_ : Int) : Option Bool :=
 (scope_used n x_ c0_).bind fun r3 =>
 some r3
def scope_Holes_L0 (n : Nat) (m_ : MRS) (r3 : (List Int)) : Nat → (List Int) → Nat → Option (List Int)
  | 0, _, _ => none
  | m1 + 1, out_8, t_12 =>
  if t_12 < ((m_.Vars).length) then
   jn (fun (t_18 : Bool) =>
    if t_18 = true then
     scope_Holes_L0 n m_ r3 m1 out_8 (t_12 + 1)
    else
     jn (fun (t_34 : Bool) =>
      if t_34 = true then
       chk ((out_8).length + ([((t_12 : Nat) : Int)]).length ≤ 137438953472) (
       scope_Holes_L0 n m_ r3 m1 (out_8 ++ [((t_12 : Nat) : Int)]) (t_12 + 1))
      else
       scope_Holes_L0 n m_ r3 m1 out_8 (t_12 + 1))
       (fun k33 =>
       if ((t_12 : Nat) : Int) = m_.Top then
        k33 true
       else
        (slices_ContainsFunc_EP n m_.Rels (fun p => scope_Holes_1 n p ((t_12 : Nat) : Int))).bind fun r36 =>
        k33 r36))
     (fun k17 =>
     (m_.Vars[t_12]?).bind fun x20 =>
     if (x20 : List UInt8) ≠ [104] then
      k17 true
     else
      (slices_Contains_int n r3 ((t_12 : Nat) : Int)).bind fun r25 =>
      k17 r25)
  else
   some out_8
/-- grammarlab/scope.Holes -/
def scope_Holes (n : Nat) (m_ : MRS) : Option (List Int) :=
 (scope_Labels n m_).bind fun r3 =>
 scope_Holes_L0 n m_ r3 n [] 0
def scope_plugged_L0 (n : Nat) (m_ : MRS) (t_7 : (List Int)) (k21 : (List Int) → Option tree) : Nat → Nat → (List Int) → Option tree
  | 0, _, _ => none
  | m1 + 1, t_26, b_27 =>
  if t_26 < ((m_.Vars).length) then
   (slices_Contains_int n t_7 ((t_26 : Nat) : Int)).bind fun r33 =>
   jn (fun (l_39 : Int) =>
    chk ((b_27).length + ([l_39]).length ≤ 137438953472) (
    scope_plugged_L0 n m_ t_7 k21 m1 (t_26 + 1) (b_27 ++ [l_39])))
     (fun k38 =>
     if r33 = true then
      k38 ((t_26 : Nat) : Int)
     else
      k38 (-1))
  else
   k21 b_27
def scope_plugged_L1 (n : Nat) (plug_ : (List Int)) (r48 : (List Int)) (k53 : (List Int) → Option tree) : Nat → Nat → (List Int) → Option tree
  | 0, _, _ => none
  | m2 + 1, t_58, b_59 =>
  if t_58 < ((r48).length) then
   (r48[t_58]?).bind fun x66 =>
   (plug_[t_58]?).bind fun x71 =>
   (ix b_59 x66).bind fun x74 =>
   scope_plugged_L1 n plug_ r48 k53 m2 (t_58 + 1) ((b_59).set ((x66).toNat) x71)
  else
   k53 b_59
/-- grammarlab/scope.plugged -/
def scope_plugged (n : Nat) (m_ : MRS) (plug_ : (List Int)) : Option tree :=
 jn (fun (t_7 : (List Int)) =>
  jn (fun (b_22 : (List Int)) =>
   (scope_Holes n m_).bind fun r48 =>
   jn (fun (b_54 : (List Int)) =>
    some (tree.mk m_ t_7 b_54))
     (fun k53 =>
     scope_plugged_L1 n plug_ r48 k53 n 0 b_22))
    (fun k21 =>
    scope_plugged_L0 n m_ t_7 k21 n 0 []))
   (fun k5 =>
   (scope_Labels n m_).bind fun r10 =>
   k5 r10)
def scope_tree_children_L1 (n : Nat) (t_ : tree) (k10 : (List Int) → Option (List Int)) (x16 : EP) : Nat → (List Int) → Nat → Option (List Int)
  | 0, _, _ => none
  | m2 + 1, out_23, t_27 =>
  if t_27 < ((x16.Args).length) then
   (x16.Args[t_27]?).bind fun x31 =>
   (ix t_.at_ x31.Var).bind fun x38 =>
   if (0 : Int) ≤ x38 then
    chk ((out_23).length + ([x38]).length ≤ 137438953472) (
    scope_tree_children_L1 n t_ k10 x16 m2 (out_23 ++ [x38]) (t_27 + 1))
   else
    scope_tree_children_L1 n t_ k10 x16 m2 out_23 (t_27 + 1)
  else
   k10 out_23
def scope_tree_children_L0 (n : Nat) (t_ : tree) (label_ : Int) : Nat → (List Int) → Nat → Option (List Int)
  | 0, _, _ => none
  | m1 + 1, out_3, t_7 =>
  if t_7 < ((t_.m_.Rels).length) then
   jn (fun (out_11 : (List Int)) =>
    scope_tree_children_L0 n t_ label_ m1 out_11 (t_7 + 1))
     (fun k10 =>
     (t_.m_.Rels[t_7]?).bind fun x16 =>
     if x16.Label ≠ label_ then
      k10 out_3
     else
      scope_tree_children_L1 n t_ k10 x16 n out_3 0)
  else
   some out_3
/-- (grammarlab/scope.tree).children -/
def scope_tree_children (n : Nat) (t_ : tree) (label_ : Int) : Option (List Int) :=
 scope_tree_children_L0 n t_ label_ n [] 0
def scope_tree_below_L1 (n : Nat) (k23 : (List Int) → Option (List Int)) (r31 : (List Int)) : Nat → (List Int) → Nat → Option (List Int)
  | 0, _, _ => none
  | m2 + 1, out_38, t_42 =>
  if t_42 < ((r31).length) then
   (r31[t_42]?).bind fun x46 =>
   (slices_Contains_int n out_38 x46).bind fun r50 =>
   if (!(r50)) = true then
    chk ((out_38).length + ([x46]).length ≤ 137438953472) (
    scope_tree_below_L1 n k23 r31 m2 (out_38 ++ [x46]) (t_42 + 1))
   else
    scope_tree_below_L1 n k23 r31 m2 out_38 (t_42 + 1)
  else
   k23 out_38
def scope_tree_below_L0 (n : Nat) (t_ : tree) (k11 : (List Int) → Option (List Int)) : Nat → (List Int) → Nat → Option (List Int)
  | 0, _, _ => none
  | m1 + 1, out_16, i_20 =>
  if i_20 < ((out_16).length) then
   jn (fun (out_24 : (List Int)) =>
    scope_tree_below_L0 n t_ k11 m1 out_24 (i_20 + 1))
     (fun k23 =>
     (out_16[i_20]?).bind fun x29 =>
     (scope_tree_children n t_ x29).bind fun r31 =>
     scope_tree_below_L1 n k23 r31 n out_16 0)
  else
   k11 out_16
/-- (grammarlab/scope.tree).below -/
def scope_tree_below (n : Nat) (t_ : tree) (label_ : Int) : Option (List Int) :=
 (slices_Contains_int n t_.labels_ label_).bind fun r3 =>
 if (!(r3)) = true then
  some []
 else
  jn (fun (out_12 : (List Int)) =>
   (slices_Sort_int n out_12).bind fun r63 =>
   some r63)
    (fun k11 =>
    scope_tree_below_L0 n t_ k11 n [label_] 0)
/-- grammarlab/scope.Below -/
def scope_Below (n : Nat) (m_ : MRS) (plug_ : (List Int)) (label_ : Int) : Option (List Int) :=
 (scope_plugged n m_ plug_).bind fun r3 =>
 (scope_tree_below n r3 label_).bind fun r6 =>
 some r6
def scope_tree_form_L1 (n : Nat) (k32 : (List Int) → Option Bool) (r42 : (List Int)) : Nat → (List Int) → Nat → Option Bool
  | 0, _, _ => none
  | m2 + 1, t_47, t_51 =>
  if t_51 < ((r42).length) then
   (r42[t_51]?).bind fun x55 =>
   (ix t_47 x55).bind fun x60 =>
   chk (-9223372036854775808 ≤ x60 + 1 ∧ x60 + 1 ≤ 9223372036854775807) (
   scope_tree_form_L1 n k32 r42 m2 ((t_47).set ((x55).toNat) (x60 + 1)) (t_51 + 1))
  else
   k32 t_47
def scope_tree_form_L0 (n : Nat) (t_ : tree) (k20 : (List Int) → Option Bool) : Nat → (List Int) → Nat → Option Bool
  | 0, _, _ => none
  | m1 + 1, t_25, t_29 =>
  if t_29 < ((t_.labels_).length) then
   jn (fun (t_33 : (List Int)) =>
    scope_tree_form_L0 n t_ k20 m1 t_33 (t_29 + 1))
     (fun k32 =>
     (t_.labels_[t_29]?).bind fun x38 =>
     (scope_tree_children n t_ x38).bind fun r42 =>
     scope_tree_form_L1 n k32 r42 n t_25 0)
  else
   k20 t_25
def scope_tree_form_L2 (n : Nat) (t_ : tree) (x4 : Int) (t_21 : (List Int)) : Nat → Nat → Option Bool
  | 0, _ => none
  | m3 + 1, t_67 =>
  if t_67 < ((t_.labels_).length) then
   (t_.labels_[t_67]?).bind fun x71 =>
   jn (fun (t_76 : Bool) =>
    if t_76 = true then
     some false
    else
     scope_tree_form_L2 n t_ x4 t_21 m3 (t_67 + 1))
     (fun k75 =>
     if x71 = x4 then
      (ix t_21 x71).bind fun x79 =>
      if x79 ≠ 0 then
       k75 true
      else
       if x71 ≠ x4 then
        k75 (decide (x79 ≠ 1))
       else
        k75 false
     else
      if x71 ≠ x4 then
       (ix t_21 x71).bind fun x95 =>
       k75 (decide (x95 ≠ 1))
      else
       k75 false)
  else
   some true
/-- (grammarlab/scope.tree).form -/
def scope_tree_form (n : Nat) (t_ : tree) : Option Bool :=
 (ix t_.at_ t_.m_.Top).bind fun x4 =>
 jn (fun (t_9 : Bool) =>
  if t_9 = true then
   some false
  else
   chk (8 * ((t_.m_.Vars).length) ≤ 281474976710656) (
   jn (fun (t_21 : (List Int)) =>
    scope_tree_form_L2 n t_ x4 t_21 n 0)
     (fun k20 =>
     scope_tree_form_L0 n t_ k20 n (List.replicate ((t_.m_.Vars).length) (0 : Int)) 0)))
   (fun k8 =>
   if x4 < 0 then
    k8 true
   else
    (scope_tree_below n t_ x4).bind fun r11 =>
    k8 (decide (((r11).length) ≠ ((t_.labels_).length))))
def scope_role_L0 (n : Nat) (x_ : EP) (name_ : (List UInt8)) : Nat → Nat → Option (Int × Bool)
  | 0, _ => none
  | m1 + 1, t_3 =>
  if t_3 < ((x_.Args).length) then
   (x_.Args[t_3]?).bind fun x7 =>
   if (x7.Role : List UInt8) = name_ then
    some (x7.Var, true)
   else
    scope_role_L0 n x_ name_ m1 (t_3 + 1)
  else
   some (0, false)
/-- grammarlab/scope.role -/
def scope_role (n : Nat) (x_ : EP) (name_ : (List UInt8)) : Option (Int × Bool) :=
 scope_role_L0 n x_ name_ n 0
/-- grammarlab/scope.quantifier -/
def scope_quantifier (n : Nat) (x_ : EP) : Option (Int × Bool) :=
 (scope_role n x_ [82, 83, 84, 82]).bind fun r3 =>
 (scope_role n x_ [66, 79, 68, 89]).bind fun r8 =>
 if r3.2 = true then
  some (r8.1, r8.2)
 else
  some (r8.1, false)
def scope_tree_reaches_L0 (n : Nat) (t_ : tree) (label_ : Int) (self_ : tree → Int → Int → Option Bool) (x4 : Int) : Nat → Nat → Option Bool
  | 0, _ => none
  | m1 + 1, t_10 =>
  if t_10 < ((t_.m_.Rels).length) then
   (t_.m_.Rels[t_10]?).bind fun x14 =>
   (scope_quantifier n x14).bind fun r20 =>
   jn (fun (t_26 : Bool) =>
    if t_26 = true then
     some true
    else
     scope_tree_reaches_L0 n t_ label_ self_ x4 m1 (t_10 + 1))
     (fun k25 =>
     if r20.2 = true then
      if x14.Label = x4 then
       (self_ t_ r20.1 label_).bind fun r29 =>
       k25 r29
      else
       k25 false
     else
      k25 false)
  else
   some false
/-- (grammarlab/scope.tree).reaches -/
def scope_tree_reaches : Nat → tree → Int → Int → Option Bool
  | 0, _, _, _ => none
  | n + 1, t_, v_, label_ =>
  (ix t_.at_ v_).bind fun x4 =>
  if x4 = label_ then
   some true
  else
   if x4 < 0 then
    some false
   else
    scope_tree_reaches_L0 n t_ label_ (scope_tree_reaches n) x4 n 0
def scope_tree_bound_L0 (n : Nat) (t_ : tree) (x4 : EP) (k24 : (List Int) → Option Bool) : Nat → (List Int) → Nat → Option Bool
  | 0, _, _ => none
  | m1 + 1, t_29, t_33 =>
  if t_33 < ((x4.Args).length) then
   (x4.Args[t_33]?).bind fun x37 =>
   (ix t_.at_ x37.Var).bind fun x44 =>
   (scope_tree_below n t_ x44).bind fun r46 =>
   chk ((t_29).length + (r46).length ≤ 137438953472) (
   scope_tree_bound_L0 n t_ x4 k24 m1 (t_29 ++ r46) (t_33 + 1))
  else
   k24 t_29
def scope_tree_bound_L1 (n : Nat) (t_ : tree) (t_' : Int) (r10 : (Int × Bool)) (t_25 : (List Int)) : Nat → Nat → Option Bool
  | 0, _ => none
  | m2 + 1, t_58 =>
  if t_58 < ((t_.m_.Rels).length) then
   (t_.m_.Rels[t_58]?).bind fun x62 =>
   jn (fun (t_69 : Bool) =>
    if t_69 = true then
     some false
    else
     scope_tree_bound_L1 n t_ t_' r10 t_25 m2 (t_58 + 1))
     (fun k68 =>
     if ((t_58 : Nat) : Int) ≠ t_' then
      (scope_used n x62 r10.1).bind fun r71 =>
      if r71 = true then
       (slices_Contains_int n t_25 x62.Label).bind fun r75 =>
       k68 (!(r75))
      else
       k68 false
     else
      k68 false)
  else
   some true
/-- (grammarlab/scope.tree).bound -/
def scope_tree_bound (n : Nat) (t_ : tree) (t_' : Int) : Option Bool :=
 (ix t_.m_.Rels t_').bind fun x4 =>
 (scope_role n x4 [65, 82, 71, 48]).bind fun r10 =>
 (scope_quantifier n x4).bind fun r15 =>
 jn (fun (t_21 : Bool) =>
  if t_21 = true then
   some true
  else
   jn (fun (t_25 : (List Int)) =>
    scope_tree_bound_L1 n t_ t_' r10 t_25 n 0)
     (fun k24 =>
     scope_tree_bound_L0 n t_ x4 k24 n [] 0))
   (fun k20 =>
   if (!(r15.2)) = true then
    k20 true
   else
    k20 (!(r10.2)))
def scope_Valid_L0 (n : Nat) (t_' : (List Int)) (r3 : (List Int)) (k14 : Option Int) : Nat → Nat → Option Int
  | 0, _ => none
  | m1 + 1, t_15 =>
  if t_15 < ((t_').length) then
   (t_'[t_15]?).bind fun x19 =>
   jn (fun (t_24 : Bool) =>
    if t_24 = true then
     some 1
    else
     scope_Valid_L0 n t_' r3 k14 m1 (t_15 + 1))
     (fun k23 =>
     (slices_Contains_int n r3 x19).bind fun r25 =>
     if (!(r25)) = true then
      k23 true
     else
      chk (t_15 ≤ (t_').length) (
      (slices_Contains_int n ((t_').take t_15) x19).bind fun r32 =>
      k23 r32))
  else
   k14
def scope_Valid_L1 (n : Nat) (t_ : MRS) (r40 : tree) (k53 : Option Int) : Nat → Nat → Option Int
  | 0, _ => none
  | m2 + 1, t_54 =>
  if t_54 < ((t_.Cons).length) then
   (t_.Cons[t_54]?).bind fun x58 =>
   (scope_tree_reaches n r40 x58.High x58.Low).bind fun r64 =>
   if (!(r64)) = true then
    some 18
   else
    scope_Valid_L1 n t_ r40 k53 m2 (t_54 + 1)
  else
   k53
def scope_Valid_L2 (n : Nat) (t_ : MRS) (r40 : tree) : Nat → Nat → Option Int
  | 0, _ => none
  | m3 + 1, t_70 =>
  if t_70 < ((t_.Rels).length) then
   (scope_tree_bound n r40 ((t_70 : Nat) : Int)).bind fun r72 =>
   if (!(r72)) = true then
    some 18
   else
    chk (t_70 + 1 ≤ 9223372036854775807) (
    scope_Valid_L2 n t_ r40 m3 (t_70 + 1))
  else
   some 0
/-- grammarlab/scope.Valid -/
def scope_Valid (n : Nat) (t_ : MRS) (t_' : (List Int)) : Option Int :=
 (scope_Labels n t_).bind fun r3 =>
 (scope_Holes n t_).bind fun r8 =>
 if ((t_').length) ≠ ((r8).length) then
  some 1
 else
  jn (
   (scope_plugged n t_ t_').bind fun r40 =>
   (scope_tree_form n r40).bind fun r47 =>
   if (!(r47)) = true then
    some 13
   else
    jn (
     scope_Valid_L2 n t_ r40 n 0)
      (fun k53 =>
      scope_Valid_L1 n t_ r40 k53 n 0))
    (fun k14 =>
    scope_Valid_L0 n t_' r3 k14 n 0)
def scope_tree_print_L1 (n : Nat) (t_ : tree) (self_ : tree → Int → Option (List UInt8)) (x16 : EP) (k23 : (List (List UInt8)) → Option (List UInt8)) : Nat → (List (List UInt8)) → Nat → Option (List UInt8)
  | 0, _, _ => none
  | m2 + 1, t_28, t_32 =>
  if t_32 < ((x16.Args).length) then
   (x16.Args[t_32]?).bind fun x36 =>
   (ix t_.m_.Vars x36.Var).bind fun x43 =>
   (strconv_Itoa n x36.Var).bind fun r45 =>
   chk ((x43).length + (r45).length ≤ 9223372036854775807) (
   (ix t_.at_ x36.Var).bind fun x54 =>
   jn (fun (t_59 : (List UInt8)) =>
    chk ((x36.Role).length + ([32]).length ≤ 9223372036854775807) (
    chk ((x36.Role ++ [32]).length + (t_59).length ≤ 9223372036854775807) (
    chk ((t_28).length + ([(x36.Role ++ [32]) ++ t_59]).length ≤ 137438953472) (
    scope_tree_print_L1 n t_ self_ x16 k23 m2 (t_28 ++ [(x36.Role ++ [32]) ++ t_59]) (t_32 + 1)))))
     (fun k58 =>
     if (0 : Int) ≤ x54 then
      (self_ t_ x54).bind fun r61 =>
      k58 r61
     else
      k58 (x43 ++ r45)))
  else
   k23 t_28
def scope_tree_print_L0 (n : Nat) (t_ : tree) (t_' : Int) (self_ : tree → Int → Option (List UInt8)) (k3 : (List (List UInt8)) → Option (List UInt8)) : Nat → (List (List UInt8)) → Nat → Option (List UInt8)
  | 0, _, _ => none
  | m1 + 1, t_8, t_12 =>
  if t_12 < ((t_.m_.Rels).length) then
   (t_.m_.Rels[t_12]?).bind fun x16 =>
   if x16.Label ≠ t_' then
    scope_tree_print_L0 n t_ t_' self_ k3 m1 t_8 (t_12 + 1)
   else
    jn (fun (t_24 : (List (List UInt8))) =>
     chk ((x16.Pred).length + ([40]).length ≤ 9223372036854775807) (
     (strings_Join n t_24 [44, 32]).bind fun r76 =>
     chk ((x16.Pred ++ [40]).length + (r76).length ≤ 9223372036854775807) (
     chk (((x16.Pred ++ [40]) ++ r76).length + ([41]).length ≤ 9223372036854775807) (
     chk ((t_8).length + ([((x16.Pred ++ [40]) ++ r76) ++ [41]]).length ≤ 137438953472) (
     scope_tree_print_L0 n t_ t_' self_ k3 m1 (t_8 ++ [((x16.Pred ++ [40]) ++ r76) ++ [41]]) (t_12 + 1))))))
      (fun k23 =>
      scope_tree_print_L1 n t_ self_ x16 k23 n [] 0)
  else
   k3 t_8
/-- (grammarlab/scope.tree).print -/
def scope_tree_print : Nat → tree → Int → Option (List UInt8)
  | 0, _, _ => none
  | n + 1, t_, t_' =>
  jn (fun (t_4 : (List (List UInt8))) =>
   (strings_Join n t_4 [32, 38, 32]).bind fun r90 =>
   some r90)
    (fun k3 =>
    scope_tree_print_L0 n t_ t_' (scope_tree_print n) k3 n [] 0)
/-- grammarlab/scope.Print -/
def scope_Print (n : Nat) (m_ : MRS) (plug_ : (List Int)) : Option ((List UInt8) × Int) :=
 (scope_Valid n m_ plug_).bind fun r3 =>
 if r3 ≠ 0 then
  some ([], r3)
 else
  (scope_plugged n m_ plug_).bind fun r9 =>
  (ix r9.at_ m_.Top).bind fun x17 =>
  (scope_tree_print n r9 x17).bind fun r19 =>
  some (r19, 0)
/-- grammarlab/grammarlabref39.fail -/
def r39_fail (n : Nat) (r_ : reader) : Option reader :=
 jn (fun (t_6 : Bool) =>
  jn (fun (r_9 : Int) =>
   some (reader.mk r_.s_ r_.at_ r_9 r_.sorts_ r_.texts_))
    (fun k8 =>
    if t_6 = true then
     k8 9
    else
     if r_.e_ = 0 then
      k8 8
     else
      k8 r_.e_))
   (fun k5 =>
   if r_.e_ = 0 then
    k5 (decide ((((r_.s_).length : Nat) : Int) ≤ r_.at_))
   else
    k5 false)
/-- grammarlab/grammarlabref39.between -/
def r39_between (n : Nat) (c_ : UInt8) (a_ : UInt8) (b_ : UInt8) : Option Bool :=
 if a_.toNat ≤ c_.toNat then
  some (decide (c_.toNat ≤ b_.toNat))
 else
  some false
def r39_variableOf_L0 (n : Nat) (t_ : reader) (k43 : Int → Option (reader × Int)) : Nat → Int → Option (reader × Int)
  | 0, _ => none
  | m1 + 1, b_45 =>
  jn (fun (t_47 : Bool) =>
   if t_47 = true then
    chk (-9223372036854775808 ≤ b_45 + 1 ∧ b_45 + 1 ≤ 9223372036854775807) (
    r39_variableOf_L0 n t_ k43 m1 (b_45 + 1))
   else
    k43 b_45)
    (fun k46 =>
    if b_45 < (((t_.s_).length : Nat) : Int) then
     (ix t_.s_ b_45).bind fun c49 =>
     (r39_between n c49 (48 : UInt8) (57 : UInt8)).bind fun r50 =>
     if r50 = true then
      if b_45 = (t_.at_ + 1) then
       k46 true
      else
       (ix t_.s_ (t_.at_ + 1)).bind fun c57 =>
       k46 (decide (c57.toNat ≠ 48))
     else
      k46 false
    else
     k46 false)
/-- grammarlab/grammarlabref39.variableOf -/
def r39_variableOf (n : Nat) (t_ : reader) : Option (reader × Int) :=
 if t_.e_ ≠ 0 then
  some (t_, 0)
 else
  jn (fun (t_7 : Bool) =>
   if t_7 = true then
    (r39_fail n t_).bind fun r19 =>
    some (r19, 0)
   else
    chk (-9223372036854775808 ≤ t_.at_ + 1 ∧ t_.at_ + 1 ≤ 9223372036854775807) (
    chk (0 ≤ t_.at_) (
    chk (0 ≤ (t_.at_ + 1)) (
    chk ((t_.at_).toNat ≤ (t_.at_ + 1).toNat ∧ (t_.at_ + 1).toNat ≤ (t_.s_).length) (
    jn (fun (t_29 : Bool) =>
     if t_29 = true then
      (r39_fail n (reader.mk t_.s_ (t_.at_ + 1) t_.e_ t_.sorts_ t_.texts_)).bind fun r38 =>
      some (r38, 0)
     else
      jn (fun (b_44 : Int) =>
       chk ((t_.sorts_).length + ([((t_.s_).drop ((t_.at_).toNat)).take ((t_.at_ + 1).toNat - ((t_.at_).toNat))]).length ≤ 137438953472) (
       chk (0 ≤ b_44) (
       chk ((t_.at_ + 1).toNat ≤ (b_44).toNat ∧ (b_44).toNat ≤ (t_.s_).length) (
       chk ((t_.texts_).length + ([((t_.s_).drop ((t_.at_ + 1).toNat)).take ((b_44).toNat - ((t_.at_ + 1).toNat))]).length ≤ 137438953472) (
       some ((reader.mk t_.s_ b_44 t_.e_ (t_.sorts_ ++ [((t_.s_).drop ((t_.at_).toNat)).take ((t_.at_ + 1).toNat - ((t_.at_).toNat))]) (t_.texts_ ++ [((t_.s_).drop ((t_.at_ + 1).toNat)).take ((b_44).toNat - ((t_.at_ + 1).toNat))])), (((t_.texts_ ++ [((t_.s_).drop ((t_.at_ + 1).toNat)).take ((b_44).toNat - ((t_.at_ + 1).toNat))]).length : Nat) : Int) - 1))))))
        (fun k43 =>
        r39_variableOf_L0 n t_ k43 n (t_.at_ + 1)))
      (fun k28 =>
      if (((t_.s_).length : Nat) : Int) ≤ (t_.at_ + 1) then
       k28 true
      else
       (ix t_.s_ (t_.at_ + 1)).bind fun c31 =>
       (r39_between n c31 (48 : UInt8) (57 : UInt8)).bind fun r32 =>
       k28 (!(r32))))))))
    (fun k6 =>
    if (((t_.s_).length : Nat) : Int) ≤ t_.at_ then
     k6 true
    else
     chk (-9223372036854775808 ≤ t_.at_ + 1 ∧ t_.at_ + 1 ≤ 9223372036854775807) (
     chk (0 ≤ t_.at_) (
     chk (0 ≤ (t_.at_ + 1)) (
     chk ((t_.at_).toNat ≤ (t_.at_ + 1).toNat ∧ (t_.at_ + 1).toNat ≤ (t_.s_).length) (
     (r39_sorted n (((t_.s_).drop ((t_.at_).toNat)).take ((t_.at_ + 1).toNat - ((t_.at_).toNat)))).bind fun r13 =>
     k6 (!(r13)))))))
def r39_word_L0 (n : Nat) (r_ : reader) (w_ : (List UInt8)) (k5 : Int → Option reader) : Nat → Nat → Int → Option reader
  | 0, _, _ => none
  | m1 + 1, i_7, r_8 =>
  jn (fun (t_10 : Bool) =>
   if t_10 = true then
    jn (fun (t_14 : Bool) =>
     if t_14 = true then
      (r39_fail n (reader.mk r_.s_ r_8 r_.e_ r_.sorts_ r_.texts_)).bind fun r19 =>
      some r19
     else
      chk (-9223372036854775808 ≤ r_8 + 1 ∧ r_8 + 1 ≤ 9223372036854775807) (
      chk (i_7 + 1 ≤ 9223372036854775807) (
      r39_word_L0 n r_ w_ k5 m1 (i_7 + 1) (r_8 + 1))))
      (fun k13 =>
      if (((r_.s_).length : Nat) : Int) ≤ r_8 then
       k13 true
      else
       (ix r_.s_ r_8).bind fun c16 =>
       (w_[i_7]?).bind fun c17 =>
       k13 (decide (c16.toNat ≠ c17.toNat)))
   else
    k5 r_8)
    (fun k9 =>
    if i_7 < ((w_).length) then
     k9 (decide (r_.e_ = 0))
    else
     k9 false)
/-- grammarlab/grammarlabref39.word -/
def r39_word (n : Nat) (r_ : reader) (w_ : (List UInt8)) : Option reader :=
 jn (fun (r_6 : Int) =>
  some (reader.mk r_.s_ r_6 r_.e_ r_.sorts_ r_.texts_))
   (fun k5 =>
   r39_word_L0 n r_ w_ k5 n 0 r_.at_)
/-- grammarlab/grammarlabref39.next -/
def r39_next (n : Nat) (r_ : reader) (c_ : UInt8) : Option Bool :=
 if r_.e_ = 0 then
  if r_.at_ < (((r_.s_).length : Nat) : Int) then
   (ix r_.s_ r_.at_).bind fun c5 =>
   some (decide (c5.toNat = c_.toNat))
  else
   some false
 else
  some false
def r39_run_L0 (n : Nat) (t_ : reader) (t_' : UInt8) (t_'' : UInt8) (k21 : Int → Option (reader × (List UInt8))) : Nat → Int → Option (reader × (List UInt8))
  | 0, _ => none
  | m1 + 1, b_23 =>
  jn (fun (t_25 : Bool) =>
   if t_25 = true then
    chk (-9223372036854775808 ≤ b_23 + 1 ∧ b_23 + 1 ≤ 9223372036854775807) (
    r39_run_L0 n t_ t_' t_'' k21 m1 (b_23 + 1))
   else
    k21 b_23)
    (fun k24 =>
    if b_23 < (((t_.s_).length : Nat) : Int) then
     (ix t_.s_ b_23).bind fun c27 =>
     (r39_between n c27 t_' t_'').bind fun r28 =>
     if r28 = true then
      k24 true
     else
      (r39_between n c27 (48 : UInt8) (57 : UInt8)).bind fun r34 =>
      if r34 = true then
       k24 true
      else
       k24 (decide (c27.toNat = 45))
    else
     k24 false)
/-- grammarlab/grammarlabref39.run -/
def r39_run (n : Nat) (t_ : reader) (t_' : UInt8) (t_'' : UInt8) : Option (reader × (List UInt8)) :=
 if t_.e_ ≠ 0 then
  some (t_, [])
 else
  jn (fun (t_7 : Bool) =>
   if t_7 = true then
    (r39_fail n t_).bind fun r16 =>
    some (r16, [])
   else
    jn (fun (b_22 : Int) =>
     chk (0 ≤ t_.at_) (
     chk (0 ≤ b_22) (
     chk ((t_.at_).toNat ≤ (b_22).toNat ∧ (b_22).toNat ≤ (t_.s_).length) (
     some ((reader.mk t_.s_ b_22 t_.e_ t_.sorts_ t_.texts_), ((t_.s_).drop ((t_.at_).toNat)).take ((b_22).toNat - ((t_.at_).toNat)))))))
      (fun k21 =>
      r39_run_L0 n t_ t_' t_'' k21 n t_.at_))
    (fun k6 =>
    if (((t_.s_).length : Nat) : Int) ≤ t_.at_ then
     k6 true
    else
     (ix t_.s_ t_.at_).bind fun c9 =>
     (r39_between n c9 t_' t_'').bind fun r10 =>
     k6 (!(r10)))
def r39_arguments_L0 (n : Nat) (k7 : (List Arg) → (List UInt8) → Int → Int → (List (List UInt8)) → (List (List UInt8)) → Option (reader × (List Arg))) : Nat → (List Arg) → (List UInt8) → Int → Int → (List (List UInt8)) → (List (List UInt8)) → Option (reader × (List Arg))
  | 0, _, _, _, _, _, _ => none
  | m1 + 1, out_23, r_27, r_28, r_29, r_30, r_34 =>
  jn (fun (t_39 : Bool) =>
   if t_39 = true then
    (r39_run n (reader.mk r_27 r_28 r_29 r_30 r_34) (65 : UInt8) (90 : UInt8)).bind fun r48 =>
    (r39_word n r48.1 [32]).bind fun r53 =>
    (r39_variableOf n r53).bind fun r58 =>
    chk ((out_23).length + ([(Arg.mk r48.2 r58.2)]).length ≤ 137438953472) (
    (r39_next n r58.1 (44 : UInt8)).bind fun r70 =>
    if (!(r70)) = true then
     k7 (out_23 ++ [(Arg.mk r48.2 r58.2)]) r58.1.s_ r58.1.at_ r58.1.e_ r58.1.sorts_ r58.1.texts_
    else
     (r39_word n r58.1 [44, 32]).bind fun r76 =>
     r39_arguments_L0 n k7 m1 (out_23 ++ [(Arg.mk r48.2 r58.2)]) r76.s_ r76.at_ r76.e_ r76.sorts_ r76.texts_)
   else
    k7 out_23 r_27 r_28 r_29 r_30 r_34)
    (fun k38 =>
    if r_29 = 0 then
     if ((out_23).length) = 0 then
      (r39_next n (reader.mk r_27 r_28 r_29 r_30 r_34) (41 : UInt8)).bind fun r42 =>
      k38 (!(r42))
     else
      k38 true
    else
     k38 false)
/-- grammarlab/grammarlabref39.arguments -/
def r39_arguments (n : Nat) (r_ : reader) : Option (reader × (List Arg)) :=
 jn (fun (out_8 : (List Arg)) (r_12 : (List UInt8)) (r_13 : Int) (r_14 : Int) (r_15 : (List (List UInt8))) (r_19 : (List (List UInt8))) =>
  (r39_word n (reader.mk r_12 r_13 r_14 r_15 r_19) [41]).bind fun r81 =>
  some (r81, out_8))
   (fun k7 =>
   r39_arguments_L0 n k7 n [] r_.s_ r_.at_ r_.e_ r_.sorts_ r_.texts_)
def r39_predications_L0 (n : Nat) (k7 : (List EP) → (List UInt8) → Int → Int → (List (List UInt8)) → (List (List UInt8)) → Option (reader × (List EP))) : Nat → (List EP) → (List UInt8) → Int → Int → (List (List UInt8)) → (List (List UInt8)) → Option (reader × (List EP))
  | 0, _, _, _, _, _, _ => none
  | m1 + 1, out_23, r_27, r_28, r_29, r_30, r_34 =>
  jn (fun (t_39 : Bool) =>
   if t_39 = true then
    (r39_variableOf n (reader.mk r_27 r_28 r_29 r_30 r_34)).bind fun r50 =>
    (r39_word n r50.1 [58]).bind fun r55 =>
    (r39_run n r55 (97 : UInt8) (122 : UInt8)).bind fun r60 =>
    (r39_word n r60.1 [40]).bind fun r65 =>
    (r39_arguments n r65).bind fun r70 =>
    chk ((out_23).length + ([(EP.mk r60.2 r50.2 r70.2)]).length ≤ 137438953472) (
    (r39_next n r70.1 (59 : UInt8)).bind fun r82 =>
    if (!(r82)) = true then
     k7 (out_23 ++ [(EP.mk r60.2 r50.2 r70.2)]) r70.1.s_ r70.1.at_ r70.1.e_ r70.1.sorts_ r70.1.texts_
    else
     (r39_word n r70.1 [59, 32]).bind fun r88 =>
     r39_predications_L0 n k7 m1 (out_23 ++ [(EP.mk r60.2 r50.2 r70.2)]) r88.s_ r88.at_ r88.e_ r88.sorts_ r88.texts_)
   else
    k7 out_23 r_27 r_28 r_29 r_30 r_34)
    (fun k38 =>
    if r_29 = 0 then
     if ((out_23).length) = 0 then
      (r39_next n (reader.mk r_27 r_28 r_29 r_30 r_34) (125 : UInt8)).bind fun r42 =>
      k38 (!(r42))
     else
      k38 true
    else
     k38 false)
/-- grammarlab/grammarlabref39.predications -/
def r39_predications (n : Nat) (r_ : reader) : Option (reader × (List EP)) :=
 jn (fun (out_8 : (List EP)) (r_12 : (List UInt8)) (r_13 : Int) (r_14 : Int) (r_15 : (List (List UInt8))) (r_19 : (List (List UInt8))) =>
  (r39_word n (reader.mk r_12 r_13 r_14 r_15 r_19) [125]).bind fun r93 =>
  some (r93, out_8))
   (fun k7 =>
   r39_predications_L0 n k7 n [] r_.s_ r_.at_ r_.e_ r_.sorts_ r_.texts_)
def r39_constraints_L0 (n : Nat) (k7 : (List Qeq) → (List UInt8) → Int → Int → (List (List UInt8)) → (List (List UInt8)) → Option (reader × (List Qeq))) : Nat → (List Qeq) → (List UInt8) → Int → Int → (List (List UInt8)) → (List (List UInt8)) → Option (reader × (List Qeq))
  | 0, _, _, _, _, _, _ => none
  | m1 + 1, out_23, r_27, r_28, r_29, r_30, r_34 =>
  jn (fun (t_39 : Bool) =>
   if t_39 = true then
    (r39_variableOf n (reader.mk r_27 r_28 r_29 r_30 r_34)).bind fun r48 =>
    (r39_word n r48.1 [32, 113, 101, 113, 32]).bind fun r53 =>
    (r39_variableOf n r53).bind fun r58 =>
    chk ((out_23).length + ([(Qeq.mk r48.2 r58.2)]).length ≤ 137438953472) (
    (r39_next n r58.1 (59 : UInt8)).bind fun r70 =>
    if (!(r70)) = true then
     k7 (out_23 ++ [(Qeq.mk r48.2 r58.2)]) r58.1.s_ r58.1.at_ r58.1.e_ r58.1.sorts_ r58.1.texts_
    else
     (r39_word n r58.1 [59, 32]).bind fun r76 =>
     r39_constraints_L0 n k7 m1 (out_23 ++ [(Qeq.mk r48.2 r58.2)]) r76.s_ r76.at_ r76.e_ r76.sorts_ r76.texts_)
   else
    k7 out_23 r_27 r_28 r_29 r_30 r_34)
    (fun k38 =>
    if r_29 = 0 then
     if ((out_23).length) = 0 then
      (r39_next n (reader.mk r_27 r_28 r_29 r_30 r_34) (125 : UInt8)).bind fun r42 =>
      k38 (!(r42))
     else
      k38 true
    else
     k38 false)
/-- grammarlab/grammarlabref39.constraints -/
def r39_constraints (n : Nat) (r_ : reader) : Option (reader × (List Qeq)) :=
 jn (fun (out_8 : (List Qeq)) (r_12 : (List UInt8)) (r_13 : Int) (r_14 : Int) (r_15 : (List (List UInt8))) (r_19 : (List (List UInt8))) =>
  (r39_word n (reader.mk r_12 r_13 r_14 r_15 r_19) [125]).bind fun r81 =>
  some (r81, out_8))
   (fun k7 =>
   r39_constraints_L0 n k7 n [] r_.s_ r_.at_ r_.e_ r_.sorts_ r_.texts_)
def r01_Number_L0 (n : Nat) (t_6 : (List UInt8)) (k16 : Option (Int × Int)) : Nat → Nat → Option (Int × Int)
  | 0, _ => none
  | m1 + 1, t_17 =>
  if t_17 < ((t_6).length) then
   (t_6[t_17]?).bind fun c20 =>
   (r01_digit n c20).bind fun r21 =>
   if (!(r21)) = true then
    some (0, 8)
   else
    r01_Number_L0 n t_6 k16 m1 (t_17 + 1)
  else
   k16
def r01_Number_L1 (n : Nat) (t_6 : (List UInt8)) (k27 : Int → Option (Int × Int)) : Nat → Int → Nat → Option (Int × Int)
  | 0, _, _ => none
  | m2 + 1, t_29, t_30 =>
  if t_30 < ((t_6).length) then
   (t_6[t_30]?).bind fun c33 =>
   if (IntKind.u64.wrap ((IntKind.u64.wrap (9223372036854775808 - (((c33 - (48 : UInt8)).toNat : Nat) : Int))).tdiv 10)) < t_29 then
    some (0, 2)
   else
    r01_Number_L1 n t_6 k27 m2 (IntKind.u64.wrap ((IntKind.u64.wrap (t_29 * 10)) + (((c33 - (48 : UInt8)).toNat : Nat) : Int))) (t_30 + 1)
  else
   k27 t_29
/-- grammarlab/grammarlabref01.Number -/
def r01_Number (n : Nat) (t_ : (List UInt8)) : Option (Int × Int) :=
 jn (fun (t_2 : Bool) =>
  jn (fun (t_6 : (List UInt8)) =>
   jn (fun (t_10 : Bool) =>
    if t_10 = true then
     some (0, 8)
    else
     jn (
      jn (fun (t_28 : Int) =>
       if ((t_6).length) < ((t_).length) then
        some (IntKind.i64.wrap (IntKind.u64.wrap (-(t_28))), 0)
       else
        if t_28 = 9223372036854775808 then
         some (0, 2)
        else
         chk (-9223372036854775808 ≤ t_28 ∧ t_28 ≤ 9223372036854775807) (
         some (t_28, 0)))
        (fun k27 =>
        r01_Number_L1 n t_6 k27 n 0 0))
       (fun k16 =>
       r01_Number_L0 n t_6 k16 n 0))
     (fun k9 =>
     if (t_6 : List UInt8) = [] then
      k9 true
     else
      (t_6[0]?).bind fun c12 =>
      if c12.toNat = 48 then
       if (1 : Nat) < ((t_6).length) then
        k9 true
       else
        k9 (decide ((1 : Nat) < ((t_).length)))
      else
       k9 false))
    (fun k5 =>
    if t_2 = true then
     chk (1 ≤ (t_).length) (
     k5 ((t_).drop 1))
    else
     k5 t_))
   (fun k1 =>
   if (0 : Nat) < ((t_).length) then
    (t_[0]?).bind fun c4 =>
    k1 (decide (c4.toNat = 45))
   else
    k1 false)
def r39_numbers_L0 (n : Nat) (t_ : reader) (k5 : (List Int) → Int → Option ((List Int) × (List (List UInt8)) × Int)) : Nat → (List Int) → Int → Nat → Option ((List Int) × (List (List UInt8)) × Int)
  | 0, _, _, _ => none
  | m1 + 1, t_11, t_15, t_16 =>
  if t_16 < ((t_.texts_).length) then
   (t_.texts_[t_16]?).bind fun x20 =>
   (r01_Number n x20).bind fun r22 =>
   if r22.2 ≠ 0 then
    some ([], [], 2)
   else
    chk ((t_11).length + ([r22.1]).length ≤ 137438953472) (
    r39_numbers_L0 n t_ k5 m1 (t_11 ++ [r22.1]) (if t_15 < r22.1 then r22.1 else t_15) (t_16 + 1))
  else
   k5 t_11 t_15
def r39_numbers_L2 (n : Nat) (t_ : reader) (t_6 : (List Int)) (t_38 : Nat) (k41 : Option ((List Int) × (List (List UInt8)) × Int)) : Nat → Nat → Option ((List Int) × (List (List UInt8)) × Int)
  | 0, _ => none
  | m3 + 1, t_42 =>
  if t_42 < t_38 then
   jn (fun (t_45 : Bool) =>
    if t_45 = true then
     some ([], [], 17)
    else
     chk (t_42 + 1 ≤ 9223372036854775807) (
     r39_numbers_L2 n t_ t_6 t_38 k41 m3 (t_42 + 1)))
     (fun k44 =>
     (t_6[t_42]?).bind fun x47 =>
     (t_6[t_38]?).bind fun x50 =>
     if x47 = x50 then
      (t_.sorts_[t_42]?).bind fun x54 =>
      (t_.sorts_[t_38]?).bind fun x57 =>
      k44 (decide ((x54 : List UInt8) ≠ x57))
     else
      k44 false)
  else
   k41
def r39_numbers_L1 (n : Nat) (t_ : reader) (t_6 : (List Int)) (k37 : Option ((List Int) × (List (List UInt8)) × Int)) : Nat → Nat → Option ((List Int) × (List (List UInt8)) × Int)
  | 0, _ => none
  | m2 + 1, t_38 =>
  if t_38 < ((t_6).length) then
   jn (
    r39_numbers_L1 n t_ t_6 k37 m2 (t_38 + 1))
     (fun k41 =>
     r39_numbers_L2 n t_ t_6 t_38 k41 n 0)
  else
   k37
def r39_numbers_L3 (n : Nat) (t_ : reader) (t_6 : (List Int)) (t_10 : Int) (k76 : (List (List UInt8)) → Option ((List Int) × (List (List UInt8)) × Int)) : Nat → (List (List UInt8)) → Nat → Option ((List Int) × (List (List UInt8)) × Int)
  | 0, _, _ => none
  | m4 + 1, t_81, t_85 =>
  if ((t_85 : Nat) : Int) ≤ t_10 then
   (r39_place n t_6 ((t_85 : Nat) : Int)).bind fun r87 =>
   if r87 < 0 then
    some ([], [], 3)
   else
    (ix t_.sorts_ r87).bind fun x94 =>
    chk ((t_81).length + ([x94]).length ≤ 137438953472) (
    chk (t_85 + 1 ≤ 9223372036854775807) (
    r39_numbers_L3 n t_ t_6 t_10 k76 m4 (t_81 ++ [x94]) (t_85 + 1)))
  else
   k76 t_81
/-- grammarlab/grammarlabref39.numbers -/
def r39_numbers (n : Nat) (t_ : reader) : Option ((List Int) × (List (List UInt8)) × Int) :=
 jn (fun (t_6 : (List Int)) (t_10 : Int) =>
  jn (
   if (((t_6).length : Nat) : Int) ≤ t_10 then
    some ([], [], 3)
   else
    jn (fun (t_77 : (List (List UInt8))) =>
     some (t_6, t_77, 0))
      (fun k76 =>
      r39_numbers_L3 n t_ t_6 t_10 k76 n [] 0))
    (fun k37 =>
    r39_numbers_L1 n t_ t_6 k37 n 0))
   (fun k5 =>
   r39_numbers_L0 n t_ k5 n [] (-1) 0)
def r39_Parse_L1 (n : Nat) (r70 : ((List Int) × (List (List UInt8)) × Int)) (x101 : EP) (k116 : (List Arg) → Option (MRS × Int)) : Nat → Nat → (List Arg) → Option (MRS × Int)
  | 0, _, _ => none
  | m2 + 1, t_121, b_122 =>
  if t_121 < ((x101.Args).length) then
   (x101.Args[t_121]?).bind fun x135 =>
   (ix r70.1 x135.Var).bind fun x142 =>
   chk ((b_122).length + ([(Arg.mk x135.Role x142)]).length ≤ 137438953472) (
   r39_Parse_L1 n r70 x101 k116 m2 (t_121 + 1) (b_122 ++ [(Arg.mk x135.Role x142)]))
  else
   k116 b_122
def r39_Parse_L0 (n : Nat) (r31 : (reader × (List EP))) (r70 : ((List Int) × (List (List UInt8)) × Int)) (k88 : (List EP) → Option (MRS × Int)) : Nat → Nat → (List EP) → Option (MRS × Int)
  | 0, _, _ => none
  | m1 + 1, t_93, b_94 =>
  if t_93 < ((r31.2).length) then
   (r31.2[t_93]?).bind fun x101 =>
   (ix r70.1 x101.Label).bind fun x106 =>
   jn (fun (b_117 : (List Arg)) =>
    chk ((b_94).length + ([(EP.mk x101.Pred x106 b_117)]).length ≤ 137438953472) (
    r39_Parse_L0 n r31 r70 k88 m1 (t_93 + 1) (b_94 ++ [(EP.mk x101.Pred x106 b_117)])))
     (fun k116 =>
     r39_Parse_L1 n r70 x101 k116 n 0 [])
  else
   k88 b_94
def r39_Parse_L2 (n : Nat) (r41 : (reader × (List Qeq))) (r70 : ((List Int) × (List (List UInt8)) × Int)) (k168 : (List Qeq) → Option (MRS × Int)) : Nat → Nat → (List Qeq) → Option (MRS × Int)
  | 0, _, _ => none
  | m3 + 1, t_173, b_174 =>
  if t_173 < ((r41.2).length) then
   (r41.2[t_173]?).bind fun x181 =>
   (ix r70.1 x181.High).bind fun x184 =>
   (ix r70.1 x181.Low).bind fun x189 =>
   chk ((b_174).length + ([(Qeq.mk x184 x189)]).length ≤ 137438953472) (
   r39_Parse_L2 n r41 r70 k168 m3 (t_173 + 1) (b_174 ++ [(Qeq.mk x184 x189)]))
  else
   k168 b_174
/-- grammarlab/grammarlabref39.Parse -/
def r39_Parse (n : Nat) (t_ : (List UInt8)) : Option (MRS × Int) :=
 if (65536 : Nat) < ((t_).length) then
  some ((MRS.mk 0 0 [] [] []), 7)
 else
  (r39_variableOf n (reader.mk t_ 0 0 [] [])).bind fun r11 =>
  (r39_word n r11.1 [32]).bind fun r16 =>
  (r39_variableOf n r16).bind fun r21 =>
  (r39_word n r21.1 [32, 123]).bind fun r26 =>
  (r39_predications n r26).bind fun r31 =>
  (r39_word n r31.1 [32, 123]).bind fun r36 =>
  (r39_constraints n r36).bind fun r41 =>
  jn (fun (t_49 : Bool) =>
   jn (fun (b_52 : (List UInt8)) (b_53 : Int) (b_54 : Int) (b_55 : (List (List UInt8))) (b_59 : (List (List UInt8))) =>
    if b_54 ≠ 0 then
     some ((MRS.mk 0 0 [] [] []), b_54)
    else
     (r39_numbers n (reader.mk b_52 b_53 b_54 b_55 b_59)).bind fun r70 =>
     if r70.2.2 ≠ 0 then
      some ((MRS.mk 0 0 [] [] []), r70.2.2)
     else
      (ix r70.1 r11.2).bind fun x77 =>
      (ix r70.1 r21.2).bind fun x80 =>
      jn (fun (b_89 : (List EP)) =>
       jn (fun (b_169 : (List Qeq)) =>
        (r39_Check n (MRS.mk x77 x80 r70.2.1 b_89 b_169)).bind fun r206 =>
        if r206 ≠ 0 then
         some ((MRS.mk 0 0 [] [] []), r206)
        else
         some ((MRS.mk x77 x80 r70.2.1 b_89 b_169), 0))
         (fun k168 =>
         r39_Parse_L2 n r41 r70 k168 n 0 []))
        (fun k88 =>
        r39_Parse_L0 n r31 r70 k88 n 0 []))
     (fun k51 =>
     if t_49 = true then
      (r39_fail n r41.1).bind fun r64 =>
      k51 r64.s_ r64.at_ r64.e_ r64.sorts_ r64.texts_
     else
      k51 r41.1.s_ r41.1.at_ r41.1.e_ r41.1.sorts_ r41.1.texts_))
    (fun k48 =>
    if r41.1.e_ = 0 then
     k48 (decide (r41.1.at_ < (((t_).length : Nat) : Int)))
    else
     k48 false)
/-- grammarlab/grammarlablaw41.dog -/
def law41_dog (n : Nat)  : Option MRS :=
 (r39_Parse n [104, 48, 32, 101, 49, 32, 123, 104, 50, 58, 116, 104, 101, 40, 65, 82, 71, 48, 32, 120, 51, 44, 32, 66, 79, 68, 89, 32, 104, 52, 44, 32, 82, 83, 84, 82, 32, 104, 53, 41, 59, 32, 104, 54, 58, 100, 111, 103, 40, 65, 82, 71, 48, 32, 120, 51, 41, 59, 32, 104, 55, 58, 98, 97, 114, 107, 40, 65, 82, 71, 48, 32, 101, 49, 44, 32, 65, 82, 71, 49, 32, 120, 51, 41, 125, 32, 123, 104, 48, 32, 113, 101, 113, 32, 104, 55, 59, 32, 104, 53, 32, 113, 101, 113, 32, 104, 54, 125]).bind fun r3 =>
 some r3.1
/-- grammarlab/grammarlablaw41.exampleHolds -/
def law41_exampleHolds (n : Nat)  : Option Bool :=
 (law41_dog n).bind fun r1 =>
 (scope_Print n r1 [2, 7, 6]).bind fun r9 =>
 (scope_Holes n r1).bind fun r15 =>
 (r41_Same n r15 [0, 4, 5]).bind fun r19 =>
 if r19 = true then
  (scope_Labels n r1).bind fun r23 =>
  (r41_Same n r23 [2, 6, 7]).bind fun r27 =>
  if r27 = true then
   (scope_Below n r1 [2, 7, 6] 2).bind fun r32 =>
   (r41_Same n r32 [2, 6, 7]).bind fun r36 =>
   if r36 = true then
    (scope_Valid n r1 [2, 7, 6]).bind fun r41 =>
    if r41 = 0 then
     (scope_Valid n r1 [7, 2, 6]).bind fun r46 =>
     if r46 = 13 then
      (scope_Valid n r1 []).bind fun r50 =>
      if r50 = 1 then
       if r9.2 = 0 then
        some (decide ((r9.1 : List UInt8) = [116, 104, 101, 40, 65, 82, 71, 48, 32, 120, 51, 44, 32, 66, 79, 68, 89, 32, 98, 97, 114, 107, 40, 65, 82, 71, 48, 32, 101, 49, 44, 32, 65, 82, 71, 49, 32, 120, 51, 41, 44, 32, 82, 83, 84, 82, 32, 100, 111, 103, 40, 65, 82, 71, 48, 32, 120, 51, 41, 41]))
       else
        some false
      else
       some false
     else
      some false
    else
     some false
   else
    some false
  else
   some false
 else
  some false
def r41_Labels_L1 (n : Nat) (m_ : MRS) (v_9 : Nat) (k12 : Bool → Option (List Int)) : Nat → Bool → Nat → Option (List Int)
  | 0, _, _ => none
  | m2 + 1, is_14, i_15 =>
  if i_15 < ((m_.Rels).length) then
   if is_14 = true then
    r41_Labels_L1 n m_ v_9 k12 m2 true (i_15 + 1)
   else
    (m_.Rels[i_15]?).bind fun x20 =>
    r41_Labels_L1 n m_ v_9 k12 m2 (decide (x20.Label = ((v_9 : Nat) : Int))) (i_15 + 1)
  else
   k12 is_14
def r41_Labels_L0 (n : Nat) (m_ : MRS) : Nat → (List Int) → Nat → Option (List Int)
  | 0, _, _ => none
  | m1 + 1, out_5, v_9 =>
  if v_9 < ((m_.Vars).length) then
   jn (fun (is_13 : Bool) =>
    if is_13 = true then
     chk ((out_5).length + ([((v_9 : Nat) : Int)]).length ≤ 137438953472) (
     r41_Labels_L0 n m_ m1 (out_5 ++ [((v_9 : Nat) : Int)]) (v_9 + 1))
    else
     r41_Labels_L0 n m_ m1 out_5 (v_9 + 1))
     (fun k12 =>
     r41_Labels_L1 n m_ v_9 k12 n false 0)
  else
   some out_5
/-- grammarlab/grammarlabref41.Labels -/
def r41_Labels (n : Nat) (m_ : MRS) : Option (List Int) :=
 r41_Labels_L0 n m_ n [] 0
def r41_Has_L0 (n : Nat) (l_ : (List Int)) (n_ : Int) : Nat → Nat → Option Bool
  | 0, _ => none
  | m1 + 1, i_1 =>
  if i_1 < ((l_).length) then
   (l_[i_1]?).bind fun x5 =>
   if x5 = n_ then
    some true
   else
    r41_Has_L0 n l_ n_ m1 (i_1 + 1)
  else
   some false
/-- grammarlab/grammarlabref41.Has -/
def r41_Has (n : Nat) (l_ : (List Int)) (n_ : Int) : Option Bool :=
 r41_Has_L0 n l_ n_ n 0
def r41_argument_L1 (n : Nat) (m_ : MRS) (v_ : Int) (i_4 : Nat) (k7 : Option Bool) : Nat → Nat → Option Bool
  | 0, _ => none
  | m2 + 1, k_8 =>
  (m_.Rels[i_4]?).bind fun x10 =>
  if k_8 < ((x10.Args).length) then
   (x10.Args[k_8]?).bind fun x19 =>
   if x19.Var = v_ then
    some true
   else
    r41_argument_L1 n m_ v_ i_4 k7 m2 (k_8 + 1)
  else
   k7
def r41_argument_L0 (n : Nat) (m_ : MRS) (v_ : Int) : Nat → Nat → Option Bool
  | 0, _ => none
  | m1 + 1, i_4 =>
  if i_4 < ((m_.Rels).length) then
   jn (
    r41_argument_L0 n m_ v_ m1 (i_4 + 1))
     (fun k7 =>
     r41_argument_L1 n m_ v_ i_4 k7 n 0)
  else
   some false
/-- grammarlab/grammarlabref41.argument -/
def r41_argument (n : Nat) (m_ : MRS) (v_ : Int) : Option Bool :=
 if m_.Top = v_ then
  some true
 else
  r41_argument_L0 n m_ v_ n 0
def r41_Holes_L0 (n : Nat) (m_ : MRS) (r3 : (List Int)) : Nat → (List Int) → Nat → Option (List Int)
  | 0, _, _ => none
  | m1 + 1, out_10, v_14 =>
  if v_14 < ((m_.Vars).length) then
   jn (fun (t_18 : Bool) =>
    if t_18 = true then
     chk ((out_10).length + ([((v_14 : Nat) : Int)]).length ≤ 137438953472) (
     r41_Holes_L0 n m_ r3 m1 (out_10 ++ [((v_14 : Nat) : Int)]) (v_14 + 1))
    else
     r41_Holes_L0 n m_ r3 m1 out_10 (v_14 + 1))
     (fun k17 =>
     (m_.Vars[v_14]?).bind fun x20 =>
     if (x20 : List UInt8) = [104] then
      (r41_argument n m_ ((v_14 : Nat) : Int)).bind fun r23 =>
      if r23 = true then
       (r41_Has n r3 ((v_14 : Nat) : Int)).bind fun r27 =>
       k17 (!(r27))
      else
       k17 false
     else
      k17 false)
  else
   some out_10
/-- grammarlab/grammarlabref41.Holes -/
def r41_Holes (n : Nat) (m_ : MRS) : Option (List Int) :=
 (r41_Labels n m_).bind fun r3 =>
 r41_Holes_L0 n m_ r3 n [] 0
/-- grammarlab/grammarlablaw41.ScopeHandles -/
def law41_ScopeHandles (n : Nat) (m_ : MRS) : Option Bool :=
 (law41_valid n m_).bind fun r3 =>
 if (!(r3)) = true then
  (law41_exampleHolds n).bind fun r9 =>
  some r9
 else
  (scope_Holes n m_).bind fun r14 =>
  (r41_Holes n m_).bind fun r17 =>
  (r41_Same n r14 r17).bind fun r20 =>
  if r20 = true then
   (scope_Labels n m_).bind fun r24 =>
   (r41_Labels n m_).bind fun r27 =>
   (r41_Same n r24 r27).bind fun r30 =>
   if r30 = true then
    (law41_exampleHolds n).bind fun r34 =>
    some r34
   else
    some false
  else
   some false
def law41_labelled_L0 (n : Nat) (choose_ : (List UInt8)) (r3 : (List Int)) (r6 : (List Int)) : Nat → (List Int) → Nat → Option (List Int)
  | 0, _, _ => none
  | m1 + 1, out_15, t_19 =>
  if t_19 < ((r6).length) then
   jn (fun (k_22 : Nat) =>
    if (0 : Nat) < ((r3).length) then
     chk (0 < (r3).length) (
     (r3[k_22 % ((r3).length)]?).bind fun x34 =>
     chk ((out_15).length + ([x34]).length ≤ 137438953472) (
     chk (t_19 + 1 ≤ 9223372036854775807) (
     law41_labelled_L0 n choose_ r3 r6 m1 (out_15 ++ [x34]) (t_19 + 1))))
    else
     chk (t_19 + 1 ≤ 9223372036854775807) (
     law41_labelled_L0 n choose_ r3 r6 m1 out_15 (t_19 + 1)))
     (fun k21 =>
     if t_19 < ((choose_).length) then
      (choose_[t_19]?).bind fun x26 =>
      k21 x26.toNat
     else
      k21 0)
  else
   some out_15
/-- grammarlab/grammarlablaw41.labelled -/
def law41_labelled (n : Nat) (m_ : MRS) (choose_ : (List UInt8)) : Option (List Int) :=
 (r41_Labels n m_).bind fun r3 =>
 (r41_Holes n m_).bind fun r6 =>
 law41_labelled_L0 n choose_ r3 r6 n [] 0
def r41_at_L0 (n : Nat) (plug_ : (List Int)) (v_ : Int) (r3 : (List Int)) (k8 : Option Int) : Nat → Nat → Option Int
  | 0, _ => none
  | m1 + 1, i_9 =>
  if i_9 < ((r3).length) then
   (r3[i_9]?).bind fun x13 =>
   if x13 = v_ then
    (plug_[i_9]?).bind fun x19 =>
    some x19
   else
    r41_at_L0 n plug_ v_ r3 k8 m1 (i_9 + 1)
  else
   k8
/-- grammarlab/grammarlabref41.at -/
def r41_at (n : Nat) (m_ : MRS) (plug_ : (List Int)) (v_ : Int) : Option Int :=
 (r41_Holes n m_).bind fun r3 =>
 jn (
  (r41_Labels n m_).bind fun r23 =>
  (r41_Has n r23 v_).bind fun r26 =>
  if r26 = true then
   some v_
  else
   some (-1))
   (fun k8 =>
   r41_at_L0 n plug_ v_ r3 k8 n 0)
def r41_children_L1 (n : Nat) (m_ : MRS) (plug_ : (List Int)) (label_ : Int) (i_9 : Nat) (k12 : (List Int) → Option (List Int)) : Nat → (List Int) → Nat → Option (List Int)
  | 0, _, _ => none
  | m2 + 1, out_17, k_21 =>
  jn (fun (t_23 : Bool) =>
   if t_23 = true then
    (m_.Rels[i_9]?).bind fun x38 =>
    (x38.Args[k_21]?).bind fun x41 =>
    (r41_at n m_ plug_ x41.Var).bind fun r43 =>
    if (0 : Int) ≤ r43 then
     chk ((out_17).length + ([r43]).length ≤ 137438953472) (
     chk (k_21 + 1 ≤ 9223372036854775807) (
     r41_children_L1 n m_ plug_ label_ i_9 k12 m2 (out_17 ++ [r43]) (k_21 + 1)))
    else
     chk (k_21 + 1 ≤ 9223372036854775807) (
     r41_children_L1 n m_ plug_ label_ i_9 k12 m2 out_17 (k_21 + 1))
   else
    k12 out_17)
    (fun k22 =>
    (m_.Rels[i_9]?).bind fun x25 =>
    if k_21 < ((x25.Args).length) then
     k22 (decide (x25.Label = label_))
    else
     k22 false)
def r41_children_L0 (n : Nat) (m_ : MRS) (plug_ : (List Int)) (label_ : Int) : Nat → (List Int) → Nat → Option (List Int)
  | 0, _, _ => none
  | m1 + 1, out_5, i_9 =>
  if i_9 < ((m_.Rels).length) then
   jn (fun (out_13 : (List Int)) =>
    r41_children_L0 n m_ plug_ label_ m1 out_13 (i_9 + 1))
     (fun k12 =>
     r41_children_L1 n m_ plug_ label_ i_9 k12 n out_5 0)
  else
   some out_5
/-- grammarlab/grammarlabref41.children -/
def r41_children (n : Nat) (m_ : MRS) (plug_ : (List Int)) (label_ : Int) : Option (List Int) :=
 r41_children_L0 n m_ plug_ label_ n [] 0
def r41_Below_L1 (n : Nat) (k28 : (List Int) → Option (List Int)) (r36 : (List Int)) : Nat → (List Int) → Nat → Option (List Int)
  | 0, _, _ => none
  | m2 + 1, t_43, t_47 =>
  if t_47 < ((r36).length) then
   (r36[t_47]?).bind fun x51 =>
   (r41_Has n t_43 x51).bind fun r53 =>
   if (!(r53)) = true then
    chk ((t_43).length + ([x51]).length ≤ 137438953472) (
    r41_Below_L1 n k28 r36 m2 (t_43 ++ [x51]) (t_47 + 1))
   else
    r41_Below_L1 n k28 r36 m2 t_43 (t_47 + 1)
  else
   k28 t_43
def r41_Below_L0 (n : Nat) (t_ : MRS) (t_' : (List Int)) (k16 : (List Int) → Option (List Int)) : Nat → (List Int) → Nat → Option (List Int)
  | 0, _, _ => none
  | m1 + 1, t_21, t_25 =>
  if t_25 < ((t_21).length) then
   jn (fun (t_29 : (List Int)) =>
    r41_Below_L0 n t_ t_' k16 m1 t_29 (t_25 + 1))
     (fun k28 =>
     (t_21[t_25]?).bind fun x34 =>
     (r41_children n t_ t_' x34).bind fun r36 =>
     r41_Below_L1 n k28 r36 n t_21 0)
  else
   k16 t_21
def r41_Below_L2 (n : Nat) (r3 : (List Int)) (t_17 : (List Int)) : Nat → (List Int) → Nat → Option (List Int)
  | 0, _, _ => none
  | m3 + 1, t_74, t_78 =>
  if t_78 < ((r3).length) then
   (r3[t_78]?).bind fun x82 =>
   (r41_Has n t_17 x82).bind fun r84 =>
   if r84 = true then
    chk ((t_74).length + ([x82]).length ≤ 137438953472) (
    r41_Below_L2 n r3 t_17 m3 (t_74 ++ [x82]) (t_78 + 1))
   else
    r41_Below_L2 n r3 t_17 m3 t_74 (t_78 + 1)
  else
   some t_74
/-- grammarlab/grammarlabref41.Below -/
def r41_Below (n : Nat) (t_ : MRS) (t_' : (List Int)) (t_'' : Int) : Option (List Int) :=
 (r41_Labels n t_).bind fun r3 =>
 (r41_Has n r3 t_'').bind fun r8 =>
 if (!(r8)) = true then
  some []
 else
  jn (fun (t_17 : (List Int)) =>
   r41_Below_L2 n r3 t_17 n [] 0)
    (fun k16 =>
    r41_Below_L0 n t_ t_' k16 n [t_''] 0)
/-- grammarlab/grammarlablaw41.ScopeBelow -/
def law41_ScopeBelow (n : Nat) (m_ : MRS) (choose_ : (List UInt8)) (label_ : Int) : Option Bool :=
 (law41_valid n m_).bind fun r3 =>
 if (!(r3)) = true then
  (law41_exampleHolds n).bind fun r9 =>
  some r9
 else
  (law41_labelled n m_ choose_).bind fun r14 =>
  (r41_Holes n m_).bind fun r19 =>
  if ((r14).length) ≠ ((r19).length) then
   (law41_exampleHolds n).bind fun r25 =>
   some r25
  else
   (scope_Below n m_ r14 label_).bind fun r30 =>
   (r41_Below n m_ r14 label_).bind fun r33 =>
   (r41_Same n r30 r33).bind fun r36 =>
   if r36 = true then
    (law41_exampleHolds n).bind fun r40 =>
    some r40
   else
    some false
def r41_tree_L1 (n : Nat) (r3 : Int) (k29 : (List Int) → Option Bool) (r37 : (List Int)) : Nat → (List Int) → Nat → Option Bool
  | 0, _, _ => none
  | m2 + 1, t_44, t_48 =>
  if t_48 < ((r37).length) then
   jn (fun (t_52 : Bool) =>
    if t_52 = true then
     some false
    else
     (r37[t_48]?).bind fun x72 =>
     chk ((t_44).length + ([x72]).length ≤ 137438953472) (
     r41_tree_L1 n r3 k29 r37 m2 (t_44 ++ [x72]) (t_48 + 1)))
     (fun k51 =>
     (r37[t_48]?).bind fun x54 =>
     if x54 = r3 then
      k51 true
     else
      (r41_Has n t_44 x54).bind fun r61 =>
      k51 r61)
  else
   k29 t_44
def r41_tree_L0 (n : Nat) (t_ : MRS) (t_' : (List Int)) (r3 : Int) (r9 : (List Int)) : Nat → (List Int) → Nat → Option Bool
  | 0, _, _ => none
  | m1 + 1, t_22, t_26 =>
  if t_26 < ((r9).length) then
   jn (fun (t_30 : (List Int)) =>
    r41_tree_L0 n t_ t_' r3 r9 m1 t_30 (t_26 + 1))
     (fun k29 =>
     (r9[t_26]?).bind fun x35 =>
     (r41_children n t_ t_' x35).bind fun r37 =>
     r41_tree_L1 n r3 k29 r37 n t_22 0)
  else
   some true
/-- grammarlab/grammarlabref41.tree -/
def r41_tree (n : Nat) (t_ : MRS) (t_' : (List Int)) : Option Bool :=
 (r41_at n t_ t_' t_.Top).bind fun r3 =>
 if r3 < 0 then
  some false
 else
  (r41_Labels n t_).bind fun r9 =>
  (r41_Below n t_ t_' r3).bind fun r14 =>
  if ((r14).length) ≠ ((r9).length) then
   some false
  else
   r41_tree_L0 n t_ t_' r3 r9 n [] 0
def r41_role_L0 (n : Nat) (e_ : EP) (name_ : (List UInt8)) : Nat → Nat → Option Int
  | 0, _ => none
  | m1 + 1, i_3 =>
  if i_3 < ((e_.Args).length) then
   (e_.Args[i_3]?).bind fun x7 =>
   if (x7.Role : List UInt8) = name_ then
    some x7.Var
   else
    r41_role_L0 n e_ name_ m1 (i_3 + 1)
  else
   some (-1)
/-- grammarlab/grammarlabref41.role -/
def r41_role (n : Nat) (e_ : EP) (name_ : (List UInt8)) : Option Int :=
 r41_role_L0 n e_ name_ n 0
/-- grammarlab/grammarlabref41.quantifier -/
def r41_quantifier (n : Nat) (e_ : EP) : Option Bool :=
 (r41_role n e_ [66, 79, 68, 89]).bind fun r3 =>
 if (0 : Int) ≤ r3 then
  (r41_role n e_ [82, 83, 84, 82]).bind fun r7 =>
  some (decide ((0 : Int) ≤ r7))
 else
  some false
def r41_reaches_L0 (n : Nat) (m_ : MRS) (plug_ : (List Int)) (low_ : Int) (steps_ : Int) (self_ : MRS → (List Int) → Int → Int → Int → Option Bool) (r3 : Int) : Nat → Nat → Option Bool
  | 0, _ => none
  | m1 + 1, i_13 =>
  if i_13 < ((m_.Rels).length) then
   jn (fun (t_17 : Bool) =>
    if t_17 = true then
     some true
    else
     r41_reaches_L0 n m_ plug_ low_ steps_ self_ r3 m1 (i_13 + 1))
     (fun k16 =>
     (m_.Rels[i_13]?).bind fun x19 =>
     if x19.Label = r3 then
      (r41_quantifier n x19).bind fun r24 =>
      if r24 = true then
       (r41_role n x19 [66, 79, 68, 89]).bind fun r30 =>
       chk (-9223372036854775808 ≤ steps_ - 1 ∧ steps_ - 1 ≤ 9223372036854775807) (
       (self_ m_ plug_ r30 low_ (steps_ - 1)).bind fun r34 =>
       k16 r34)
      else
       k16 false
     else
      k16 false)
  else
   some false
/-- grammarlab/grammarlabref41.reaches -/
def r41_reaches : Nat → MRS → (List Int) → Int → Int → Int → Option Bool
  | 0, _, _, _, _, _ => none
  | n + 1, m_, plug_, high_, low_, steps_ =>
  (r41_at n m_ plug_ high_).bind fun r3 =>
  jn (fun (t_9 : Bool) =>
   if t_9 = true then
    some false
   else
    if r3 = low_ then
     some true
    else
     r41_reaches_L0 n m_ plug_ low_ steps_ (r41_reaches n) r3 n 0)
    (fun k8 =>
    if r3 < 0 then
     k8 true
    else
     k8 (decide (steps_ ≤ 0)))
def r41_under_L0 (n : Nat) (m_ : MRS) (plug_ : (List Int)) (q_ : EP) (label_ : Int) : Nat → Nat → Option Bool
  | 0, _ => none
  | m1 + 1, i_5 =>
  if i_5 < ((q_.Args).length) then
   (q_.Args[i_5]?).bind fun x9 =>
   (r41_at n m_ plug_ x9.Var).bind fun r11 =>
   jn (fun (t_19 : Bool) =>
    if t_19 = true then
     some true
    else
     r41_under_L0 n m_ plug_ q_ label_ m1 (i_5 + 1))
     (fun k18 =>
     if (0 : Int) ≤ r11 then
      (r41_Below n m_ plug_ r11).bind fun r21 =>
      (r41_Has n r21 label_).bind fun r24 =>
      k18 r24
     else
      k18 false)
  else
   some false
/-- grammarlab/grammarlabref41.under -/
def r41_under (n : Nat) (m_ : MRS) (plug_ : (List Int)) (q_ : EP) (label_ : Int) : Option Bool :=
 r41_under_L0 n m_ plug_ q_ label_ n 0
def r41_binds_L1 (n : Nat) (t_ : MRS) (r6 : Int) (t_13 : Nat) (k19 : Bool → Option Bool) : Nat → Bool → Nat → Option Bool
  | 0, _, _ => none
  | m2 + 1, t_21, t_22 =>
  (t_.Rels[t_13]?).bind fun x24 =>
  if t_22 < ((x24.Args).length) then
   if t_21 = true then
    r41_binds_L1 n t_ r6 t_13 k19 m2 true (t_22 + 1)
   else
    (x24.Args[t_22]?).bind fun x34 =>
    r41_binds_L1 n t_ r6 t_13 k19 m2 (decide (x34.Var = r6)) (t_22 + 1)
  else
   k19 t_21
def r41_binds_L0 (n : Nat) (t_ : MRS) (t_' : (List Int)) (t_'' : Int) (x4 : EP) (r6 : Int) : Nat → Nat → Option Bool
  | 0, _ => none
  | m1 + 1, t_13 =>
  jn (fun (t_15 : Bool) =>
   if t_15 = true then
    jn (fun (t_20 : Bool) =>
     jn (fun (t_41 : Bool) =>
      if t_41 = true then
       some false
      else
       chk (t_13 + 1 ≤ 9223372036854775807) (
       r41_binds_L0 n t_ t_' t_'' x4 r6 m1 (t_13 + 1)))
       (fun k40 =>
       if t_20 = true then
        if ((t_13 : Nat) : Int) ≠ t_'' then
         (t_.Rels[t_13]?).bind fun x47 =>
         (r41_under n t_ t_' x4 x47.Label).bind fun r49 =>
         k40 (!(r49))
        else
         k40 false
       else
        k40 false))
      (fun k19 =>
      r41_binds_L1 n t_ r6 t_13 k19 n false 0)
   else
    some true)
    (fun k14 =>
    if t_13 < ((t_.Rels).length) then
     k14 (decide ((0 : Int) ≤ r6))
    else
     k14 false)
/-- grammarlab/grammarlabref41.binds -/
def r41_binds (n : Nat) (t_ : MRS) (t_' : (List Int)) (t_'' : Int) : Option Bool :=
 (ix t_.Rels t_'').bind fun x4 =>
 (r41_role n x4 [65, 82, 71, 48]).bind fun r6 =>
 r41_binds_L0 n t_ t_' t_'' x4 r6 n 0
def r41_Valid_L0 (n : Nat) (t_' : (List Int)) (r3 : (List Int)) (k14 : Option Int) : Nat → Nat → Option Int
  | 0, _ => none
  | m1 + 1, t_15 =>
  if t_15 < ((t_').length) then
   jn (fun (t_19 : Bool) =>
    if t_19 = true then
     some 1
    else
     r41_Valid_L0 n t_' r3 k14 m1 (t_15 + 1))
     (fun k18 =>
     (t_'[t_15]?).bind fun x21 =>
     (r41_Has n r3 x21).bind fun r23 =>
     if (!(r23)) = true then
      k18 true
     else
      chk (t_15 ≤ (t_').length) (
      (r41_Has n ((t_').take t_15) x21).bind fun r34 =>
      k18 r34))
  else
   k14
def r41_Valid_L1 (n : Nat) (t_ : MRS) (t_' : (List Int)) (r3 : (List Int)) (k55 : Option Int) : Nat → Nat → Option Int
  | 0, _ => none
  | m2 + 1, t_56 =>
  if t_56 < ((t_.Cons).length) then
   (t_.Cons[t_56]?).bind fun x60 =>
   chk ((r3).length + 1 ≤ 9223372036854775807) (
   (r41_reaches n t_ t_' x60.High x60.Low (((r3).length + 1 : Nat) : Int)).bind fun r65 =>
   if (!(r65)) = true then
    some 18
   else
    r41_Valid_L1 n t_ t_' r3 k55 m2 (t_56 + 1))
  else
   k55
def r41_Valid_L2 (n : Nat) (t_ : MRS) (t_' : (List Int)) : Nat → Nat → Option Int
  | 0, _ => none
  | m3 + 1, t_75 =>
  if t_75 < ((t_.Rels).length) then
   jn (fun (t_79 : Bool) =>
    if t_79 = true then
     some 18
    else
     r41_Valid_L2 n t_ t_' m3 (t_75 + 1))
     (fun k78 =>
     (t_.Rels[t_75]?).bind fun x81 =>
     (r41_quantifier n x81).bind fun r83 =>
     if r83 = true then
      (r41_binds n t_ t_' ((t_75 : Nat) : Int)).bind fun r87 =>
      k78 (!(r87))
     else
      k78 false)
  else
   some 0
/-- grammarlab/grammarlabref41.Valid -/
def r41_Valid (n : Nat) (t_ : MRS) (t_' : (List Int)) : Option Int :=
 (r41_Labels n t_).bind fun r3 =>
 (r41_Holes n t_).bind fun r8 =>
 if ((t_').length) ≠ ((r8).length) then
  some 1
 else
  jn (
   (r41_tree n t_ t_').bind fun r49 =>
   if (!(r49)) = true then
    some 13
   else
    jn (
     r41_Valid_L2 n t_ t_' n 0)
      (fun k55 =>
      r41_Valid_L1 n t_ t_' r3 k55 n 0))
    (fun k14 =>
    r41_Valid_L0 n t_' r3 k14 n 0)
/-- grammarlab/grammarlablaw41.ScopeValid -/
def law41_ScopeValid (n : Nat) (m_ : MRS) (plug_ : (List Int)) : Option Bool :=
 jn (fun (t_4 : Bool) =>
  if t_4 = true then
   (law41_exampleHolds n).bind fun r14 =>
   some r14
  else
   (scope_Valid n m_ plug_).bind fun r19 =>
   (r41_Valid n m_ plug_).bind fun r22 =>
   if r19 = r22 then
    (law41_exampleHolds n).bind fun r26 =>
    some r26
   else
    some false)
   (fun k3 =>
   (law41_valid n m_).bind fun r5 =>
   if (!(r5)) = true then
    k3 true
   else
    k3 (decide ((20 : Nat) < ((plug_).length))))
def r01_Decimal_L0 (n : Nat) (k6 : (List UInt8) → Option (List UInt8)) : Nat → Int → (List UInt8) → Option (List UInt8)
  | 0, _, _ => none
  | m1 + 1, u_8, s_9 =>
  if (0 : Int) < u_8 then
   chk (([toU8 (IntKind.u64.wrap (48 + ((u_8).tmod 10)))]).length + (s_9).length ≤ 9223372036854775807) (
   r01_Decimal_L0 n k6 m1 (IntKind.u64.wrap ((u_8).tdiv 10)) ([toU8 (IntKind.u64.wrap (48 + ((u_8).tmod 10)))] ++ s_9))
  else
   k6 s_9
/-- grammarlab/grammarlabref01.Decimal -/
def r01_Decimal (n : Nat) (n_ : Int) : Option (List UInt8) :=
 if n_ = 0 then
  some [48]
 else
  chk (0 ≤ n_ ∧ n_ ≤ 18446744073709551615) (
  jn (fun (u_4 : Int) =>
   jn (fun (s_7 : (List UInt8)) =>
    if n_ < 0 then
     chk (([45]).length + (s_7).length ≤ 9223372036854775807) (
     some ([45] ++ s_7))
    else
     some s_7)
     (fun k6 =>
     r01_Decimal_L0 n k6 n u_4 []))
    (fun k3 =>
    if n_ < 0 then
     k3 (IntKind.u64.wrap (-(n_)))
    else
     k3 n_))
def r41_form_L1 (n : Nat) (t_ : MRS) (t_' : (List Int)) (self_ : MRS → (List Int) → Int → Option (List UInt8)) (x8 : EP) (k21 : (List UInt8) → Option (List UInt8)) : Nat → (List UInt8) → Nat → Option (List UInt8)
  | 0, _, _ => none
  | m2 + 1, t_23, t_24 =>
  if t_24 < ((x8.Args).length) then
   jn (fun (t_28 : (List UInt8)) =>
    (x8.Args[t_24]?).bind fun x32 =>
    chk ((t_28).length + (x32.Role).length ≤ 9223372036854775807) (
    chk ((t_28 ++ x32.Role).length + ([32]).length ≤ 9223372036854775807) (
    (r41_at n t_ t_' x32.Var).bind fun r40 =>
    if (0 : Int) ≤ r40 then
     (self_ t_ t_' r40).bind fun r48 =>
     chk (((t_28 ++ x32.Role) ++ [32]).length + (r48).length ≤ 9223372036854775807) (
     r41_form_L1 n t_ t_' self_ x8 k21 m2 (((t_28 ++ x32.Role) ++ [32]) ++ r48) (t_24 + 1))
    else
     (ix t_.Vars x32.Var).bind fun x57 =>
     chk (((t_28 ++ x32.Role) ++ [32]).length + (x57).length ≤ 9223372036854775807) (
     (r01_Decimal n x32.Var).bind fun r62 =>
     chk ((((t_28 ++ x32.Role) ++ [32]) ++ x57).length + (r62).length ≤ 9223372036854775807) (
     r41_form_L1 n t_ t_' self_ x8 k21 m2 ((((t_28 ++ x32.Role) ++ [32]) ++ x57) ++ r62) (t_24 + 1))))))
     (fun k27 =>
     if (0 : Nat) < t_24 then
      chk ((t_23).length + ([44, 32]).length ≤ 9223372036854775807) (
      k27 (t_23 ++ [44, 32]))
     else
      k27 t_23)
  else
   k21 t_23
def r41_form_L0 (n : Nat) (t_ : MRS) (t_' : (List Int)) (t_'' : Int) (self_ : MRS → (List Int) → Int → Option (List UInt8)) : Nat → (List UInt8) → Nat → Option (List UInt8)
  | 0, _, _ => none
  | m1 + 1, t_3, t_4 =>
  if t_4 < ((t_.Rels).length) then
   (t_.Rels[t_4]?).bind fun x8 =>
   if x8.Label ≠ t_'' then
    r41_form_L0 n t_ t_' t_'' self_ m1 t_3 (t_4 + 1)
   else
    jn (fun (t_16 : (List UInt8)) =>
     chk ((t_16).length + (x8.Pred).length ≤ 9223372036854775807) (
     chk ((t_16 ++ x8.Pred).length + ([40]).length ≤ 9223372036854775807) (
     jn (fun (t_22 : (List UInt8)) =>
      chk ((t_22).length + ([41]).length ≤ 9223372036854775807) (
      r41_form_L0 n t_ t_' t_'' self_ m1 (t_22 ++ [41]) (t_4 + 1)))
       (fun k21 =>
       r41_form_L1 n t_ t_' self_ x8 k21 n ((t_16 ++ x8.Pred) ++ [40]) 0))))
      (fun k15 =>
      if (t_3 : List UInt8) ≠ [] then
       chk ((t_3).length + ([32, 38, 32]).length ≤ 9223372036854775807) (
       k15 (t_3 ++ [32, 38, 32]))
      else
       k15 t_3)
  else
   some t_3
/-- grammarlab/grammarlabref41.form -/
def r41_form : Nat → MRS → (List Int) → Int → Option (List UInt8)
  | 0, _, _, _ => none
  | n + 1, t_, t_', t_'' =>
  r41_form_L0 n t_ t_' t_'' (r41_form n) n [] 0
/-- grammarlab/grammarlabref41.Print -/
def r41_Print (n : Nat) (m_ : MRS) (plug_ : (List Int)) : Option ((List UInt8) × Int) :=
 (r41_Valid n m_ plug_).bind fun r3 =>
 if r3 ≠ 0 then
  some ([], r3)
 else
  (r41_at n m_ plug_ m_.Top).bind fun r9 =>
  (r41_form n m_ plug_ r9).bind fun r12 =>
  some (r12, 0)
/-- grammarlab/grammarlablaw41.ScopePrints -/
def law41_ScopePrints (n : Nat) (m_ : MRS) (plug_ : (List Int)) : Option Bool :=
 jn (fun (t_4 : Bool) =>
  if t_4 = true then
   (law41_exampleHolds n).bind fun r14 =>
   some r14
  else
   (scope_Print n m_ plug_).bind fun r19 =>
   (r41_Print n m_ plug_).bind fun r24 =>
   if (r19.1 : List UInt8) = r24.1 then
    if r19.2 = r24.2 then
     (law41_exampleHolds n).bind fun r31 =>
     some r31
    else
     some false
   else
    some false)
   (fun k3 =>
   (law41_valid n m_).bind fun r5 =>
   if (!(r5)) = true then
    k3 true
   else
    k3 (decide ((20 : Nat) < ((plug_).length))))
def law41_ScopeTrees_L0 (n : Nat) (t_ : MRS) (t_' : (List Int)) (r31 : (List Int)) (k38 : Int → Option Bool) : Nat → Int → Nat → Option Bool
  | 0, _, _ => none
  | m1 + 1, t_40, t_41 =>
  if t_41 < ((r31).length) then
   (r31[t_41]?).bind fun x45 =>
   if x45 = t_.Top then
    (t_'[t_41]?).bind fun x51 =>
    law41_ScopeTrees_L0 n t_ t_' r31 k38 m1 x51 (t_41 + 1)
   else
    law41_ScopeTrees_L0 n t_ t_' r31 k38 m1 t_40 (t_41 + 1)
  else
   k38 t_40
def law41_ScopeTrees_L3 (n : Nat) (x72 : Int) (k82 : Bool → Option Bool) (x85 : EP) : Nat → Bool → Nat → Option Bool
  | 0, _, _ => none
  | m4 + 1, t_91, t_92 =>
  if t_92 < ((x85.Args).length) then
   (x85.Args[t_92]?).bind fun x96 =>
   if t_91 = true then
    law41_ScopeTrees_L3 n x72 k82 x85 m4 true (t_92 + 1)
   else
    law41_ScopeTrees_L3 n x72 k82 x85 m4 (decide (x96.Var = x72)) (t_92 + 1)
  else
   k82 t_91
def law41_ScopeTrees_L2 (n : Nat) (t_ : MRS) (x72 : Int) (k76 : Bool → Option Bool) : Nat → Bool → Nat → Option Bool
  | 0, _, _ => none
  | m3 + 1, t_78, t_79 =>
  if t_79 < ((t_.Rels).length) then
   jn (fun (t_83 : Bool) =>
    law41_ScopeTrees_L2 n t_ x72 k76 m3 t_83 (t_79 + 1))
     (fun k82 =>
     (t_.Rels[t_79]?).bind fun x85 =>
     law41_ScopeTrees_L3 n x72 k82 x85 n t_78 0)
  else
   k76 t_78
def law41_ScopeTrees_L4 (n : Nat) (t_ : MRS) (t_' : (List Int)) (r28 : (List Int)) (k70 : Option Bool) (x72 : Int) : Nat → Nat → Option Bool
  | 0, _ => none
  | m5 + 1, t_109 =>
  if t_109 < ((r28).length) then
   (r28[t_109]?).bind fun x113 =>
   jn (fun (t_118 : Bool) =>
    if t_118 = true then
     some false
    else
     law41_ScopeTrees_L4 n t_ t_' r28 k70 x72 m5 (t_109 + 1))
     (fun k117 =>
     if x72 ≠ x113 then
      (scope_Below n t_ t_' x72).bind fun r120 =>
      (r41_Has n r120 x113).bind fun r123 =>
      if r123 = true then
       (scope_Below n t_ t_' x113).bind fun r127 =>
       (r41_Has n r127 x72).bind fun r130 =>
       k117 r130
      else
       k117 false
     else
      k117 false)
  else
   k70
def law41_ScopeTrees_L1 (n : Nat) (t_ : MRS) (t_' : (List Int)) (r28 : (List Int)) (k66 : Option Bool) : Nat → Nat → Option Bool
  | 0, _ => none
  | m2 + 1, t_67 =>
  if t_67 < ((r28).length) then
   jn (
    law41_ScopeTrees_L1 n t_ t_' r28 k66 m2 (t_67 + 1))
     (fun k70 =>
     (r28[t_67]?).bind fun x72 =>
     jn (fun (t_77 : Bool) =>
      (r41_Has n t_' x72).bind fun r103 =>
      if (t_77 == r103) = true then
       some false
      else
       law41_ScopeTrees_L4 n t_ t_' r28 k70 x72 n 0)
       (fun k76 =>
       law41_ScopeTrees_L2 n t_ x72 k76 n (decide (x72 = t_.Top)) 0))
  else
   k66
/-- grammarlab/grammarlablaw41.ScopeTrees -/
def law41_ScopeTrees (n : Nat) (t_ : MRS) (t_' : (List Int)) : Option Bool :=
 jn (fun (t_4 : Bool) =>
  if t_4 = true then
   (law41_exampleHolds n).bind fun r23 =>
   some r23
  else
   (r41_Labels n t_).bind fun r28 =>
   (r41_Holes n t_).bind fun r31 =>
   jn (fun (t_39 : Int) =>
    (scope_Below n t_ t_' t_39).bind fun r55 =>
    (r41_Same n r55 r28).bind fun r58 =>
    if (!(r58)) = true then
     some false
    else
     jn (
      (law41_exampleHolds n).bind fun r146 =>
      some r146)
       (fun k66 =>
       law41_ScopeTrees_L1 n t_ t_' r28 k66 n 0))
     (fun k38 =>
     law41_ScopeTrees_L0 n t_ t_' r31 k38 n t_.Top 0))
   (fun k3 =>
   (law41_valid n t_).bind fun r5 =>
   if (!(r5)) = true then
    k3 true
   else
    if (20 : Nat) < ((t_').length) then
     k3 true
    else
     (scope_Valid n t_ t_').bind fun r15 =>
     k3 (decide (r15 ≠ 0)))
def law41_ScopeConstraints_L0 (n : Nat) (m_ : MRS) (k21 : (List Qeq) → Option Bool) : Nat → Nat → (List Qeq) → Option Bool
  | 0, _, _ => none
  | m1 + 1, t_26, n_27 =>
  if t_26 < ((m_.Cons).length) then
   chk (-9223372036854775808 ≤ ((((m_.Cons).length : Nat) : Int) - 1) - ((t_26 : Nat) : Int) ∧ ((((m_.Cons).length : Nat) : Int) - 1) - ((t_26 : Nat) : Int) ≤ 9223372036854775807) (
   (ix m_.Cons (((((m_.Cons).length : Nat) : Int) - 1) - ((t_26 : Nat) : Int))).bind fun x35 =>
   chk ((n_27).length + ([x35]).length ≤ 137438953472) (
   law41_ScopeConstraints_L0 n m_ k21 m1 (t_26 + 1) (n_27 ++ [x35])))
  else
   k21 n_27
/-- grammarlab/grammarlablaw41.ScopeConstraints -/
def law41_ScopeConstraints (n : Nat) (m_ : MRS) (plug_ : (List Int)) : Option Bool :=
 jn (fun (t_4 : Bool) =>
  if t_4 = true then
   (law41_exampleHolds n).bind fun r14 =>
   some r14
  else
   jn (fun (n_22 : (List Qeq)) =>
    (r39_Check n (MRS.mk m_.Top m_.Index m_.Vars m_.Rels n_22)).bind fun r47 =>
    if r47 ≠ 0 then
     (law41_exampleHolds n).bind fun r51 =>
     some r51
    else
     (scope_Valid n (MRS.mk m_.Top m_.Index m_.Vars m_.Rels n_22) plug_).bind fun r58 =>
     (scope_Valid n m_ plug_).bind fun r61 =>
     if r58 = r61 then
      (law41_exampleHolds n).bind fun r65 =>
      some r65
     else
      some false)
     (fun k21 =>
     law41_ScopeConstraints_L0 n m_ k21 n 0 []))
   (fun k3 =>
   (law41_valid n m_).bind fun r5 =>
   if (!(r5)) = true then
    k3 true
   else
    k3 (decide ((20 : Nat) < ((plug_).length))))
end Go.Proofs.YtegboboemepifaaGreatDoor


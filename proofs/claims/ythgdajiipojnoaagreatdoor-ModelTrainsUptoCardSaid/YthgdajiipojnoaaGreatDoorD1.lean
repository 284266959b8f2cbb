/- Chapter 37: types, plain programs -/
import Derived.Test.YthgdajiipojnoaaGreatDoorA0
import Derived.Test.YthgdajiipojnoaaGreatDoorGl15
import Derived.Test.YthgdajiipojnoaaGreatDoorGl16
import Derived.Test.YthgdajiipojnoaaGreatDoorGl28
import Derived.Test.YthgdajiipojnoaaGreatDoorGl29
import Derived.Test.YthgdajiipojnoaaGreatDoorGl30
import Derived.Test.YthgdajiipojnoaaGreatDoorGl27
import Derived.Test.YthgdajiipojnoaaGreatDoorProg
namespace Go.Proofs.YthgdajiipojnoaaGreatDoor
open Go.Gl Go.RowKit Tryz
set_option linter.unusedVariables false
set_option linter.unusedSimpArgs false
set_option maxRecDepth 4000

structure Weight where
  mk ::
  Feature : (List UInt8)
  Value : Int
  deriving DecidableEq
def RWeight : Rep Weight := Rep.via (Rep.prod Rep.str (Rep.num .i64)) (fun x => (x.Feature, x.Value))
theorem RWeight.open {M : Bs} {w : World} {cs : List Value} {x : Weight} (h : RWeight.rd M w cs x) : cs = [.string (bs (x.Feature)), .int .i64 (x.Value)] ∧ ((x.Feature).length ≤ 9223372036854775807) := by
  obtain ⟨_, _, rfl, h0, r0⟩ := h
  obtain ⟨rfl, p0⟩ := h0
  obtain rfl := r0
  exact ⟨rfl, p0⟩
theorem RWeight.mk' {M : Bs} {w : World} {x : Weight}  (p0 : (x.Feature).length ≤ 9223372036854775807) : RWeight.rd M w [.string (bs (x.Feature)), .int .i64 (x.Value)] x := ⟨_, _, rfl, ⟨rfl, p0⟩, rfl⟩
theorem eqWeight (X Y : Weight) (w' : World) : (Op.equalIn 10000 39 (.agg #[.string (bs (X.Feature)), .int .i64 (X.Value)]) (.agg #[.string (bs (Y.Feature)), .int .i64 (Y.Value)])).run Tryz.prog w' = .ok (decide (X = Y)) w' := eqW X.Feature X.Value Y.Feature Y.Value w' |>.trans (by congr 1; cases X; cases Y; simp)
structure Deriv where
  mk ::
  Kind : Int
  Name : (List UInt8)
  From : Int
  To : Int
  Kids : (List Deriv)
def FDeriv (R : Rep Deriv) : Rep Deriv := Rep.via (Rep.prod (Rep.num .i64) (Rep.prod Rep.str (Rep.prod (Rep.num .i64) (Rep.prod (Rep.num .i64) (Rep.list R))))) (fun x => (x.Kind, (x.Name, (x.From, (x.To, x.Kids)))))
theorem FDeriv.cts : Cts FDeriv := Cts.via (Cts.prod (Cts.const _) (Cts.prod (Cts.const _) (Cts.prod (Cts.const _) (Cts.prod (Cts.const _) (Cts.list Cts.id))))) _
def RDeriv : Rep Deriv := Rep.mu FDeriv 5 (fun _ _ => rfl)
theorem RDeriv.open {M : Bs} {w : World} {cs : List Value} {x : Deriv} (h : RDeriv.rd M w cs x) : ∃ (Aq5 : Option Addr), ∃ (cq5 : Nat), cs = [.int .i64 (x.Kind), .string (bs (x.Name)), .int .i64 (x.From), .int .i64 (x.To), .slice (Aq5) ((x.Kids).length) (cq5)] ∧ ((x.Name).length ≤ 9223372036854775807) ∧ (SlR RDeriv M w Aq5 (x.Kids).length cq5 (x.Kids)) := by
  replace h := Rep.mu_open FDeriv.cts h
  obtain ⟨_, _, rfl, h0, r0⟩ := h
  obtain rfl := h0
  obtain ⟨_, _, rfl, h1, r1⟩ := r0
  obtain ⟨rfl, p0⟩ := h1
  obtain ⟨_, _, rfl, h2, r2⟩ := r1
  obtain rfl := h2
  obtain ⟨_, _, rfl, h3, r3⟩ := r2
  obtain rfl := h3
  obtain ⟨A1, n1, c1, rfl, p1⟩ := r3
  obtain rfl := p1.len
  exact ⟨A1, c1, rfl, p0, p1⟩
theorem RDeriv.mk' {M : Bs} {w : World} {x : Deriv} {Aq5 : Option Addr} {cq5 : Nat} (p0 : (x.Name).length ≤ 9223372036854775807) (p1 : SlR RDeriv M w Aq5 (x.Kids).length cq5 (x.Kids)) : RDeriv.rd M w [.int .i64 (x.Kind), .string (bs (x.Name)), .int .i64 (x.From), .int .i64 (x.To), .slice (Aq5) ((x.Kids).length) (cq5)] x := Rep.mu_mk FDeriv.cts (show (FDeriv RDeriv).rd M w [.int .i64 (x.Kind), .string (bs (x.Name)), .int .i64 (x.From), .int .i64 (x.To), .slice (Aq5) ((x.Kids).length) (cq5)] x from ⟨_, _, rfl, rfl, ⟨_, _, rfl, ⟨rfl, p0⟩, ⟨_, _, rfl, rfl, ⟨_, _, rfl, rfl, ⟨_, _, _, rfl, p1⟩⟩⟩⟩⟩)
structure Judged where
  mk ::
  Readings : (List Deriv)
  Gold : Int
def RJudged : Rep Judged := Rep.via (Rep.prod (Rep.list RDeriv) (Rep.num .i64)) (fun x => (x.Readings, x.Gold))
theorem RJudged.open {M : Bs} {w : World} {cs : List Value} {x : Judged} (h : RJudged.rd M w cs x) : ∃ (Aq1 : Option Addr), ∃ (cq1 : Nat), cs = [.slice (Aq1) ((x.Readings).length) (cq1), .int .i64 (x.Gold)] ∧ (SlR RDeriv M w Aq1 (x.Readings).length cq1 (x.Readings)) := by
  obtain ⟨_, _, rfl, h0, r0⟩ := h
  obtain ⟨A0, n0, c0, rfl, p0⟩ := h0
  obtain rfl := p0.len
  obtain rfl := r0
  exact ⟨A0, c0, rfl, p0⟩
theorem RJudged.mk' {M : Bs} {w : World} {x : Judged} {Aq1 : Option Addr} {cq1 : Nat} (p0 : SlR RDeriv M w Aq1 (x.Readings).length cq1 (x.Readings)) : RJudged.rd M w [.slice (Aq1) ((x.Readings).length) (cq1), .int .i64 (x.Gold)] x := ⟨_, _, rfl, ⟨_, _, _, rfl, p0⟩, rfl⟩
structure Model where
  mk ::
  Weights : (List Weight)
  deriving DecidableEq
def RModel : Rep Model := Rep.via (Rep.list RWeight) (fun x => x.Weights)
theorem RModel.open {M : Bs} {w : World} {cs : List Value} {x : Model} (h : RModel.rd M w cs x) : ∃ (Aq1 : Option Addr), ∃ (cq1 : Nat), cs = [.slice (Aq1) ((x.Weights).length) (cq1)] ∧ (SlR RWeight M w Aq1 (x.Weights).length cq1 (x.Weights)) := by
  obtain ⟨A0, n0, c0, rfl, p0⟩ := h
  obtain rfl := p0.len
  exact ⟨A0, c0, rfl, p0⟩
theorem RModel.mk' {M : Bs} {w : World} {x : Model} {Aq1 : Option Addr} {cq1 : Nat} (p0 : SlR RWeight M w Aq1 (x.Weights).length cq1 (x.Weights)) : RModel.rd M w [.slice (Aq1) ((x.Weights).length) (cq1)] x := show RModel.rd M w [.slice (Aq1) ((x.Weights).length) (cq1)] x from ⟨_, _, _, rfl, p0⟩
def pre79 (M : Bs) (w : World) (vs : List Value) (x : (Weight × (List UInt8))) : Prop := vs = [.agg #[.string (bs (x.1.Feature)), .int .i64 (x.1.Value)], .string (bs (x.2))] ∧ ((x.1.Feature).length ≤ 9223372036854775807) ∧ ((x.2).length ≤ 9223372036854775807)
def post79 (M : Bs) (w : World) (v : Value) (x : Int) : Prop := v = .int .i64 (x)
def pre48 (M : Bs) (w : World) (vs : List Value) (x : (Deriv × Deriv)) : Prop := ∃ (Aa5 : Option Addr), ∃ (ca5 : Nat), ∃ (Ab5 : Option Addr), ∃ (cb5 : Nat), vs = [.agg #[.int .i64 (x.1.Kind), .string (bs (x.1.Name)), .int .i64 (x.1.From), .int .i64 (x.1.To), .slice (Aa5) ((x.1.Kids).length) (ca5)], .agg #[.int .i64 (x.2.Kind), .string (bs (x.2.Name)), .int .i64 (x.2.From), .int .i64 (x.2.To), .slice (Ab5) ((x.2.Kids).length) (cb5)]] ∧ ((x.1.Name).length ≤ 9223372036854775807) ∧ (SlR RDeriv M w Aa5 (x.1.Kids).length ca5 (x.1.Kids)) ∧ ((x.2.Name).length ≤ 9223372036854775807) ∧ (SlR RDeriv M w Ab5 (x.2.Kids).length cb5 (x.2.Kids))
def post48 (M : Bs) (w : World) (v : Value) (x : Int) : Prop := v = .int .i64 (x)
def pre92 (M : Bs) (w : World) (vs : List Value) (x : Int) : Prop := vs = [.int .i32 (x)]
def post92 (M : Bs) (w : World) (v : Value) (x : Bool) : Prop := v = .bool (x)
def pre40 (M : Bs) (w : World) (vs : List Value) (x : (List UInt8)) : Prop := vs = [.string (bs (x))] ∧ ((x).length ≤ 9223372036854775807)
def post40 (M : Bs) (w : World) (v : Value) (x : Bool) : Prop := v = .bool (x)
def r37_Nodes_L0 (n : Nat) (d_ : Deriv) (most_ : Int) (self_ : Deriv → Int → Option Int) : Nat → Int → Nat → Option Int
  | 0, _, _ => none
  | m1 + 1, n_3, i_4 =>
  jn (fun (t_6 : Bool) =>
   if t_6 = true then
    (d_.Kids[i_4]?).bind fun x11 =>
    chk (-9223372036854775808 ≤ most_ - n_3 ∧ most_ - n_3 ≤ 9223372036854775807) (
    (self_ x11 (most_ - n_3)).bind fun r14 =>
    chk (-9223372036854775808 ≤ n_3 + r14 ∧ n_3 + r14 ≤ 9223372036854775807) (
    chk (i_4 + 1 ≤ 9223372036854775807) (
    r37_Nodes_L0 n d_ most_ self_ m1 (n_3 + r14) (i_4 + 1))))
   else
    some n_3)
    (fun k5 =>
    if i_4 < ((d_.Kids).length) then
     k5 (decide (n_3 < most_))
    else
     k5 false)
/-- grammarlab/grammarlabref37.Nodes -/
def r37_Nodes : Nat → Deriv → Int → Option Int
  | 0, _, _ => none
  | n + 1, d_, most_ =>
  r37_Nodes_L0 n d_ most_ (r37_Nodes n) n 1 0
def r37_Light_L0 (n : Nat) (l_ : (List Deriv)) (most_ : Int) : Nat → Int → Nat → Option Bool
  | 0, _, _ => none
  | m1 + 1, n_1, i_2 =>
  jn (fun (t_4 : Bool) =>
   if t_4 = true then
    (l_[i_2]?).bind fun x9 =>
    chk (-9223372036854775808 ≤ most_ + 1 ∧ most_ + 1 ≤ 9223372036854775807) (
    (r37_Nodes n x9 (most_ + 1)).bind fun r12 =>
    chk (-9223372036854775808 ≤ n_1 + r12 ∧ n_1 + r12 ≤ 9223372036854775807) (
    chk (i_2 + 1 ≤ 9223372036854775807) (
    r37_Light_L0 n l_ most_ m1 (n_1 + r12) (i_2 + 1))))
   else
    some (decide (n_1 ≤ most_)))
    (fun k3 =>
    if i_2 < ((l_).length) then
     k3 (decide (n_1 ≤ most_))
    else
     k3 false)
/-- grammarlab/grammarlabref37.Light -/
def r37_Light (n : Nat) (l_ : (List Deriv)) (most_ : Int) : Option Bool :=
 r37_Light_L0 n l_ most_ n 0 0
def law37_lightJudged_L0 (n : Nat) (l_ : (List Judged)) (most_ : Int) (k1 : Option Bool) : Nat → Nat → Option Bool
  | 0, _ => none
  | m1 + 1, i_2 =>
  jn (fun (t_4 : Bool) =>
   if t_4 = true then
    (l_[i_2]?).bind fun x9 =>
    (r37_Light n x9.Readings most_).bind fun r11 =>
    if (!(r11)) = true then
     some false
    else
     chk (i_2 + 1 ≤ 9223372036854775807) (
     law37_lightJudged_L0 n l_ most_ k1 m1 (i_2 + 1))
   else
    k1)
    (fun k3 =>
    if i_2 < ((l_).length) then
     k3 (decide (i_2 < 9))
    else
     k3 false)
/-- grammarlab/grammarlablaw37.lightJudged -/
def law37_lightJudged (n : Nat) (l_ : (List Judged)) (most_ : Int) : Option Bool :=
 jn (
  some (decide (((l_).length) ≤ 8)))
   (fun k1 =>
   law37_lightJudged_L0 n l_ most_ k1 n 0)
/-- grammarlab/grammarlabref01.digit -/
def r01_digit (n : Nat) (c_ : UInt8) : Option Bool :=
 if (48 : Nat) ≤ c_.toNat then
  some (decide (c_.toNat ≤ 57))
 else
  some false
/-- grammarlab/grammarlabref01.upper -/
def r01_upper (n : Nat) (c_ : UInt8) : Option Bool :=
 if (65 : Nat) ≤ c_.toNat then
  some (decide (c_.toNat ≤ 90))
 else
  some false
/-- grammarlab/grammarlabref01.lower -/
def r01_lower (n : Nat) (c_ : UInt8) : Option Bool :=
 if (97 : Nat) ≤ c_.toNat then
  some (decide (c_.toNat ≤ 122))
 else
  some false
/-- grammarlab/grammarlabref01.part -/
def r01_part (n : Nat) (c_ : UInt8) (big_ : Bool) : Option Bool :=
 (r01_digit n c_).bind fun r1 =>
 if r1 = true then
  some true
 else
  if c_.toNat = 45 then
   some true
  else
   if big_ = true then
    (r01_upper n c_).bind fun r11 =>
    if r11 = true then
     some true
    else
     some false
   else
    (r01_lower n c_).bind fun r23 =>
    some r23
def r01_named_L0 (n : Nat) (s_ : (List UInt8)) (big_ : Bool) : Nat → Nat → Option Bool
  | 0, _ => none
  | m1 + 1, i_15 =>
  if i_15 < ((s_).length) then
   (s_[i_15]?).bind fun c18 =>
   (r01_part n c18 big_).bind fun r19 =>
   if (!(r19)) = true then
    some false
   else
    r01_named_L0 n s_ big_ m1 (i_15 + 1)
  else
   some true
/-- grammarlab/grammarlabref01.named -/
def r01_named (n : Nat) (s_ : (List UInt8)) (big_ : Bool) : Option Bool :=
 jn (fun (t_2 : Bool) =>
  if t_2 = true then
   some false
  else
   r01_named_L0 n s_ big_ n 0)
   (fun k1 =>
   if ((s_).length) < 1 then
    k1 true
   else
    if (32 : Nat) < ((s_).length) then
     k1 true
    else
     (s_[0]?).bind fun c5 =>
     (r01_digit n c5).bind fun r6 =>
     if r6 = true then
      k1 true
     else
      k1 (decide (c5.toNat = 45)))
/-- grammarlab/grammarlabref01.Name -/
def r01_Name (n : Nat) (s_ : (List UInt8)) : Option Bool :=
 (r01_named n s_ false).bind fun r1 =>
 some r1
def r37_Split_L0 (n : Nat) (s_ : (List UInt8)) (k3 : (List (List UInt8)) → Nat → Option (List (List UInt8))) : Nat → (List (List UInt8)) → Nat → Nat → Option (List (List UInt8))
  | 0, _, _, _ => none
  | m1 + 1, out_9, from_13, i_14 =>
  if i_14 < ((s_).length) then
   (s_[i_14]?).bind fun c17 =>
   if c17.toNat = 32 then
    chk (from_13 ≤ i_14 ∧ i_14 ≤ (s_).length) (
    chk ((out_9).length + ([((s_).drop from_13).take (i_14 - from_13)]).length ≤ 137438953472) (
    r37_Split_L0 n s_ k3 m1 (out_9 ++ [((s_).drop from_13).take (i_14 - from_13)]) (i_14 + 1) (i_14 + 1)))
   else
    r37_Split_L0 n s_ k3 m1 out_9 from_13 (i_14 + 1)
  else
   k3 out_9 from_13
/-- grammarlab/grammarlabref37.Split -/
def r37_Split (n : Nat) (s_ : (List UInt8)) : Option (List (List UInt8)) :=
 jn (fun (out_4 : (List (List UInt8))) (from_8 : Nat) =>
  chk (from_8 ≤ (s_).length) (
  chk ((out_4).length + ([(s_).drop from_8]).length ≤ 137438953472) (
  some (out_4 ++ [(s_).drop from_8]))))
   (fun k3 =>
   r37_Split_L0 n s_ k3 n [] 0 0)
def r37_feature_L1 (n : Nat) (r13 : (List (List UInt8))) : Nat → Nat → Option Bool
  | 0, _ => none
  | m2 + 1, k_30 =>
  if k_30 < ((r13).length) then
   (r13[k_30]?).bind fun x34 =>
   (r01_Name n x34).bind fun r36 =>
   if (!(r36)) = true then
    some false
   else
    r37_feature_L1 n r13 m2 (k_30 + 1)
  else
   some true
def r37_feature_L0 (n : Nat) (s_ : (List UInt8)) : Nat → Nat → Option Bool
  | 0, _ => none
  | m1 + 1, i_7 =>
  if i_7 < ((s_).length) then
   (s_[i_7]?).bind fun c10 =>
   if c10.toNat ≠ 62 then
    r37_feature_L0 n s_ m1 (i_7 + 1)
   else
    chk (i_7 + 1 ≤ (s_).length) (
    (r37_Split n ((s_).drop (i_7 + 1))).bind fun r13 =>
    jn (fun (t_19 : Bool) =>
     if t_19 = true then
      some false
     else
      r37_feature_L1 n r13 n 0)
      (fun k18 =>
      chk (i_7 ≤ (s_).length) (
      (r01_Name n ((s_).take i_7)).bind fun r21 =>
      if (!(r21)) = true then
       k18 true
      else
       k18 (decide ((2 : Nat) < ((r13).length))))))
  else
   some false
/-- grammarlab/grammarlabref37.feature -/
def r37_feature (n : Nat) (s_ : (List UInt8)) : Option Bool :=
 (r01_Name n s_).bind fun r1 =>
 if r1 = true then
  some true
 else
  r37_feature_L0 n s_ n 0
def r37_Check_L0 (n : Nat) (m_ : Model) : Nat → Nat → Option Int
  | 0, _ => none
  | m1 + 1, i_3 =>
  if i_3 < ((m_.Weights).length) then
   (m_.Weights[i_3]?).bind fun x7 =>
   (r37_feature n x7.Feature).bind fun r13 =>
   if (!(r13)) = true then
    some 1
   else
    jn (fun (t_20 : Bool) =>
     if t_20 = true then
      some 2
     else
      jn (fun (t_25 : Bool) =>
       if t_25 = true then
        some 3
       else
        r37_Check_L0 n m_ m1 (i_3 + 1))
        (fun k24 =>
        if (0 : Nat) < i_3 then
         (ix m_.Weights (((i_3 : Nat) : Int) - 1)).bind fun x28 =>
         k24 ((Op.bytesLess x7.Feature x28.Feature) || (x7.Feature == x28.Feature))
        else
         k24 false))
      (fun k19 =>
      if x7.Value = 0 then
       k19 true
      else
       if x7.Value < (-1048576) then
        k19 true
       else
        k19 (decide ((1048576 : Int) < x7.Value)))
  else
   some 0
/-- grammarlab/grammarlabref37.Check -/
def r37_Check (n : Nat) (m_ : Model) : Option Int :=
 r37_Check_L0 n m_ n 0
def model_Features_L0 (n : Nat) (d_ : Deriv) (k12 : (List (List UInt8)) → Option (List (List UInt8))) : Nat → (List (List UInt8)) → Nat → Option (List (List UInt8))
  | 0, _, _ => none
  | m1 + 1, names_17, t_21 =>
  if t_21 < ((d_.Kids).length) then
   (d_.Kids[t_21]?).bind fun x25 =>
   chk ((names_17).length + ([x25.Name]).length ≤ 137438953472) (
   model_Features_L0 n d_ k12 m1 (names_17 ++ [x25.Name]) (t_21 + 1))
  else
   k12 names_17
def model_Features_L1 (n : Nat) (d_ : Deriv) (self_ : Deriv → Option (List (List UInt8))) : Nat → (List (List UInt8)) → Nat → Option (List (List UInt8))
  | 0, _, _ => none
  | m2 + 1, out_52, t_56 =>
  if t_56 < ((d_.Kids).length) then
   (d_.Kids[t_56]?).bind fun x60 =>
   (self_ x60).bind fun r66 =>
   chk ((out_52).length + (r66).length ≤ 137438953472) (
   model_Features_L1 n d_ self_ m2 (out_52 ++ r66) (t_56 + 1))
  else
   some out_52
/-- grammarlab/model.Features -/
def model_Features : Nat → Deriv → Option (List (List UInt8))
  | 0, _ => none
  | n + 1, d_ =>
  jn (fun (out_6 : (List (List UInt8))) =>
   model_Features_L1 n d_ (model_Features n) n out_6 0)
    (fun k5 =>
    if (0 : Nat) < ((d_.Kids).length) then
     jn (fun (names_13 : (List (List UInt8))) =>
      chk ((d_.Name).length + ([62]).length ≤ 9223372036854775807) (
      (strings_Join n names_13 [32]).bind fun r39 =>
      chk ((d_.Name ++ [62]).length + (r39).length ≤ 9223372036854775807) (
      chk (([d_.Name]).length + ([(d_.Name ++ [62]) ++ r39]).length ≤ 137438953472) (
      k5 ([d_.Name] ++ [(d_.Name ++ [62]) ++ r39])))))
       (fun k12 =>
       model_Features_L0 n d_ k12 n [] 0)
    else
     k5 [d_.Name])
def slices_BinarySearchFunc_string_L0 (n : Nat) (x_ : (List Weight)) (target_ : (List UInt8)) (cmp_ : ((Weight × (List UInt8)) → Option Int)) (k1 : Nat → Option (Int × Bool)) : Nat → Nat → Nat → Option (Int × Bool)
  | 0, _, _ => none
  | m1 + 1, i_3, j_4 =>
  if i_3 < j_4 then
   chk (i_3 + j_4 ≤ 9223372036854775807) (
   chk (0 ≤ ((i_3 + j_4 : Nat) : Int) ∧ ((i_3 + j_4 : Nat) : Int) ≤ 18446744073709551615) (
   chk (-9223372036854775808 ≤ (((i_3 + j_4) / 2 ^ 1 : Nat) : Int) ∧ (((i_3 + j_4) / 2 ^ 1 : Nat) : Int) ≤ 9223372036854775807) (
   (x_[(i_3 + j_4) / 2 ^ 1]?).bind fun x10 =>
   (cmp_ (x10, target_)).bind fun r12 =>
   if r12 < 0 then
    chk ((i_3 + j_4) / 2 ^ 1 + 1 ≤ 9223372036854775807) (
    slices_BinarySearchFunc_string_L0 n x_ target_ cmp_ k1 m1 ((i_3 + j_4) / 2 ^ 1 + 1) j_4)
   else
    slices_BinarySearchFunc_string_L0 n x_ target_ cmp_ k1 m1 i_3 ((i_3 + j_4) / 2 ^ 1))))
  else
   k1 i_3
/-- slices.BinarySearchFunc(()grammarlab/api.Weight,grammarlab/api.Weight,string) -/
def slices_BinarySearchFunc_string (n : Nat) (x_ : (List Weight)) (target_ : (List UInt8)) (cmp_ : ((Weight × (List UInt8)) → Option Int)) : Option (Int × Bool) :=
 jn (fun (i_2 : Nat) =>
  if i_2 < ((x_).length) then
   (x_[i_2]?).bind fun x24 =>
   (cmp_ (x24, target_)).bind fun r26 =>
   some (((i_2 : Nat) : Int), decide (r26 = 0))
  else
   some (((i_2 : Nat) : Int), false))
   (fun k1 =>
   slices_BinarySearchFunc_string_L0 n x_ target_ cmp_ k1 n 0 ((x_).length))
/-- cmp.isNaN(string) -/
def cmp_isNaN_string (n : Nat) (x_ : (List UInt8)) : Option Bool :=
 some (decide ((x_ : List UInt8) ≠ x_))
/-- cmp.Compare(string) -/
def cmp_Compare_string (n : Nat) (x_ : (List UInt8)) (y_ : (List UInt8)) : Option Int :=
 (cmp_isNaN_string n x_).bind fun r1 =>
 (cmp_isNaN_string n y_).bind fun r6 =>
 if r1 = true then
  if r6 = true then
   some 0
  else
   some (-1)
 else
  if r6 = true then
   some 1
  else
   if (Op.bytesLess x_ y_) = true then
    some (-1)
   else
    if (!((Op.bytesLess x_ y_) || (x_ == y_))) = true then
     some 1
    else
     some 0
/-- grammarlab/model.weight inner 1 -/
def model_weight_1 (n : Nat) (w_ : Weight) (s_ : (List UInt8)) : Option Int :=
 (cmp_Compare_string n w_.Feature s_).bind fun r3 =>
 some r3
/-- grammarlab/model.weight -/
def model_weight (n : Nat) (m_ : Model) (s_ : (List UInt8)) : Option Int :=
 (slices_BinarySearchFunc_string n m_.Weights s_ (fun p => model_weight_1 n p.1 p.2)).bind fun r3 =>
 if (!(r3.2)) = true then
  some 0
 else
  (ix m_.Weights r3.1).bind fun x10 =>
  some x10.Value
def model_Score_L0 (n : Nat) (m_ : Model) (r5 : (List (List UInt8))) : Nat → Int → Nat → Option Int
  | 0, _, _ => none
  | m1 + 1, n_10, t_11 =>
  if t_11 < ((r5).length) then
   (r5[t_11]?).bind fun x15 =>
   (model_weight n m_ x15).bind fun r19 =>
   chk (-9223372036854775808 ≤ n_10 + r19 ∧ n_10 + r19 ≤ 9223372036854775807) (
   model_Score_L0 n m_ r5 m1 (n_10 + r19) (t_11 + 1))
  else
   some n_10
/-- grammarlab/model.Score -/
def model_Score (n : Nat) (m_ : Model) (d_ : Deriv) : Option Int :=
 (model_Features n d_).bind fun r5 =>
 model_Score_L0 n m_ r5 n 0 0
def cmp_Or_int_L0 (n : Nat) (vals_ : (List Int)) : Nat → Nat → Option Int
  | 0, _ => none
  | m1 + 1, t_1 =>
  if t_1 < ((vals_).length) then
   (vals_[t_1]?).bind fun x5 =>
   if x5 ≠ 0 then
    some x5
   else
    cmp_Or_int_L0 n vals_ m1 (t_1 + 1)
  else
   some 0
/-- cmp.Or(int) -/
def cmp_Or_int (n : Nat) (vals_ : (List Int)) : Option Int :=
 cmp_Or_int_L0 n vals_ n 0
/-- cmp.isNaN(int) -/
def cmp_isNaN_int (n : Nat) (x_ : Int) : Option Bool :=
 some (decide (x_ ≠ x_))
/-- cmp.Compare(int) -/
def cmp_Compare_int (n : Nat) (x_ : Int) (y_ : Int) : Option Int :=
 (cmp_isNaN_int n x_).bind fun r1 =>
 (cmp_isNaN_int n y_).bind fun r6 =>
 if r1 = true then
  if r6 = true then
   some 0
  else
   some (-1)
 else
  if r6 = true then
   some 1
  else
   if x_ < y_ then
    some (-1)
   else
    if y_ < x_ then
     some 1
    else
     some 0
def slices_CompareFunc_Deriv_L0 (n : Nat) (s1_ : (List Deriv)) (s2_ : (List Deriv)) (cmp_ : ((Deriv × Deriv) → Option Int)) (k1 : Option Int) : Nat → Nat → Option Int
  | 0, _ => none
  | m1 + 1, t_2 =>
  if t_2 < ((s1_).length) then
   (s1_[t_2]?).bind fun x6 =>
   if ((s2_).length) ≤ t_2 then
    some 1
   else
    (s2_[t_2]?).bind fun x14 =>
    (cmp_ (x6, x14)).bind fun r20 =>
    if r20 ≠ 0 then
     some r20
    else
     slices_CompareFunc_Deriv_L0 n s1_ s2_ cmp_ k1 m1 (t_2 + 1)
  else
   k1
/-- slices.CompareFunc(()grammarlab/api.Deriv,()grammarlab/api.Deriv,grammarlab/api.Deriv,grammarlab/api.Deriv) -/
def slices_CompareFunc_Deriv (n : Nat) (s1_ : (List Deriv)) (s2_ : (List Deriv)) (cmp_ : ((Deriv × Deriv) → Option Int)) : Option Int :=
 jn (
  if ((s1_).length) < ((s2_).length) then
   some (-1)
  else
   some 0)
   (fun k1 =>
   slices_CompareFunc_Deriv_L0 n s1_ s2_ cmp_ k1 n 0)
/-- grammarlab/deriv.Compare -/
def deriv_Compare : Nat → Deriv → Deriv → Option Int
  | 0, _, _ => none
  | n + 1, a_, b_ =>
  (cmp_Compare_int n a_.From b_.From).bind fun r5 =>
  (cmp_Compare_int n a_.To b_.To).bind fun r8 =>
  (cmp_Compare_int n a_.Kind b_.Kind).bind fun r11 =>
  (cmp_Compare_string n a_.Name b_.Name).bind fun r14 =>
  (cmp_Or_int n [r5, r8, r11, r14]).bind fun r18 =>
  if r18 ≠ 0 then
   some r18
  else
   (slices_CompareFunc_Deriv n a_.Kids b_.Kids (fun p => deriv_Compare n p.1 p.2)).bind fun r33 =>
   some r33
def model_Best_L0 (n : Nat) (m_ : Model) (l_ : (List Deriv)) : Nat → Int → Int → Nat → Option Int
  | 0, _, _, _ => none
  | m1 + 1, best_3, most_4, t_5 =>
  if t_5 < ((l_).length) then
   (l_[t_5]?).bind fun x9 =>
   (model_Score n m_ x9).bind fun r15 =>
   jn (fun (t_21 : Bool) =>
    if t_21 = true then
     model_Best_L0 n m_ l_ m1 ((t_5 : Nat) : Int) r15 (t_5 + 1)
    else
     model_Best_L0 n m_ l_ m1 best_3 most_4 (t_5 + 1))
     (fun k20 =>
     if best_3 < 0 then
      k20 true
     else
      if most_4 < r15 then
       k20 true
      else
       if r15 = most_4 then
        (ix l_ best_3).bind fun x26 =>
        (deriv_Compare n x9 x26).bind fun r28 =>
        k20 (decide (r28 < 0))
       else
        k20 false)
  else
   some best_3
/-- grammarlab/model.Best -/
def model_Best (n : Nat) (m_ : Model) (l_ : (List Deriv)) : Option Int :=
 model_Best_L0 n m_ l_ n (-1) 0 0
def model_learned_L0 (n : Nat) (t_ : Model) (k7 : (List (List UInt8 × Int)) → Option Model) : Nat → (List (List UInt8 × Int)) → Nat → Option Model
  | 0, _, _ => none
  | m1 + 1, t_10, t_12 =>
  if t_12 < ((t_.Weights).length) then
   (t_.Weights[t_12]?).bind fun x16 =>
   model_learned_L0 n t_ k7 m1 (mset (t_10) (x16.Feature) (x16.Value)) (t_12 + 1)
  else
   k7 t_10
def model_learned_L1 (n : Nat) (k32 : (List (List UInt8 × Int)) → Option Model) : Nat → (List (List UInt8 × Int)) → (List (List UInt8 × Int)) → Option Model
  | 0, _, _ => none
  | m2 + 1, t_35, rest_37 =>
  if 0 < (rest_37).length then
   agree rest_37 (fun p40 rest41 =>
   chk (-9223372036854775808 ≤ ((mget t_35 p40.1).getD 0) + p40.2 ∧ ((mget t_35 p40.1).getD 0) + p40.2 ≤ 9223372036854775807) (
   model_learned_L1 n k32 m2 (mset (t_35) (p40.1) (if 1048576 < if ((mget t_35 p40.1).getD 0) + p40.2 < -1048576 then -1048576 else ((mget t_35 p40.1).getD 0) + p40.2 then 1048576 else if ((mget t_35 p40.1).getD 0) + p40.2 < -1048576 then -1048576 else ((mget t_35 p40.1).getD 0) + p40.2)) rest41))
  else
   k32 t_35
def model_learned_L2 (n : Nat) (t_33 : (List (List UInt8 × Int))) (r55 : (List (List UInt8))) (k62 : (List Weight) → Option Model) : Nat → Nat → (List Weight) → Option Model
  | 0, _, _ => none
  | m3 + 1, t_67, b_68 =>
  if t_67 < ((r55).length) then
   (r55[t_67]?).bind fun x75 =>
   if ((mget t_33 x75).getD 0) ≠ 0 then
    chk ((b_68).length + ([(Weight.mk x75 ((mget t_33 x75).getD 0))]).length ≤ 137438953472) (
    model_learned_L2 n t_33 r55 k62 m3 (t_67 + 1) (b_68 ++ [(Weight.mk x75 ((mget t_33 x75).getD 0))]))
   else
    model_learned_L2 n t_33 r55 k62 m3 (t_67 + 1) b_68
  else
   k62 b_68
/-- grammarlab/model.learned -/
def model_learned (n : Nat) (t_ : Model) (t_' : (List (List UInt8 × Int))) : Option Model :=
 jn (fun (t_8 : (List (List UInt8 × Int))) =>
  jn (fun (t_33 : (List (List UInt8 × Int))) =>
   (sortedKeys n t_33).bind fun r55 =>
   jn (fun (b_63 : (List Weight)) =>
    some (Model.mk b_63))
     (fun k62 =>
     model_learned_L2 n t_33 r55 k62 n 0 []))
    (fun k32 =>
    model_learned_L1 n k32 n t_8 t_'))
   (fun k7 =>
   model_learned_L0 n t_ k7 n [] 0)
def model_Train_L0 (n : Nat) (t_' : (List Judged)) (k9 : Option (Model × Int)) : Nat → Nat → Option (Model × Int)
  | 0, _ => none
  | m1 + 1, t_10 =>
  if t_10 < ((t_').length) then
   (t_'[t_10]?).bind fun x14 =>
   jn (fun (t_21 : Bool) =>
    if t_21 = true then
     some ((Model.mk []), 2)
    else
     model_Train_L0 n t_' k9 m1 (t_10 + 1))
     (fun k20 =>
     if x14.Gold < 0 then
      k20 true
     else
      k20 (decide ((((x14.Readings).length : Nat) : Int) ≤ x14.Gold)))
  else
   k9
def model_Train_L3 (n : Nat) (r132 : (List (List UInt8))) (k137 : (List (List UInt8 × Int)) → Option (Model × Int)) : Nat → (List (List UInt8 × Int)) → Nat → Option (Model × Int)
  | 0, _, _ => none
  | m4 + 1, t_140, t_142 =>
  if t_142 < ((r132).length) then
   (r132[t_142]?).bind fun x146 =>
   chk (-9223372036854775808 ≤ ((mget t_140 x146).getD 0) + 1 ∧ ((mget t_140 x146).getD 0) + 1 ≤ 9223372036854775807) (
   model_Train_L3 n r132 k137 m4 (mset (t_140) (x146) (((mget t_140 x146).getD 0) + 1)) (t_142 + 1))
  else
   k137 t_140
def model_Train_L4 (n : Nat) (r153 : (List (List UInt8))) (k158 : (List (List UInt8 × Int)) → Option (Model × Int)) : Nat → (List (List UInt8 × Int)) → Nat → Option (Model × Int)
  | 0, _, _ => none
  | m5 + 1, t_161, t_163 =>
  if t_163 < ((r153).length) then
   (r153[t_163]?).bind fun x167 =>
   chk (-9223372036854775808 ≤ ((mget t_161 x167).getD 0) - 1 ∧ ((mget t_161 x167).getD 0) - 1 ≤ 9223372036854775807) (
   model_Train_L4 n r153 k158 m5 (mset (t_161) (x167) (((mget t_161 x167).getD 0) - 1)) (t_163 + 1))
  else
   k158 t_161
def model_Train_L2 (n : Nat) (t_' : (List Judged)) (k33 : (List Weight) → Option (Model × Int)) : Nat → Nat → (List Weight) → Option (Model × Int)
  | 0, _, _ => none
  | m3 + 1, t_37, b_38 =>
  if t_37 < ((t_').length) then
   (t_'[t_37]?).bind fun x44 =>
   jn (fun (t_52 : Int) (t_53 : (List UInt8)) (t_54 : Int) (t_55 : Int) (t_56 : (List Deriv)) (t_60 : Int) (t_61 : (List UInt8)) (t_62 : Int) (t_63 : Int) (t_64 : (List Deriv)) =>
    (deriv_Compare n (Deriv.mk t_52 t_53 t_54 t_55 t_56) (Deriv.mk t_60 t_61 t_62 t_63 t_64)).bind fun r124 =>
    if r124 = 0 then
     model_Train_L2 n t_' k33 m3 (t_37 + 1) b_38
    else
     (model_Features n (Deriv.mk t_60 t_61 t_62 t_63 t_64)).bind fun r132 =>
     jn (fun (t_138 : (List (List UInt8 × Int))) =>
      (model_Features n (Deriv.mk t_52 t_53 t_54 t_55 t_56)).bind fun r153 =>
      jn (fun (t_159 : (List (List UInt8 × Int))) =>
       (model_learned n (Model.mk b_38) t_159).bind fun r174 =>
       model_Train_L2 n t_' k33 m3 (t_37 + 1) r174.Weights)
        (fun k158 =>
        model_Train_L4 n r153 k158 n t_138 0))
       (fun k137 =>
       model_Train_L3 n r132 k137 n [] 0))
     (fun k50 =>
     (model_Best n (Model.mk b_38) x44.Readings).bind fun r67 =>
     (ix x44.Readings r67).bind fun x71 =>
     (ix x44.Readings x44.Gold).bind fun x74 =>
     k50 x71.Kind x71.Name x71.From x71.To x71.Kids x74.Kind x74.Name x74.From x74.To x74.Kids)
  else
   k33 b_38
def model_Train_L1 (n : Nat) (t_' : (List Judged)) (t_'' : Int) (k24 : (List Weight) → Option (Model × Int)) : Nat → Nat → (List Weight) → Option (Model × Int)
  | 0, _, _ => none
  | m2 + 1, t_28, b_29 =>
  if ((t_28 : Nat) : Int) < t_'' then
   jn (fun (b_34 : (List Weight)) =>
    chk (t_28 + 1 ≤ 9223372036854775807) (
    model_Train_L1 n t_' t_'' k24 m2 (t_28 + 1) b_34))
     (fun k33 =>
     model_Train_L2 n t_' k33 n 0 b_29)
  else
   k24 b_29
/-- grammarlab/model.Train -/
def model_Train (n : Nat) (t_ : Model) (t_' : (List Judged)) (t_'' : Int) : Option (Model × Int) :=
 jn (fun (t_6 : Bool) =>
  if t_6 = true then
   some ((Model.mk []), 2)
  else
   jn (
    jn (fun (b_25 : (List Weight)) =>
     some ((Model.mk b_25), 0))
      (fun k24 =>
      model_Train_L1 n t_' t_'' k24 n 0 t_.Weights))
     (fun k9 =>
     model_Train_L0 n t_' k9 n 0))
   (fun k5 =>
   if t_'' < 0 then
    k5 true
   else
    k5 (decide ((16 : Int) < t_'')))
def r37_Same_L0 (n : Nat) (a_ : Model) (b_ : Model) : Nat → Nat → Option Bool
  | 0, _ => none
  | m1 + 1, i_6 =>
  if i_6 < ((a_.Weights).length) then
   (a_.Weights[i_6]?).bind fun x10 =>
   (b_.Weights[i_6]?).bind fun x13 =>
   if x10 = x13 then
    r37_Same_L0 n a_ b_ m1 (i_6 + 1)
   else
    some false
  else
   some true
/-- grammarlab/grammarlabref37.Same -/
def r37_Same (n : Nat) (a_ : Model) (b_ : Model) : Option Bool :=
 if ((a_.Weights).length) ≠ ((b_.Weights).length) then
  some false
 else
  r37_Same_L0 n a_ b_ n 0
/-- grammarlab/grammarlablaw37.leaf -/
def law37_leaf (n : Nat) (name_ : (List UInt8)) (from_ : Int) (to_ : Int) : Option Deriv :=
 some (Deriv.mk 0 name_ from_ to_ [])
/-- internal/stringslite.Cut -/
def stringslite_Cut (n : Nat) (s_ : (List UInt8)) (sep_ : (List UInt8)) : Option ((List UInt8) × (List UInt8) × Bool) :=
 (stringslite_Index n s_ sep_).bind fun r1 =>
 if (0 : Int) ≤ r1 then
  chk (0 ≤ r1) (
  chk ((r1).toNat ≤ (s_).length) (
  chk (-9223372036854775808 ≤ r1 + (((sep_).length : Nat) : Int) ∧ r1 + (((sep_).length : Nat) : Int) ≤ 9223372036854775807) (
  chk (0 ≤ (r1 + (((sep_).length : Nat) : Int))) (
  chk ((r1 + (((sep_).length : Nat) : Int)).toNat ≤ (s_).length) (
  some ((s_).take ((r1).toNat), (s_).drop ((r1 + (((sep_).length : Nat) : Int)).toNat), true))))))
 else
  some (s_, [], false)
/-- strings.Cut -/
def strings_Cut (n : Nat) (s_ : (List UInt8)) (sep_ : (List UInt8)) : Option ((List UInt8) × (List UInt8) × Bool) :=
 (stringslite_Cut n s_ sep_).bind fun r1 =>
 some (r1.1, r1.2.1, r1.2.2)
/-- grammarlab/text.digit -/
def text_digit (n : Nat) (c_ : Int) : Option Bool :=
 if (48 : Int) ≤ c_ then
  some (decide (c_ ≤ 57))
 else
  some false
def text_follows_L0 (n : Nat) (s_ : (List UInt8)) (letter_ : (Int → Option Bool)) : Nat → Nat → Option Bool
  | 0, _ => none
  | m1 + 1, pos_7 =>
  if pos_7 < (s_).length then
   jn (fun (t_11 : Bool) =>
    if t_11 = true then
     some false
    else
     text_follows_L0 n s_ letter_ m1 (pos_7 + runeLen s_ pos_7))
     (fun k10 =>
     (letter_ (runeAt s_ pos_7)).bind fun r12 =>
     if (!(r12)) = true then
      if pos_7 = 0 then
       k10 true
      else
       (text_digit n (runeAt s_ pos_7)).bind fun r19 =>
       if (!(r19)) = true then
        k10 (decide ((runeAt s_ pos_7) ≠ 45))
       else
        k10 false
     else
      k10 false)
  else
   some true
/-- grammarlab/text.follows -/
def text_follows (n : Nat) (s_ : (List UInt8)) (letter_ : (Int → Option Bool)) : Option Bool :=
 jn (fun (t_2 : Bool) =>
  if t_2 = true then
   some false
  else
   text_follows_L0 n s_ letter_ n 0)
   (fun k1 =>
   if ((s_).length) = 0 then
    k1 true
   else
    k1 (decide ((32 : Nat) < ((s_).length))))
/-- grammarlab/text.lower -/
def text_lower (n : Nat) (c_ : Int) : Option Bool :=
 if (97 : Int) ≤ c_ then
  some (decide (c_ ≤ 122))
 else
  some false
/-- grammarlab/text.Name -/
def text_Name (n : Nat) (s_ : (List UInt8)) : Option Bool :=
 (text_follows n s_ (fun p => text_lower n p)).bind fun r1 =>
 some r1
/-- strings.explode -/
def strings_explode (n : Nat) (s_ : (List UInt8)) (n_ : Int) : Option (List (List UInt8)) :=
 none
def strings_genSplit_L0 (n : Nat) (t_ : (List UInt8)) (t_' : (List UInt8)) (t_'' : Int) (t_9 : Int) (k23 : (List UInt8) → (List (List UInt8)) → Nat → Option (List (List UInt8))) : Nat → (List UInt8) → (List (List UInt8)) → Nat → Option (List (List UInt8))
  | 0, _, _, _ => none
  | m1 + 1, t_30, t_31, t_35 =>
  if ((t_35 : Nat) : Int) < ((if (((t_).length + 1 : Nat) : Int) < t_9 then (((t_).length + 1 : Nat) : Int) else t_9) - 1) then
   (strings_Index n t_30 t_').bind fun r37 =>
   if r37 < 0 then
    k23 t_30 t_31 t_35
   else
    chk (-9223372036854775808 ≤ r37 + t_'' ∧ r37 + t_'' ≤ 9223372036854775807) (
    chk (0 ≤ (r37 + t_'')) (
    chk ((r37 + t_'').toNat ≤ (t_30).length) (
    (t_31[t_35]?).bind fun x47 =>
    chk (-9223372036854775808 ≤ r37 + (((t_').length : Nat) : Int) ∧ r37 + (((t_').length : Nat) : Int) ≤ 9223372036854775807) (
    chk (0 ≤ (r37 + (((t_').length : Nat) : Int))) (
    chk ((r37 + (((t_').length : Nat) : Int)).toNat ≤ (t_30).length) (
    chk (t_35 + 1 ≤ 9223372036854775807) (
    strings_genSplit_L0 n t_ t_' t_'' t_9 k23 m1 ((t_30).drop ((r37 + (((t_').length : Nat) : Int)).toNat)) ((t_31).set t_35 ((t_30).take ((r37 + t_'').toNat))) (t_35 + 1))))))))
  else
   k23 t_30 t_31 t_35
/-- strings.genSplit -/
def strings_genSplit (n : Nat) (t_ : (List UInt8)) (t_' : (List UInt8)) (t_'' : Int) (t_''' : Int) : Option (List (List UInt8)) :=
 if t_''' = 0 then
  some []
 else
  if (t_' : List UInt8) = [] then
   (strings_explode n t_ t_''').bind fun r3 =>
   some r3
  else
   jn (fun (t_9 : Int) =>
    chk ((t_).length + 1 ≤ 9223372036854775807) (
    chk (0 ≤ if (((t_).length + 1 : Nat) : Int) < t_9 then (((t_).length + 1 : Nat) : Int) else t_9) (
    chk (16 * ((if (((t_).length + 1 : Nat) : Int) < t_9 then (((t_).length + 1 : Nat) : Int) else t_9).toNat) ≤ 281474976710656) (
    chk (-9223372036854775808 ≤ (if (((t_).length + 1 : Nat) : Int) < t_9 then (((t_).length + 1 : Nat) : Int) else t_9) - 1 ∧ (if (((t_).length + 1 : Nat) : Int) < t_9 then (((t_).length + 1 : Nat) : Int) else t_9) - 1 ≤ 9223372036854775807) (
    jn (fun (t_24 : (List UInt8)) (t_25 : (List (List UInt8))) (t_29 : Nat) =>
     (t_25[t_29]?).bind fun x54 =>
     chk (t_29 + 1 ≤ 9223372036854775807) (
     chk (t_29 + 1 ≤ ((t_25).set t_29 t_24).length) (
     some (((t_25).set t_29 t_24).take (t_29 + 1)))))
      (fun k23 =>
      strings_genSplit_L0 n t_ t_' t_'' t_9 k23 n t_ (List.replicate ((if (((t_).length + 1 : Nat) : Int) < t_9 then (((t_).length + 1 : Nat) : Int) else t_9).toNat) ([] : (List UInt8))) 0))))))
     (fun k8 =>
     if t_''' < 0 then
      (strings_Count n t_ t_').bind fun r11 =>
      chk (-9223372036854775808 ≤ r11 + 1 ∧ r11 + 1 ≤ 9223372036854775807) (
      k8 (r11 + 1))
     else
      k8 t_''')
/-- strings.Split -/
def strings_Split (n : Nat) (s_ : (List UInt8)) (sep_ : (List UInt8)) : Option (List (List UInt8)) :=
 (strings_genSplit n s_ sep_ 0 (-1)).bind fun r1 =>
 some r1
def slices_IndexFunc_string_L0 (n : Nat) (s_ : (List (List UInt8))) (f_ : ((List UInt8) → Option Bool)) : Nat → Nat → Option Int
  | 0, _ => none
  | m1 + 1, t_1 =>
  if t_1 < ((s_).length) then
   (s_[t_1]?).bind fun x5 =>
   (f_ x5).bind fun r7 =>
   if r7 = true then
    some ((t_1 : Nat) : Int)
   else
    slices_IndexFunc_string_L0 n s_ f_ m1 (t_1 + 1)
  else
   some (-1)
/-- slices.IndexFunc(()string,string) -/
def slices_IndexFunc_string (n : Nat) (s_ : (List (List UInt8))) (f_ : ((List UInt8) → Option Bool)) : Option Int :=
 slices_IndexFunc_string_L0 n s_ f_ n 0
/-- slices.ContainsFunc(()string,string) -/
def slices_ContainsFunc_string (n : Nat) (s_ : (List (List UInt8))) (f_ : ((List UInt8) → Option Bool)) : Option Bool :=
 (slices_IndexFunc_string n s_ f_).bind fun r1 =>
 some (decide ((0 : Int) ≤ r1))
/-- grammarlab/model.feature inner 1 -/
def model_feature_1 (n : Nat) (k_ : (List UInt8)) : Option Bool :=
 (text_Name n k_).bind fun r1 =>
 some (!(r1))
/-- grammarlab/model.feature -/
def model_feature (n : Nat) (s_ : (List UInt8)) : Option Bool :=
 (strings_Cut n s_ [62]).bind fun r1 =>
 if (!(r1.2.2)) = true then
  (text_Name n s_).bind fun r7 =>
  some r7
 else
  (strings_Split n r1.2.1 [32]).bind fun r12 =>
  (text_Name n r1.1).bind fun r17 =>
  if r17 = true then
   if ((r12).length) ≤ 2 then
    (slices_ContainsFunc_string n r12 (fun p => model_feature_1 n p)).bind fun r22 =>
    some (!(r22))
   else
    some false
  else
   some false
def model_Check_L0 (n : Nat) (m_ : Model) : Nat → Nat → Option Int
  | 0, _ => none
  | m1 + 1, t_3 =>
  if t_3 < ((m_.Weights).length) then
   (m_.Weights[t_3]?).bind fun x7 =>
   (model_feature n x7.Feature).bind fun r13 =>
   if (!(r13)) = true then
    some 1
   else
    jn (fun (t_20 : Bool) =>
     if t_20 = true then
      some 2
     else
      jn (fun (t_25 : Bool) =>
       if t_25 = true then
        some 3
       else
        model_Check_L0 n m_ m1 (t_3 + 1))
        (fun k24 =>
        if (0 : Nat) < t_3 then
         (ix m_.Weights (((t_3 : Nat) : Int) - 1)).bind fun x28 =>
         k24 (!(Op.bytesLess x28.Feature x7.Feature))
        else
         k24 false))
      (fun k19 =>
      if x7.Value = 0 then
       k19 true
      else
       if x7.Value < (-1048576) then
        k19 true
       else
        k19 (decide ((1048576 : Int) < x7.Value)))
  else
   some 0
/-- grammarlab/model.Check -/
def model_Check (n : Nat) (m_ : Model) : Option Int :=
 model_Check_L0 n m_ n 0
/-- grammarlab/grammarlablaw37.exampleHolds -/
def law37_exampleHolds (n : Nat)  : Option Bool :=
 (law37_leaf n [97] 0 1).bind fun r1 =>
 (law37_leaf n [98] 0 1).bind fun r4 =>
 (model_Train n (Model.mk []) [(Judged.mk [r1, r4] 1)] 1).bind fun r14 =>
 (law37_leaf n [100, 101, 116] 0 1).bind fun r22 =>
 (law37_leaf n [110] 1 2).bind fun r25 =>
 (model_Features n (Deriv.mk 2 [110, 112] 0 2 [r22, r25])).bind fun r36 =>
 if r14.2 = 0 then
  (r37_Same n r14.1 (Model.mk [(Weight.mk [97] (-1)), (Weight.mk [98] 1)])).bind fun r43 =>
  if r43 = true then
   (model_Best n r14.1 [r1, r4]).bind fun r47 =>
   if r47 = 1 then
    ([r1, r4][1]?).bind fun x52 =>
    (model_Score n r14.1 x52).bind fun r54 =>
    if r54 = 1 then
     if ((r36).length) = 4 then
      (r36[0]?).bind fun x60 =>
      if (x60 : List UInt8) = [110, 112] then
       (r36[1]?).bind fun x64 =>
       if (x64 : List UInt8) = [110, 112, 62, 100, 101, 116, 32, 110] then
        (r36[3]?).bind fun x68 =>
        if (x68 : List UInt8) = [110] then
         (model_Check n (Model.mk [(Weight.mk [110, 112] 0)])).bind fun r72 =>
         some (decide (r72 = 2))
        else
         some false
       else
        some false
      else
       some false
     else
      some false
    else
     some false
   else
    some false
  else
   some false
 else
  some false
/-- grammarlab/grammarlabref28.ints -/
def r28_ints (n : Nat) (a_ : Int) (b_ : Int) : Option Int :=
 if a_ < b_ then
  some (-1)
 else
  if b_ < a_ then
   some 1
  else
   some 0
def r28_Compare_L0 (n : Nat) (t_ : Deriv) (t_' : Deriv) (self_ : Deriv → Deriv → Option Int) (k25 : Option Int) : Nat → Nat → Option Int
  | 0, _ => none
  | m1 + 1, t_26 =>
  jn (fun (t_28 : Bool) =>
   if t_28 = true then
    (t_.Kids[t_26]?).bind fun x33 =>
    (t_'.Kids[t_26]?).bind fun x36 =>
    (self_ x33 x36).bind fun r38 =>
    if r38 ≠ 0 then
     some r38
    else
     chk (t_26 + 1 ≤ 9223372036854775807) (
     r28_Compare_L0 n t_ t_' self_ k25 m1 (t_26 + 1))
   else
    k25)
    (fun k27 =>
    if t_26 < ((t_.Kids).length) then
     k27 (decide (t_26 < ((t_'.Kids).length)))
    else
     k27 false)
/-- grammarlab/grammarlabref28.Compare -/
def r28_Compare : Nat → Deriv → Deriv → Option Int
  | 0, _, _ => none
  | n + 1, t_, t_' =>
  if t_.From ≠ t_'.From then
   (r28_ints n t_.From t_'.From).bind fun r6 =>
   some r6
  else
   if t_.To ≠ t_'.To then
    (r28_ints n t_.To t_'.To).bind fun r12 =>
    some r12
   else
    if t_.Kind ≠ t_'.Kind then
     (r28_ints n t_.Kind t_'.Kind).bind fun r18 =>
     some r18
    else
     if (t_.Name : List UInt8) ≠ t_'.Name then
      if (Op.bytesLess t_.Name t_'.Name) = true then
       some (-1)
      else
       some 1
     else
      jn (
       (r28_ints n (((t_.Kids).length : Nat) : Int) (((t_'.Kids).length : Nat) : Int)).bind fun r49 =>
       some r49)
        (fun k25 =>
        r28_Compare_L0 n t_ t_' (r28_Compare n) k25 n 0)
def r37_Features_L0 (n : Nat) (t_ : Deriv) (k13 : (List UInt8) → Option (List (List UInt8))) : Nat → (List UInt8) → Nat → Option (List (List UInt8))
  | 0, _, _ => none
  | m1 + 1, t_15, t_16 =>
  if t_16 < ((t_.Kids).length) then
   jn (fun (t_20 : (List UInt8)) =>
    (t_.Kids[t_16]?).bind fun x24 =>
    chk ((t_20).length + (x24.Name).length ≤ 9223372036854775807) (
    r37_Features_L0 n t_ k13 m1 (t_20 ++ x24.Name) (t_16 + 1)))
     (fun k19 =>
     if (0 : Nat) < t_16 then
      chk ((t_15).length + ([32]).length ≤ 9223372036854775807) (
      k19 (t_15 ++ [32]))
     else
      k19 t_15)
  else
   k13 t_15
def r37_Features_L2 (n : Nat) (k43 : (List (List UInt8)) → Option (List (List UInt8))) (r51 : (List (List UInt8))) : Nat → (List (List UInt8)) → Nat → Option (List (List UInt8))
  | 0, _, _ => none
  | m3 + 1, t_58, t_62 =>
  if t_62 < ((r51).length) then
   (r51[t_62]?).bind fun x66 =>
   chk ((t_58).length + ([x66]).length ≤ 137438953472) (
   r37_Features_L2 n k43 r51 m3 (t_58 ++ [x66]) (t_62 + 1))
  else
   k43 t_58
def r37_Features_L1 (n : Nat) (t_ : Deriv) (self_ : Deriv → Option (List (List UInt8))) : Nat → (List (List UInt8)) → Nat → Option (List (List UInt8))
  | 0, _, _ => none
  | m2 + 1, t_36, t_40 =>
  if t_40 < ((t_.Kids).length) then
   jn (fun (t_44 : (List (List UInt8))) =>
    r37_Features_L1 n t_ self_ m2 t_44 (t_40 + 1))
     (fun k43 =>
     (t_.Kids[t_40]?).bind fun x49 =>
     (self_ x49).bind fun r51 =>
     r37_Features_L2 n k43 r51 n t_36 0)
  else
   some t_36
/-- grammarlab/grammarlabref37.Features -/
def r37_Features : Nat → Deriv → Option (List (List UInt8))
  | 0, _ => none
  | n + 1, t_ =>
  jn (fun (t_6 : (List (List UInt8))) =>
   r37_Features_L1 n t_ (r37_Features n) n t_6 0)
    (fun k5 =>
    if (0 : Nat) < ((t_.Kids).length) then
     chk ((t_.Name).length + ([62]).length ≤ 9223372036854775807) (
     jn (fun (t_14 : (List UInt8)) =>
      chk (([t_.Name]).length + ([t_14]).length ≤ 137438953472) (
      k5 ([t_.Name] ++ [t_14])))
       (fun k13 =>
       r37_Features_L0 n t_ k13 n (t_.Name ++ [62]) 0))
    else
     k5 [t_.Name])
def r37_weight_L0 (n : Nat) (m_ : Model) (s_ : (List UInt8)) : Nat → Nat → Option Int
  | 0, _ => none
  | m1 + 1, i_3 =>
  if i_3 < ((m_.Weights).length) then
   (m_.Weights[i_3]?).bind fun x7 =>
   if (x7.Feature : List UInt8) = s_ then
    some x7.Value
   else
    r37_weight_L0 n m_ s_ m1 (i_3 + 1)
  else
   some 0
/-- grammarlab/grammarlabref37.weight -/
def r37_weight (n : Nat) (m_ : Model) (s_ : (List UInt8)) : Option Int :=
 r37_weight_L0 n m_ s_ n 0
def r37_Score_L0 (n : Nat) (m_ : Model) (r5 : (List (List UInt8))) : Nat → Int → Nat → Option Int
  | 0, _, _ => none
  | m1 + 1, n_10, i_11 =>
  if i_11 < ((r5).length) then
   (r5[i_11]?).bind fun x15 =>
   (r37_weight n m_ x15).bind fun r17 =>
   chk (-9223372036854775808 ≤ n_10 + r17 ∧ n_10 + r17 ≤ 9223372036854775807) (
   r37_Score_L0 n m_ r5 m1 (n_10 + r17) (i_11 + 1))
  else
   some n_10
/-- grammarlab/grammarlabref37.Score -/
def r37_Score (n : Nat) (m_ : Model) (d_ : Deriv) : Option Int :=
 (r37_Features n d_).bind fun r5 =>
 r37_Score_L0 n m_ r5 n 0 0
def r37_Best_L0 (n : Nat) (m_ : Model) (l_ : (List Deriv)) : Nat → Int → Nat → Option Int
  | 0, _, _ => none
  | m1 + 1, b_3, i_4 =>
  if i_4 < ((l_).length) then
   if b_3 < 0 then
    r37_Best_L0 n m_ l_ m1 ((i_4 : Nat) : Int) (i_4 + 1)
   else
    (l_[i_4]?).bind fun x9 =>
    (r37_Score n m_ x9).bind fun r11 =>
    (ix l_ b_3).bind fun x19 =>
    (r37_Score n m_ x19).bind fun r21 =>
    jn (fun (t_29 : Bool) =>
     if t_29 = true then
      r37_Best_L0 n m_ l_ m1 ((i_4 : Nat) : Int) (i_4 + 1)
     else
      r37_Best_L0 n m_ l_ m1 b_3 (i_4 + 1))
      (fun k28 =>
      if r21 < r11 then
       k28 true
      else
       if r11 = r21 then
        (r28_Compare n x9 x19).bind fun r36 =>
        k28 (decide (r36 < 0))
       else
        k28 false)
  else
   some b_3
/-- grammarlab/grammarlabref37.Best -/
def r37_Best (n : Nat) (m_ : Model) (l_ : (List Deriv)) : Option Int :=
 r37_Best_L0 n m_ l_ n (-1) 0
def r37_set_L0 (n : Nat) (t_ : Model) (t_' : (List UInt8)) (t_'' : Int) (k7 : Bool → (List Weight) → Option Model) : Nat → Bool → Nat → (List Weight) → Option Model
  | 0, _, _, _ => none
  | m1 + 1, t_13, t_14, b_15 =>
  if t_14 < ((t_.Weights).length) then
   (t_.Weights[t_14]?).bind fun x22 =>
   jn (fun (t_29 : Bool) =>
    jn (fun (t_32 : Bool) (b_33 : (List Weight)) =>
     if (x22.Feature : List UInt8) ≠ t_' then
      chk ((b_33).length + ([x22]).length ≤ 137438953472) (
      r37_set_L0 n t_ t_' t_'' k7 m1 t_32 (t_14 + 1) (b_33 ++ [x22]))
     else
      r37_set_L0 n t_ t_' t_'' k7 m1 t_32 (t_14 + 1) b_33)
      (fun k31 =>
      if t_29 = true then
       if (if -1048576 < if t_'' < 1048576 then t_'' else 1048576 then if t_'' < 1048576 then t_'' else 1048576 else -1048576) ≠ 0 then
        chk ((b_15).length + ([(Weight.mk t_' (if -1048576 < if t_'' < 1048576 then t_'' else 1048576 then if t_'' < 1048576 then t_'' else 1048576 else -1048576))]).length ≤ 137438953472) (
        k31 true (b_15 ++ [(Weight.mk t_' (if -1048576 < if t_'' < 1048576 then t_'' else 1048576 then if t_'' < 1048576 then t_'' else 1048576 else -1048576))]))
       else
        k31 true b_15
      else
       k31 t_13 b_15))
     (fun k28 =>
     if (!(t_13)) = true then
      k28 ((Op.bytesLess t_' x22.Feature) || (t_' == x22.Feature))
     else
      k28 false)
  else
   k7 t_13 b_15
/-- grammarlab/grammarlabref37.set -/
def r37_set (n : Nat) (t_ : Model) (t_' : (List UInt8)) (t_'' : Int) : Option Model :=
 jn (fun (t_8 : Bool) (b_9 : (List Weight)) =>
  jn (fun (t_55 : Bool) =>
   jn (fun (b_58 : (List Weight)) =>
    some (Model.mk b_58))
     (fun k57 =>
     if t_55 = true then
      chk ((b_9).length + ([(Weight.mk t_' (if -1048576 < if t_'' < 1048576 then t_'' else 1048576 then if t_'' < 1048576 then t_'' else 1048576 else -1048576))]).length ≤ 137438953472) (
      k57 (b_9 ++ [(Weight.mk t_' (if -1048576 < if t_'' < 1048576 then t_'' else 1048576 then if t_'' < 1048576 then t_'' else 1048576 else -1048576))]))
     else
      k57 b_9))
    (fun k54 =>
    if (!(t_8)) = true then
     k54 (decide ((if -1048576 < if t_'' < 1048576 then t_'' else 1048576 then if t_'' < 1048576 then t_'' else 1048576 else -1048576) ≠ 0))
    else
     k54 false))
   (fun k7 =>
   r37_set_L0 n t_ t_' t_'' k7 n false 0 [])
def r37_count_L0 (n : Nat) (l_ : (List (List UInt8))) (s_ : (List UInt8)) : Nat → Nat → Nat → Option Int
  | 0, _, _ => none
  | m1 + 1, n_1, i_2 =>
  if i_2 < ((l_).length) then
   (l_[i_2]?).bind fun x6 =>
   if (x6 : List UInt8) = s_ then
    chk (n_1 + 1 ≤ 9223372036854775807) (
    r37_count_L0 n l_ s_ m1 (n_1 + 1) (i_2 + 1))
   else
    r37_count_L0 n l_ s_ m1 n_1 (i_2 + 1)
  else
   some ((n_1 : Nat) : Int)
/-- grammarlab/grammarlabref37.count -/
def r37_count (n : Nat) (l_ : (List (List UInt8))) (s_ : (List UInt8)) : Option Int :=
 r37_count_L0 n l_ s_ n 0 0
def r37_learn_L0 (n : Nat) (t_ : Model) (r51 : (List (List UInt8))) (r56 : (List (List UInt8))) (k63 : (List Weight) → Option Model) : Nat → Nat → (List Weight) → Option Model
  | 0, _, _ => none
  | m1 + 1, t_67, b_68 =>
  if t_67 < ((r51).length) then
   (r51[t_67]?).bind fun x74 =>
   (r37_weight n t_ x74).bind fun r78 =>
   (r37_count n r51 x74).bind fun r83 =>
   chk (-9223372036854775808 ≤ r78 + r83 ∧ r78 + r83 ≤ 9223372036854775807) (
   (r37_count n r56 x74).bind fun r89 =>
   chk (-9223372036854775808 ≤ (r78 + r83) - r89 ∧ (r78 + r83) - r89 ≤ 9223372036854775807) (
   (r37_set n (Model.mk b_68) x74 ((r78 + r83) - r89)).bind fun r93 =>
   r37_learn_L0 n t_ r51 r56 k63 m1 (t_67 + 1) r93.Weights))
  else
   k63 b_68
def r37_learn_L1 (n : Nat) (t_ : Model) (r51 : (List (List UInt8))) (r56 : (List (List UInt8))) (k116 : (List Weight) → Option Model) : Nat → Nat → (List Weight) → Option Model
  | 0, _, _ => none
  | m2 + 1, t_120, b_121 =>
  if t_120 < ((r56).length) then
   (r56[t_120]?).bind fun x127 =>
   (r37_weight n t_ x127).bind fun r131 =>
   (r37_count n r51 x127).bind fun r136 =>
   chk (-9223372036854775808 ≤ r131 + r136 ∧ r131 + r136 ≤ 9223372036854775807) (
   (r37_count n r56 x127).bind fun r142 =>
   chk (-9223372036854775808 ≤ (r131 + r136) - r142 ∧ (r131 + r136) - r142 ≤ 9223372036854775807) (
   (r37_set n (Model.mk b_121) x127 ((r131 + r136) - r142)).bind fun r146 =>
   r37_learn_L1 n t_ r51 r56 k116 m2 (t_120 + 1) r146.Weights))
  else
   k116 b_121
/-- grammarlab/grammarlabref37.learn -/
def r37_learn (n : Nat) (t_ : Model) (t_' : Judged) : Option Model :=
 jn (fun (t_9 : Int) (t_10 : (List UInt8)) (t_11 : Int) (t_12 : Int) (t_13 : (List Deriv)) =>
  (ix t_'.Readings t_'.Gold).bind fun x39 =>
  (r28_Compare n (Deriv.mk t_9 t_10 t_11 t_12 t_13) x39).bind fun r45 =>
  if r45 = 0 then
   some t_
  else
   (r37_Features n x39).bind fun r51 =>
   (r37_Features n (Deriv.mk t_9 t_10 t_11 t_12 t_13)).bind fun r56 =>
   jn (fun (b_64 : (List Weight)) =>
    jn (fun (b_117 : (List Weight)) =>
     some (Model.mk b_117))
      (fun k116 =>
      r37_learn_L1 n t_ r51 r56 k116 n 0 b_64))
     (fun k63 =>
     r37_learn_L0 n t_ r51 r56 k63 n 0 t_.Weights))
   (fun k7 =>
   (r37_Best n t_ t_'.Readings).bind fun r16 =>
   (ix t_'.Readings r16).bind fun x20 =>
   k7 x20.Kind x20.Name x20.From x20.To x20.Kids)
def r37_Train_L0 (n : Nat) (l_ : (List Judged)) (k9 : Option (Model × Int)) : Nat → Nat → Option (Model × Int)
  | 0, _ => none
  | m1 + 1, i_10 =>
  if i_10 < ((l_).length) then
   jn (fun (t_14 : Bool) =>
    if t_14 = true then
     some ((Model.mk []), 2)
    else
     r37_Train_L0 n l_ k9 m1 (i_10 + 1))
     (fun k13 =>
     (l_[i_10]?).bind fun x16 =>
     if x16.Gold < 0 then
      k13 true
     else
      k13 (decide ((((x16.Readings).length : Nat) : Int) ≤ x16.Gold)))
  else
   k9
def r37_Train_L2 (n : Nat) (l_ : (List Judged)) (k41 : (List Weight) → Option (Model × Int)) : Nat → Nat → (List Weight) → Option (Model × Int)
  | 0, _, _ => none
  | m3 + 1, i_45, m_46 =>
  if i_45 < ((l_).length) then
   (l_[i_45]?).bind fun x52 =>
   (r37_learn n (Model.mk m_46) x52).bind fun r54 =>
   r37_Train_L2 n l_ k41 m3 (i_45 + 1) r54.Weights
  else
   k41 m_46
def r37_Train_L1 (n : Nat) (l_ : (List Judged)) (rounds_ : Int) (k32 : (List Weight) → Option (Model × Int)) : Nat → Nat → (List Weight) → Option (Model × Int)
  | 0, _, _ => none
  | m2 + 1, r_36, m_37 =>
  if ((r_36 : Nat) : Int) < rounds_ then
   jn (fun (m_42 : (List Weight)) =>
    chk (r_36 + 1 ≤ 9223372036854775807) (
    r37_Train_L1 n l_ rounds_ k32 m2 (r_36 + 1) m_42))
     (fun k41 =>
     r37_Train_L2 n l_ k41 n 0 m_37)
  else
   k32 m_37
/-- grammarlab/grammarlabref37.Train -/
def r37_Train (n : Nat) (m_ : Model) (l_ : (List Judged)) (rounds_ : Int) : Option (Model × Int) :=
 jn (fun (t_6 : Bool) =>
  if t_6 = true then
   some ((Model.mk []), 2)
  else
   jn (
    jn (fun (m_33 : (List Weight)) =>
     some ((Model.mk m_33), 0))
      (fun k32 =>
      r37_Train_L1 n l_ rounds_ k32 n 0 m_.Weights))
     (fun k9 =>
     r37_Train_L0 n l_ k9 n 0))
   (fun k5 =>
   if rounds_ < 0 then
    k5 true
   else
    k5 (decide ((16 : Int) < rounds_)))
/-- grammarlab/grammarlablaw37.ModelTrains -/
def law37_ModelTrains (n : Nat) (m_ : Model) (l_ : (List Judged)) (rounds_ : Int) : Option Bool :=
 jn (fun (t_4 : Bool) =>
  if t_4 = true then
   (law37_exampleHolds n).bind fun r21 =>
   some r21
  else
   (model_Train n m_ l_ rounds_).bind fun r26 =>
   (r37_Train n m_ l_ rounds_).bind fun r33 =>
   if r26.2 = r33.2 then
    (r37_Same n r26.1 r33.1).bind fun r41 =>
    if r41 = true then
     (law37_exampleHolds n).bind fun r45 =>
     some r45
    else
     some false
   else
    some false)
   (fun k3 =>
   if (30 : Nat) < ((m_.Weights).length) then
    k3 true
   else
    (law37_lightJudged n l_ 60).bind fun r7 =>
    if (!(r7)) = true then
     k3 true
    else
     (r37_Check n m_).bind fun r13 =>
     k3 (decide (r13 ≠ 0)))
end Go.Proofs.YthgdajiipojnoaaGreatDoor

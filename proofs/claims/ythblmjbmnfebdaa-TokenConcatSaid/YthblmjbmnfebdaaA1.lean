/- Chapter 27: plain programs and walks -/
import Derived.Test.YthblmjbmnfebdaaGl14
import Derived.Test.YthblmjbmnfebdaaA0
import Derived.Test.YthblmjbmnfebdaaProg
namespace Go.Proofs.Ythblmjbmnfebdaa
open Go.Gl Go.RowKit
set_option linter.unusedVariables false
set_option linter.unusedSimpArgs false

/-- grammarlab/token.Split inner 1 -/
def token_Split_1 (n : Nat) (c0_ : (List UInt8)) (c1_ : (List (List UInt8))) : Option ((List UInt8) × (List (List UInt8))) :=
  if (0 : Nat) < ((c0_).length) then
    chk ((c1_).length + ([c0_]).length ≤ 137438953472) (
    chk (0 ≤ (c0_).length) (
    some ((c0_).take 0, c1_ ++ [c0_])))
  else
    some (c0_, c1_)
/-- grammarlab/token.space -/
def token_space (n : Nat) (c_ : Int) : Option Bool :=
  if c_ = 32 then
    some true
  else
    if c_ = 9 then
      some true
    else
      if c_ = 13 then
        some true
      else
        some (decide (c_ = 10))
/-- grammarlab/token.mark -/
def token_mark (n : Nat) (c_ : Int) : Option Bool :=
  jn (fun (t_2 : Bool) =>
    if t_2 = true then
      some true
    else
      some false)
    (fun k1 =>
      if c_ = 46 then
        k1 (decide (c_ = 46))
      else
        if c_ = 44 then
          k1 (decide (c_ = 44))
        else
          if c_ = 63 then
            k1 (decide (c_ = 63))
          else
            if c_ = 33 then
              k1 (decide (c_ = 33))
            else
              if c_ = 59 then
                k1 (decide (c_ = 59))
              else
                k1 (decide (c_ = 58)))
def token_Split_L0 (n : Nat) (t_ : (List UInt8)) (k11 : (List (List UInt8)) → (List UInt8) → Option ((List (List UInt8)) × Int)) : Nat → (List (List UInt8)) → (List UInt8) → Nat → Option ((List (List UInt8)) × Int)
  | 0, _, _, _ => none
  | m1 + 1, b_20, b_24, pos_28 =>
    if pos_28 < (t_).length then
      (token_space n (runeAt t_ pos_28)).bind fun r31 =>
      if r31 = true then
        (token_Split_1 n b_24 b_20).bind fun r37 =>
        token_Split_L0 n t_ k11 m1 r37.2 r37.1 (pos_28 + runeLen t_ pos_28)
      else
        jn (fun (t_43 : Bool) =>
          if t_43 = true then
            some ([], 8)
          else
            (token_mark n (runeAt t_ pos_28)).bind fun r48 =>
            if r48 = true then
              (token_Split_1 n b_24 b_20).bind fun r54 =>
              chk ((r54.2).length + ([[toU8 (runeAt t_ pos_28)]]).length ≤ 137438953472) (
              token_Split_L0 n t_ k11 m1 (r54.2 ++ [[toU8 (runeAt t_ pos_28)]]) r54.1 (pos_28 + runeLen t_ pos_28))
            else
              jn (fun (t_69 : Bool) =>
                if t_69 = true then
                  chk ((b_24).length + ([((toU8 (runeAt t_ pos_28)) - (65 : UInt8)) + (97 : UInt8)]).length ≤ 137438953472) (
                  token_Split_L0 n t_ k11 m1 b_20 (b_24 ++ [((toU8 (runeAt t_ pos_28)) - (65 : UInt8)) + (97 : UInt8)]) (pos_28 + runeLen t_ pos_28))
                else
                  chk ((b_24).length + ([toU8 (runeAt t_ pos_28)]).length ≤ 137438953472) (
                  token_Split_L0 n t_ k11 m1 b_20 (b_24 ++ [toU8 (runeAt t_ pos_28)]) (pos_28 + runeLen t_ pos_28)))
                (fun k68 =>
                  if (65 : Int) ≤ (runeAt t_ pos_28) then
                    k68 (decide ((runeAt t_ pos_28) ≤ 90))
                  else
                    k68 false))
          (fun k42 =>
            if (runeAt t_ pos_28) < 33 then
              k42 true
            else
              if (126 : Int) < (runeAt t_ pos_28) then
                k42 true
              else
                if (runeAt t_ pos_28) = 34 then
                  k42 true
                else
                  k42 (decide ((runeAt t_ pos_28) = 92)))
    else
      k11 b_20 b_24
def token_Split_L1 (n : Nat) (r86 : ((List UInt8) × (List (List UInt8)))) (k94 : Option ((List (List UInt8)) × Int)) : Nat → Nat → Option ((List (List UInt8)) × Int)
  | 0, _ => none
  | m2 + 1, t_95 =>
    if t_95 < ((r86.2).length) then
      (r86.2[t_95]?).bind fun x99 =>
      if (32 : Nat) < ((x99).length) then
        some ([], 7)
      else
        token_Split_L1 n r86 k94 m2 (t_95 + 1)
    else
      k94
/-- grammarlab/token.Split -/
def token_Split (n : Nat) (t_ : (List UInt8)) : Option ((List (List UInt8)) × Int) :=
  if (65536 : Nat) < ((t_).length) then
    some ([], 7)
  else
    jn (fun (b_12 : (List (List UInt8))) (b_16 : (List UInt8)) =>
      (token_Split_1 n b_16 b_12).bind fun r86 =>
      if ((r86.2).length) = 0 then
        some ([], 1)
      else
        if (32 : Nat) < ((r86.2).length) then
          some ([], 7)
        else
          jn (
            some (r86.2, 0))
            (fun k94 =>
              token_Split_L1 n r86 k94 n 0))
      (fun k11 =>
        token_Split_L0 n t_ k11 n [] [] 0)
/-- grammarlab/grammarlabref27.white -/
def r27_white (n : Nat) (c_ : UInt8) : Option Bool :=
  if c_.toNat = 32 then
    some true
  else
    if c_.toNat = 9 then
      some true
    else
      if c_.toNat = 13 then
        some true
      else
        some (decide (c_.toNat = 10))
/-- grammarlab/grammarlabref27.upper -/
def r27_upper (n : Nat) (c_ : UInt8) : Option Bool :=
  if (65 : Nat) ≤ c_.toNat then
    some (decide (c_.toNat ≤ 90))
  else
    some false
/-- grammarlab/grammarlabref27.part -/
def r27_part (n : Nat) (c_ : UInt8) : Option Bool :=
  if (33 : Nat) ≤ c_.toNat then
    if c_.toNat ≤ 126 then
      (r27_upper n c_).bind fun r3 =>
      if (!(r3)) = true then
        if c_.toNat ≠ 34 then
          some (decide (c_.toNat ≠ 92))
        else
          some false
      else
        some false
    else
      some false
  else
    some false
/-- grammarlab/grammarlabref27.marked -/
def r27_marked (n : Nat) (c_ : UInt8) : Option Bool :=
  if c_.toNat = 46 then
    some true
  else
    if c_.toNat = 44 then
      some true
    else
      if c_.toNat = 63 then
        some true
      else
        if c_.toNat = 33 then
          some true
        else
          if c_.toNat = 59 then
            some true
          else
            some (decide (c_.toNat = 58))
/-- grammarlab/grammarlabref27.small -/
def r27_small (n : Nat) (c_ : UInt8) : Option (List UInt8) :=
  (r27_upper n c_).bind fun r1 =>
  if r1 = true then
    some [(c_ + (97 : UInt8)) - (65 : UInt8)]
  else
    some [c_]
def r27_divided_L0 (n : Nat) (s_ : (List UInt8)) (k1 : (List (List UInt8)) → (List UInt8) → Option (List (List UInt8))) : Nat → (List (List UInt8)) → (List UInt8) → Nat → Option (List (List UInt8))
  | 0, _, _, _ => none
  | m1 + 1, out_7, word_11, i_12 =>
    if i_12 < ((s_).length) then
      jn (fun (t_16 : Bool) =>
        if t_16 = true then
          (s_[i_12]?).bind fun c32 =>
          (r27_small n c32).bind fun r33 =>
          chk ((word_11).length + (r33).length ≤ 9223372036854775807) (
          r27_divided_L0 n s_ k1 m1 out_7 (word_11 ++ r33) (i_12 + 1))
        else
          jn (fun (out_40 : (List (List UInt8))) (word_44 : (List UInt8)) =>
            (s_[i_12]?).bind fun c53 =>
            (r27_marked n c53).bind fun r54 =>
            if r54 = true then
              chk (i_12 ≤ i_12 + 1 ∧ i_12 + 1 ≤ (s_).length) (
              chk ((out_40).length + ([((s_).drop i_12).take (i_12 + 1 - i_12)]).length ≤ 137438953472) (
              r27_divided_L0 n s_ k1 m1 (out_40 ++ [((s_).drop i_12).take (i_12 + 1 - i_12)]) word_44 (i_12 + 1)))
            else
              r27_divided_L0 n s_ k1 m1 out_40 word_44 (i_12 + 1))
            (fun k39 =>
              if (word_11 : List UInt8) ≠ [] then
                chk ((out_7).length + ([word_11]).length ≤ 137438953472) (
                k39 (out_7 ++ [word_11]) [])
              else
                k39 out_7 word_11))
        (fun k15 =>
          (s_[i_12]?).bind fun c17 =>
          (r27_white n c17).bind fun r18 =>
          if (!(r18)) = true then
            (r27_marked n c17).bind fun r22 =>
            k15 (!(r22))
          else
            k15 false)
    else
      k1 out_7 word_11
/-- grammarlab/grammarlabref27.divided -/
def r27_divided (n : Nat) (s_ : (List UInt8)) : Option (List (List UInt8)) :=
  jn (fun (out_2 : (List (List UInt8))) (word_6 : (List UInt8)) =>
    if (word_6 : List UInt8) ≠ [] then
      chk ((out_2).length + ([word_6]).length ≤ 137438953472) (
      some (out_2 ++ [word_6]))
    else
      some out_2)
    (fun k1 =>
      r27_divided_L0 n s_ k1 n [] [] 0)
def r27_Split_L0 (n : Nat) (s_ : (List UInt8)) (k3 : Option ((List (List UInt8)) × Int)) : Nat → Nat → Option ((List (List UInt8)) × Int)
  | 0, _ => none
  | m1 + 1, i_4 =>
    if i_4 < ((s_).length) then
      jn (fun (t_8 : Bool) =>
        if t_8 = true then
          some ([], 8)
        else
          r27_Split_L0 n s_ k3 m1 (i_4 + 1))
        (fun k7 =>
          (s_[i_4]?).bind fun c9 =>
          (r27_white n c9).bind fun r10 =>
          if (!(r10)) = true then
            (r27_upper n c9).bind fun r14 =>
            if (!(r14)) = true then
              (r27_part n c9).bind fun r18 =>
              k7 (!(r18))
            else
              k7 false
          else
            k7 false)
    else
      k3
def r27_Split_L1 (n : Nat) (r34 : (List (List UInt8))) : Nat → Nat → Option ((List (List UInt8)) × Int)
  | 0, _ => none
  | m2 + 1, i_42 =>
    if i_42 < ((r34).length) then
      (r34[i_42]?).bind fun x46 =>
      if (32 : Nat) < ((x46).length) then
        some ([], 7)
      else
        r27_Split_L1 n r34 m2 (i_42 + 1)
    else
      some (r34, 0)
/-- grammarlab/grammarlabref27.Split -/
def r27_Split (n : Nat) (s_ : (List UInt8)) : Option ((List (List UInt8)) × Int) :=
  if (65536 : Nat) < ((s_).length) then
    some ([], 7)
  else
    jn (
      (r27_divided n s_).bind fun r34 =>
      if ((r34).length) = 0 then
        some ([], 1)
      else
        if (32 : Nat) < ((r34).length) then
          some ([], 7)
        else
          r27_Split_L1 n r34 n 0)
      (fun k3 =>
        r27_Split_L0 n s_ k3 n 0)
def r01_Same_L0 (n : Nat) (a_ : (List (List UInt8))) (b_ : (List (List UInt8))) : Nat → Nat → Option Bool
  | 0, _ => none
  | m1 + 1, i_2 =>
    if i_2 < ((a_).length) then
      (a_[i_2]?).bind fun x6 =>
      (b_[i_2]?).bind fun x9 =>
      if (x6 : List UInt8) ≠ x9 then
        some false
      else
        r01_Same_L0 n a_ b_ m1 (i_2 + 1)
    else
      some true
/-- grammarlab/grammarlabref01.Same -/
def r01_Same (n : Nat) (a_ : (List (List UInt8))) (b_ : (List (List UInt8))) : Option Bool :=
  if ((a_).length) ≠ ((b_).length) then
    some false
  else
    r01_Same_L0 n a_ b_ n 0
def r27_Light_L0 (n : Nat) (words_ : (List (List UInt8))) : Nat → Nat → Option Bool
  | 0, _ => none
  | m1 + 1, i_3 =>
    if i_3 < ((words_).length) then
      (words_[i_3]?).bind fun x7 =>
      if (100 : Nat) < ((x7).length) then
        some false
      else
        r27_Light_L0 n words_ m1 (i_3 + 1)
    else
      some true
/-- grammarlab/grammarlabref27.Light -/
def r27_Light (n : Nat) (words_ : (List (List UInt8))) : Option Bool :=
  if (60 : Nat) < ((words_).length) then
    some false
  else
    r27_Light_L0 n words_ n 0
/-- grammarlab/token.Join -/
def token_Join (n : Nat) (words_ : (List (List UInt8))) : Option (List UInt8) :=
  (strings_Join n words_ [32]).bind fun r1 =>
  some r1
def r27_Join_L0 (n : Nat) (words_ : (List (List UInt8))) : Nat → (List UInt8) → Nat → Option (List UInt8)
  | 0, _, _ => none
  | m1 + 1, s_1, i_2 =>
    if i_2 < ((words_).length) then
      jn (fun (s_6 : (List UInt8)) =>
        (words_[i_2]?).bind fun x10 =>
        chk ((s_6).length + (x10).length ≤ 9223372036854775807) (
        r27_Join_L0 n words_ m1 (s_6 ++ x10) (i_2 + 1)))
        (fun k5 =>
          if (0 : Nat) < i_2 then
            chk ((s_1).length + ([32]).length ≤ 9223372036854775807) (
            k5 (s_1 ++ [32]))
          else
            k5 s_1)
    else
      some s_1
/-- grammarlab/grammarlabref27.Join -/
def r27_Join (n : Nat) (words_ : (List (List UInt8))) : Option (List UInt8) :=
  r27_Join_L0 n words_ n [] 0
/-- grammarlab/text.upper -/
def text_upper (n : Nat) (c_ : Int) : Option Bool :=
  if (65 : Int) ≤ c_ then
    some (decide (c_ ≤ 90))
  else
    some false
def text_Word_L0 (n : Nat) (s_ : (List UInt8)) : Nat → Nat → Option Bool
  | 0, _ => none
  | m1 + 1, pos_7 =>
    if pos_7 < (s_).length then
      jn (fun (t_11 : Bool) =>
        if t_11 = true then
          some false
        else
          text_Word_L0 n s_ m1 (pos_7 + runeLen s_ pos_7))
        (fun k10 =>
          if (runeAt s_ pos_7) < 33 then
            k10 true
          else
            if (126 : Int) < (runeAt s_ pos_7) then
              k10 true
            else
              (text_upper n (runeAt s_ pos_7)).bind fun r14 =>
              if r14 = true then
                k10 true
              else
                if (runeAt s_ pos_7) = 34 then
                  k10 true
                else
                  k10 (decide ((runeAt s_ pos_7) = 92)))
    else
      some true
/-- grammarlab/text.Word -/
def text_Word (n : Nat) (s_ : (List UInt8)) : Option Bool :=
  jn (fun (t_2 : Bool) =>
    if t_2 = true then
      some false
    else
      text_Word_L0 n s_ n 0)
    (fun k1 =>
      if ((s_).length) = 0 then
        k1 true
      else
        k1 (decide ((32 : Nat) < ((s_).length))))
def token_Check_L0 (n : Nat) (words_ : (List (List UInt8))) : Nat → Nat → Option Int
  | 0, _ => none
  | m1 + 1, t_4 =>
    if t_4 < ((words_).length) then
      (words_[t_4]?).bind fun x8 =>
      (text_Word n x8).bind fun r12 =>
      if (!(r12)) = true then
        some 1
      else
        token_Check_L0 n words_ m1 (t_4 + 1)
    else
      some 0
/-- grammarlab/token.Check -/
def token_Check (n : Nat) (words_ : (List (List UInt8))) : Option Int :=
  if ((words_).length) = 0 then
    some 1
  else
    if (32 : Nat) < ((words_).length) then
      some 7
    else
      token_Check_L0 n words_ n 0
/-- grammarlab/grammarlabref01.upper -/
def r01_upper (n : Nat) (c_ : UInt8) : Option Bool :=
  if (65 : Nat) ≤ c_.toNat then
    some (decide (c_.toNat ≤ 90))
  else
    some false
def r01_Word_L0 (n : Nat) (s_ : (List UInt8)) : Nat → Nat → Option Bool
  | 0, _ => none
  | m1 + 1, i_5 =>
    if i_5 < ((s_).length) then
      jn (fun (t_9 : Bool) =>
        if t_9 = true then
          some false
        else
          r01_Word_L0 n s_ m1 (i_5 + 1))
        (fun k8 =>
          (s_[i_5]?).bind fun c10 =>
          if c10.toNat < 33 then
            k8 true
          else
            if (126 : Nat) < c10.toNat then
              k8 true
            else
              (r01_upper n c10).bind fun r13 =>
              if r13 = true then
                k8 true
              else
                if c10.toNat = 34 then
                  k8 true
                else
                  k8 (decide (c10.toNat = 92)))
    else
      some true
/-- grammarlab/grammarlabref01.Word -/
def r01_Word (n : Nat) (s_ : (List UInt8)) : Option Bool :=
  jn (fun (t_2 : Bool) =>
    if t_2 = true then
      some false
    else
      r01_Word_L0 n s_ n 0)
    (fun k1 =>
      if ((s_).length) < 1 then
        k1 true
      else
        k1 (decide ((32 : Nat) < ((s_).length))))
def r27_Check_L0 (n : Nat) (words_ : (List (List UInt8))) : Nat → Nat → Option Int
  | 0, _ => none
  | m1 + 1, i_4 =>
    if i_4 < ((words_).length) then
      (words_[i_4]?).bind fun x8 =>
      (r01_Word n x8).bind fun r10 =>
      if (!(r10)) = true then
        some 1
      else
        r27_Check_L0 n words_ m1 (i_4 + 1)
    else
      some 0
/-- grammarlab/grammarlabref27.Check -/
def r27_Check (n : Nat) (words_ : (List (List UInt8))) : Option Int :=
  if ((words_).length) = 0 then
    some 1
  else
    if (32 : Nat) < ((words_).length) then
      some 7
    else
      r27_Check_L0 n words_ n 0
def r27_Simple_L1 (n : Nat) (words_ : (List (List UInt8))) (i_1 : Nat) (k4 : Option Bool) : Nat → Nat → Option Bool
  | 0, _ => none
  | m2 + 1, k_5 =>
    (words_[i_1]?).bind fun x7 =>
    if k_5 < ((x7).length) then
      jn (fun (t_14 : Bool) =>
        if t_14 = true then
          some false
        else
          r27_Simple_L1 n words_ i_1 k4 m2 (k_5 + 1))
        (fun k13 =>
          (x7[k_5]?).bind fun c17 =>
          (r27_marked n c17).bind fun r18 =>
          if r18 = true then
            k13 (decide ((1 : Nat) < ((x7).length)))
          else
            k13 false)
    else
      k4
def r27_Simple_L0 (n : Nat) (words_ : (List (List UInt8))) : Nat → Nat → Option Bool
  | 0, _ => none
  | m1 + 1, i_1 =>
    if i_1 < ((words_).length) then
      jn (
        r27_Simple_L0 n words_ m1 (i_1 + 1))
        (fun k4 =>
          r27_Simple_L1 n words_ i_1 k4 n 0)
    else
      some true
/-- grammarlab/grammarlabref27.Simple -/
def r27_Simple (n : Nat) (words_ : (List (List UInt8))) : Option Bool :=
  r27_Simple_L0 n words_ n 0
def law27_raised_L0 (n : Nat) (s_ : (List UInt8)) : Nat → (List UInt8) → Nat → Option (List UInt8)
  | 0, _, _ => none
  | m1 + 1, out_1, i_2 =>
    if i_2 < ((s_).length) then
      jn (fun (t_6 : Bool) =>
        if t_6 = true then
          (s_[i_2]?).bind fun c10 =>
          chk ((out_1).length + ([(c10 - (97 : UInt8)) + (65 : UInt8)]).length ≤ 9223372036854775807) (
          law27_raised_L0 n s_ m1 (out_1 ++ [(c10 - (97 : UInt8)) + (65 : UInt8)]) (i_2 + 1))
        else
          chk (i_2 ≤ i_2 + 1 ∧ i_2 + 1 ≤ (s_).length) (
          chk ((out_1).length + (((s_).drop i_2).take (i_2 + 1 - i_2)).length ≤ 9223372036854775807) (
          law27_raised_L0 n s_ m1 (out_1 ++ (((s_).drop i_2).take (i_2 + 1 - i_2))) (i_2 + 1))))
        (fun k5 =>
          (s_[i_2]?).bind fun c7 =>
          if (97 : Nat) ≤ c7.toNat then
            k5 (decide (c7.toNat ≤ 122))
          else
            k5 false)
    else
      some out_1
/-- grammarlab/grammarlablaw27.raised -/
def law27_raised (n : Nat) (s_ : (List UInt8)) : Option (List UInt8) :=
  law27_raised_L0 n s_ n [] 0
set_option maxHeartbeats 400000 in
theorem c_token_Split_1 (n : Nat) (M : Bs) (w0 : World) (hM : ∀ b, M b → b < w0.heap.size) (C : Bs) (bf0 : Nat) (c0_ : (List UInt8)) (Af01 : Option Addr) (cf01 : Nat) (csf00 : List Value) (bf1 : Nat) (c1_ : (List (List UInt8))) (Af11 : Option Addr) (cf11 : Nat) (csf10 : List Value) (hW : Wd ⟨0, M, C, w0⟩ [(9100000, Ob.box bf0 [.slice (Af01) ((c0_).length) (cf01)] 35), (9100100, Ob.box bf1 [.slice (Af11) ((c1_).length) (cf11)] 23), (9200000, Ob.row (Af01) ((c0_).length) (cf01) 5 1 (csf00)), (9200100, Ob.row (Af11) ((c1_).length) (cf11) 9 1 (csf10))] [(9300000, rdF Rep.u8 (csf00) (c0_)), (9300100, rdF Rep.str (csf10) (c1_))] w0) (r : ((List UInt8) × (List (List UInt8)))) (hg : token_Split_1 n c0_ c1_ = some r) :
    Calls Try.prog 20 [.pointer (some ⟨bf0, 0, none⟩), .pointer (some ⟨bf1, 0, none⟩)].toArray w0 (Ret C w0 fun v w => ∃ (Am01 : Option Addr), ∃ (cm01 : Nat), ∃ (csm0_0 : List Value), ∃ (Am11 : Option Addr), ∃ (cm11 : Nat), ∃ (csm1_0 : List Value), v = .tuple #[] ∧ (Wd ⟨0, M, C, w0⟩ [(9100000, Ob.box bf0 [.slice (Am01) ((r.1).length) (cm01)] 35), (9100100, Ob.box bf1 [.slice (Am11) ((r.2).length) (cm11)] 23), (9200000, Ob.row (Am01) ((r.1).length) (cm01) 5 1 (csm0_0)), (9200100, Ob.row (Am11) ((r.2).length) (cm11) 9 1 (csm1_0))] [(9300000, rdF Rep.u8 (csm0_0) (r.1)), (9300100, rdF Rep.str (csm1_0) (r.2))] w)) := by
  unfold token_Split_1 at hg
  refine enterL M C Try.func20 rfl rfl hW ?_
  intro a hS
  apply wp_seq
  apply wp_region_lit
  refine q_seq hS rfl rfl rfl (y_loadBox1 (kk := 9100000) hS rfl rfl rfl Try.underlying35 rfl) ?_; clear hS a; intro a hS
  refine q_seq hS rfl rfl rfl (y_lenSlice hS rfl Try.underlying35) ?_; clear hS a; intro a hS
  refine q_seq hS rfl rfl rfl (y_gtrN (i := ((c0_).length)) (j := 0) hS rfl rfl) ?_; clear hS a; intro a hS
  apply wpList_nil
  refine p_norm ?_
  refine c_dec hS rfl (fun hc1 => ?_) (fun hc1 => ?_)
  · replace hg := br_t hg hc1
    have hmx2 := row_mx (hS.wd.holds 9200000 _ rfl)
    apply wp_seq
    replace hg := chk_some hg; obtain ⟨hk4, hg⟩ := hg
    apply wp_region_lit
    refine q_seq hS rfl rfl rfl (y_loadBox1 (kk := 9100100) hS rfl rfl rfl Try.underlying23 rfl) ?_; clear hS a; intro a hS
    refine q_seq hS rfl rfl rfl (y_loadBox1 (kk := 9100000) hS rfl rfl rfl Try.underlying35 rfl) ?_; clear hS a; intro a hS
    have hbl := row_len1 (hS.wd.holds 9200000 _ rfl) (hS.fact (k := 9300000) rfl)
    refine q_seq hS rfl rfl rfl (y_bytesRow (kk := 9200000) hS rfl rfl (hS.fact (k := 9300000) rfl) Try.underlying35 Try.underlying5 Try.underlying9) ?_; clear hS a; intro a hS
    refine l_seq rfl (l_buildDense (sz := 1) hS 1103 rfl rfl rfl Try.underlying23 rfl rfl rfl rfl rfl rfl rfl ?_); clear hS a; intro b7 a w hbb7 hK hS
    clear hbb7
    clear hK
    replace hS := hS.add 103 (rdF Rep.str (cellsOfL [.string (bs (c0_))]) ([c0_])) (RdAll.cons (by exact ⟨rfl, (by first | omega | (simp only [List.length_append]; omega) | (simp only [List.length_append, List.length_take, List.length_drop, List.length_cons, List.length_nil]; omega))⟩) (RdAll.nil _ _ _))
    have hs9 := row_src (hS.wd.holds 1103 _ rfl) (RdAll.one (hS.fact (k := 103) rfl))
    refine l_seq rfl (l_append (sz := 1) (by_ := 16) (N := (c1_ ++ [c0_]).length) (ys := csf10 ++ (cellsOfL [.string (bs (c0_))])) hS 9200100 rfl rfl rfl Try.underlying23 rfl rfl rfl rfl rfl hs9 (by simp) rfl (by have hr := hk4; clear hg; first | omega | (simp only [List.length_append, List.length_cons, List.length_nil] at hr ⊢; omega) | (simp at hr ⊢; omega)) (by have hr := hk4; clear hg; first | omega | (simp only [List.length_append, List.length_cons, List.length_nil] at hr ⊢; omega) | (simp at hr ⊢; omega)) rfl ?_); clear hS a; intro Aq8 cq8 a w hA hK hS
    clear hK hA
    replace hS := hS.add 104 (rdF Rep.str (csf10 ++ (cellsOfL [.string (bs (c0_))])) (c1_ ++ [c0_])) (RdAll.append (hS.fact (k := 9300100) rfl) (hS.fact (k := 103) rfl))
    refine l_seq rfl (l_store (n := 1) (cs' := [.slice (Aq8) ((c1_ ++ [c0_]).length) (cq8)]) hS 9100100 rfl rfl rfl rfl rfl rfl rfl rfl ?_); clear hS; intro w hK hS; clear hK
    apply wpList_nil
    refine p_norm ?_
    replace hg := chk_some hg; obtain ⟨hk10, hg⟩ := hg
    apply wp_region_lit
    refine q_seq hS rfl rfl rfl (y_loadBox1 (kk := 9100000) hS rfl rfl rfl Try.underlying35 rfl) ?_; clear hS a; intro a hS
    have hcap106 := row_cap (hS.wd.holds 9200000 _ rfl)
    have hrl106 := rowN (hS.wd.holds 9200000 _ rfl) (hS.fact (k := 9300000) rfl) rfl rfl
    refine q_seq hS rfl rfl rfl (y_cutRow (i := 0) (xs := c0_) (sz := 1) hS rfl rfl Try.underlying35 rfl rfl hk10 hrl106 hcap106) ?_; clear hS a; intro a hS
    replace hS := hS.rowCutL (kk := 9200000) (i := 0) (xs := c0_) rfl hrl106 hk10
    replace hS := hS.add 106 (rdF Rep.u8 ((csf00).take (0 * 1)) ((c0_).take 0)) ((hS.fact (k := 9300000) rfl).take 0 hk10)
    refine l_seq rfl (l_store (n := 1) (cs' := [.slice (Af01) (((c0_).take 0).length) (cf01)]) hS 9100000 rfl rfl rfl rfl rfl rfl rfl rfl ?_); clear hS; intro w hK hS; clear hK
    apply wpList_nil
    replace hS := hS.add 9300000 (rdF Rep.u8 ((csf00).take (0 * 1)) ((c0_).take 0)) (hS.fact (k := 106) rfl)
    replace hS := hS.add 9300100 (rdF Rep.str (csf10 ++ (cellsOfL [.string (bs (c0_))])) (c1_ ++ [c0_])) (hS.fact (k := 104) rfl)
    obtain rfl := Option.some.inj hg
    refine fin0 (fn := Try.f20) hS rfl ?_ (.inr rfl)
    exact ⟨(Af01), (cf01), ((csf00).take (0 * 1)), (Aq8), (cq8), (csf10 ++ (cellsOfL [.string (bs (c0_))])), rfl, ((hS.ren [(9100000, Ob.box bf0 [.slice (Af01) (((c0_).take 0).length) (cf01)] 35), (9100100, Ob.box bf1 [.slice (Aq8) ((c1_ ++ [c0_]).length) (cq8)] 23), (9200000, Ob.row (Af01) (((c0_).take 0).length) (cf01) 5 1 ((csf00).take (0 * 1))), (9200100, Ob.row (Aq8) ((c1_ ++ [c0_]).length) (cq8) 9 1 (csf10 ++ (cellsOfL [.string (bs (c0_))])))] [9100000, 9100100, 9200000, 9200100] ⟨rfl, rfl, rfl, rfl, trivial⟩ (by decide)).outL ⟨rfl, rfl, rfl, rfl, trivial⟩ ⟨rfl, rfl, trivial⟩)⟩
  · replace hg := br_f hg hc1
    apply wp_skip
    replace hS := hS.add 9300000 (rdF Rep.u8 (csf00) (c0_)) (hS.fact (k := 9300000) rfl)
    replace hS := hS.add 9300100 (rdF Rep.str (csf10) (c1_)) (hS.fact (k := 9300100) rfl)
    obtain rfl := Option.some.inj hg
    refine fin0 (fn := Try.f20) hS rfl ?_ (.inr rfl)
    exact ⟨(Af01), (cf01), (csf00), (Af11), (cf11), (csf10), rfl, ((hS.ren [(9100000, Ob.box bf0 [.slice (Af01) ((c0_).length) (cf01)] 35), (9100100, Ob.box bf1 [.slice (Af11) ((c1_).length) (cf11)] 23), (9200000, Ob.row (Af01) ((c0_).length) (cf01) 5 1 (csf00)), (9200100, Ob.row (Af11) ((c1_).length) (cf11) 9 1 (csf10))] [9100000, 9100100, 9200000, 9200100] ⟨rfl, rfl, rfl, rfl, trivial⟩ (by decide)).outL ⟨rfl, rfl, rfl, rfl, trivial⟩ ⟨rfl, rfl, trivial⟩)⟩
set_option maxHeartbeats 400000 in
theorem c_token_space (n : Nat) (M : Bs) (w0 : World) (hM : ∀ b, M b → b < w0.heap.size) (c_ : Int) (r : Bool) (hg : token_space n c_ = some r) :
    Calls Try.prog 21 [.int .i32 (c_)].toArray w0 (Ret noB w0 fun v w => v = .bool (r)) := by
  unfold token_space at hg
  refine enter M noB Try.func21 rfl rfl hM ?_
  intro a hS
  apply wp_seq
  apply wp_region_lit
  refine q_seq hS rfl rfl rfl (y_assign hS rfl) ?_; clear hS a; intro a hS
  apply wpList_nil
  refine p_norm ?_
  apply wp_seq
  rcases Decidable.em (c_ = 32) with hs1 | hs1
  · have hs1e : decide (c_ = 32) = true := decide_eq_true hs1
    replace hg := br_t hg hs1
    apply wp_region_lit
    refine q_seq hS rfl rfl rfl (y_move hS rfl) ?_; clear hS a; intro a hS
    refine q_seq hS rfl rfl rfl (yl_b (y_eql hS rfl rfl) hs1e) ?_; clear hS a; intro a hS
    refine q_seq hS rfl rfl rfl (y_move hS rfl) ?_; clear hS a; intro a hS
    refine g_no hS rfl rfl rfl rfl rfl rfl rfl ?_; clear hS a; intro a hS
    refine g_no hS rfl rfl rfl rfl rfl rfl rfl ?_; clear hS a; intro a hS
    refine q_seq hS rfl rfl rfl (y_pick_t hS rfl rfl) ?_; clear hS a; intro a hS
    refine q_seq hS rfl rfl rfl (y_move hS rfl) ?_; clear hS a; intro a hS
    refine g_no hS rfl rfl rfl rfl rfl rfl rfl ?_; clear hS a; intro a hS
    refine g_no hS rfl rfl rfl rfl rfl rfl rfl ?_; clear hS a; intro a hS
    refine q_seq hS rfl rfl rfl (y_pick_t hS rfl rfl) ?_; clear hS a; intro a hS
    refine q_seq hS rfl rfl rfl (y_move hS rfl) ?_; clear hS a; intro a hS
    refine g_no hS rfl rfl rfl rfl rfl rfl rfl ?_; clear hS a; intro a hS
    refine g_no hS rfl rfl rfl rfl rfl rfl rfl ?_; clear hS a; intro a hS
    refine q_seq hS rfl rfl rfl (y_pick_t hS rfl rfl) ?_; clear hS a; intro a hS
    refine q_seq hS rfl rfl rfl (y_assign hS rfl) ?_; clear hS a; intro a hS
    apply wpList_nil
    refine p_norm ?_
    apply wp_ret
    obtain rfl := Option.some.inj hg
    refine fin1 (fn := Try.f21) hS rfl (r_tmp hS rfl) ?_
    exact rfl
  · have hs1e : decide (c_ = 32) = false := decide_eq_false hs1
    replace hg := br_f hg hs1
    rcases Decidable.em (c_ = 9) with hs2 | hs2
    · have hs2e : decide (c_ = 9) = true := decide_eq_true hs2
      replace hg := br_t hg hs2
      apply wp_region_lit
      refine q_seq hS rfl rfl rfl (y_move hS rfl) ?_; clear hS a; intro a hS
      refine q_seq hS rfl rfl rfl (yl_b (y_eql hS rfl rfl) hs1e) ?_; clear hS a; intro a hS
      refine q_seq hS rfl rfl rfl (y_move hS rfl) ?_; clear hS a; intro a hS
      refine g_yes hS rfl rfl rfl rfl (l_quiet hS rfl rfl (y_move hS rfl) ?_); clear hS a; intro a hS
      refine g_yes hS rfl rfl rfl rfl (l_quiet hS rfl rfl (yl_b (y_eql hS rfl rfl) hs2e) ?_); clear hS a; intro a hS
      refine q_seq hS rfl rfl rfl (y_pick_f hS rfl rfl) ?_; clear hS a; intro a hS
      refine q_seq hS rfl rfl rfl (y_move hS rfl) ?_; clear hS a; intro a hS
      refine g_no hS rfl rfl rfl rfl rfl rfl rfl ?_; clear hS a; intro a hS
      refine g_no hS rfl rfl rfl rfl rfl rfl rfl ?_; clear hS a; intro a hS
      refine q_seq hS rfl rfl rfl (y_pick_t hS rfl rfl) ?_; clear hS a; intro a hS
      refine q_seq hS rfl rfl rfl (y_move hS rfl) ?_; clear hS a; intro a hS
      refine g_no hS rfl rfl rfl rfl rfl rfl rfl ?_; clear hS a; intro a hS
      refine g_no hS rfl rfl rfl rfl rfl rfl rfl ?_; clear hS a; intro a hS
      refine q_seq hS rfl rfl rfl (y_pick_t hS rfl rfl) ?_; clear hS a; intro a hS
      refine q_seq hS rfl rfl rfl (y_assign hS rfl) ?_; clear hS a; intro a hS
      apply wpList_nil
      refine p_norm ?_
      apply wp_ret
      obtain rfl := Option.some.inj hg
      refine fin1 (fn := Try.f21) hS rfl (r_tmp hS rfl) ?_
      exact rfl
    · have hs2e : decide (c_ = 9) = false := decide_eq_false hs2
      replace hg := br_f hg hs2
      rcases Decidable.em (c_ = 13) with hs3 | hs3
      · have hs3e : decide (c_ = 13) = true := decide_eq_true hs3
        replace hg := br_t hg hs3
        apply wp_region_lit
        refine q_seq hS rfl rfl rfl (y_move hS rfl) ?_; clear hS a; intro a hS
        refine q_seq hS rfl rfl rfl (yl_b (y_eql hS rfl rfl) hs1e) ?_; clear hS a; intro a hS
        refine q_seq hS rfl rfl rfl (y_move hS rfl) ?_; clear hS a; intro a hS
        refine g_yes hS rfl rfl rfl rfl (l_quiet hS rfl rfl (y_move hS rfl) ?_); clear hS a; intro a hS
        refine g_yes hS rfl rfl rfl rfl (l_quiet hS rfl rfl (yl_b (y_eql hS rfl rfl) hs2e) ?_); clear hS a; intro a hS
        refine q_seq hS rfl rfl rfl (y_pick_f hS rfl rfl) ?_; clear hS a; intro a hS
        refine q_seq hS rfl rfl rfl (y_move hS rfl) ?_; clear hS a; intro a hS
        refine g_yes hS rfl rfl rfl rfl (l_quiet hS rfl rfl (y_move hS rfl) ?_); clear hS a; intro a hS
        refine g_yes hS rfl rfl rfl rfl (l_quiet hS rfl rfl (yl_b (y_eql hS rfl rfl) hs3e) ?_); clear hS a; intro a hS
        refine q_seq hS rfl rfl rfl (y_pick_f hS rfl rfl) ?_; clear hS a; intro a hS
        refine q_seq hS rfl rfl rfl (y_move hS rfl) ?_; clear hS a; intro a hS
        refine g_no hS rfl rfl rfl rfl rfl rfl rfl ?_; clear hS a; intro a hS
        refine g_no hS rfl rfl rfl rfl rfl rfl rfl ?_; clear hS a; intro a hS
        refine q_seq hS rfl rfl rfl (y_pick_t hS rfl rfl) ?_; clear hS a; intro a hS
        refine q_seq hS rfl rfl rfl (y_assign hS rfl) ?_; clear hS a; intro a hS
        apply wpList_nil
        refine p_norm ?_
        apply wp_ret
        obtain rfl := Option.some.inj hg
        refine fin1 (fn := Try.f21) hS rfl (r_tmp hS rfl) ?_
        exact rfl
      · have hs3e : decide (c_ = 13) = false := decide_eq_false hs3
        replace hg := br_f hg hs3
        apply wp_region_lit
        refine q_seq hS rfl rfl rfl (y_move hS rfl) ?_; clear hS a; intro a hS
        refine q_seq hS rfl rfl rfl (yl_b (y_eql hS rfl rfl) hs1e) ?_; clear hS a; intro a hS
        refine q_seq hS rfl rfl rfl (y_move hS rfl) ?_; clear hS a; intro a hS
        refine g_yes hS rfl rfl rfl rfl (l_quiet hS rfl rfl (y_move hS rfl) ?_); clear hS a; intro a hS
        refine g_yes hS rfl rfl rfl rfl (l_quiet hS rfl rfl (yl_b (y_eql hS rfl rfl) hs2e) ?_); clear hS a; intro a hS
        refine q_seq hS rfl rfl rfl (y_pick_f hS rfl rfl) ?_; clear hS a; intro a hS
        refine q_seq hS rfl rfl rfl (y_move hS rfl) ?_; clear hS a; intro a hS
        refine g_yes hS rfl rfl rfl rfl (l_quiet hS rfl rfl (y_move hS rfl) ?_); clear hS a; intro a hS
        refine g_yes hS rfl rfl rfl rfl (l_quiet hS rfl rfl (yl_b (y_eql hS rfl rfl) hs3e) ?_); clear hS a; intro a hS
        refine q_seq hS rfl rfl rfl (y_pick_f hS rfl rfl) ?_; clear hS a; intro a hS
        refine q_seq hS rfl rfl rfl (y_move hS rfl) ?_; clear hS a; intro a hS
        refine g_yes hS rfl rfl rfl rfl (l_quiet hS rfl rfl (y_move hS rfl) ?_); clear hS a; intro a hS
        refine g_yes hS rfl rfl rfl rfl (l_quiet hS rfl rfl (y_eql hS rfl rfl) ?_); clear hS a; intro a hS
        refine q_seq hS rfl rfl rfl (y_pick_f hS rfl rfl) ?_; clear hS a; intro a hS
        refine q_seq hS rfl rfl rfl (y_assign hS rfl) ?_; clear hS a; intro a hS
        apply wpList_nil
        refine p_norm ?_
        apply wp_ret
        obtain rfl := Option.some.inj hg
        refine fin1 (fn := Try.f21) hS rfl (r_tmp hS rfl) ?_
        exact rfl
set_option maxHeartbeats 400000 in
theorem c_token_mark (n : Nat) (M : Bs) (w0 : World) (hM : ∀ b, M b → b < w0.heap.size) (c_ : Int) (r : Bool) (hg : token_mark n c_ = some r) :
    Calls Try.prog 22 [.int .i32 (c_)].toArray w0 (Ret noB w0 fun v w => v = .bool (r)) := by
  unfold token_mark at hg
  refine enter M noB Try.func22 rfl rfl hM ?_
  intro a hS
  apply wp_seq
  apply wp_region_lit
  refine q_seq hS rfl rfl rfl (y_assign hS rfl) ?_; clear hS a; intro a hS
  apply wpList_nil
  refine p_norm ?_
  apply wp_seq
  apply wp_seq
  apply wp_region_lit
  refine q_seq hS rfl rfl rfl (y_move hS rfl) ?_; clear hS a; intro a hS
  apply wpList_nil
  refine p_norm ?_
  apply wp_block
  apply wp_seq
  apply wp_seq
  apply wp_region_lit
  refine q_seq hS rfl rfl rfl (y_eql hS rfl rfl) ?_; clear hS a; intro a hS
  refine q_seq hS rfl rfl rfl (y_assign hS rfl) ?_; clear hS a; intro a hS
  apply wpList_nil
  refine p_norm ?_
  replace hg := jn_some hg; obtain ⟨k1, hg, hk1⟩ := hg
  refine c_post (fun a w => ∃ (t_2 : Bool), k1 t_2 = some r ∧ St (⟨Try.f22.ntmps, M, noB, w0⟩ : Ctx) [(4, .bool (t_2))] [] [] a w) ?_ ?_
  · refine c_dec hS rfl (fun hc3 => ?_) (fun hc3 => ?_)
    · replace hg := br_t hg hc3
      apply wp_skip
      refine p_norm ?_
      exact ⟨(decide (c_ = 46)), hg, (hS.sub ⟨rfl, trivial⟩ trivial trivial)⟩
    · replace hg := br_f hg hc3
      apply wp_seq
      apply wp_region_lit
      refine q_seq hS rfl rfl rfl (y_eql hS rfl rfl) ?_; clear hS a; intro a hS
      refine q_seq hS rfl rfl rfl (y_assign hS rfl) ?_; clear hS a; intro a hS
      apply wpList_nil
      refine p_norm ?_
      refine c_dec hS rfl (fun hc4 => ?_) (fun hc4 => ?_)
      · replace hg := br_t hg hc4
        apply wp_skip
        refine p_norm ?_
        exact ⟨(decide (c_ = 44)), hg, (hS.sub ⟨rfl, trivial⟩ trivial trivial)⟩
      · replace hg := br_f hg hc4
        apply wp_seq
        apply wp_region_lit
        refine q_seq hS rfl rfl rfl (y_eql hS rfl rfl) ?_; clear hS a; intro a hS
        refine q_seq hS rfl rfl rfl (y_assign hS rfl) ?_; clear hS a; intro a hS
        apply wpList_nil
        refine p_norm ?_
        refine c_dec hS rfl (fun hc5 => ?_) (fun hc5 => ?_)
        · replace hg := br_t hg hc5
          apply wp_skip
          refine p_norm ?_
          exact ⟨(decide (c_ = 63)), hg, (hS.sub ⟨rfl, trivial⟩ trivial trivial)⟩
        · replace hg := br_f hg hc5
          apply wp_seq
          apply wp_region_lit
          refine q_seq hS rfl rfl rfl (y_eql hS rfl rfl) ?_; clear hS a; intro a hS
          refine q_seq hS rfl rfl rfl (y_assign hS rfl) ?_; clear hS a; intro a hS
          apply wpList_nil
          refine p_norm ?_
          refine c_dec hS rfl (fun hc6 => ?_) (fun hc6 => ?_)
          · replace hg := br_t hg hc6
            apply wp_skip
            refine p_norm ?_
            exact ⟨(decide (c_ = 33)), hg, (hS.sub ⟨rfl, trivial⟩ trivial trivial)⟩
          · replace hg := br_f hg hc6
            apply wp_seq
            apply wp_region_lit
            refine q_seq hS rfl rfl rfl (y_eql hS rfl rfl) ?_; clear hS a; intro a hS
            refine q_seq hS rfl rfl rfl (y_assign hS rfl) ?_; clear hS a; intro a hS
            apply wpList_nil
            refine p_norm ?_
            refine c_dec hS rfl (fun hc7 => ?_) (fun hc7 => ?_)
            · replace hg := br_t hg hc7
              apply wp_skip
              refine p_norm ?_
              exact ⟨(decide (c_ = 59)), hg, (hS.sub ⟨rfl, trivial⟩ trivial trivial)⟩
            · replace hg := br_f hg hc7
              apply wp_region_lit
              refine q_seq hS rfl rfl rfl (y_eql hS rfl rfl) ?_; clear hS a; intro a hS
              refine q_seq hS rfl rfl rfl (y_assign hS rfl) ?_; clear hS a; intro a hS
              apply wpList_nil
              refine p_norm ?_
              exact ⟨(decide (c_ = 58)), hg, (hS.sub ⟨rfl, trivial⟩ trivial trivial)⟩
  clear hS a; rintro a w ⟨t_2, hg, hS⟩
  subst hk1
  refine c_cond hS rfl (fun hc8 => ?_) (fun hc8 => ?_)
  · replace hg := br_t hg hc8
    apply wp_seq
    apply wp_region_lit
    refine q_seq hS rfl rfl rfl (y_assign hS rfl) ?_; clear hS a; intro a hS
    apply wpList_nil
    refine p_norm ?_
    apply wp_ret
    refine p_inR ?_
    refine p_thenR ?_
    obtain rfl := Option.some.inj hg
    refine fin1 (fn := Try.f22) hS rfl (r_tmp hS rfl) ?_
    exact rfl
  · replace hg := br_f hg (by rw [hc8]; exact Bool.false_ne_true)
    apply wp_skip
    refine p_inN ?_
    refine p_norm ?_
    apply wp_seq
    apply wp_region_lit
    refine q_seq hS rfl rfl rfl (y_assign hS rfl) ?_; clear hS a; intro a hS
    apply wpList_nil
    refine p_norm ?_
    apply wp_ret
    obtain rfl := Option.some.inj hg
    refine fin1 (fn := Try.f22) hS rfl (r_tmp hS rfl) ?_
    exact rfl
set_option maxHeartbeats 400000 in
theorem c_token_Split (n : Nat) (M : Bs) (w0 : World) (hM : ∀ b, M b → b < w0.heap.size) (t_ : (List UInt8)) (lp01 : (t_).length ≤ 9223372036854775807) (r : ((List (List UInt8)) × Int)) (hg : token_Split n t_ = some r) :
    Calls Try.prog 10 [.string (bs (t_))].toArray w0 (Ret noB w0 fun v w => ∃ (Aa1 : Option Addr), ∃ (ca1 : Nat), v = .tuple #[.slice (Aa1) ((r.1).length) (ca1), .int .i64 (r.2)] ∧ (SlR Rep.str M w Aa1 (r.1).length ca1 (r.1))) := by
  unfold token_Split at hg
  refine enter M noB Try.func10 rfl rfl hM ?_
  intro a hS
  apply wp_seq
  apply wp_region_lit
  refine q_seq hS rfl rfl rfl (y_assign hS rfl) ?_; clear hS a; intro a hS
  refine q_seq hS rfl rfl rfl (y_assign hS rfl) ?_; clear hS a; intro a hS
  apply wpList_nil
  refine p_norm ?_
  apply wp_seq
  apply wp_seq
  apply wp_region_lit
  refine q_seq hS rfl rfl rfl (y_move hS rfl) ?_; clear hS a; intro a hS
  refine q_seq hS rfl rfl rfl (y_lenStrN hS rfl Try.underlying9) ?_; clear hS a; intro a hS
  refine q_seq hS rfl rfl rfl (y_gtrN (i := ((t_).length)) (j := 65536) hS rfl rfl) ?_; clear hS a; intro a hS
  apply wpList_nil
  refine p_norm ?_
  refine c_dec hS rfl (fun hc1 => ?_) (fun hc1 => ?_)
  · replace hg := br_t hg hc1
    have hmx2 : (t_).length ≤ 9223372036854775807 := (by first | omega | (simp only [List.length_append]; omega) | (simp only [List.length_append, List.length_take, List.length_drop, List.length_cons, List.length_nil]; omega))
    apply wp_seq
    apply wp_region_lit
    refine q_seq hS rfl rfl rfl (y_assign hS rfl) ?_; clear hS a; intro a hS
    refine q_seq hS rfl rfl rfl (y_assign hS rfl) ?_; clear hS a; intro a hS
    apply wpList_nil
    refine p_norm ?_
    apply wp_ret
    refine p_thenR ?_
    obtain rfl := Option.some.inj hg
    refine fin2 (fn := Try.f10) hS rfl (r_tmp hS rfl) (r_tmp hS rfl) ?_
    exact ⟨(none), (0), rfl, (SlR.nil_ _ _ _)⟩
  · replace hg := br_f hg hc1
    apply wp_skip
    refine p_norm ?_
    apply wp_seq
    apply wp_region_lit
    refine l_seq rfl (l_alloc (zs := [.slice (none) (0) (0)]) hS 1300 rfl rfl rfl rfl ?_); clear hS a; intro b4 a w hb hK hS
    clear hb
    clear hK
    apply wpList_nil
    refine p_norm ?_
    apply wp_seq
    apply wp_region_lit
    refine l_seq rfl (l_buildEmpty (sz := 1) hS 1400 Try.underlying35 rfl rfl rfl ?_); clear hS a; intro b7 a w hbb7 hK hS
    clear hbb7
    clear hK
    refine l_seq rfl (l_alloc (zs := [.slice (none) (0) (0)]) hS 1401 rfl rfl rfl rfl ?_); clear hS a; intro b8 a w hb hK hS
    clear hb
    clear hK
    refine l_seq rfl (l_store (n := 1) (cs' := [.slice (some ⟨b7, 0, none⟩) (0) (0)]) hS 1401 rfl rfl rfl rfl rfl rfl rfl rfl ?_); clear hS; intro w hK hS; clear hK
    apply wpList_nil
    refine p_norm ?_
    apply wp_seq
    apply wp_region_lit
    refine q_seq hS rfl rfl rfl (y_makeFunc (xs := [.tmp 5, .tmp 4]) (vs := [.pointer (some ⟨b8, 0, none⟩), .pointer (some ⟨b4, 0, none⟩)]) hS rfl) ?_; clear hS a; intro a hS
    refine q_seq hS rfl rfl rfl (y_assign hS rfl) ?_; clear hS a; intro a hS
    apply wpList_nil
    refine p_norm ?_
    apply wp_seq
    apply wp_seq
    apply wp_region_lit
    refine q_seq hS rfl rfl rfl (y_move hS rfl) ?_; clear hS a; intro a hS
    refine l_seq rfl (l_range hS 1601 rfl Try.underlying9 rfl rfl ?_); clear hS a; intro b10 a w hb hK hS
    clear hb
    clear hK
    apply wpList_nil
    refine p_norm ?_
    replace hg := jn_some hg; obtain ⟨k11, hg, hk11⟩ := hg
    refine c_post (fun a w => ∃ (b_12 : (List (List UInt8))), ∃ (b_16 : (List UInt8)), ∃ (A13 : Option Addr), ∃ (c14 : Nat), ∃ (cs15 : List Value), ∃ (A17 : Option Addr), ∃ (c18 : Nat), ∃ (cs19 : List Value), k11 b_12 b_16 = some r ∧ St (⟨Try.f10.ntmps, M, noB, w0⟩ : Ctx) [(4, .pointer (some ⟨b4, 0, none⟩)), (6, .func (.func 20) #[] #[.pointer (some ⟨b8, 0, none⟩), .pointer (some ⟨b4, 0, none⟩)])] [(1300, Ob.box b4 [.slice (A13) ((b_12).length) (c14)] 23), (1401, Ob.box b8 [.slice (A17) ((b_16).length) (c18)] 35), (700101, Ob.row (A13) ((b_12).length) (c14) 9 1 (cs15)), (700103, Ob.row (A17) ((b_16).length) (c18) 5 1 (cs19))] [(102, rdF Rep.str (cs15) (b_12)), (104, rdF Rep.u8 (cs19) (b_16))] a w) ?_ ?_
    · apply wp_block
      replace hS := hS.nilRow 700105 9 1 rfl
      replace hS := hS.add 106 (rdF Rep.str [] []) (RdAll.nil _ _ _)
      replace hS := hS.add 109 (rdF Rep.u8 ([]) ([])) (RdAll.nil _ _ _)
      replace hS := hS.add 108 (rdF Rep.u8 ([]) ([])) (hS.fact (k := 109) rfl)
      replace hS := hS.ren [(1300, Ob.box b4 [.slice (none) (0) (0)] 23), (1401, Ob.box b8 [.slice (some ⟨b7, 0, none⟩) (0) (0)] 35), (1601, Ob.iter b10 (bs (t_)) (0)), (700105, Ob.row (none) (0) (0) 9 1 ([])), (700107, Ob.row (some ⟨b7, 0, none⟩) (0) (0) 5 1 ([]))] [1300, 1401, 1601, 700105, 1400] ⟨rfl, rfl, rfl, rfl, rfl, trivial⟩ (by decide)
      refine c_loop (σ := Nat) (fun m1 a w => ∃ (b_20 : (List (List UInt8))), ∃ (b_24 : (List UInt8)), ∃ (pos_28 : Nat), ∃ (A21 : Option Addr), ∃ (c22 : Nat), ∃ (cs23 : List Value), ∃ (A25 : Option Addr), ∃ (c26 : Nat), ∃ (cs27 : List Value), token_Split_L0 n t_ k11 m1 b_20 b_24 pos_28 = some r ∧ St (⟨Try.f10.ntmps, M, noB, w0⟩ : Ctx) [(4, .pointer (some ⟨b4, 0, none⟩)), (5, .pointer (some ⟨b8, 0, none⟩)), (6, .func (.func 20) #[] #[.pointer (some ⟨b8, 0, none⟩), .pointer (some ⟨b4, 0, none⟩)]), (17, .pointer (some ⟨b10, 0, none⟩))] [(1300, Ob.box b4 [.slice (A21) ((b_20).length) (c22)] 23), (1401, Ob.box b8 [.slice (A25) ((b_24).length) (c26)] 35), (1601, Ob.iter b10 (bs (t_)) (pos_28)), (700105, Ob.row (A21) ((b_20).length) (c22) 9 1 (cs23)), (700107, Ob.row (A25) ((b_24).length) (c26) 5 1 (cs27))] [(106, rdF Rep.str (cs23) (b_20)), (108, rdF Rep.u8 (cs27) (b_24))] a w) (fun m1 => m1) n ⟨([]), ([]), (0), (none), (0), ([]), (some ⟨b7, 0, none⟩), (0), ([]), hg, (hS.sub ⟨rfl, rfl, rfl, rfl, trivial⟩ ⟨rfl, rfl, rfl, rfl, rfl, trivial⟩ ⟨rfl, rfl, trivial⟩)⟩ ?_
      clear hS a; rintro m1 a w ⟨b_20, b_24, pos_28, A21, c22, cs23, A25, c26, cs27, hg, hS⟩
      rcases m1 with _ | m1
      · rw [token_Split_L0] at hg; cases hg
      rw [token_Split_L0] at hg
      apply wp_seq
      rcases Decidable.em (pos_28 < (t_).length) with hs29 | hs29
      · have hs29e : decide (pos_28 < (t_).length) = true := decide_eq_true hs29
        replace hg := br_t hg hs29
        have hmx30 : (t_).length ≤ 9223372036854775807 := (by first | omega | (simp only [List.length_append]; omega) | (simp only [List.length_append, List.length_take, List.length_drop, List.length_cons, List.length_nil]; omega))
        apply wp_region_lit
        refine l_seq rfl (l_next hS 1601 rfl rfl hs29 rfl ?_); clear hS a; intro a w hK hS
        clear hK
        refine q_seq hS rfl rfl rfl (y_extract hS rfl rfl) ?_; clear hS a; intro a hS
        apply wpList_nil
        refine p_norm ?_
        apply wp_seq
        refine c_t hS rfl ?_
        apply wp_skip
        refine p_norm ?_
        apply wp_block
        apply wp_seq
        apply wp_region_lit
        refine q_seq hS rfl rfl rfl (y_extract hS rfl rfl) ?_; clear hS a; intro a hS
        refine q_seq hS rfl rfl rfl (y_assign hS rfl) ?_; clear hS a; intro a hS
        apply wpList_nil
        refine p_norm ?_
        apply wp_block
        apply wp_seq
        replace hg := bind_some hg; obtain ⟨r31, hr31, hg⟩ := hg
        apply wp_region_lit
        refine q_seq hS rfl rfl rfl (y_move hS rfl) ?_; clear hS a; intro a hS
        refine l_seq rfl (l_call (cap := []) hS rfl Try.func21 rfl (by kernel_rfl) rfl rfl (c_token_space n _ _ hS.lt (runeAt t_ pos_28) r31 hr31) ?_); clear hS a; intro v34 a w hK hp hS
        clear hK
        obtain rfl := hp
        refine q_seq hS rfl rfl rfl (y_assign hS rfl) ?_; clear hS a; intro a hS
        apply wpList_nil
        refine p_norm ?_
        refine c_cond hS rfl (fun hc36 => ?_) (fun hc36 => ?_)
        · replace hg := br_t hg hc36
          replace hg := bind_some hg; obtain ⟨r37, hr37, hg⟩ := hg
          apply wp_region_lit
          refine q_seq hS rfl rfl rfl (y_move hS rfl) ?_; clear hS a; intro a hS
          have hT := hS.ren [(1601, Ob.iter b10 (bs (t_)) (pos_28 + runeLen t_ pos_28)), (9100000, Ob.box b8 [.slice (A25) ((b_24).length) (c26)] 35), (9100100, Ob.box b4 [.slice (A21) ((b_20).length) (c22)] 23), (9200000, Ob.row (A25) ((b_24).length) (c26) 5 1 (cs27)), (9200100, Ob.row (A21) ((b_20).length) (c22) 9 1 (cs23))] [1601, 1401, 1300, 700107, 700105] ⟨rfl, rfl, rfl, rfl, rfl, trivial⟩ (by decide)
          replace hT := hT.add 9300000 (rdF Rep.u8 (cs27) (b_24)) (hT.fact (k := 108) rfl)
          replace hT := hT.add 9300100 (rdF Rep.str (cs23) (b_20)) (hT.fact (k := 106) rfl)
          refine l_seq rfl (l_callMut (cap := [.pointer (some ⟨b8, 0, none⟩), .pointer (some ⟨b4, 0, none⟩)]) hT [(9100000, Ob.box b8 [.slice (A25) ((b_24).length) (c26)] 35), (9100100, Ob.box b4 [.slice (A21) ((b_20).length) (c22)] 23), (9200000, Ob.row (A25) ((b_24).length) (c26) 5 1 (cs27)), (9200100, Ob.row (A21) ((b_20).length) (c22) 9 1 (cs23))] [(1601, Ob.iter b10 (bs (t_)) (pos_28 + runeLen t_ pos_28))] ⟨rfl, rfl, rfl, rfl, trivial⟩ ⟨rfl, trivial⟩ rfl rfl Try.func20 rfl (by kernel_rfl) rfl rfl (c_token_Split_1 n _ _ (hT.lendLt (L' := [(1601, Ob.iter b10 (bs (t_)) (pos_28 + runeLen t_ pos_28))]) ⟨rfl, trivial⟩) _ b8 b_24 (A25) (c26) (cs27) b4 b_20 (A21) (c22) (cs23) (hT.wd.lendL [(9100000, Ob.box b8 [.slice (A25) ((b_24).length) (c26)] 35), (9100100, Ob.box b4 [.slice (A21) ((b_20).length) (c22)] 23), (9200000, Ob.row (A25) ((b_24).length) (c26) 5 1 (cs27)), (9200100, Ob.row (A21) ((b_20).length) (c22) 9 1 (cs23))] [(1601, Ob.iter b10 (bs (t_)) (pos_28 + runeLen t_ pos_28))] [(9300000, rdF Rep.u8 (cs27) (b_24)), (9300100, rdF Rep.str (cs23) (b_20))] ⟨rfl, rfl, rfl, rfl, trivial⟩ ⟨rfl, trivial⟩ rfl ⟨rfl, rfl, trivial⟩) r37 hr37) ?_); intro v40 a' w' hK hp hF
          obtain ⟨Am01u41, cm01u41, csm0_0u41, Am11u41, cm11u41, csm1_0u41, rfl, hWu41⟩ := hp
          have hS2 := St.mk hF (hT.wd.back (Lsub := [(9100000, Ob.box b8 [.slice (A25) ((b_24).length) (c26)] 35), (9100100, Ob.box b4 [.slice (A21) ((b_20).length) (c22)] 23), (9200000, Ob.row (A25) ((b_24).length) (c26) 5 1 (cs27)), (9200100, Ob.row (A21) ((b_20).length) (c22) 9 1 (cs23))]) (Lrest := [(1601, Ob.iter b10 (bs (t_)) (pos_28 + runeLen t_ pos_28))]) ⟨rfl, rfl, rfl, rfl, trivial⟩ ⟨rfl, trivial⟩ rfl hWu41 rfl)
          clear hS hT hF hWu41 hK; revert hS2; revert w'; revert a'; intro a w hS
          replace hS := hS.add 112 (rdF Rep.u8 (csm0_0u41) (r37.1)) (hS.fact (k := 9300000) rfl)
          replace hS := hS.add 113 (rdF Rep.str (csm1_0u41) (r37.2)) (hS.fact (k := 9300100) rfl)
          replace hS := hS.ren [(1300, Ob.box b4 [.slice (Am11u41) ((r37.2).length) (cm11u41)] 23), (1401, Ob.box b8 [.slice (Am01u41) ((r37.1).length) (cm01u41)] 35), (1601, Ob.iter b10 (bs (t_)) (pos_28 + runeLen t_ pos_28)), (700105, Ob.row (Am11u41) ((r37.2).length) (cm11u41) 9 1 (csm1_0u41)), (700107, Ob.row (Am01u41) ((r37.1).length) (cm01u41) 5 1 (csm0_0u41))] [9100100, 9100000, 1601, 9200100, 9200000] ⟨rfl, rfl, rfl, rfl, rfl, trivial⟩ (by decide)
          apply wpList_nil
          refine p_inN ?_
          refine p_inN ?_
          refine p_norm ?_
          replace hS := hS.add 106 (rdF Rep.str (csm1_0u41) (r37.2)) (hS.fact (k := 113) rfl)
          replace hS := hS.add 108 (rdF Rep.u8 (csm0_0u41) (r37.1)) (hS.fact (k := 112) rfl)
          exact ⟨m1, Nat.lt_succ_self _, ⟨(r37.2), (r37.1), (pos_28 + runeLen t_ pos_28), (Am11u41), (cm11u41), (csm1_0u41), (Am01u41), (cm01u41), (csm0_0u41), hg, (hS.sub ⟨rfl, rfl, rfl, rfl, trivial⟩ ⟨rfl, rfl, rfl, rfl, rfl, trivial⟩ ⟨rfl, rfl, trivial⟩)⟩⟩
        · replace hg := br_f hg (by rw [hc36]; exact Bool.false_ne_true)
          apply wp_seq
          replace hg := jn_some hg; obtain ⟨k42, hg, hk42⟩ := hg
          refine c_post (fun a w => ∃ (t_43 : Bool), k42 t_43 = some r ∧ St (⟨Try.f10.ntmps, M, noB, w0⟩ : Ctx) [(4, .pointer (some ⟨b4, 0, none⟩)), (5, .pointer (some ⟨b8, 0, none⟩)), (6, .func (.func 20) #[] #[.pointer (some ⟨b8, 0, none⟩), .pointer (some ⟨b4, 0, none⟩)]), (8, .int .i32 (runeAt t_ pos_28)), (17, .pointer (some ⟨b10, 0, none⟩)), (31, .bool (t_43))] [(1300, Ob.box b4 [.slice (A21) ((b_20).length) (c22)] 23), (1401, Ob.box b8 [.slice (A25) ((b_24).length) (c26)] 35), (1601, Ob.iter b10 (bs (t_)) (pos_28 + runeLen t_ pos_28)), (700105, Ob.row (A21) ((b_20).length) (c22) 9 1 (cs23)), (700107, Ob.row (A25) ((b_24).length) (c26) 5 1 (cs27))] [(106, rdF Rep.str (cs23) (b_20)), (108, rdF Rep.u8 (cs27) (b_24))] a w) ?_ ?_
          · rcases Decidable.em ((runeAt t_ pos_28) < 33) with hs44 | hs44
            · have hs44e : decide ((runeAt t_ pos_28) < 33) = true := decide_eq_true hs44
              replace hg := br_t hg hs44
              apply wp_region_lit
              refine q_seq hS rfl rfl rfl (y_move hS rfl) ?_; clear hS a; intro a hS
              refine q_seq hS rfl rfl rfl (yl_b (y_lss hS rfl rfl) hs44e) ?_; clear hS a; intro a hS
              refine q_seq hS rfl rfl rfl (y_move hS rfl) ?_; clear hS a; intro a hS
              refine g_no hS rfl rfl rfl rfl rfl rfl rfl ?_; clear hS a; intro a hS
              refine g_no hS rfl rfl rfl rfl rfl rfl rfl ?_; clear hS a; intro a hS
              refine q_seq hS rfl rfl rfl (y_pick_t hS rfl rfl) ?_; clear hS a; intro a hS
              refine q_seq hS rfl rfl rfl (y_move hS rfl) ?_; clear hS a; intro a hS
              refine g_no hS rfl rfl rfl rfl rfl rfl rfl ?_; clear hS a; intro a hS
              refine g_no hS rfl rfl rfl rfl rfl rfl rfl ?_; clear hS a; intro a hS
              refine q_seq hS rfl rfl rfl (y_pick_t hS rfl rfl) ?_; clear hS a; intro a hS
              refine q_seq hS rfl rfl rfl (y_move hS rfl) ?_; clear hS a; intro a hS
              refine g_no hS rfl rfl rfl rfl rfl rfl rfl ?_; clear hS a; intro a hS
              refine g_no hS rfl rfl rfl rfl rfl rfl rfl ?_; clear hS a; intro a hS
              refine q_seq hS rfl rfl rfl (y_pick_t hS rfl rfl) ?_; clear hS a; intro a hS
              refine q_seq hS rfl rfl rfl (y_assign hS rfl) ?_; clear hS a; intro a hS
              apply wpList_nil
              refine p_norm ?_
              exact ⟨(true), hg, (hS.sub ⟨rfl, rfl, rfl, rfl, rfl, rfl, trivial⟩ ⟨rfl, rfl, rfl, rfl, rfl, trivial⟩ ⟨rfl, rfl, trivial⟩)⟩
            · have hs44e : decide ((runeAt t_ pos_28) < 33) = false := decide_eq_false hs44
              replace hg := br_f hg hs44
              rcases Decidable.em ((126 : Int) < (runeAt t_ pos_28)) with hs45 | hs45
              · have hs45e : decide ((126 : Int) < (runeAt t_ pos_28)) = true := decide_eq_true hs45
                replace hg := br_t hg hs45
                apply wp_region_lit
                refine q_seq hS rfl rfl rfl (y_move hS rfl) ?_; clear hS a; intro a hS
                refine q_seq hS rfl rfl rfl (yl_b (y_lss hS rfl rfl) hs44e) ?_; clear hS a; intro a hS
                refine q_seq hS rfl rfl rfl (y_move hS rfl) ?_; clear hS a; intro a hS
                refine g_yes hS rfl rfl rfl rfl (l_quiet hS rfl rfl (y_move hS rfl) ?_); clear hS a; intro a hS
                refine g_yes hS rfl rfl rfl rfl (l_quiet hS rfl rfl (yl_b (y_gtr hS rfl rfl) hs45e) ?_); clear hS a; intro a hS
                refine q_seq hS rfl rfl rfl (y_pick_f hS rfl rfl) ?_; clear hS a; intro a hS
                refine q_seq hS rfl rfl rfl (y_move hS rfl) ?_; clear hS a; intro a hS
                refine g_no hS rfl rfl rfl rfl rfl rfl rfl ?_; clear hS a; intro a hS
                refine g_no hS rfl rfl rfl rfl rfl rfl rfl ?_; clear hS a; intro a hS
                refine q_seq hS rfl rfl rfl (y_pick_t hS rfl rfl) ?_; clear hS a; intro a hS
                refine q_seq hS rfl rfl rfl (y_move hS rfl) ?_; clear hS a; intro a hS
                refine g_no hS rfl rfl rfl rfl rfl rfl rfl ?_; clear hS a; intro a hS
                refine g_no hS rfl rfl rfl rfl rfl rfl rfl ?_; clear hS a; intro a hS
                refine q_seq hS rfl rfl rfl (y_pick_t hS rfl rfl) ?_; clear hS a; intro a hS
                refine q_seq hS rfl rfl rfl (y_assign hS rfl) ?_; clear hS a; intro a hS
                apply wpList_nil
                refine p_norm ?_
                exact ⟨(true), hg, (hS.sub ⟨rfl, rfl, rfl, rfl, rfl, rfl, trivial⟩ ⟨rfl, rfl, rfl, rfl, rfl, trivial⟩ ⟨rfl, rfl, trivial⟩)⟩
              · have hs45e : decide ((126 : Int) < (runeAt t_ pos_28)) = false := decide_eq_false hs45
                replace hg := br_f hg hs45
                rcases Decidable.em ((runeAt t_ pos_28) = 34) with hs46 | hs46
                · have hs46e : decide ((runeAt t_ pos_28) = 34) = true := decide_eq_true hs46
                  replace hg := br_t hg hs46
                  apply wp_region_lit
                  refine q_seq hS rfl rfl rfl (y_move hS rfl) ?_; clear hS a; intro a hS
                  refine q_seq hS rfl rfl rfl (yl_b (y_lss hS rfl rfl) hs44e) ?_; clear hS a; intro a hS
                  refine q_seq hS rfl rfl rfl (y_move hS rfl) ?_; clear hS a; intro a hS
                  refine g_yes hS rfl rfl rfl rfl (l_quiet hS rfl rfl (y_move hS rfl) ?_); clear hS a; intro a hS
                  refine g_yes hS rfl rfl rfl rfl (l_quiet hS rfl rfl (yl_b (y_gtr hS rfl rfl) hs45e) ?_); clear hS a; intro a hS
                  refine q_seq hS rfl rfl rfl (y_pick_f hS rfl rfl) ?_; clear hS a; intro a hS
                  refine q_seq hS rfl rfl rfl (y_move hS rfl) ?_; clear hS a; intro a hS
                  refine g_yes hS rfl rfl rfl rfl (l_quiet hS rfl rfl (y_move hS rfl) ?_); clear hS a; intro a hS
                  refine g_yes hS rfl rfl rfl rfl (l_quiet hS rfl rfl (yl_b (y_eql hS rfl rfl) hs46e) ?_); clear hS a; intro a hS
                  refine q_seq hS rfl rfl rfl (y_pick_f hS rfl rfl) ?_; clear hS a; intro a hS
                  refine q_seq hS rfl rfl rfl (y_move hS rfl) ?_; clear hS a; intro a hS
                  refine g_no hS rfl rfl rfl rfl rfl rfl rfl ?_; clear hS a; intro a hS
                  refine g_no hS rfl rfl rfl rfl rfl rfl rfl ?_; clear hS a; intro a hS
                  refine q_seq hS rfl rfl rfl (y_pick_t hS rfl rfl) ?_; clear hS a; intro a hS
                  refine q_seq hS rfl rfl rfl (y_assign hS rfl) ?_; clear hS a; intro a hS
                  apply wpList_nil
                  refine p_norm ?_
                  exact ⟨(true), hg, (hS.sub ⟨rfl, rfl, rfl, rfl, rfl, rfl, trivial⟩ ⟨rfl, rfl, rfl, rfl, rfl, trivial⟩ ⟨rfl, rfl, trivial⟩)⟩
                · have hs46e : decide ((runeAt t_ pos_28) = 34) = false := decide_eq_false hs46
                  replace hg := br_f hg hs46
                  apply wp_region_lit
                  refine q_seq hS rfl rfl rfl (y_move hS rfl) ?_; clear hS a; intro a hS
                  refine q_seq hS rfl rfl rfl (yl_b (y_lss hS rfl rfl) hs44e) ?_; clear hS a; intro a hS
                  refine q_seq hS rfl rfl rfl (y_move hS rfl) ?_; clear hS a; intro a hS
                  refine g_yes hS rfl rfl rfl rfl (l_quiet hS rfl rfl (y_move hS rfl) ?_); clear hS a; intro a hS
                  refine g_yes hS rfl rfl rfl rfl (l_quiet hS rfl rfl (yl_b (y_gtr hS rfl rfl) hs45e) ?_); clear hS a; intro a hS
                  refine q_seq hS rfl rfl rfl (y_pick_f hS rfl rfl) ?_; clear hS a; intro a hS
                  refine q_seq hS rfl rfl rfl (y_move hS rfl) ?_; clear hS a; intro a hS
                  refine g_yes hS rfl rfl rfl rfl (l_quiet hS rfl rfl (y_move hS rfl) ?_); clear hS a; intro a hS
                  refine g_yes hS rfl rfl rfl rfl (l_quiet hS rfl rfl (yl_b (y_eql hS rfl rfl) hs46e) ?_); clear hS a; intro a hS
                  refine q_seq hS rfl rfl rfl (y_pick_f hS rfl rfl) ?_; clear hS a; intro a hS
                  refine q_seq hS rfl rfl rfl (y_move hS rfl) ?_; clear hS a; intro a hS
                  refine g_yes hS rfl rfl rfl rfl (l_quiet hS rfl rfl (y_move hS rfl) ?_); clear hS a; intro a hS
                  refine g_yes hS rfl rfl rfl rfl (l_quiet hS rfl rfl (y_eql hS rfl rfl) ?_); clear hS a; intro a hS
                  refine q_seq hS rfl rfl rfl (y_pick_f hS rfl rfl) ?_; clear hS a; intro a hS
                  refine q_seq hS rfl rfl rfl (y_assign hS rfl) ?_; clear hS a; intro a hS
                  apply wpList_nil
                  refine p_norm ?_
                  exact ⟨(decide ((runeAt t_ pos_28) = 92)), hg, (hS.sub ⟨rfl, rfl, rfl, rfl, rfl, rfl, trivial⟩ ⟨rfl, rfl, rfl, rfl, rfl, trivial⟩ ⟨rfl, rfl, trivial⟩)⟩
          clear hS a; rintro a w ⟨t_43, hg, hS⟩
          subst hk42
          refine c_cond hS rfl (fun hc47 => ?_) (fun hc47 => ?_)
          · replace hg := br_t hg hc47
            apply wp_seq
            apply wp_region_lit
            refine q_seq hS rfl rfl rfl (y_assign hS rfl) ?_; clear hS a; intro a hS
            refine q_seq hS rfl rfl rfl (y_assign hS rfl) ?_; clear hS a; intro a hS
            apply wpList_nil
            refine p_norm ?_
            apply wp_ret
            refine p_inR ?_
            refine p_inR ?_
            refine p_thenR ?_
            refine p_inR ?_
            refine p_thenR ?_
            obtain rfl := Option.some.inj hg
            refine fin2 (fn := Try.f10) hS rfl (r_tmp hS rfl) (r_tmp hS rfl) ?_
            exact ⟨(none), (0), rfl, (SlR.nil_ _ _ _)⟩
          · replace hg := br_f hg (by rw [hc47]; exact Bool.false_ne_true)
            apply wp_seq
            replace hg := bind_some hg; obtain ⟨r48, hr48, hg⟩ := hg
            apply wp_region_lit
            refine q_seq hS rfl rfl rfl (y_move hS rfl) ?_; clear hS a; intro a hS
            refine l_seq rfl (l_call (cap := []) hS rfl Try.func22 rfl (by kernel_rfl) rfl rfl (c_token_mark n _ _ hS.lt (runeAt t_ pos_28) r48 hr48) ?_); clear hS a; intro v51 a w hK hp hS
            clear hK
            obtain rfl := hp
            refine q_seq hS rfl rfl rfl (y_assign hS rfl) ?_; clear hS a; intro a hS
            apply wpList_nil
            refine p_norm ?_
            refine c_cond hS rfl (fun hc53 => ?_) (fun hc53 => ?_)
            · replace hg := br_t hg hc53
              apply wp_seq
              replace hg := bind_some hg; obtain ⟨r54, hr54, hg⟩ := hg
              apply wp_region_lit
              refine q_seq hS rfl rfl rfl (y_move hS rfl) ?_; clear hS a; intro a hS
              have hT := hS.ren [(1601, Ob.iter b10 (bs (t_)) (pos_28 + runeLen t_ pos_28)), (9100000, Ob.box b8 [.slice (A25) ((b_24).length) (c26)] 35), (9100100, Ob.box b4 [.slice (A21) ((b_20).length) (c22)] 23), (9200000, Ob.row (A25) ((b_24).length) (c26) 5 1 (cs27)), (9200100, Ob.row (A21) ((b_20).length) (c22) 9 1 (cs23))] [1601, 1401, 1300, 700107, 700105] ⟨rfl, rfl, rfl, rfl, rfl, trivial⟩ (by decide)
              replace hT := hT.add 9300000 (rdF Rep.u8 (cs27) (b_24)) (hT.fact (k := 108) rfl)
              replace hT := hT.add 9300100 (rdF Rep.str (cs23) (b_20)) (hT.fact (k := 106) rfl)
              refine l_seq rfl (l_callMut (cap := [.pointer (some ⟨b8, 0, none⟩), .pointer (some ⟨b4, 0, none⟩)]) hT [(9100000, Ob.box b8 [.slice (A25) ((b_24).length) (c26)] 35), (9100100, Ob.box b4 [.slice (A21) ((b_20).length) (c22)] 23), (9200000, Ob.row (A25) ((b_24).length) (c26) 5 1 (cs27)), (9200100, Ob.row (A21) ((b_20).length) (c22) 9 1 (cs23))] [(1601, Ob.iter b10 (bs (t_)) (pos_28 + runeLen t_ pos_28))] ⟨rfl, rfl, rfl, rfl, trivial⟩ ⟨rfl, trivial⟩ rfl rfl Try.func20 rfl (by kernel_rfl) rfl rfl (c_token_Split_1 n _ _ (hT.lendLt (L' := [(1601, Ob.iter b10 (bs (t_)) (pos_28 + runeLen t_ pos_28))]) ⟨rfl, trivial⟩) _ b8 b_24 (A25) (c26) (cs27) b4 b_20 (A21) (c22) (cs23) (hT.wd.lendL [(9100000, Ob.box b8 [.slice (A25) ((b_24).length) (c26)] 35), (9100100, Ob.box b4 [.slice (A21) ((b_20).length) (c22)] 23), (9200000, Ob.row (A25) ((b_24).length) (c26) 5 1 (cs27)), (9200100, Ob.row (A21) ((b_20).length) (c22) 9 1 (cs23))] [(1601, Ob.iter b10 (bs (t_)) (pos_28 + runeLen t_ pos_28))] [(9300000, rdF Rep.u8 (cs27) (b_24)), (9300100, rdF Rep.str (cs23) (b_20))] ⟨rfl, rfl, rfl, rfl, trivial⟩ ⟨rfl, trivial⟩ rfl ⟨rfl, rfl, trivial⟩) r54 hr54) ?_); intro v57 a' w' hK hp hF
              obtain ⟨Am01u58, cm01u58, csm0_0u58, Am11u58, cm11u58, csm1_0u58, rfl, hWu58⟩ := hp
              have hS2 := St.mk hF (hT.wd.back (Lsub := [(9100000, Ob.box b8 [.slice (A25) ((b_24).length) (c26)] 35), (9100100, Ob.box b4 [.slice (A21) ((b_20).length) (c22)] 23), (9200000, Ob.row (A25) ((b_24).length) (c26) 5 1 (cs27)), (9200100, Ob.row (A21) ((b_20).length) (c22) 9 1 (cs23))]) (Lrest := [(1601, Ob.iter b10 (bs (t_)) (pos_28 + runeLen t_ pos_28))]) ⟨rfl, rfl, rfl, rfl, trivial⟩ ⟨rfl, trivial⟩ rfl hWu58 rfl)
              clear hS hT hF hWu58 hK; revert hS2; revert w'; revert a'; intro a w hS
              replace hS := hS.add 116 (rdF Rep.u8 (csm0_0u58) (r54.1)) (hS.fact (k := 9300000) rfl)
              replace hS := hS.add 117 (rdF Rep.str (csm1_0u58) (r54.2)) (hS.fact (k := 9300100) rfl)
              replace hS := hS.ren [(1300, Ob.box b4 [.slice (Am11u58) ((r54.2).length) (cm11u58)] 23), (1401, Ob.box b8 [.slice (Am01u58) ((r54.1).length) (cm01u58)] 35), (1601, Ob.iter b10 (bs (t_)) (pos_28 + runeLen t_ pos_28)), (700105, Ob.row (Am11u58) ((r54.2).length) (cm11u58) 9 1 (csm1_0u58)), (700107, Ob.row (Am01u58) ((r54.1).length) (cm01u58) 5 1 (csm0_0u58))] [9100100, 9100000, 1601, 9200100, 9200000] ⟨rfl, rfl, rfl, rfl, rfl, trivial⟩ (by decide)
              apply wpList_nil
              refine p_norm ?_
              replace hg := chk_some hg; obtain ⟨hk61, hg⟩ := hg
              apply wp_region_lit
              refine q_seq hS rfl rfl rfl (y_loadBox1 (kk := 1300) hS rfl rfl rfl Try.underlying23 rfl) ?_; clear hS a; intro a hS
              refine q_seq hS rfl rfl rfl (y_move hS rfl) ?_; clear hS a; intro a hS
              refine q_seq hS rfl rfl rfl (y_convU8 hS rfl Try.underlying21 Try.underlying5) ?_; clear hS a; intro a hS
              refine l_seq rfl (l_buildDense (sz := 1) hS 2603 rfl rfl rfl Try.underlying35 rfl rfl rfl rfl rfl rfl rfl ?_); clear hS a; intro b64 a w hbb64 hK hS
              clear hbb64
              clear hK
              replace hS := hS.add 121 (rdF Rep.u8 (cellsOfL [.int .u8 ((((toU8 (runeAt t_ pos_28)).toNat : Nat) : Int))]) ([toU8 (runeAt t_ pos_28)])) (RdAll.cons (by exact rfl) (RdAll.nil _ _ _))
              have hbl := row_len1 (hS.wd.holds 2603 _ rfl) (hS.fact (k := 121) rfl)
              refine q_seq hS rfl rfl rfl (y_bytesRow (kk := 2603) hS rfl rfl (hS.fact (k := 121) rfl) Try.underlying35 Try.underlying5 Try.underlying9) ?_; clear hS a; intro a hS
              refine l_seq rfl (l_buildDense (sz := 1) hS 2605 rfl rfl rfl Try.underlying23 rfl rfl rfl rfl rfl rfl rfl ?_); clear hS a; intro b65 a w hbb65 hK hS
              clear hbb65
              clear hK
              replace hS := hS.add 122 (rdF Rep.str (cellsOfL [.string (bs ([toU8 (runeAt t_ pos_28)]))]) ([[toU8 (runeAt t_ pos_28)]])) (RdAll.cons (by exact ⟨rfl, (by first | omega | (simp only [List.length_append]; omega) | (simp only [List.length_append, List.length_take, List.length_drop, List.length_cons, List.length_nil]; omega))⟩) (RdAll.nil _ _ _))
              have hs67 := row_src (hS.wd.holds 2605 _ rfl) (RdAll.one (hS.fact (k := 122) rfl))
              refine l_seq rfl (l_append (sz := 1) (by_ := 16) (N := (r54.2 ++ [[toU8 (runeAt t_ pos_28)]]).length) (ys := csm1_0u58 ++ (cellsOfL [.string (bs ([toU8 (runeAt t_ pos_28)]))])) hS 700105 rfl rfl rfl Try.underlying23 rfl rfl rfl rfl rfl hs67 (by simp) rfl (by have hr := hk61; clear hg; first | omega | (simp only [List.length_append, List.length_cons, List.length_nil] at hr ⊢; omega) | (simp at hr ⊢; omega)) (by have hr := hk61; clear hg; first | omega | (simp only [List.length_append, List.length_cons, List.length_nil] at hr ⊢; omega) | (simp at hr ⊢; omega)) rfl ?_); clear hS a; intro Aq66 cq66 a w hA hK hS
              clear hK hA
              replace hS := hS.add 123 (rdF Rep.str (csm1_0u58 ++ (cellsOfL [.string (bs ([toU8 (runeAt t_ pos_28)]))])) (r54.2 ++ [[toU8 (runeAt t_ pos_28)]])) (RdAll.append (hS.fact (k := 117) rfl) (hS.fact (k := 122) rfl))
              refine l_seq rfl (l_store (n := 1) (cs' := [.slice (Aq66) ((r54.2 ++ [[toU8 (runeAt t_ pos_28)]]).length) (cq66)]) hS 1300 rfl rfl rfl rfl rfl rfl rfl rfl ?_); clear hS; intro w hK hS; clear hK
              apply wpList_nil
              refine p_inN ?_
              refine p_inN ?_
              refine p_norm ?_
              replace hS := hS.add 106 (rdF Rep.str (csm1_0u58 ++ (cellsOfL [.string (bs ([toU8 (runeAt t_ pos_28)]))])) (r54.2 ++ [[toU8 (runeAt t_ pos_28)]])) (hS.fact (k := 123) rfl)
              replace hS := hS.add 108 (rdF Rep.u8 (csm0_0u58) (r54.1)) (hS.fact (k := 116) rfl)
              exact ⟨m1, Nat.lt_succ_self _, ⟨(r54.2 ++ [[toU8 (runeAt t_ pos_28)]]), (r54.1), (pos_28 + runeLen t_ pos_28), (Aq66), (cq66), (csm1_0u58 ++ (cellsOfL [.string (bs ([toU8 (runeAt t_ pos_28)]))])), (Am01u58), (cm01u58), (csm0_0u58), hg, (hS.sub ⟨rfl, rfl, rfl, rfl, trivial⟩ ⟨rfl, rfl, rfl, rfl, rfl, trivial⟩ ⟨rfl, rfl, trivial⟩)⟩⟩
            · replace hg := br_f hg (by rw [hc53]; exact Bool.false_ne_true)
              apply wp_seq
              replace hg := jn_some hg; obtain ⟨k68, hg, hk68⟩ := hg
              refine c_post (fun a w => ∃ (t_69 : Bool), k68 t_69 = some r ∧ St (⟨Try.f10.ntmps, M, noB, w0⟩ : Ctx) [(4, .pointer (some ⟨b4, 0, none⟩)), (5, .pointer (some ⟨b8, 0, none⟩)), (6, .func (.func 20) #[] #[.pointer (some ⟨b8, 0, none⟩), .pointer (some ⟨b4, 0, none⟩)]), (8, .int .i32 (runeAt t_ pos_28)), (17, .pointer (some ⟨b10, 0, none⟩)), (58, .bool (t_69))] [(1300, Ob.box b4 [.slice (A21) ((b_20).length) (c22)] 23), (1401, Ob.box b8 [.slice (A25) ((b_24).length) (c26)] 35), (1601, Ob.iter b10 (bs (t_)) (pos_28 + runeLen t_ pos_28)), (700105, Ob.row (A21) ((b_20).length) (c22) 9 1 (cs23)), (700107, Ob.row (A25) ((b_24).length) (c26) 5 1 (cs27))] [(106, rdF Rep.str (cs23) (b_20)), (108, rdF Rep.u8 (cs27) (b_24))] a w) ?_ ?_
              · rcases Decidable.em ((65 : Int) ≤ (runeAt t_ pos_28)) with hs70 | hs70
                · have hs70e : decide ((65 : Int) ≤ (runeAt t_ pos_28)) = true := decide_eq_true hs70
                  replace hg := br_t hg hs70
                  apply wp_region_lit
                  refine q_seq hS rfl rfl rfl (y_move hS rfl) ?_; clear hS a; intro a hS
                  refine q_seq hS rfl rfl rfl (yl_b (y_geq hS rfl rfl) hs70e) ?_; clear hS a; intro a hS
                  refine q_seq hS rfl rfl rfl (y_move hS rfl) ?_; clear hS a; intro a hS
                  refine g_yes hS rfl rfl rfl rfl (l_quiet hS rfl rfl (y_move hS rfl) ?_); clear hS a; intro a hS
                  refine g_yes hS rfl rfl rfl rfl (l_quiet hS rfl rfl (y_leq hS rfl rfl) ?_); clear hS a; intro a hS
                  refine q_seq hS rfl rfl rfl (y_pick_t hS rfl rfl) ?_; clear hS a; intro a hS
                  refine q_seq hS rfl rfl rfl (y_assign hS rfl) ?_; clear hS a; intro a hS
                  apply wpList_nil
                  refine p_norm ?_
                  exact ⟨(decide ((runeAt t_ pos_28) ≤ 90)), hg, (hS.sub ⟨rfl, rfl, rfl, rfl, rfl, rfl, trivial⟩ ⟨rfl, rfl, rfl, rfl, rfl, trivial⟩ ⟨rfl, rfl, trivial⟩)⟩
                · have hs70e : decide ((65 : Int) ≤ (runeAt t_ pos_28)) = false := decide_eq_false hs70
                  replace hg := br_f hg hs70
                  apply wp_region_lit
                  refine q_seq hS rfl rfl rfl (y_move hS rfl) ?_; clear hS a; intro a hS
                  refine q_seq hS rfl rfl rfl (yl_b (y_geq hS rfl rfl) hs70e) ?_; clear hS a; intro a hS
                  refine q_seq hS rfl rfl rfl (y_move hS rfl) ?_; clear hS a; intro a hS
                  refine g_no hS rfl rfl rfl rfl rfl rfl rfl ?_; clear hS a; intro a hS
                  refine g_no hS rfl rfl rfl rfl rfl rfl rfl ?_; clear hS a; intro a hS
                  refine q_seq hS rfl rfl rfl (y_pick_f hS rfl rfl) ?_; clear hS a; intro a hS
                  refine q_seq hS rfl rfl rfl (y_assign hS rfl) ?_; clear hS a; intro a hS
                  apply wpList_nil
                  refine p_norm ?_
                  exact ⟨(false), hg, (hS.sub ⟨rfl, rfl, rfl, rfl, rfl, rfl, trivial⟩ ⟨rfl, rfl, rfl, rfl, rfl, trivial⟩ ⟨rfl, rfl, trivial⟩)⟩
              clear hS a; rintro a w ⟨t_69, hg, hS⟩
              subst hk68
              refine c_cond hS rfl (fun hc71 => ?_) (fun hc71 => ?_)
              · replace hg := br_t hg hc71
                replace hg := chk_some hg; obtain ⟨hk73, hg⟩ := hg
                apply wp_region_lit
                refine q_seq hS rfl rfl rfl (y_loadBox1 (kk := 1401) hS rfl rfl rfl Try.underlying35 rfl) ?_; clear hS a; intro a hS
                refine q_seq hS rfl rfl rfl (y_move hS rfl) ?_; clear hS a; intro a hS
                refine q_seq hS rfl rfl rfl (y_convU8 hS rfl Try.underlying21 Try.underlying5) ?_; clear hS a; intro a hS
                refine q_seq hS rfl rfl rfl (y_subU8 (p := (toU8 (runeAt t_ pos_28))) (q := (65 : UInt8)) hS rfl rfl) ?_; clear hS a; intro a hS
                refine q_seq hS rfl rfl rfl (y_addU8 (p := ((toU8 (runeAt t_ pos_28)) - (65 : UInt8))) (q := (97 : UInt8)) hS rfl rfl) ?_; clear hS a; intro a hS
                refine l_seq rfl (l_buildDense (sz := 1) hS 2805 rfl rfl rfl Try.underlying35 rfl rfl rfl rfl rfl rfl rfl ?_); clear hS a; intro b76 a w hbb76 hK hS
                clear hbb76
                clear hK
                replace hS := hS.add 126 (rdF Rep.u8 (cellsOfL [.int .u8 ((((((toU8 (runeAt t_ pos_28)) - (65 : UInt8)) + (97 : UInt8)).toNat : Nat) : Int))]) ([((toU8 (runeAt t_ pos_28)) - (65 : UInt8)) + (97 : UInt8)])) (RdAll.cons (by exact rfl) (RdAll.nil _ _ _))
                have hs78 := row_src (hS.wd.holds 2805 _ rfl) (RdAll.one (hS.fact (k := 126) rfl))
                refine l_seq rfl (l_append (sz := 1) (by_ := 1) (N := (b_24 ++ [((toU8 (runeAt t_ pos_28)) - (65 : UInt8)) + (97 : UInt8)]).length) (ys := cs27 ++ (cellsOfL [.int .u8 ((((((toU8 (runeAt t_ pos_28)) - (65 : UInt8)) + (97 : UInt8)).toNat : Nat) : Int))])) hS 700107 rfl rfl rfl Try.underlying35 rfl rfl rfl rfl rfl hs78 (by simp) rfl (by have hr := hk73; clear hg; first | omega | (simp only [List.length_append, List.length_cons, List.length_nil] at hr ⊢; omega) | (simp at hr ⊢; omega)) (by have hr := hk73; clear hg; first | omega | (simp only [List.length_append, List.length_cons, List.length_nil] at hr ⊢; omega) | (simp at hr ⊢; omega)) rfl ?_); clear hS a; intro Aq77 cq77 a w hA hK hS
                clear hK hA
                replace hS := hS.add 127 (rdF Rep.u8 (cs27 ++ (cellsOfL [.int .u8 ((((((toU8 (runeAt t_ pos_28)) - (65 : UInt8)) + (97 : UInt8)).toNat : Nat) : Int))])) (b_24 ++ [((toU8 (runeAt t_ pos_28)) - (65 : UInt8)) + (97 : UInt8)])) (RdAll.append (hS.fact (k := 108) rfl) (hS.fact (k := 126) rfl))
                refine l_seq rfl (l_store (n := 1) (cs' := [.slice (Aq77) ((b_24 ++ [((toU8 (runeAt t_ pos_28)) - (65 : UInt8)) + (97 : UInt8)]).length) (cq77)]) hS 1401 rfl rfl rfl rfl rfl rfl rfl rfl ?_); clear hS; intro w hK hS; clear hK
                apply wpList_nil
                refine p_inN ?_
                refine p_inN ?_
                refine p_norm ?_
                replace hS := hS.add 106 (rdF Rep.str (cs23) (b_20)) (hS.fact (k := 106) rfl)
                replace hS := hS.add 108 (rdF Rep.u8 (cs27 ++ (cellsOfL [.int .u8 ((((((toU8 (runeAt t_ pos_28)) - (65 : UInt8)) + (97 : UInt8)).toNat : Nat) : Int))])) (b_24 ++ [((toU8 (runeAt t_ pos_28)) - (65 : UInt8)) + (97 : UInt8)])) (hS.fact (k := 127) rfl)
                exact ⟨m1, Nat.lt_succ_self _, ⟨(b_20), (b_24 ++ [((toU8 (runeAt t_ pos_28)) - (65 : UInt8)) + (97 : UInt8)]), (pos_28 + runeLen t_ pos_28), (A21), (c22), (cs23), (Aq77), (cq77), (cs27 ++ (cellsOfL [.int .u8 ((((((toU8 (runeAt t_ pos_28)) - (65 : UInt8)) + (97 : UInt8)).toNat : Nat) : Int))])), hg, (hS.sub ⟨rfl, rfl, rfl, rfl, trivial⟩ ⟨rfl, rfl, rfl, rfl, rfl, trivial⟩ ⟨rfl, rfl, trivial⟩)⟩⟩
              · replace hg := br_f hg (by rw [hc71]; exact Bool.false_ne_true)
                replace hg := chk_some hg; obtain ⟨hk80, hg⟩ := hg
                apply wp_region_lit
                refine q_seq hS rfl rfl rfl (y_loadBox1 (kk := 1401) hS rfl rfl rfl Try.underlying35 rfl) ?_; clear hS a; intro a hS
                refine q_seq hS rfl rfl rfl (y_move hS rfl) ?_; clear hS a; intro a hS
                refine q_seq hS rfl rfl rfl (y_convU8 hS rfl Try.underlying21 Try.underlying5) ?_; clear hS a; intro a hS
                refine l_seq rfl (l_buildDense (sz := 1) hS 1903 rfl rfl rfl Try.underlying35 rfl rfl rfl rfl rfl rfl rfl ?_); clear hS a; intro b83 a w hbb83 hK hS
                clear hbb83
                clear hK
                replace hS := hS.add 130 (rdF Rep.u8 (cellsOfL [.int .u8 ((((toU8 (runeAt t_ pos_28)).toNat : Nat) : Int))]) ([toU8 (runeAt t_ pos_28)])) (RdAll.cons (by exact rfl) (RdAll.nil _ _ _))
                have hs85 := row_src (hS.wd.holds 1903 _ rfl) (RdAll.one (hS.fact (k := 130) rfl))
                refine l_seq rfl (l_append (sz := 1) (by_ := 1) (N := (b_24 ++ [toU8 (runeAt t_ pos_28)]).length) (ys := cs27 ++ (cellsOfL [.int .u8 ((((toU8 (runeAt t_ pos_28)).toNat : Nat) : Int))])) hS 700107 rfl rfl rfl Try.underlying35 rfl rfl rfl rfl rfl hs85 (by simp) rfl (by have hr := hk80; clear hg; first | omega | (simp only [List.length_append, List.length_cons, List.length_nil] at hr ⊢; omega) | (simp at hr ⊢; omega)) (by have hr := hk80; clear hg; first | omega | (simp only [List.length_append, List.length_cons, List.length_nil] at hr ⊢; omega) | (simp at hr ⊢; omega)) rfl ?_); clear hS a; intro Aq84 cq84 a w hA hK hS
                clear hK hA
                replace hS := hS.add 131 (rdF Rep.u8 (cs27 ++ (cellsOfL [.int .u8 ((((toU8 (runeAt t_ pos_28)).toNat : Nat) : Int))])) (b_24 ++ [toU8 (runeAt t_ pos_28)])) (RdAll.append (hS.fact (k := 108) rfl) (hS.fact (k := 130) rfl))
                refine l_seq rfl (l_store (n := 1) (cs' := [.slice (Aq84) ((b_24 ++ [toU8 (runeAt t_ pos_28)]).length) (cq84)]) hS 1401 rfl rfl rfl rfl rfl rfl rfl rfl ?_); clear hS; intro w hK hS; clear hK
                apply wpList_nil
                refine p_inN ?_
                refine p_inN ?_
                refine p_norm ?_
                replace hS := hS.add 106 (rdF Rep.str (cs23) (b_20)) (hS.fact (k := 106) rfl)
                replace hS := hS.add 108 (rdF Rep.u8 (cs27 ++ (cellsOfL [.int .u8 ((((toU8 (runeAt t_ pos_28)).toNat : Nat) : Int))])) (b_24 ++ [toU8 (runeAt t_ pos_28)])) (hS.fact (k := 131) rfl)
                exact ⟨m1, Nat.lt_succ_self _, ⟨(b_20), (b_24 ++ [toU8 (runeAt t_ pos_28)]), (pos_28 + runeLen t_ pos_28), (A21), (c22), (cs23), (Aq84), (cq84), (cs27 ++ (cellsOfL [.int .u8 ((((toU8 (runeAt t_ pos_28)).toNat : Nat) : Int))])), hg, (hS.sub ⟨rfl, rfl, rfl, rfl, trivial⟩ ⟨rfl, rfl, rfl, rfl, rfl, trivial⟩ ⟨rfl, rfl, trivial⟩)⟩⟩
      · have hs29e : decide (pos_28 < (t_).length) = false := decide_eq_false hs29
        replace hg := br_f hg hs29
        apply wp_region_lit
        refine l_seq rfl (l_nextE hS 1601 rfl rfl hs29 rfl ?_); clear hS a; intro a w hK hS
        clear hK
        refine q_seq hS rfl rfl rfl (y_extract hS rfl rfl) ?_; clear hS a; intro a hS
        apply wpList_nil
        refine p_norm ?_
        apply wp_seq
        refine c_f hS rfl ?_
        apply wp_exit
        refine p_then ?_
        refine p_then ?_
        refine p_in ?_
        refine p_norm ?_
        replace hS := hS.add 102 (rdF Rep.str (cs23) (b_20)) (hS.fact (k := 106) rfl)
        replace hS := hS.ren [(1300, Ob.box b4 [.slice (A21) ((b_20).length) (c22)] 23), (1401, Ob.box b8 [.slice (A25) ((b_24).length) (c26)] 35), (1601, Ob.iter b10 (bs (t_)) (pos_28)), (700101, Ob.row (A21) ((b_20).length) (c22) 9 1 (cs23)), (700107, Ob.row (A25) ((b_24).length) (c26) 5 1 (cs27))] [1300, 1401, 1601, 700105, 700107] ⟨rfl, rfl, rfl, rfl, rfl, trivial⟩ (by decide)
        replace hS := hS.add 104 (rdF Rep.u8 (cs27) (b_24)) (hS.fact (k := 108) rfl)
        replace hS := hS.ren [(1300, Ob.box b4 [.slice (A21) ((b_20).length) (c22)] 23), (1401, Ob.box b8 [.slice (A25) ((b_24).length) (c26)] 35), (1601, Ob.iter b10 (bs (t_)) (pos_28)), (700101, Ob.row (A21) ((b_20).length) (c22) 9 1 (cs23)), (700103, Ob.row (A25) ((b_24).length) (c26) 5 1 (cs27))] [1300, 1401, 1601, 700101, 700107] ⟨rfl, rfl, rfl, rfl, rfl, trivial⟩ (by decide)
        exact ⟨(b_20), (b_24), (A21), (c22), (cs23), (A25), (c26), (cs27), hg, (hS.sub ⟨rfl, rfl, trivial⟩ ⟨rfl, rfl, rfl, rfl, trivial⟩ ⟨rfl, rfl, trivial⟩)⟩
    clear hS a; rintro a w ⟨b_12, b_16, A13, c14, cs15, A17, c18, cs19, hg, hS⟩
    subst hk11
    apply wp_seq
    replace hg := bind_some hg; obtain ⟨r86, hr86, hg⟩ := hg
    apply wp_region_lit
    refine q_seq hS rfl rfl rfl (y_move hS rfl) ?_; clear hS a; intro a hS
    have hT := hS.ren [(9100000, Ob.box b8 [.slice (A17) ((b_16).length) (c18)] 35), (9100100, Ob.box b4 [.slice (A13) ((b_12).length) (c14)] 23), (9200000, Ob.row (A17) ((b_16).length) (c18) 5 1 (cs19)), (9200100, Ob.row (A13) ((b_12).length) (c14) 9 1 (cs15))] [1401, 1300, 700103, 700101] ⟨rfl, rfl, rfl, rfl, trivial⟩ (by decide)
    replace hT := hT.add 9300000 (rdF Rep.u8 (cs19) (b_16)) (hT.fact (k := 104) rfl)
    replace hT := hT.add 9300100 (rdF Rep.str (cs15) (b_12)) (hT.fact (k := 102) rfl)
    refine l_seq rfl (l_callMut (cap := [.pointer (some ⟨b8, 0, none⟩), .pointer (some ⟨b4, 0, none⟩)]) hT [(9100000, Ob.box b8 [.slice (A17) ((b_16).length) (c18)] 35), (9100100, Ob.box b4 [.slice (A13) ((b_12).length) (c14)] 23), (9200000, Ob.row (A17) ((b_16).length) (c18) 5 1 (cs19)), (9200100, Ob.row (A13) ((b_12).length) (c14) 9 1 (cs15))] [] ⟨rfl, rfl, rfl, rfl, trivial⟩ trivial rfl rfl Try.func20 rfl (by kernel_rfl) rfl rfl (c_token_Split_1 n _ _ (hT.lendLt (L' := []) trivial) _ b8 b_16 (A17) (c18) (cs19) b4 b_12 (A13) (c14) (cs15) (hT.wd.lendL [(9100000, Ob.box b8 [.slice (A17) ((b_16).length) (c18)] 35), (9100100, Ob.box b4 [.slice (A13) ((b_12).length) (c14)] 23), (9200000, Ob.row (A17) ((b_16).length) (c18) 5 1 (cs19)), (9200100, Ob.row (A13) ((b_12).length) (c14) 9 1 (cs15))] [] [(9300000, rdF Rep.u8 (cs19) (b_16)), (9300100, rdF Rep.str (cs15) (b_12))] ⟨rfl, rfl, rfl, rfl, trivial⟩ trivial rfl ⟨rfl, rfl, trivial⟩) r86 hr86) ?_); intro v89 a' w' hK hp hF
    obtain ⟨Am01u90, cm01u90, csm0_0u90, Am11u90, cm11u90, csm1_0u90, rfl, hWu90⟩ := hp
    have hS2 := St.mk hF (hT.wd.back (Lsub := [(9100000, Ob.box b8 [.slice (A17) ((b_16).length) (c18)] 35), (9100100, Ob.box b4 [.slice (A13) ((b_12).length) (c14)] 23), (9200000, Ob.row (A17) ((b_16).length) (c18) 5 1 (cs19)), (9200100, Ob.row (A13) ((b_12).length) (c14) 9 1 (cs15))]) (Lrest := []) ⟨rfl, rfl, rfl, rfl, trivial⟩ trivial rfl hWu90 rfl)
    clear hS hT hF hWu90 hK; revert hS2; revert w'; revert a'; intro a w hS
    replace hS := hS.add 134 (rdF Rep.u8 (csm0_0u90) (r86.1)) (hS.fact (k := 9300000) rfl)
    replace hS := hS.add 135 (rdF Rep.str (csm1_0u90) (r86.2)) (hS.fact (k := 9300100) rfl)
    replace hS := hS.ren [(1300, Ob.box b4 [.slice (Am11u90) ((r86.2).length) (cm11u90)] 23), (1401, Ob.box b8 [.slice (Am01u90) ((r86.1).length) (cm01u90)] 35), (700101, Ob.row (Am11u90) ((r86.2).length) (cm11u90) 9 1 (csm1_0u90)), (700103, Ob.row (Am01u90) ((r86.1).length) (cm01u90) 5 1 (csm0_0u90))] [9100100, 9100000, 9200100, 9200000] ⟨rfl, rfl, rfl, rfl, trivial⟩ (by decide)
    apply wpList_nil
    refine p_norm ?_
    apply wp_seq
    apply wp_seq
    apply wp_region_lit
    refine q_seq hS rfl rfl rfl (y_loadBox1 (kk := 1300) hS rfl rfl rfl Try.underlying23 rfl) ?_; clear hS a; intro a hS
    refine q_seq hS rfl rfl rfl (y_lenSlice hS rfl Try.underlying23) ?_; clear hS a; intro a hS
    refine q_seq hS rfl rfl rfl (y_eqlN (i := ((r86.2).length)) (j := 0) hS rfl rfl) ?_; clear hS a; intro a hS
    apply wpList_nil
    refine p_norm ?_
    refine c_dec hS rfl (fun hc91 => ?_) (fun hc91 => ?_)
    · replace hg := br_t hg hc91
      apply wp_seq
      apply wp_region_lit
      refine q_seq hS rfl rfl rfl (y_assign hS rfl) ?_; clear hS a; intro a hS
      refine q_seq hS rfl rfl rfl (y_assign hS rfl) ?_; clear hS a; intro a hS
      apply wpList_nil
      refine p_norm ?_
      apply wp_ret
      refine p_thenR ?_
      obtain rfl := Option.some.inj hg
      refine fin2 (fn := Try.f10) hS rfl (r_tmp hS rfl) (r_tmp hS rfl) ?_
      exact ⟨(none), (0), rfl, (SlR.nil_ _ _ _)⟩
    · replace hg := br_f hg hc91
      apply wp_skip
      refine p_norm ?_
      apply wp_seq
      apply wp_seq
      apply wp_region_lit
      refine q_seq hS rfl rfl rfl (y_loadBox1 (kk := 1300) hS rfl rfl rfl Try.underlying23 rfl) ?_; clear hS a; intro a hS
      refine q_seq hS rfl rfl rfl (y_lenSlice hS rfl Try.underlying23) ?_; clear hS a; intro a hS
      refine q_seq hS rfl rfl rfl (y_gtrN (i := ((r86.2).length)) (j := 32) hS rfl rfl) ?_; clear hS a; intro a hS
      apply wpList_nil
      refine p_norm ?_
      refine c_dec hS rfl (fun hc92 => ?_) (fun hc92 => ?_)
      · replace hg := br_t hg hc92
        have hmx93 := row_mx (hS.wd.holds 700101 _ rfl)
        apply wp_seq
        apply wp_region_lit
        refine q_seq hS rfl rfl rfl (y_assign hS rfl) ?_; clear hS a; intro a hS
        refine q_seq hS rfl rfl rfl (y_assign hS rfl) ?_; clear hS a; intro a hS
        apply wpList_nil
        refine p_norm ?_
        apply wp_ret
        refine p_thenR ?_
        obtain rfl := Option.some.inj hg
        refine fin2 (fn := Try.f10) hS rfl (r_tmp hS rfl) (r_tmp hS rfl) ?_
        exact ⟨(none), (0), rfl, (SlR.nil_ _ _ _)⟩
      · replace hg := br_f hg hc92
        apply wp_skip
        refine p_norm ?_
        apply wp_seq
        apply wp_seq
        apply wp_region_lit
        refine q_seq hS rfl rfl rfl (y_loadBox1 (kk := 1300) hS rfl rfl rfl Try.underlying23 rfl) ?_; clear hS a; intro a hS
        refine q_seq hS rfl rfl rfl (y_lenSlice hS rfl Try.underlying23) ?_; clear hS a; intro a hS
        refine q_seq hS rfl rfl rfl (y_move hS rfl) ?_; clear hS a; intro a hS
        apply wpList_nil
        refine p_norm ?_
        replace hg := jn_some hg; obtain ⟨k94, hg, hk94⟩ := hg
        refine c_post (fun a w => k94 = some r ∧ St (⟨Try.f10.ntmps, M, noB, w0⟩ : Ctx) [(4, .pointer (some ⟨b4, 0, none⟩))] [(1300, Ob.box b4 [.slice (Am11u90) ((r86.2).length) (cm11u90)] 23), (700101, Ob.row (Am11u90) ((r86.2).length) (cm11u90) 9 1 (csm1_0u90))] [(135, rdF Rep.str (csm1_0u90) (r86.2))] a w) ?_ ?_
        · apply wp_block
          refine c_loop (σ := Nat) (fun m2 a w => ∃ (t_95 : Nat), token_Split_L1 n r86 k94 m2 t_95 = some r ∧ St (⟨Try.f10.ntmps, M, noB, w0⟩ : Ctx) [(4, .pointer (some ⟨b4, 0, none⟩)), (80, .slice (Am11u90) ((r86.2).length) (cm11u90)), (81, .int .i64 ((((r86.2).length : Nat) : Int))), (82, .int .i64 (((t_95 : Nat) : Int)))] [(1300, Ob.box b4 [.slice (Am11u90) ((r86.2).length) (cm11u90)] 23), (700101, Ob.row (Am11u90) ((r86.2).length) (cm11u90) 9 1 (csm1_0u90))] [(135, rdF Rep.str (csm1_0u90) (r86.2))] a w) (fun m2 => m2) n ⟨(0), hg, (hS.sub ⟨rfl, rfl, rfl, rfl, trivial⟩ ⟨rfl, rfl, trivial⟩ ⟨rfl, trivial⟩)⟩ ?_
          clear hS a; rintro m2 a w ⟨t_95, hg, hS⟩
          rcases m2 with _ | m2
          · rw [token_Split_L1] at hg; cases hg
          rw [token_Split_L1] at hg
          apply wp_seq
          apply wp_region_lit
          refine q_seq hS rfl rfl rfl (y_lssN (i := t_95) (j := ((r86.2).length)) hS rfl rfl) ?_; clear hS a; intro a hS
          apply wpList_nil
          refine p_norm ?_
          apply wp_seq
          refine c_dec hS rfl (fun hc96 => ?_) (fun hc96 => ?_)
          · replace hg := br_t hg hc96
            have hmx97 := row_mx (hS.wd.holds 700101 _ rfl)
            apply wp_skip
            refine p_norm ?_
            apply wp_seq
            apply wp_block
            apply wp_seq
            replace hg := bind_some hg; obtain ⟨x99, hx99, hg⟩ := hg
            apply wp_region_lit
            obtain ⟨hiq101, bq101, hAq101⟩ := SlR.row1 (hS.wd.holds 700101 _ rfl) (hS.fact (k := 135) rfl) rfl rfl hx99
            refine q_seq hS rfl rfl rfl (y_rowIndex (sz := 1) (i := t_95) hS rfl rfl Try.underlying23 rfl hAq101 rfl hiq101) ?_; clear hS a; intro a hS
            have hz102 := (hS.fact (k := 135) rfl).at_ _ _ hx99
            obtain ⟨ez102, lz1021⟩ := hz102
            refine q_seq hS rfl rfl rfl (y_loadRow1 (kk := 700101) hS rfl rfl hAq101 (take1 ez102) Try.underlying9 rfl) ?_; clear hS a; intro a hS
            refine q_seq hS rfl rfl rfl (y_assign hS rfl) ?_; clear hS a; intro a hS
            apply wpList_nil
            refine p_norm ?_
            apply wp_seq
            apply wp_region_lit
            refine q_seq hS rfl rfl rfl (y_move hS rfl) ?_; clear hS a; intro a hS
            refine q_seq hS rfl rfl rfl (y_lenStrN hS rfl Try.underlying9) ?_; clear hS a; intro a hS
            refine q_seq hS rfl rfl rfl (y_gtrN (i := ((x99).length)) (j := 32) hS rfl rfl) ?_; clear hS a; intro a hS
            apply wpList_nil
            refine p_norm ?_
            refine c_dec hS rfl (fun hc103 => ?_) (fun hc103 => ?_)
            · replace hg := br_t hg hc103
              have hmx104 : (x99).length ≤ 9223372036854775807 := (by first | omega | (simp only [List.length_append]; omega) | (simp only [List.length_append, List.length_take, List.length_drop, List.length_cons, List.length_nil]; omega))
              apply wp_seq
              apply wp_region_lit
              refine q_seq hS rfl rfl rfl (y_assign hS rfl) ?_; clear hS a; intro a hS
              refine q_seq hS rfl rfl rfl (y_assign hS rfl) ?_; clear hS a; intro a hS
              apply wpList_nil
              refine p_norm ?_
              apply wp_ret
              refine p_inR ?_
              refine p_thenR ?_
              refine p_thenR ?_
              refine p_inR ?_
              refine p_thenR ?_
              obtain rfl := Option.some.inj hg
              refine fin2 (fn := Try.f10) hS rfl (r_tmp hS rfl) (r_tmp hS rfl) ?_
              exact ⟨(none), (0), rfl, (SlR.nil_ _ _ _)⟩
            · replace hg := br_f hg hc103
              apply wp_skip
              refine p_inN ?_
              refine p_norm ?_
              apply wp_region_lit
              refine q_seq hS rfl rfl rfl (y_addN (i := t_95) (j := 1) hS rfl rfl (in64.2 (by omega))) ?_; clear hS a; intro a hS
              refine q_seq hS rfl rfl rfl (y_move hS rfl) ?_; clear hS a; intro a hS
              apply wpList_nil
              refine p_norm ?_
              exact ⟨m2, Nat.lt_succ_self _, ⟨(t_95 + 1), hg, (hS.sub ⟨rfl, rfl, rfl, rfl, trivial⟩ ⟨rfl, rfl, trivial⟩ ⟨rfl, trivial⟩)⟩⟩
          · replace hg := br_f hg hc96
            apply wp_exit
            refine p_then ?_
            refine p_then ?_
            refine p_in ?_
            refine p_norm ?_
            exact ⟨hg, (hS.sub ⟨rfl, trivial⟩ ⟨rfl, rfl, trivial⟩ ⟨rfl, trivial⟩)⟩
        clear hS a; rintro a w ⟨hg, hS⟩
        subst hk94
        apply wp_seq
        apply wp_region_lit
        refine q_seq hS rfl rfl rfl (y_loadBox1 (kk := 1300) hS rfl rfl rfl Try.underlying23 rfl) ?_; clear hS a; intro a hS
        refine q_seq hS rfl rfl rfl (y_assign hS rfl) ?_; clear hS a; intro a hS
        refine q_seq hS rfl rfl rfl (y_assign hS rfl) ?_; clear hS a; intro a hS
        apply wpList_nil
        refine p_norm ?_
        apply wp_ret
        obtain rfl := Option.some.inj hg
        refine fin2 (fn := Try.f10) hS rfl (r_tmp hS rfl) (r_tmp hS rfl) ?_
        exact ⟨(Am11u90), (cm11u90), rfl, (hS.rowOut (R := Rep.str) (kk := 700101) rfl rfl (hS.fact (k := 135) rfl))⟩
set_option maxHeartbeats 400000 in
theorem c_r27_white (n : Nat) (M : Bs) (w0 : World) (hM : ∀ b, M b → b < w0.heap.size) (c_ : UInt8) (r : Bool) (hg : r27_white n c_ = some r) :
    Calls Try.prog 23 [.int .u8 (((c_.toNat : Nat) : Int))].toArray w0 (Ret noB w0 fun v w => v = .bool (r)) := by
  unfold r27_white at hg
  refine enter M noB Try.func23 rfl rfl hM ?_
  intro a hS
  apply wp_seq
  apply wp_region_lit
  refine q_seq hS rfl rfl rfl (y_assign hS rfl) ?_; clear hS a; intro a hS
  apply wpList_nil
  refine p_norm ?_
  apply wp_seq
  rcases Decidable.em (c_.toNat = 32) with hs1 | hs1
  · have hs1e : decide (c_.toNat = 32) = true := decide_eq_true hs1
    replace hg := br_t hg hs1
    apply wp_region_lit
    refine q_seq hS rfl rfl rfl (y_move hS rfl) ?_; clear hS a; intro a hS
    refine q_seq hS rfl rfl rfl (yl_b (y_eqlN (i := c_.toNat) (j := 32) hS rfl rfl) hs1e) ?_; clear hS a; intro a hS
    refine q_seq hS rfl rfl rfl (y_move hS rfl) ?_; clear hS a; intro a hS
    refine g_no hS rfl rfl rfl rfl rfl rfl rfl ?_; clear hS a; intro a hS
    refine g_no hS rfl rfl rfl rfl rfl rfl rfl ?_; clear hS a; intro a hS
    refine q_seq hS rfl rfl rfl (y_pick_t hS rfl rfl) ?_; clear hS a; intro a hS
    refine q_seq hS rfl rfl rfl (y_move hS rfl) ?_; clear hS a; intro a hS
    refine g_no hS rfl rfl rfl rfl rfl rfl rfl ?_; clear hS a; intro a hS
    refine g_no hS rfl rfl rfl rfl rfl rfl rfl ?_; clear hS a; intro a hS
    refine q_seq hS rfl rfl rfl (y_pick_t hS rfl rfl) ?_; clear hS a; intro a hS
    refine q_seq hS rfl rfl rfl (y_move hS rfl) ?_; clear hS a; intro a hS
    refine g_no hS rfl rfl rfl rfl rfl rfl rfl ?_; clear hS a; intro a hS
    refine g_no hS rfl rfl rfl rfl rfl rfl rfl ?_; clear hS a; intro a hS
    refine q_seq hS rfl rfl rfl (y_pick_t hS rfl rfl) ?_; clear hS a; intro a hS
    refine q_seq hS rfl rfl rfl (y_assign hS rfl) ?_; clear hS a; intro a hS
    apply wpList_nil
    refine p_norm ?_
    apply wp_ret
    obtain rfl := Option.some.inj hg
    refine fin1 (fn := Try.f23) hS rfl (r_tmp hS rfl) ?_
    exact rfl
  · have hs1e : decide (c_.toNat = 32) = false := decide_eq_false hs1
    replace hg := br_f hg hs1
    rcases Decidable.em (c_.toNat = 9) with hs2 | hs2
    · have hs2e : decide (c_.toNat = 9) = true := decide_eq_true hs2
      replace hg := br_t hg hs2
      apply wp_region_lit
      refine q_seq hS rfl rfl rfl (y_move hS rfl) ?_; clear hS a; intro a hS
      refine q_seq hS rfl rfl rfl (yl_b (y_eqlN (i := c_.toNat) (j := 32) hS rfl rfl) hs1e) ?_; clear hS a; intro a hS
      refine q_seq hS rfl rfl rfl (y_move hS rfl) ?_; clear hS a; intro a hS
      refine g_yes hS rfl rfl rfl rfl (l_quiet hS rfl rfl (y_move hS rfl) ?_); clear hS a; intro a hS
      refine g_yes hS rfl rfl rfl rfl (l_quiet hS rfl rfl (yl_b (y_eqlN (i := c_.toNat) (j := 9) hS rfl rfl) hs2e) ?_); clear hS a; intro a hS
      refine q_seq hS rfl rfl rfl (y_pick_f hS rfl rfl) ?_; clear hS a; intro a hS
      refine q_seq hS rfl rfl rfl (y_move hS rfl) ?_; clear hS a; intro a hS
      refine g_no hS rfl rfl rfl rfl rfl rfl rfl ?_; clear hS a; intro a hS
      refine g_no hS rfl rfl rfl rfl rfl rfl rfl ?_; clear hS a; intro a hS
      refine q_seq hS rfl rfl rfl (y_pick_t hS rfl rfl) ?_; clear hS a; intro a hS
      refine q_seq hS rfl rfl rfl (y_move hS rfl) ?_; clear hS a; intro a hS
      refine g_no hS rfl rfl rfl rfl rfl rfl rfl ?_; clear hS a; intro a hS
      refine g_no hS rfl rfl rfl rfl rfl rfl rfl ?_; clear hS a; intro a hS
      refine q_seq hS rfl rfl rfl (y_pick_t hS rfl rfl) ?_; clear hS a; intro a hS
      refine q_seq hS rfl rfl rfl (y_assign hS rfl) ?_; clear hS a; intro a hS
      apply wpList_nil
      refine p_norm ?_
      apply wp_ret
      obtain rfl := Option.some.inj hg
      refine fin1 (fn := Try.f23) hS rfl (r_tmp hS rfl) ?_
      exact rfl
    · have hs2e : decide (c_.toNat = 9) = false := decide_eq_false hs2
      replace hg := br_f hg hs2
      rcases Decidable.em (c_.toNat = 13) with hs3 | hs3
      · have hs3e : decide (c_.toNat = 13) = true := decide_eq_true hs3
        replace hg := br_t hg hs3
        apply wp_region_lit
        refine q_seq hS rfl rfl rfl (y_move hS rfl) ?_; clear hS a; intro a hS
        refine q_seq hS rfl rfl rfl (yl_b (y_eqlN (i := c_.toNat) (j := 32) hS rfl rfl) hs1e) ?_; clear hS a; intro a hS
        refine q_seq hS rfl rfl rfl (y_move hS rfl) ?_; clear hS a; intro a hS
        refine g_yes hS rfl rfl rfl rfl (l_quiet hS rfl rfl (y_move hS rfl) ?_); clear hS a; intro a hS
        refine g_yes hS rfl rfl rfl rfl (l_quiet hS rfl rfl (yl_b (y_eqlN (i := c_.toNat) (j := 9) hS rfl rfl) hs2e) ?_); clear hS a; intro a hS
        refine q_seq hS rfl rfl rfl (y_pick_f hS rfl rfl) ?_; clear hS a; intro a hS
        refine q_seq hS rfl rfl rfl (y_move hS rfl) ?_; clear hS a; intro a hS
        refine g_yes hS rfl rfl rfl rfl (l_quiet hS rfl rfl (y_move hS rfl) ?_); clear hS a; intro a hS
        refine g_yes hS rfl rfl rfl rfl (l_quiet hS rfl rfl (yl_b (y_eqlN (i := c_.toNat) (j := 13) hS rfl rfl) hs3e) ?_); clear hS a; intro a hS
        refine q_seq hS rfl rfl rfl (y_pick_f hS rfl rfl) ?_; clear hS a; intro a hS
        refine q_seq hS rfl rfl rfl (y_move hS rfl) ?_; clear hS a; intro a hS
        refine g_no hS rfl rfl rfl rfl rfl rfl rfl ?_; clear hS a; intro a hS
        refine g_no hS rfl rfl rfl rfl rfl rfl rfl ?_; clear hS a; intro a hS
        refine q_seq hS rfl rfl rfl (y_pick_t hS rfl rfl) ?_; clear hS a; intro a hS
        refine q_seq hS rfl rfl rfl (y_assign hS rfl) ?_; clear hS a; intro a hS
        apply wpList_nil
        refine p_norm ?_
        apply wp_ret
        obtain rfl := Option.some.inj hg
        refine fin1 (fn := Try.f23) hS rfl (r_tmp hS rfl) ?_
        exact rfl
      · have hs3e : decide (c_.toNat = 13) = false := decide_eq_false hs3
        replace hg := br_f hg hs3
        apply wp_region_lit
        refine q_seq hS rfl rfl rfl (y_move hS rfl) ?_; clear hS a; intro a hS
        refine q_seq hS rfl rfl rfl (yl_b (y_eqlN (i := c_.toNat) (j := 32) hS rfl rfl) hs1e) ?_; clear hS a; intro a hS
        refine q_seq hS rfl rfl rfl (y_move hS rfl) ?_; clear hS a; intro a hS
        refine g_yes hS rfl rfl rfl rfl (l_quiet hS rfl rfl (y_move hS rfl) ?_); clear hS a; intro a hS
        refine g_yes hS rfl rfl rfl rfl (l_quiet hS rfl rfl (yl_b (y_eqlN (i := c_.toNat) (j := 9) hS rfl rfl) hs2e) ?_); clear hS a; intro a hS
        refine q_seq hS rfl rfl rfl (y_pick_f hS rfl rfl) ?_; clear hS a; intro a hS
        refine q_seq hS rfl rfl rfl (y_move hS rfl) ?_; clear hS a; intro a hS
        refine g_yes hS rfl rfl rfl rfl (l_quiet hS rfl rfl (y_move hS rfl) ?_); clear hS a; intro a hS
        refine g_yes hS rfl rfl rfl rfl (l_quiet hS rfl rfl (yl_b (y_eqlN (i := c_.toNat) (j := 13) hS rfl rfl) hs3e) ?_); clear hS a; intro a hS
        refine q_seq hS rfl rfl rfl (y_pick_f hS rfl rfl) ?_; clear hS a; intro a hS
        refine q_seq hS rfl rfl rfl (y_move hS rfl) ?_; clear hS a; intro a hS
        refine g_yes hS rfl rfl rfl rfl (l_quiet hS rfl rfl (y_move hS rfl) ?_); clear hS a; intro a hS
        refine g_yes hS rfl rfl rfl rfl (l_quiet hS rfl rfl (y_eqlN (i := c_.toNat) (j := 10) hS rfl rfl) ?_); clear hS a; intro a hS
        refine q_seq hS rfl rfl rfl (y_pick_f hS rfl rfl) ?_; clear hS a; intro a hS
        refine q_seq hS rfl rfl rfl (y_assign hS rfl) ?_; clear hS a; intro a hS
        apply wpList_nil
        refine p_norm ?_
        apply wp_ret
        obtain rfl := Option.some.inj hg
        refine fin1 (fn := Try.f23) hS rfl (r_tmp hS rfl) ?_
        exact rfl
set_option maxHeartbeats 400000 in
theorem c_r27_upper (n : Nat) (M : Bs) (w0 : World) (hM : ∀ b, M b → b < w0.heap.size) (c_ : UInt8) (r : Bool) (hg : r27_upper n c_ = some r) :
    Calls Try.prog 24 [.int .u8 (((c_.toNat : Nat) : Int))].toArray w0 (Ret noB w0 fun v w => v = .bool (r)) := by
  unfold r27_upper at hg
  refine enter M noB Try.func24 rfl rfl hM ?_
  intro a hS
  apply wp_seq
  apply wp_region_lit
  refine q_seq hS rfl rfl rfl (y_assign hS rfl) ?_; clear hS a; intro a hS
  apply wpList_nil
  refine p_norm ?_
  apply wp_seq
  rcases Decidable.em ((65 : Nat) ≤ c_.toNat) with hs1 | hs1
  · have hs1e : decide ((65 : Nat) ≤ c_.toNat) = true := decide_eq_true hs1
    replace hg := br_t hg hs1
    apply wp_region_lit
    refine q_seq hS rfl rfl rfl (y_move hS rfl) ?_; clear hS a; intro a hS
    refine q_seq hS rfl rfl rfl (yl_b (y_geqN (i := c_.toNat) (j := 65) hS rfl rfl) hs1e) ?_; clear hS a; intro a hS
    refine q_seq hS rfl rfl rfl (y_move hS rfl) ?_; clear hS a; intro a hS
    refine g_yes hS rfl rfl rfl rfl (l_quiet hS rfl rfl (y_move hS rfl) ?_); clear hS a; intro a hS
    refine g_yes hS rfl rfl rfl rfl (l_quiet hS rfl rfl (y_leqN (i := c_.toNat) (j := 90) hS rfl rfl) ?_); clear hS a; intro a hS
    refine q_seq hS rfl rfl rfl (y_pick_t hS rfl rfl) ?_; clear hS a; intro a hS
    refine q_seq hS rfl rfl rfl (y_assign hS rfl) ?_; clear hS a; intro a hS
    apply wpList_nil
    refine p_norm ?_
    apply wp_ret
    obtain rfl := Option.some.inj hg
    refine fin1 (fn := Try.f24) hS rfl (r_tmp hS rfl) ?_
    exact rfl
  · have hs1e : decide ((65 : Nat) ≤ c_.toNat) = false := decide_eq_false hs1
    replace hg := br_f hg hs1
    apply wp_region_lit
    refine q_seq hS rfl rfl rfl (y_move hS rfl) ?_; clear hS a; intro a hS
    refine q_seq hS rfl rfl rfl (yl_b (y_geqN (i := c_.toNat) (j := 65) hS rfl rfl) hs1e) ?_; clear hS a; intro a hS
    refine q_seq hS rfl rfl rfl (y_move hS rfl) ?_; clear hS a; intro a hS
    refine g_no hS rfl rfl rfl rfl rfl rfl rfl ?_; clear hS a; intro a hS
    refine g_no hS rfl rfl rfl rfl rfl rfl rfl ?_; clear hS a; intro a hS
    refine q_seq hS rfl rfl rfl (y_pick_f hS rfl rfl) ?_; clear hS a; intro a hS
    refine q_seq hS rfl rfl rfl (y_assign hS rfl) ?_; clear hS a; intro a hS
    apply wpList_nil
    refine p_norm ?_
    apply wp_ret
    obtain rfl := Option.some.inj hg
    refine fin1 (fn := Try.f24) hS rfl (r_tmp hS rfl) ?_
    exact rfl
set_option maxHeartbeats 400000 in
theorem c_r27_part (n : Nat) (M : Bs) (w0 : World) (hM : ∀ b, M b → b < w0.heap.size) (c_ : UInt8) (r : Bool) (hg : r27_part n c_ = some r) :
    Calls Try.prog 25 [.int .u8 (((c_.toNat : Nat) : Int))].toArray w0 (Ret noB w0 fun v w => v = .bool (r)) := by
  unfold r27_part at hg
  refine enter M noB Try.func25 rfl rfl hM ?_
  intro a hS
  apply wp_seq
  apply wp_region_lit
  refine q_seq hS rfl rfl rfl (y_assign hS rfl) ?_; clear hS a; intro a hS
  apply wpList_nil
  refine p_norm ?_
  apply wp_seq
  rcases Decidable.em ((33 : Nat) ≤ c_.toNat) with hs1 | hs1
  · have hs1e : decide ((33 : Nat) ≤ c_.toNat) = true := decide_eq_true hs1
    replace hg := br_t hg hs1
    rcases Decidable.em (c_.toNat ≤ 126) with hs2 | hs2
    · have hs2e : decide (c_.toNat ≤ 126) = true := decide_eq_true hs2
      replace hg := br_t hg hs2
      replace hg := bind_some hg; obtain ⟨r3, hr3, hg⟩ := hg
      rcases Bool.eq_false_or_eq_true (!(r3)) with hs6 | hs6
      · replace hg := br_t hg hs6
        rcases Decidable.em (c_.toNat ≠ 34) with hs7 | hs7
        · have hs7e : decide (c_.toNat ≠ 34) = true := decide_eq_true hs7
          replace hg := br_t hg hs7
          apply wp_region_lit
          refine q_seq hS rfl rfl rfl (y_move hS rfl) ?_; clear hS a; intro a hS
          refine q_seq hS rfl rfl rfl (yl_b (y_geqN (i := c_.toNat) (j := 33) hS rfl rfl) hs1e) ?_; clear hS a; intro a hS
          refine q_seq hS rfl rfl rfl (y_move hS rfl) ?_; clear hS a; intro a hS
          refine g_yes hS rfl rfl rfl rfl (l_quiet hS rfl rfl (y_move hS rfl) ?_); clear hS a; intro a hS
          refine g_yes hS rfl rfl rfl rfl (l_quiet hS rfl rfl (yl_b (y_leqN (i := c_.toNat) (j := 126) hS rfl rfl) hs2e) ?_); clear hS a; intro a hS
          refine q_seq hS rfl rfl rfl (y_pick_t hS rfl rfl) ?_; clear hS a; intro a hS
          refine q_seq hS rfl rfl rfl (y_move hS rfl) ?_; clear hS a; intro a hS
          refine g_yes hS rfl rfl rfl rfl (l_quiet hS rfl rfl (y_move hS rfl) ?_); clear hS a; intro a hS
          refine g_yes hS rfl rfl rfl rfl (l_call (cap := []) hS rfl Try.func24 rfl (by kernel_rfl) rfl rfl (c_r27_upper n _ _ hS.lt c_ r3 hr3) ?_); clear hS a; intro v8 a w hK hp hS
          clear hK
          obtain rfl := hp
          refine g_yes hS rfl rfl rfl rfl (l_quiet hS rfl rfl (yl_b (y_not hS rfl) hs6) ?_); clear hS a; intro a hS
          refine q_seq hS rfl rfl rfl (y_pick_t hS rfl rfl) ?_; clear hS a; intro a hS
          refine q_seq hS rfl rfl rfl (y_move hS rfl) ?_; clear hS a; intro a hS
          refine g_yes hS rfl rfl rfl rfl (l_quiet hS rfl rfl (y_move hS rfl) ?_); clear hS a; intro a hS
          refine g_yes hS rfl rfl rfl rfl (l_quiet hS rfl rfl (yl_b (y_neqN (i := c_.toNat) (j := 34) hS rfl rfl) hs7e) ?_); clear hS a; intro a hS
          refine q_seq hS rfl rfl rfl (y_pick_t hS rfl rfl) ?_; clear hS a; intro a hS
          refine q_seq hS rfl rfl rfl (y_move hS rfl) ?_; clear hS a; intro a hS
          refine g_yes hS rfl rfl rfl rfl (l_quiet hS rfl rfl (y_move hS rfl) ?_); clear hS a; intro a hS
          refine g_yes hS rfl rfl rfl rfl (l_quiet hS rfl rfl (y_neqN (i := c_.toNat) (j := 92) hS rfl rfl) ?_); clear hS a; intro a hS
          refine q_seq hS rfl rfl rfl (y_pick_t hS rfl rfl) ?_; clear hS a; intro a hS
          refine q_seq hS rfl rfl rfl (y_assign hS rfl) ?_; clear hS a; intro a hS
          apply wpList_nil
          refine p_norm ?_
          apply wp_ret
          obtain rfl := Option.some.inj hg
          refine fin1 (fn := Try.f25) hS rfl (r_tmp hS rfl) ?_
          exact rfl
        · have hs7e : decide (c_.toNat ≠ 34) = false := decide_eq_false hs7
          replace hg := br_f hg hs7
          apply wp_region_lit
          refine q_seq hS rfl rfl rfl (y_move hS rfl) ?_; clear hS a; intro a hS
          refine q_seq hS rfl rfl rfl (yl_b (y_geqN (i := c_.toNat) (j := 33) hS rfl rfl) hs1e) ?_; clear hS a; intro a hS
          refine q_seq hS rfl rfl rfl (y_move hS rfl) ?_; clear hS a; intro a hS
          refine g_yes hS rfl rfl rfl rfl (l_quiet hS rfl rfl (y_move hS rfl) ?_); clear hS a; intro a hS
          refine g_yes hS rfl rfl rfl rfl (l_quiet hS rfl rfl (yl_b (y_leqN (i := c_.toNat) (j := 126) hS rfl rfl) hs2e) ?_); clear hS a; intro a hS
          refine q_seq hS rfl rfl rfl (y_pick_t hS rfl rfl) ?_; clear hS a; intro a hS
          refine q_seq hS rfl rfl rfl (y_move hS rfl) ?_; clear hS a; intro a hS
          refine g_yes hS rfl rfl rfl rfl (l_quiet hS rfl rfl (y_move hS rfl) ?_); clear hS a; intro a hS
          refine g_yes hS rfl rfl rfl rfl (l_call (cap := []) hS rfl Try.func24 rfl (by kernel_rfl) rfl rfl (c_r27_upper n _ _ hS.lt c_ r3 hr3) ?_); clear hS a; intro v10 a w hK hp hS
          clear hK
          obtain rfl := hp
          refine g_yes hS rfl rfl rfl rfl (l_quiet hS rfl rfl (yl_b (y_not hS rfl) hs6) ?_); clear hS a; intro a hS
          refine q_seq hS rfl rfl rfl (y_pick_t hS rfl rfl) ?_; clear hS a; intro a hS
          refine q_seq hS rfl rfl rfl (y_move hS rfl) ?_; clear hS a; intro a hS
          refine g_yes hS rfl rfl rfl rfl (l_quiet hS rfl rfl (y_move hS rfl) ?_); clear hS a; intro a hS
          refine g_yes hS rfl rfl rfl rfl (l_quiet hS rfl rfl (yl_b (y_neqN (i := c_.toNat) (j := 34) hS rfl rfl) hs7e) ?_); clear hS a; intro a hS
          refine q_seq hS rfl rfl rfl (y_pick_t hS rfl rfl) ?_; clear hS a; intro a hS
          refine q_seq hS rfl rfl rfl (y_move hS rfl) ?_; clear hS a; intro a hS
          refine g_no hS rfl rfl rfl rfl rfl rfl rfl ?_; clear hS a; intro a hS
          refine g_no hS rfl rfl rfl rfl rfl rfl rfl ?_; clear hS a; intro a hS
          refine q_seq hS rfl rfl rfl (y_pick_f hS rfl rfl) ?_; clear hS a; intro a hS
          refine q_seq hS rfl rfl rfl (y_assign hS rfl) ?_; clear hS a; intro a hS
          apply wpList_nil
          refine p_norm ?_
          apply wp_ret
          obtain rfl := Option.some.inj hg
          refine fin1 (fn := Try.f25) hS rfl (r_tmp hS rfl) ?_
          exact rfl
      · replace hg := br_f hg (by rw [hs6]; exact Bool.false_ne_true)
        apply wp_region_lit
        refine q_seq hS rfl rfl rfl (y_move hS rfl) ?_; clear hS a; intro a hS
        refine q_seq hS rfl rfl rfl (yl_b (y_geqN (i := c_.toNat) (j := 33) hS rfl rfl) hs1e) ?_; clear hS a; intro a hS
        refine q_seq hS rfl rfl rfl (y_move hS rfl) ?_; clear hS a; intro a hS
        refine g_yes hS rfl rfl rfl rfl (l_quiet hS rfl rfl (y_move hS rfl) ?_); clear hS a; intro a hS
        refine g_yes hS rfl rfl rfl rfl (l_quiet hS rfl rfl (yl_b (y_leqN (i := c_.toNat) (j := 126) hS rfl rfl) hs2e) ?_); clear hS a; intro a hS
        refine q_seq hS rfl rfl rfl (y_pick_t hS rfl rfl) ?_; clear hS a; intro a hS
        refine q_seq hS rfl rfl rfl (y_move hS rfl) ?_; clear hS a; intro a hS
        refine g_yes hS rfl rfl rfl rfl (l_quiet hS rfl rfl (y_move hS rfl) ?_); clear hS a; intro a hS
        refine g_yes hS rfl rfl rfl rfl (l_call (cap := []) hS rfl Try.func24 rfl (by kernel_rfl) rfl rfl (c_r27_upper n _ _ hS.lt c_ r3 hr3) ?_); clear hS a; intro v12 a w hK hp hS
        clear hK
        obtain rfl := hp
        refine g_yes hS rfl rfl rfl rfl (l_quiet hS rfl rfl (yl_b (y_not hS rfl) hs6) ?_); clear hS a; intro a hS
        refine q_seq hS rfl rfl rfl (y_pick_t hS rfl rfl) ?_; clear hS a; intro a hS
        refine q_seq hS rfl rfl rfl (y_move hS rfl) ?_; clear hS a; intro a hS
        refine g_no hS rfl rfl rfl rfl rfl rfl rfl ?_; clear hS a; intro a hS
        refine g_no hS rfl rfl rfl rfl rfl rfl rfl ?_; clear hS a; intro a hS
        refine q_seq hS rfl rfl rfl (y_pick_f hS rfl rfl) ?_; clear hS a; intro a hS
        refine q_seq hS rfl rfl rfl (y_move hS rfl) ?_; clear hS a; intro a hS
        refine g_no hS rfl rfl rfl rfl rfl rfl rfl ?_; clear hS a; intro a hS
        refine g_no hS rfl rfl rfl rfl rfl rfl rfl ?_; clear hS a; intro a hS
        refine q_seq hS rfl rfl rfl (y_pick_f hS rfl rfl) ?_; clear hS a; intro a hS
        refine q_seq hS rfl rfl rfl (y_assign hS rfl) ?_; clear hS a; intro a hS
        apply wpList_nil
        refine p_norm ?_
        apply wp_ret
        obtain rfl := Option.some.inj hg
        refine fin1 (fn := Try.f25) hS rfl (r_tmp hS rfl) ?_
        exact rfl
    · have hs2e : decide (c_.toNat ≤ 126) = false := decide_eq_false hs2
      replace hg := br_f hg hs2
      apply wp_region_lit
      refine q_seq hS rfl rfl rfl (y_move hS rfl) ?_; clear hS a; intro a hS
      refine q_seq hS rfl rfl rfl (yl_b (y_geqN (i := c_.toNat) (j := 33) hS rfl rfl) hs1e) ?_; clear hS a; intro a hS
      refine q_seq hS rfl rfl rfl (y_move hS rfl) ?_; clear hS a; intro a hS
      refine g_yes hS rfl rfl rfl rfl (l_quiet hS rfl rfl (y_move hS rfl) ?_); clear hS a; intro a hS
      refine g_yes hS rfl rfl rfl rfl (l_quiet hS rfl rfl (yl_b (y_leqN (i := c_.toNat) (j := 126) hS rfl rfl) hs2e) ?_); clear hS a; intro a hS
      refine q_seq hS rfl rfl rfl (y_pick_t hS rfl rfl) ?_; clear hS a; intro a hS
      refine q_seq hS rfl rfl rfl (y_move hS rfl) ?_; clear hS a; intro a hS
      refine g_no hS rfl rfl rfl rfl rfl rfl rfl ?_; clear hS a; intro a hS
      refine g_no hS rfl rfl rfl rfl rfl rfl rfl ?_; clear hS a; intro a hS
      refine g_no hS rfl rfl rfl rfl rfl rfl rfl ?_; clear hS a; intro a hS
      refine q_seq hS rfl rfl rfl (y_pick_f hS rfl rfl) ?_; clear hS a; intro a hS
      refine q_seq hS rfl rfl rfl (y_move hS rfl) ?_; clear hS a; intro a hS
      refine g_no hS rfl rfl rfl rfl rfl rfl rfl ?_; clear hS a; intro a hS
      refine g_no hS rfl rfl rfl rfl rfl rfl rfl ?_; clear hS a; intro a hS
      refine q_seq hS rfl rfl rfl (y_pick_f hS rfl rfl) ?_; clear hS a; intro a hS
      refine q_seq hS rfl rfl rfl (y_move hS rfl) ?_; clear hS a; intro a hS
      refine g_no hS rfl rfl rfl rfl rfl rfl rfl ?_; clear hS a; intro a hS
      refine g_no hS rfl rfl rfl rfl rfl rfl rfl ?_; clear hS a; intro a hS
      refine q_seq hS rfl rfl rfl (y_pick_f hS rfl rfl) ?_; clear hS a; intro a hS
      refine q_seq hS rfl rfl rfl (y_assign hS rfl) ?_; clear hS a; intro a hS
      apply wpList_nil
      refine p_norm ?_
      apply wp_ret
      obtain rfl := Option.some.inj hg
      refine fin1 (fn := Try.f25) hS rfl (r_tmp hS rfl) ?_
      exact rfl
  · have hs1e : decide ((33 : Nat) ≤ c_.toNat) = false := decide_eq_false hs1
    replace hg := br_f hg hs1
    apply wp_region_lit
    refine q_seq hS rfl rfl rfl (y_move hS rfl) ?_; clear hS a; intro a hS
    refine q_seq hS rfl rfl rfl (yl_b (y_geqN (i := c_.toNat) (j := 33) hS rfl rfl) hs1e) ?_; clear hS a; intro a hS
    refine q_seq hS rfl rfl rfl (y_move hS rfl) ?_; clear hS a; intro a hS
    refine g_no hS rfl rfl rfl rfl rfl rfl rfl ?_; clear hS a; intro a hS
    refine g_no hS rfl rfl rfl rfl rfl rfl rfl ?_; clear hS a; intro a hS
    refine q_seq hS rfl rfl rfl (y_pick_f hS rfl rfl) ?_; clear hS a; intro a hS
    refine q_seq hS rfl rfl rfl (y_move hS rfl) ?_; clear hS a; intro a hS
    refine g_no hS rfl rfl rfl rfl rfl rfl rfl ?_; clear hS a; intro a hS
    refine g_no hS rfl rfl rfl rfl rfl rfl rfl ?_; clear hS a; intro a hS
    refine g_no hS rfl rfl rfl rfl rfl rfl rfl ?_; clear hS a; intro a hS
    refine q_seq hS rfl rfl rfl (y_pick_f hS rfl rfl) ?_; clear hS a; intro a hS
    refine q_seq hS rfl rfl rfl (y_move hS rfl) ?_; clear hS a; intro a hS
    refine g_no hS rfl rfl rfl rfl rfl rfl rfl ?_; clear hS a; intro a hS
    refine g_no hS rfl rfl rfl rfl rfl rfl rfl ?_; clear hS a; intro a hS
    refine q_seq hS rfl rfl rfl (y_pick_f hS rfl rfl) ?_; clear hS a; intro a hS
    refine q_seq hS rfl rfl rfl (y_move hS rfl) ?_; clear hS a; intro a hS
    refine g_no hS rfl rfl rfl rfl rfl rfl rfl ?_; clear hS a; intro a hS
    refine g_no hS rfl rfl rfl rfl rfl rfl rfl ?_; clear hS a; intro a hS
    refine q_seq hS rfl rfl rfl (y_pick_f hS rfl rfl) ?_; clear hS a; intro a hS
    refine q_seq hS rfl rfl rfl (y_assign hS rfl) ?_; clear hS a; intro a hS
    apply wpList_nil
    refine p_norm ?_
    apply wp_ret
    obtain rfl := Option.some.inj hg
    refine fin1 (fn := Try.f25) hS rfl (r_tmp hS rfl) ?_
    exact rfl
set_option maxHeartbeats 400000 in
theorem c_r27_marked (n : Nat) (M : Bs) (w0 : World) (hM : ∀ b, M b → b < w0.heap.size) (c_ : UInt8) (r : Bool) (hg : r27_marked n c_ = some r) :
    Calls Try.prog 30 [.int .u8 (((c_.toNat : Nat) : Int))].toArray w0 (Ret noB w0 fun v w => v = .bool (r)) := by
  unfold r27_marked at hg
  refine enter M noB Try.func30 rfl rfl hM ?_
  intro a hS
  apply wp_seq
  apply wp_region_lit
  refine q_seq hS rfl rfl rfl (y_assign hS rfl) ?_; clear hS a; intro a hS
  apply wpList_nil
  refine p_norm ?_
  apply wp_seq
  rcases Decidable.em (c_.toNat = 46) with hs1 | hs1
  · have hs1e : decide (c_.toNat = 46) = true := decide_eq_true hs1
    replace hg := br_t hg hs1
    apply wp_region_lit
    refine q_seq hS rfl rfl rfl (y_move hS rfl) ?_; clear hS a; intro a hS
    refine q_seq hS rfl rfl rfl (yl_b (y_eqlN (i := c_.toNat) (j := 46) hS rfl rfl) hs1e) ?_; clear hS a; intro a hS
    refine q_seq hS rfl rfl rfl (y_move hS rfl) ?_; clear hS a; intro a hS
    refine g_no hS rfl rfl rfl rfl rfl rfl rfl ?_; clear hS a; intro a hS
    refine g_no hS rfl rfl rfl rfl rfl rfl rfl ?_; clear hS a; intro a hS
    refine q_seq hS rfl rfl rfl (y_pick_t hS rfl rfl) ?_; clear hS a; intro a hS
    refine q_seq hS rfl rfl rfl (y_move hS rfl) ?_; clear hS a; intro a hS
    refine g_no hS rfl rfl rfl rfl rfl rfl rfl ?_; clear hS a; intro a hS
    refine g_no hS rfl rfl rfl rfl rfl rfl rfl ?_; clear hS a; intro a hS
    refine q_seq hS rfl rfl rfl (y_pick_t hS rfl rfl) ?_; clear hS a; intro a hS
    refine q_seq hS rfl rfl rfl (y_move hS rfl) ?_; clear hS a; intro a hS
    refine g_no hS rfl rfl rfl rfl rfl rfl rfl ?_; clear hS a; intro a hS
    refine g_no hS rfl rfl rfl rfl rfl rfl rfl ?_; clear hS a; intro a hS
    refine q_seq hS rfl rfl rfl (y_pick_t hS rfl rfl) ?_; clear hS a; intro a hS
    refine q_seq hS rfl rfl rfl (y_move hS rfl) ?_; clear hS a; intro a hS
    refine g_no hS rfl rfl rfl rfl rfl rfl rfl ?_; clear hS a; intro a hS
    refine g_no hS rfl rfl rfl rfl rfl rfl rfl ?_; clear hS a; intro a hS
    refine q_seq hS rfl rfl rfl (y_pick_t hS rfl rfl) ?_; clear hS a; intro a hS
    refine q_seq hS rfl rfl rfl (y_move hS rfl) ?_; clear hS a; intro a hS
    refine g_no hS rfl rfl rfl rfl rfl rfl rfl ?_; clear hS a; intro a hS
    refine g_no hS rfl rfl rfl rfl rfl rfl rfl ?_; clear hS a; intro a hS
    refine q_seq hS rfl rfl rfl (y_pick_t hS rfl rfl) ?_; clear hS a; intro a hS
    refine q_seq hS rfl rfl rfl (y_assign hS rfl) ?_; clear hS a; intro a hS
    apply wpList_nil
    refine p_norm ?_
    apply wp_ret
    obtain rfl := Option.some.inj hg
    refine fin1 (fn := Try.f30) hS rfl (r_tmp hS rfl) ?_
    exact rfl
  · have hs1e : decide (c_.toNat = 46) = false := decide_eq_false hs1
    replace hg := br_f hg hs1
    rcases Decidable.em (c_.toNat = 44) with hs2 | hs2
    · have hs2e : decide (c_.toNat = 44) = true := decide_eq_true hs2
      replace hg := br_t hg hs2
      apply wp_region_lit
      refine q_seq hS rfl rfl rfl (y_move hS rfl) ?_; clear hS a; intro a hS
      refine q_seq hS rfl rfl rfl (yl_b (y_eqlN (i := c_.toNat) (j := 46) hS rfl rfl) hs1e) ?_; clear hS a; intro a hS
      refine q_seq hS rfl rfl rfl (y_move hS rfl) ?_; clear hS a; intro a hS
      refine g_yes hS rfl rfl rfl rfl (l_quiet hS rfl rfl (y_move hS rfl) ?_); clear hS a; intro a hS
      refine g_yes hS rfl rfl rfl rfl (l_quiet hS rfl rfl (yl_b (y_eqlN (i := c_.toNat) (j := 44) hS rfl rfl) hs2e) ?_); clear hS a; intro a hS
      refine q_seq hS rfl rfl rfl (y_pick_f hS rfl rfl) ?_; clear hS a; intro a hS
      refine q_seq hS rfl rfl rfl (y_move hS rfl) ?_; clear hS a; intro a hS
      refine g_no hS rfl rfl rfl rfl rfl rfl rfl ?_; clear hS a; intro a hS
      refine g_no hS rfl rfl rfl rfl rfl rfl rfl ?_; clear hS a; intro a hS
      refine q_seq hS rfl rfl rfl (y_pick_t hS rfl rfl) ?_; clear hS a; intro a hS
      refine q_seq hS rfl rfl rfl (y_move hS rfl) ?_; clear hS a; intro a hS
      refine g_no hS rfl rfl rfl rfl rfl rfl rfl ?_; clear hS a; intro a hS
      refine g_no hS rfl rfl rfl rfl rfl rfl rfl ?_; clear hS a; intro a hS
      refine q_seq hS rfl rfl rfl (y_pick_t hS rfl rfl) ?_; clear hS a; intro a hS
      refine q_seq hS rfl rfl rfl (y_move hS rfl) ?_; clear hS a; intro a hS
      refine g_no hS rfl rfl rfl rfl rfl rfl rfl ?_; clear hS a; intro a hS
      refine g_no hS rfl rfl rfl rfl rfl rfl rfl ?_; clear hS a; intro a hS
      refine q_seq hS rfl rfl rfl (y_pick_t hS rfl rfl) ?_; clear hS a; intro a hS
      refine q_seq hS rfl rfl rfl (y_move hS rfl) ?_; clear hS a; intro a hS
      refine g_no hS rfl rfl rfl rfl rfl rfl rfl ?_; clear hS a; intro a hS
      refine g_no hS rfl rfl rfl rfl rfl rfl rfl ?_; clear hS a; intro a hS
      refine q_seq hS rfl rfl rfl (y_pick_t hS rfl rfl) ?_; clear hS a; intro a hS
      refine q_seq hS rfl rfl rfl (y_assign hS rfl) ?_; clear hS a; intro a hS
      apply wpList_nil
      refine p_norm ?_
      apply wp_ret
      obtain rfl := Option.some.inj hg
      refine fin1 (fn := Try.f30) hS rfl (r_tmp hS rfl) ?_
      exact rfl
    · have hs2e : decide (c_.toNat = 44) = false := decide_eq_false hs2
      replace hg := br_f hg hs2
      rcases Decidable.em (c_.toNat = 63) with hs3 | hs3
      · have hs3e : decide (c_.toNat = 63) = true := decide_eq_true hs3
        replace hg := br_t hg hs3
        apply wp_region_lit
        refine q_seq hS rfl rfl rfl (y_move hS rfl) ?_; clear hS a; intro a hS
        refine q_seq hS rfl rfl rfl (yl_b (y_eqlN (i := c_.toNat) (j := 46) hS rfl rfl) hs1e) ?_; clear hS a; intro a hS
        refine q_seq hS rfl rfl rfl (y_move hS rfl) ?_; clear hS a; intro a hS
        refine g_yes hS rfl rfl rfl rfl (l_quiet hS rfl rfl (y_move hS rfl) ?_); clear hS a; intro a hS
        refine g_yes hS rfl rfl rfl rfl (l_quiet hS rfl rfl (yl_b (y_eqlN (i := c_.toNat) (j := 44) hS rfl rfl) hs2e) ?_); clear hS a; intro a hS
        refine q_seq hS rfl rfl rfl (y_pick_f hS rfl rfl) ?_; clear hS a; intro a hS
        refine q_seq hS rfl rfl rfl (y_move hS rfl) ?_; clear hS a; intro a hS
        refine g_yes hS rfl rfl rfl rfl (l_quiet hS rfl rfl (y_move hS rfl) ?_); clear hS a; intro a hS
        refine g_yes hS rfl rfl rfl rfl (l_quiet hS rfl rfl (yl_b (y_eqlN (i := c_.toNat) (j := 63) hS rfl rfl) hs3e) ?_); clear hS a; intro a hS
        refine q_seq hS rfl rfl rfl (y_pick_f hS rfl rfl) ?_; clear hS a; intro a hS
        refine q_seq hS rfl rfl rfl (y_move hS rfl) ?_; clear hS a; intro a hS
        refine g_no hS rfl rfl rfl rfl rfl rfl rfl ?_; clear hS a; intro a hS
        refine g_no hS rfl rfl rfl rfl rfl rfl rfl ?_; clear hS a; intro a hS
        refine q_seq hS rfl rfl rfl (y_pick_t hS rfl rfl) ?_; clear hS a; intro a hS
        refine q_seq hS rfl rfl rfl (y_move hS rfl) ?_; clear hS a; intro a hS
        refine g_no hS rfl rfl rfl rfl rfl rfl rfl ?_; clear hS a; intro a hS
        refine g_no hS rfl rfl rfl rfl rfl rfl rfl ?_; clear hS a; intro a hS
        refine q_seq hS rfl rfl rfl (y_pick_t hS rfl rfl) ?_; clear hS a; intro a hS
        refine q_seq hS rfl rfl rfl (y_move hS rfl) ?_; clear hS a; intro a hS
        refine g_no hS rfl rfl rfl rfl rfl rfl rfl ?_; clear hS a; intro a hS
        refine g_no hS rfl rfl rfl rfl rfl rfl rfl ?_; clear hS a; intro a hS
        refine q_seq hS rfl rfl rfl (y_pick_t hS rfl rfl) ?_; clear hS a; intro a hS
        refine q_seq hS rfl rfl rfl (y_assign hS rfl) ?_; clear hS a; intro a hS
        apply wpList_nil
        refine p_norm ?_
        apply wp_ret
        obtain rfl := Option.some.inj hg
        refine fin1 (fn := Try.f30) hS rfl (r_tmp hS rfl) ?_
        exact rfl
      · have hs3e : decide (c_.toNat = 63) = false := decide_eq_false hs3
        replace hg := br_f hg hs3
        rcases Decidable.em (c_.toNat = 33) with hs4 | hs4
        · have hs4e : decide (c_.toNat = 33) = true := decide_eq_true hs4
          replace hg := br_t hg hs4
          apply wp_region_lit
          refine q_seq hS rfl rfl rfl (y_move hS rfl) ?_; clear hS a; intro a hS
          refine q_seq hS rfl rfl rfl (yl_b (y_eqlN (i := c_.toNat) (j := 46) hS rfl rfl) hs1e) ?_; clear hS a; intro a hS
          refine q_seq hS rfl rfl rfl (y_move hS rfl) ?_; clear hS a; intro a hS
          refine g_yes hS rfl rfl rfl rfl (l_quiet hS rfl rfl (y_move hS rfl) ?_); clear hS a; intro a hS
          refine g_yes hS rfl rfl rfl rfl (l_quiet hS rfl rfl (yl_b (y_eqlN (i := c_.toNat) (j := 44) hS rfl rfl) hs2e) ?_); clear hS a; intro a hS
          refine q_seq hS rfl rfl rfl (y_pick_f hS rfl rfl) ?_; clear hS a; intro a hS
          refine q_seq hS rfl rfl rfl (y_move hS rfl) ?_; clear hS a; intro a hS
          refine g_yes hS rfl rfl rfl rfl (l_quiet hS rfl rfl (y_move hS rfl) ?_); clear hS a; intro a hS
          refine g_yes hS rfl rfl rfl rfl (l_quiet hS rfl rfl (yl_b (y_eqlN (i := c_.toNat) (j := 63) hS rfl rfl) hs3e) ?_); clear hS a; intro a hS
          refine q_seq hS rfl rfl rfl (y_pick_f hS rfl rfl) ?_; clear hS a; intro a hS
          refine q_seq hS rfl rfl rfl (y_move hS rfl) ?_; clear hS a; intro a hS
          refine g_yes hS rfl rfl rfl rfl (l_quiet hS rfl rfl (y_move hS rfl) ?_); clear hS a; intro a hS
          refine g_yes hS rfl rfl rfl rfl (l_quiet hS rfl rfl (yl_b (y_eqlN (i := c_.toNat) (j := 33) hS rfl rfl) hs4e) ?_); clear hS a; intro a hS
          refine q_seq hS rfl rfl rfl (y_pick_f hS rfl rfl) ?_; clear hS a; intro a hS
          refine q_seq hS rfl rfl rfl (y_move hS rfl) ?_; clear hS a; intro a hS
          refine g_no hS rfl rfl rfl rfl rfl rfl rfl ?_; clear hS a; intro a hS
          refine g_no hS rfl rfl rfl rfl rfl rfl rfl ?_; clear hS a; intro a hS
          refine q_seq hS rfl rfl rfl (y_pick_t hS rfl rfl) ?_; clear hS a; intro a hS
          refine q_seq hS rfl rfl rfl (y_move hS rfl) ?_; clear hS a; intro a hS
          refine g_no hS rfl rfl rfl rfl rfl rfl rfl ?_; clear hS a; intro a hS
          refine g_no hS rfl rfl rfl rfl rfl rfl rfl ?_; clear hS a; intro a hS
          refine q_seq hS rfl rfl rfl (y_pick_t hS rfl rfl) ?_; clear hS a; intro a hS
          refine q_seq hS rfl rfl rfl (y_assign hS rfl) ?_; clear hS a; intro a hS
          apply wpList_nil
          refine p_norm ?_
          apply wp_ret
          obtain rfl := Option.some.inj hg
          refine fin1 (fn := Try.f30) hS rfl (r_tmp hS rfl) ?_
          exact rfl
        · have hs4e : decide (c_.toNat = 33) = false := decide_eq_false hs4
          replace hg := br_f hg hs4
          rcases Decidable.em (c_.toNat = 59) with hs5 | hs5
          · have hs5e : decide (c_.toNat = 59) = true := decide_eq_true hs5
            replace hg := br_t hg hs5
            apply wp_region_lit
            refine q_seq hS rfl rfl rfl (y_move hS rfl) ?_; clear hS a; intro a hS
            refine q_seq hS rfl rfl rfl (yl_b (y_eqlN (i := c_.toNat) (j := 46) hS rfl rfl) hs1e) ?_; clear hS a; intro a hS
            refine q_seq hS rfl rfl rfl (y_move hS rfl) ?_; clear hS a; intro a hS
            refine g_yes hS rfl rfl rfl rfl (l_quiet hS rfl rfl (y_move hS rfl) ?_); clear hS a; intro a hS
            refine g_yes hS rfl rfl rfl rfl (l_quiet hS rfl rfl (yl_b (y_eqlN (i := c_.toNat) (j := 44) hS rfl rfl) hs2e) ?_); clear hS a; intro a hS
            refine q_seq hS rfl rfl rfl (y_pick_f hS rfl rfl) ?_; clear hS a; intro a hS
            refine q_seq hS rfl rfl rfl (y_move hS rfl) ?_; clear hS a; intro a hS
            refine g_yes hS rfl rfl rfl rfl (l_quiet hS rfl rfl (y_move hS rfl) ?_); clear hS a; intro a hS
            refine g_yes hS rfl rfl rfl rfl (l_quiet hS rfl rfl (yl_b (y_eqlN (i := c_.toNat) (j := 63) hS rfl rfl) hs3e) ?_); clear hS a; intro a hS
            refine q_seq hS rfl rfl rfl (y_pick_f hS rfl rfl) ?_; clear hS a; intro a hS
            refine q_seq hS rfl rfl rfl (y_move hS rfl) ?_; clear hS a; intro a hS
            refine g_yes hS rfl rfl rfl rfl (l_quiet hS rfl rfl (y_move hS rfl) ?_); clear hS a; intro a hS
            refine g_yes hS rfl rfl rfl rfl (l_quiet hS rfl rfl (yl_b (y_eqlN (i := c_.toNat) (j := 33) hS rfl rfl) hs4e) ?_); clear hS a; intro a hS
            refine q_seq hS rfl rfl rfl (y_pick_f hS rfl rfl) ?_; clear hS a; intro a hS
            refine q_seq hS rfl rfl rfl (y_move hS rfl) ?_; clear hS a; intro a hS
            refine g_yes hS rfl rfl rfl rfl (l_quiet hS rfl rfl (y_move hS rfl) ?_); clear hS a; intro a hS
            refine g_yes hS rfl rfl rfl rfl (l_quiet hS rfl rfl (yl_b (y_eqlN (i := c_.toNat) (j := 59) hS rfl rfl) hs5e) ?_); clear hS a; intro a hS
            refine q_seq hS rfl rfl rfl (y_pick_f hS rfl rfl) ?_; clear hS a; intro a hS
            refine q_seq hS rfl rfl rfl (y_move hS rfl) ?_; clear hS a; intro a hS
            refine g_no hS rfl rfl rfl rfl rfl rfl rfl ?_; clear hS a; intro a hS
            refine g_no hS rfl rfl rfl rfl rfl rfl rfl ?_; clear hS a; intro a hS
            refine q_seq hS rfl rfl rfl (y_pick_t hS rfl rfl) ?_; clear hS a; intro a hS
            refine q_seq hS rfl rfl rfl (y_assign hS rfl) ?_; clear hS a; intro a hS
            apply wpList_nil
            refine p_norm ?_
            apply wp_ret
            obtain rfl := Option.some.inj hg
            refine fin1 (fn := Try.f30) hS rfl (r_tmp hS rfl) ?_
            exact rfl
          · have hs5e : decide (c_.toNat = 59) = false := decide_eq_false hs5
            replace hg := br_f hg hs5
            apply wp_region_lit
            refine q_seq hS rfl rfl rfl (y_move hS rfl) ?_; clear hS a; intro a hS
            refine q_seq hS rfl rfl rfl (yl_b (y_eqlN (i := c_.toNat) (j := 46) hS rfl rfl) hs1e) ?_; clear hS a; intro a hS
            refine q_seq hS rfl rfl rfl (y_move hS rfl) ?_; clear hS a; intro a hS
            refine g_yes hS rfl rfl rfl rfl (l_quiet hS rfl rfl (y_move hS rfl) ?_); clear hS a; intro a hS
            refine g_yes hS rfl rfl rfl rfl (l_quiet hS rfl rfl (yl_b (y_eqlN (i := c_.toNat) (j := 44) hS rfl rfl) hs2e) ?_); clear hS a; intro a hS
            refine q_seq hS rfl rfl rfl (y_pick_f hS rfl rfl) ?_; clear hS a; intro a hS
            refine q_seq hS rfl rfl rfl (y_move hS rfl) ?_; clear hS a; intro a hS
            refine g_yes hS rfl rfl rfl rfl (l_quiet hS rfl rfl (y_move hS rfl) ?_); clear hS a; intro a hS
            refine g_yes hS rfl rfl rfl rfl (l_quiet hS rfl rfl (yl_b (y_eqlN (i := c_.toNat) (j := 63) hS rfl rfl) hs3e) ?_); clear hS a; intro a hS
            refine q_seq hS rfl rfl rfl (y_pick_f hS rfl rfl) ?_; clear hS a; intro a hS
            refine q_seq hS rfl rfl rfl (y_move hS rfl) ?_; clear hS a; intro a hS
            refine g_yes hS rfl rfl rfl rfl (l_quiet hS rfl rfl (y_move hS rfl) ?_); clear hS a; intro a hS
            refine g_yes hS rfl rfl rfl rfl (l_quiet hS rfl rfl (yl_b (y_eqlN (i := c_.toNat) (j := 33) hS rfl rfl) hs4e) ?_); clear hS a; intro a hS
            refine q_seq hS rfl rfl rfl (y_pick_f hS rfl rfl) ?_; clear hS a; intro a hS
            refine q_seq hS rfl rfl rfl (y_move hS rfl) ?_; clear hS a; intro a hS
            refine g_yes hS rfl rfl rfl rfl (l_quiet hS rfl rfl (y_move hS rfl) ?_); clear hS a; intro a hS
            refine g_yes hS rfl rfl rfl rfl (l_quiet hS rfl rfl (yl_b (y_eqlN (i := c_.toNat) (j := 59) hS rfl rfl) hs5e) ?_); clear hS a; intro a hS
            refine q_seq hS rfl rfl rfl (y_pick_f hS rfl rfl) ?_; clear hS a; intro a hS
            refine q_seq hS rfl rfl rfl (y_move hS rfl) ?_; clear hS a; intro a hS
            refine g_yes hS rfl rfl rfl rfl (l_quiet hS rfl rfl (y_move hS rfl) ?_); clear hS a; intro a hS
            refine g_yes hS rfl rfl rfl rfl (l_quiet hS rfl rfl (y_eqlN (i := c_.toNat) (j := 58) hS rfl rfl) ?_); clear hS a; intro a hS
            refine q_seq hS rfl rfl rfl (y_pick_f hS rfl rfl) ?_; clear hS a; intro a hS
            refine q_seq hS rfl rfl rfl (y_assign hS rfl) ?_; clear hS a; intro a hS
            apply wpList_nil
            refine p_norm ?_
            apply wp_ret
            obtain rfl := Option.some.inj hg
            refine fin1 (fn := Try.f30) hS rfl (r_tmp hS rfl) ?_
            exact rfl
set_option maxHeartbeats 400000 in
theorem c_r27_small (n : Nat) (M : Bs) (w0 : World) (hM : ∀ b, M b → b < w0.heap.size) (c_ : UInt8) (r : (List UInt8)) (hg : r27_small n c_ = some r) :
    Calls Try.prog 31 [.int .u8 (((c_.toNat : Nat) : Int))].toArray w0 (Ret noB w0 fun v w => v = .string (bs (r)) ∧ ((r).length ≤ 9223372036854775807)) := by
  unfold r27_small at hg
  refine enter M noB Try.func31 rfl rfl hM ?_
  intro a hS
  apply wp_seq
  apply wp_region_lit
  refine q_seq hS rfl rfl rfl (y_assign hS rfl) ?_; clear hS a; intro a hS
  apply wpList_nil
  refine p_norm ?_
  apply wp_seq
  apply wp_seq
  replace hg := bind_some hg; obtain ⟨r1, hr1, hg⟩ := hg
  apply wp_region_lit
  refine q_seq hS rfl rfl rfl (y_move hS rfl) ?_; clear hS a; intro a hS
  refine l_seq rfl (l_call (cap := []) hS rfl Try.func24 rfl (by kernel_rfl) rfl rfl (c_r27_upper n _ _ hS.lt c_ r1 hr1) ?_); clear hS a; intro v4 a w hK hp hS
  clear hK
  obtain rfl := hp
  apply wpList_nil
  refine p_norm ?_
  refine c_cond hS rfl (fun hc6 => ?_) (fun hc6 => ?_)
  · replace hg := br_t hg hc6
    apply wp_seq
    apply wp_region_lit
    refine q_seq hS rfl rfl rfl (y_move hS rfl) ?_; clear hS a; intro a hS
    refine q_seq hS rfl rfl rfl (y_addU8 (p := c_) (q := (97 : UInt8)) hS rfl rfl) ?_; clear hS a; intro a hS
    refine q_seq hS rfl rfl rfl (y_subU8 (p := (c_ + (97 : UInt8))) (q := (65 : UInt8)) hS rfl rfl) ?_; clear hS a; intro a hS
    refine l_seq rfl (l_buildDense (sz := 1) hS 1203 rfl rfl rfl Try.underlying35 rfl rfl rfl rfl rfl rfl rfl ?_); clear hS a; intro b8 a w hbb8 hK hS
    clear hbb8
    clear hK
    replace hS := hS.add 102 (rdF Rep.u8 (cellsOfL [.int .u8 (((((c_ + (97 : UInt8)) - (65 : UInt8)).toNat : Nat) : Int))]) ([(c_ + (97 : UInt8)) - (65 : UInt8)])) (RdAll.cons (by exact rfl) (RdAll.nil _ _ _))
    have hbl := row_len1 (hS.wd.holds 1203 _ rfl) (hS.fact (k := 102) rfl)
    refine q_seq hS rfl rfl rfl (y_bytesRow (kk := 1203) hS rfl rfl (hS.fact (k := 102) rfl) Try.underlying35 Try.underlying5 Try.underlying9) ?_; clear hS a; intro a hS
    refine q_seq hS rfl rfl rfl (y_assign hS rfl) ?_; clear hS a; intro a hS
    apply wpList_nil
    refine p_norm ?_
    apply wp_ret
    refine p_thenR ?_
    obtain rfl := Option.some.inj hg
    refine fin1 (fn := Try.f31) hS rfl (r_tmp hS rfl) ?_
    exact ⟨rfl, (by first | omega | (simp only [List.length_append]; omega) | (simp only [List.length_append, List.length_take, List.length_drop, List.length_cons, List.length_nil]; omega))⟩
  · replace hg := br_f hg (by rw [hc6]; exact Bool.false_ne_true)
    apply wp_skip
    refine p_norm ?_
    apply wp_seq
    apply wp_region_lit
    refine q_seq hS rfl rfl rfl (y_move hS rfl) ?_; clear hS a; intro a hS
    refine l_seq rfl (l_buildDense (sz := 1) hS 1301 rfl rfl rfl Try.underlying35 rfl rfl rfl rfl rfl rfl rfl ?_); clear hS a; intro b10 a w hbb10 hK hS
    clear hbb10
    clear hK
    replace hS := hS.add 104 (rdF Rep.u8 (cellsOfL [.int .u8 (((c_.toNat : Nat) : Int))]) ([c_])) (RdAll.cons (by exact rfl) (RdAll.nil _ _ _))
    have hbl := row_len1 (hS.wd.holds 1301 _ rfl) (hS.fact (k := 104) rfl)
    refine q_seq hS rfl rfl rfl (y_bytesRow (kk := 1301) hS rfl rfl (hS.fact (k := 104) rfl) Try.underlying35 Try.underlying5 Try.underlying9) ?_; clear hS a; intro a hS
    refine q_seq hS rfl rfl rfl (y_assign hS rfl) ?_; clear hS a; intro a hS
    apply wpList_nil
    refine p_norm ?_
    apply wp_ret
    obtain rfl := Option.some.inj hg
    refine fin1 (fn := Try.f31) hS rfl (r_tmp hS rfl) ?_
    exact ⟨rfl, (by first | omega | (simp only [List.length_append]; omega) | (simp only [List.length_append, List.length_take, List.length_drop, List.length_cons, List.length_nil]; omega))⟩
set_option maxHeartbeats 400000 in
theorem c_r27_divided (n : Nat) (M : Bs) (w0 : World) (hM : ∀ b, M b → b < w0.heap.size) (s_ : (List UInt8)) (lp01 : (s_).length ≤ 9223372036854775807) (r : (List (List UInt8))) (hg : r27_divided n s_ = some r) :
    Calls Try.prog 26 [.string (bs (s_))].toArray w0 (Ret noB w0 fun v w => ∃ (Aa1 : Option Addr), ∃ (ca1 : Nat), v = .slice (Aa1) ((r).length) (ca1) ∧ (SlR Rep.str M w Aa1 (r).length ca1 (r))) := by
  unfold r27_divided at hg
  refine enter M noB Try.func26 rfl rfl hM ?_
  intro a hS
  apply wp_seq
  apply wp_region_lit
  refine q_seq hS rfl rfl rfl (y_assign hS rfl) ?_; clear hS a; intro a hS
  apply wpList_nil
  refine p_norm ?_
  apply wp_seq
  apply wp_region_lit
  refine q_seq hS rfl rfl rfl (y_assign hS rfl) ?_; clear hS a; intro a hS
  apply wpList_nil
  refine p_norm ?_
  apply wp_seq
  apply wp_region_lit
  refine q_seq hS rfl rfl rfl (y_assign hS rfl) ?_; clear hS a; intro a hS
  apply wpList_nil
  refine p_norm ?_
  apply wp_seq
  apply wp_seq
  apply wp_region_lit
  refine q_seq hS rfl rfl rfl (y_assign hS rfl) ?_; clear hS a; intro a hS
  apply wpList_nil
  refine p_norm ?_
  replace hg := jn_some hg; obtain ⟨k1, hg, hk1⟩ := hg
  refine c_post (fun a w => ∃ (out_2 : (List (List UInt8))), ∃ (word_6 : (List UInt8)), ∃ (A3 : Option Addr), ∃ (c4 : Nat), ∃ (cs5 : List Value), k1 out_2 word_6 = some r ∧ ((word_6).length ≤ 9223372036854775807) ∧ St (⟨Try.f26.ntmps, M, noB, w0⟩ : Ctx) [(3, .slice (A3) ((out_2).length) (c4)), (4, .string (bs (word_6)))] [(700101, Ob.row (A3) ((out_2).length) (c4) 9 1 (cs5))] [(102, rdF Rep.str (cs5) (out_2))] a w) ?_ ?_
  · apply wp_block
    replace hS := hS.nilRow 700103 9 1 rfl
    replace hS := hS.add 104 (rdF Rep.str [] []) (RdAll.nil _ _ _)
    refine c_loop (σ := Nat) (fun m1 a w => ∃ (out_7 : (List (List UInt8))), ∃ (word_11 : (List UInt8)), ∃ (i_12 : Nat), ∃ (A8 : Option Addr), ∃ (c9 : Nat), ∃ (cs10 : List Value), r27_divided_L0 n s_ k1 m1 out_7 word_11 i_12 = some r ∧ ((word_11).length ≤ 9223372036854775807) ∧ St (⟨Try.f26.ntmps, M, noB, w0⟩ : Ctx) [(0, .string (bs (s_))), (3, .slice (A8) ((out_7).length) (c9)), (4, .string (bs (word_11))), (5, .int .i64 (((i_12 : Nat) : Int)))] [(700103, Ob.row (A8) ((out_7).length) (c9) 9 1 (cs10))] [(104, rdF Rep.str (cs10) (out_7))] a w) (fun m1 => m1) n ⟨([]), ([]), (0), (none), (0), ([]), hg, (by first | omega | (simp only [List.length_append]; omega) | (simp only [List.length_append, List.length_take, List.length_drop, List.length_cons, List.length_nil]; omega)), (hS.sub ⟨rfl, rfl, rfl, rfl, trivial⟩ ⟨rfl, trivial⟩ ⟨rfl, trivial⟩)⟩ ?_
    clear hS a; rintro m1 a w ⟨out_7, word_11, i_12, A8, c9, cs10, hg, lword_11, hS⟩
    rcases m1 with _ | m1
    · rw [r27_divided_L0] at hg; cases hg
    rw [r27_divided_L0] at hg
    apply wp_seq
    apply wp_seq
    apply wp_region_lit
    refine q_seq hS rfl rfl rfl (y_move hS rfl) ?_; clear hS a; intro a hS
    refine q_seq hS rfl rfl rfl (y_move hS rfl) ?_; clear hS a; intro a hS
    refine q_seq hS rfl rfl rfl (y_lenStrN hS rfl Try.underlying9) ?_; clear hS a; intro a hS
    refine q_seq hS rfl rfl rfl (y_lssN (i := i_12) (j := ((s_).length)) hS rfl rfl) ?_; clear hS a; intro a hS
    apply wpList_nil
    refine p_norm ?_
    refine c_dec hS rfl (fun hc13 => ?_) (fun hc13 => ?_)
    · replace hg := br_t hg hc13
      have hmx14 : (s_).length ≤ 9223372036854775807 := (by first | omega | (simp only [List.length_append]; omega) | (simp only [List.length_append, List.length_take, List.length_drop, List.length_cons, List.length_nil]; omega))
      apply wp_skip
      refine p_norm ?_
      apply wp_seq
      apply wp_block
      apply wp_seq
      apply wp_seq
      replace hg := jn_some hg; obtain ⟨k15, hg, hk15⟩ := hg
      refine c_post (fun a w => ∃ (t_16 : Bool), k15 t_16 = some r ∧ St (⟨Try.f26.ntmps, M, noB, w0⟩ : Ctx) [(0, .string (bs (s_))), (3, .slice (A8) ((out_7).length) (c9)), (4, .string (bs (word_11))), (5, .int .i64 (((i_12 : Nat) : Int))), (23, .bool (t_16))] [(700103, Ob.row (A8) ((out_7).length) (c9) 9 1 (cs10))] [(104, rdF Rep.str (cs10) (out_7))] a w) ?_ ?_
      · replace hg := bind_some hg; obtain ⟨c17, hc17, hg⟩ := hg
        replace hg := bind_some hg; obtain ⟨r18, hr18, hg⟩ := hg
        rcases Bool.eq_false_or_eq_true (!(r18)) with hs21 | hs21
        · replace hg := br_t hg hs21
          replace hg := bind_some hg; obtain ⟨r22, hr22, hg⟩ := hg
          apply wp_region_lit
          refine q_seq hS rfl rfl rfl (y_move hS rfl) ?_; clear hS a; intro a hS
          refine q_seq hS rfl rfl rfl (y_move hS rfl) ?_; clear hS a; intro a hS
          refine q_seq hS rfl rfl rfl (y_indexN (i := i_12) hS rfl rfl Try.underlying9 rfl hc17) ?_; clear hS a; intro a hS
          refine l_seq rfl (l_call (cap := []) hS rfl Try.func23 rfl (by kernel_rfl) rfl rfl (c_r27_white n _ _ hS.lt c17 r18 hr18) ?_); clear hS a; intro v25 a w hK hp hS
          clear hK
          obtain rfl := hp
          refine q_seq hS rfl rfl rfl (yl_b (y_not hS rfl) hs21) ?_; clear hS a; intro a hS
          refine q_seq hS rfl rfl rfl (y_move hS rfl) ?_; clear hS a; intro a hS
          refine g_yes hS rfl rfl rfl rfl (l_quiet hS rfl rfl (y_move hS rfl) ?_); clear hS a; intro a hS
          refine g_yes hS rfl rfl rfl rfl (l_quiet hS rfl rfl (y_move hS rfl) ?_); clear hS a; intro a hS
          refine g_yes hS rfl rfl rfl rfl (l_quiet hS rfl rfl (y_indexN (i := i_12) hS rfl rfl Try.underlying9 rfl hc17) ?_); clear hS a; intro a hS
          refine g_yes hS rfl rfl rfl rfl (l_call (cap := []) hS rfl Try.func30 rfl (by kernel_rfl) rfl rfl (c_r27_marked n _ _ hS.lt c17 r22 hr22) ?_); clear hS a; intro v27 a w hK hp hS
          clear hK
          obtain rfl := hp
          refine g_yes hS rfl rfl rfl rfl (l_quiet hS rfl rfl (y_not hS rfl) ?_); clear hS a; intro a hS
          refine q_seq hS rfl rfl rfl (y_pick_t hS rfl rfl) ?_; clear hS a; intro a hS
          apply wpList_nil
          refine p_norm ?_
          exact ⟨(!(r22)), hg, (hS.sub ⟨rfl, rfl, rfl, rfl, rfl, trivial⟩ ⟨rfl, trivial⟩ ⟨rfl, trivial⟩)⟩
        · replace hg := br_f hg (by rw [hs21]; exact Bool.false_ne_true)
          apply wp_region_lit
          refine q_seq hS rfl rfl rfl (y_move hS rfl) ?_; clear hS a; intro a hS
          refine q_seq hS rfl rfl rfl (y_move hS rfl) ?_; clear hS a; intro a hS
          refine q_seq hS rfl rfl rfl (y_indexN (i := i_12) hS rfl rfl Try.underlying9 rfl hc17) ?_; clear hS a; intro a hS
          refine l_seq rfl (l_call (cap := []) hS rfl Try.func23 rfl (by kernel_rfl) rfl rfl (c_r27_white n _ _ hS.lt c17 r18 hr18) ?_); clear hS a; intro v29 a w hK hp hS
          clear hK
          obtain rfl := hp
          refine q_seq hS rfl rfl rfl (yl_b (y_not hS rfl) hs21) ?_; clear hS a; intro a hS
          refine q_seq hS rfl rfl rfl (y_move hS rfl) ?_; clear hS a; intro a hS
          refine g_no hS rfl rfl rfl rfl rfl rfl rfl ?_; clear hS a; intro a hS
          refine g_no hS rfl rfl rfl rfl rfl rfl rfl ?_; clear hS a; intro a hS
          refine g_no hS rfl rfl rfl rfl rfl rfl rfl ?_; clear hS a; intro a hS
          refine g_no hS rfl rfl rfl rfl rfl rfl rfl ?_; clear hS a; intro a hS
          refine g_no hS rfl rfl rfl rfl rfl rfl rfl ?_; clear hS a; intro a hS
          refine q_seq hS rfl rfl rfl (y_pick_f hS rfl rfl) ?_; clear hS a; intro a hS
          apply wpList_nil
          refine p_norm ?_
          exact ⟨(false), hg, (hS.sub ⟨rfl, rfl, rfl, rfl, rfl, trivial⟩ ⟨rfl, trivial⟩ ⟨rfl, trivial⟩)⟩
      clear hS a; rintro a w ⟨t_16, hg, hS⟩
      subst hk15
      refine c_cond hS rfl (fun hc31 => ?_) (fun hc31 => ?_)
      · replace hg := br_t hg hc31
        apply wp_seq
        replace hg := bind_some hg; obtain ⟨c32, hc32, hg⟩ := hg
        replace hg := bind_some hg; obtain ⟨r33, hr33, hg⟩ := hg
        replace hg := chk_some hg; obtain ⟨hk36, hg⟩ := hg
        apply wp_region_lit
        refine q_seq hS rfl rfl rfl (y_move hS rfl) ?_; clear hS a; intro a hS
        refine q_seq hS rfl rfl rfl (y_move hS rfl) ?_; clear hS a; intro a hS
        refine q_seq hS rfl rfl rfl (y_move hS rfl) ?_; clear hS a; intro a hS
        refine q_seq hS rfl rfl rfl (y_indexN (i := i_12) hS rfl rfl Try.underlying9 rfl hc32) ?_; clear hS a; intro a hS
        refine l_seq rfl (l_call (cap := []) hS rfl Try.func31 rfl (by kernel_rfl) rfl rfl (c_r27_small n _ _ hS.lt c32 r33 hr33) ?_); clear hS a; intro v37 a w hK hp hS
        clear hK
        obtain ⟨rfl, lu38a1⟩ := hp
        refine q_seq hS rfl rfl rfl (y_concat hS rfl rfl hk36) ?_; clear hS a; intro a hS
        refine q_seq hS rfl rfl rfl (y_assign hS rfl) ?_; clear hS a; intro a hS
        apply wpList_nil
        refine p_norm ?_
        apply wp_exit
        refine p_then ?_
        refine p_in ?_
        refine p_norm ?_
        apply wp_region_lit
        refine q_seq hS rfl rfl rfl (y_move hS rfl) ?_; clear hS a; intro a hS
        refine q_seq hS rfl rfl rfl (y_addN (i := i_12) (j := 1) hS rfl rfl (in64.2 (by omega))) ?_; clear hS a; intro a hS
        refine q_seq hS rfl rfl rfl (y_assign hS rfl) ?_; clear hS a; intro a hS
        apply wpList_nil
        refine p_norm ?_
        replace hS := hS.add 104 (rdF Rep.str (cs10) (out_7)) (hS.fact (k := 104) rfl)
        exact ⟨m1, Nat.lt_succ_self _, ⟨(out_7), (word_11 ++ r33), (i_12 + 1), (A8), (c9), (cs10), hg, (by first | omega | (simp only [List.length_append]; omega) | (simp only [List.length_append, List.length_take, List.length_drop, List.length_cons, List.length_nil]; omega)), (hS.sub ⟨rfl, rfl, rfl, rfl, trivial⟩ ⟨rfl, trivial⟩ ⟨rfl, trivial⟩)⟩⟩
      · replace hg := br_f hg (by rw [hc31]; exact Bool.false_ne_true)
        apply wp_skip
        refine p_norm ?_
        apply wp_seq
        apply wp_seq
        apply wp_region_lit
        refine q_seq hS rfl rfl rfl (y_move hS rfl) ?_; clear hS a; intro a hS
        refine q_seq hS rfl rfl rfl (y_sne hS rfl rfl) ?_; clear hS a; intro a hS
        apply wpList_nil
        refine p_norm ?_
        replace hg := jn_some hg; obtain ⟨k39, hg, hk39⟩ := hg
        refine c_post (fun a w => ∃ (out_40 : (List (List UInt8))), ∃ (word_44 : (List UInt8)), ∃ (A41 : Option Addr), ∃ (c42 : Nat), ∃ (cs43 : List Value), k39 out_40 word_44 = some r ∧ ((word_44).length ≤ 9223372036854775807) ∧ St (⟨Try.f26.ntmps, M, noB, w0⟩ : Ctx) [(0, .string (bs (s_))), (3, .slice (A41) ((out_40).length) (c42)), (4, .string (bs (word_44))), (5, .int .i64 (((i_12 : Nat) : Int)))] [(700105, Ob.row (A41) ((out_40).length) (c42) 9 1 (cs43))] [(106, rdF Rep.str (cs43) (out_40))] a w) ?_ ?_
        · refine c_dec hS rfl (fun hc45 => ?_) (fun hc45 => ?_)
          · replace hg := br_t hg hc45
            apply wp_seq
            replace hg := chk_some hg; obtain ⟨hk47, hg⟩ := hg
            apply wp_region_lit
            refine q_seq hS rfl rfl rfl (y_move hS rfl) ?_; clear hS a; intro a hS
            refine q_seq hS rfl rfl rfl (y_move hS rfl) ?_; clear hS a; intro a hS
            refine l_seq rfl (l_buildDense (sz := 1) hS 1902 rfl rfl rfl Try.underlying23 rfl rfl rfl rfl rfl rfl rfl ?_); clear hS a; intro b50 a w hbb50 hK hS
            clear hbb50
            clear hK
            replace hS := hS.add 109 (rdF Rep.str (cellsOfL [.string (bs (word_11))]) ([word_11])) (RdAll.cons (by exact ⟨rfl, (by first | omega | (simp only [List.length_append]; omega) | (simp only [List.length_append, List.length_take, List.length_drop, List.length_cons, List.length_nil]; omega))⟩) (RdAll.nil _ _ _))
            have hs52 := row_src (hS.wd.holds 1902 _ rfl) (RdAll.one (hS.fact (k := 109) rfl))
            refine l_seq rfl (l_append (sz := 1) (by_ := 16) (N := (out_7 ++ [word_11]).length) (ys := cs10 ++ (cellsOfL [.string (bs (word_11))])) hS 700103 rfl rfl rfl Try.underlying23 rfl rfl rfl rfl rfl hs52 (by simp) rfl (by have hr := hk47; clear hg; first | omega | (simp only [List.length_append, List.length_cons, List.length_nil] at hr ⊢; omega) | (simp at hr ⊢; omega)) (by have hr := hk47; clear hg; first | omega | (simp only [List.length_append, List.length_cons, List.length_nil] at hr ⊢; omega) | (simp at hr ⊢; omega)) rfl ?_); clear hS a; intro Aq51 cq51 a w hA hK hS
            clear hK hA
            replace hS := hS.add 110 (rdF Rep.str (cs10 ++ (cellsOfL [.string (bs (word_11))])) (out_7 ++ [word_11])) (RdAll.append (hS.fact (k := 104) rfl) (hS.fact (k := 109) rfl))
            refine q_seq hS rfl rfl rfl (y_assign hS rfl) ?_; clear hS a; intro a hS
            apply wpList_nil
            refine p_norm ?_
            apply wp_region_lit
            refine q_seq hS rfl rfl rfl (y_assign hS rfl) ?_; clear hS a; intro a hS
            apply wpList_nil
            refine p_norm ?_
            replace hS := hS.add 106 (rdF Rep.str (cs10 ++ (cellsOfL [.string (bs (word_11))])) (out_7 ++ [word_11])) (hS.fact (k := 110) rfl)
            replace hS := hS.ren [(1902, Ob.row (some ⟨b50, 0, none⟩) (1) (1) 9 1 (cellsOfL [.string (bs (word_11))])), (700105, Ob.row (Aq51) ((out_7 ++ [word_11]).length) (cq51) 9 1 (cs10 ++ (cellsOfL [.string (bs (word_11))])))] [1902, 700103] ⟨rfl, rfl, trivial⟩ (by decide)
            exact ⟨(out_7 ++ [word_11]), ([]), (Aq51), (cq51), (cs10 ++ (cellsOfL [.string (bs (word_11))])), hg, (by first | omega | (simp only [List.length_append]; omega) | (simp only [List.length_append, List.length_take, List.length_drop, List.length_cons, List.length_nil]; omega)), (hS.sub ⟨rfl, rfl, rfl, rfl, trivial⟩ ⟨rfl, trivial⟩ ⟨rfl, trivial⟩)⟩
          · replace hg := br_f hg hc45
            apply wp_skip
            refine p_norm ?_
            replace hS := hS.add 106 (rdF Rep.str (cs10) (out_7)) (hS.fact (k := 104) rfl)
            replace hS := hS.ren [(700105, Ob.row (A8) ((out_7).length) (c9) 9 1 (cs10))] [700103] ⟨rfl, trivial⟩ (by decide)
            exact ⟨(out_7), (word_11), (A8), (c9), (cs10), hg, (by first | omega | (simp only [List.length_append]; omega) | (simp only [List.length_append, List.length_take, List.length_drop, List.length_cons, List.length_nil]; omega)), (hS.sub ⟨rfl, rfl, rfl, rfl, trivial⟩ ⟨rfl, trivial⟩ ⟨rfl, trivial⟩)⟩
        clear hS a; rintro a w ⟨out_40, word_44, A41, c42, cs43, hg, lword_44, hS⟩
        subst hk39
        apply wp_seq
        replace hg := bind_some hg; obtain ⟨c53, hc53, hg⟩ := hg
        replace hg := bind_some hg; obtain ⟨r54, hr54, hg⟩ := hg
        apply wp_region_lit
        refine q_seq hS rfl rfl rfl (y_move hS rfl) ?_; clear hS a; intro a hS
        refine q_seq hS rfl rfl rfl (y_move hS rfl) ?_; clear hS a; intro a hS
        refine q_seq hS rfl rfl rfl (y_indexN (i := i_12) hS rfl rfl Try.underlying9 rfl hc53) ?_; clear hS a; intro a hS
        refine l_seq rfl (l_call (cap := []) hS rfl Try.func30 rfl (by kernel_rfl) rfl rfl (c_r27_marked n _ _ hS.lt c53 r54 hr54) ?_); clear hS a; intro v57 a w hK hp hS
        clear hK
        obtain rfl := hp
        apply wpList_nil
        refine p_norm ?_
        refine c_cond hS rfl (fun hc59 => ?_) (fun hc59 => ?_)
        · replace hg := br_t hg hc59
          replace hg := chk_some hg; obtain ⟨hk60, hg⟩ := hg
          replace hg := chk_some hg; obtain ⟨hk62, hg⟩ := hg
          apply wp_region_lit
          refine q_seq hS rfl rfl rfl (y_move hS rfl) ?_; clear hS a; intro a hS
          refine q_seq hS rfl rfl rfl (y_move hS rfl) ?_; clear hS a; intro a hS
          refine q_seq hS rfl rfl rfl (y_move hS rfl) ?_; clear hS a; intro a hS
          refine q_seq hS rfl rfl rfl (y_move hS rfl) ?_; clear hS a; intro a hS
          refine q_seq hS rfl rfl rfl (y_addN (i := i_12) (j := 1) hS rfl rfl (in64.2 (by omega))) ?_; clear hS a; intro a hS
          refine q_seq hS rfl rfl rfl (y_strLH (i := i_12) (j := (i_12 + 1)) hS rfl rfl rfl Try.underlying9 rfl rfl hk60.1 hk60.2) ?_; clear hS a; intro a hS
          refine l_seq rfl (l_buildDense (sz := 1) hS 2206 rfl rfl rfl Try.underlying23 rfl rfl rfl rfl rfl rfl rfl ?_); clear hS a; intro b65 a w hbb65 hK hS
          clear hbb65
          clear hK
          replace hS := hS.add 113 (rdF Rep.str (cellsOfL [.string (bs (((s_).drop i_12).take (i_12 + 1 - i_12)))]) ([((s_).drop i_12).take (i_12 + 1 - i_12)])) (RdAll.cons (by exact ⟨rfl, (by first | omega | (simp only [List.length_append]; omega) | (simp only [List.length_append, List.length_take, List.length_drop, List.length_cons, List.length_nil]; omega))⟩) (RdAll.nil _ _ _))
          have hs67 := row_src (hS.wd.holds 2206 _ rfl) (RdAll.one (hS.fact (k := 113) rfl))
          refine l_seq rfl (l_append (sz := 1) (by_ := 16) (N := (out_40 ++ [((s_).drop i_12).take (i_12 + 1 - i_12)]).length) (ys := cs43 ++ (cellsOfL [.string (bs (((s_).drop i_12).take (i_12 + 1 - i_12)))])) hS 700105 rfl rfl rfl Try.underlying23 rfl rfl rfl rfl rfl hs67 (by simp) rfl (by have hr := hk62; clear hg; first | omega | (simp only [List.length_append, List.length_cons, List.length_nil] at hr ⊢; omega) | (simp at hr ⊢; omega)) (by have hr := hk62; clear hg; first | omega | (simp only [List.length_append, List.length_cons, List.length_nil] at hr ⊢; omega) | (simp at hr ⊢; omega)) rfl ?_); clear hS a; intro Aq66 cq66 a w hA hK hS
          clear hK hA
          replace hS := hS.add 114 (rdF Rep.str (cs43 ++ (cellsOfL [.string (bs (((s_).drop i_12).take (i_12 + 1 - i_12)))])) (out_40 ++ [((s_).drop i_12).take (i_12 + 1 - i_12)])) (RdAll.append (hS.fact (k := 106) rfl) (hS.fact (k := 113) rfl))
          refine q_seq hS rfl rfl rfl (y_assign hS rfl) ?_; clear hS a; intro a hS
          apply wpList_nil
          refine p_inN ?_
          refine p_norm ?_
          apply wp_region_lit
          refine q_seq hS rfl rfl rfl (y_move hS rfl) ?_; clear hS a; intro a hS
          refine q_seq hS rfl rfl rfl (y_addN (i := i_12) (j := 1) hS rfl rfl (in64.2 (by omega))) ?_; clear hS a; intro a hS
          refine q_seq hS rfl rfl rfl (y_assign hS rfl) ?_; clear hS a; intro a hS
          apply wpList_nil
          refine p_norm ?_
          replace hS := hS.add 104 (rdF Rep.str (cs43 ++ (cellsOfL [.string (bs (((s_).drop i_12).take (i_12 + 1 - i_12)))])) (out_40 ++ [((s_).drop i_12).take (i_12 + 1 - i_12)])) (hS.fact (k := 114) rfl)
          replace hS := hS.ren [(2206, Ob.row (some ⟨b65, 0, none⟩) (1) (1) 9 1 (cellsOfL [.string (bs (((s_).drop i_12).take (i_12 + 1 - i_12)))])), (700103, Ob.row (Aq66) ((out_40 ++ [((s_).drop i_12).take (i_12 + 1 - i_12)]).length) (cq66) 9 1 (cs43 ++ (cellsOfL [.string (bs (((s_).drop i_12).take (i_12 + 1 - i_12)))])))] [2206, 700105] ⟨rfl, rfl, trivial⟩ (by decide)
          exact ⟨m1, Nat.lt_succ_self _, ⟨(out_40 ++ [((s_).drop i_12).take (i_12 + 1 - i_12)]), (word_44), (i_12 + 1), (Aq66), (cq66), (cs43 ++ (cellsOfL [.string (bs (((s_).drop i_12).take (i_12 + 1 - i_12)))])), hg, (by first | omega | (simp only [List.length_append]; omega) | (simp only [List.length_append, List.length_take, List.length_drop, List.length_cons, List.length_nil]; omega)), (hS.sub ⟨rfl, rfl, rfl, rfl, trivial⟩ ⟨rfl, trivial⟩ ⟨rfl, trivial⟩)⟩⟩
        · replace hg := br_f hg (by rw [hc59]; exact Bool.false_ne_true)
          apply wp_skip
          refine p_inN ?_
          refine p_norm ?_
          apply wp_region_lit
          refine q_seq hS rfl rfl rfl (y_move hS rfl) ?_; clear hS a; intro a hS
          refine q_seq hS rfl rfl rfl (y_addN (i := i_12) (j := 1) hS rfl rfl (in64.2 (by omega))) ?_; clear hS a; intro a hS
          refine q_seq hS rfl rfl rfl (y_assign hS rfl) ?_; clear hS a; intro a hS
          apply wpList_nil
          refine p_norm ?_
          replace hS := hS.add 104 (rdF Rep.str (cs43) (out_40)) (hS.fact (k := 106) rfl)
          replace hS := hS.ren [(700103, Ob.row (A41) ((out_40).length) (c42) 9 1 (cs43))] [700105] ⟨rfl, trivial⟩ (by decide)
          exact ⟨m1, Nat.lt_succ_self _, ⟨(out_40), (word_44), (i_12 + 1), (A41), (c42), (cs43), hg, (by first | omega | (simp only [List.length_append]; omega) | (simp only [List.length_append, List.length_take, List.length_drop, List.length_cons, List.length_nil]; omega)), (hS.sub ⟨rfl, rfl, rfl, rfl, trivial⟩ ⟨rfl, trivial⟩ ⟨rfl, trivial⟩)⟩⟩
    · replace hg := br_f hg hc13
      apply wp_exit
      refine p_then ?_
      refine p_then ?_
      refine p_in ?_
      refine p_norm ?_
      replace hS := hS.add 102 (rdF Rep.str (cs10) (out_7)) (hS.fact (k := 104) rfl)
      replace hS := hS.ren [(700101, Ob.row (A8) ((out_7).length) (c9) 9 1 (cs10))] [700103] ⟨rfl, trivial⟩ (by decide)
      exact ⟨(out_7), (word_11), (A8), (c9), (cs10), hg, (by first | omega | (simp only [List.length_append]; omega) | (simp only [List.length_append, List.length_take, List.length_drop, List.length_cons, List.length_nil]; omega)), (hS.sub ⟨rfl, rfl, trivial⟩ ⟨rfl, trivial⟩ ⟨rfl, trivial⟩)⟩
  clear hS a; rintro a w ⟨out_2, word_6, A3, c4, cs5, hg, lword_6, hS⟩
  subst hk1
  apply wp_seq
  apply wp_seq
  apply wp_region_lit
  refine q_seq hS rfl rfl rfl (y_move hS rfl) ?_; clear hS a; intro a hS
  refine q_seq hS rfl rfl rfl (y_sne hS rfl rfl) ?_; clear hS a; intro a hS
  apply wpList_nil
  refine p_norm ?_
  refine c_dec hS rfl (fun hc68 => ?_) (fun hc68 => ?_)
  · replace hg := br_t hg hc68
    replace hg := chk_some hg; obtain ⟨hk70, hg⟩ := hg
    apply wp_region_lit
    refine q_seq hS rfl rfl rfl (y_move hS rfl) ?_; clear hS a; intro a hS
    refine q_seq hS rfl rfl rfl (y_move hS rfl) ?_; clear hS a; intro a hS
    refine l_seq rfl (l_buildDense (sz := 1) hS 2402 rfl rfl rfl Try.underlying23 rfl rfl rfl rfl rfl rfl rfl ?_); clear hS a; intro b73 a w hbb73 hK hS
    clear hbb73
    clear hK
    replace hS := hS.add 117 (rdF Rep.str (cellsOfL [.string (bs (word_6))]) ([word_6])) (RdAll.cons (by exact ⟨rfl, (by first | omega | (simp only [List.length_append]; omega) | (simp only [List.length_append, List.length_take, List.length_drop, List.length_cons, List.length_nil]; omega))⟩) (RdAll.nil _ _ _))
    have hs75 := row_src (hS.wd.holds 2402 _ rfl) (RdAll.one (hS.fact (k := 117) rfl))
    refine l_seq rfl (l_append (sz := 1) (by_ := 16) (N := (out_2 ++ [word_6]).length) (ys := cs5 ++ (cellsOfL [.string (bs (word_6))])) hS 700101 rfl rfl rfl Try.underlying23 rfl rfl rfl rfl rfl hs75 (by simp) rfl (by have hr := hk70; clear hg; first | omega | (simp only [List.length_append, List.length_cons, List.length_nil] at hr ⊢; omega) | (simp at hr ⊢; omega)) (by have hr := hk70; clear hg; first | omega | (simp only [List.length_append, List.length_cons, List.length_nil] at hr ⊢; omega) | (simp at hr ⊢; omega)) rfl ?_); clear hS a; intro Aq74 cq74 a w hA hK hS
    clear hK hA
    replace hS := hS.add 118 (rdF Rep.str (cs5 ++ (cellsOfL [.string (bs (word_6))])) (out_2 ++ [word_6])) (RdAll.append (hS.fact (k := 102) rfl) (hS.fact (k := 117) rfl))
    refine q_seq hS rfl rfl rfl (y_assign hS rfl) ?_; clear hS a; intro a hS
    apply wpList_nil
    refine p_norm ?_
    apply wp_seq
    apply wp_region_lit
    refine q_seq hS rfl rfl rfl (y_move hS rfl) ?_; clear hS a; intro a hS
    refine q_seq hS rfl rfl rfl (y_assign hS rfl) ?_; clear hS a; intro a hS
    apply wpList_nil
    refine p_norm ?_
    apply wp_ret
    obtain rfl := Option.some.inj hg
    refine fin1 (fn := Try.f26) hS rfl (r_tmp hS rfl) ?_
    exact ⟨(Aq74), (cq74), rfl, (hS.rowOut (R := Rep.str) (kk := 700101) rfl rfl (hS.fact (k := 118) rfl))⟩
  · replace hg := br_f hg hc68
    apply wp_skip
    refine p_norm ?_
    apply wp_seq
    apply wp_region_lit
    refine q_seq hS rfl rfl rfl (y_move hS rfl) ?_; clear hS a; intro a hS
    refine q_seq hS rfl rfl rfl (y_assign hS rfl) ?_; clear hS a; intro a hS
    apply wpList_nil
    refine p_norm ?_
    apply wp_ret
    obtain rfl := Option.some.inj hg
    refine fin1 (fn := Try.f26) hS rfl (r_tmp hS rfl) ?_
    exact ⟨(A3), (c4), rfl, (hS.rowOut (R := Rep.str) (kk := 700101) rfl rfl (hS.fact (k := 102) rfl))⟩
set_option maxHeartbeats 400000 in
theorem c_r27_Split (n : Nat) (M : Bs) (w0 : World) (hM : ∀ b, M b → b < w0.heap.size) (s_ : (List UInt8)) (lp01 : (s_).length ≤ 9223372036854775807) (r : ((List (List UInt8)) × Int)) (hg : r27_Split n s_ = some r) :
    Calls Try.prog 11 [.string (bs (s_))].toArray w0 (Ret noB w0 fun v w => ∃ (Aa1 : Option Addr), ∃ (ca1 : Nat), v = .tuple #[.slice (Aa1) ((r.1).length) (ca1), .int .i64 (r.2)] ∧ (SlR Rep.str M w Aa1 (r.1).length ca1 (r.1))) := by
  unfold r27_Split at hg
  refine enter M noB Try.func11 rfl rfl hM ?_
  intro a hS
  apply wp_seq
  apply wp_region_lit
  refine q_seq hS rfl rfl rfl (y_assign hS rfl) ?_; clear hS a; intro a hS
  refine q_seq hS rfl rfl rfl (y_assign hS rfl) ?_; clear hS a; intro a hS
  apply wpList_nil
  refine p_norm ?_
  apply wp_seq
  apply wp_seq
  apply wp_region_lit
  refine q_seq hS rfl rfl rfl (y_move hS rfl) ?_; clear hS a; intro a hS
  refine q_seq hS rfl rfl rfl (y_lenStrN hS rfl Try.underlying9) ?_; clear hS a; intro a hS
  refine q_seq hS rfl rfl rfl (y_gtrN (i := ((s_).length)) (j := 65536) hS rfl rfl) ?_; clear hS a; intro a hS
  apply wpList_nil
  refine p_norm ?_
  refine c_dec hS rfl (fun hc1 => ?_) (fun hc1 => ?_)
  · replace hg := br_t hg hc1
    have hmx2 : (s_).length ≤ 9223372036854775807 := (by first | omega | (simp only [List.length_append]; omega) | (simp only [List.length_append, List.length_take, List.length_drop, List.length_cons, List.length_nil]; omega))
    apply wp_seq
    apply wp_region_lit
    refine q_seq hS rfl rfl rfl (y_assign hS rfl) ?_; clear hS a; intro a hS
    refine q_seq hS rfl rfl rfl (y_assign hS rfl) ?_; clear hS a; intro a hS
    apply wpList_nil
    refine p_norm ?_
    apply wp_ret
    refine p_thenR ?_
    obtain rfl := Option.some.inj hg
    refine fin2 (fn := Try.f11) hS rfl (r_tmp hS rfl) (r_tmp hS rfl) ?_
    exact ⟨(none), (0), rfl, (SlR.nil_ _ _ _)⟩
  · replace hg := br_f hg hc1
    apply wp_skip
    refine p_norm ?_
    apply wp_seq
    apply wp_seq
    apply wp_region_lit
    refine q_seq hS rfl rfl rfl (y_assign hS rfl) ?_; clear hS a; intro a hS
    apply wpList_nil
    refine p_norm ?_
    replace hg := jn_some hg; obtain ⟨k3, hg, hk3⟩ := hg
    refine c_post (fun a w => k3 = some r ∧ St (⟨Try.f11.ntmps, M, noB, w0⟩ : Ctx) [(0, .string (bs (s_)))] [] [] a w) ?_ ?_
    · apply wp_block
      refine c_loop (σ := Nat) (fun m1 a w => ∃ (i_4 : Nat), r27_Split_L0 n s_ k3 m1 i_4 = some r ∧ St (⟨Try.f11.ntmps, M, noB, w0⟩ : Ctx) [(0, .string (bs (s_))), (4, .int .i64 (((i_4 : Nat) : Int)))] [] [] a w) (fun m1 => m1) n ⟨(0), hg, (hS.sub ⟨rfl, rfl, trivial⟩ trivial trivial)⟩ ?_
      clear hS a; rintro m1 a w ⟨i_4, hg, hS⟩
      rcases m1 with _ | m1
      · rw [r27_Split_L0] at hg; cases hg
      rw [r27_Split_L0] at hg
      apply wp_seq
      apply wp_seq
      apply wp_region_lit
      refine q_seq hS rfl rfl rfl (y_move hS rfl) ?_; clear hS a; intro a hS
      refine q_seq hS rfl rfl rfl (y_move hS rfl) ?_; clear hS a; intro a hS
      refine q_seq hS rfl rfl rfl (y_lenStrN hS rfl Try.underlying9) ?_; clear hS a; intro a hS
      refine q_seq hS rfl rfl rfl (y_lssN (i := i_4) (j := ((s_).length)) hS rfl rfl) ?_; clear hS a; intro a hS
      apply wpList_nil
      refine p_norm ?_
      refine c_dec hS rfl (fun hc5 => ?_) (fun hc5 => ?_)
      · replace hg := br_t hg hc5
        have hmx6 : (s_).length ≤ 9223372036854775807 := (by first | omega | (simp only [List.length_append]; omega) | (simp only [List.length_append, List.length_take, List.length_drop, List.length_cons, List.length_nil]; omega))
        apply wp_skip
        refine p_norm ?_
        apply wp_seq
        apply wp_block
        apply wp_seq
        replace hg := jn_some hg; obtain ⟨k7, hg, hk7⟩ := hg
        refine c_post (fun a w => ∃ (t_8 : Bool), k7 t_8 = some r ∧ St (⟨Try.f11.ntmps, M, noB, w0⟩ : Ctx) [(0, .string (bs (s_))), (4, .int .i64 (((i_4 : Nat) : Int))), (34, .bool (t_8))] [] [] a w) ?_ ?_
        · replace hg := bind_some hg; obtain ⟨c9, hc9, hg⟩ := hg
          replace hg := bind_some hg; obtain ⟨r10, hr10, hg⟩ := hg
          rcases Bool.eq_false_or_eq_true (!(r10)) with hs13 | hs13
          · replace hg := br_t hg hs13
            replace hg := bind_some hg; obtain ⟨r14, hr14, hg⟩ := hg
            rcases Bool.eq_false_or_eq_true (!(r14)) with hs17 | hs17
            · replace hg := br_t hg hs17
              replace hg := bind_some hg; obtain ⟨r18, hr18, hg⟩ := hg
              apply wp_region_lit
              refine q_seq hS rfl rfl rfl (y_move hS rfl) ?_; clear hS a; intro a hS
              refine q_seq hS rfl rfl rfl (y_move hS rfl) ?_; clear hS a; intro a hS
              refine q_seq hS rfl rfl rfl (y_indexN (i := i_4) hS rfl rfl Try.underlying9 rfl hc9) ?_; clear hS a; intro a hS
              refine l_seq rfl (l_call (cap := []) hS rfl Try.func23 rfl (by kernel_rfl) rfl rfl (c_r27_white n _ _ hS.lt c9 r10 hr10) ?_); clear hS a; intro v21 a w hK hp hS
              clear hK
              obtain rfl := hp
              refine q_seq hS rfl rfl rfl (yl_b (y_not hS rfl) hs13) ?_; clear hS a; intro a hS
              refine q_seq hS rfl rfl rfl (y_move hS rfl) ?_; clear hS a; intro a hS
              refine g_yes hS rfl rfl rfl rfl (l_quiet hS rfl rfl (y_move hS rfl) ?_); clear hS a; intro a hS
              refine g_yes hS rfl rfl rfl rfl (l_quiet hS rfl rfl (y_move hS rfl) ?_); clear hS a; intro a hS
              refine g_yes hS rfl rfl rfl rfl (l_quiet hS rfl rfl (y_indexN (i := i_4) hS rfl rfl Try.underlying9 rfl hc9) ?_); clear hS a; intro a hS
              refine g_yes hS rfl rfl rfl rfl (l_call (cap := []) hS rfl Try.func24 rfl (by kernel_rfl) rfl rfl (c_r27_upper n _ _ hS.lt c9 r14 hr14) ?_); clear hS a; intro v23 a w hK hp hS
              clear hK
              obtain rfl := hp
              refine g_yes hS rfl rfl rfl rfl (l_quiet hS rfl rfl (yl_b (y_not hS rfl) hs17) ?_); clear hS a; intro a hS
              refine q_seq hS rfl rfl rfl (y_pick_t hS rfl rfl) ?_; clear hS a; intro a hS
              refine q_seq hS rfl rfl rfl (y_move hS rfl) ?_; clear hS a; intro a hS
              refine g_yes hS rfl rfl rfl rfl (l_quiet hS rfl rfl (y_move hS rfl) ?_); clear hS a; intro a hS
              refine g_yes hS rfl rfl rfl rfl (l_quiet hS rfl rfl (y_move hS rfl) ?_); clear hS a; intro a hS
              refine g_yes hS rfl rfl rfl rfl (l_quiet hS rfl rfl (y_indexN (i := i_4) hS rfl rfl Try.underlying9 rfl hc9) ?_); clear hS a; intro a hS
              refine g_yes hS rfl rfl rfl rfl (l_call (cap := []) hS rfl Try.func25 rfl (by kernel_rfl) rfl rfl (c_r27_part n _ _ hS.lt c9 r18 hr18) ?_); clear hS a; intro v25 a w hK hp hS
              clear hK
              obtain rfl := hp
              refine g_yes hS rfl rfl rfl rfl (l_quiet hS rfl rfl (y_not hS rfl) ?_); clear hS a; intro a hS
              refine q_seq hS rfl rfl rfl (y_pick_t hS rfl rfl) ?_; clear hS a; intro a hS
              apply wpList_nil
              refine p_norm ?_
              exact ⟨(!(r18)), hg, (hS.sub ⟨rfl, rfl, rfl, trivial⟩ trivial trivial)⟩
            · replace hg := br_f hg (by rw [hs17]; exact Bool.false_ne_true)
              apply wp_region_lit
              refine q_seq hS rfl rfl rfl (y_move hS rfl) ?_; clear hS a; intro a hS
              refine q_seq hS rfl rfl rfl (y_move hS rfl) ?_; clear hS a; intro a hS
              refine q_seq hS rfl rfl rfl (y_indexN (i := i_4) hS rfl rfl Try.underlying9 rfl hc9) ?_; clear hS a; intro a hS
              refine l_seq rfl (l_call (cap := []) hS rfl Try.func23 rfl (by kernel_rfl) rfl rfl (c_r27_white n _ _ hS.lt c9 r10 hr10) ?_); clear hS a; intro v27 a w hK hp hS
              clear hK
              obtain rfl := hp
              refine q_seq hS rfl rfl rfl (yl_b (y_not hS rfl) hs13) ?_; clear hS a; intro a hS
              refine q_seq hS rfl rfl rfl (y_move hS rfl) ?_; clear hS a; intro a hS
              refine g_yes hS rfl rfl rfl rfl (l_quiet hS rfl rfl (y_move hS rfl) ?_); clear hS a; intro a hS
              refine g_yes hS rfl rfl rfl rfl (l_quiet hS rfl rfl (y_move hS rfl) ?_); clear hS a; intro a hS
              refine g_yes hS rfl rfl rfl rfl (l_quiet hS rfl rfl (y_indexN (i := i_4) hS rfl rfl Try.underlying9 rfl hc9) ?_); clear hS a; intro a hS
              refine g_yes hS rfl rfl rfl rfl (l_call (cap := []) hS rfl Try.func24 rfl (by kernel_rfl) rfl rfl (c_r27_upper n _ _ hS.lt c9 r14 hr14) ?_); clear hS a; intro v29 a w hK hp hS
              clear hK
              obtain rfl := hp
              refine g_yes hS rfl rfl rfl rfl (l_quiet hS rfl rfl (yl_b (y_not hS rfl) hs17) ?_); clear hS a; intro a hS
              refine q_seq hS rfl rfl rfl (y_pick_t hS rfl rfl) ?_; clear hS a; intro a hS
              refine q_seq hS rfl rfl rfl (y_move hS rfl) ?_; clear hS a; intro a hS
              refine g_no hS rfl rfl rfl rfl rfl rfl rfl ?_; clear hS a; intro a hS
              refine g_no hS rfl rfl rfl rfl rfl rfl rfl ?_; clear hS a; intro a hS
              refine g_no hS rfl rfl rfl rfl rfl rfl rfl ?_; clear hS a; intro a hS
              refine g_no hS rfl rfl rfl rfl rfl rfl rfl ?_; clear hS a; intro a hS
              refine g_no hS rfl rfl rfl rfl rfl rfl rfl ?_; clear hS a; intro a hS
              refine q_seq hS rfl rfl rfl (y_pick_f hS rfl rfl) ?_; clear hS a; intro a hS
              apply wpList_nil
              refine p_norm ?_
              exact ⟨(false), hg, (hS.sub ⟨rfl, rfl, rfl, trivial⟩ trivial trivial)⟩
          · replace hg := br_f hg (by rw [hs13]; exact Bool.false_ne_true)
            apply wp_region_lit
            refine q_seq hS rfl rfl rfl (y_move hS rfl) ?_; clear hS a; intro a hS
            refine q_seq hS rfl rfl rfl (y_move hS rfl) ?_; clear hS a; intro a hS
            refine q_seq hS rfl rfl rfl (y_indexN (i := i_4) hS rfl rfl Try.underlying9 rfl hc9) ?_; clear hS a; intro a hS
            refine l_seq rfl (l_call (cap := []) hS rfl Try.func23 rfl (by kernel_rfl) rfl rfl (c_r27_white n _ _ hS.lt c9 r10 hr10) ?_); clear hS a; intro v31 a w hK hp hS
            clear hK
            obtain rfl := hp
            refine q_seq hS rfl rfl rfl (yl_b (y_not hS rfl) hs13) ?_; clear hS a; intro a hS
            refine q_seq hS rfl rfl rfl (y_move hS rfl) ?_; clear hS a; intro a hS
            refine g_no hS rfl rfl rfl rfl rfl rfl rfl ?_; clear hS a; intro a hS
            refine g_no hS rfl rfl rfl rfl rfl rfl rfl ?_; clear hS a; intro a hS
            refine g_no hS rfl rfl rfl rfl rfl rfl rfl ?_; clear hS a; intro a hS
            refine g_no hS rfl rfl rfl rfl rfl rfl rfl ?_; clear hS a; intro a hS
            refine g_no hS rfl rfl rfl rfl rfl rfl rfl ?_; clear hS a; intro a hS
            refine q_seq hS rfl rfl rfl (y_pick_f hS rfl rfl) ?_; clear hS a; intro a hS
            refine q_seq hS rfl rfl rfl (y_move hS rfl) ?_; clear hS a; intro a hS
            refine g_no hS rfl rfl rfl rfl rfl rfl rfl ?_; clear hS a; intro a hS
            refine g_no hS rfl rfl rfl rfl rfl rfl rfl ?_; clear hS a; intro a hS
            refine g_no hS rfl rfl rfl rfl rfl rfl rfl ?_; clear hS a; intro a hS
            refine g_no hS rfl rfl rfl rfl rfl rfl rfl ?_; clear hS a; intro a hS
            refine g_no hS rfl rfl rfl rfl rfl rfl rfl ?_; clear hS a; intro a hS
            refine q_seq hS rfl rfl rfl (y_pick_f hS rfl rfl) ?_; clear hS a; intro a hS
            apply wpList_nil
            refine p_norm ?_
            exact ⟨(false), hg, (hS.sub ⟨rfl, rfl, rfl, trivial⟩ trivial trivial)⟩
        clear hS a; rintro a w ⟨t_8, hg, hS⟩
        subst hk7
        refine c_cond hS rfl (fun hc33 => ?_) (fun hc33 => ?_)
        · replace hg := br_t hg hc33
          apply wp_seq
          apply wp_region_lit
          refine q_seq hS rfl rfl rfl (y_assign hS rfl) ?_; clear hS a; intro a hS
          refine q_seq hS rfl rfl rfl (y_assign hS rfl) ?_; clear hS a; intro a hS
          apply wpList_nil
          refine p_norm ?_
          apply wp_ret
          refine p_inR ?_
          refine p_thenR ?_
          refine p_thenR ?_
          refine p_inR ?_
          refine p_thenR ?_
          obtain rfl := Option.some.inj hg
          refine fin2 (fn := Try.f11) hS rfl (r_tmp hS rfl) (r_tmp hS rfl) ?_
          exact ⟨(none), (0), rfl, (SlR.nil_ _ _ _)⟩
        · replace hg := br_f hg (by rw [hc33]; exact Bool.false_ne_true)
          apply wp_skip
          refine p_inN ?_
          refine p_norm ?_
          apply wp_region_lit
          refine q_seq hS rfl rfl rfl (y_move hS rfl) ?_; clear hS a; intro a hS
          refine q_seq hS rfl rfl rfl (y_addN (i := i_4) (j := 1) hS rfl rfl (in64.2 (by omega))) ?_; clear hS a; intro a hS
          refine q_seq hS rfl rfl rfl (y_assign hS rfl) ?_; clear hS a; intro a hS
          apply wpList_nil
          refine p_norm ?_
          exact ⟨m1, Nat.lt_succ_self _, ⟨(i_4 + 1), hg, (hS.sub ⟨rfl, rfl, trivial⟩ trivial trivial)⟩⟩
      · replace hg := br_f hg hc5
        apply wp_exit
        refine p_then ?_
        refine p_then ?_
        refine p_in ?_
        refine p_norm ?_
        exact ⟨hg, (hS.sub ⟨rfl, trivial⟩ trivial trivial)⟩
    clear hS a; rintro a w ⟨hg, hS⟩
    subst hk3
    apply wp_seq
    replace hg := bind_some hg; obtain ⟨r34, hr34, hg⟩ := hg
    apply wp_region_lit
    refine q_seq hS rfl rfl rfl (y_move hS rfl) ?_; clear hS a; intro a hS
    refine l_seq rfl (l_call (cap := []) hS rfl Try.func26 rfl (by kernel_rfl) rfl rfl (c_r27_divided n _ _ hS.lt s_ (by first | omega | (simp only [List.length_append]; omega) | (simp only [List.length_append, List.length_take, List.length_drop, List.length_cons, List.length_nil]; omega)) r34 hr34) ?_); clear hS a; intro v37 a w hK hp hS
    clear hK
    obtain ⟨Au38a1, cu38a1, rfl, hu38a1⟩ := hp
    replace hS := hS.add 102 (slF Rep.str (Au38a1) ((r34).length) (cu38a1) (r34)) hu38a1
    refine q_seq hS rfl rfl rfl (y_assign hS rfl) ?_; clear hS a; intro a hS
    apply wpList_nil
    refine p_norm ?_
    apply wp_seq
    apply wp_seq
    apply wp_region_lit
    refine q_seq hS rfl rfl rfl (y_move hS rfl) ?_; clear hS a; intro a hS
    refine q_seq hS rfl rfl rfl (y_lenSlice hS rfl Try.underlying23) ?_; clear hS a; intro a hS
    refine q_seq hS rfl rfl rfl (y_eqlN (i := ((r34).length)) (j := 0) hS rfl rfl) ?_; clear hS a; intro a hS
    apply wpList_nil
    refine p_norm ?_
    refine c_dec hS rfl (fun hc39 => ?_) (fun hc39 => ?_)
    · replace hg := br_t hg hc39
      apply wp_seq
      apply wp_region_lit
      refine q_seq hS rfl rfl rfl (y_assign hS rfl) ?_; clear hS a; intro a hS
      refine q_seq hS rfl rfl rfl (y_assign hS rfl) ?_; clear hS a; intro a hS
      apply wpList_nil
      refine p_norm ?_
      apply wp_ret
      refine p_thenR ?_
      obtain rfl := Option.some.inj hg
      refine fin2 (fn := Try.f11) hS rfl (r_tmp hS rfl) (r_tmp hS rfl) ?_
      exact ⟨(none), (0), rfl, (SlR.nil_ _ _ _)⟩
    · replace hg := br_f hg hc39
      apply wp_skip
      refine p_norm ?_
      apply wp_seq
      apply wp_seq
      apply wp_region_lit
      refine q_seq hS rfl rfl rfl (y_move hS rfl) ?_; clear hS a; intro a hS
      refine q_seq hS rfl rfl rfl (y_lenSlice hS rfl Try.underlying23) ?_; clear hS a; intro a hS
      refine q_seq hS rfl rfl rfl (y_gtrN (i := ((r34).length)) (j := 32) hS rfl rfl) ?_; clear hS a; intro a hS
      apply wpList_nil
      refine p_norm ?_
      refine c_dec hS rfl (fun hc40 => ?_) (fun hc40 => ?_)
      · replace hg := br_t hg hc40
        have hmx41 := SlR.mx (hS.fact (k := 102) rfl)
        apply wp_seq
        apply wp_region_lit
        refine q_seq hS rfl rfl rfl (y_assign hS rfl) ?_; clear hS a; intro a hS
        refine q_seq hS rfl rfl rfl (y_assign hS rfl) ?_; clear hS a; intro a hS
        apply wpList_nil
        refine p_norm ?_
        apply wp_ret
        refine p_thenR ?_
        obtain rfl := Option.some.inj hg
        refine fin2 (fn := Try.f11) hS rfl (r_tmp hS rfl) (r_tmp hS rfl) ?_
        exact ⟨(none), (0), rfl, (SlR.nil_ _ _ _)⟩
      · replace hg := br_f hg hc40
        apply wp_skip
        refine p_norm ?_
        apply wp_seq
        apply wp_seq
        apply wp_region_lit
        refine q_seq hS rfl rfl rfl (y_assign hS rfl) ?_; clear hS a; intro a hS
        apply wpList_nil
        refine p_norm ?_
        apply wp_block
        refine c_loop (σ := Nat) (fun m2 a w => ∃ (i_42 : Nat), r27_Split_L1 n r34 m2 i_42 = some r ∧ St (⟨Try.f11.ntmps, M, noB, w0⟩ : Ctx) [(5, .slice (Au38a1) ((r34).length) (cu38a1)), (6, .int .i64 (((i_42 : Nat) : Int)))] [] [(102, slF Rep.str (Au38a1) ((r34).length) (cu38a1) (r34))] a w) (fun m2 => m2) n ⟨(0), hg, (hS.sub ⟨rfl, rfl, trivial⟩ trivial ⟨rfl, trivial⟩)⟩ ?_
        clear hS a; rintro m2 a w ⟨i_42, hg, hS⟩
        rcases m2 with _ | m2
        · rw [r27_Split_L1] at hg; cases hg
        rw [r27_Split_L1] at hg
        apply wp_seq
        apply wp_seq
        apply wp_region_lit
        refine q_seq hS rfl rfl rfl (y_move hS rfl) ?_; clear hS a; intro a hS
        refine q_seq hS rfl rfl rfl (y_move hS rfl) ?_; clear hS a; intro a hS
        refine q_seq hS rfl rfl rfl (y_lenSlice hS rfl Try.underlying23) ?_; clear hS a; intro a hS
        refine q_seq hS rfl rfl rfl (y_lssN (i := i_42) (j := ((r34).length)) hS rfl rfl) ?_; clear hS a; intro a hS
        apply wpList_nil
        refine p_norm ?_
        refine c_dec hS rfl (fun hc43 => ?_) (fun hc43 => ?_)
        · replace hg := br_t hg hc43
          have hmx44 := SlR.mx (hS.fact (k := 102) rfl)
          apply wp_skip
          refine p_norm ?_
          apply wp_seq
          apply wp_block
          apply wp_seq
          replace hg := bind_some hg; obtain ⟨x46, hx46, hg⟩ := hg
          apply wp_region_lit
          refine q_seq hS rfl rfl rfl (y_move hS rfl) ?_; clear hS a; intro a hS
          refine q_seq hS rfl rfl rfl (y_move hS rfl) ?_; clear hS a; intro a hS
          obtain ⟨p48, hep48, hpp48⟩ := SlR.elemX (hS.fact (k := 102) rfl) hx46
          refine q_seq hS rfl rfl rfl (y_elem (sz := 1) (i := i_42) hS rfl rfl Try.underlying23 rfl hep48 rfl (lt_of_get hx46)) ?_; clear hS a; intro a hS
          obtain ⟨hlq49, hmq49, csq49, hdq49, hcq49⟩ := hpp48
          obtain ⟨rfl, lq491⟩ := hdq49
          refine q_seq hS rfl rfl rfl (y_ldp1 hS rfl hlq49 hmq49 (hcq49 0 _ rfl) Try.underlying9 rfl) ?_; clear hS a; intro a hS
          refine q_seq hS rfl rfl rfl (y_lenStrN hS rfl Try.underlying9) ?_; clear hS a; intro a hS
          refine q_seq hS rfl rfl rfl (y_gtrN (i := ((x46).length)) (j := 32) hS rfl rfl) ?_; clear hS a; intro a hS
          apply wpList_nil
          refine p_norm ?_
          refine c_dec hS rfl (fun hc50 => ?_) (fun hc50 => ?_)
          · replace hg := br_t hg hc50
            have hmx51 : (x46).length ≤ 9223372036854775807 := (by first | omega | (simp only [List.length_append]; omega) | (simp only [List.length_append, List.length_take, List.length_drop, List.length_cons, List.length_nil]; omega))
            apply wp_seq
            apply wp_region_lit
            refine q_seq hS rfl rfl rfl (y_assign hS rfl) ?_; clear hS a; intro a hS
            refine q_seq hS rfl rfl rfl (y_assign hS rfl) ?_; clear hS a; intro a hS
            apply wpList_nil
            refine p_norm ?_
            apply wp_ret
            refine p_inR ?_
            refine p_thenR ?_
            refine p_thenR ?_
            refine p_inR ?_
            refine p_thenR ?_
            obtain rfl := Option.some.inj hg
            refine fin2 (fn := Try.f11) hS rfl (r_tmp hS rfl) (r_tmp hS rfl) ?_
            exact ⟨(none), (0), rfl, (SlR.nil_ _ _ _)⟩
          · replace hg := br_f hg hc50
            apply wp_skip
            refine p_inN ?_
            refine p_norm ?_
            apply wp_region_lit
            refine q_seq hS rfl rfl rfl (y_move hS rfl) ?_; clear hS a; intro a hS
            refine q_seq hS rfl rfl rfl (y_addN (i := i_42) (j := 1) hS rfl rfl (in64.2 (by omega))) ?_; clear hS a; intro a hS
            refine q_seq hS rfl rfl rfl (y_assign hS rfl) ?_; clear hS a; intro a hS
            apply wpList_nil
            refine p_norm ?_
            exact ⟨m2, Nat.lt_succ_self _, ⟨(i_42 + 1), hg, (hS.sub ⟨rfl, rfl, trivial⟩ trivial ⟨rfl, trivial⟩)⟩⟩
        · replace hg := br_f hg hc43
          apply wp_exit
          refine p_then ?_
          refine p_then ?_
          refine p_in ?_
          refine p_norm ?_
          apply wp_seq
          apply wp_region_lit
          refine q_seq hS rfl rfl rfl (y_move hS rfl) ?_; clear hS a; intro a hS
          refine q_seq hS rfl rfl rfl (y_assign hS rfl) ?_; clear hS a; intro a hS
          refine q_seq hS rfl rfl rfl (y_assign hS rfl) ?_; clear hS a; intro a hS
          apply wpList_nil
          refine p_norm ?_
          apply wp_ret
          obtain rfl := Option.some.inj hg
          refine fin2 (fn := Try.f11) hS rfl (r_tmp hS rfl) (r_tmp hS rfl) ?_
          exact ⟨(Au38a1), (cu38a1), rfl, (hS.out (k := 102) rfl)⟩
set_option maxHeartbeats 400000 in
theorem c_r01_Same (n : Nat) (M : Bs) (w0 : World) (hM : ∀ b, M b → b < w0.heap.size) (a_ : (List (List UInt8))) (Ap01 : Option Addr) (cp01 : Nat) (hp01 : SlR Rep.str M w0 Ap01 (a_).length cp01 (a_)) (b_ : (List (List UInt8))) (Ap11 : Option Addr) (cp11 : Nat) (hp11 : SlR Rep.str M w0 Ap11 (b_).length cp11 (b_)) (r : Bool) (hg : r01_Same n a_ b_ = some r) :
    Calls Try.prog 12 [.slice (Ap01) ((a_).length) (cp01), .slice (Ap11) ((b_).length) (cp11)].toArray w0 (Ret noB w0 fun v w => v = .bool (r)) := by
  unfold r01_Same at hg
  refine enter M noB Try.func12 rfl rfl hM ?_
  intro a hS
  replace hS := hS.add 101 (slF Rep.str (Ap01) ((a_).length) (cp01) (a_)) (by exact Fact.change _ enterM hp01)
  replace hS := hS.add 102 (slF Rep.str (Ap11) ((b_).length) (cp11) (b_)) (by exact Fact.change _ enterM hp11)
  apply wp_seq
  apply wp_region_lit
  refine q_seq hS rfl rfl rfl (y_assign hS rfl) ?_; clear hS a; intro a hS
  apply wpList_nil
  refine p_norm ?_
  apply wp_seq
  apply wp_seq
  apply wp_region_lit
  refine q_seq hS rfl rfl rfl (y_move hS rfl) ?_; clear hS a; intro a hS
  refine q_seq hS rfl rfl rfl (y_lenSlice hS rfl Try.underlying23) ?_; clear hS a; intro a hS
  refine q_seq hS rfl rfl rfl (y_move hS rfl) ?_; clear hS a; intro a hS
  refine q_seq hS rfl rfl rfl (y_lenSlice hS rfl Try.underlying23) ?_; clear hS a; intro a hS
  refine q_seq hS rfl rfl rfl (y_neqN (i := ((a_).length)) (j := ((b_).length)) hS rfl rfl) ?_; clear hS a; intro a hS
  apply wpList_nil
  refine p_norm ?_
  refine c_dec hS rfl (fun hc1 => ?_) (fun hc1 => ?_)
  · replace hg := br_t hg hc1
    apply wp_seq
    apply wp_region_lit
    refine q_seq hS rfl rfl rfl (y_assign hS rfl) ?_; clear hS a; intro a hS
    apply wpList_nil
    refine p_norm ?_
    apply wp_ret
    refine p_thenR ?_
    obtain rfl := Option.some.inj hg
    refine fin1 (fn := Try.f12) hS rfl (r_tmp hS rfl) ?_
    exact rfl
  · replace hg := br_f hg hc1
    apply wp_skip
    refine p_norm ?_
    apply wp_seq
    apply wp_seq
    apply wp_region_lit
    refine q_seq hS rfl rfl rfl (y_assign hS rfl) ?_; clear hS a; intro a hS
    apply wpList_nil
    refine p_norm ?_
    apply wp_block
    refine c_loop (σ := Nat) (fun m1 a w => ∃ (i_2 : Nat), r01_Same_L0 n a_ b_ m1 i_2 = some r ∧ St (⟨Try.f12.ntmps, M, noB, w0⟩ : Ctx) [(0, .slice (Ap01) ((a_).length) (cp01)), (1, .slice (Ap11) ((b_).length) (cp11)), (5, .int .i64 (((i_2 : Nat) : Int)))] [] [(101, slF Rep.str (Ap01) ((a_).length) (cp01) (a_)), (102, slF Rep.str (Ap11) ((b_).length) (cp11) (b_))] a w) (fun m1 => m1) n ⟨(0), hg, (hS.sub ⟨rfl, rfl, rfl, trivial⟩ trivial ⟨rfl, rfl, trivial⟩)⟩ ?_
    clear hS a; rintro m1 a w ⟨i_2, hg, hS⟩
    rcases m1 with _ | m1
    · rw [r01_Same_L0] at hg; cases hg
    rw [r01_Same_L0] at hg
    apply wp_seq
    apply wp_seq
    apply wp_region_lit
    refine q_seq hS rfl rfl rfl (y_move hS rfl) ?_; clear hS a; intro a hS
    refine q_seq hS rfl rfl rfl (y_move hS rfl) ?_; clear hS a; intro a hS
    refine q_seq hS rfl rfl rfl (y_lenSlice hS rfl Try.underlying23) ?_; clear hS a; intro a hS
    refine q_seq hS rfl rfl rfl (y_lssN (i := i_2) (j := ((a_).length)) hS rfl rfl) ?_; clear hS a; intro a hS
    apply wpList_nil
    refine p_norm ?_
    refine c_dec hS rfl (fun hc3 => ?_) (fun hc3 => ?_)
    · replace hg := br_t hg hc3
      have hmx4 := SlR.mx (hS.fact (k := 101) rfl)
      apply wp_skip
      refine p_norm ?_
      apply wp_seq
      apply wp_block
      apply wp_seq
      replace hg := bind_some hg; obtain ⟨x6, hx6, hg⟩ := hg
      replace hg := bind_some hg; obtain ⟨x9, hx9, hg⟩ := hg
      refine d_plan hS [] [(0, some 0), (1, some 0), (2, some 0), (3, some 0), (4, some 0), (5, some 0), (6, some 0), (7, some 0), (8, some 0)] rfl (by kernel_rfl) (by kernel_rfl) rfl ?_; clear hS; intro wr hZ hS; have hR := hS.wd
      refine q_take hS hR rfl rfl rfl rfl (y_move hS rfl) ?_; clear hS a; intro a hS
      refine q_take hS hR rfl rfl rfl rfl (y_move hS rfl) ?_; clear hS a; intro a hS
      obtain ⟨p11, hep11, hpp11⟩ := SlR.elemX (hS.fact (k := 101) rfl) hx6
      refine q_take hS hR rfl rfl rfl rfl (y_elem (sz := 1) (i := i_2) hS rfl rfl Try.underlying23 rfl hep11 rfl (lt_of_get hx6)) ?_; clear hS a; intro a hS
      obtain ⟨hlq12, hmq12, csq12, hdq12, hcq12⟩ := hpp11
      obtain ⟨rfl, lq121⟩ := hdq12
      refine q_take hS hR rfl rfl rfl rfl (y_ldp1 hS rfl hlq12 hmq12 (hcq12 0 _ rfl) Try.underlying9 rfl) ?_; clear hS a; intro a hS
      refine q_take hS hR rfl rfl rfl rfl (y_move hS rfl) ?_; clear hS a; intro a hS
      refine q_take hS hR rfl rfl rfl rfl (y_move hS rfl) ?_; clear hS a; intro a hS
      obtain ⟨p13, hep13, hpp13⟩ := SlR.elemX (hS.fact (k := 102) rfl) hx9
      refine q_take hS hR rfl rfl rfl rfl (y_elem (sz := 1) (i := i_2) hS rfl rfl Try.underlying23 rfl hep13 rfl (lt_of_get hx9)) ?_; clear hS a; intro a hS
      obtain ⟨hlq14, hmq14, csq14, hdq14, hcq14⟩ := hpp13
      obtain ⟨rfl, lq141⟩ := hdq14
      refine q_take hS hR rfl rfl rfl rfl (y_ldp1 hS rfl hlq14 hmq14 (hcq14 0 _ rfl) Try.underlying9 rfl) ?_; clear hS a; intro a hS
      refine q_take hS hR rfl rfl rfl rfl (y_sne hS rfl rfl) ?_; clear hS a; intro a hS
      clear hR hZ
      refine p_norm ?_
      refine c_dec hS rfl (fun hc15 => ?_) (fun hc15 => ?_)
      · replace hg := br_t hg hc15
        apply wp_seq
        apply wp_region_lit
        refine q_seq hS rfl rfl rfl (y_assign hS rfl) ?_; clear hS a; intro a hS
        apply wpList_nil
        refine p_norm ?_
        apply wp_ret
        refine p_inR ?_
        refine p_thenR ?_
        refine p_thenR ?_
        refine p_inR ?_
        refine p_thenR ?_
        obtain rfl := Option.some.inj hg
        refine fin1 (fn := Try.f12) hS rfl (r_tmp hS rfl) ?_
        exact rfl
      · replace hg := br_f hg hc15
        apply wp_skip
        refine p_inN ?_
        refine p_norm ?_
        apply wp_region_lit
        refine q_seq hS rfl rfl rfl (y_move hS rfl) ?_; clear hS a; intro a hS
        refine q_seq hS rfl rfl rfl (y_addN (i := i_2) (j := 1) hS rfl rfl (in64.2 (by omega))) ?_; clear hS a; intro a hS
        refine q_seq hS rfl rfl rfl (y_assign hS rfl) ?_; clear hS a; intro a hS
        apply wpList_nil
        refine p_norm ?_
        exact ⟨m1, Nat.lt_succ_self _, ⟨(i_2 + 1), hg, (hS.sub ⟨rfl, rfl, rfl, trivial⟩ trivial ⟨rfl, rfl, trivial⟩)⟩⟩
    · replace hg := br_f hg hc3
      apply wp_exit
      refine p_then ?_
      refine p_then ?_
      refine p_in ?_
      refine p_norm ?_
      apply wp_seq
      apply wp_region_lit
      refine q_seq hS rfl rfl rfl (y_assign hS rfl) ?_; clear hS a; intro a hS
      apply wpList_nil
      refine p_norm ?_
      apply wp_ret
      obtain rfl := Option.some.inj hg
      refine fin1 (fn := Try.f12) hS rfl (r_tmp hS rfl) ?_
      exact rfl
set_option maxHeartbeats 400000 in
theorem c_r27_Light (n : Nat) (M : Bs) (w0 : World) (hM : ∀ b, M b → b < w0.heap.size) (words_ : (List (List UInt8))) (Ap01 : Option Addr) (cp01 : Nat) (hp01 : SlR Rep.str M w0 Ap01 (words_).length cp01 (words_)) (r : Bool) (hg : r27_Light n words_ = some r) :
    Calls Try.prog 13 [.slice (Ap01) ((words_).length) (cp01)].toArray w0 (Ret noB w0 fun v w => v = .bool (r)) := by
  unfold r27_Light at hg
  refine enter M noB Try.func13 rfl rfl hM ?_
  intro a hS
  replace hS := hS.add 101 (slF Rep.str (Ap01) ((words_).length) (cp01) (words_)) (by exact Fact.change _ enterM hp01)
  apply wp_seq
  apply wp_region_lit
  refine q_seq hS rfl rfl rfl (y_assign hS rfl) ?_; clear hS a; intro a hS
  apply wpList_nil
  refine p_norm ?_
  apply wp_seq
  apply wp_seq
  apply wp_region_lit
  refine q_seq hS rfl rfl rfl (y_move hS rfl) ?_; clear hS a; intro a hS
  refine q_seq hS rfl rfl rfl (y_lenSlice hS rfl Try.underlying23) ?_; clear hS a; intro a hS
  refine q_seq hS rfl rfl rfl (y_gtrN (i := ((words_).length)) (j := 60) hS rfl rfl) ?_; clear hS a; intro a hS
  apply wpList_nil
  refine p_norm ?_
  refine c_dec hS rfl (fun hc1 => ?_) (fun hc1 => ?_)
  · replace hg := br_t hg hc1
    have hmx2 := SlR.mx (hS.fact (k := 101) rfl)
    apply wp_seq
    apply wp_region_lit
    refine q_seq hS rfl rfl rfl (y_assign hS rfl) ?_; clear hS a; intro a hS
    apply wpList_nil
    refine p_norm ?_
    apply wp_ret
    refine p_thenR ?_
    obtain rfl := Option.some.inj hg
    refine fin1 (fn := Try.f13) hS rfl (r_tmp hS rfl) ?_
    exact rfl
  · replace hg := br_f hg hc1
    apply wp_skip
    refine p_norm ?_
    apply wp_seq
    apply wp_seq
    apply wp_region_lit
    refine q_seq hS rfl rfl rfl (y_assign hS rfl) ?_; clear hS a; intro a hS
    apply wpList_nil
    refine p_norm ?_
    apply wp_block
    refine c_loop (σ := Nat) (fun m1 a w => ∃ (i_3 : Nat), r27_Light_L0 n words_ m1 i_3 = some r ∧ St (⟨Try.f13.ntmps, M, noB, w0⟩ : Ctx) [(0, .slice (Ap01) ((words_).length) (cp01)), (3, .int .i64 (((i_3 : Nat) : Int)))] [] [(101, slF Rep.str (Ap01) ((words_).length) (cp01) (words_))] a w) (fun m1 => m1) n ⟨(0), hg, (hS.sub ⟨rfl, rfl, trivial⟩ trivial ⟨rfl, trivial⟩)⟩ ?_
    clear hS a; rintro m1 a w ⟨i_3, hg, hS⟩
    rcases m1 with _ | m1
    · rw [r27_Light_L0] at hg; cases hg
    rw [r27_Light_L0] at hg
    apply wp_seq
    apply wp_seq
    apply wp_region_lit
    refine q_seq hS rfl rfl rfl (y_move hS rfl) ?_; clear hS a; intro a hS
    refine q_seq hS rfl rfl rfl (y_move hS rfl) ?_; clear hS a; intro a hS
    refine q_seq hS rfl rfl rfl (y_lenSlice hS rfl Try.underlying23) ?_; clear hS a; intro a hS
    refine q_seq hS rfl rfl rfl (y_lssN (i := i_3) (j := ((words_).length)) hS rfl rfl) ?_; clear hS a; intro a hS
    apply wpList_nil
    refine p_norm ?_
    refine c_dec hS rfl (fun hc4 => ?_) (fun hc4 => ?_)
    · replace hg := br_t hg hc4
      have hmx5 := SlR.mx (hS.fact (k := 101) rfl)
      apply wp_skip
      refine p_norm ?_
      apply wp_seq
      apply wp_block
      apply wp_seq
      replace hg := bind_some hg; obtain ⟨x7, hx7, hg⟩ := hg
      apply wp_region_lit
      refine q_seq hS rfl rfl rfl (y_move hS rfl) ?_; clear hS a; intro a hS
      refine q_seq hS rfl rfl rfl (y_move hS rfl) ?_; clear hS a; intro a hS
      obtain ⟨p9, hep9, hpp9⟩ := SlR.elemX (hS.fact (k := 101) rfl) hx7
      refine q_seq hS rfl rfl rfl (y_elem (sz := 1) (i := i_3) hS rfl rfl Try.underlying23 rfl hep9 rfl (lt_of_get hx7)) ?_; clear hS a; intro a hS
      obtain ⟨hlq10, hmq10, csq10, hdq10, hcq10⟩ := hpp9
      obtain ⟨rfl, lq101⟩ := hdq10
      refine q_seq hS rfl rfl rfl (y_ldp1 hS rfl hlq10 hmq10 (hcq10 0 _ rfl) Try.underlying9 rfl) ?_; clear hS a; intro a hS
      refine q_seq hS rfl rfl rfl (y_lenStrN hS rfl Try.underlying9) ?_; clear hS a; intro a hS
      refine q_seq hS rfl rfl rfl (y_gtrN (i := ((x7).length)) (j := 100) hS rfl rfl) ?_; clear hS a; intro a hS
      apply wpList_nil
      refine p_norm ?_
      refine c_dec hS rfl (fun hc11 => ?_) (fun hc11 => ?_)
      · replace hg := br_t hg hc11
        have hmx12 : (x7).length ≤ 9223372036854775807 := (by first | omega | (simp only [List.length_append]; omega) | (simp only [List.length_append, List.length_take, List.length_drop, List.length_cons, List.length_nil]; omega))
        apply wp_seq
        apply wp_region_lit
        refine q_seq hS rfl rfl rfl (y_assign hS rfl) ?_; clear hS a; intro a hS
        apply wpList_nil
        refine p_norm ?_
        apply wp_ret
        refine p_inR ?_
        refine p_thenR ?_
        refine p_thenR ?_
        refine p_inR ?_
        refine p_thenR ?_
        obtain rfl := Option.some.inj hg
        refine fin1 (fn := Try.f13) hS rfl (r_tmp hS rfl) ?_
        exact rfl
      · replace hg := br_f hg hc11
        apply wp_skip
        refine p_inN ?_
        refine p_norm ?_
        apply wp_region_lit
        refine q_seq hS rfl rfl rfl (y_move hS rfl) ?_; clear hS a; intro a hS
        refine q_seq hS rfl rfl rfl (y_addN (i := i_3) (j := 1) hS rfl rfl (in64.2 (by omega))) ?_; clear hS a; intro a hS
        refine q_seq hS rfl rfl rfl (y_assign hS rfl) ?_; clear hS a; intro a hS
        apply wpList_nil
        refine p_norm ?_
        exact ⟨m1, Nat.lt_succ_self _, ⟨(i_3 + 1), hg, (hS.sub ⟨rfl, rfl, trivial⟩ trivial ⟨rfl, trivial⟩)⟩⟩
    · replace hg := br_f hg hc4
      apply wp_exit
      refine p_then ?_
      refine p_then ?_
      refine p_in ?_
      refine p_norm ?_
      apply wp_seq
      apply wp_region_lit
      refine q_seq hS rfl rfl rfl (y_assign hS rfl) ?_; clear hS a; intro a hS
      apply wpList_nil
      refine p_norm ?_
      apply wp_ret
      obtain rfl := Option.some.inj hg
      refine fin1 (fn := Try.f13) hS rfl (r_tmp hS rfl) ?_
      exact rfl
set_option maxHeartbeats 400000 in
theorem c_token_Join (n : Nat) (M : Bs) (w0 : World) (hM : ∀ b, M b → b < w0.heap.size) (words_ : (List (List UInt8))) (Ap01 : Option Addr) (cp01 : Nat) (hp01 : SlR Rep.str M w0 Ap01 (words_).length cp01 (words_)) (r : (List UInt8)) (hg : token_Join n words_ = some r) :
    Calls Try.prog 14 [.slice (Ap01) ((words_).length) (cp01)].toArray w0 (Ret noB w0 fun v w => v = .string (bs (r)) ∧ ((r).length ≤ 9223372036854775807)) := by
  unfold token_Join at hg
  refine enter M noB Try.func14 rfl rfl hM ?_
  intro a hS
  replace hS := hS.add 101 (slF Rep.str (Ap01) ((words_).length) (cp01) (words_)) (by exact Fact.change _ enterM hp01)
  apply wp_seq
  apply wp_region_lit
  refine q_seq hS rfl rfl rfl (y_assign hS rfl) ?_; clear hS a; intro a hS
  apply wpList_nil
  refine p_norm ?_
  apply wp_seq
  replace hg := bind_some hg; obtain ⟨r1, hr1, hg⟩ := hg
  apply wp_region_lit
  refine q_seq hS rfl rfl rfl (y_move hS rfl) ?_; clear hS a; intro a hS
  refine l_seq rfl (l_call (cap := []) hS rfl Try.func27 rfl (by kernel_rfl) rfl rfl (c_strings_Join n _ _ hS.lt words_ (Ap01) (cp01) (hS.fact (k := 101) rfl) [32] (by first | omega | (simp only [List.length_append]; omega) | (simp only [List.length_append, List.length_take, List.length_drop, List.length_cons, List.length_nil]; omega)) r1 hr1) ?_); clear hS a; intro v4 a w hK hp hS
  clear hK
  obtain ⟨rfl, lu5a1⟩ := hp
  refine q_seq hS rfl rfl rfl (y_assign hS rfl) ?_; clear hS a; intro a hS
  apply wpList_nil
  refine p_norm ?_
  apply wp_ret
  obtain rfl := Option.some.inj hg
  refine fin1 (fn := Try.f14) hS rfl (r_tmp hS rfl) ?_
  exact ⟨rfl, (by first | omega | (simp only [List.length_append]; omega) | (simp only [List.length_append, List.length_take, List.length_drop, List.length_cons, List.length_nil]; omega))⟩
set_option maxHeartbeats 400000 in
theorem c_r27_Join (n : Nat) (M : Bs) (w0 : World) (hM : ∀ b, M b → b < w0.heap.size) (words_ : (List (List UInt8))) (Ap01 : Option Addr) (cp01 : Nat) (hp01 : SlR Rep.str M w0 Ap01 (words_).length cp01 (words_)) (r : (List UInt8)) (hg : r27_Join n words_ = some r) :
    Calls Try.prog 15 [.slice (Ap01) ((words_).length) (cp01)].toArray w0 (Ret noB w0 fun v w => v = .string (bs (r)) ∧ ((r).length ≤ 9223372036854775807)) := by
  unfold r27_Join at hg
  refine enter M noB Try.func15 rfl rfl hM ?_
  intro a hS
  replace hS := hS.add 101 (slF Rep.str (Ap01) ((words_).length) (cp01) (words_)) (by exact Fact.change _ enterM hp01)
  apply wp_seq
  apply wp_region_lit
  refine q_seq hS rfl rfl rfl (y_assign hS rfl) ?_; clear hS a; intro a hS
  apply wpList_nil
  refine p_norm ?_
  apply wp_seq
  apply wp_region_lit
  refine q_seq hS rfl rfl rfl (y_assign hS rfl) ?_; clear hS a; intro a hS
  apply wpList_nil
  refine p_norm ?_
  apply wp_seq
  apply wp_seq
  apply wp_region_lit
  refine q_seq hS rfl rfl rfl (y_assign hS rfl) ?_; clear hS a; intro a hS
  apply wpList_nil
  refine p_norm ?_
  apply wp_block
  refine c_loop (σ := Nat) (fun m1 a w => ∃ (s_1 : (List UInt8)), ∃ (i_2 : Nat), r27_Join_L0 n words_ m1 s_1 i_2 = some r ∧ ((s_1).length ≤ 9223372036854775807) ∧ St (⟨Try.f15.ntmps, M, noB, w0⟩ : Ctx) [(0, .slice (Ap01) ((words_).length) (cp01)), (3, .string (bs (s_1))), (4, .int .i64 (((i_2 : Nat) : Int)))] [] [(101, slF Rep.str (Ap01) ((words_).length) (cp01) (words_))] a w) (fun m1 => m1) n ⟨([]), (0), hg, (by first | omega | (simp only [List.length_append]; omega) | (simp only [List.length_append, List.length_take, List.length_drop, List.length_cons, List.length_nil]; omega)), (hS.sub ⟨rfl, rfl, rfl, trivial⟩ trivial ⟨rfl, trivial⟩)⟩ ?_
  clear hS a; rintro m1 a w ⟨s_1, i_2, hg, ls_1, hS⟩
  rcases m1 with _ | m1
  · rw [r27_Join_L0] at hg; cases hg
  rw [r27_Join_L0] at hg
  apply wp_seq
  apply wp_seq
  apply wp_region_lit
  refine q_seq hS rfl rfl rfl (y_move hS rfl) ?_; clear hS a; intro a hS
  refine q_seq hS rfl rfl rfl (y_move hS rfl) ?_; clear hS a; intro a hS
  refine q_seq hS rfl rfl rfl (y_lenSlice hS rfl Try.underlying23) ?_; clear hS a; intro a hS
  refine q_seq hS rfl rfl rfl (y_lssN (i := i_2) (j := ((words_).length)) hS rfl rfl) ?_; clear hS a; intro a hS
  apply wpList_nil
  refine p_norm ?_
  refine c_dec hS rfl (fun hc3 => ?_) (fun hc3 => ?_)
  · replace hg := br_t hg hc3
    have hmx4 := SlR.mx (hS.fact (k := 101) rfl)
    apply wp_skip
    refine p_norm ?_
    apply wp_seq
    apply wp_block
    apply wp_seq
    apply wp_seq
    apply wp_region_lit
    refine q_seq hS rfl rfl rfl (y_move hS rfl) ?_; clear hS a; intro a hS
    refine q_seq hS rfl rfl rfl (y_gtrN (i := i_2) (j := 0) hS rfl rfl) ?_; clear hS a; intro a hS
    apply wpList_nil
    refine p_norm ?_
    replace hg := jn_some hg; obtain ⟨k5, hg, hk5⟩ := hg
    refine c_post (fun a w => ∃ (s_6 : (List UInt8)), k5 s_6 = some r ∧ ((s_6).length ≤ 9223372036854775807) ∧ St (⟨Try.f15.ntmps, M, noB, w0⟩ : Ctx) [(0, .slice (Ap01) ((words_).length) (cp01)), (3, .string (bs (s_6))), (4, .int .i64 (((i_2 : Nat) : Int)))] [] [(101, slF Rep.str (Ap01) ((words_).length) (cp01) (words_))] a w) ?_ ?_
    · refine c_dec hS rfl (fun hc7 => ?_) (fun hc7 => ?_)
      · replace hg := br_t hg hc7
        replace hg := chk_some hg; obtain ⟨hk8, hg⟩ := hg
        apply wp_region_lit
        refine q_seq hS rfl rfl rfl (y_move hS rfl) ?_; clear hS a; intro a hS
        refine q_seq hS rfl rfl rfl (y_concat hS rfl rfl hk8) ?_; clear hS a; intro a hS
        refine q_seq hS rfl rfl rfl (y_assign hS rfl) ?_; clear hS a; intro a hS
        apply wpList_nil
        refine p_norm ?_
        exact ⟨(s_1 ++ [32]), hg, (by first | omega | (simp only [List.length_append]; omega) | (simp only [List.length_append, List.length_take, List.length_drop, List.length_cons, List.length_nil]; omega)), (hS.sub ⟨rfl, rfl, rfl, trivial⟩ trivial ⟨rfl, trivial⟩)⟩
      · replace hg := br_f hg hc7
        apply wp_skip
        refine p_norm ?_
        exact ⟨(s_1), hg, (by first | omega | (simp only [List.length_append]; omega) | (simp only [List.length_append, List.length_take, List.length_drop, List.length_cons, List.length_nil]; omega)), (hS.sub ⟨rfl, rfl, rfl, trivial⟩ trivial ⟨rfl, trivial⟩)⟩
    clear hS a; rintro a w ⟨s_6, hg, ls_6, hS⟩
    subst hk5
    replace hg := bind_some hg; obtain ⟨x10, hx10, hg⟩ := hg
    replace hg := chk_some hg; obtain ⟨hk12, hg⟩ := hg
    apply wp_region_lit
    refine q_seq hS rfl rfl rfl (y_move hS rfl) ?_; clear hS a; intro a hS
    refine q_seq hS rfl rfl rfl (y_move hS rfl) ?_; clear hS a; intro a hS
    refine q_seq hS rfl rfl rfl (y_move hS rfl) ?_; clear hS a; intro a hS
    obtain ⟨p13, hep13, hpp13⟩ := SlR.elemX (hS.fact (k := 101) rfl) hx10
    refine q_seq hS rfl rfl rfl (y_elem (sz := 1) (i := i_2) hS rfl rfl Try.underlying23 rfl hep13 rfl (lt_of_get hx10)) ?_; clear hS a; intro a hS
    obtain ⟨hlq14, hmq14, csq14, hdq14, hcq14⟩ := hpp13
    obtain ⟨rfl, lq141⟩ := hdq14
    refine q_seq hS rfl rfl rfl (y_ldp1 hS rfl hlq14 hmq14 (hcq14 0 _ rfl) Try.underlying9 rfl) ?_; clear hS a; intro a hS
    refine q_seq hS rfl rfl rfl (y_concat hS rfl rfl hk12) ?_; clear hS a; intro a hS
    refine q_seq hS rfl rfl rfl (y_assign hS rfl) ?_; clear hS a; intro a hS
    apply wpList_nil
    refine p_inN ?_
    refine p_norm ?_
    apply wp_region_lit
    refine q_seq hS rfl rfl rfl (y_move hS rfl) ?_; clear hS a; intro a hS
    refine q_seq hS rfl rfl rfl (y_addN (i := i_2) (j := 1) hS rfl rfl (in64.2 (by omega))) ?_; clear hS a; intro a hS
    refine q_seq hS rfl rfl rfl (y_assign hS rfl) ?_; clear hS a; intro a hS
    apply wpList_nil
    refine p_norm ?_
    exact ⟨m1, Nat.lt_succ_self _, ⟨(s_6 ++ x10), (i_2 + 1), hg, (by first | omega | (simp only [List.length_append]; omega) | (simp only [List.length_append, List.length_take, List.length_drop, List.length_cons, List.length_nil]; omega)), (hS.sub ⟨rfl, rfl, rfl, trivial⟩ trivial ⟨rfl, trivial⟩)⟩⟩
  · replace hg := br_f hg hc3
    apply wp_exit
    refine p_then ?_
    refine p_then ?_
    refine p_in ?_
    refine p_norm ?_
    apply wp_seq
    apply wp_region_lit
    refine q_seq hS rfl rfl rfl (y_move hS rfl) ?_; clear hS a; intro a hS
    refine q_seq hS rfl rfl rfl (y_assign hS rfl) ?_; clear hS a; intro a hS
    apply wpList_nil
    refine p_norm ?_
    apply wp_ret
    obtain rfl := Option.some.inj hg
    refine fin1 (fn := Try.f15) hS rfl (r_tmp hS rfl) ?_
    exact ⟨rfl, (by first | omega | (simp only [List.length_append]; omega) | (simp only [List.length_append, List.length_take, List.length_drop, List.length_cons, List.length_nil]; omega))⟩
set_option maxHeartbeats 400000 in
theorem c_text_upper (n : Nat) (M : Bs) (w0 : World) (hM : ∀ b, M b → b < w0.heap.size) (c_ : Int) (r : Bool) (hg : text_upper n c_ = some r) :
    Calls Try.prog 35 [.int .i32 (c_)].toArray w0 (Ret noB w0 fun v w => v = .bool (r)) := by
  unfold text_upper at hg
  refine enter M noB Try.func35 rfl rfl hM ?_
  intro a hS
  apply wp_seq
  apply wp_region_lit
  refine q_seq hS rfl rfl rfl (y_assign hS rfl) ?_; clear hS a; intro a hS
  apply wpList_nil
  refine p_norm ?_
  apply wp_seq
  rcases Decidable.em ((65 : Int) ≤ c_) with hs1 | hs1
  · have hs1e : decide ((65 : Int) ≤ c_) = true := decide_eq_true hs1
    replace hg := br_t hg hs1
    apply wp_region_lit
    refine q_seq hS rfl rfl rfl (y_move hS rfl) ?_; clear hS a; intro a hS
    refine q_seq hS rfl rfl rfl (yl_b (y_geq hS rfl rfl) hs1e) ?_; clear hS a; intro a hS
    refine q_seq hS rfl rfl rfl (y_move hS rfl) ?_; clear hS a; intro a hS
    refine g_yes hS rfl rfl rfl rfl (l_quiet hS rfl rfl (y_move hS rfl) ?_); clear hS a; intro a hS
    refine g_yes hS rfl rfl rfl rfl (l_quiet hS rfl rfl (y_leq hS rfl rfl) ?_); clear hS a; intro a hS
    refine q_seq hS rfl rfl rfl (y_pick_t hS rfl rfl) ?_; clear hS a; intro a hS
    refine q_seq hS rfl rfl rfl (y_assign hS rfl) ?_; clear hS a; intro a hS
    apply wpList_nil
    refine p_norm ?_
    apply wp_ret
    obtain rfl := Option.some.inj hg
    refine fin1 (fn := Try.f35) hS rfl (r_tmp hS rfl) ?_
    exact rfl
  · have hs1e : decide ((65 : Int) ≤ c_) = false := decide_eq_false hs1
    replace hg := br_f hg hs1
    apply wp_region_lit
    refine q_seq hS rfl rfl rfl (y_move hS rfl) ?_; clear hS a; intro a hS
    refine q_seq hS rfl rfl rfl (yl_b (y_geq hS rfl rfl) hs1e) ?_; clear hS a; intro a hS
    refine q_seq hS rfl rfl rfl (y_move hS rfl) ?_; clear hS a; intro a hS
    refine g_no hS rfl rfl rfl rfl rfl rfl rfl ?_; clear hS a; intro a hS
    refine g_no hS rfl rfl rfl rfl rfl rfl rfl ?_; clear hS a; intro a hS
    refine q_seq hS rfl rfl rfl (y_pick_f hS rfl rfl) ?_; clear hS a; intro a hS
    refine q_seq hS rfl rfl rfl (y_assign hS rfl) ?_; clear hS a; intro a hS
    apply wpList_nil
    refine p_norm ?_
    apply wp_ret
    obtain rfl := Option.some.inj hg
    refine fin1 (fn := Try.f35) hS rfl (r_tmp hS rfl) ?_
    exact rfl
set_option maxHeartbeats 400000 in
theorem c_text_Word (n : Nat) (M : Bs) (w0 : World) (hM : ∀ b, M b → b < w0.heap.size) (s_ : (List UInt8)) (lp01 : (s_).length ≤ 9223372036854775807) (r : Bool) (hg : text_Word n s_ = some r) :
    Calls Try.prog 28 [.string (bs (s_))].toArray w0 (Ret noB w0 fun v w => v = .bool (r)) := by
  unfold text_Word at hg
  refine enter M noB Try.func28 rfl rfl hM ?_
  intro a hS
  apply wp_seq
  apply wp_region_lit
  refine q_seq hS rfl rfl rfl (y_assign hS rfl) ?_; clear hS a; intro a hS
  apply wpList_nil
  refine p_norm ?_
  apply wp_seq
  apply wp_seq
  replace hg := jn_some hg; obtain ⟨k1, hg, hk1⟩ := hg
  refine c_post (fun a w => ∃ (t_2 : Bool), k1 t_2 = some r ∧ St (⟨Try.f28.ntmps, M, noB, w0⟩ : Ctx) [(0, .string (bs (s_))), (12, .bool (t_2))] [] [] a w) ?_ ?_
  · rcases Decidable.em (((s_).length) = 0) with hs3 | hs3
    · have hs3e : decide (((s_).length) = 0) = true := decide_eq_true hs3
      replace hg := br_t hg hs3
      apply wp_region_lit
      refine q_seq hS rfl rfl rfl (y_move hS rfl) ?_; clear hS a; intro a hS
      refine q_seq hS rfl rfl rfl (y_lenStrN hS rfl Try.underlying9) ?_; clear hS a; intro a hS
      refine q_seq hS rfl rfl rfl (yl_b (y_eqlN (i := ((s_).length)) (j := 0) hS rfl rfl) hs3e) ?_; clear hS a; intro a hS
      refine q_seq hS rfl rfl rfl (y_move hS rfl) ?_; clear hS a; intro a hS
      refine g_no hS rfl rfl rfl rfl rfl rfl rfl ?_; clear hS a; intro a hS
      refine g_no hS rfl rfl rfl rfl rfl rfl rfl ?_; clear hS a; intro a hS
      refine g_no hS rfl rfl rfl rfl rfl rfl rfl ?_; clear hS a; intro a hS
      refine q_seq hS rfl rfl rfl (y_pick_t hS rfl rfl) ?_; clear hS a; intro a hS
      apply wpList_nil
      refine p_norm ?_
      exact ⟨(true), hg, (hS.sub ⟨rfl, rfl, trivial⟩ trivial trivial)⟩
    · have hs3e : decide (((s_).length) = 0) = false := decide_eq_false hs3
      replace hg := br_f hg hs3
      apply wp_region_lit
      refine q_seq hS rfl rfl rfl (y_move hS rfl) ?_; clear hS a; intro a hS
      refine q_seq hS rfl rfl rfl (y_lenStrN hS rfl Try.underlying9) ?_; clear hS a; intro a hS
      refine q_seq hS rfl rfl rfl (yl_b (y_eqlN (i := ((s_).length)) (j := 0) hS rfl rfl) hs3e) ?_; clear hS a; intro a hS
      refine q_seq hS rfl rfl rfl (y_move hS rfl) ?_; clear hS a; intro a hS
      refine g_yes hS rfl rfl rfl rfl (l_quiet hS rfl rfl (y_move hS rfl) ?_); clear hS a; intro a hS
      refine g_yes hS rfl rfl rfl rfl (l_quiet hS rfl rfl (y_lenStrN hS rfl Try.underlying9) ?_); clear hS a; intro a hS
      refine g_yes hS rfl rfl rfl rfl (l_quiet hS rfl rfl (y_gtrN (i := ((s_).length)) (j := 32) hS rfl rfl) ?_); clear hS a; intro a hS
      refine q_seq hS rfl rfl rfl (y_pick_f hS rfl rfl) ?_; clear hS a; intro a hS
      apply wpList_nil
      refine p_norm ?_
      exact ⟨(decide ((32 : Nat) < ((s_).length))), hg, (hS.sub ⟨rfl, rfl, trivial⟩ trivial trivial)⟩
  clear hS a; rintro a w ⟨t_2, hg, hS⟩
  subst hk1
  refine c_cond hS rfl (fun hc4 => ?_) (fun hc4 => ?_)
  · replace hg := br_t hg hc4
    apply wp_seq
    apply wp_region_lit
    refine q_seq hS rfl rfl rfl (y_assign hS rfl) ?_; clear hS a; intro a hS
    apply wpList_nil
    refine p_norm ?_
    apply wp_ret
    refine p_thenR ?_
    obtain rfl := Option.some.inj hg
    refine fin1 (fn := Try.f28) hS rfl (r_tmp hS rfl) ?_
    exact rfl
  · replace hg := br_f hg (by rw [hc4]; exact Bool.false_ne_true)
    apply wp_skip
    refine p_norm ?_
    apply wp_seq
    apply wp_seq
    apply wp_region_lit
    refine q_seq hS rfl rfl rfl (y_move hS rfl) ?_; clear hS a; intro a hS
    refine l_seq rfl (l_range hS 1301 rfl Try.underlying9 rfl rfl ?_); clear hS a; intro b6 a w hb hK hS
    clear hb
    clear hK
    apply wpList_nil
    refine p_norm ?_
    apply wp_block
    refine c_loop (σ := Nat) (fun m1 a w => ∃ (pos_7 : Nat), text_Word_L0 n s_ m1 pos_7 = some r ∧ St (⟨Try.f28.ntmps, M, noB, w0⟩ : Ctx) [(14, .pointer (some ⟨b6, 0, none⟩))] [(1301, Ob.iter b6 (bs (s_)) (pos_7))] [] a w) (fun m1 => m1) n ⟨(0), hg, (hS.sub ⟨rfl, trivial⟩ ⟨rfl, trivial⟩ trivial)⟩ ?_
    clear hS a; rintro m1 a w ⟨pos_7, hg, hS⟩
    rcases m1 with _ | m1
    · rw [text_Word_L0] at hg; cases hg
    rw [text_Word_L0] at hg
    apply wp_seq
    rcases Decidable.em (pos_7 < (s_).length) with hs8 | hs8
    · have hs8e : decide (pos_7 < (s_).length) = true := decide_eq_true hs8
      replace hg := br_t hg hs8
      have hmx9 : (s_).length ≤ 9223372036854775807 := (by first | omega | (simp only [List.length_append]; omega) | (simp only [List.length_append, List.length_take, List.length_drop, List.length_cons, List.length_nil]; omega))
      apply wp_region_lit
      refine l_seq rfl (l_next hS 1301 rfl rfl hs8 rfl ?_); clear hS a; intro a w hK hS
      clear hK
      refine q_seq hS rfl rfl rfl (y_extract hS rfl rfl) ?_; clear hS a; intro a hS
      apply wpList_nil
      refine p_norm ?_
      apply wp_seq
      refine c_t hS rfl ?_
      apply wp_skip
      refine p_norm ?_
      apply wp_block
      apply wp_seq
      apply wp_region_lit
      refine q_seq hS rfl rfl rfl (y_extract hS rfl rfl) ?_; clear hS a; intro a hS
      refine q_seq hS rfl rfl rfl (y_assign hS rfl) ?_; clear hS a; intro a hS
      apply wpList_nil
      refine p_norm ?_
      apply wp_seq
      replace hg := jn_some hg; obtain ⟨k10, hg, hk10⟩ := hg
      refine c_post (fun a w => ∃ (t_11 : Bool), k10 t_11 = some r ∧ St (⟨Try.f28.ntmps, M, noB, w0⟩ : Ctx) [(14, .pointer (some ⟨b6, 0, none⟩)), (35, .bool (t_11))] [(1301, Ob.iter b6 (bs (s_)) (pos_7 + runeLen s_ pos_7))] [] a w) ?_ ?_
      · rcases Decidable.em ((runeAt s_ pos_7) < 33) with hs12 | hs12
        · have hs12e : decide ((runeAt s_ pos_7) < 33) = true := decide_eq_true hs12
          replace hg := br_t hg hs12
          apply wp_region_lit
          refine q_seq hS rfl rfl rfl (y_move hS rfl) ?_; clear hS a; intro a hS
          refine q_seq hS rfl rfl rfl (yl_b (y_lss hS rfl rfl) hs12e) ?_; clear hS a; intro a hS
          refine q_seq hS rfl rfl rfl (y_move hS rfl) ?_; clear hS a; intro a hS
          refine g_no hS rfl rfl rfl rfl rfl rfl rfl ?_; clear hS a; intro a hS
          refine g_no hS rfl rfl rfl rfl rfl rfl rfl ?_; clear hS a; intro a hS
          refine q_seq hS rfl rfl rfl (y_pick_t hS rfl rfl) ?_; clear hS a; intro a hS
          refine q_seq hS rfl rfl rfl (y_move hS rfl) ?_; clear hS a; intro a hS
          refine g_no hS rfl rfl rfl rfl rfl rfl rfl ?_; clear hS a; intro a hS
          refine g_no hS rfl rfl rfl rfl rfl rfl rfl ?_; clear hS a; intro a hS
          refine q_seq hS rfl rfl rfl (y_pick_t hS rfl rfl) ?_; clear hS a; intro a hS
          refine q_seq hS rfl rfl rfl (y_move hS rfl) ?_; clear hS a; intro a hS
          refine g_no hS rfl rfl rfl rfl rfl rfl rfl ?_; clear hS a; intro a hS
          refine g_no hS rfl rfl rfl rfl rfl rfl rfl ?_; clear hS a; intro a hS
          refine q_seq hS rfl rfl rfl (y_pick_t hS rfl rfl) ?_; clear hS a; intro a hS
          refine q_seq hS rfl rfl rfl (y_move hS rfl) ?_; clear hS a; intro a hS
          refine g_no hS rfl rfl rfl rfl rfl rfl rfl ?_; clear hS a; intro a hS
          refine g_no hS rfl rfl rfl rfl rfl rfl rfl ?_; clear hS a; intro a hS
          refine q_seq hS rfl rfl rfl (y_pick_t hS rfl rfl) ?_; clear hS a; intro a hS
          apply wpList_nil
          refine p_norm ?_
          exact ⟨(true), hg, (hS.sub ⟨rfl, rfl, trivial⟩ ⟨rfl, trivial⟩ trivial)⟩
        · have hs12e : decide ((runeAt s_ pos_7) < 33) = false := decide_eq_false hs12
          replace hg := br_f hg hs12
          rcases Decidable.em ((126 : Int) < (runeAt s_ pos_7)) with hs13 | hs13
          · have hs13e : decide ((126 : Int) < (runeAt s_ pos_7)) = true := decide_eq_true hs13
            replace hg := br_t hg hs13
            apply wp_region_lit
            refine q_seq hS rfl rfl rfl (y_move hS rfl) ?_; clear hS a; intro a hS
            refine q_seq hS rfl rfl rfl (yl_b (y_lss hS rfl rfl) hs12e) ?_; clear hS a; intro a hS
            refine q_seq hS rfl rfl rfl (y_move hS rfl) ?_; clear hS a; intro a hS
            refine g_yes hS rfl rfl rfl rfl (l_quiet hS rfl rfl (y_move hS rfl) ?_); clear hS a; intro a hS
            refine g_yes hS rfl rfl rfl rfl (l_quiet hS rfl rfl (yl_b (y_gtr hS rfl rfl) hs13e) ?_); clear hS a; intro a hS
            refine q_seq hS rfl rfl rfl (y_pick_f hS rfl rfl) ?_; clear hS a; intro a hS
            refine q_seq hS rfl rfl rfl (y_move hS rfl) ?_; clear hS a; intro a hS
            refine g_no hS rfl rfl rfl rfl rfl rfl rfl ?_; clear hS a; intro a hS
            refine g_no hS rfl rfl rfl rfl rfl rfl rfl ?_; clear hS a; intro a hS
            refine q_seq hS rfl rfl rfl (y_pick_t hS rfl rfl) ?_; clear hS a; intro a hS
            refine q_seq hS rfl rfl rfl (y_move hS rfl) ?_; clear hS a; intro a hS
            refine g_no hS rfl rfl rfl rfl rfl rfl rfl ?_; clear hS a; intro a hS
            refine g_no hS rfl rfl rfl rfl rfl rfl rfl ?_; clear hS a; intro a hS
            refine q_seq hS rfl rfl rfl (y_pick_t hS rfl rfl) ?_; clear hS a; intro a hS
            refine q_seq hS rfl rfl rfl (y_move hS rfl) ?_; clear hS a; intro a hS
            refine g_no hS rfl rfl rfl rfl rfl rfl rfl ?_; clear hS a; intro a hS
            refine g_no hS rfl rfl rfl rfl rfl rfl rfl ?_; clear hS a; intro a hS
            refine q_seq hS rfl rfl rfl (y_pick_t hS rfl rfl) ?_; clear hS a; intro a hS
            apply wpList_nil
            refine p_norm ?_
            exact ⟨(true), hg, (hS.sub ⟨rfl, rfl, trivial⟩ ⟨rfl, trivial⟩ trivial)⟩
          · have hs13e : decide ((126 : Int) < (runeAt s_ pos_7)) = false := decide_eq_false hs13
            replace hg := br_f hg hs13
            replace hg := bind_some hg; obtain ⟨r14, hr14, hg⟩ := hg
            rcases Bool.eq_false_or_eq_true (r14) with hs17 | hs17
            · replace hg := br_t hg hs17
              apply wp_region_lit
              refine q_seq hS rfl rfl rfl (y_move hS rfl) ?_; clear hS a; intro a hS
              refine q_seq hS rfl rfl rfl (yl_b (y_lss hS rfl rfl) hs12e) ?_; clear hS a; intro a hS
              refine q_seq hS rfl rfl rfl (y_move hS rfl) ?_; clear hS a; intro a hS
              refine g_yes hS rfl rfl rfl rfl (l_quiet hS rfl rfl (y_move hS rfl) ?_); clear hS a; intro a hS
              refine g_yes hS rfl rfl rfl rfl (l_quiet hS rfl rfl (yl_b (y_gtr hS rfl rfl) hs13e) ?_); clear hS a; intro a hS
              refine q_seq hS rfl rfl rfl (y_pick_f hS rfl rfl) ?_; clear hS a; intro a hS
              refine q_seq hS rfl rfl rfl (y_move hS rfl) ?_; clear hS a; intro a hS
              refine g_yes hS rfl rfl rfl rfl (l_quiet hS rfl rfl (y_move hS rfl) ?_); clear hS a; intro a hS
              refine g_yes hS rfl rfl rfl rfl (l_call (cap := []) hS rfl Try.func35 rfl (by kernel_rfl) rfl rfl (c_text_upper n _ _ hS.lt (runeAt s_ pos_7) r14 hr14) ?_); clear hS a; intro v18 a w hK hp hS
              clear hK
              obtain rfl := hp.trans (congrArg Value.bool hs17)
              refine q_seq hS rfl rfl rfl (y_pick_f hS rfl rfl) ?_; clear hS a; intro a hS
              refine q_seq hS rfl rfl rfl (y_move hS rfl) ?_; clear hS a; intro a hS
              refine g_no hS rfl rfl rfl rfl rfl rfl rfl ?_; clear hS a; intro a hS
              refine g_no hS rfl rfl rfl rfl rfl rfl rfl ?_; clear hS a; intro a hS
              refine q_seq hS rfl rfl rfl (y_pick_t hS rfl rfl) ?_; clear hS a; intro a hS
              refine q_seq hS rfl rfl rfl (y_move hS rfl) ?_; clear hS a; intro a hS
              refine g_no hS rfl rfl rfl rfl rfl rfl rfl ?_; clear hS a; intro a hS
              refine g_no hS rfl rfl rfl rfl rfl rfl rfl ?_; clear hS a; intro a hS
              refine q_seq hS rfl rfl rfl (y_pick_t hS rfl rfl) ?_; clear hS a; intro a hS
              apply wpList_nil
              refine p_norm ?_
              exact ⟨(true), hg, (hS.sub ⟨rfl, rfl, trivial⟩ ⟨rfl, trivial⟩ trivial)⟩
            · replace hg := br_f hg (by rw [hs17]; exact Bool.false_ne_true)
              rcases Decidable.em ((runeAt s_ pos_7) = 34) with hs20 | hs20
              · have hs20e : decide ((runeAt s_ pos_7) = 34) = true := decide_eq_true hs20
                replace hg := br_t hg hs20
                apply wp_region_lit
                refine q_seq hS rfl rfl rfl (y_move hS rfl) ?_; clear hS a; intro a hS
                refine q_seq hS rfl rfl rfl (yl_b (y_lss hS rfl rfl) hs12e) ?_; clear hS a; intro a hS
                refine q_seq hS rfl rfl rfl (y_move hS rfl) ?_; clear hS a; intro a hS
                refine g_yes hS rfl rfl rfl rfl (l_quiet hS rfl rfl (y_move hS rfl) ?_); clear hS a; intro a hS
                refine g_yes hS rfl rfl rfl rfl (l_quiet hS rfl rfl (yl_b (y_gtr hS rfl rfl) hs13e) ?_); clear hS a; intro a hS
                refine q_seq hS rfl rfl rfl (y_pick_f hS rfl rfl) ?_; clear hS a; intro a hS
                refine q_seq hS rfl rfl rfl (y_move hS rfl) ?_; clear hS a; intro a hS
                refine g_yes hS rfl rfl rfl rfl (l_quiet hS rfl rfl (y_move hS rfl) ?_); clear hS a; intro a hS
                refine g_yes hS rfl rfl rfl rfl (l_call (cap := []) hS rfl Try.func35 rfl (by kernel_rfl) rfl rfl (c_text_upper n _ _ hS.lt (runeAt s_ pos_7) r14 hr14) ?_); clear hS a; intro v21 a w hK hp hS
                clear hK
                obtain rfl := hp.trans (congrArg Value.bool hs17)
                refine q_seq hS rfl rfl rfl (y_pick_f hS rfl rfl) ?_; clear hS a; intro a hS
                refine q_seq hS rfl rfl rfl (y_move hS rfl) ?_; clear hS a; intro a hS
                refine g_yes hS rfl rfl rfl rfl (l_quiet hS rfl rfl (y_move hS rfl) ?_); clear hS a; intro a hS
                refine g_yes hS rfl rfl rfl rfl (l_quiet hS rfl rfl (yl_b (y_eql hS rfl rfl) hs20e) ?_); clear hS a; intro a hS
                refine q_seq hS rfl rfl rfl (y_pick_f hS rfl rfl) ?_; clear hS a; intro a hS
                refine q_seq hS rfl rfl rfl (y_move hS rfl) ?_; clear hS a; intro a hS
                refine g_no hS rfl rfl rfl rfl rfl rfl rfl ?_; clear hS a; intro a hS
                refine g_no hS rfl rfl rfl rfl rfl rfl rfl ?_; clear hS a; intro a hS
                refine q_seq hS rfl rfl rfl (y_pick_t hS rfl rfl) ?_; clear hS a; intro a hS
                apply wpList_nil
                refine p_norm ?_
                exact ⟨(true), hg, (hS.sub ⟨rfl, rfl, trivial⟩ ⟨rfl, trivial⟩ trivial)⟩
              · have hs20e : decide ((runeAt s_ pos_7) = 34) = false := decide_eq_false hs20
                replace hg := br_f hg hs20
                apply wp_region_lit
                refine q_seq hS rfl rfl rfl (y_move hS rfl) ?_; clear hS a; intro a hS
                refine q_seq hS rfl rfl rfl (yl_b (y_lss hS rfl rfl) hs12e) ?_; clear hS a; intro a hS
                refine q_seq hS rfl rfl rfl (y_move hS rfl) ?_; clear hS a; intro a hS
                refine g_yes hS rfl rfl rfl rfl (l_quiet hS rfl rfl (y_move hS rfl) ?_); clear hS a; intro a hS
                refine g_yes hS rfl rfl rfl rfl (l_quiet hS rfl rfl (yl_b (y_gtr hS rfl rfl) hs13e) ?_); clear hS a; intro a hS
                refine q_seq hS rfl rfl rfl (y_pick_f hS rfl rfl) ?_; clear hS a; intro a hS
                refine q_seq hS rfl rfl rfl (y_move hS rfl) ?_; clear hS a; intro a hS
                refine g_yes hS rfl rfl rfl rfl (l_quiet hS rfl rfl (y_move hS rfl) ?_); clear hS a; intro a hS
                refine g_yes hS rfl rfl rfl rfl (l_call (cap := []) hS rfl Try.func35 rfl (by kernel_rfl) rfl rfl (c_text_upper n _ _ hS.lt (runeAt s_ pos_7) r14 hr14) ?_); clear hS a; intro v23 a w hK hp hS
                clear hK
                obtain rfl := hp.trans (congrArg Value.bool hs17)
                refine q_seq hS rfl rfl rfl (y_pick_f hS rfl rfl) ?_; clear hS a; intro a hS
                refine q_seq hS rfl rfl rfl (y_move hS rfl) ?_; clear hS a; intro a hS
                refine g_yes hS rfl rfl rfl rfl (l_quiet hS rfl rfl (y_move hS rfl) ?_); clear hS a; intro a hS
                refine g_yes hS rfl rfl rfl rfl (l_quiet hS rfl rfl (yl_b (y_eql hS rfl rfl) hs20e) ?_); clear hS a; intro a hS
                refine q_seq hS rfl rfl rfl (y_pick_f hS rfl rfl) ?_; clear hS a; intro a hS
                refine q_seq hS rfl rfl rfl (y_move hS rfl) ?_; clear hS a; intro a hS
                refine g_yes hS rfl rfl rfl rfl (l_quiet hS rfl rfl (y_move hS rfl) ?_); clear hS a; intro a hS
                refine g_yes hS rfl rfl rfl rfl (l_quiet hS rfl rfl (y_eql hS rfl rfl) ?_); clear hS a; intro a hS
                refine q_seq hS rfl rfl rfl (y_pick_f hS rfl rfl) ?_; clear hS a; intro a hS
                apply wpList_nil
                refine p_norm ?_
                exact ⟨(decide ((runeAt s_ pos_7) = 92)), hg, (hS.sub ⟨rfl, rfl, trivial⟩ ⟨rfl, trivial⟩ trivial)⟩
      clear hS a; rintro a w ⟨t_11, hg, hS⟩
      subst hk10
      refine c_cond hS rfl (fun hc25 => ?_) (fun hc25 => ?_)
      · replace hg := br_t hg hc25
        apply wp_seq
        apply wp_region_lit
        refine q_seq hS rfl rfl rfl (y_assign hS rfl) ?_; clear hS a; intro a hS
        apply wpList_nil
        refine p_norm ?_
        apply wp_ret
        refine p_inR ?_
        refine p_thenR ?_
        refine p_inR ?_
        refine p_thenR ?_
        obtain rfl := Option.some.inj hg
        refine fin1 (fn := Try.f28) hS rfl (r_tmp hS rfl) ?_
        exact rfl
      · replace hg := br_f hg (by rw [hc25]; exact Bool.false_ne_true)
        apply wp_skip
        refine p_inN ?_
        refine p_norm ?_
        exact ⟨m1, Nat.lt_succ_self _, ⟨(pos_7 + runeLen s_ pos_7), hg, (hS.sub ⟨rfl, trivial⟩ ⟨rfl, trivial⟩ trivial)⟩⟩
    · have hs8e : decide (pos_7 < (s_).length) = false := decide_eq_false hs8
      replace hg := br_f hg hs8
      apply wp_region_lit
      refine l_seq rfl (l_nextE hS 1301 rfl rfl hs8 rfl ?_); clear hS a; intro a w hK hS
      clear hK
      refine q_seq hS rfl rfl rfl (y_extract hS rfl rfl) ?_; clear hS a; intro a hS
      apply wpList_nil
      refine p_norm ?_
      apply wp_seq
      refine c_f hS rfl ?_
      apply wp_exit
      refine p_then ?_
      refine p_then ?_
      refine p_in ?_
      refine p_norm ?_
      apply wp_seq
      apply wp_region_lit
      refine q_seq hS rfl rfl rfl (y_assign hS rfl) ?_; clear hS a; intro a hS
      apply wpList_nil
      refine p_norm ?_
      apply wp_ret
      obtain rfl := Option.some.inj hg
      refine fin1 (fn := Try.f28) hS rfl (r_tmp hS rfl) ?_
      exact rfl
set_option maxHeartbeats 400000 in
theorem c_token_Check (n : Nat) (M : Bs) (w0 : World) (hM : ∀ b, M b → b < w0.heap.size) (words_ : (List (List UInt8))) (Ap01 : Option Addr) (cp01 : Nat) (hp01 : SlR Rep.str M w0 Ap01 (words_).length cp01 (words_)) (r : Int) (hg : token_Check n words_ = some r) :
    Calls Try.prog 16 [.slice (Ap01) ((words_).length) (cp01)].toArray w0 (Ret noB w0 fun v w => v = .int .i64 (r)) := by
  unfold token_Check at hg
  refine enter M noB Try.func16 rfl rfl hM ?_
  intro a hS
  replace hS := hS.add 101 (slF Rep.str (Ap01) ((words_).length) (cp01) (words_)) (by exact Fact.change _ enterM hp01)
  apply wp_seq
  apply wp_region_lit
  refine q_seq hS rfl rfl rfl (y_assign hS rfl) ?_; clear hS a; intro a hS
  apply wpList_nil
  refine p_norm ?_
  apply wp_seq
  apply wp_seq
  apply wp_region_lit
  refine q_seq hS rfl rfl rfl (y_move hS rfl) ?_; clear hS a; intro a hS
  refine q_seq hS rfl rfl rfl (y_lenSlice hS rfl Try.underlying23) ?_; clear hS a; intro a hS
  refine q_seq hS rfl rfl rfl (y_eqlN (i := ((words_).length)) (j := 0) hS rfl rfl) ?_; clear hS a; intro a hS
  apply wpList_nil
  refine p_norm ?_
  refine c_dec hS rfl (fun hc1 => ?_) (fun hc1 => ?_)
  · replace hg := br_t hg hc1
    apply wp_seq
    apply wp_region_lit
    refine q_seq hS rfl rfl rfl (y_assign hS rfl) ?_; clear hS a; intro a hS
    apply wpList_nil
    refine p_norm ?_
    apply wp_ret
    refine p_thenR ?_
    obtain rfl := Option.some.inj hg
    refine fin1 (fn := Try.f16) hS rfl (r_tmp hS rfl) ?_
    exact rfl
  · replace hg := br_f hg hc1
    apply wp_skip
    refine p_norm ?_
    apply wp_seq
    apply wp_seq
    apply wp_region_lit
    refine q_seq hS rfl rfl rfl (y_move hS rfl) ?_; clear hS a; intro a hS
    refine q_seq hS rfl rfl rfl (y_lenSlice hS rfl Try.underlying23) ?_; clear hS a; intro a hS
    refine q_seq hS rfl rfl rfl (y_gtrN (i := ((words_).length)) (j := 32) hS rfl rfl) ?_; clear hS a; intro a hS
    apply wpList_nil
    refine p_norm ?_
    refine c_dec hS rfl (fun hc2 => ?_) (fun hc2 => ?_)
    · replace hg := br_t hg hc2
      have hmx3 := SlR.mx (hS.fact (k := 101) rfl)
      apply wp_seq
      apply wp_region_lit
      refine q_seq hS rfl rfl rfl (y_assign hS rfl) ?_; clear hS a; intro a hS
      apply wpList_nil
      refine p_norm ?_
      apply wp_ret
      refine p_thenR ?_
      obtain rfl := Option.some.inj hg
      refine fin1 (fn := Try.f16) hS rfl (r_tmp hS rfl) ?_
      exact rfl
    · replace hg := br_f hg hc2
      apply wp_skip
      refine p_norm ?_
      apply wp_seq
      apply wp_seq
      apply wp_region_lit
      refine q_seq hS rfl rfl rfl (y_move hS rfl) ?_; clear hS a; intro a hS
      refine q_seq hS rfl rfl rfl (y_lenSlice hS rfl Try.underlying23) ?_; clear hS a; intro a hS
      refine q_seq hS rfl rfl rfl (y_move hS rfl) ?_; clear hS a; intro a hS
      apply wpList_nil
      refine p_norm ?_
      apply wp_block
      refine c_loop (σ := Nat) (fun m1 a w => ∃ (t_4 : Nat), token_Check_L0 n words_ m1 t_4 = some r ∧ St (⟨Try.f16.ntmps, M, noB, w0⟩ : Ctx) [(11, .slice (Ap01) ((words_).length) (cp01)), (12, .int .i64 ((((words_).length : Nat) : Int))), (13, .int .i64 (((t_4 : Nat) : Int)))] [] [(101, slF Rep.str (Ap01) ((words_).length) (cp01) (words_))] a w) (fun m1 => m1) n ⟨(0), hg, (hS.sub ⟨rfl, rfl, rfl, trivial⟩ trivial ⟨rfl, trivial⟩)⟩ ?_
      clear hS a; rintro m1 a w ⟨t_4, hg, hS⟩
      rcases m1 with _ | m1
      · rw [token_Check_L0] at hg; cases hg
      rw [token_Check_L0] at hg
      apply wp_seq
      apply wp_region_lit
      refine q_seq hS rfl rfl rfl (y_lssN (i := t_4) (j := ((words_).length)) hS rfl rfl) ?_; clear hS a; intro a hS
      apply wpList_nil
      refine p_norm ?_
      apply wp_seq
      refine c_dec hS rfl (fun hc5 => ?_) (fun hc5 => ?_)
      · replace hg := br_t hg hc5
        have hmx6 := SlR.mx (hS.fact (k := 101) rfl)
        apply wp_skip
        refine p_norm ?_
        apply wp_seq
        apply wp_block
        apply wp_seq
        replace hg := bind_some hg; obtain ⟨x8, hx8, hg⟩ := hg
        apply wp_region_lit
        obtain ⟨p10, hep10, hpp10⟩ := SlR.elemX (hS.fact (k := 101) rfl) hx8
        refine q_seq hS rfl rfl rfl (y_elem (sz := 1) (i := t_4) hS rfl rfl Try.underlying23 rfl hep10 rfl (lt_of_get hx8)) ?_; clear hS a; intro a hS
        obtain ⟨hlq11, hmq11, csq11, hdq11, hcq11⟩ := hpp10
        obtain ⟨rfl, lq111⟩ := hdq11
        refine q_seq hS rfl rfl rfl (y_ldp1 hS rfl hlq11 hmq11 (hcq11 0 _ rfl) Try.underlying9 rfl) ?_; clear hS a; intro a hS
        refine q_seq hS rfl rfl rfl (y_assign hS rfl) ?_; clear hS a; intro a hS
        apply wpList_nil
        refine p_norm ?_
        apply wp_seq
        replace hg := bind_some hg; obtain ⟨r12, hr12, hg⟩ := hg
        apply wp_region_lit
        refine q_seq hS rfl rfl rfl (y_move hS rfl) ?_; clear hS a; intro a hS
        refine l_seq rfl (l_call (cap := []) hS rfl Try.func28 rfl (by kernel_rfl) rfl rfl (c_text_Word n _ _ hS.lt x8 (by first | omega | (simp only [List.length_append]; omega) | (simp only [List.length_append, List.length_take, List.length_drop, List.length_cons, List.length_nil]; omega)) r12 hr12) ?_); clear hS a; intro v15 a w hK hp hS
        clear hK
        obtain rfl := hp
        refine q_seq hS rfl rfl rfl (y_not hS rfl) ?_; clear hS a; intro a hS
        apply wpList_nil
        refine p_norm ?_
        refine c_cond hS rfl (fun hc17 => ?_) (fun hc17 => ?_)
        · replace hg := br_t hg hc17
          apply wp_seq
          apply wp_region_lit
          refine q_seq hS rfl rfl rfl (y_assign hS rfl) ?_; clear hS a; intro a hS
          apply wpList_nil
          refine p_norm ?_
          apply wp_ret
          refine p_inR ?_
          refine p_thenR ?_
          refine p_thenR ?_
          refine p_inR ?_
          refine p_thenR ?_
          obtain rfl := Option.some.inj hg
          refine fin1 (fn := Try.f16) hS rfl (r_tmp hS rfl) ?_
          exact rfl
        · replace hg := br_f hg (by rw [hc17]; exact Bool.false_ne_true)
          apply wp_skip
          refine p_inN ?_
          refine p_norm ?_
          apply wp_region_lit
          refine q_seq hS rfl rfl rfl (y_addN (i := t_4) (j := 1) hS rfl rfl (in64.2 (by omega))) ?_; clear hS a; intro a hS
          refine q_seq hS rfl rfl rfl (y_move hS rfl) ?_; clear hS a; intro a hS
          apply wpList_nil
          refine p_norm ?_
          exact ⟨m1, Nat.lt_succ_self _, ⟨(t_4 + 1), hg, (hS.sub ⟨rfl, rfl, rfl, trivial⟩ trivial ⟨rfl, trivial⟩)⟩⟩
      · replace hg := br_f hg hc5
        apply wp_exit
        refine p_then ?_
        refine p_then ?_
        refine p_in ?_
        refine p_norm ?_
        apply wp_seq
        apply wp_region_lit
        refine q_seq hS rfl rfl rfl (y_assign hS rfl) ?_; clear hS a; intro a hS
        apply wpList_nil
        refine p_norm ?_
        apply wp_ret
        obtain rfl := Option.some.inj hg
        refine fin1 (fn := Try.f16) hS rfl (r_tmp hS rfl) ?_
        exact rfl
set_option maxHeartbeats 400000 in
theorem c_r01_upper (n : Nat) (M : Bs) (w0 : World) (hM : ∀ b, M b → b < w0.heap.size) (c_ : UInt8) (r : Bool) (hg : r01_upper n c_ = some r) :
    Calls Try.prog 36 [.int .u8 (((c_.toNat : Nat) : Int))].toArray w0 (Ret noB w0 fun v w => v = .bool (r)) := by
  unfold r01_upper at hg
  refine enter M noB Try.func36 rfl rfl hM ?_
  intro a hS
  apply wp_seq
  apply wp_region_lit
  refine q_seq hS rfl rfl rfl (y_assign hS rfl) ?_; clear hS a; intro a hS
  apply wpList_nil
  refine p_norm ?_
  apply wp_seq
  rcases Decidable.em ((65 : Nat) ≤ c_.toNat) with hs1 | hs1
  · have hs1e : decide ((65 : Nat) ≤ c_.toNat) = true := decide_eq_true hs1
    replace hg := br_t hg hs1
    apply wp_region_lit
    refine q_seq hS rfl rfl rfl (y_move hS rfl) ?_; clear hS a; intro a hS
    refine q_seq hS rfl rfl rfl (yl_b (y_geqN (i := c_.toNat) (j := 65) hS rfl rfl) hs1e) ?_; clear hS a; intro a hS
    refine q_seq hS rfl rfl rfl (y_move hS rfl) ?_; clear hS a; intro a hS
    refine g_yes hS rfl rfl rfl rfl (l_quiet hS rfl rfl (y_move hS rfl) ?_); clear hS a; intro a hS
    refine g_yes hS rfl rfl rfl rfl (l_quiet hS rfl rfl (y_leqN (i := c_.toNat) (j := 90) hS rfl rfl) ?_); clear hS a; intro a hS
    refine q_seq hS rfl rfl rfl (y_pick_t hS rfl rfl) ?_; clear hS a; intro a hS
    refine q_seq hS rfl rfl rfl (y_assign hS rfl) ?_; clear hS a; intro a hS
    apply wpList_nil
    refine p_norm ?_
    apply wp_ret
    obtain rfl := Option.some.inj hg
    refine fin1 (fn := Try.f36) hS rfl (r_tmp hS rfl) ?_
    exact rfl
  · have hs1e : decide ((65 : Nat) ≤ c_.toNat) = false := decide_eq_false hs1
    replace hg := br_f hg hs1
    apply wp_region_lit
    refine q_seq hS rfl rfl rfl (y_move hS rfl) ?_; clear hS a; intro a hS
    refine q_seq hS rfl rfl rfl (yl_b (y_geqN (i := c_.toNat) (j := 65) hS rfl rfl) hs1e) ?_; clear hS a; intro a hS
    refine q_seq hS rfl rfl rfl (y_move hS rfl) ?_; clear hS a; intro a hS
    refine g_no hS rfl rfl rfl rfl rfl rfl rfl ?_; clear hS a; intro a hS
    refine g_no hS rfl rfl rfl rfl rfl rfl rfl ?_; clear hS a; intro a hS
    refine q_seq hS rfl rfl rfl (y_pick_f hS rfl rfl) ?_; clear hS a; intro a hS
    refine q_seq hS rfl rfl rfl (y_assign hS rfl) ?_; clear hS a; intro a hS
    apply wpList_nil
    refine p_norm ?_
    apply wp_ret
    obtain rfl := Option.some.inj hg
    refine fin1 (fn := Try.f36) hS rfl (r_tmp hS rfl) ?_
    exact rfl
set_option maxHeartbeats 400000 in
theorem c_r01_Word (n : Nat) (M : Bs) (w0 : World) (hM : ∀ b, M b → b < w0.heap.size) (s_ : (List UInt8)) (lp01 : (s_).length ≤ 9223372036854775807) (r : Bool) (hg : r01_Word n s_ = some r) :
    Calls Try.prog 29 [.string (bs (s_))].toArray w0 (Ret noB w0 fun v w => v = .bool (r)) := by
  unfold r01_Word at hg
  refine enter M noB Try.func29 rfl rfl hM ?_
  intro a hS
  apply wp_seq
  apply wp_region_lit
  refine q_seq hS rfl rfl rfl (y_assign hS rfl) ?_; clear hS a; intro a hS
  apply wpList_nil
  refine p_norm ?_
  apply wp_seq
  apply wp_seq
  replace hg := jn_some hg; obtain ⟨k1, hg, hk1⟩ := hg
  refine c_post (fun a w => ∃ (t_2 : Bool), k1 t_2 = some r ∧ St (⟨Try.f29.ntmps, M, noB, w0⟩ : Ctx) [(0, .string (bs (s_))), (11, .bool (t_2))] [] [] a w) ?_ ?_
  · rcases Decidable.em (((s_).length) < 1) with hs3 | hs3
    · have hs3e : decide (((s_).length) < 1) = true := decide_eq_true hs3
      replace hg := br_t hg hs3
      apply wp_region_lit
      refine q_seq hS rfl rfl rfl (y_move hS rfl) ?_; clear hS a; intro a hS
      refine q_seq hS rfl rfl rfl (y_lenStrN hS rfl Try.underlying9) ?_; clear hS a; intro a hS
      refine q_seq hS rfl rfl rfl (yl_b (y_lssN (i := ((s_).length)) (j := 1) hS rfl rfl) hs3e) ?_; clear hS a; intro a hS
      refine q_seq hS rfl rfl rfl (y_move hS rfl) ?_; clear hS a; intro a hS
      refine g_no hS rfl rfl rfl rfl rfl rfl rfl ?_; clear hS a; intro a hS
      refine g_no hS rfl rfl rfl rfl rfl rfl rfl ?_; clear hS a; intro a hS
      refine g_no hS rfl rfl rfl rfl rfl rfl rfl ?_; clear hS a; intro a hS
      refine q_seq hS rfl rfl rfl (y_pick_t hS rfl rfl) ?_; clear hS a; intro a hS
      apply wpList_nil
      refine p_norm ?_
      exact ⟨(true), hg, (hS.sub ⟨rfl, rfl, trivial⟩ trivial trivial)⟩
    · have hs3e : decide (((s_).length) < 1) = false := decide_eq_false hs3
      replace hg := br_f hg hs3
      apply wp_region_lit
      refine q_seq hS rfl rfl rfl (y_move hS rfl) ?_; clear hS a; intro a hS
      refine q_seq hS rfl rfl rfl (y_lenStrN hS rfl Try.underlying9) ?_; clear hS a; intro a hS
      refine q_seq hS rfl rfl rfl (yl_b (y_lssN (i := ((s_).length)) (j := 1) hS rfl rfl) hs3e) ?_; clear hS a; intro a hS
      refine q_seq hS rfl rfl rfl (y_move hS rfl) ?_; clear hS a; intro a hS
      refine g_yes hS rfl rfl rfl rfl (l_quiet hS rfl rfl (y_move hS rfl) ?_); clear hS a; intro a hS
      refine g_yes hS rfl rfl rfl rfl (l_quiet hS rfl rfl (y_lenStrN hS rfl Try.underlying9) ?_); clear hS a; intro a hS
      refine g_yes hS rfl rfl rfl rfl (l_quiet hS rfl rfl (y_gtrN (i := ((s_).length)) (j := 32) hS rfl rfl) ?_); clear hS a; intro a hS
      refine q_seq hS rfl rfl rfl (y_pick_f hS rfl rfl) ?_; clear hS a; intro a hS
      apply wpList_nil
      refine p_norm ?_
      exact ⟨(decide ((32 : Nat) < ((s_).length))), hg, (hS.sub ⟨rfl, rfl, trivial⟩ trivial trivial)⟩
  clear hS a; rintro a w ⟨t_2, hg, hS⟩
  subst hk1
  refine c_cond hS rfl (fun hc4 => ?_) (fun hc4 => ?_)
  · replace hg := br_t hg hc4
    apply wp_seq
    apply wp_region_lit
    refine q_seq hS rfl rfl rfl (y_assign hS rfl) ?_; clear hS a; intro a hS
    apply wpList_nil
    refine p_norm ?_
    apply wp_ret
    refine p_thenR ?_
    obtain rfl := Option.some.inj hg
    refine fin1 (fn := Try.f29) hS rfl (r_tmp hS rfl) ?_
    exact rfl
  · replace hg := br_f hg (by rw [hc4]; exact Bool.false_ne_true)
    apply wp_skip
    refine p_norm ?_
    apply wp_seq
    apply wp_seq
    apply wp_region_lit
    refine q_seq hS rfl rfl rfl (y_assign hS rfl) ?_; clear hS a; intro a hS
    apply wpList_nil
    refine p_norm ?_
    apply wp_block
    refine c_loop (σ := Nat) (fun m1 a w => ∃ (i_5 : Nat), r01_Word_L0 n s_ m1 i_5 = some r ∧ St (⟨Try.f29.ntmps, M, noB, w0⟩ : Ctx) [(0, .string (bs (s_))), (3, .int .i64 (((i_5 : Nat) : Int)))] [] [] a w) (fun m1 => m1) n ⟨(0), hg, (hS.sub ⟨rfl, rfl, trivial⟩ trivial trivial)⟩ ?_
    clear hS a; rintro m1 a w ⟨i_5, hg, hS⟩
    rcases m1 with _ | m1
    · rw [r01_Word_L0] at hg; cases hg
    rw [r01_Word_L0] at hg
    apply wp_seq
    apply wp_seq
    apply wp_region_lit
    refine q_seq hS rfl rfl rfl (y_move hS rfl) ?_; clear hS a; intro a hS
    refine q_seq hS rfl rfl rfl (y_move hS rfl) ?_; clear hS a; intro a hS
    refine q_seq hS rfl rfl rfl (y_lenStrN hS rfl Try.underlying9) ?_; clear hS a; intro a hS
    refine q_seq hS rfl rfl rfl (y_lssN (i := i_5) (j := ((s_).length)) hS rfl rfl) ?_; clear hS a; intro a hS
    apply wpList_nil
    refine p_norm ?_
    refine c_dec hS rfl (fun hc6 => ?_) (fun hc6 => ?_)
    · replace hg := br_t hg hc6
      have hmx7 : (s_).length ≤ 9223372036854775807 := (by first | omega | (simp only [List.length_append]; omega) | (simp only [List.length_append, List.length_take, List.length_drop, List.length_cons, List.length_nil]; omega))
      apply wp_skip
      refine p_norm ?_
      apply wp_seq
      apply wp_block
      apply wp_seq
      replace hg := jn_some hg; obtain ⟨k8, hg, hk8⟩ := hg
      refine c_post (fun a w => ∃ (t_9 : Bool), k8 t_9 = some r ∧ St (⟨Try.f29.ntmps, M, noB, w0⟩ : Ctx) [(0, .string (bs (s_))), (3, .int .i64 (((i_5 : Nat) : Int))), (45, .bool (t_9))] [] [] a w) ?_ ?_
      · replace hg := bind_some hg; obtain ⟨c10, hc10, hg⟩ := hg
        rcases Decidable.em (c10.toNat < 33) with hs11 | hs11
        · have hs11e : decide (c10.toNat < 33) = true := decide_eq_true hs11
          replace hg := br_t hg hs11
          apply wp_region_lit
          refine q_seq hS rfl rfl rfl (y_move hS rfl) ?_; clear hS a; intro a hS
          refine q_seq hS rfl rfl rfl (y_move hS rfl) ?_; clear hS a; intro a hS
          refine q_seq hS rfl rfl rfl (y_indexN (i := i_5) hS rfl rfl Try.underlying9 rfl hc10) ?_; clear hS a; intro a hS
          refine q_seq hS rfl rfl rfl (yl_b (y_lssN (i := c10.toNat) (j := 33) hS rfl rfl) hs11e) ?_; clear hS a; intro a hS
          refine q_seq hS rfl rfl rfl (y_move hS rfl) ?_; clear hS a; intro a hS
          refine g_no hS rfl rfl rfl rfl rfl rfl rfl ?_; clear hS a; intro a hS
          refine g_no hS rfl rfl rfl rfl rfl rfl rfl ?_; clear hS a; intro a hS
          refine g_no hS rfl rfl rfl rfl rfl rfl rfl ?_; clear hS a; intro a hS
          refine g_no hS rfl rfl rfl rfl rfl rfl rfl ?_; clear hS a; intro a hS
          refine q_seq hS rfl rfl rfl (y_pick_t hS rfl rfl) ?_; clear hS a; intro a hS
          refine q_seq hS rfl rfl rfl (y_move hS rfl) ?_; clear hS a; intro a hS
          refine g_no hS rfl rfl rfl rfl rfl rfl rfl ?_; clear hS a; intro a hS
          refine g_no hS rfl rfl rfl rfl rfl rfl rfl ?_; clear hS a; intro a hS
          refine g_no hS rfl rfl rfl rfl rfl rfl rfl ?_; clear hS a; intro a hS
          refine g_no hS rfl rfl rfl rfl rfl rfl rfl ?_; clear hS a; intro a hS
          refine q_seq hS rfl rfl rfl (y_pick_t hS rfl rfl) ?_; clear hS a; intro a hS
          refine q_seq hS rfl rfl rfl (y_move hS rfl) ?_; clear hS a; intro a hS
          refine g_no hS rfl rfl rfl rfl rfl rfl rfl ?_; clear hS a; intro a hS
          refine g_no hS rfl rfl rfl rfl rfl rfl rfl ?_; clear hS a; intro a hS
          refine g_no hS rfl rfl rfl rfl rfl rfl rfl ?_; clear hS a; intro a hS
          refine g_no hS rfl rfl rfl rfl rfl rfl rfl ?_; clear hS a; intro a hS
          refine q_seq hS rfl rfl rfl (y_pick_t hS rfl rfl) ?_; clear hS a; intro a hS
          refine q_seq hS rfl rfl rfl (y_move hS rfl) ?_; clear hS a; intro a hS
          refine g_no hS rfl rfl rfl rfl rfl rfl rfl ?_; clear hS a; intro a hS
          refine g_no hS rfl rfl rfl rfl rfl rfl rfl ?_; clear hS a; intro a hS
          refine g_no hS rfl rfl rfl rfl rfl rfl rfl ?_; clear hS a; intro a hS
          refine g_no hS rfl rfl rfl rfl rfl rfl rfl ?_; clear hS a; intro a hS
          refine q_seq hS rfl rfl rfl (y_pick_t hS rfl rfl) ?_; clear hS a; intro a hS
          apply wpList_nil
          refine p_norm ?_
          exact ⟨(true), hg, (hS.sub ⟨rfl, rfl, rfl, trivial⟩ trivial trivial)⟩
        · have hs11e : decide (c10.toNat < 33) = false := decide_eq_false hs11
          replace hg := br_f hg hs11
          rcases Decidable.em ((126 : Nat) < c10.toNat) with hs12 | hs12
          · have hs12e : decide ((126 : Nat) < c10.toNat) = true := decide_eq_true hs12
            replace hg := br_t hg hs12
            apply wp_region_lit
            refine q_seq hS rfl rfl rfl (y_move hS rfl) ?_; clear hS a; intro a hS
            refine q_seq hS rfl rfl rfl (y_move hS rfl) ?_; clear hS a; intro a hS
            refine q_seq hS rfl rfl rfl (y_indexN (i := i_5) hS rfl rfl Try.underlying9 rfl hc10) ?_; clear hS a; intro a hS
            refine q_seq hS rfl rfl rfl (yl_b (y_lssN (i := c10.toNat) (j := 33) hS rfl rfl) hs11e) ?_; clear hS a; intro a hS
            refine q_seq hS rfl rfl rfl (y_move hS rfl) ?_; clear hS a; intro a hS
            refine g_yes hS rfl rfl rfl rfl (l_quiet hS rfl rfl (y_move hS rfl) ?_); clear hS a; intro a hS
            refine g_yes hS rfl rfl rfl rfl (l_quiet hS rfl rfl (y_move hS rfl) ?_); clear hS a; intro a hS
            refine g_yes hS rfl rfl rfl rfl (l_quiet hS rfl rfl (y_indexN (i := i_5) hS rfl rfl Try.underlying9 rfl hc10) ?_); clear hS a; intro a hS
            refine g_yes hS rfl rfl rfl rfl (l_quiet hS rfl rfl (yl_b (y_gtrN (i := c10.toNat) (j := 126) hS rfl rfl) hs12e) ?_); clear hS a; intro a hS
            refine q_seq hS rfl rfl rfl (y_pick_f hS rfl rfl) ?_; clear hS a; intro a hS
            refine q_seq hS rfl rfl rfl (y_move hS rfl) ?_; clear hS a; intro a hS
            refine g_no hS rfl rfl rfl rfl rfl rfl rfl ?_; clear hS a; intro a hS
            refine g_no hS rfl rfl rfl rfl rfl rfl rfl ?_; clear hS a; intro a hS
            refine g_no hS rfl rfl rfl rfl rfl rfl rfl ?_; clear hS a; intro a hS
            refine g_no hS rfl rfl rfl rfl rfl rfl rfl ?_; clear hS a; intro a hS
            refine q_seq hS rfl rfl rfl (y_pick_t hS rfl rfl) ?_; clear hS a; intro a hS
            refine q_seq hS rfl rfl rfl (y_move hS rfl) ?_; clear hS a; intro a hS
            refine g_no hS rfl rfl rfl rfl rfl rfl rfl ?_; clear hS a; intro a hS
            refine g_no hS rfl rfl rfl rfl rfl rfl rfl ?_; clear hS a; intro a hS
            refine g_no hS rfl rfl rfl rfl rfl rfl rfl ?_; clear hS a; intro a hS
            refine g_no hS rfl rfl rfl rfl rfl rfl rfl ?_; clear hS a; intro a hS
            refine q_seq hS rfl rfl rfl (y_pick_t hS rfl rfl) ?_; clear hS a; intro a hS
            refine q_seq hS rfl rfl rfl (y_move hS rfl) ?_; clear hS a; intro a hS
            refine g_no hS rfl rfl rfl rfl rfl rfl rfl ?_; clear hS a; intro a hS
            refine g_no hS rfl rfl rfl rfl rfl rfl rfl ?_; clear hS a; intro a hS
            refine g_no hS rfl rfl rfl rfl rfl rfl rfl ?_; clear hS a; intro a hS
            refine g_no hS rfl rfl rfl rfl rfl rfl rfl ?_; clear hS a; intro a hS
            refine q_seq hS rfl rfl rfl (y_pick_t hS rfl rfl) ?_; clear hS a; intro a hS
            apply wpList_nil
            refine p_norm ?_
            exact ⟨(true), hg, (hS.sub ⟨rfl, rfl, rfl, trivial⟩ trivial trivial)⟩
          · have hs12e : decide ((126 : Nat) < c10.toNat) = false := decide_eq_false hs12
            replace hg := br_f hg hs12
            replace hg := bind_some hg; obtain ⟨r13, hr13, hg⟩ := hg
            rcases Bool.eq_false_or_eq_true (r13) with hs16 | hs16
            · replace hg := br_t hg hs16
              apply wp_region_lit
              refine q_seq hS rfl rfl rfl (y_move hS rfl) ?_; clear hS a; intro a hS
              refine q_seq hS rfl rfl rfl (y_move hS rfl) ?_; clear hS a; intro a hS
              refine q_seq hS rfl rfl rfl (y_indexN (i := i_5) hS rfl rfl Try.underlying9 rfl hc10) ?_; clear hS a; intro a hS
              refine q_seq hS rfl rfl rfl (yl_b (y_lssN (i := c10.toNat) (j := 33) hS rfl rfl) hs11e) ?_; clear hS a; intro a hS
              refine q_seq hS rfl rfl rfl (y_move hS rfl) ?_; clear hS a; intro a hS
              refine g_yes hS rfl rfl rfl rfl (l_quiet hS rfl rfl (y_move hS rfl) ?_); clear hS a; intro a hS
              refine g_yes hS rfl rfl rfl rfl (l_quiet hS rfl rfl (y_move hS rfl) ?_); clear hS a; intro a hS
              refine g_yes hS rfl rfl rfl rfl (l_quiet hS rfl rfl (y_indexN (i := i_5) hS rfl rfl Try.underlying9 rfl hc10) ?_); clear hS a; intro a hS
              refine g_yes hS rfl rfl rfl rfl (l_quiet hS rfl rfl (yl_b (y_gtrN (i := c10.toNat) (j := 126) hS rfl rfl) hs12e) ?_); clear hS a; intro a hS
              refine q_seq hS rfl rfl rfl (y_pick_f hS rfl rfl) ?_; clear hS a; intro a hS
              refine q_seq hS rfl rfl rfl (y_move hS rfl) ?_; clear hS a; intro a hS
              refine g_yes hS rfl rfl rfl rfl (l_quiet hS rfl rfl (y_move hS rfl) ?_); clear hS a; intro a hS
              refine g_yes hS rfl rfl rfl rfl (l_quiet hS rfl rfl (y_move hS rfl) ?_); clear hS a; intro a hS
              refine g_yes hS rfl rfl rfl rfl (l_quiet hS rfl rfl (y_indexN (i := i_5) hS rfl rfl Try.underlying9 rfl hc10) ?_); clear hS a; intro a hS
              refine g_yes hS rfl rfl rfl rfl (l_call (cap := []) hS rfl Try.func36 rfl (by kernel_rfl) rfl rfl (c_r01_upper n _ _ hS.lt c10 r13 hr13) ?_); clear hS a; intro v17 a w hK hp hS
              clear hK
              obtain rfl := hp.trans (congrArg Value.bool hs16)
              refine q_seq hS rfl rfl rfl (y_pick_f hS rfl rfl) ?_; clear hS a; intro a hS
              refine q_seq hS rfl rfl rfl (y_move hS rfl) ?_; clear hS a; intro a hS
              refine g_no hS rfl rfl rfl rfl rfl rfl rfl ?_; clear hS a; intro a hS
              refine g_no hS rfl rfl rfl rfl rfl rfl rfl ?_; clear hS a; intro a hS
              refine g_no hS rfl rfl rfl rfl rfl rfl rfl ?_; clear hS a; intro a hS
              refine g_no hS rfl rfl rfl rfl rfl rfl rfl ?_; clear hS a; intro a hS
              refine q_seq hS rfl rfl rfl (y_pick_t hS rfl rfl) ?_; clear hS a; intro a hS
              refine q_seq hS rfl rfl rfl (y_move hS rfl) ?_; clear hS a; intro a hS
              refine g_no hS rfl rfl rfl rfl rfl rfl rfl ?_; clear hS a; intro a hS
              refine g_no hS rfl rfl rfl rfl rfl rfl rfl ?_; clear hS a; intro a hS
              refine g_no hS rfl rfl rfl rfl rfl rfl rfl ?_; clear hS a; intro a hS
              refine g_no hS rfl rfl rfl rfl rfl rfl rfl ?_; clear hS a; intro a hS
              refine q_seq hS rfl rfl rfl (y_pick_t hS rfl rfl) ?_; clear hS a; intro a hS
              apply wpList_nil
              refine p_norm ?_
              exact ⟨(true), hg, (hS.sub ⟨rfl, rfl, rfl, trivial⟩ trivial trivial)⟩
            · replace hg := br_f hg (by rw [hs16]; exact Bool.false_ne_true)
              rcases Decidable.em (c10.toNat = 34) with hs19 | hs19
              · have hs19e : decide (c10.toNat = 34) = true := decide_eq_true hs19
                replace hg := br_t hg hs19
                apply wp_region_lit
                refine q_seq hS rfl rfl rfl (y_move hS rfl) ?_; clear hS a; intro a hS
                refine q_seq hS rfl rfl rfl (y_move hS rfl) ?_; clear hS a; intro a hS
                refine q_seq hS rfl rfl rfl (y_indexN (i := i_5) hS rfl rfl Try.underlying9 rfl hc10) ?_; clear hS a; intro a hS
                refine q_seq hS rfl rfl rfl (yl_b (y_lssN (i := c10.toNat) (j := 33) hS rfl rfl) hs11e) ?_; clear hS a; intro a hS
                refine q_seq hS rfl rfl rfl (y_move hS rfl) ?_; clear hS a; intro a hS
                refine g_yes hS rfl rfl rfl rfl (l_quiet hS rfl rfl (y_move hS rfl) ?_); clear hS a; intro a hS
                refine g_yes hS rfl rfl rfl rfl (l_quiet hS rfl rfl (y_move hS rfl) ?_); clear hS a; intro a hS
                refine g_yes hS rfl rfl rfl rfl (l_quiet hS rfl rfl (y_indexN (i := i_5) hS rfl rfl Try.underlying9 rfl hc10) ?_); clear hS a; intro a hS
                refine g_yes hS rfl rfl rfl rfl (l_quiet hS rfl rfl (yl_b (y_gtrN (i := c10.toNat) (j := 126) hS rfl rfl) hs12e) ?_); clear hS a; intro a hS
                refine q_seq hS rfl rfl rfl (y_pick_f hS rfl rfl) ?_; clear hS a; intro a hS
                refine q_seq hS rfl rfl rfl (y_move hS rfl) ?_; clear hS a; intro a hS
                refine g_yes hS rfl rfl rfl rfl (l_quiet hS rfl rfl (y_move hS rfl) ?_); clear hS a; intro a hS
                refine g_yes hS rfl rfl rfl rfl (l_quiet hS rfl rfl (y_move hS rfl) ?_); clear hS a; intro a hS
                refine g_yes hS rfl rfl rfl rfl (l_quiet hS rfl rfl (y_indexN (i := i_5) hS rfl rfl Try.underlying9 rfl hc10) ?_); clear hS a; intro a hS
                refine g_yes hS rfl rfl rfl rfl (l_call (cap := []) hS rfl Try.func36 rfl (by kernel_rfl) rfl rfl (c_r01_upper n _ _ hS.lt c10 r13 hr13) ?_); clear hS a; intro v20 a w hK hp hS
                clear hK
                obtain rfl := hp.trans (congrArg Value.bool hs16)
                refine q_seq hS rfl rfl rfl (y_pick_f hS rfl rfl) ?_; clear hS a; intro a hS
                refine q_seq hS rfl rfl rfl (y_move hS rfl) ?_; clear hS a; intro a hS
                refine g_yes hS rfl rfl rfl rfl (l_quiet hS rfl rfl (y_move hS rfl) ?_); clear hS a; intro a hS
                refine g_yes hS rfl rfl rfl rfl (l_quiet hS rfl rfl (y_move hS rfl) ?_); clear hS a; intro a hS
                refine g_yes hS rfl rfl rfl rfl (l_quiet hS rfl rfl (y_indexN (i := i_5) hS rfl rfl Try.underlying9 rfl hc10) ?_); clear hS a; intro a hS
                refine g_yes hS rfl rfl rfl rfl (l_quiet hS rfl rfl (yl_b (y_eqlN (i := c10.toNat) (j := 34) hS rfl rfl) hs19e) ?_); clear hS a; intro a hS
                refine q_seq hS rfl rfl rfl (y_pick_f hS rfl rfl) ?_; clear hS a; intro a hS
                refine q_seq hS rfl rfl rfl (y_move hS rfl) ?_; clear hS a; intro a hS
                refine g_no hS rfl rfl rfl rfl rfl rfl rfl ?_; clear hS a; intro a hS
                refine g_no hS rfl rfl rfl rfl rfl rfl rfl ?_; clear hS a; intro a hS
                refine g_no hS rfl rfl rfl rfl rfl rfl rfl ?_; clear hS a; intro a hS
                refine g_no hS rfl rfl rfl rfl rfl rfl rfl ?_; clear hS a; intro a hS
                refine q_seq hS rfl rfl rfl (y_pick_t hS rfl rfl) ?_; clear hS a; intro a hS
                apply wpList_nil
                refine p_norm ?_
                exact ⟨(true), hg, (hS.sub ⟨rfl, rfl, rfl, trivial⟩ trivial trivial)⟩
              · have hs19e : decide (c10.toNat = 34) = false := decide_eq_false hs19
                replace hg := br_f hg hs19
                apply wp_region_lit
                refine q_seq hS rfl rfl rfl (y_move hS rfl) ?_; clear hS a; intro a hS
                refine q_seq hS rfl rfl rfl (y_move hS rfl) ?_; clear hS a; intro a hS
                refine q_seq hS rfl rfl rfl (y_indexN (i := i_5) hS rfl rfl Try.underlying9 rfl hc10) ?_; clear hS a; intro a hS
                refine q_seq hS rfl rfl rfl (yl_b (y_lssN (i := c10.toNat) (j := 33) hS rfl rfl) hs11e) ?_; clear hS a; intro a hS
                refine q_seq hS rfl rfl rfl (y_move hS rfl) ?_; clear hS a; intro a hS
                refine g_yes hS rfl rfl rfl rfl (l_quiet hS rfl rfl (y_move hS rfl) ?_); clear hS a; intro a hS
                refine g_yes hS rfl rfl rfl rfl (l_quiet hS rfl rfl (y_move hS rfl) ?_); clear hS a; intro a hS
                refine g_yes hS rfl rfl rfl rfl (l_quiet hS rfl rfl (y_indexN (i := i_5) hS rfl rfl Try.underlying9 rfl hc10) ?_); clear hS a; intro a hS
                refine g_yes hS rfl rfl rfl rfl (l_quiet hS rfl rfl (yl_b (y_gtrN (i := c10.toNat) (j := 126) hS rfl rfl) hs12e) ?_); clear hS a; intro a hS
                refine q_seq hS rfl rfl rfl (y_pick_f hS rfl rfl) ?_; clear hS a; intro a hS
                refine q_seq hS rfl rfl rfl (y_move hS rfl) ?_; clear hS a; intro a hS
                refine g_yes hS rfl rfl rfl rfl (l_quiet hS rfl rfl (y_move hS rfl) ?_); clear hS a; intro a hS
                refine g_yes hS rfl rfl rfl rfl (l_quiet hS rfl rfl (y_move hS rfl) ?_); clear hS a; intro a hS
                refine g_yes hS rfl rfl rfl rfl (l_quiet hS rfl rfl (y_indexN (i := i_5) hS rfl rfl Try.underlying9 rfl hc10) ?_); clear hS a; intro a hS
                refine g_yes hS rfl rfl rfl rfl (l_call (cap := []) hS rfl Try.func36 rfl (by kernel_rfl) rfl rfl (c_r01_upper n _ _ hS.lt c10 r13 hr13) ?_); clear hS a; intro v22 a w hK hp hS
                clear hK
                obtain rfl := hp.trans (congrArg Value.bool hs16)
                refine q_seq hS rfl rfl rfl (y_pick_f hS rfl rfl) ?_; clear hS a; intro a hS
                refine q_seq hS rfl rfl rfl (y_move hS rfl) ?_; clear hS a; intro a hS
                refine g_yes hS rfl rfl rfl rfl (l_quiet hS rfl rfl (y_move hS rfl) ?_); clear hS a; intro a hS
                refine g_yes hS rfl rfl rfl rfl (l_quiet hS rfl rfl (y_move hS rfl) ?_); clear hS a; intro a hS
                refine g_yes hS rfl rfl rfl rfl (l_quiet hS rfl rfl (y_indexN (i := i_5) hS rfl rfl Try.underlying9 rfl hc10) ?_); clear hS a; intro a hS
                refine g_yes hS rfl rfl rfl rfl (l_quiet hS rfl rfl (yl_b (y_eqlN (i := c10.toNat) (j := 34) hS rfl rfl) hs19e) ?_); clear hS a; intro a hS
                refine q_seq hS rfl rfl rfl (y_pick_f hS rfl rfl) ?_; clear hS a; intro a hS
                refine q_seq hS rfl rfl rfl (y_move hS rfl) ?_; clear hS a; intro a hS
                refine g_yes hS rfl rfl rfl rfl (l_quiet hS rfl rfl (y_move hS rfl) ?_); clear hS a; intro a hS
                refine g_yes hS rfl rfl rfl rfl (l_quiet hS rfl rfl (y_move hS rfl) ?_); clear hS a; intro a hS
                refine g_yes hS rfl rfl rfl rfl (l_quiet hS rfl rfl (y_indexN (i := i_5) hS rfl rfl Try.underlying9 rfl hc10) ?_); clear hS a; intro a hS
                refine g_yes hS rfl rfl rfl rfl (l_quiet hS rfl rfl (y_eqlN (i := c10.toNat) (j := 92) hS rfl rfl) ?_); clear hS a; intro a hS
                refine q_seq hS rfl rfl rfl (y_pick_f hS rfl rfl) ?_; clear hS a; intro a hS
                apply wpList_nil
                refine p_norm ?_
                exact ⟨(decide (c10.toNat = 92)), hg, (hS.sub ⟨rfl, rfl, rfl, trivial⟩ trivial trivial)⟩
      clear hS a; rintro a w ⟨t_9, hg, hS⟩
      subst hk8
      refine c_cond hS rfl (fun hc24 => ?_) (fun hc24 => ?_)
      · replace hg := br_t hg hc24
        apply wp_seq
        apply wp_region_lit
        refine q_seq hS rfl rfl rfl (y_assign hS rfl) ?_; clear hS a; intro a hS
        apply wpList_nil
        refine p_norm ?_
        apply wp_ret
        refine p_inR ?_
        refine p_thenR ?_
        refine p_thenR ?_
        refine p_inR ?_
        refine p_thenR ?_
        obtain rfl := Option.some.inj hg
        refine fin1 (fn := Try.f29) hS rfl (r_tmp hS rfl) ?_
        exact rfl
      · replace hg := br_f hg (by rw [hc24]; exact Bool.false_ne_true)
        apply wp_skip
        refine p_inN ?_
        refine p_norm ?_
        apply wp_region_lit
        refine q_seq hS rfl rfl rfl (y_move hS rfl) ?_; clear hS a; intro a hS
        refine q_seq hS rfl rfl rfl (y_addN (i := i_5) (j := 1) hS rfl rfl (in64.2 (by omega))) ?_; clear hS a; intro a hS
        refine q_seq hS rfl rfl rfl (y_assign hS rfl) ?_; clear hS a; intro a hS
        apply wpList_nil
        refine p_norm ?_
        exact ⟨m1, Nat.lt_succ_self _, ⟨(i_5 + 1), hg, (hS.sub ⟨rfl, rfl, trivial⟩ trivial trivial)⟩⟩
    · replace hg := br_f hg hc6
      apply wp_exit
      refine p_then ?_
      refine p_then ?_
      refine p_in ?_
      refine p_norm ?_
      apply wp_seq
      apply wp_region_lit
      refine q_seq hS rfl rfl rfl (y_assign hS rfl) ?_; clear hS a; intro a hS
      apply wpList_nil
      refine p_norm ?_
      apply wp_ret
      obtain rfl := Option.some.inj hg
      refine fin1 (fn := Try.f29) hS rfl (r_tmp hS rfl) ?_
      exact rfl
set_option maxHeartbeats 400000 in
theorem c_r27_Check (n : Nat) (M : Bs) (w0 : World) (hM : ∀ b, M b → b < w0.heap.size) (words_ : (List (List UInt8))) (Ap01 : Option Addr) (cp01 : Nat) (hp01 : SlR Rep.str M w0 Ap01 (words_).length cp01 (words_)) (r : Int) (hg : r27_Check n words_ = some r) :
    Calls Try.prog 17 [.slice (Ap01) ((words_).length) (cp01)].toArray w0 (Ret noB w0 fun v w => v = .int .i64 (r)) := by
  unfold r27_Check at hg
  refine enter M noB Try.func17 rfl rfl hM ?_
  intro a hS
  replace hS := hS.add 101 (slF Rep.str (Ap01) ((words_).length) (cp01) (words_)) (by exact Fact.change _ enterM hp01)
  apply wp_seq
  apply wp_region_lit
  refine q_seq hS rfl rfl rfl (y_assign hS rfl) ?_; clear hS a; intro a hS
  apply wpList_nil
  refine p_norm ?_
  apply wp_seq
  apply wp_seq
  apply wp_region_lit
  refine q_seq hS rfl rfl rfl (y_move hS rfl) ?_; clear hS a; intro a hS
  refine q_seq hS rfl rfl rfl (y_lenSlice hS rfl Try.underlying23) ?_; clear hS a; intro a hS
  refine q_seq hS rfl rfl rfl (y_eqlN (i := ((words_).length)) (j := 0) hS rfl rfl) ?_; clear hS a; intro a hS
  apply wpList_nil
  refine p_norm ?_
  refine c_dec hS rfl (fun hc1 => ?_) (fun hc1 => ?_)
  · replace hg := br_t hg hc1
    apply wp_seq
    apply wp_region_lit
    refine q_seq hS rfl rfl rfl (y_assign hS rfl) ?_; clear hS a; intro a hS
    apply wpList_nil
    refine p_norm ?_
    apply wp_ret
    refine p_thenR ?_
    obtain rfl := Option.some.inj hg
    refine fin1 (fn := Try.f17) hS rfl (r_tmp hS rfl) ?_
    exact rfl
  · replace hg := br_f hg hc1
    apply wp_skip
    refine p_norm ?_
    apply wp_seq
    apply wp_seq
    apply wp_region_lit
    refine q_seq hS rfl rfl rfl (y_move hS rfl) ?_; clear hS a; intro a hS
    refine q_seq hS rfl rfl rfl (y_lenSlice hS rfl Try.underlying23) ?_; clear hS a; intro a hS
    refine q_seq hS rfl rfl rfl (y_gtrN (i := ((words_).length)) (j := 32) hS rfl rfl) ?_; clear hS a; intro a hS
    apply wpList_nil
    refine p_norm ?_
    refine c_dec hS rfl (fun hc2 => ?_) (fun hc2 => ?_)
    · replace hg := br_t hg hc2
      have hmx3 := SlR.mx (hS.fact (k := 101) rfl)
      apply wp_seq
      apply wp_region_lit
      refine q_seq hS rfl rfl rfl (y_assign hS rfl) ?_; clear hS a; intro a hS
      apply wpList_nil
      refine p_norm ?_
      apply wp_ret
      refine p_thenR ?_
      obtain rfl := Option.some.inj hg
      refine fin1 (fn := Try.f17) hS rfl (r_tmp hS rfl) ?_
      exact rfl
    · replace hg := br_f hg hc2
      apply wp_skip
      refine p_norm ?_
      apply wp_seq
      apply wp_seq
      apply wp_region_lit
      refine q_seq hS rfl rfl rfl (y_assign hS rfl) ?_; clear hS a; intro a hS
      apply wpList_nil
      refine p_norm ?_
      apply wp_block
      refine c_loop (σ := Nat) (fun m1 a w => ∃ (i_4 : Nat), r27_Check_L0 n words_ m1 i_4 = some r ∧ St (⟨Try.f17.ntmps, M, noB, w0⟩ : Ctx) [(0, .slice (Ap01) ((words_).length) (cp01)), (3, .int .i64 (((i_4 : Nat) : Int)))] [] [(101, slF Rep.str (Ap01) ((words_).length) (cp01) (words_))] a w) (fun m1 => m1) n ⟨(0), hg, (hS.sub ⟨rfl, rfl, trivial⟩ trivial ⟨rfl, trivial⟩)⟩ ?_
      clear hS a; rintro m1 a w ⟨i_4, hg, hS⟩
      rcases m1 with _ | m1
      · rw [r27_Check_L0] at hg; cases hg
      rw [r27_Check_L0] at hg
      apply wp_seq
      apply wp_seq
      apply wp_region_lit
      refine q_seq hS rfl rfl rfl (y_move hS rfl) ?_; clear hS a; intro a hS
      refine q_seq hS rfl rfl rfl (y_move hS rfl) ?_; clear hS a; intro a hS
      refine q_seq hS rfl rfl rfl (y_lenSlice hS rfl Try.underlying23) ?_; clear hS a; intro a hS
      refine q_seq hS rfl rfl rfl (y_lssN (i := i_4) (j := ((words_).length)) hS rfl rfl) ?_; clear hS a; intro a hS
      apply wpList_nil
      refine p_norm ?_
      refine c_dec hS rfl (fun hc5 => ?_) (fun hc5 => ?_)
      · replace hg := br_t hg hc5
        have hmx6 := SlR.mx (hS.fact (k := 101) rfl)
        apply wp_skip
        refine p_norm ?_
        apply wp_seq
        apply wp_block
        apply wp_seq
        replace hg := bind_some hg; obtain ⟨x8, hx8, hg⟩ := hg
        replace hg := bind_some hg; obtain ⟨r10, hr10, hg⟩ := hg
        apply wp_region_lit
        refine q_seq hS rfl rfl rfl (y_move hS rfl) ?_; clear hS a; intro a hS
        refine q_seq hS rfl rfl rfl (y_move hS rfl) ?_; clear hS a; intro a hS
        obtain ⟨p13, hep13, hpp13⟩ := SlR.elemX (hS.fact (k := 101) rfl) hx8
        refine q_seq hS rfl rfl rfl (y_elem (sz := 1) (i := i_4) hS rfl rfl Try.underlying23 rfl hep13 rfl (lt_of_get hx8)) ?_; clear hS a; intro a hS
        obtain ⟨hlq14, hmq14, csq14, hdq14, hcq14⟩ := hpp13
        obtain ⟨rfl, lq141⟩ := hdq14
        refine q_seq hS rfl rfl rfl (y_ldp1 hS rfl hlq14 hmq14 (hcq14 0 _ rfl) Try.underlying9 rfl) ?_; clear hS a; intro a hS
        refine l_seq rfl (l_call (cap := []) hS rfl Try.func29 rfl (by kernel_rfl) rfl rfl (c_r01_Word n _ _ hS.lt x8 (by first | omega | (simp only [List.length_append]; omega) | (simp only [List.length_append, List.length_take, List.length_drop, List.length_cons, List.length_nil]; omega)) r10 hr10) ?_); clear hS a; intro v15 a w hK hp hS
        clear hK
        obtain rfl := hp
        refine q_seq hS rfl rfl rfl (y_not hS rfl) ?_; clear hS a; intro a hS
        apply wpList_nil
        refine p_norm ?_
        refine c_cond hS rfl (fun hc17 => ?_) (fun hc17 => ?_)
        · replace hg := br_t hg hc17
          apply wp_seq
          apply wp_region_lit
          refine q_seq hS rfl rfl rfl (y_assign hS rfl) ?_; clear hS a; intro a hS
          apply wpList_nil
          refine p_norm ?_
          apply wp_ret
          refine p_inR ?_
          refine p_thenR ?_
          refine p_thenR ?_
          refine p_inR ?_
          refine p_thenR ?_
          obtain rfl := Option.some.inj hg
          refine fin1 (fn := Try.f17) hS rfl (r_tmp hS rfl) ?_
          exact rfl
        · replace hg := br_f hg (by rw [hc17]; exact Bool.false_ne_true)
          apply wp_skip
          refine p_inN ?_
          refine p_norm ?_
          apply wp_region_lit
          refine q_seq hS rfl rfl rfl (y_move hS rfl) ?_; clear hS a; intro a hS
          refine q_seq hS rfl rfl rfl (y_addN (i := i_4) (j := 1) hS rfl rfl (in64.2 (by omega))) ?_; clear hS a; intro a hS
          refine q_seq hS rfl rfl rfl (y_assign hS rfl) ?_; clear hS a; intro a hS
          apply wpList_nil
          refine p_norm ?_
          exact ⟨m1, Nat.lt_succ_self _, ⟨(i_4 + 1), hg, (hS.sub ⟨rfl, rfl, trivial⟩ trivial ⟨rfl, trivial⟩)⟩⟩
      · replace hg := br_f hg hc5
        apply wp_exit
        refine p_then ?_
        refine p_then ?_
        refine p_in ?_
        refine p_norm ?_
        apply wp_seq
        apply wp_region_lit
        refine q_seq hS rfl rfl rfl (y_assign hS rfl) ?_; clear hS a; intro a hS
        apply wpList_nil
        refine p_norm ?_
        apply wp_ret
        obtain rfl := Option.some.inj hg
        refine fin1 (fn := Try.f17) hS rfl (r_tmp hS rfl) ?_
        exact rfl
set_option maxHeartbeats 400000 in
theorem c_r27_Simple (n : Nat) (M : Bs) (w0 : World) (hM : ∀ b, M b → b < w0.heap.size) (words_ : (List (List UInt8))) (Ap01 : Option Addr) (cp01 : Nat) (hp01 : SlR Rep.str M w0 Ap01 (words_).length cp01 (words_)) (r : Bool) (hg : r27_Simple n words_ = some r) :
    Calls Try.prog 18 [.slice (Ap01) ((words_).length) (cp01)].toArray w0 (Ret noB w0 fun v w => v = .bool (r)) := by
  unfold r27_Simple at hg
  refine enter M noB Try.func18 rfl rfl hM ?_
  intro a hS
  replace hS := hS.add 101 (slF Rep.str (Ap01) ((words_).length) (cp01) (words_)) (by exact Fact.change _ enterM hp01)
  apply wp_seq
  apply wp_region_lit
  refine q_seq hS rfl rfl rfl (y_assign hS rfl) ?_; clear hS a; intro a hS
  apply wpList_nil
  refine p_norm ?_
  apply wp_seq
  apply wp_seq
  apply wp_region_lit
  refine q_seq hS rfl rfl rfl (y_assign hS rfl) ?_; clear hS a; intro a hS
  apply wpList_nil
  refine p_norm ?_
  apply wp_block
  refine c_loop (σ := Nat) (fun m1 a w => ∃ (i_1 : Nat), r27_Simple_L0 n words_ m1 i_1 = some r ∧ St (⟨Try.f18.ntmps, M, noB, w0⟩ : Ctx) [(0, .slice (Ap01) ((words_).length) (cp01)), (3, .int .i64 (((i_1 : Nat) : Int)))] [] [(101, slF Rep.str (Ap01) ((words_).length) (cp01) (words_))] a w) (fun m1 => m1) n ⟨(0), hg, (hS.sub ⟨rfl, rfl, trivial⟩ trivial ⟨rfl, trivial⟩)⟩ ?_
  clear hS a; rintro m1 a w ⟨i_1, hg, hS⟩
  rcases m1 with _ | m1
  · rw [r27_Simple_L0] at hg; cases hg
  rw [r27_Simple_L0] at hg
  apply wp_seq
  apply wp_seq
  apply wp_region_lit
  refine q_seq hS rfl rfl rfl (y_move hS rfl) ?_; clear hS a; intro a hS
  refine q_seq hS rfl rfl rfl (y_move hS rfl) ?_; clear hS a; intro a hS
  refine q_seq hS rfl rfl rfl (y_lenSlice hS rfl Try.underlying23) ?_; clear hS a; intro a hS
  refine q_seq hS rfl rfl rfl (y_lssN (i := i_1) (j := ((words_).length)) hS rfl rfl) ?_; clear hS a; intro a hS
  apply wpList_nil
  refine p_norm ?_
  refine c_dec hS rfl (fun hc2 => ?_) (fun hc2 => ?_)
  · replace hg := br_t hg hc2
    have hmx3 := SlR.mx (hS.fact (k := 101) rfl)
    apply wp_skip
    refine p_norm ?_
    apply wp_seq
    replace hg := jn_some hg; obtain ⟨k4, hg, hk4⟩ := hg
    refine c_post (fun a w => k4 = some r ∧ St (⟨Try.f18.ntmps, M, noB, w0⟩ : Ctx) [(0, .slice (Ap01) ((words_).length) (cp01)), (3, .int .i64 (((i_1 : Nat) : Int)))] [] [(101, slF Rep.str (Ap01) ((words_).length) (cp01) (words_))] a w) ?_ ?_
    · apply wp_block
      apply wp_seq
      apply wp_region_lit
      refine q_seq hS rfl rfl rfl (y_assign hS rfl) ?_; clear hS a; intro a hS
      apply wpList_nil
      refine p_norm ?_
      apply wp_block
      refine c_loop (σ := Nat) (fun m2 a w => ∃ (k_5 : Nat), r27_Simple_L1 n words_ i_1 k4 m2 k_5 = some r ∧ St (⟨Try.f18.ntmps, M, noB, w0⟩ : Ctx) [(0, .slice (Ap01) ((words_).length) (cp01)), (3, .int .i64 (((i_1 : Nat) : Int))), (4, .int .i64 (((k_5 : Nat) : Int)))] [] [(101, slF Rep.str (Ap01) ((words_).length) (cp01) (words_))] a w) (fun m2 => m2) n ⟨(0), hg, (hS.sub ⟨rfl, rfl, rfl, trivial⟩ trivial ⟨rfl, trivial⟩)⟩ ?_
      clear hS a; rintro m2 a w ⟨k_5, hg, hS⟩
      rcases m2 with _ | m2
      · rw [r27_Simple_L1] at hg; cases hg
      rw [r27_Simple_L1] at hg
      apply wp_seq
      apply wp_seq
      replace hg := bind_some hg; obtain ⟨x7, hx7, hg⟩ := hg
      apply wp_region_lit
      refine q_seq hS rfl rfl rfl (y_move hS rfl) ?_; clear hS a; intro a hS
      refine q_seq hS rfl rfl rfl (y_move hS rfl) ?_; clear hS a; intro a hS
      refine q_seq hS rfl rfl rfl (y_move hS rfl) ?_; clear hS a; intro a hS
      obtain ⟨p9, hep9, hpp9⟩ := SlR.elemX (hS.fact (k := 101) rfl) hx7
      refine q_seq hS rfl rfl rfl (y_elem (sz := 1) (i := i_1) hS rfl rfl Try.underlying23 rfl hep9 rfl (lt_of_get hx7)) ?_; clear hS a; intro a hS
      obtain ⟨hlq10, hmq10, csq10, hdq10, hcq10⟩ := hpp9
      obtain ⟨rfl, lq101⟩ := hdq10
      refine q_seq hS rfl rfl rfl (y_ldp1 hS rfl hlq10 hmq10 (hcq10 0 _ rfl) Try.underlying9 rfl) ?_; clear hS a; intro a hS
      refine q_seq hS rfl rfl rfl (y_lenStrN hS rfl Try.underlying9) ?_; clear hS a; intro a hS
      refine q_seq hS rfl rfl rfl (y_lssN (i := k_5) (j := ((x7).length)) hS rfl rfl) ?_; clear hS a; intro a hS
      apply wpList_nil
      refine p_norm ?_
      refine c_dec hS rfl (fun hc11 => ?_) (fun hc11 => ?_)
      · replace hg := br_t hg hc11
        have hmx12 : (x7).length ≤ 9223372036854775807 := (by first | omega | (simp only [List.length_append]; omega) | (simp only [List.length_append, List.length_take, List.length_drop, List.length_cons, List.length_nil]; omega))
        apply wp_skip
        refine p_norm ?_
        apply wp_seq
        apply wp_block
        apply wp_seq
        replace hg := jn_some hg; obtain ⟨k13, hg, hk13⟩ := hg
        refine c_post (fun a w => ∃ (t_14 : Bool), k13 t_14 = some r ∧ St (⟨Try.f18.ntmps, M, noB, w0⟩ : Ctx) [(0, .slice (Ap01) ((words_).length) (cp01)), (3, .int .i64 (((i_1 : Nat) : Int))), (4, .int .i64 (((k_5 : Nat) : Int))), (34, .bool (t_14))] [] [(101, slF Rep.str (Ap01) ((words_).length) (cp01) (words_))] a w) ?_ ?_
        · replace hg := bind_some hg; obtain ⟨c17, hc17, hg⟩ := hg
          replace hg := bind_some hg; obtain ⟨r18, hr18, hg⟩ := hg
          rcases Bool.eq_false_or_eq_true (r18) with hs21 | hs21
          · replace hg := br_t hg hs21
            apply wp_region_lit
            refine q_seq hS rfl rfl rfl (y_move hS rfl) ?_; clear hS a; intro a hS
            refine q_seq hS rfl rfl rfl (y_move hS rfl) ?_; clear hS a; intro a hS
            obtain ⟨p24, hep24, hpp24⟩ := SlR.elemX (hS.fact (k := 101) rfl) hx7
            refine q_seq hS rfl rfl rfl (y_elem (sz := 1) (i := i_1) hS rfl rfl Try.underlying23 rfl hep24 rfl (lt_of_get hx7)) ?_; clear hS a; intro a hS
            obtain ⟨hlq25, hmq25, csq25, hdq25, hcq25⟩ := hpp24
            obtain ⟨rfl, lq251⟩ := hdq25
            refine q_seq hS rfl rfl rfl (y_ldp1 hS rfl hlq25 hmq25 (hcq25 0 _ rfl) Try.underlying9 rfl) ?_; clear hS a; intro a hS
            refine q_seq hS rfl rfl rfl (y_move hS rfl) ?_; clear hS a; intro a hS
            refine q_seq hS rfl rfl rfl (y_indexN (i := k_5) hS rfl rfl Try.underlying9 rfl hc17) ?_; clear hS a; intro a hS
            refine l_seq rfl (l_call (cap := []) hS rfl Try.func30 rfl (by kernel_rfl) rfl rfl (c_r27_marked n _ _ hS.lt c17 r18 hr18) ?_); clear hS a; intro v26 a w hK hp hS
            clear hK
            obtain rfl := hp.trans (congrArg Value.bool hs21)
            refine q_seq hS rfl rfl rfl (y_move hS rfl) ?_; clear hS a; intro a hS
            refine g_yes hS rfl rfl rfl rfl (l_quiet hS rfl rfl (y_move hS rfl) ?_); clear hS a; intro a hS
            refine g_yes hS rfl rfl rfl rfl (l_quiet hS rfl rfl (y_move hS rfl) ?_); clear hS a; intro a hS
            obtain ⟨p28, hep28, hpp28⟩ := SlR.elemX (hS.fact (k := 101) rfl) hx7
            refine g_yes hS rfl rfl rfl rfl (l_quiet hS rfl rfl (y_elem (sz := 1) (i := i_1) hS rfl rfl Try.underlying23 rfl hep28 rfl (lt_of_get hx7)) ?_); clear hS a; intro a hS
            obtain ⟨hlq29, hmq29, csq29, hdq29, hcq29⟩ := hpp28
            obtain ⟨rfl, lq291⟩ := hdq29
            refine g_yes hS rfl rfl rfl rfl (l_quiet hS rfl rfl (y_ldp1 hS rfl hlq29 hmq29 (hcq29 0 _ rfl) Try.underlying9 rfl) ?_); clear hS a; intro a hS
            refine g_yes hS rfl rfl rfl rfl (l_quiet hS rfl rfl (y_lenStrN hS rfl Try.underlying9) ?_); clear hS a; intro a hS
            refine g_yes hS rfl rfl rfl rfl (l_quiet hS rfl rfl (y_gtrN (i := ((x7).length)) (j := 1) hS rfl rfl) ?_); clear hS a; intro a hS
            refine q_seq hS rfl rfl rfl (y_pick_t hS rfl rfl) ?_; clear hS a; intro a hS
            apply wpList_nil
            refine p_norm ?_
            exact ⟨(decide ((1 : Nat) < ((x7).length))), hg, (hS.sub ⟨rfl, rfl, rfl, rfl, trivial⟩ trivial ⟨rfl, trivial⟩)⟩
          · replace hg := br_f hg (by rw [hs21]; exact Bool.false_ne_true)
            apply wp_region_lit
            refine q_seq hS rfl rfl rfl (y_move hS rfl) ?_; clear hS a; intro a hS
            refine q_seq hS rfl rfl rfl (y_move hS rfl) ?_; clear hS a; intro a hS
            obtain ⟨p30, hep30, hpp30⟩ := SlR.elemX (hS.fact (k := 101) rfl) hx7
            refine q_seq hS rfl rfl rfl (y_elem (sz := 1) (i := i_1) hS rfl rfl Try.underlying23 rfl hep30 rfl (lt_of_get hx7)) ?_; clear hS a; intro a hS
            obtain ⟨hlq31, hmq31, csq31, hdq31, hcq31⟩ := hpp30
            obtain ⟨rfl, lq311⟩ := hdq31
            refine q_seq hS rfl rfl rfl (y_ldp1 hS rfl hlq31 hmq31 (hcq31 0 _ rfl) Try.underlying9 rfl) ?_; clear hS a; intro a hS
            refine q_seq hS rfl rfl rfl (y_move hS rfl) ?_; clear hS a; intro a hS
            refine q_seq hS rfl rfl rfl (y_indexN (i := k_5) hS rfl rfl Try.underlying9 rfl hc17) ?_; clear hS a; intro a hS
            refine l_seq rfl (l_call (cap := []) hS rfl Try.func30 rfl (by kernel_rfl) rfl rfl (c_r27_marked n _ _ hS.lt c17 r18 hr18) ?_); clear hS a; intro v32 a w hK hp hS
            clear hK
            obtain rfl := hp.trans (congrArg Value.bool hs21)
            refine q_seq hS rfl rfl rfl (y_move hS rfl) ?_; clear hS a; intro a hS
            refine g_no hS rfl rfl rfl rfl rfl rfl rfl ?_; clear hS a; intro a hS
            refine g_no hS rfl rfl rfl rfl rfl rfl rfl ?_; clear hS a; intro a hS
            refine g_no hS rfl rfl rfl rfl rfl rfl rfl ?_; clear hS a; intro a hS
            refine g_no hS rfl rfl rfl rfl rfl rfl rfl ?_; clear hS a; intro a hS
            refine g_no hS rfl rfl rfl rfl rfl rfl rfl ?_; clear hS a; intro a hS
            refine g_no hS rfl rfl rfl rfl rfl rfl rfl ?_; clear hS a; intro a hS
            refine q_seq hS rfl rfl rfl (y_pick_f hS rfl rfl) ?_; clear hS a; intro a hS
            apply wpList_nil
            refine p_norm ?_
            exact ⟨(false), hg, (hS.sub ⟨rfl, rfl, rfl, rfl, trivial⟩ trivial ⟨rfl, trivial⟩)⟩
        clear hS a; rintro a w ⟨t_14, hg, hS⟩
        subst hk13
        refine c_cond hS rfl (fun hc34 => ?_) (fun hc34 => ?_)
        · replace hg := br_t hg hc34
          apply wp_seq
          apply wp_region_lit
          refine q_seq hS rfl rfl rfl (y_assign hS rfl) ?_; clear hS a; intro a hS
          apply wpList_nil
          refine p_norm ?_
          apply wp_ret
          refine p_inR ?_
          refine p_thenR ?_
          refine p_thenR ?_
          refine p_inR ?_
          refine p_inR ?_
          refine p_thenR ?_
          refine p_thenR ?_
          refine p_inR ?_
          refine p_thenR ?_
          obtain rfl := Option.some.inj hg
          refine fin1 (fn := Try.f18) hS rfl (r_tmp hS rfl) ?_
          exact rfl
        · replace hg := br_f hg (by rw [hc34]; exact Bool.false_ne_true)
          apply wp_skip
          refine p_inN ?_
          refine p_norm ?_
          apply wp_region_lit
          refine q_seq hS rfl rfl rfl (y_move hS rfl) ?_; clear hS a; intro a hS
          refine q_seq hS rfl rfl rfl (y_addN (i := k_5) (j := 1) hS rfl rfl (in64.2 (by omega))) ?_; clear hS a; intro a hS
          refine q_seq hS rfl rfl rfl (y_assign hS rfl) ?_; clear hS a; intro a hS
          apply wpList_nil
          refine p_norm ?_
          exact ⟨m2, Nat.lt_succ_self _, ⟨(k_5 + 1), hg, (hS.sub ⟨rfl, rfl, rfl, trivial⟩ trivial ⟨rfl, trivial⟩)⟩⟩
      · replace hg := br_f hg hc11
        apply wp_exit
        refine p_then ?_
        refine p_then ?_
        refine p_in ?_
        refine p_inN ?_
        refine p_norm ?_
        exact ⟨hg, (hS.sub ⟨rfl, rfl, trivial⟩ trivial ⟨rfl, trivial⟩)⟩
    clear hS a; rintro a w ⟨hg, hS⟩
    subst hk4
    apply wp_region_lit
    refine q_seq hS rfl rfl rfl (y_move hS rfl) ?_; clear hS a; intro a hS
    refine q_seq hS rfl rfl rfl (y_addN (i := i_1) (j := 1) hS rfl rfl (in64.2 (by omega))) ?_; clear hS a; intro a hS
    refine q_seq hS rfl rfl rfl (y_assign hS rfl) ?_; clear hS a; intro a hS
    apply wpList_nil
    refine p_norm ?_
    exact ⟨m1, Nat.lt_succ_self _, ⟨(i_1 + 1), hg, (hS.sub ⟨rfl, rfl, trivial⟩ trivial ⟨rfl, trivial⟩)⟩⟩
  · replace hg := br_f hg hc2
    apply wp_exit
    refine p_then ?_
    refine p_then ?_
    refine p_in ?_
    refine p_norm ?_
    apply wp_seq
    apply wp_region_lit
    refine q_seq hS rfl rfl rfl (y_assign hS rfl) ?_; clear hS a; intro a hS
    apply wpList_nil
    refine p_norm ?_
    apply wp_ret
    obtain rfl := Option.some.inj hg
    refine fin1 (fn := Try.f18) hS rfl (r_tmp hS rfl) ?_
    exact rfl
set_option maxHeartbeats 400000 in
theorem c_law27_raised (n : Nat) (M : Bs) (w0 : World) (hM : ∀ b, M b → b < w0.heap.size) (s_ : (List UInt8)) (lp01 : (s_).length ≤ 9223372036854775807) (r : (List UInt8)) (hg : law27_raised n s_ = some r) :
    Calls Try.prog 19 [.string (bs (s_))].toArray w0 (Ret noB w0 fun v w => v = .string (bs (r)) ∧ ((r).length ≤ 9223372036854775807)) := by
  unfold law27_raised at hg
  refine enter M noB Try.func19 rfl rfl hM ?_
  intro a hS
  apply wp_seq
  apply wp_region_lit
  refine q_seq hS rfl rfl rfl (y_assign hS rfl) ?_; clear hS a; intro a hS
  apply wpList_nil
  refine p_norm ?_
  apply wp_seq
  apply wp_region_lit
  refine q_seq hS rfl rfl rfl (y_assign hS rfl) ?_; clear hS a; intro a hS
  apply wpList_nil
  refine p_norm ?_
  apply wp_seq
  apply wp_seq
  apply wp_region_lit
  refine q_seq hS rfl rfl rfl (y_assign hS rfl) ?_; clear hS a; intro a hS
  apply wpList_nil
  refine p_norm ?_
  apply wp_block
  refine c_loop (σ := Nat) (fun m1 a w => ∃ (out_1 : (List UInt8)), ∃ (i_2 : Nat), law27_raised_L0 n s_ m1 out_1 i_2 = some r ∧ ((out_1).length ≤ 9223372036854775807) ∧ St (⟨Try.f19.ntmps, M, noB, w0⟩ : Ctx) [(0, .string (bs (s_))), (3, .string (bs (out_1))), (4, .int .i64 (((i_2 : Nat) : Int)))] [] [] a w) (fun m1 => m1) n ⟨([]), (0), hg, (by first | omega | (simp only [List.length_append]; omega) | (simp only [List.length_append, List.length_take, List.length_drop, List.length_cons, List.length_nil]; omega)), (hS.sub ⟨rfl, rfl, rfl, trivial⟩ trivial trivial)⟩ ?_
  clear hS a; rintro m1 a w ⟨out_1, i_2, hg, lout_1, hS⟩
  rcases m1 with _ | m1
  · rw [law27_raised_L0] at hg; cases hg
  rw [law27_raised_L0] at hg
  apply wp_seq
  apply wp_seq
  apply wp_region_lit
  refine q_seq hS rfl rfl rfl (y_move hS rfl) ?_; clear hS a; intro a hS
  refine q_seq hS rfl rfl rfl (y_move hS rfl) ?_; clear hS a; intro a hS
  refine q_seq hS rfl rfl rfl (y_lenStrN hS rfl Try.underlying9) ?_; clear hS a; intro a hS
  refine q_seq hS rfl rfl rfl (y_lssN (i := i_2) (j := ((s_).length)) hS rfl rfl) ?_; clear hS a; intro a hS
  apply wpList_nil
  refine p_norm ?_
  refine c_dec hS rfl (fun hc3 => ?_) (fun hc3 => ?_)
  · replace hg := br_t hg hc3
    have hmx4 : (s_).length ≤ 9223372036854775807 := (by first | omega | (simp only [List.length_append]; omega) | (simp only [List.length_append, List.length_take, List.length_drop, List.length_cons, List.length_nil]; omega))
    apply wp_skip
    refine p_norm ?_
    apply wp_seq
    apply wp_block
    apply wp_seq
    replace hg := jn_some hg; obtain ⟨k5, hg, hk5⟩ := hg
    refine c_post (fun a w => ∃ (t_6 : Bool), k5 t_6 = some r ∧ St (⟨Try.f19.ntmps, M, noB, w0⟩ : Ctx) [(0, .string (bs (s_))), (3, .string (bs (out_1))), (4, .int .i64 (((i_2 : Nat) : Int))), (20, .bool (t_6))] [] [] a w) ?_ ?_
    · replace hg := bind_some hg; obtain ⟨c7, hc7, hg⟩ := hg
      rcases Decidable.em ((97 : Nat) ≤ c7.toNat) with hs8 | hs8
      · have hs8e : decide ((97 : Nat) ≤ c7.toNat) = true := decide_eq_true hs8
        replace hg := br_t hg hs8
        apply wp_region_lit
        refine q_seq hS rfl rfl rfl (y_move hS rfl) ?_; clear hS a; intro a hS
        refine q_seq hS rfl rfl rfl (y_move hS rfl) ?_; clear hS a; intro a hS
        refine q_seq hS rfl rfl rfl (y_indexN (i := i_2) hS rfl rfl Try.underlying9 rfl hc7) ?_; clear hS a; intro a hS
        refine q_seq hS rfl rfl rfl (yl_b (y_geqN (i := c7.toNat) (j := 97) hS rfl rfl) hs8e) ?_; clear hS a; intro a hS
        refine q_seq hS rfl rfl rfl (y_move hS rfl) ?_; clear hS a; intro a hS
        refine g_yes hS rfl rfl rfl rfl (l_quiet hS rfl rfl (y_move hS rfl) ?_); clear hS a; intro a hS
        refine g_yes hS rfl rfl rfl rfl (l_quiet hS rfl rfl (y_move hS rfl) ?_); clear hS a; intro a hS
        refine g_yes hS rfl rfl rfl rfl (l_quiet hS rfl rfl (y_indexN (i := i_2) hS rfl rfl Try.underlying9 rfl hc7) ?_); clear hS a; intro a hS
        refine g_yes hS rfl rfl rfl rfl (l_quiet hS rfl rfl (y_leqN (i := c7.toNat) (j := 122) hS rfl rfl) ?_); clear hS a; intro a hS
        refine q_seq hS rfl rfl rfl (y_pick_t hS rfl rfl) ?_; clear hS a; intro a hS
        apply wpList_nil
        refine p_norm ?_
        exact ⟨(decide (c7.toNat ≤ 122)), hg, (hS.sub ⟨rfl, rfl, rfl, rfl, trivial⟩ trivial trivial)⟩
      · have hs8e : decide ((97 : Nat) ≤ c7.toNat) = false := decide_eq_false hs8
        replace hg := br_f hg hs8
        apply wp_region_lit
        refine q_seq hS rfl rfl rfl (y_move hS rfl) ?_; clear hS a; intro a hS
        refine q_seq hS rfl rfl rfl (y_move hS rfl) ?_; clear hS a; intro a hS
        refine q_seq hS rfl rfl rfl (y_indexN (i := i_2) hS rfl rfl Try.underlying9 rfl hc7) ?_; clear hS a; intro a hS
        refine q_seq hS rfl rfl rfl (yl_b (y_geqN (i := c7.toNat) (j := 97) hS rfl rfl) hs8e) ?_; clear hS a; intro a hS
        refine q_seq hS rfl rfl rfl (y_move hS rfl) ?_; clear hS a; intro a hS
        refine g_no hS rfl rfl rfl rfl rfl rfl rfl ?_; clear hS a; intro a hS
        refine g_no hS rfl rfl rfl rfl rfl rfl rfl ?_; clear hS a; intro a hS
        refine g_no hS rfl rfl rfl rfl rfl rfl rfl ?_; clear hS a; intro a hS
        refine g_no hS rfl rfl rfl rfl rfl rfl rfl ?_; clear hS a; intro a hS
        refine q_seq hS rfl rfl rfl (y_pick_f hS rfl rfl) ?_; clear hS a; intro a hS
        apply wpList_nil
        refine p_norm ?_
        exact ⟨(false), hg, (hS.sub ⟨rfl, rfl, rfl, rfl, trivial⟩ trivial trivial)⟩
    clear hS a; rintro a w ⟨t_6, hg, hS⟩
    subst hk5
    refine c_cond hS rfl (fun hc9 => ?_) (fun hc9 => ?_)
    · replace hg := br_t hg hc9
      replace hg := bind_some hg; obtain ⟨c10, hc10, hg⟩ := hg
      replace hg := chk_some hg; obtain ⟨hk12, hg⟩ := hg
      apply wp_region_lit
      refine q_seq hS rfl rfl rfl (y_move hS rfl) ?_; clear hS a; intro a hS
      refine q_seq hS rfl rfl rfl (y_move hS rfl) ?_; clear hS a; intro a hS
      refine q_seq hS rfl rfl rfl (y_move hS rfl) ?_; clear hS a; intro a hS
      refine q_seq hS rfl rfl rfl (y_indexN (i := i_2) hS rfl rfl Try.underlying9 rfl hc10) ?_; clear hS a; intro a hS
      refine q_seq hS rfl rfl rfl (y_subU8 (p := c10) (q := (97 : UInt8)) hS rfl rfl) ?_; clear hS a; intro a hS
      refine q_seq hS rfl rfl rfl (y_addU8 (p := (c10 - (97 : UInt8))) (q := (65 : UInt8)) hS rfl rfl) ?_; clear hS a; intro a hS
      refine l_seq rfl (l_buildDense (sz := 1) hS 1606 rfl rfl rfl Try.underlying35 rfl rfl rfl rfl rfl rfl rfl ?_); clear hS a; intro b13 a w hbb13 hK hS
      clear hbb13
      clear hK
      replace hS := hS.add 102 (rdF Rep.u8 (cellsOfL [.int .u8 (((((c10 - (97 : UInt8)) + (65 : UInt8)).toNat : Nat) : Int))]) ([(c10 - (97 : UInt8)) + (65 : UInt8)])) (RdAll.cons (by exact rfl) (RdAll.nil _ _ _))
      have hbl := row_len1 (hS.wd.holds 1606 _ rfl) (hS.fact (k := 102) rfl)
      refine q_seq hS rfl rfl rfl (y_bytesRow (kk := 1606) hS rfl rfl (hS.fact (k := 102) rfl) Try.underlying35 Try.underlying5 Try.underlying9) ?_; clear hS a; intro a hS
      refine q_seq hS rfl rfl rfl (y_concat hS rfl rfl hk12) ?_; clear hS a; intro a hS
      refine q_seq hS rfl rfl rfl (y_assign hS rfl) ?_; clear hS a; intro a hS
      apply wpList_nil
      refine p_inN ?_
      refine p_norm ?_
      apply wp_region_lit
      refine q_seq hS rfl rfl rfl (y_move hS rfl) ?_; clear hS a; intro a hS
      refine q_seq hS rfl rfl rfl (y_addN (i := i_2) (j := 1) hS rfl rfl (in64.2 (by omega))) ?_; clear hS a; intro a hS
      refine q_seq hS rfl rfl rfl (y_assign hS rfl) ?_; clear hS a; intro a hS
      apply wpList_nil
      refine p_norm ?_
      exact ⟨m1, Nat.lt_succ_self _, ⟨(out_1 ++ [(c10 - (97 : UInt8)) + (65 : UInt8)]), (i_2 + 1), hg, (by first | omega | (simp only [List.length_append]; omega) | (simp only [List.length_append, List.length_take, List.length_drop, List.length_cons, List.length_nil]; omega)), (hS.sub ⟨rfl, rfl, rfl, trivial⟩ trivial trivial)⟩⟩
    · replace hg := br_f hg (by rw [hc9]; exact Bool.false_ne_true)
      replace hg := chk_some hg; obtain ⟨hk14, hg⟩ := hg
      replace hg := chk_some hg; obtain ⟨hk15, hg⟩ := hg
      apply wp_region_lit
      refine q_seq hS rfl rfl rfl (y_move hS rfl) ?_; clear hS a; intro a hS
      refine q_seq hS rfl rfl rfl (y_move hS rfl) ?_; clear hS a; intro a hS
      refine q_seq hS rfl rfl rfl (y_move hS rfl) ?_; clear hS a; intro a hS
      refine q_seq hS rfl rfl rfl (y_move hS rfl) ?_; clear hS a; intro a hS
      refine q_seq hS rfl rfl rfl (y_addN (i := i_2) (j := 1) hS rfl rfl (in64.2 (by omega))) ?_; clear hS a; intro a hS
      refine q_seq hS rfl rfl rfl (y_strLH (i := i_2) (j := (i_2 + 1)) hS rfl rfl rfl Try.underlying9 rfl rfl hk14.1 hk14.2) ?_; clear hS a; intro a hS
      refine q_seq hS rfl rfl rfl (y_concat hS rfl rfl hk15) ?_; clear hS a; intro a hS
      refine q_seq hS rfl rfl rfl (y_assign hS rfl) ?_; clear hS a; intro a hS
      apply wpList_nil
      refine p_inN ?_
      refine p_norm ?_
      apply wp_region_lit
      refine q_seq hS rfl rfl rfl (y_move hS rfl) ?_; clear hS a; intro a hS
      refine q_seq hS rfl rfl rfl (y_addN (i := i_2) (j := 1) hS rfl rfl (in64.2 (by omega))) ?_; clear hS a; intro a hS
      refine q_seq hS rfl rfl rfl (y_assign hS rfl) ?_; clear hS a; intro a hS
      apply wpList_nil
      refine p_norm ?_
      exact ⟨m1, Nat.lt_succ_self _, ⟨(out_1 ++ (((s_).drop i_2).take (i_2 + 1 - i_2))), (i_2 + 1), hg, (by first | omega | (simp only [List.length_append]; omega) | (simp only [List.length_append, List.length_take, List.length_drop, List.length_cons, List.length_nil]; omega)), (hS.sub ⟨rfl, rfl, rfl, trivial⟩ trivial trivial)⟩⟩
  · replace hg := br_f hg hc3
    apply wp_exit
    refine p_then ?_
    refine p_then ?_
    refine p_in ?_
    refine p_norm ?_
    apply wp_seq
    apply wp_region_lit
    refine q_seq hS rfl rfl rfl (y_move hS rfl) ?_; clear hS a; intro a hS
    refine q_seq hS rfl rfl rfl (y_assign hS rfl) ?_; clear hS a; intro a hS
    apply wpList_nil
    refine p_norm ?_
    apply wp_ret
    obtain rfl := Option.some.inj hg
    refine fin1 (fn := Try.f19) hS rfl (r_tmp hS rfl) ?_
    exact ⟨rfl, (by first | omega | (simp only [List.length_append]; omega) | (simp only [List.length_append, List.length_take, List.length_drop, List.length_cons, List.length_nil]; omega))⟩
end Go.Proofs.Ythblmjbmnfebdaa

/- Chapter 23: types, plain programs -/
import Derived.Test.YtolgbjbfhoffpaaA0
import Derived.Test.YtolgbjbfhoffpaaGl15
import Derived.Test.YtolgbjbfhoffpaaGl16
import Derived.Test.YtolgbjbfhoffpaaProg
namespace Go.Proofs.Ytolgbjbfhoffpaa
open Go.Gl Go.RowKit
set_option linter.unusedVariables false
set_option linter.unusedSimpArgs false

structure Change where
  mk ::
  Old : (List UInt8)
  New : (List UInt8)
  deriving DecidableEq
def RChange : Rep Change := Rep.via (Rep.prod Rep.str Rep.str) (fun x => (x.Old, x.New))
theorem RChange.open {M : Bs} {w : World} {cs : List Value} {x : Change} (h : RChange.rd M w cs x) : cs = [.string (bs (x.Old)), .string (bs (x.New))] ∧ ((x.Old).length ≤ 9223372036854775807) ∧ ((x.New).length ≤ 9223372036854775807) := by
  obtain ⟨_, _, rfl, h0, r0⟩ := h
  obtain ⟨rfl, p0⟩ := h0
  obtain ⟨rfl, p1⟩ := r0
  exact ⟨rfl, p0, p1⟩
theorem RChange.mk' {M : Bs} {w : World} {x : Change}  (p0 : (x.Old).length ≤ 9223372036854775807) (p1 : (x.New).length ≤ 9223372036854775807) : RChange.rd M w [.string (bs (x.Old)), .string (bs (x.New))] x := ⟨_, _, rfl, ⟨rfl, p0⟩, ⟨rfl, p1⟩⟩
structure Affix where
  mk ::
  Kind : Int
  Pairs : (List Change)
  deriving DecidableEq
def RAffix : Rep Affix := Rep.via (Rep.prod (Rep.num .i64) (Rep.list RChange)) (fun x => (x.Kind, x.Pairs))
theorem RAffix.open {M : Bs} {w : World} {cs : List Value} {x : Affix} (h : RAffix.rd M w cs x) : ∃ (Aq2 : Option Addr), ∃ (cq2 : Nat), cs = [.int .i64 (x.Kind), .slice (Aq2) ((x.Pairs).length) (cq2)] ∧ (SlR RChange M w Aq2 (x.Pairs).length cq2 (x.Pairs)) := by
  obtain ⟨_, _, rfl, h0, r0⟩ := h
  obtain rfl := h0
  obtain ⟨A0, n0, c0, rfl, p0⟩ := r0
  obtain rfl := p0.len
  exact ⟨A0, c0, rfl, p0⟩
theorem RAffix.mk' {M : Bs} {w : World} {x : Affix} {Aq2 : Option Addr} {cq2 : Nat} (p0 : SlR RChange M w Aq2 (x.Pairs).length cq2 (x.Pairs)) : RAffix.rd M w [.int .i64 (x.Kind), .slice (Aq2) ((x.Pairs).length) (cq2)] x := ⟨_, _, rfl, rfl, ⟨_, _, _, rfl, p0⟩⟩
def pre44 (M : Bs) (w : World) (vs : List Value) (x : Change) : Prop := vs = [.agg #[.string (bs (x.Old)), .string (bs (x.New))]] ∧ ((x.Old).length ≤ 9223372036854775807) ∧ ((x.New).length ≤ 9223372036854775807)
def post44 (M : Bs) (w : World) (v : Value) (x : Bool) : Prop := v = .bool (x)
def pre46 (M : Bs) (w : World) (vs : List Value) (x : ((List UInt8) × (List UInt8))) : Prop := vs = [.string (bs (x.1)), .string (bs (x.2))] ∧ ((x.1).length ≤ 9223372036854775807) ∧ ((x.2).length ≤ 9223372036854775807)
def post46 (M : Bs) (w : World) (v : Value) (x : Bool) : Prop := v = .bool (x)
def pre47 (M : Bs) (w : World) (vs : List Value) (x : ((List UInt8) × (List UInt8))) : Prop := vs = [.string (bs (x.1)), .string (bs (x.2))] ∧ ((x.1).length ≤ 9223372036854775807) ∧ ((x.2).length ≤ 9223372036854775807)
def post47 (M : Bs) (w : World) (v : Value) (x : (List UInt8)) : Prop := v = .string (bs (x)) ∧ ((x).length ≤ 9223372036854775807)
structure side where
  mk ::
  fits_ : (((List UInt8) × (List UInt8)) → Option Bool)
  remove_ : (((List UInt8) × (List UInt8)) → Option (List UInt8))
  add_ : (((List UInt8) × (List UInt8)) → Option (List UInt8))
def Rside : Rep side := Rep.via (Rep.prod (Rep.fn Try.prog pre46 post46) (Rep.prod (Rep.fn Try.prog pre47 post47) (Rep.fn Try.prog pre47 post47))) (fun x => (x.fits_, (x.remove_, x.add_)))
theorem Rside.open {M : Bs} {w : World} {cs : List Value} {x : side} (h : Rside.rd M w cs x) : ∃ (Aq1 : FuncId), ∃ (cq1 : List Value), ∃ (Aq2 : FuncId), ∃ (cq2 : List Value), ∃ (Aq3 : FuncId), ∃ (cq3 : List Value), cs = [.func (.func Aq1) #[] (List.toArray cq1), .func (.func Aq2) #[] (List.toArray cq2), .func (.func Aq3) #[] (List.toArray cq3)] ∧ (FnR Try.prog Aq1 cq1 pre46 post46 (x.fits_) M w) ∧ (FnR Try.prog Aq2 cq2 pre47 post47 (x.remove_) M w) ∧ (FnR Try.prog Aq3 cq3 pre47 post47 (x.add_) M w) := by
  obtain ⟨_, _, rfl, h0, r0⟩ := h
  obtain ⟨A0, c0, rfl, p0⟩ := h0
  obtain ⟨_, _, rfl, h1, r1⟩ := r0
  obtain ⟨A1, c1, rfl, p1⟩ := h1
  obtain ⟨A2, c2, rfl, p2⟩ := r1
  exact ⟨A0, c0, A1, c1, A2, c2, rfl, p0, p1, p2⟩
theorem Rside.mk' {M : Bs} {w : World} {x : side} {Aq1 : FuncId} {cq1 : List Value} {Aq2 : FuncId} {cq2 : List Value} {Aq3 : FuncId} {cq3 : List Value} (p0 : FnR Try.prog Aq1 cq1 pre46 post46 (x.fits_) M w) (p1 : FnR Try.prog Aq2 cq2 pre47 post47 (x.remove_) M w) (p2 : FnR Try.prog Aq3 cq3 pre47 post47 (x.add_) M w) : Rside.rd M w [.func (.func Aq1) #[] (List.toArray cq1), .func (.func Aq2) #[] (List.toArray cq2), .func (.func Aq3) #[] (List.toArray cq3)] x := ⟨_, _, rfl, ⟨_, _, rfl, p0⟩, ⟨_, _, rfl, ⟨_, _, rfl, p1⟩, ⟨_, _, rfl, p2⟩⟩⟩
def r23_Light_L0 (n : Nat) (a_ : Affix) : Nat → Nat → Option Bool
  | 0, _ => none
  | m1 + 1, i_5 =>
    if i_5 < ((a_.Pairs).length) then
      jn (fun (t_9 : Bool) =>
        if t_9 = true then
          some false
        else
          r23_Light_L0 n a_ m1 (i_5 + 1))
        (fun k8 =>
          (a_.Pairs[i_5]?).bind fun x11 =>
          if (100 : Nat) < ((x11.Old).length) then
            k8 true
          else
            k8 (decide ((100 : Nat) < ((x11.New).length))))
    else
      some true
/-- grammarlab/grammarlabref23.Light -/
def r23_Light (n : Nat) (a_ : Affix) : Option Bool :=
  if (40 : Nat) < ((a_.Pairs).length) then
    some false
  else
    r23_Light_L0 n a_ n 0
/-- grammarlab/text.upper -/
def text_upper (n : Nat) (c_ : Int) : Option Bool :=
  if (65 : Int) ≤ c_ then
    some (decide (c_ ≤ 90))
  else
    some false
def text_Word_L0 (n : Nat) (s_ : (List UInt8)) : Nat → Nat → Option Bool
  | 0, _ => none
  | m1 + 1, pos_7 =>
    if pos_7 < (s_).length then
      jn (fun (t_11 : Bool) =>
        if t_11 = true then
          some false
        else
          text_Word_L0 n s_ m1 (pos_7 + runeLen s_ pos_7))
        (fun k10 =>
          if (runeAt s_ pos_7) < 33 then
            k10 true
          else
            if (126 : Int) < (runeAt s_ pos_7) then
              k10 true
            else
              (text_upper n (runeAt s_ pos_7)).bind fun r14 =>
              if r14 = true then
                k10 true
              else
                if (runeAt s_ pos_7) = 34 then
                  k10 true
                else
                  k10 (decide ((runeAt s_ pos_7) = 92)))
    else
      some true
/-- grammarlab/text.Word -/
def text_Word (n : Nat) (s_ : (List UInt8)) : Option Bool :=
  jn (fun (t_2 : Bool) =>
    if t_2 = true then
      some false
    else
      text_Word_L0 n s_ n 0)
    (fun k1 =>
      if ((s_).length) = 0 then
        k1 true
      else
        k1 (decide ((32 : Nat) < ((s_).length))))
def affix_bytes_L0 (n : Nat) (s_ : (List UInt8)) : Nat → Nat → Option Bool
  | 0, _ => none
  | m1 + 1, t_1 =>
    if t_1 < ((s_).length) then
      chk (t_1 ≤ t_1 + 1 ∧ t_1 + 1 ≤ (s_).length) (
      (text_Word n (((s_).drop t_1).take (t_1 + 1 - t_1))).bind fun r5 =>
      if (!(r5)) = true then
        some false
      else
        affix_bytes_L0 n s_ m1 (t_1 + 1))
    else
      some true
/-- grammarlab/affix.bytes -/
def affix_bytes (n : Nat) (s_ : (List UInt8)) : Option Bool :=
  affix_bytes_L0 n s_ n 0
def slices_IndexFunc_Change_L0 (n : Nat) (s_ : (List Change)) (f_ : (Change → Option Bool)) : Nat → Nat → Option Int
  | 0, _ => none
  | m1 + 1, t_1 =>
    if t_1 < ((s_).length) then
      (s_[t_1]?).bind fun x5 =>
      (f_ x5).bind fun r7 =>
      if r7 = true then
        some ((t_1 : Nat) : Int)
      else
        slices_IndexFunc_Change_L0 n s_ f_ m1 (t_1 + 1)
    else
      some (-1)
/-- slices.IndexFunc(()grammarlab/api.Change,grammarlab/api.Change) -/
def slices_IndexFunc_Change (n : Nat) (s_ : (List Change)) (f_ : (Change → Option Bool)) : Option Int :=
  slices_IndexFunc_Change_L0 n s_ f_ n 0
/-- slices.ContainsFunc(()grammarlab/api.Change,grammarlab/api.Change) -/
def slices_ContainsFunc_Change (n : Nat) (s_ : (List Change)) (f_ : (Change → Option Bool)) : Option Bool :=
  (slices_IndexFunc_Change n s_ f_).bind fun r1 =>
  some (decide ((0 : Int) ≤ r1))
/-- grammarlab/affix.Check inner 1 -/
def affix_Check_1 (n : Nat) (q_ : Change) (c0_ : Change) : Option Bool :=
  some (decide ((q_.Old : List UInt8) = c0_.Old))
def affix_Check_L0 (n : Nat) (t_ : Affix) : Nat → Nat → Option Int
  | 0, _ => none
  | m1 + 1, t_11 =>
    if t_11 < ((t_.Pairs).length) then
      (t_.Pairs[t_11]?).bind fun x15 =>
      jn (fun (t_22 : Bool) =>
        if t_22 = true then
          some 1
        else
          jn (fun (t_38 : Bool) =>
            if t_38 = true then
              some 7
            else
              chk (t_11 ≤ (t_.Pairs).length) (
              (slices_ContainsFunc_Change n ((t_.Pairs).take t_11) (fun p => affix_Check_1 n p x15)).bind fun r42 =>
              if r42 = true then
                some 4
              else
                affix_Check_L0 n t_ m1 (t_11 + 1)))
            (fun k37 =>
              if (32 : Nat) < ((x15.Old).length) then
                k37 true
              else
                k37 (decide ((32 : Nat) < ((x15.New).length)))))
        (fun k21 =>
          (affix_bytes n x15.Old).bind fun r23 =>
          if (!(r23)) = true then
            k21 true
          else
            (affix_bytes n x15.New).bind fun r29 =>
            k21 (!(r29)))
    else
      some 0
/-- grammarlab/affix.Check -/
def affix_Check (n : Nat) (t_ : Affix) : Option Int :=
  jn (fun (t_4 : Bool) =>
    if t_4 = true then
      some 14
    else
      if (!((decide (t_.Kind = 0)) == (decide (((t_.Pairs).length) = 0)))) = true then
        some 1
      else
        if (16 : Nat) < ((t_.Pairs).length) then
          some 7
        else
          affix_Check_L0 n t_ n 0)
    (fun k3 =>
      if t_.Kind ≠ 0 then
        if t_.Kind ≠ 1 then
          k3 (decide (t_.Kind ≠ 2))
        else
          k3 false
      else
        k3 false)
/-- internal/stringslite.HasPrefix -/
def stringslite_HasPrefix (n : Nat) (s_ : (List UInt8)) (prefix_ : (List UInt8)) : Option Bool :=
  if ((prefix_).length) ≤ ((s_).length) then
    chk ((prefix_).length ≤ (s_).length) (
    some (decide (((s_).take ((prefix_).length) : List UInt8) = prefix_)))
  else
    some false
/-- strings.HasPrefix -/
def strings_HasPrefix (n : Nat) (s_ : (List UInt8)) (prefix_ : (List UInt8)) : Option Bool :=
  (stringslite_HasPrefix n s_ prefix_).bind fun r1 =>
  some r1
/-- internal/stringslite.TrimPrefix -/
def stringslite_TrimPrefix (n : Nat) (s_ : (List UInt8)) (prefix_ : (List UInt8)) : Option (List UInt8) :=
  (stringslite_HasPrefix n s_ prefix_).bind fun r1 =>
  if r1 = true then
    chk ((prefix_).length ≤ (s_).length) (
    some ((s_).drop ((prefix_).length)))
  else
    some s_
/-- strings.TrimPrefix -/
def strings_TrimPrefix (n : Nat) (s_ : (List UInt8)) (prefix_ : (List UInt8)) : Option (List UInt8) :=
  (stringslite_TrimPrefix n s_ prefix_).bind fun r1 =>
  some r1
/-- grammarlab/affix.sideOf inner 1 -/
def affix_sideOf_1 (n : Nat) (w_ : (List UInt8)) (part_ : (List UInt8)) : Option (List UInt8) :=
  chk ((part_).length + (w_).length ≤ 9223372036854775807) (
  some (part_ ++ w_))
/-- internal/stringslite.HasSuffix -/
def stringslite_HasSuffix (n : Nat) (s_ : (List UInt8)) (suffix_ : (List UInt8)) : Option Bool :=
  if ((suffix_).length) ≤ ((s_).length) then
    chk (0 ≤ ((((s_).length : Nat) : Int) - (((suffix_).length : Nat) : Int))) (
    chk (((((s_).length : Nat) : Int) - (((suffix_).length : Nat) : Int)).toNat ≤ (s_).length) (
    some (decide (((s_).drop (((((s_).length : Nat) : Int) - (((suffix_).length : Nat) : Int)).toNat) : List UInt8) = suffix_))))
  else
    some false
/-- strings.HasSuffix -/
def strings_HasSuffix (n : Nat) (s_ : (List UInt8)) (suffix_ : (List UInt8)) : Option Bool :=
  (stringslite_HasSuffix n s_ suffix_).bind fun r1 =>
  some r1
/-- internal/stringslite.TrimSuffix -/
def stringslite_TrimSuffix (n : Nat) (s_ : (List UInt8)) (suffix_ : (List UInt8)) : Option (List UInt8) :=
  (stringslite_HasSuffix n s_ suffix_).bind fun r1 =>
  if r1 = true then
    chk (0 ≤ ((((s_).length : Nat) : Int) - (((suffix_).length : Nat) : Int))) (
    chk (((((s_).length : Nat) : Int) - (((suffix_).length : Nat) : Int)).toNat ≤ (s_).length) (
    some ((s_).take (((((s_).length : Nat) : Int) - (((suffix_).length : Nat) : Int)).toNat))))
  else
    some s_
/-- strings.TrimSuffix -/
def strings_TrimSuffix (n : Nat) (s_ : (List UInt8)) (suffix_ : (List UInt8)) : Option (List UInt8) :=
  (stringslite_TrimSuffix n s_ suffix_).bind fun r1 =>
  some r1
/-- grammarlab/affix.sideOf inner 2 -/
def affix_sideOf_2 (n : Nat) (w_ : (List UInt8)) (part_ : (List UInt8)) : Option (List UInt8) :=
  chk ((w_).length + (part_).length ≤ 9223372036854775807) (
  some (w_ ++ part_))
/-- grammarlab/affix.sideOf -/
def affix_sideOf (n : Nat) (kind_ : Int) : Option side :=
  if kind_ = 2 then
    some (side.mk (fun p => strings_HasPrefix n p.1 p.2) (fun p => strings_TrimPrefix n p.1 p.2) (fun p => affix_sideOf_1 n p.1 p.2))
  else
    some (side.mk (fun p => strings_HasSuffix n p.1 p.2) (fun p => strings_TrimSuffix n p.1 p.2) (fun p => affix_sideOf_2 n p.1 p.2))
def affix_Apply_L0 (n : Nat) (a_ : Affix) (w_ : (List UInt8)) (r4 : side) : Nat → Nat → Option ((List UInt8) × Bool)
  | 0, _ => none
  | m1 + 1, t_11 =>
    if t_11 < ((a_.Pairs).length) then
      (a_.Pairs[t_11]?).bind fun x15 =>
      jn (fun (t_22 : Bool) =>
        if t_22 = true then
          (r4.remove_ (w_, x15.Old)).bind fun r32 =>
          (r4.add_ (r32, x15.New)).bind fun r35 =>
          (text_Word n r35).bind fun r42 =>
          if (!(r42)) = true then
            some ([], false)
          else
            some (r35, true)
        else
          affix_Apply_L0 n a_ w_ r4 m1 (t_11 + 1))
        (fun k21 =>
          (r4.fits_ (w_, x15.Old)).bind fun r23 =>
          if r23 = true then
            k21 (decide (((x15.Old).length) < ((w_).length)))
          else
            k21 false)
    else
      some ([], false)
/-- grammarlab/affix.Apply -/
def affix_Apply (n : Nat) (a_ : Affix) (w_ : (List UInt8)) : Option ((List UInt8) × Bool) :=
  if a_.Kind = 0 then
    some (w_, true)
  else
    (affix_sideOf n a_.Kind).bind fun r4 =>
    affix_Apply_L0 n a_ w_ r4 n 0
def r01_Same_L0 (n : Nat) (a_ : (List (List UInt8))) (b_ : (List (List UInt8))) : Nat → Nat → Option Bool
  | 0, _ => none
  | m1 + 1, i_2 =>
    if i_2 < ((a_).length) then
      (a_[i_2]?).bind fun x6 =>
      (b_[i_2]?).bind fun x9 =>
      if (x6 : List UInt8) ≠ x9 then
        some false
      else
        r01_Same_L0 n a_ b_ m1 (i_2 + 1)
    else
      some true
/-- grammarlab/grammarlabref01.Same -/
def r01_Same (n : Nat) (a_ : (List (List UInt8))) (b_ : (List (List UInt8))) : Option Bool :=
  if ((a_).length) ≠ ((b_).length) then
    some false
  else
    r01_Same_L0 n a_ b_ n 0
def affix_Undo_L0 (n : Nat) (t_ : Affix) (t_' : (List UInt8)) (r6 : side) (k13 : (List (List UInt8)) → Option (List (List UInt8))) : Nat → (List (List UInt8)) → Nat → Option (List (List UInt8))
  | 0, _, _ => none
  | m1 + 1, t_18, t_22 =>
    if t_22 < ((t_.Pairs).length) then
      (t_.Pairs[t_22]?).bind fun x26 =>
      (r6.fits_ (t_', x26.New)).bind fun r32 =>
      if (!(r32)) = true then
        affix_Undo_L0 n t_ t_' r6 k13 m1 t_18 (t_22 + 1)
      else
        (r6.remove_ (t_', x26.New)).bind fun r38 =>
        (r6.add_ (r38, x26.Old)).bind fun r41 =>
        (affix_Apply n t_ r41).bind fun r48 =>
        jn (fun (t_54 : Bool) =>
          if t_54 = true then
            chk ((t_18).length + ([r41]).length ≤ 137438953472) (
            affix_Undo_L0 n t_ t_' r6 k13 m1 (t_18 ++ [r41]) (t_22 + 1))
          else
            affix_Undo_L0 n t_ t_' r6 k13 m1 t_18 (t_22 + 1))
          (fun k53 =>
            (text_Word n r41).bind fun r55 =>
            if r55 = true then
              if r48.2 = true then
                k53 (decide ((r48.1 : List UInt8) = t_'))
              else
                k53 false
            else
              k53 false)
    else
      k13 t_18
/-- grammarlab/affix.Undo -/
def affix_Undo (n : Nat) (t_ : Affix) (t_' : (List UInt8)) : Option (List (List UInt8)) :=
  if t_.Kind = 0 then
    some [t_']
  else
    (affix_sideOf n t_.Kind).bind fun r6 =>
    jn (fun (t_14 : (List (List UInt8))) =>
      (slices_Sort_string n t_14).bind fun r74 =>
      (slices_Compact_string n r74).bind fun r79 =>
      some r79)
      (fun k13 =>
        affix_Undo_L0 n t_ t_' r6 k13 n [] 0)
/-- slices.Clone(()string,string) -/
def slices_Clone_string (n : Nat) (s_ : (List (List UInt8))) : Option (List (List UInt8)) :=
  chk ((s_).length ≤ 137438953472) (
  some s_)
/-- grammarlab/affix.Words -/
def affix_Words (n : Nat) (a_ : Affix) (w_ : (List (List UInt8))) : Option ((List (List UInt8)) × Bool) :=
  if a_.Kind = 0 then
    some (w_, true)
  else
    jn (fun (at_6 : Int) =>
      (ix w_ at_6).bind fun x9 =>
      (affix_Apply n a_ x9).bind fun r11 =>
      if (!(r11.2)) = true then
        some ([], false)
      else
        (slices_Clone_string n w_).bind fun r19 =>
        (ix r19 at_6).bind fun x25 =>
        some ((r19).set ((at_6).toNat) r11.1, true))
      (fun k5 =>
        if a_.Kind = 2 then
          k5 0
        else
          k5 ((((w_).length : Nat) : Int) - 1))
/-- grammarlab/grammarlablaw23.exampleHolds -/
def law23_exampleHolds (n : Nat)  : Option Bool :=
  (affix_Apply n (Affix.mk 1 [(Change.mk [121] [105, 101, 115]), (Change.mk [] [115])]) [102, 108, 121]).bind fun r5 =>
  (affix_Apply n (Affix.mk 1 [(Change.mk [121] [105, 101, 115]), (Change.mk [] [115])]) [121]).bind fun r10 =>
  (affix_Words n (Affix.mk 1 [(Change.mk [121] [105, 101, 115]), (Change.mk [] [115])]) [[112, 105, 99, 107], [116, 111, 121]]).bind fun r16 =>
  (affix_Apply n (Affix.mk 1 [(Change.mk [101] [101, 100])]) [101]).bind fun r23 =>
  if r5.2 = true then
    if (r5.1 : List UInt8) = [102, 108, 105, 101, 115] then
      if r10.2 = true then
        if (r10.1 : List UInt8) = [121, 115] then
          if r16.2 = true then
            (r01_Same n r16.1 [[112, 105, 99, 107], [116, 111, 105, 101, 115]]).bind fun r35 =>
            if r35 = true then
              if (!(r23.2)) = true then
                (affix_Undo n (Affix.mk 1 [(Change.mk [121] [105, 101, 115]), (Change.mk [] [115])]) [102, 108, 105, 101, 115]).bind fun r40 =>
                (r01_Same n r40 [[102, 108, 105, 101], [102, 108, 121]]).bind fun r44 =>
                if r44 = true then
                  (affix_Check n (Affix.mk 1 [(Change.mk [121] [105, 101, 115]), (Change.mk [] [115])])).bind fun r48 =>
                  if r48 = 0 then
                    (affix_Check n (Affix.mk 3 [])).bind fun r52 =>
                    if r52 = 14 then
                      (affix_Check n (Affix.mk 2 [])).bind fun r56 =>
                      some (decide (r56 = 1))
                    else
                      some false
                  else
                    some false
                else
                  some false
              else
                some false
            else
              some false
          else
            some false
        else
          some false
      else
        some false
    else
      some false
  else
    some false
def r23_plain_L0 (n : Nat) (s_ : (List UInt8)) : Nat → Nat → Option Bool
  | 0, _ => none
  | m1 + 1, i_1 =>
    if i_1 < ((s_).length) then
      (s_[i_1]?).bind fun c4 =>
      jn (fun (t_6 : Bool) =>
        if t_6 = true then
          some false
        else
          r23_plain_L0 n s_ m1 (i_1 + 1))
        (fun k5 =>
          if c4.toNat < 33 then
            k5 true
          else
            if (126 : Nat) < c4.toNat then
              k5 true
            else
              if (65 : Nat) ≤ c4.toNat then
                if c4.toNat ≤ 90 then
                  k5 true
                else
                  if c4.toNat = 34 then
                    k5 true
                  else
                    k5 (decide (c4.toNat = 92))
              else
                if c4.toNat = 34 then
                  k5 true
                else
                  k5 (decide (c4.toNat = 92)))
    else
      some true
/-- grammarlab/grammarlabref23.plain -/
def r23_plain (n : Nat) (s_ : (List UInt8)) : Option Bool :=
  r23_plain_L0 n s_ n 0
def r23_Check_L1 (n : Nat) (t_ : Affix) (t_11 : Nat) (k14 : Option Int) (x16 : Change) : Nat → Nat → Option Int
  | 0, _ => none
  | m2 + 1, t_42 =>
    if t_42 < t_11 then
      (t_.Pairs[t_42]?).bind fun x45 =>
      if (x45.Old : List UInt8) = x16.Old then
        some 4
      else
        chk (t_42 + 1 ≤ 9223372036854775807) (
        r23_Check_L1 n t_ t_11 k14 x16 m2 (t_42 + 1))
    else
      k14
def r23_Check_L0 (n : Nat) (t_ : Affix) : Nat → Nat → Option Int
  | 0, _ => none
  | m1 + 1, t_11 =>
    if t_11 < ((t_.Pairs).length) then
      jn (
        r23_Check_L0 n t_ m1 (t_11 + 1))
        (fun k14 =>
          (t_.Pairs[t_11]?).bind fun x16 =>
          jn (fun (t_23 : Bool) =>
            if t_23 = true then
              some 1
            else
              jn (fun (t_39 : Bool) =>
                if t_39 = true then
                  some 7
                else
                  r23_Check_L1 n t_ t_11 k14 x16 n 0)
                (fun k38 =>
                  if (32 : Nat) < ((x16.Old).length) then
                    k38 true
                  else
                    k38 (decide ((32 : Nat) < ((x16.New).length)))))
            (fun k22 =>
              (r23_plain n x16.Old).bind fun r24 =>
              if (!(r24)) = true then
                k22 true
              else
                (r23_plain n x16.New).bind fun r30 =>
                k22 (!(r30))))
    else
      some 0
/-- grammarlab/grammarlabref23.Check -/
def r23_Check (n : Nat) (t_ : Affix) : Option Int :=
  jn (fun (t_4 : Bool) =>
    if t_4 = true then
      some 14
    else
      if (!((decide (t_.Kind = 0)) == (decide (((t_.Pairs).length) = 0)))) = true then
        some 1
      else
        if (16 : Nat) < ((t_.Pairs).length) then
          some 7
        else
          r23_Check_L0 n t_ n 0)
    (fun k3 =>
      if t_.Kind ≠ 0 then
        if t_.Kind ≠ 1 then
          k3 (decide (t_.Kind ≠ 2))
        else
          k3 false
      else
        k3 false)
/-- grammarlab/grammarlablaw23.AffixChecks -/
def law23_AffixChecks (n : Nat) (a_ : Affix) : Option Bool :=
  (r23_Light n a_).bind fun r3 =>
  if (!(r3)) = true then
    (law23_exampleHolds n).bind fun r9 =>
    some r9
  else
    (affix_Check n a_).bind fun r14 =>
    (r23_Check n a_).bind fun r17 =>
    if r14 = r17 then
      (law23_exampleHolds n).bind fun r21 =>
      some r21
    else
      some false
/-- grammarlab/grammarlabref01.upper -/
def r01_upper (n : Nat) (c_ : UInt8) : Option Bool :=
  if (65 : Nat) ≤ c_.toNat then
    some (decide (c_.toNat ≤ 90))
  else
    some false
def r01_Word_L0 (n : Nat) (s_ : (List UInt8)) : Nat → Nat → Option Bool
  | 0, _ => none
  | m1 + 1, i_5 =>
    if i_5 < ((s_).length) then
      jn (fun (t_9 : Bool) =>
        if t_9 = true then
          some false
        else
          r01_Word_L0 n s_ m1 (i_5 + 1))
        (fun k8 =>
          (s_[i_5]?).bind fun c10 =>
          if c10.toNat < 33 then
            k8 true
          else
            if (126 : Nat) < c10.toNat then
              k8 true
            else
              (r01_upper n c10).bind fun r13 =>
              if r13 = true then
                k8 true
              else
                if c10.toNat = 34 then
                  k8 true
                else
                  k8 (decide (c10.toNat = 92)))
    else
      some true
/-- grammarlab/grammarlabref01.Word -/
def r01_Word (n : Nat) (s_ : (List UInt8)) : Option Bool :=
  jn (fun (t_2 : Bool) =>
    if t_2 = true then
      some false
    else
      r01_Word_L0 n s_ n 0)
    (fun k1 =>
      if ((s_).length) < 1 then
        k1 true
      else
        k1 (decide ((32 : Nat) < ((s_).length))))
/-- grammarlab/grammarlabref23.fits -/
def r23_fits (n : Nat) (kind_ : Int) (part_ : (List UInt8)) (w_ : (List UInt8)) : Option Bool :=
  if ((w_).length) ≤ ((part_).length) then
    some false
  else
    if kind_ = 2 then
      chk ((part_).length ≤ (w_).length) (
      some (decide (((w_).take ((part_).length) : List UInt8) = part_)))
    else
      chk (0 ≤ ((((w_).length : Nat) : Int) - (((part_).length : Nat) : Int))) (
      chk (((((w_).length : Nat) : Int) - (((part_).length : Nat) : Int)).toNat ≤ (w_).length) (
      some (decide (((w_).drop (((((w_).length : Nat) : Int) - (((part_).length : Nat) : Int)).toNat) : List UInt8) = part_))))
/-- grammarlab/grammarlabref23.replaced -/
def r23_replaced (n : Nat) (kind_ : Int) (w_ : (List UInt8)) (from_ : (List UInt8)) (to_ : (List UInt8)) : Option (List UInt8) :=
  if kind_ = 2 then
    chk ((from_).length ≤ (w_).length) (
    chk ((to_).length + ((w_).drop ((from_).length)).length ≤ 9223372036854775807) (
    some (to_ ++ ((w_).drop ((from_).length)))))
  else
    chk (0 ≤ ((((w_).length : Nat) : Int) - (((from_).length : Nat) : Int))) (
    chk (((((w_).length : Nat) : Int) - (((from_).length : Nat) : Int)).toNat ≤ (w_).length) (
    chk (((w_).take (((((w_).length : Nat) : Int) - (((from_).length : Nat) : Int)).toNat)).length + (to_).length ≤ 9223372036854775807) (
    some (((w_).take (((((w_).length : Nat) : Int) - (((from_).length : Nat) : Int)).toNat)) ++ to_))))
def r23_Apply_L0 (n : Nat) (a_ : Affix) (w_ : (List UInt8)) : Nat → Nat → Option ((List UInt8) × Bool)
  | 0, _ => none
  | m1 + 1, i_4 =>
    if i_4 < ((a_.Pairs).length) then
      (a_.Pairs[i_4]?).bind fun x8 =>
      (r23_fits n a_.Kind x8.Old w_).bind fun r10 =>
      if r10 = true then
        (r23_replaced n a_.Kind w_ x8.Old x8.New).bind fun r22 =>
        (r01_Word n r22).bind fun r31 =>
        if (!(r31)) = true then
          some ([], false)
        else
          some (r22, true)
      else
        r23_Apply_L0 n a_ w_ m1 (i_4 + 1)
    else
      some ([], false)
/-- grammarlab/grammarlabref23.Apply -/
def r23_Apply (n : Nat) (a_ : Affix) (w_ : (List UInt8)) : Option ((List UInt8) × Bool) :=
  if a_.Kind = 0 then
    some (w_, true)
  else
    r23_Apply_L0 n a_ w_ n 0
/-- grammarlab/grammarlablaw23.AffixApplies -/
def law23_AffixApplies (n : Nat) (a_ : Affix) (w_ : (List UInt8)) : Option Bool :=
  jn (fun (t_4 : Bool) =>
    if t_4 = true then
      (law23_exampleHolds n).bind fun r29 =>
      some r29
    else
      (affix_Apply n a_ w_).bind fun r34 =>
      (r23_Apply n a_ w_).bind fun r39 =>
      if (r34.1 : List UInt8) = r39.1 then
        if (r34.2 == r39.2) = true then
          (law23_exampleHolds n).bind fun r46 =>
          some r46
        else
          some false
      else
        some false)
    (fun k3 =>
      (r23_Light n a_).bind fun r5 =>
      if (!(r5)) = true then
        k3 true
      else
        (r23_Check n a_).bind fun r11 =>
        if r11 ≠ 0 then
          k3 true
        else
          (r01_Word n w_).bind fun r19 =>
          k3 (!(r19)))
def r23_with_L0 (n : Nat) (l_ : (List (List UInt8))) (s_ : (List UInt8)) (k1 : (List (List UInt8)) → Bool → Option (List (List UInt8))) : Nat → (List (List UInt8)) → Bool → Nat → Option (List (List UInt8))
  | 0, _, _, _ => none
  | m1 + 1, out_7, done_11, i_12 =>
    if i_12 < ((l_).length) then
      jn (fun (t_16 : Bool) =>
        jn (fun (out_24 : (List (List UInt8))) (done_28 : Bool) =>
          (l_[i_12]?).bind fun x38 =>
          if (x38 : List UInt8) ≠ s_ then
            chk ((out_24).length + ([x38]).length ≤ 137438953472) (
            r23_with_L0 n l_ s_ k1 m1 (out_24 ++ [x38]) done_28 (i_12 + 1))
          else
            r23_with_L0 n l_ s_ k1 m1 out_24 done_28 (i_12 + 1))
          (fun k23 =>
            if t_16 = true then
              chk ((out_7).length + ([s_]).length ≤ 137438953472) (
              k23 (out_7 ++ [s_]) true)
            else
              k23 out_7 done_11))
        (fun k15 =>
          if (!(done_11)) = true then
            (l_[i_12]?).bind fun x19 =>
            k15 (!(Op.bytesLess x19 s_))
          else
            k15 false)
    else
      k1 out_7 done_11
/-- grammarlab/grammarlabref23.with -/
def r23_with (n : Nat) (l_ : (List (List UInt8))) (s_ : (List UInt8)) : Option (List (List UInt8)) :=
  jn (fun (out_2 : (List (List UInt8))) (done_6 : Bool) =>
    if (!(done_6)) = true then
      chk ((out_2).length + ([s_]).length ≤ 137438953472) (
      some (out_2 ++ [s_]))
    else
      some out_2)
    (fun k1 =>
      r23_with_L0 n l_ s_ k1 n [] false 0)
def r23_Undo_L0 (n : Nat) (t_ : Affix) (t_' : (List UInt8)) : Nat → (List (List UInt8)) → Nat → Option (List (List UInt8))
  | 0, _, _ => none
  | m1 + 1, t_6, t_9 =>
    if t_9 < ((t_.Pairs).length) then
      (t_.Pairs[t_9]?).bind fun x13 =>
      (r23_fits n t_.Kind x13.New t_').bind fun r15 =>
      if (!(r15)) = true then
        r23_Undo_L0 n t_ t_' m1 t_6 (t_9 + 1)
      else
        (r23_replaced n t_.Kind t_' x13.New x13.Old).bind fun r27 =>
        (r01_Word n r27).bind fun r36 =>
        if (!(r36)) = true then
          r23_Undo_L0 n t_ t_' m1 t_6 (t_9 + 1)
        else
          (r23_Apply n t_ r27).bind fun r42 =>
          jn (fun (t_48 : Bool) =>
            if t_48 = true then
              (r23_with n t_6 r27).bind fun r51 =>
              r23_Undo_L0 n t_ t_' m1 r51 (t_9 + 1)
            else
              r23_Undo_L0 n t_ t_' m1 t_6 (t_9 + 1))
            (fun k47 =>
              if r42.2 = true then
                k47 (decide ((r42.1 : List UInt8) = t_'))
              else
                k47 false)
    else
      some t_6
/-- grammarlab/grammarlabref23.Undo -/
def r23_Undo (n : Nat) (t_ : Affix) (t_' : (List UInt8)) : Option (List (List UInt8)) :=
  if t_.Kind = 0 then
    some [t_']
  else
    r23_Undo_L0 n t_ t_' n [] 0
/-- grammarlab/grammarlablaw23.AffixUndoes -/
def law23_AffixUndoes (n : Nat) (a_ : Affix) (w_ : (List UInt8)) : Option Bool :=
  jn (fun (t_4 : Bool) =>
    if t_4 = true then
      (law23_exampleHolds n).bind fun r29 =>
      some r29
    else
      (affix_Undo n a_ w_).bind fun r34 =>
      (r23_Undo n a_ w_).bind fun r37 =>
      (r01_Same n r34 r37).bind fun r40 =>
      if r40 = true then
        (law23_exampleHolds n).bind fun r44 =>
        some r44
      else
        some false)
    (fun k3 =>
      (r23_Light n a_).bind fun r5 =>
      if (!(r5)) = true then
        k3 true
      else
        (r23_Check n a_).bind fun r11 =>
        if r11 ≠ 0 then
          k3 true
        else
          (r01_Word n w_).bind fun r19 =>
          k3 (!(r19)))
def r23_LightWords_L0 (n : Nat) (w_ : (List (List UInt8))) : Nat → Nat → Option Bool
  | 0, _ => none
  | m1 + 1, i_5 =>
    if i_5 < ((w_).length) then
      (w_[i_5]?).bind fun x9 =>
      (r01_Word n x9).bind fun r11 =>
      if (!(r11)) = true then
        some false
      else
        r23_LightWords_L0 n w_ m1 (i_5 + 1)
    else
      some true
/-- grammarlab/grammarlabref23.LightWords -/
def r23_LightWords (n : Nat) (w_ : (List (List UInt8))) : Option Bool :=
  jn (fun (t_2 : Bool) =>
    if t_2 = true then
      some false
    else
      r23_LightWords_L0 n w_ n 0)
    (fun k1 =>
      if ((w_).length) < 1 then
        k1 true
      else
        k1 (decide ((8 : Nat) < ((w_).length))))
/-- grammarlab/grammarlabref23.Words -/
def r23_Words (n : Nat) (a_ : Affix) (w_ : (List (List UInt8))) : Option ((List (List UInt8)) × Bool) :=
  chk ((w_).length ≤ 137438953472) (
  if a_.Kind = 0 then
    some (w_, true)
  else
    jn (fun (at_12 : Int) =>
      (ix w_ at_12).bind fun x16 =>
      (r23_Apply n a_ x16).bind fun r18 =>
      if (!(r18.2)) = true then
        some ([], false)
      else
        some ((w_).set ((at_12).toNat) r18.1, true))
      (fun k11 =>
        if a_.Kind = 1 then
          k11 ((((w_).length : Nat) : Int) - 1)
        else
          k11 0))
/-- grammarlab/grammarlablaw23.AffixWords -/
def law23_AffixWords (n : Nat) (a_ : Affix) (w_ : (List (List UInt8))) : Option Bool :=
  jn (fun (t_4 : Bool) =>
    if t_4 = true then
      (law23_exampleHolds n).bind fun r29 =>
      some r29
    else
      (affix_Words n a_ w_).bind fun r34 =>
      (r23_Words n a_ w_).bind fun r39 =>
      (r01_Same n r34.1 r39.1).bind fun r44 =>
      if r44 = true then
        if (r34.2 == r39.2) = true then
          (law23_exampleHolds n).bind fun r49 =>
          some r49
        else
          some false
      else
        some false)
    (fun k3 =>
      (r23_Light n a_).bind fun r5 =>
      if (!(r5)) = true then
        k3 true
      else
        (r23_Check n a_).bind fun r11 =>
        if r11 ≠ 0 then
          k3 true
        else
          (r23_LightWords n w_).bind fun r19 =>
          k3 (!(r19)))
def law23_AffixForms_L0 (n : Nat) (t_' : (List UInt8)) (r75 : (List (List UInt8))) (k80 : Bool → Option Bool) : Nat → Bool → Nat → Option Bool
  | 0, _, _ => none
  | m1 + 1, t_82, t_83 =>
    if t_83 < ((r75).length) then
      if t_82 = true then
        law23_AffixForms_L0 n t_' r75 k80 m1 true (t_83 + 1)
      else
        (r75[t_83]?).bind fun x88 =>
        law23_AffixForms_L0 n t_' r75 k80 m1 (decide ((x88 : List UInt8) = t_')) (t_83 + 1)
    else
      k80 t_82
/-- grammarlab/grammarlablaw23.AffixForms -/
def law23_AffixForms (n : Nat) (t_ : Affix) (t_' : (List UInt8)) : Option Bool :=
  jn (fun (t_4 : Bool) =>
    if t_4 = true then
      (law23_exampleHolds n).bind fun r29 =>
      some r29
    else
      (affix_Undo n t_ t_').bind fun r34 =>
      (affix_Apply n t_ t_').bind fun r39 =>
      if t_.Kind = 0 then
        if r39.2 = true then
          if (r39.1 : List UInt8) = t_' then
            if ((r34).length) = 1 then
              (r34[0]?).bind fun x49 =>
              if (x49 : List UInt8) = t_' then
                (law23_exampleHolds n).bind fun r52 =>
                some r52
              else
                some false
            else
              some false
          else
            some false
        else
          some false
      else
        jn (fun (t_62 : Bool) =>
          if t_62 = true then
            some false
          else
            jn (fun (t_73 : Bool) =>
              if t_73 = true then
                (law23_exampleHolds n).bind fun r93 =>
                some r93
              else
                some false)
              (fun k72 =>
                if r39.2 = true then
                  (affix_Undo n t_ r39.1).bind fun r75 =>
                  jn (fun (t_81 : Bool) =>
                    k72 t_81)
                    (fun k80 =>
                      law23_AffixForms_L0 n t_' r75 k80 n (!(r39.2)) 0)
                else
                  k72 (!(r39.2))))
          (fun k61 =>
            if ((t_.Pairs).length) < ((r34).length) then
              k61 true
            else
              if r39.2 = true then
                (r01_Word n r39.1).bind fun r66 =>
                k61 (!(r66))
              else
                k61 false))
    (fun k3 =>
      (r23_Light n t_).bind fun r5 =>
      if (!(r5)) = true then
        k3 true
      else
        (r23_Check n t_).bind fun r11 =>
        if r11 ≠ 0 then
          k3 true
        else
          (r01_Word n t_').bind fun r19 =>
          k3 (!(r19)))
/-- cmp.isNaN(string) -/
def cmp_isNaN_string (n : Nat) (x_ : (List UInt8)) : Option Bool :=
  some (decide ((x_ : List UInt8) ≠ x_))
/-- cmp.Less(string) -/
def cmp_Less_string (n : Nat) (x_ : (List UInt8)) (y_ : (List UInt8)) : Option Bool :=
  (cmp_isNaN_string n x_).bind fun r1 =>
  if r1 = true then
    (cmp_isNaN_string n y_).bind fun r5 =>
    if (!(r5)) = true then
      some true
    else
      some (Op.bytesLess x_ y_)
  else
    some (Op.bytesLess x_ y_)
end Go.Proofs.Ytolgbjbfhoffpaa

/- Chapter 24: types, plain programs -/
import Derived.Test.YtgmghembhenonaaGl15
import Derived.Test.YtgmghembhenonaaGl16
import Derived.Test.YtgmghembhenonaaProg
namespace Go.Proofs.Ytgmghembhenonaa
open Go.Gl Go.RowKit
set_option linter.unusedVariables false
set_option linter.unusedSimpArgs false

structure Arc where
  mk ::
  Feat : Int
  To : Int
  deriving DecidableEq
def RArc : Rep Arc := Rep.via (Rep.prod (Rep.num .i64) (Rep.num .i64)) (fun x => (x.Feat, x.To))
theorem RArc.open {M : Bs} {w : World} {cs : List Value} {x : Arc} (h : RArc.rd M w cs x) : cs = [.int .i64 (x.Feat), .int .i64 (x.To)] := by
  obtain ⟨_, _, rfl, h0, r0⟩ := h
  obtain rfl := h0
  obtain rfl := r0
  rfl
theorem RArc.mk' {M : Bs} {w : World} {x : Arc}   : RArc.rd M w [.int .i64 (x.Feat), .int .i64 (x.To)] x := ⟨_, _, rfl, rfl, rfl⟩
structure Node where
  mk ::
  Type_ : Int
  Arcs : (List Arc)
  deriving DecidableEq
def RNode : Rep Node := Rep.via (Rep.prod (Rep.num .i64) (Rep.list RArc)) (fun x => (x.Type_, x.Arcs))
theorem RNode.open {M : Bs} {w : World} {cs : List Value} {x : Node} (h : RNode.rd M w cs x) : ∃ (Aq2 : Option Addr), ∃ (cq2 : Nat), cs = [.int .i64 (x.Type_), .slice (Aq2) ((x.Arcs).length) (cq2)] ∧ (SlR RArc M w Aq2 (x.Arcs).length cq2 (x.Arcs)) := by
  obtain ⟨_, _, rfl, h0, r0⟩ := h
  obtain rfl := h0
  obtain ⟨A0, n0, c0, rfl, p0⟩ := r0
  obtain rfl := p0.len
  exact ⟨A0, c0, rfl, p0⟩
theorem RNode.mk' {M : Bs} {w : World} {x : Node} {Aq2 : Option Addr} {cq2 : Nat} (p0 : SlR RArc M w Aq2 (x.Arcs).length cq2 (x.Arcs)) : RNode.rd M w [.int .i64 (x.Type_), .slice (Aq2) ((x.Arcs).length) (cq2)] x := ⟨_, _, rfl, rfl, ⟨_, _, _, rfl, p0⟩⟩
structure FS where
  mk ::
  Nodes : (List Node)
  deriving DecidableEq
def RFS : Rep FS := Rep.via (Rep.list RNode) (fun x => x.Nodes)
theorem RFS.open {M : Bs} {w : World} {cs : List Value} {x : FS} (h : RFS.rd M w cs x) : ∃ (Aq1 : Option Addr), ∃ (cq1 : Nat), cs = [.slice (Aq1) ((x.Nodes).length) (cq1)] ∧ (SlR RNode M w Aq1 (x.Nodes).length cq1 (x.Nodes)) := by
  obtain ⟨A0, n0, c0, rfl, p0⟩ := h
  obtain rfl := p0.len
  exact ⟨A0, c0, rfl, p0⟩
theorem RFS.mk' {M : Bs} {w : World} {x : FS} {Aq1 : Option Addr} {cq1 : Nat} (p0 : SlR RNode M w Aq1 (x.Nodes).length cq1 (x.Nodes)) : RFS.rd M w [.slice (Aq1) ((x.Nodes).length) (cq1)] x := show RFS.rd M w [.slice (Aq1) ((x.Nodes).length) (cq1)] x from ⟨_, _, _, rfl, p0⟩
structure Entry where
  mk ::
  Name : (List UInt8)
  Words : (List (List UInt8))
  FS : FS
  deriving DecidableEq
def REntry : Rep Entry := Rep.via (Rep.prod Rep.str (Rep.prod (Rep.list Rep.str) RFS)) (fun x => (x.Name, (x.Words, x.FS)))
theorem REntry.open {M : Bs} {w : World} {cs : List Value} {x : Entry} (h : REntry.rd M w cs x) : ∃ (Aq2 : Option Addr), ∃ (cq2 : Nat), ∃ (Aq3 : Option Addr), ∃ (cq3 : Nat), cs = [.string (bs (x.Name)), .slice (Aq2) ((x.Words).length) (cq2), .slice (Aq3) ((x.FS.Nodes).length) (cq3)] ∧ ((x.Name).length ≤ 9223372036854775807) ∧ (SlR Rep.str M w Aq2 (x.Words).length cq2 (x.Words)) ∧ (SlR RNode M w Aq3 (x.FS.Nodes).length cq3 (x.FS.Nodes)) := by
  obtain ⟨_, _, rfl, h0, r0⟩ := h
  obtain ⟨rfl, p0⟩ := h0
  obtain ⟨_, _, rfl, h1, r1⟩ := r0
  obtain ⟨A1, n1, c1, rfl, p1⟩ := h1
  obtain rfl := p1.len
  obtain ⟨E2, E3, rfl, p4⟩ := RFS.open r1
  exact ⟨A1, c1, E2, E3, rfl, p0, p1, p4⟩
theorem REntry.mk' {M : Bs} {w : World} {x : Entry} {Aq2 : Option Addr} {cq2 : Nat} {Aq3 : Option Addr} {cq3 : Nat} (p0 : (x.Name).length ≤ 9223372036854775807) (p1 : SlR Rep.str M w Aq2 (x.Words).length cq2 (x.Words)) (p2 : SlR RNode M w Aq3 (x.FS.Nodes).length cq3 (x.FS.Nodes)) : REntry.rd M w [.string (bs (x.Name)), .slice (Aq2) ((x.Words).length) (cq2), .slice (Aq3) ((x.FS.Nodes).length) (cq3)] x := ⟨_, _, rfl, ⟨rfl, p0⟩, ⟨_, _, rfl, ⟨_, _, _, rfl, p1⟩, (RFS.mk' p2)⟩⟩
def pre65 (M : Bs) (w : World) (vs : List Value) (x : Int) : Prop := vs = [.int .i32 (x)]
def post65 (M : Bs) (w : World) (v : Value) (x : Bool) : Prop := v = .bool (x)
def pre55 (M : Bs) (w : World) (vs : List Value) (x : (List UInt8)) : Prop := vs = [.string (bs (x))] ∧ ((x).length ≤ 9223372036854775807)
def post55 (M : Bs) (w : World) (v : Value) (x : Bool) : Prop := v = .bool (x)
def pre60 (M : Bs) (w : World) (vs : List Value) (x : Entry) : Prop := ∃ (Aa2 : Option Addr), ∃ (ca2 : Nat), ∃ (Aa3 : Option Addr), ∃ (ca3 : Nat), vs = [.agg #[.string (bs (x.Name)), .slice (Aa2) ((x.Words).length) (ca2), .slice (Aa3) ((x.FS.Nodes).length) (ca3)]] ∧ ((x.Name).length ≤ 9223372036854775807) ∧ (SlR Rep.str M w Aa2 (x.Words).length ca2 (x.Words)) ∧ (SlR RNode M w Aa3 (x.FS.Nodes).length ca3 (x.FS.Nodes))
def post60 (M : Bs) (w : World) (v : Value) (x : Bool) : Prop := v = .bool (x)
def pre74 (M : Bs) (w : World) (vs : List Value) (x : ((List UInt8) × (List UInt8))) : Prop := vs = [.string (bs (x.1)), .string (bs (x.2))] ∧ ((x.1).length ≤ 9223372036854775807) ∧ ((x.2).length ≤ 9223372036854775807)
def post74 (M : Bs) (w : World) (v : Value) (x : Bool) : Prop := v = .bool (x)
def pre75 (M : Bs) (w : World) (vs : List Value) (x : ((List UInt8) × (List UInt8))) : Prop := vs = [.string (bs (x.1)), .string (bs (x.2))] ∧ ((x.1).length ≤ 9223372036854775807) ∧ ((x.2).length ≤ 9223372036854775807)
def post75 (M : Bs) (w : World) (v : Value) (x : (List UInt8)) : Prop := v = .string (bs (x)) ∧ ((x).length ≤ 9223372036854775807)
structure side where
  mk ::
  fits_ : (((List UInt8) × (List UInt8)) → Option Bool)
  remove_ : (((List UInt8) × (List UInt8)) → Option (List UInt8))
  add_ : (((List UInt8) × (List UInt8)) → Option (List UInt8))
def Rside : Rep side := Rep.via (Rep.prod (Rep.fn Try.prog pre74 post74) (Rep.prod (Rep.fn Try.prog pre75 post75) (Rep.fn Try.prog pre75 post75))) (fun x => (x.fits_, (x.remove_, x.add_)))
theorem Rside.open {M : Bs} {w : World} {cs : List Value} {x : side} (h : Rside.rd M w cs x) : ∃ (Aq1 : FuncId), ∃ (cq1 : List Value), ∃ (Aq2 : FuncId), ∃ (cq2 : List Value), ∃ (Aq3 : FuncId), ∃ (cq3 : List Value), cs = [.func (.func Aq1) #[] (List.toArray cq1), .func (.func Aq2) #[] (List.toArray cq2), .func (.func Aq3) #[] (List.toArray cq3)] ∧ (FnR Try.prog Aq1 cq1 pre74 post74 (x.fits_) M w) ∧ (FnR Try.prog Aq2 cq2 pre75 post75 (x.remove_) M w) ∧ (FnR Try.prog Aq3 cq3 pre75 post75 (x.add_) M w) := by
  obtain ⟨_, _, rfl, h0, r0⟩ := h
  obtain ⟨A0, c0, rfl, p0⟩ := h0
  obtain ⟨_, _, rfl, h1, r1⟩ := r0
  obtain ⟨A1, c1, rfl, p1⟩ := h1
  obtain ⟨A2, c2, rfl, p2⟩ := r1
  exact ⟨A0, c0, A1, c1, A2, c2, rfl, p0, p1, p2⟩
theorem Rside.mk' {M : Bs} {w : World} {x : side} {Aq1 : FuncId} {cq1 : List Value} {Aq2 : FuncId} {cq2 : List Value} {Aq3 : FuncId} {cq3 : List Value} (p0 : FnR Try.prog Aq1 cq1 pre74 post74 (x.fits_) M w) (p1 : FnR Try.prog Aq2 cq2 pre75 post75 (x.remove_) M w) (p2 : FnR Try.prog Aq3 cq3 pre75 post75 (x.add_) M w) : Rside.rd M w [.func (.func Aq1) #[] (List.toArray cq1), .func (.func Aq2) #[] (List.toArray cq2), .func (.func Aq3) #[] (List.toArray cq3)] x := ⟨_, _, rfl, ⟨_, _, rfl, p0⟩, ⟨_, _, rfl, ⟨_, _, rfl, p1⟩, ⟨_, _, rfl, p2⟩⟩⟩
structure Change where
  mk ::
  Old : (List UInt8)
  New : (List UInt8)
  deriving DecidableEq
def RChange : Rep Change := Rep.via (Rep.prod Rep.str Rep.str) (fun x => (x.Old, x.New))
theorem RChange.open {M : Bs} {w : World} {cs : List Value} {x : Change} (h : RChange.rd M w cs x) : cs = [.string (bs (x.Old)), .string (bs (x.New))] ∧ ((x.Old).length ≤ 9223372036854775807) ∧ ((x.New).length ≤ 9223372036854775807) := by
  obtain ⟨_, _, rfl, h0, r0⟩ := h
  obtain ⟨rfl, p0⟩ := h0
  obtain ⟨rfl, p1⟩ := r0
  exact ⟨rfl, p0, p1⟩
theorem RChange.mk' {M : Bs} {w : World} {x : Change}  (p0 : (x.Old).length ≤ 9223372036854775807) (p1 : (x.New).length ≤ 9223372036854775807) : RChange.rd M w [.string (bs (x.Old)), .string (bs (x.New))] x := ⟨_, _, rfl, ⟨rfl, p0⟩, ⟨rfl, p1⟩⟩
structure Affix where
  mk ::
  Kind : Int
  Pairs : (List Change)
  deriving DecidableEq
def RAffix : Rep Affix := Rep.via (Rep.prod (Rep.num .i64) (Rep.list RChange)) (fun x => (x.Kind, x.Pairs))
theorem RAffix.open {M : Bs} {w : World} {cs : List Value} {x : Affix} (h : RAffix.rd M w cs x) : ∃ (Aq2 : Option Addr), ∃ (cq2 : Nat), cs = [.int .i64 (x.Kind), .slice (Aq2) ((x.Pairs).length) (cq2)] ∧ (SlR RChange M w Aq2 (x.Pairs).length cq2 (x.Pairs)) := by
  obtain ⟨_, _, rfl, h0, r0⟩ := h
  obtain rfl := h0
  obtain ⟨A0, n0, c0, rfl, p0⟩ := r0
  obtain rfl := p0.len
  exact ⟨A0, c0, rfl, p0⟩
theorem RAffix.mk' {M : Bs} {w : World} {x : Affix} {Aq2 : Option Addr} {cq2 : Nat} (p0 : SlR RChange M w Aq2 (x.Pairs).length cq2 (x.Pairs)) : RAffix.rd M w [.int .i64 (x.Kind), .slice (Aq2) ((x.Pairs).length) (cq2)] x := ⟨_, _, rfl, rfl, ⟨_, _, _, rfl, p0⟩⟩
structure LexRule where
  mk ::
  Name : (List UInt8)
  Affix : Affix
  FS : FS
  deriving DecidableEq
def RLexRule : Rep LexRule := Rep.via (Rep.prod Rep.str (Rep.prod RAffix RFS)) (fun x => (x.Name, (x.Affix, x.FS)))
theorem RLexRule.open {M : Bs} {w : World} {cs : List Value} {x : LexRule} (h : RLexRule.rd M w cs x) : ∃ (Aq3 : Option Addr), ∃ (cq3 : Nat), ∃ (Aq4 : Option Addr), ∃ (cq4 : Nat), cs = [.string (bs (x.Name)), .int .i64 (x.Affix.Kind), .slice (Aq3) ((x.Affix.Pairs).length) (cq3), .slice (Aq4) ((x.FS.Nodes).length) (cq4)] ∧ ((x.Name).length ≤ 9223372036854775807) ∧ (SlR RChange M w Aq3 (x.Affix.Pairs).length cq3 (x.Affix.Pairs)) ∧ (SlR RNode M w Aq4 (x.FS.Nodes).length cq4 (x.FS.Nodes)) := by
  obtain ⟨_, _, rfl, h0, r0⟩ := h
  obtain ⟨rfl, p0⟩ := h0
  obtain ⟨_, _, rfl, h1, r1⟩ := r0
  obtain ⟨E1, E2, rfl, p3⟩ := RAffix.open h1
  obtain ⟨E4, E5, rfl, p6⟩ := RFS.open r1
  exact ⟨E1, E2, E4, E5, rfl, p0, p3, p6⟩
theorem RLexRule.mk' {M : Bs} {w : World} {x : LexRule} {Aq3 : Option Addr} {cq3 : Nat} {Aq4 : Option Addr} {cq4 : Nat} (p0 : (x.Name).length ≤ 9223372036854775807) (p1 : SlR RChange M w Aq3 (x.Affix.Pairs).length cq3 (x.Affix.Pairs)) (p2 : SlR RNode M w Aq4 (x.FS.Nodes).length cq4 (x.FS.Nodes)) : RLexRule.rd M w [.string (bs (x.Name)), .int .i64 (x.Affix.Kind), .slice (Aq3) ((x.Affix.Pairs).length) (cq3), .slice (Aq4) ((x.FS.Nodes).length) (cq4)] x := ⟨_, _, rfl, ⟨rfl, p0⟩, ⟨_, _, rfl, (RAffix.mk' p1), (RFS.mk' p2)⟩⟩
structure Analysis where
  mk ::
  Entry : Int
  Rules : (List Int)
  deriving DecidableEq
def RAnalysis : Rep Analysis := Rep.via (Rep.prod (Rep.num .i64) (Rep.list (Rep.num .i64))) (fun x => (x.Entry, x.Rules))
theorem RAnalysis.open {M : Bs} {w : World} {cs : List Value} {x : Analysis} (h : RAnalysis.rd M w cs x) : ∃ (Aq2 : Option Addr), ∃ (cq2 : Nat), cs = [.int .i64 (x.Entry), .slice (Aq2) ((x.Rules).length) (cq2)] ∧ (SlR (Rep.num .i64) M w Aq2 (x.Rules).length cq2 (x.Rules)) := by
  obtain ⟨_, _, rfl, h0, r0⟩ := h
  obtain rfl := h0
  obtain ⟨A0, n0, c0, rfl, p0⟩ := r0
  obtain rfl := p0.len
  exact ⟨A0, c0, rfl, p0⟩
theorem RAnalysis.mk' {M : Bs} {w : World} {x : Analysis} {Aq2 : Option Addr} {cq2 : Nat} (p0 : SlR (Rep.num .i64) M w Aq2 (x.Rules).length cq2 (x.Rules)) : RAnalysis.rd M w [.int .i64 (x.Entry), .slice (Aq2) ((x.Rules).length) (cq2)] x := ⟨_, _, rfl, rfl, ⟨_, _, _, rfl, p0⟩⟩
def r24_LightEntries_L1 (n : Nat) (e_ : (List Entry)) (i_3 : Nat) (k6 : Option Bool) : Nat → Nat → Option Bool
  | 0, _ => none
  | m2 + 1, k_22 =>
    (e_[i_3]?).bind fun x24 =>
    if k_22 < ((x24.Words).length) then
      (x24.Words[k_22]?).bind fun x33 =>
      if (100 : Nat) < ((x33).length) then
        some false
      else
        r24_LightEntries_L1 n e_ i_3 k6 m2 (k_22 + 1)
    else
      k6
def r24_LightEntries_L0 (n : Nat) (e_ : (List Entry)) : Nat → Nat → Option Bool
  | 0, _ => none
  | m1 + 1, i_3 =>
    if i_3 < ((e_).length) then
      jn (
        r24_LightEntries_L0 n e_ m1 (i_3 + 1))
        (fun k6 =>
          jn (fun (t_8 : Bool) =>
            if t_8 = true then
              some false
            else
              r24_LightEntries_L1 n e_ i_3 k6 n 0)
            (fun k7 =>
              (e_[i_3]?).bind fun x10 =>
              if (8 : Nat) < ((x10.Words).length) then
                k7 true
              else
                k7 (decide ((100 : Nat) < ((x10.Name).length)))))
    else
      some true
/-- grammarlab/grammarlabref24.LightEntries -/
def r24_LightEntries (n : Nat) (e_ : (List Entry)) : Option Bool :=
  if (300 : Nat) < ((e_).length) then
    some false
  else
    r24_LightEntries_L0 n e_ n 0
/-- grammarlab/text.digit -/
def text_digit (n : Nat) (c_ : Int) : Option Bool :=
  if (48 : Int) ≤ c_ then
    some (decide (c_ ≤ 57))
  else
    some false
def text_follows_L0 (n : Nat) (s_ : (List UInt8)) (letter_ : (Int → Option Bool)) : Nat → Nat → Option Bool
  | 0, _ => none
  | m1 + 1, pos_7 =>
    if pos_7 < (s_).length then
      jn (fun (t_11 : Bool) =>
        if t_11 = true then
          some false
        else
          text_follows_L0 n s_ letter_ m1 (pos_7 + runeLen s_ pos_7))
        (fun k10 =>
          (letter_ (runeAt s_ pos_7)).bind fun r12 =>
          if (!(r12)) = true then
            if pos_7 = 0 then
              k10 true
            else
              (text_digit n (runeAt s_ pos_7)).bind fun r19 =>
              if (!(r19)) = true then
                k10 (decide ((runeAt s_ pos_7) ≠ 45))
              else
                k10 false
          else
            k10 false)
    else
      some true
/-- grammarlab/text.follows -/
def text_follows (n : Nat) (s_ : (List UInt8)) (letter_ : (Int → Option Bool)) : Option Bool :=
  jn (fun (t_2 : Bool) =>
    if t_2 = true then
      some false
    else
      text_follows_L0 n s_ letter_ n 0)
    (fun k1 =>
      if ((s_).length) = 0 then
        k1 true
      else
        k1 (decide ((32 : Nat) < ((s_).length))))
/-- grammarlab/text.lower -/
def text_lower (n : Nat) (c_ : Int) : Option Bool :=
  if (97 : Int) ≤ c_ then
    some (decide (c_ ≤ 122))
  else
    some false
/-- grammarlab/text.Name -/
def text_Name (n : Nat) (s_ : (List UInt8)) : Option Bool :=
  (text_follows n s_ (fun p => text_lower n p)).bind fun r1 =>
  some r1
def slices_IndexFunc_string_L0 (n : Nat) (s_ : (List (List UInt8))) (f_ : ((List UInt8) → Option Bool)) : Nat → Nat → Option Int
  | 0, _ => none
  | m1 + 1, t_1 =>
    if t_1 < ((s_).length) then
      (s_[t_1]?).bind fun x5 =>
      (f_ x5).bind fun r7 =>
      if r7 = true then
        some ((t_1 : Nat) : Int)
      else
        slices_IndexFunc_string_L0 n s_ f_ m1 (t_1 + 1)
    else
      some (-1)
/-- slices.IndexFunc(()string,string) -/
def slices_IndexFunc_string (n : Nat) (s_ : (List (List UInt8))) (f_ : ((List UInt8) → Option Bool)) : Option Int :=
  slices_IndexFunc_string_L0 n s_ f_ n 0
/-- slices.ContainsFunc(()string,string) -/
def slices_ContainsFunc_string (n : Nat) (s_ : (List (List UInt8))) (f_ : ((List UInt8) → Option Bool)) : Option Bool :=
  (slices_IndexFunc_string n s_ f_).bind fun r1 =>
  some (decide ((0 : Int) ≤ r1))
/-- grammarlab/text.upper -/
def text_upper (n : Nat) (c_ : Int) : Option Bool :=
  if (65 : Int) ≤ c_ then
    some (decide (c_ ≤ 90))
  else
    some false
def text_Word_L0 (n : Nat) (s_ : (List UInt8)) : Nat → Nat → Option Bool
  | 0, _ => none
  | m1 + 1, pos_7 =>
    if pos_7 < (s_).length then
      jn (fun (t_11 : Bool) =>
        if t_11 = true then
          some false
        else
          text_Word_L0 n s_ m1 (pos_7 + runeLen s_ pos_7))
        (fun k10 =>
          if (runeAt s_ pos_7) < 33 then
            k10 true
          else
            if (126 : Int) < (runeAt s_ pos_7) then
              k10 true
            else
              (text_upper n (runeAt s_ pos_7)).bind fun r14 =>
              if r14 = true then
                k10 true
              else
                if (runeAt s_ pos_7) = 34 then
                  k10 true
                else
                  k10 (decide ((runeAt s_ pos_7) = 92)))
    else
      some true
/-- grammarlab/text.Word -/
def text_Word (n : Nat) (s_ : (List UInt8)) : Option Bool :=
  jn (fun (t_2 : Bool) =>
    if t_2 = true then
      some false
    else
      text_Word_L0 n s_ n 0)
    (fun k1 =>
      if ((s_).length) = 0 then
        k1 true
      else
        k1 (decide ((32 : Nat) < ((s_).length))))
/-- grammarlab/lexicon.Check inner 1 -/
def lexicon_Check_1 (n : Nat) (w_ : (List UInt8)) : Option Bool :=
  (text_Word n w_).bind fun r1 =>
  some (!(r1))
def lexicon_Check_L0 (n : Nat) (e_ : (List Entry)) : Nat → Nat → Option Int
  | 0, _ => none
  | m1 + 1, t_3 =>
    if t_3 < ((e_).length) then
      (e_[t_3]?).bind fun x7 =>
      (text_Name n x7.Name).bind fun r13 =>
      if (!(r13)) = true then
        some 1
      else
        jn (fun (t_20 : Bool) =>
          if t_20 = true then
            some 3
          else
            if ((x7.Words).length) = 0 then
              some 1
            else
              if (4 : Nat) < ((x7.Words).length) then
                some 7
              else
                (slices_ContainsFunc_string n x7.Words (fun p => lexicon_Check_1 n p)).bind fun r31 =>
                if r31 = true then
                  some 1
                else
                  lexicon_Check_L0 n e_ m1 (t_3 + 1))
          (fun k19 =>
            if (0 : Nat) < t_3 then
              (ix e_ (((t_3 : Nat) : Int) - 1)).bind fun x23 =>
              k19 ((Op.bytesLess x7.Name x23.Name) || (x7.Name == x23.Name))
            else
              k19 false)
    else
      some 0
/-- grammarlab/lexicon.Check -/
def lexicon_Check (n : Nat) (e_ : (List Entry)) : Option Int :=
  if (256 : Nat) < ((e_).length) then
    some 7
  else
    lexicon_Check_L0 n e_ n 0
def r24_SameInts_L0 (n : Nat) (a_ : (List Int)) (b_ : (List Int)) : Nat → Nat → Option Bool
  | 0, _ => none
  | m1 + 1, i_2 =>
    if i_2 < ((a_).length) then
      (a_[i_2]?).bind fun x6 =>
      (b_[i_2]?).bind fun x9 =>
      if x6 ≠ x9 then
        some false
      else
        r24_SameInts_L0 n a_ b_ m1 (i_2 + 1)
    else
      some true
/-- grammarlab/grammarlabref24.SameInts -/
def r24_SameInts (n : Nat) (a_ : (List Int)) (b_ : (List Int)) : Option Bool :=
  if ((a_).length) ≠ ((b_).length) then
    some false
  else
    r24_SameInts_L0 n a_ b_ n 0
def lexicon_indices_Entry_L0 (n : Nat) (l_ : (List Entry)) (f_ : (Entry → Option Bool)) : Nat → (List Int) → Nat → Option (List Int)
  | 0, _, _ => none
  | m1 + 1, out_1, t_5 =>
    if t_5 < ((l_).length) then
      (l_[t_5]?).bind fun x9 =>
      (f_ x9).bind fun r11 =>
      if r11 = true then
        chk ((out_1).length + ([((t_5 : Nat) : Int)]).length ≤ 137438953472) (
        lexicon_indices_Entry_L0 n l_ f_ m1 (out_1 ++ [((t_5 : Nat) : Int)]) (t_5 + 1))
      else
        lexicon_indices_Entry_L0 n l_ f_ m1 out_1 (t_5 + 1)
    else
      some out_1
/-- grammarlab/lexicon.indices(grammarlab/api.Entry) -/
def lexicon_indices_Entry (n : Nat) (l_ : (List Entry)) (f_ : (Entry → Option Bool)) : Option (List Int) :=
  lexicon_indices_Entry_L0 n l_ f_ n [] 0
def slices_Equal_string_L0 (n : Nat) (s1_ : (List (List UInt8))) (s2_ : (List (List UInt8))) : Nat → Nat → Option Bool
  | 0, _ => none
  | m1 + 1, t_2 =>
    if t_2 < ((s1_).length) then
      (s1_[t_2]?).bind fun x6 =>
      (s2_[t_2]?).bind fun x9 =>
      if (x6 : List UInt8) ≠ x9 then
        some false
      else
        slices_Equal_string_L0 n s1_ s2_ m1 (t_2 + 1)
    else
      some true
/-- slices.Equal(()string,string) -/
def slices_Equal_string (n : Nat) (s1_ : (List (List UInt8))) (s2_ : (List (List UInt8))) : Option Bool :=
  if ((s1_).length) ≠ ((s2_).length) then
    some false
  else
    slices_Equal_string_L0 n s1_ s2_ n 0
/-- grammarlab/lexicon.Find inner 1 -/
def lexicon_Find_1 (n : Nat) (x_ : Entry) (c0_ : (List (List UInt8))) : Option Bool :=
  (slices_Equal_string n x_.Words c0_).bind fun r3 =>
  some r3
/-- grammarlab/lexicon.Find -/
def lexicon_Find (n : Nat) (e_ : (List Entry)) (words_ : (List (List UInt8))) : Option (List Int) :=
  (lexicon_indices_Entry n e_ (fun p => lexicon_Find_1 n p words_)).bind fun r3 =>
  some r3
/-- internal/stringslite.HasPrefix -/
def stringslite_HasPrefix (n : Nat) (s_ : (List UInt8)) (prefix_ : (List UInt8)) : Option Bool :=
  if ((prefix_).length) ≤ ((s_).length) then
    chk ((prefix_).length ≤ (s_).length) (
    some (decide (((s_).take ((prefix_).length) : List UInt8) = prefix_)))
  else
    some false
/-- strings.HasPrefix -/
def strings_HasPrefix (n : Nat) (s_ : (List UInt8)) (prefix_ : (List UInt8)) : Option Bool :=
  (stringslite_HasPrefix n s_ prefix_).bind fun r1 =>
  some r1
/-- internal/stringslite.TrimPrefix -/
def stringslite_TrimPrefix (n : Nat) (s_ : (List UInt8)) (prefix_ : (List UInt8)) : Option (List UInt8) :=
  (stringslite_HasPrefix n s_ prefix_).bind fun r1 =>
  if r1 = true then
    chk ((prefix_).length ≤ (s_).length) (
    some ((s_).drop ((prefix_).length)))
  else
    some s_
/-- strings.TrimPrefix -/
def strings_TrimPrefix (n : Nat) (s_ : (List UInt8)) (prefix_ : (List UInt8)) : Option (List UInt8) :=
  (stringslite_TrimPrefix n s_ prefix_).bind fun r1 =>
  some r1
/-- grammarlab/affix.sideOf inner 1 -/
def affix_sideOf_1 (n : Nat) (w_ : (List UInt8)) (part_ : (List UInt8)) : Option (List UInt8) :=
  chk ((part_).length + (w_).length ≤ 9223372036854775807) (
  some (part_ ++ w_))
/-- internal/stringslite.HasSuffix -/
def stringslite_HasSuffix (n : Nat) (s_ : (List UInt8)) (suffix_ : (List UInt8)) : Option Bool :=
  if ((suffix_).length) ≤ ((s_).length) then
    chk (0 ≤ ((((s_).length : Nat) : Int) - (((suffix_).length : Nat) : Int))) (
    chk (((((s_).length : Nat) : Int) - (((suffix_).length : Nat) : Int)).toNat ≤ (s_).length) (
    some (decide (((s_).drop (((((s_).length : Nat) : Int) - (((suffix_).length : Nat) : Int)).toNat) : List UInt8) = suffix_))))
  else
    some false
/-- strings.HasSuffix -/
def strings_HasSuffix (n : Nat) (s_ : (List UInt8)) (suffix_ : (List UInt8)) : Option Bool :=
  (stringslite_HasSuffix n s_ suffix_).bind fun r1 =>
  some r1
/-- internal/stringslite.TrimSuffix -/
def stringslite_TrimSuffix (n : Nat) (s_ : (List UInt8)) (suffix_ : (List UInt8)) : Option (List UInt8) :=
  (stringslite_HasSuffix n s_ suffix_).bind fun r1 =>
  if r1 = true then
    chk (0 ≤ ((((s_).length : Nat) : Int) - (((suffix_).length : Nat) : Int))) (
    chk (((((s_).length : Nat) : Int) - (((suffix_).length : Nat) : Int)).toNat ≤ (s_).length) (
    some ((s_).take (((((s_).length : Nat) : Int) - (((suffix_).length : Nat) : Int)).toNat))))
  else
    some s_
/-- strings.TrimSuffix -/
def strings_TrimSuffix (n : Nat) (s_ : (List UInt8)) (suffix_ : (List UInt8)) : Option (List UInt8) :=
  (stringslite_TrimSuffix n s_ suffix_).bind fun r1 =>
  some r1
/-- grammarlab/affix.sideOf inner 2 -/
def affix_sideOf_2 (n : Nat) (w_ : (List UInt8)) (part_ : (List UInt8)) : Option (List UInt8) :=
  chk ((w_).length + (part_).length ≤ 9223372036854775807) (
  some (w_ ++ part_))
/-- grammarlab/affix.sideOf -/
def affix_sideOf (n : Nat) (kind_ : Int) : Option side :=
  if kind_ = 2 then
    some (side.mk (fun p => strings_HasPrefix n p.1 p.2) (fun p => strings_TrimPrefix n p.1 p.2) (fun p => affix_sideOf_1 n p.1 p.2))
  else
    some (side.mk (fun p => strings_HasSuffix n p.1 p.2) (fun p => strings_TrimSuffix n p.1 p.2) (fun p => affix_sideOf_2 n p.1 p.2))
def affix_Apply_L0 (n : Nat) (a_ : Affix) (w_ : (List UInt8)) (r4 : side) : Nat → Nat → Option ((List UInt8) × Bool)
  | 0, _ => none
  | m1 + 1, t_11 =>
    if t_11 < ((a_.Pairs).length) then
      (a_.Pairs[t_11]?).bind fun x15 =>
      jn (fun (t_22 : Bool) =>
        if t_22 = true then
          (r4.remove_ (w_, x15.Old)).bind fun r32 =>
          (r4.add_ (r32, x15.New)).bind fun r35 =>
          (text_Word n r35).bind fun r42 =>
          if (!(r42)) = true then
            some ([], false)
          else
            some (r35, true)
        else
          affix_Apply_L0 n a_ w_ r4 m1 (t_11 + 1))
        (fun k21 =>
          (r4.fits_ (w_, x15.Old)).bind fun r23 =>
          if r23 = true then
            k21 (decide (((x15.Old).length) < ((w_).length)))
          else
            k21 false)
    else
      some ([], false)
/-- grammarlab/affix.Apply -/
def affix_Apply (n : Nat) (a_ : Affix) (w_ : (List UInt8)) : Option ((List UInt8) × Bool) :=
  if a_.Kind = 0 then
    some (w_, true)
  else
    (affix_sideOf n a_.Kind).bind fun r4 =>
    affix_Apply_L0 n a_ w_ r4 n 0
/-- slices.Clone(()string,string) -/
def slices_Clone_string (n : Nat) (s_ : (List (List UInt8))) : Option (List (List UInt8)) :=
  chk ((s_).length ≤ 137438953472) (
  some s_)
/-- grammarlab/affix.Words -/
def affix_Words (n : Nat) (a_ : Affix) (w_ : (List (List UInt8))) : Option ((List (List UInt8)) × Bool) :=
  if a_.Kind = 0 then
    some (w_, true)
  else
    jn (fun (at_6 : Int) =>
      (ix w_ at_6).bind fun x9 =>
      (affix_Apply n a_ x9).bind fun r11 =>
      if (!(r11.2)) = true then
        some ([], false)
      else
        (slices_Clone_string n w_).bind fun r19 =>
        (ix r19 at_6).bind fun x25 =>
        some ((r19).set ((at_6).toNat) r11.1, true))
      (fun k5 =>
        if a_.Kind = 2 then
          k5 0
        else
          k5 ((((w_).length : Nat) : Int) - 1))
def lexicon_Form_L0 (n : Nat) (t_' : (List LexRule)) (t_'' : Analysis) : Nat → (List (List UInt8)) → Nat → Option ((List (List UInt8)) × Bool)
  | 0, _, _ => none
  | m1 + 1, t_13, t_16 =>
    if t_16 < ((t_''.Rules).length) then
      (t_''.Rules[t_16]?).bind fun x20 =>
      jn (fun (t_25 : Bool) =>
        if t_25 = true then
          some ([], false)
        else
          (ix t_' x20).bind fun x29 =>
          (affix_Words n x29.Affix t_13).bind fun r31 =>
          if (!(r31.2)) = true then
            some ([], false)
          else
            lexicon_Form_L0 n t_' t_'' m1 r31.1 (t_16 + 1))
        (fun k24 =>
          if x20 < 0 then
            k24 true
          else
            k24 (decide ((((t_').length : Nat) : Int) ≤ x20)))
    else
      some (t_13, true)
/-- grammarlab/lexicon.Form -/
def lexicon_Form (n : Nat) (t_ : (List Entry)) (t_' : (List LexRule)) (t_'' : Analysis) : Option ((List (List UInt8)) × Bool) :=
  jn (fun (t_4 : Bool) =>
    if t_4 = true then
      some ([], false)
    else
      (ix t_ t_''.Entry).bind fun x9 =>
      lexicon_Form_L0 n t_' t_'' n x9.Words 0)
    (fun k3 =>
      if t_''.Entry < 0 then
        k3 true
      else
        if (((t_).length : Nat) : Int) ≤ t_''.Entry then
          k3 true
        else
          k3 (decide ((2 : Nat) < ((t_''.Rules).length))))
def r01_Same_L0 (n : Nat) (a_ : (List (List UInt8))) (b_ : (List (List UInt8))) : Nat → Nat → Option Bool
  | 0, _ => none
  | m1 + 1, i_2 =>
    if i_2 < ((a_).length) then
      (a_[i_2]?).bind fun x6 =>
      (b_[i_2]?).bind fun x9 =>
      if (x6 : List UInt8) ≠ x9 then
        some false
      else
        r01_Same_L0 n a_ b_ m1 (i_2 + 1)
    else
      some true
/-- grammarlab/grammarlabref01.Same -/
def r01_Same (n : Nat) (a_ : (List (List UInt8))) (b_ : (List (List UInt8))) : Option Bool :=
  if ((a_).length) ≠ ((b_).length) then
    some false
  else
    r01_Same_L0 n a_ b_ n 0
def r24_SameAnalyses_L0 (n : Nat) (a_ : (List Analysis)) (b_ : (List Analysis)) : Nat → Nat → Option Bool
  | 0, _ => none
  | m1 + 1, i_2 =>
    if i_2 < ((a_).length) then
      jn (fun (t_6 : Bool) =>
        if t_6 = true then
          some false
        else
          r24_SameAnalyses_L0 n a_ b_ m1 (i_2 + 1))
        (fun k5 =>
          (a_[i_2]?).bind fun x8 =>
          (b_[i_2]?).bind fun x11 =>
          if x8.Entry ≠ x11.Entry then
            k5 true
          else
            (r24_SameInts n x8.Rules x11.Rules).bind fun r22 =>
            k5 (!(r22)))
    else
      some true
/-- grammarlab/grammarlabref24.SameAnalyses -/
def r24_SameAnalyses (n : Nat) (a_ : (List Analysis)) (b_ : (List Analysis)) : Option Bool :=
  if ((a_).length) ≠ ((b_).length) then
    some false
  else
    r24_SameAnalyses_L0 n a_ b_ n 0
/-- slices.Clone(()int,int) -/
def slices_Clone_int (n : Nat) (s_ : (List Int)) : Option (List Int) :=
  chk ((s_).length ≤ 137438953472) (
  some s_)
def lexicon_chains_L2 (n : Nat) (rules_ : Int) (k23 : (List (List Int)) → Option (List (List Int))) (x29 : (List Int)) : Nat → (List (List Int)) → Nat → Option (List (List Int))
  | 0, _, _ => none
  | m3 + 1, out_33, t_37 =>
    if ((t_37 : Nat) : Int) < rules_ then
      (slices_Clone_int n x29).bind fun r39 =>
      chk ((r39).length + ([((t_37 : Nat) : Int)]).length ≤ 137438953472) (
      chk ((out_33).length + ([r39 ++ [((t_37 : Nat) : Int)]]).length ≤ 137438953472) (
      chk (t_37 + 1 ≤ 9223372036854775807) (
      lexicon_chains_L2 n rules_ k23 x29 m3 (out_33 ++ [r39 ++ [((t_37 : Nat) : Int)]]) (t_37 + 1))))
    else
      k23 out_33
def lexicon_chains_L1 (n : Nat) (rules_ : Int) (out_3 : (List (List Int))) (from_7 : Nat) (k11 : (List (List Int)) → Option (List (List Int))) : Nat → (List (List Int)) → Nat → Option (List (List Int))
  | 0, _, _ => none
  | m2 + 1, out_16, t_20 =>
    if t_20 < ((((out_3).drop from_7).take ((out_3).length - from_7)).length) then
      jn (fun (out_24 : (List (List Int))) =>
        lexicon_chains_L1 n rules_ out_3 from_7 k11 m2 out_24 (t_20 + 1))
        (fun k23 =>
          ((((out_3).drop from_7).take ((out_3).length - from_7))[t_20]?).bind fun x29 =>
          lexicon_chains_L2 n rules_ k23 x29 n out_16 0)
    else
      k11 out_16
def lexicon_chains_L0 (n : Nat) (rules_ : Int) (most_ : Int) : Nat → (List (List Int)) → Nat → Nat → Option (List (List Int))
  | 0, _, _, _ => none
  | m1 + 1, out_3, from_7, n_8 =>
    if ((n_8 : Nat) : Int) < most_ then
      chk (from_7 ≤ (out_3).length ∧ (out_3).length ≤ (out_3).length) (
      jn (fun (out_12 : (List (List Int))) =>
        chk (n_8 + 1 ≤ 9223372036854775807) (
        lexicon_chains_L0 n rules_ most_ m1 out_12 ((out_3).length) (n_8 + 1)))
        (fun k11 =>
          lexicon_chains_L1 n rules_ out_3 from_7 k11 n out_3 0))
    else
      some out_3
/-- grammarlab/lexicon.chains -/
def lexicon_chains (n : Nat) (rules_ : Int) (most_ : Int) : Option (List (List Int)) :=
  lexicon_chains_L0 n rules_ most_ n [[]] 0 0
/-- grammarlab/lexicon.Analyses inner 1 -/
def lexicon_Analyses_1 (n : Nat) (x_ : Entry) (c0_ : (List (List UInt8))) : Option Bool :=
  some (decide (((x_.Words).length) = ((c0_).length)))
def lexicon_Analyses_L1 (n : Nat) (e_ : (List Entry)) (r_ : (List LexRule)) (words_ : (List (List UInt8))) (r3 : (List (List Int))) (k20 : (List Analysis) → Option (List Analysis)) (x26 : Int) : Nat → (List Analysis) → Nat → Option (List Analysis)
  | 0, _, _ => none
  | m2 + 1, out_30, t_34 =>
    if t_34 < ((r3).length) then
      (r3[t_34]?).bind fun x38 =>
      (lexicon_Form n e_ r_ (Analysis.mk x26 x38)).bind fun r44 =>
      jn (fun (t_50 : Bool) =>
        if t_50 = true then
          chk ((out_30).length + ([(Analysis.mk x26 x38)]).length ≤ 137438953472) (
          lexicon_Analyses_L1 n e_ r_ words_ r3 k20 x26 m2 (out_30 ++ [(Analysis.mk x26 x38)]) (t_34 + 1))
        else
          lexicon_Analyses_L1 n e_ r_ words_ r3 k20 x26 m2 out_30 (t_34 + 1))
        (fun k49 =>
          if r44.2 = true then
            (slices_Equal_string n r44.1 words_).bind fun r52 =>
            k49 r52
          else
            k49 false)
    else
      k20 out_30
def lexicon_Analyses_L0 (n : Nat) (e_ : (List Entry)) (r_ : (List LexRule)) (words_ : (List (List UInt8))) (r3 : (List (List Int))) (r8 : (List Int)) : Nat → (List Analysis) → Nat → Option (List Analysis)
  | 0, _, _ => none
  | m1 + 1, out_13, t_17 =>
    if t_17 < ((r8).length) then
      jn (fun (out_21 : (List Analysis)) =>
        lexicon_Analyses_L0 n e_ r_ words_ r3 r8 m1 out_21 (t_17 + 1))
        (fun k20 =>
          (r8[t_17]?).bind fun x26 =>
          lexicon_Analyses_L1 n e_ r_ words_ r3 k20 x26 n out_13 0)
    else
      some out_13
/-- grammarlab/lexicon.Analyses -/
def lexicon_Analyses (n : Nat) (e_ : (List Entry)) (r_ : (List LexRule)) (words_ : (List (List UInt8))) : Option (List Analysis) :=
  (lexicon_chains n (((r_).length : Nat) : Int) 2).bind fun r3 =>
  (lexicon_indices_Entry n e_ (fun p => lexicon_Analyses_1 n p words_)).bind fun r8 =>
  lexicon_Analyses_L0 n e_ r_ words_ r3 r8 n [] 0
/-- grammarlab/grammarlablaw24.exampleHolds -/
def law24_exampleHolds (n : Nat)  : Option Bool :=
  (lexicon_Form n [(Entry.mk [102, 108, 121] [[102, 108, 121]] (FS.mk []))] [(LexRule.mk [115] (Affix.mk 1 [(Change.mk [121] [105, 101, 115]), (Change.mk [] [115])]) (FS.mk [])), (LexRule.mk [105, 110, 103] (Affix.mk 1 [(Change.mk [] [105, 110, 103])]) (FS.mk []))] (Analysis.mk 0 [0, 1])).bind fun r12 =>
  (lexicon_Analyses n [(Entry.mk [102, 108, 121] [[102, 108, 121]] (FS.mk []))] [(LexRule.mk [115] (Affix.mk 1 [(Change.mk [121] [105, 101, 115]), (Change.mk [] [115])]) (FS.mk [])), (LexRule.mk [105, 110, 103] (Affix.mk 1 [(Change.mk [] [105, 110, 103])]) (FS.mk []))] [[102, 108, 121, 105, 110, 103, 115]]).bind fun r19 =>
  (lexicon_Check n [(Entry.mk [102, 108, 121] [[102, 108, 121]] (FS.mk []))]).bind fun r25 =>
  if r25 = 0 then
    (lexicon_Check n [(Entry.mk [97] [] (FS.mk []))]).bind fun r30 =>
    if r30 = 1 then
      if r12.2 = true then
        (r01_Same n r12.1 [[102, 108, 105, 101, 115, 105, 110, 103]]).bind fun r36 =>
        if r36 = true then
          (r24_SameAnalyses n r19 [(Analysis.mk 0 [1, 0])]).bind fun r42 =>
          if r42 = true then
            (lexicon_Find n [(Entry.mk [102, 108, 121] [[102, 108, 121]] (FS.mk []))] [[102, 108, 121]]).bind fun r47 =>
            (r24_SameInts n r47 [0]).bind fun r51 =>
            some r51
          else
            some false
        else
          some false
      else
        some false
    else
      some false
  else
    some false
/-- grammarlab/grammarlabref01.digit -/
def r01_digit (n : Nat) (c_ : UInt8) : Option Bool :=
  if (48 : Nat) ≤ c_.toNat then
    some (decide (c_.toNat ≤ 57))
  else
    some false
/-- grammarlab/grammarlabref01.upper -/
def r01_upper (n : Nat) (c_ : UInt8) : Option Bool :=
  if (65 : Nat) ≤ c_.toNat then
    some (decide (c_.toNat ≤ 90))
  else
    some false
/-- grammarlab/grammarlabref01.lower -/
def r01_lower (n : Nat) (c_ : UInt8) : Option Bool :=
  if (97 : Nat) ≤ c_.toNat then
    some (decide (c_.toNat ≤ 122))
  else
    some false
/-- grammarlab/grammarlabref01.part -/
def r01_part (n : Nat) (c_ : UInt8) (big_ : Bool) : Option Bool :=
  (r01_digit n c_).bind fun r1 =>
  if r1 = true then
    some true
  else
    if c_.toNat = 45 then
      some true
    else
      if big_ = true then
        (r01_upper n c_).bind fun r11 =>
        if r11 = true then
          some true
        else
          some false
      else
        (r01_lower n c_).bind fun r23 =>
        some r23
def r01_named_L0 (n : Nat) (s_ : (List UInt8)) (big_ : Bool) : Nat → Nat → Option Bool
  | 0, _ => none
  | m1 + 1, i_15 =>
    if i_15 < ((s_).length) then
      (s_[i_15]?).bind fun c18 =>
      (r01_part n c18 big_).bind fun r19 =>
      if (!(r19)) = true then
        some false
      else
        r01_named_L0 n s_ big_ m1 (i_15 + 1)
    else
      some true
/-- grammarlab/grammarlabref01.named -/
def r01_named (n : Nat) (s_ : (List UInt8)) (big_ : Bool) : Option Bool :=
  jn (fun (t_2 : Bool) =>
    if t_2 = true then
      some false
    else
      r01_named_L0 n s_ big_ n 0)
    (fun k1 =>
      if ((s_).length) < 1 then
        k1 true
      else
        if (32 : Nat) < ((s_).length) then
          k1 true
        else
          (s_[0]?).bind fun c5 =>
          (r01_digit n c5).bind fun r6 =>
          if r6 = true then
            k1 true
          else
            k1 (decide (c5.toNat = 45)))
/-- grammarlab/grammarlabref01.Name -/
def r01_Name (n : Nat) (s_ : (List UInt8)) : Option Bool :=
  (r01_named n s_ false).bind fun r1 =>
  some r1
def r01_Word_L0 (n : Nat) (s_ : (List UInt8)) : Nat → Nat → Option Bool
  | 0, _ => none
  | m1 + 1, i_5 =>
    if i_5 < ((s_).length) then
      jn (fun (t_9 : Bool) =>
        if t_9 = true then
          some false
        else
          r01_Word_L0 n s_ m1 (i_5 + 1))
        (fun k8 =>
          (s_[i_5]?).bind fun c10 =>
          if c10.toNat < 33 then
            k8 true
          else
            if (126 : Nat) < c10.toNat then
              k8 true
            else
              (r01_upper n c10).bind fun r13 =>
              if r13 = true then
                k8 true
              else
                if c10.toNat = 34 then
                  k8 true
                else
                  k8 (decide (c10.toNat = 92)))
    else
      some true
/-- grammarlab/grammarlabref01.Word -/
def r01_Word (n : Nat) (s_ : (List UInt8)) : Option Bool :=
  jn (fun (t_2 : Bool) =>
    if t_2 = true then
      some false
    else
      r01_Word_L0 n s_ n 0)
    (fun k1 =>
      if ((s_).length) < 1 then
        k1 true
      else
        k1 (decide ((32 : Nat) < ((s_).length))))
def r24_Check_L1 (n : Nat) (k6 : Option Int) (x8 : Entry) : Nat → Nat → Option Int
  | 0, _ => none
  | m2 + 1, t_42 =>
    if t_42 < ((x8.Words).length) then
      (x8.Words[t_42]?).bind fun x52 =>
      (r01_Word n x52).bind fun r54 =>
      if (!(r54)) = true then
        some 1
      else
        r24_Check_L1 n k6 x8 m2 (t_42 + 1)
    else
      k6
def r24_Check_L0 (n : Nat) (t_ : (List Entry)) : Nat → Nat → Option Int
  | 0, _ => none
  | m1 + 1, t_3 =>
    if t_3 < ((t_).length) then
      jn (
        r24_Check_L0 n t_ m1 (t_3 + 1))
        (fun k6 =>
          (t_[t_3]?).bind fun x8 =>
          (r01_Name n x8.Name).bind fun r10 =>
          if (!(r10)) = true then
            some 1
          else
            jn (fun (t_19 : Bool) =>
              if t_19 = true then
                some 3
              else
                if ((x8.Words).length) = 0 then
                  some 1
                else
                  if (4 : Nat) < ((x8.Words).length) then
                    some 7
                  else
                    r24_Check_L1 n k6 x8 n 0)
              (fun k18 =>
                if (0 : Nat) < t_3 then
                  (ix t_ (((t_3 : Nat) : Int) - 1)).bind fun x24 =>
                  k18 ((Op.bytesLess x8.Name x24.Name) || (x8.Name == x24.Name))
                else
                  k18 false))
    else
      some 0
/-- grammarlab/grammarlabref24.Check -/
def r24_Check (n : Nat) (t_ : (List Entry)) : Option Int :=
  if (256 : Nat) < ((t_).length) then
    some 7
  else
    r24_Check_L0 n t_ n 0
/-- grammarlab/grammarlablaw24.LexiconChecks -/
def law24_LexiconChecks (n : Nat) (e_ : (List Entry)) : Option Bool :=
  (r24_LightEntries n e_).bind fun r1 =>
  if (!(r1)) = true then
    (law24_exampleHolds n).bind fun r7 =>
    some r7
  else
    (lexicon_Check n e_).bind fun r12 =>
    (r24_Check n e_).bind fun r15 =>
    if r12 = r15 then
      (law24_exampleHolds n).bind fun r19 =>
      some r19
    else
      some false
def r23_Light_L0 (n : Nat) (a_ : Affix) : Nat → Nat → Option Bool
  | 0, _ => none
  | m1 + 1, i_5 =>
    if i_5 < ((a_.Pairs).length) then
      jn (fun (t_9 : Bool) =>
        if t_9 = true then
          some false
        else
          r23_Light_L0 n a_ m1 (i_5 + 1))
        (fun k8 =>
          (a_.Pairs[i_5]?).bind fun x11 =>
          if (100 : Nat) < ((x11.Old).length) then
            k8 true
          else
            k8 (decide ((100 : Nat) < ((x11.New).length))))
    else
      some true
/-- grammarlab/grammarlabref23.Light -/
def r23_Light (n : Nat) (a_ : Affix) : Option Bool :=
  if (40 : Nat) < ((a_.Pairs).length) then
    some false
  else
    r23_Light_L0 n a_ n 0
def r23_plain_L0 (n : Nat) (s_ : (List UInt8)) : Nat → Nat → Option Bool
  | 0, _ => none
  | m1 + 1, i_1 =>
    if i_1 < ((s_).length) then
      (s_[i_1]?).bind fun c4 =>
      jn (fun (t_6 : Bool) =>
        if t_6 = true then
          some false
        else
          r23_plain_L0 n s_ m1 (i_1 + 1))
        (fun k5 =>
          if c4.toNat < 33 then
            k5 true
          else
            if (126 : Nat) < c4.toNat then
              k5 true
            else
              if (65 : Nat) ≤ c4.toNat then
                if c4.toNat ≤ 90 then
                  k5 true
                else
                  if c4.toNat = 34 then
                    k5 true
                  else
                    k5 (decide (c4.toNat = 92))
              else
                if c4.toNat = 34 then
                  k5 true
                else
                  k5 (decide (c4.toNat = 92)))
    else
      some true
/-- grammarlab/grammarlabref23.plain -/
def r23_plain (n : Nat) (s_ : (List UInt8)) : Option Bool :=
  r23_plain_L0 n s_ n 0
def r23_Check_L1 (n : Nat) (t_ : Affix) (t_11 : Nat) (k14 : Option Int) (x16 : Change) : Nat → Nat → Option Int
  | 0, _ => none
  | m2 + 1, t_42 =>
    if t_42 < t_11 then
      (t_.Pairs[t_42]?).bind fun x45 =>
      if (x45.Old : List UInt8) = x16.Old then
        some 4
      else
        chk (t_42 + 1 ≤ 9223372036854775807) (
        r23_Check_L1 n t_ t_11 k14 x16 m2 (t_42 + 1))
    else
      k14
def r23_Check_L0 (n : Nat) (t_ : Affix) : Nat → Nat → Option Int
  | 0, _ => none
  | m1 + 1, t_11 =>
    if t_11 < ((t_.Pairs).length) then
      jn (
        r23_Check_L0 n t_ m1 (t_11 + 1))
        (fun k14 =>
          (t_.Pairs[t_11]?).bind fun x16 =>
          jn (fun (t_23 : Bool) =>
            if t_23 = true then
              some 1
            else
              jn (fun (t_39 : Bool) =>
                if t_39 = true then
                  some 7
                else
                  r23_Check_L1 n t_ t_11 k14 x16 n 0)
                (fun k38 =>
                  if (32 : Nat) < ((x16.Old).length) then
                    k38 true
                  else
                    k38 (decide ((32 : Nat) < ((x16.New).length)))))
            (fun k22 =>
              (r23_plain n x16.Old).bind fun r24 =>
              if (!(r24)) = true then
                k22 true
              else
                (r23_plain n x16.New).bind fun r30 =>
                k22 (!(r30))))
    else
      some 0
/-- grammarlab/grammarlabref23.Check -/
def r23_Check (n : Nat) (t_ : Affix) : Option Int :=
  jn (fun (t_4 : Bool) =>
    if t_4 = true then
      some 14
    else
      if (!((decide (t_.Kind = 0)) == (decide (((t_.Pairs).length) = 0)))) = true then
        some 1
      else
        if (16 : Nat) < ((t_.Pairs).length) then
          some 7
        else
          r23_Check_L0 n t_ n 0)
    (fun k3 =>
      if t_.Kind ≠ 0 then
        if t_.Kind ≠ 1 then
          k3 (decide (t_.Kind ≠ 2))
        else
          k3 false
      else
        k3 false)
def r24_Light_L0 (n : Nat) (r_ : (List LexRule)) (k15 : Option Bool) : Nat → Nat → Option Bool
  | 0, _ => none
  | m1 + 1, i_16 =>
    if i_16 < ((r_).length) then
      jn (fun (t_20 : Bool) =>
        if t_20 = true then
          some false
        else
          r24_Light_L0 n r_ k15 m1 (i_16 + 1))
        (fun k19 =>
          (r_[i_16]?).bind fun x22 =>
          (r23_Light n x22.Affix).bind fun r24 =>
          if (!(r24)) = true then
            k19 true
          else
            (r23_Check n x22.Affix).bind fun r34 =>
            k19 (decide (r34 ≠ 0)))
    else
      k15
def r24_Light_L1 (n : Nat) (words_ : (List (List UInt8))) : Nat → Nat → Option Bool
  | 0, _ => none
  | m2 + 1, i_46 =>
    if i_46 < ((words_).length) then
      (words_[i_46]?).bind fun x50 =>
      if (40 : Nat) < ((x50).length) then
        some false
      else
        r24_Light_L1 n words_ m2 (i_46 + 1)
    else
      some true
/-- grammarlab/grammarlabref24.Light -/
def r24_Light (n : Nat) (e_ : (List Entry)) (r_ : (List LexRule)) (words_ : (List (List UInt8))) : Option Bool :=
  jn (fun (t_2 : Bool) =>
    if t_2 = true then
      some false
    else
      jn (
        r24_Light_L1 n words_ n 0)
        (fun k15 =>
          r24_Light_L0 n r_ k15 n 0))
    (fun k1 =>
      if (6 : Nat) < ((e_).length) then
        k1 true
      else
        if (4 : Nat) < ((r_).length) then
          k1 true
        else
          if (6 : Nat) < ((words_).length) then
            k1 true
          else
            (r24_Check n e_).bind fun r9 =>
            k1 (decide (r9 ≠ 0)))
def r24_Find_L0 (n : Nat) (e_ : (List Entry)) (words_ : (List (List UInt8))) : Nat → (List Int) → Nat → Option (List Int)
  | 0, _, _ => none
  | m1 + 1, out_1, i_5 =>
    if i_5 < ((e_).length) then
      (e_[i_5]?).bind fun x9 =>
      (r01_Same n x9.Words words_).bind fun r11 =>
      if r11 = true then
        chk ((out_1).length + ([((i_5 : Nat) : Int)]).length ≤ 137438953472) (
        r24_Find_L0 n e_ words_ m1 (out_1 ++ [((i_5 : Nat) : Int)]) (i_5 + 1))
      else
        r24_Find_L0 n e_ words_ m1 out_1 (i_5 + 1)
    else
      some out_1
/-- grammarlab/grammarlabref24.Find -/
def r24_Find (n : Nat) (e_ : (List Entry)) (words_ : (List (List UInt8))) : Option (List Int) :=
  r24_Find_L0 n e_ words_ n [] 0
/-- grammarlab/grammarlablaw24.LexiconFinds -/
def law24_LexiconFinds (n : Nat) (e_ : (List Entry)) (words_ : (List (List UInt8))) : Option Bool :=
  (r24_Light n e_ [] words_).bind fun r1 =>
  if (!(r1)) = true then
    (law24_exampleHolds n).bind fun r7 =>
    some r7
  else
    (lexicon_Find n e_ words_).bind fun r12 =>
    (r24_Find n e_ words_).bind fun r15 =>
    (r24_SameInts n r12 r15).bind fun r18 =>
    if r18 = true then
      (law24_exampleHolds n).bind fun r22 =>
      some r22
    else
      some false
/-- grammarlab/grammarlabref23.fits -/
def r23_fits (n : Nat) (kind_ : Int) (part_ : (List UInt8)) (w_ : (List UInt8)) : Option Bool :=
  if ((w_).length) ≤ ((part_).length) then
    some false
  else
    if kind_ = 2 then
      chk ((part_).length ≤ (w_).length) (
      some (decide (((w_).take ((part_).length) : List UInt8) = part_)))
    else
      chk (0 ≤ ((((w_).length : Nat) : Int) - (((part_).length : Nat) : Int))) (
      chk (((((w_).length : Nat) : Int) - (((part_).length : Nat) : Int)).toNat ≤ (w_).length) (
      some (decide (((w_).drop (((((w_).length : Nat) : Int) - (((part_).length : Nat) : Int)).toNat) : List UInt8) = part_))))
/-- grammarlab/grammarlabref23.replaced -/
def r23_replaced (n : Nat) (kind_ : Int) (w_ : (List UInt8)) (from_ : (List UInt8)) (to_ : (List UInt8)) : Option (List UInt8) :=
  if kind_ = 2 then
    chk ((from_).length ≤ (w_).length) (
    chk ((to_).length + ((w_).drop ((from_).length)).length ≤ 9223372036854775807) (
    some (to_ ++ ((w_).drop ((from_).length)))))
  else
    chk (0 ≤ ((((w_).length : Nat) : Int) - (((from_).length : Nat) : Int))) (
    chk (((((w_).length : Nat) : Int) - (((from_).length : Nat) : Int)).toNat ≤ (w_).length) (
    chk (((w_).take (((((w_).length : Nat) : Int) - (((from_).length : Nat) : Int)).toNat)).length + (to_).length ≤ 9223372036854775807) (
    some (((w_).take (((((w_).length : Nat) : Int) - (((from_).length : Nat) : Int)).toNat)) ++ to_))))
def r23_Apply_L0 (n : Nat) (a_ : Affix) (w_ : (List UInt8)) : Nat → Nat → Option ((List UInt8) × Bool)
  | 0, _ => none
  | m1 + 1, i_4 =>
    if i_4 < ((a_.Pairs).length) then
      (a_.Pairs[i_4]?).bind fun x8 =>
      (r23_fits n a_.Kind x8.Old w_).bind fun r10 =>
      if r10 = true then
        (r23_replaced n a_.Kind w_ x8.Old x8.New).bind fun r22 =>
        (r01_Word n r22).bind fun r31 =>
        if (!(r31)) = true then
          some ([], false)
        else
          some (r22, true)
      else
        r23_Apply_L0 n a_ w_ m1 (i_4 + 1)
    else
      some ([], false)
/-- grammarlab/grammarlabref23.Apply -/
def r23_Apply (n : Nat) (a_ : Affix) (w_ : (List UInt8)) : Option ((List UInt8) × Bool) :=
  if a_.Kind = 0 then
    some (w_, true)
  else
    r23_Apply_L0 n a_ w_ n 0
/-- grammarlab/grammarlabref23.Words -/
def r23_Words (n : Nat) (a_ : Affix) (w_ : (List (List UInt8))) : Option ((List (List UInt8)) × Bool) :=
  chk ((w_).length ≤ 137438953472) (
  if a_.Kind = 0 then
    some (w_, true)
  else
    jn (fun (at_12 : Int) =>
      (ix w_ at_12).bind fun x16 =>
      (r23_Apply n a_ x16).bind fun r18 =>
      if (!(r18.2)) = true then
        some ([], false)
      else
        some ((w_).set ((at_12).toNat) r18.1, true))
      (fun k11 =>
        if a_.Kind = 1 then
          k11 ((((w_).length : Nat) : Int) - 1)
        else
          k11 0))
def r24_Form_L0 (n : Nat) (t_' : (List LexRule)) (t_'' : Analysis) (k8 : Option ((List (List UInt8)) × Bool)) : Nat → Nat → Option ((List (List UInt8)) × Bool)
  | 0, _ => none
  | m1 + 1, t_9 =>
    if t_9 < ((t_''.Rules).length) then
      jn (fun (t_13 : Bool) =>
        if t_13 = true then
          some ([], false)
        else
          r24_Form_L0 n t_' t_'' k8 m1 (t_9 + 1))
        (fun k12 =>
          (t_''.Rules[t_9]?).bind fun x15 =>
          if x15 < 0 then
            k12 true
          else
            k12 (decide ((((t_').length : Nat) : Int) ≤ x15)))
    else
      k8
def r24_Form_L1 (n : Nat) (t_' : (List LexRule)) (t_'' : Analysis) : Nat → (List (List UInt8)) → Nat → Option ((List (List UInt8)) × Bool)
  | 0, _, _ => none
  | m2 + 1, t_39, t_42 =>
    if t_42 < ((t_''.Rules).length) then
      (t_''.Rules[t_42]?).bind fun x46 =>
      (ix t_' x46).bind fun x49 =>
      (r23_Words n x49.Affix t_39).bind fun r51 =>
      if (!(r51.2)) = true then
        some ([], false)
      else
        r24_Form_L1 n t_' t_'' m2 r51.1 (t_42 + 1)
    else
      some (t_39, true)
/-- grammarlab/grammarlabref24.Form -/
def r24_Form (n : Nat) (t_ : (List Entry)) (t_' : (List LexRule)) (t_'' : Analysis) : Option ((List (List UInt8)) × Bool) :=
  jn (fun (t_4 : Bool) =>
    if t_4 = true then
      some ([], false)
    else
      jn (
        (ix t_ t_''.Entry).bind fun x29 =>
        chk ((x29.Words).length ≤ 137438953472) (
        r24_Form_L1 n t_' t_'' n x29.Words 0))
        (fun k8 =>
          r24_Form_L0 n t_' t_'' k8 n 0))
    (fun k3 =>
      if t_''.Entry < 0 then
        k3 true
      else
        if (((t_).length : Nat) : Int) ≤ t_''.Entry then
          k3 true
        else
          k3 (decide ((2 : Nat) < ((t_''.Rules).length))))
/-- grammarlab/grammarlablaw24.LexiconForms -/
def law24_LexiconForms (n : Nat) (e_ : (List Entry)) (r_ : (List LexRule)) (a_ : Analysis) : Option Bool :=
  jn (fun (t_4 : Bool) =>
    if t_4 = true then
      (law24_exampleHolds n).bind fun r14 =>
      some r14
    else
      (lexicon_Form n e_ r_ a_).bind fun r19 =>
      (r24_Form n e_ r_ a_).bind fun r24 =>
      if (r19.2 == r24.2) = true then
        (r01_Same n r19.1 r24.1).bind fun r30 =>
        if r30 = true then
          (law24_exampleHolds n).bind fun r34 =>
          some r34
        else
          some false
      else
        some false)
    (fun k3 =>
      (r24_Light n e_ r_ []).bind fun r5 =>
      if (!(r5)) = true then
        k3 true
      else
        k3 (decide ((6 : Nat) < ((a_.Rules).length))))
def r24_chains_L2 (n : Nat) (r_ : Int) (out_6 : (List (List Int))) (i_20 : Nat) (k23 : (List (List Int)) → Option (List (List Int))) : Nat → (List (List Int)) → Nat → Option (List (List Int))
  | 0, _, _ => none
  | m3 + 1, next_28, k_32 =>
    if ((k_32 : Nat) : Int) < r_ then
      (out_6[i_20]?).bind fun x36 =>
      chk ((x36).length ≤ 137438953472) (
      chk ((x36).length + ([((k_32 : Nat) : Int)]).length ≤ 137438953472) (
      chk ((next_28).length + ([x36 ++ [((k_32 : Nat) : Int)]]).length ≤ 137438953472) (
      chk (k_32 + 1 ≤ 9223372036854775807) (
      r24_chains_L2 n r_ out_6 i_20 k23 m3 (next_28 ++ [x36 ++ [((k_32 : Nat) : Int)]]) (k_32 + 1)))))
    else
      k23 next_28
def r24_chains_L1 (n : Nat) (r_ : Int) (out_6 : (List (List Int))) (k11 : (List (List Int)) → Option (List (List Int))) : Nat → (List (List Int)) → Nat → Option (List (List Int))
  | 0, _, _ => none
  | m2 + 1, next_16, i_20 =>
    if i_20 < ((out_6).length) then
      jn (fun (next_24 : (List (List Int))) =>
        r24_chains_L1 n r_ out_6 k11 m2 next_24 (i_20 + 1))
        (fun k23 =>
          r24_chains_L2 n r_ out_6 i_20 k23 n next_16 0)
    else
      k11 next_16
def r24_chains_L0 (n : Nat) (r_ : Int) : Nat → Int → (List (List Int)) → Option (List (List Int))
  | 0, _, _ => none
  | m1 + 1, n_5, out_6 =>
    if (0 : Int) < n_5 then
      jn (fun (next_12 : (List (List Int))) =>
        chk (-9223372036854775808 ≤ n_5 - 1 ∧ n_5 - 1 ≤ 9223372036854775807) (
        r24_chains_L0 n r_ m1 (n_5 - 1) next_12))
        (fun k11 =>
          r24_chains_L1 n r_ out_6 k11 n [] 0)
    else
      some out_6
/-- grammarlab/grammarlabref24.chains -/
def r24_chains (n : Nat) (r_ : Int) (n_ : Int) : Option (List (List Int)) :=
  r24_chains_L0 n r_ n n_ [[]]
def r24_Analyses_L2 (n : Nat) (e_ : (List Entry)) (r_ : (List LexRule)) (words_ : (List (List UInt8))) (i_5 : Nat) (k19 : (List Analysis) → Option (List Analysis)) (r24 : (List (List Int))) : Nat → (List Analysis) → Nat → Option (List Analysis)
  | 0, _, _ => none
  | m3 + 1, out_29, k_33 =>
    if k_33 < ((r24).length) then
      (r24[k_33]?).bind fun x37 =>
      (r24_Form n e_ r_ (Analysis.mk ((i_5 : Nat) : Int) x37)).bind fun r43 =>
      jn (fun (t_49 : Bool) =>
        if t_49 = true then
          chk ((out_29).length + ([(Analysis.mk ((i_5 : Nat) : Int) x37)]).length ≤ 137438953472) (
          r24_Analyses_L2 n e_ r_ words_ i_5 k19 r24 m3 (out_29 ++ [(Analysis.mk ((i_5 : Nat) : Int) x37)]) (k_33 + 1))
        else
          r24_Analyses_L2 n e_ r_ words_ i_5 k19 r24 m3 out_29 (k_33 + 1))
        (fun k48 =>
          if r43.2 = true then
            (r01_Same n r43.1 words_).bind fun r51 =>
            k48 r51
          else
            k48 false)
    else
      k19 out_29
def r24_Analyses_L1 (n : Nat) (e_ : (List Entry)) (r_ : (List LexRule)) (words_ : (List (List UInt8))) (i_5 : Nat) (k8 : (List Analysis) → Option (List Analysis)) : Nat → (List Analysis) → Nat → Option (List Analysis)
  | 0, _, _ => none
  | m2 + 1, out_13, n_17 =>
    if n_17 ≤ 2 then
      jn (fun (out_20 : (List Analysis)) =>
        chk (n_17 + 1 ≤ 9223372036854775807) (
        r24_Analyses_L1 n e_ r_ words_ i_5 k8 m2 out_20 (n_17 + 1)))
        (fun k19 =>
          (r24_chains n (((r_).length : Nat) : Int) ((n_17 : Nat) : Int)).bind fun r24 =>
          r24_Analyses_L2 n e_ r_ words_ i_5 k19 r24 n out_13 0)
    else
      k8 out_13
def r24_Analyses_L0 (n : Nat) (e_ : (List Entry)) (r_ : (List LexRule)) (words_ : (List (List UInt8))) : Nat → (List Analysis) → Nat → Option (List Analysis)
  | 0, _, _ => none
  | m1 + 1, out_1, i_5 =>
    if i_5 < ((e_).length) then
      jn (fun (out_9 : (List Analysis)) =>
        r24_Analyses_L0 n e_ r_ words_ m1 out_9 (i_5 + 1))
        (fun k8 =>
          r24_Analyses_L1 n e_ r_ words_ i_5 k8 n out_1 0)
    else
      some out_1
/-- grammarlab/grammarlabref24.Analyses -/
def r24_Analyses (n : Nat) (e_ : (List Entry)) (r_ : (List LexRule)) (words_ : (List (List UInt8))) : Option (List Analysis) :=
  r24_Analyses_L0 n e_ r_ words_ n [] 0
/-- grammarlab/grammarlablaw24.LexiconAnalyses -/
def law24_LexiconAnalyses (n : Nat) (e_ : (List Entry)) (r_ : (List LexRule)) (words_ : (List (List UInt8))) : Option Bool :=
  (r24_Light n e_ r_ words_).bind fun r1 =>
  if (!(r1)) = true then
    (law24_exampleHolds n).bind fun r7 =>
    some r7
  else
    (lexicon_Analyses n e_ r_ words_).bind fun r12 =>
    (r24_Analyses n e_ r_ words_).bind fun r15 =>
    (r24_SameAnalyses n r12 r15).bind fun r18 =>
    if r18 = true then
      (law24_exampleHolds n).bind fun r22 =>
      some r22
    else
      some false
def law24_LexiconBack_L0 (n : Nat) (t_ : (List Entry)) (t_' : (List LexRule)) (t_'' : (List (List UInt8))) (r12 : (List Analysis)) (k17 : (List Int) → Option Bool) : Nat → (List Int) → Nat → Option Bool
  | 0, _, _ => none
  | m1 + 1, t_22, t_26 =>
    if t_26 < ((r12).length) then
      (r12[t_26]?).bind fun x30 =>
      (lexicon_Form n t_ t_' x30).bind fun r32 =>
      jn (fun (t_40 : Bool) =>
        if t_40 = true then
          some false
        else
          if ((x30.Rules).length) = 0 then
            chk ((t_22).length + ([x30.Entry]).length ≤ 137438953472) (
            law24_LexiconBack_L0 n t_ t_' t_'' r12 k17 m1 (t_22 ++ [x30.Entry]) (t_26 + 1))
          else
            law24_LexiconBack_L0 n t_ t_' t_'' r12 k17 m1 t_22 (t_26 + 1))
        (fun k39 =>
          if (!(r32.2)) = true then
            k39 true
          else
            (r01_Same n r32.1 t_'').bind fun r42 =>
            if (!(r42)) = true then
              k39 true
            else
              (ix t_ x30.Entry).bind fun x51 =>
              k39 (decide (((r32.1).length) ≠ ((x51.Words).length))))
    else
      k17 t_22
/-- grammarlab/grammarlablaw24.LexiconBack -/
def law24_LexiconBack (n : Nat) (t_ : (List Entry)) (t_' : (List LexRule)) (t_'' : (List (List UInt8))) : Option Bool :=
  (r24_Light n t_ t_' t_'').bind fun r1 =>
  if (!(r1)) = true then
    (law24_exampleHolds n).bind fun r7 =>
    some r7
  else
    (lexicon_Analyses n t_ t_' t_'').bind fun r12 =>
    jn (fun (t_18 : (List Int)) =>
      (lexicon_Find n t_ t_'').bind fun r76 =>
      (r24_SameInts n t_18 r76).bind fun r79 =>
      if r79 = true then
        (law24_exampleHolds n).bind fun r83 =>
        some r83
      else
        some false)
      (fun k17 =>
        law24_LexiconBack_L0 n t_ t_' t_'' r12 k17 n [] 0)
def law24_LexiconOnce_L0 (n : Nat) (t_'' : Analysis) (r31 : (List Analysis)) (k36 : Nat → Option Bool) : Nat → Nat → Nat → Option Bool
  | 0, _, _ => none
  | m1 + 1, t_38, t_39 =>
    if t_39 < ((r31).length) then
      jn (fun (t_43 : Bool) =>
        if t_43 = true then
          chk (t_38 + 1 ≤ 9223372036854775807) (
          law24_LexiconOnce_L0 n t_'' r31 k36 m1 (t_38 + 1) (t_39 + 1))
        else
          law24_LexiconOnce_L0 n t_'' r31 k36 m1 t_38 (t_39 + 1))
        (fun k42 =>
          (r31[t_39]?).bind fun x45 =>
          if x45.Entry = t_''.Entry then
            (r24_SameInts n x45.Rules t_''.Rules).bind fun r50 =>
            k42 r50
          else
            k42 false)
    else
      k36 t_38
/-- grammarlab/grammarlablaw24.LexiconOnce -/
def law24_LexiconOnce (n : Nat) (t_ : (List Entry)) (t_' : (List LexRule)) (t_'' : Analysis) : Option Bool :=
  jn (fun (t_4 : Bool) =>
    if t_4 = true then
      (law24_exampleHolds n).bind fun r14 =>
      some r14
    else
      (lexicon_Form n t_ t_' t_'').bind fun r19 =>
      if (!(r19.2)) = true then
        if ((r19.1).length) = 0 then
          (law24_exampleHolds n).bind fun r26 =>
          some r26
        else
          some false
      else
        (lexicon_Analyses n t_ t_' r19.1).bind fun r31 =>
        jn (fun (t_37 : Nat) =>
          if t_37 = 1 then
            (law24_exampleHolds n).bind fun r64 =>
            some r64
          else
            some false)
          (fun k36 =>
            law24_LexiconOnce_L0 n t_'' r31 k36 n 0 0))
    (fun k3 =>
      (r24_Light n t_ t_' []).bind fun r5 =>
      if (!(r5)) = true then
        k3 true
      else
        k3 (decide ((6 : Nat) < ((t_''.Rules).length))))
def law24_LexiconGrows_L1 (n : Nat) (t_' : (List LexRule)) (x46 : Analysis) (k68 : Bool → Option Bool) : Nat → Bool → Nat → Option Bool
  | 0, _, _ => none
  | m2 + 1, t_70, t_71 =>
    if t_71 < ((x46.Rules).length) then
      if t_70 = true then
        law24_LexiconGrows_L1 n t_' x46 k68 m2 true (t_71 + 1)
      else
        (x46.Rules[t_71]?).bind fun x82 =>
        law24_LexiconGrows_L1 n t_' x46 k68 m2 (decide (x82 = ((((t_').length : Nat) : Int) - 1))) (t_71 + 1)
    else
      k68 t_70
def law24_LexiconGrows_L0 (n : Nat) (t_ : (List Entry)) (t_' : (List LexRule)) (r20 : (List Analysis)) (k25 : (List Analysis) → (List Analysis) → Option Bool) : Nat → (List Analysis) → (List Analysis) → Nat → Option Bool
  | 0, _, _, _ => none
  | m1 + 1, t_34, t_38, t_42 =>
    if t_42 < ((r20).length) then
      (r20[t_42]?).bind fun x46 =>
      jn (fun (t_52 : (List Analysis)) =>
        jn (fun (t_69 : Bool) =>
          if (!(t_69)) = true then
            chk ((t_38).length + ([x46]).length ≤ 137438953472) (
            law24_LexiconGrows_L0 n t_ t_' r20 k25 m1 t_52 (t_38 ++ [x46]) (t_42 + 1))
          else
            law24_LexiconGrows_L0 n t_ t_' r20 k25 m1 t_52 t_38 (t_42 + 1))
          (fun k68 =>
            law24_LexiconGrows_L1 n t_' x46 k68 n false 0))
        (fun k51 =>
          if x46.Entry < ((((t_).length : Nat) : Int) - 1) then
            chk ((t_34).length + ([x46]).length ≤ 137438953472) (
            k51 (t_34 ++ [x46]))
          else
            k51 t_34)
    else
      k25 t_34 t_38
/-- grammarlab/grammarlablaw24.LexiconGrows -/
def law24_LexiconGrows (n : Nat) (t_ : (List Entry)) (t_' : (List LexRule)) (t_'' : (List (List UInt8))) : Option Bool :=
  jn (fun (t_2 : Bool) =>
    if t_2 = true then
      (law24_exampleHolds n).bind fun r15 =>
      some r15
    else
      (lexicon_Analyses n t_ t_' t_'').bind fun r20 =>
      jn (fun (t_26 : (List Analysis)) (t_30 : (List Analysis)) =>
        chk (0 ≤ ((((t_).length : Nat) : Int) - 1)) (
        chk (((((t_).length : Nat) : Int) - 1).toNat ≤ (t_).length) (
        (lexicon_Analyses n ((t_).take (((((t_).length : Nat) : Int) - 1).toNat)) t_' t_'').bind fun r103 =>
        (r24_SameAnalyses n r103 t_26).bind fun r106 =>
        if r106 = true then
          chk (0 ≤ ((((t_').length : Nat) : Int) - 1)) (
          chk (((((t_').length : Nat) : Int) - 1).toNat ≤ (t_').length) (
          (lexicon_Analyses n t_ ((t_').take (((((t_').length : Nat) : Int) - 1).toNat)) t_'').bind fun r112 =>
          (r24_SameAnalyses n r112 t_30).bind fun r115 =>
          if r115 = true then
            (law24_exampleHolds n).bind fun r119 =>
            some r119
          else
            some false))
        else
          some false)))
        (fun k25 =>
          law24_LexiconGrows_L0 n t_ t_' r20 k25 n [] [] 0))
    (fun k1 =>
      (r24_Light n t_ t_' t_'').bind fun r3 =>
      if (!(r3)) = true then
        k1 true
      else
        if ((t_).length) = 0 then
          k1 true
        else
          k1 (decide (((t_').length) = 0)))
end Go.Proofs.Ytgmghembhenonaa

/- Chapter 03: types, plain programs -/
import Derived.Test.YtoeolfnjblibpaaA0
import Derived.Test.YtoeolfnjblibpaaGl15
import Derived.Test.YtoeolfnjblibpaaGl16
import Derived.Test.YtoeolfnjblibpaaGl26
import Derived.Test.YtoeolfnjblibpaaProg
namespace Go.Proofs.Ytoeolfnjblibpaa
open Go.Gl Go.RowKit Try
set_option linter.unusedVariables false
set_option linter.unusedSimpArgs false
set_option maxRecDepth 4000

structure FeatDecl where
  mk ::
  Feat : (List UInt8)
  Value : (List UInt8)
  deriving DecidableEq
def RFeatDecl : Rep FeatDecl := Rep.via (Rep.prod Rep.str Rep.str) (fun x => (x.Feat, x.Value))
theorem RFeatDecl.open {M : Bs} {w : World} {cs : List Value} {x : FeatDecl} (h : RFeatDecl.rd M w cs x) : cs = [.string (bs (x.Feat)), .string (bs (x.Value))] ∧ ((x.Feat).length ≤ 9223372036854775807) ∧ ((x.Value).length ≤ 9223372036854775807) := by
  obtain ⟨_, _, rfl, h0, r0⟩ := h
  obtain ⟨rfl, p0⟩ := h0
  obtain ⟨rfl, p1⟩ := r0
  exact ⟨rfl, p0, p1⟩
theorem RFeatDecl.mk' {M : Bs} {w : World} {x : FeatDecl}  (p0 : (x.Feat).length ≤ 9223372036854775807) (p1 : (x.Value).length ≤ 9223372036854775807) : RFeatDecl.rd M w [.string (bs (x.Feat)), .string (bs (x.Value))] x := ⟨_, _, rfl, ⟨rfl, p0⟩, ⟨rfl, p1⟩⟩
structure TypeDecl where
  mk ::
  Name : (List UInt8)
  Supers : (List (List UInt8))
  Feats : (List FeatDecl)
  deriving DecidableEq
def RTypeDecl : Rep TypeDecl := Rep.via (Rep.prod Rep.str (Rep.prod (Rep.list Rep.str) (Rep.list RFeatDecl))) (fun x => (x.Name, (x.Supers, x.Feats)))
theorem RTypeDecl.open {M : Bs} {w : World} {cs : List Value} {x : TypeDecl} (h : RTypeDecl.rd M w cs x) : ∃ (Aq2 : Option Addr), ∃ (cq2 : Nat), ∃ (Aq3 : Option Addr), ∃ (cq3 : Nat), cs = [.string (bs (x.Name)), .slice (Aq2) ((x.Supers).length) (cq2), .slice (Aq3) ((x.Feats).length) (cq3)] ∧ ((x.Name).length ≤ 9223372036854775807) ∧ (SlR Rep.str M w Aq2 (x.Supers).length cq2 (x.Supers)) ∧ (SlR RFeatDecl M w Aq3 (x.Feats).length cq3 (x.Feats)) := by
  obtain ⟨_, _, rfl, h0, r0⟩ := h
  obtain ⟨rfl, p0⟩ := h0
  obtain ⟨_, _, rfl, h1, r1⟩ := r0
  obtain ⟨A1, n1, c1, rfl, p1⟩ := h1
  obtain rfl := p1.len
  obtain ⟨A2, n2, c2, rfl, p2⟩ := r1
  obtain rfl := p2.len
  exact ⟨A1, c1, A2, c2, rfl, p0, p1, p2⟩
theorem RTypeDecl.mk' {M : Bs} {w : World} {x : TypeDecl} {Aq2 : Option Addr} {cq2 : Nat} {Aq3 : Option Addr} {cq3 : Nat} (p0 : (x.Name).length ≤ 9223372036854775807) (p1 : SlR Rep.str M w Aq2 (x.Supers).length cq2 (x.Supers)) (p2 : SlR RFeatDecl M w Aq3 (x.Feats).length cq3 (x.Feats)) : RTypeDecl.rd M w [.string (bs (x.Name)), .slice (Aq2) ((x.Supers).length) (cq2), .slice (Aq3) ((x.Feats).length) (cq3)] x := ⟨_, _, rfl, ⟨rfl, p0⟩, ⟨_, _, rfl, ⟨_, _, _, rfl, p1⟩, ⟨_, _, _, rfl, p2⟩⟩⟩
def pre59 (M : Bs) (w : World) (vs : List Value) (x : TypeDecl) : Prop := ∃ (Aa2 : Option Addr), ∃ (ca2 : Nat), ∃ (Aa3 : Option Addr), ∃ (ca3 : Nat), vs = [.agg #[.string (bs (x.Name)), .slice (Aa2) ((x.Supers).length) (ca2), .slice (Aa3) ((x.Feats).length) (ca3)]] ∧ ((x.Name).length ≤ 9223372036854775807) ∧ (SlR Rep.str M w Aa2 (x.Supers).length ca2 (x.Supers)) ∧ (SlR RFeatDecl M w Aa3 (x.Feats).length ca3 (x.Feats))
def post59 (M : Bs) (w : World) (v : Value) (x : Bool) : Prop := v = .bool (x)
def pre69 (M : Bs) (w : World) (vs : List Value) (x : Int) : Prop := vs = [.int .i32 (x)]
def post69 (M : Bs) (w : World) (v : Value) (x : Bool) : Prop := v = .bool (x)
def pre53 (M : Bs) (w : World) (vs : List Value) (x : (List UInt8)) : Prop := vs = [.string (bs (x))] ∧ ((x).length ≤ 9223372036854775807)
def post53 (M : Bs) (w : World) (v : Value) (x : Bool) : Prop := v = .bool (x)
def r03_Light_L0 (n : Nat) (d_ : (List TypeDecl)) : Nat → Nat → Option Bool
  | 0, _ => none
  | m1 + 1, i_3 =>
  if i_3 < ((d_).length) then
   jn (fun (t_7 : Bool) =>
    if t_7 = true then
     some false
    else
     r03_Light_L0 n d_ m1 (i_3 + 1))
     (fun k6 =>
     (d_[i_3]?).bind fun x9 =>
     if (20 : Nat) < ((x9.Supers).length) then
      k6 true
     else
      k6 (decide ((20 : Nat) < ((x9.Feats).length))))
  else
   some true
/-- grammarlab/grammarlabref03.Light -/
def r03_Light (n : Nat) (d_ : (List TypeDecl)) : Option Bool :=
 if (16 : Nat) < ((d_).length) then
  some false
 else
  r03_Light_L0 n d_ n 0
def slices_IndexFunc_TypeDecl_L0 (n : Nat) (s_ : (List TypeDecl)) (f_ : (TypeDecl → Option Bool)) : Nat → Nat → Option Int
  | 0, _ => none
  | m1 + 1, t_1 =>
  if t_1 < ((s_).length) then
   (s_[t_1]?).bind fun x5 =>
   (f_ x5).bind fun r7 =>
   if r7 = true then
    some ((t_1 : Nat) : Int)
   else
    slices_IndexFunc_TypeDecl_L0 n s_ f_ m1 (t_1 + 1)
  else
   some (-1)
/-- slices.IndexFunc(()grammarlab/api.TypeDecl,grammarlab/api.TypeDecl) -/
def slices_IndexFunc_TypeDecl (n : Nat) (s_ : (List TypeDecl)) (f_ : (TypeDecl → Option Bool)) : Option Int :=
 slices_IndexFunc_TypeDecl_L0 n s_ f_ n 0
/-- slices.ContainsFunc(()grammarlab/api.TypeDecl,grammarlab/api.TypeDecl) -/
def slices_ContainsFunc_TypeDecl (n : Nat) (s_ : (List TypeDecl)) (f_ : (TypeDecl → Option Bool)) : Option Bool :=
 (slices_IndexFunc_TypeDecl n s_ f_).bind fun r1 =>
 some (decide ((0 : Int) ≤ r1))
/-- grammarlab/poset.long inner 1 -/
def poset_long_1 (n : Nat) (x_ : TypeDecl) : Option Bool :=
 if (256 : Nat) < ((x_.Supers).length) then
  some true
 else
  some (decide ((256 : Nat) < ((x_.Feats).length)))
/-- grammarlab/poset.long -/
def poset_long (n : Nat) (d_ : (List TypeDecl)) : Option Bool :=
 if (256 : Nat) < ((d_).length) then
  some true
 else
  (slices_ContainsFunc_TypeDecl n d_ (fun p => poset_long_1 n p)).bind fun r3 =>
  some r3
/-- grammarlab/text.digit -/
def text_digit (n : Nat) (c_ : Int) : Option Bool :=
 if (48 : Int) ≤ c_ then
  some (decide (c_ ≤ 57))
 else
  some false
def text_follows_L0 (n : Nat) (s_ : (List UInt8)) (letter_ : (Int → Option Bool)) : Nat → Nat → Option Bool
  | 0, _ => none
  | m1 + 1, pos_7 =>
  if pos_7 < (s_).length then
   jn (fun (t_11 : Bool) =>
    if t_11 = true then
     some false
    else
     text_follows_L0 n s_ letter_ m1 (pos_7 + runeLen s_ pos_7))
     (fun k10 =>
     (letter_ (runeAt s_ pos_7)).bind fun r12 =>
     if (!(r12)) = true then
      if pos_7 = 0 then
       k10 true
      else
       (text_digit n (runeAt s_ pos_7)).bind fun r19 =>
       if (!(r19)) = true then
        k10 (decide ((runeAt s_ pos_7) ≠ 45))
       else
        k10 false
     else
      k10 false)
  else
   some true
/-- grammarlab/text.follows -/
def text_follows (n : Nat) (s_ : (List UInt8)) (letter_ : (Int → Option Bool)) : Option Bool :=
 jn (fun (t_2 : Bool) =>
  if t_2 = true then
   some false
  else
   text_follows_L0 n s_ letter_ n 0)
   (fun k1 =>
   if ((s_).length) = 0 then
    k1 true
   else
    k1 (decide ((32 : Nat) < ((s_).length))))
/-- grammarlab/text.lower -/
def text_lower (n : Nat) (c_ : Int) : Option Bool :=
 if (97 : Int) ≤ c_ then
  some (decide (c_ ≤ 122))
 else
  some false
/-- grammarlab/text.Name -/
def text_Name (n : Nat) (s_ : (List UInt8)) : Option Bool :=
 (text_follows n s_ (fun p => text_lower n p)).bind fun r1 =>
 some r1
def poset_names_L0 (n : Nat) (d_ : (List TypeDecl)) : Nat → (List (List UInt8 × Bool)) → Nat → Option Int
  | 0, _, _ => none
  | m1 + 1, seen_3, t_5 =>
  if t_5 < ((d_).length) then
   (d_[t_5]?).bind fun x9 =>
   (text_Name n x9.Name).bind fun r15 =>
   if (!(r15)) = true then
    some 1
   else
    if ((mget seen_3 x9.Name).getD false) = true then
     some 4
    else
     poset_names_L0 n d_ m1 (mset (seen_3) (x9.Name) (true)) (t_5 + 1)
  else
   some 0
/-- grammarlab/poset.names -/
def poset_names (n : Nat) (d_ : (List TypeDecl)) : Option Int :=
 poset_names_L0 n d_ n [] 0
def poset_supers_L0 (n : Nat) (d_ : (List TypeDecl)) : Nat → (List (List UInt8 × (List (List UInt8)))) → Nat → Option (List (List UInt8 × (List (List UInt8))))
  | 0, _, _ => none
  | m1 + 1, out_3, t_5 =>
  if t_5 < ((d_).length) then
   (d_[t_5]?).bind fun x9 =>
   poset_supers_L0 n d_ m1 (mset (out_3) (x9.Name) (x9.Supers)) (t_5 + 1)
  else
   some out_3
/-- grammarlab/poset.supers -/
def poset_supers (n : Nat) (d_ : (List TypeDecl)) : Option (List (List UInt8 × (List (List UInt8)))) :=
 poset_supers_L0 n d_ n [] 0
def slices_Index_string_L0 (n : Nat) (s_ : (List (List UInt8))) (v_ : (List UInt8)) : Nat → Nat → Option Int
  | 0, _ => none
  | m1 + 1, t_1 =>
  if t_1 < ((s_).length) then
   (s_[t_1]?).bind fun x5 =>
   if (v_ : List UInt8) = x5 then
    some ((t_1 : Nat) : Int)
   else
    slices_Index_string_L0 n s_ v_ m1 (t_1 + 1)
  else
   some (-1)
/-- slices.Index(()string,string) -/
def slices_Index_string (n : Nat) (s_ : (List (List UInt8))) (v_ : (List UInt8)) : Option Int :=
 slices_Index_string_L0 n s_ v_ n 0
/-- slices.Contains(()string,string) -/
def slices_Contains_string (n : Nat) (s_ : (List (List UInt8))) (v_ : (List UInt8)) : Option Bool :=
 (slices_Index_string n s_ v_).bind fun r1 =>
 some (decide ((0 : Int) ≤ r1))
def poset_links_L1 (n : Nat) (r1 : (List (List UInt8 × (List (List UInt8))))) (k9 : Option Int) (x11 : TypeDecl) : Nat → Nat → Option Int
  | 0, _ => none
  | m2 + 1, t_17 =>
  if t_17 < ((x11.Supers).length) then
   (x11.Supers[t_17]?).bind fun x21 =>
   if (!((mget r1 x21).isSome)) = true then
    some 5
   else
    chk (t_17 ≤ (x11.Supers).length) (
    (slices_Contains_string n ((x11.Supers).take t_17) x21).bind fun r29 =>
    if r29 = true then
     some 4
    else
     poset_links_L1 n r1 k9 x11 m2 (t_17 + 1))
  else
   k9
def poset_links_L0 (n : Nat) (d_ : (List TypeDecl)) (r1 : (List (List UInt8 × (List (List UInt8))))) : Nat → Nat → Option Int
  | 0, _ => none
  | m1 + 1, t_6 =>
  if t_6 < ((d_).length) then
   jn (
    poset_links_L0 n d_ r1 m1 (t_6 + 1))
     (fun k9 =>
     (d_[t_6]?).bind fun x11 =>
     poset_links_L1 n r1 k9 x11 n 0)
  else
   some 0
/-- grammarlab/poset.links -/
def poset_links (n : Nat) (d_ : (List TypeDecl)) : Option Int :=
 (poset_supers n d_).bind fun r1 =>
 poset_links_L0 n d_ r1 n 0
def slices_IndexFunc_string_L0 (n : Nat) (s_ : (List (List UInt8))) (f_ : ((List UInt8) → Option Bool)) : Nat → Nat → Option Int
  | 0, _ => none
  | m1 + 1, t_1 =>
  if t_1 < ((s_).length) then
   (s_[t_1]?).bind fun x5 =>
   (f_ x5).bind fun r7 =>
   if r7 = true then
    some ((t_1 : Nat) : Int)
   else
    slices_IndexFunc_string_L0 n s_ f_ m1 (t_1 + 1)
  else
   some (-1)
/-- slices.IndexFunc(()string,string) -/
def slices_IndexFunc_string (n : Nat) (s_ : (List (List UInt8))) (f_ : ((List UInt8) → Option Bool)) : Option Int :=
 slices_IndexFunc_string_L0 n s_ f_ n 0
def slices_DeleteFunc_string_L0 (n : Nat) (del_ : ((List UInt8) → Option Bool)) (k8 : (List (List UInt8)) → Int → Option (List (List UInt8))) : Nat → (List (List UInt8)) → Int → Int → Option (List (List UInt8))
  | 0, _, _, _ => none
  | m1 + 1, s_14, i_18, j_19 =>
  if j_19 < (((s_14).length : Nat) : Int) then
   (ix s_14 j_19).bind fun x22 =>
   (del_ x22).bind fun r26 =>
   if (!(r26)) = true then
    (ix s_14 i_18).bind fun x33 =>
    chk (-9223372036854775808 ≤ i_18 + 1 ∧ i_18 + 1 ≤ 9223372036854775807) (
    chk (-9223372036854775808 ≤ j_19 + 1 ∧ j_19 + 1 ≤ 9223372036854775807) (
    slices_DeleteFunc_string_L0 n del_ k8 m1 ((s_14).set ((i_18).toNat) x22) (i_18 + 1) (j_19 + 1)))
   else
    chk (-9223372036854775808 ≤ j_19 + 1 ∧ j_19 + 1 ≤ 9223372036854775807) (
    slices_DeleteFunc_string_L0 n del_ k8 m1 s_14 i_18 (j_19 + 1))
  else
   k8 s_14 i_18
/-- slices.DeleteFunc(()string,string) -/
def slices_DeleteFunc_string (n : Nat) (s_ : (List (List UInt8))) (del_ : ((List UInt8) → Option Bool)) : Option (List (List UInt8)) :=
 (slices_IndexFunc_string n s_ del_).bind fun r1 =>
 if r1 = (-1) then
  some s_
 else
  chk (-9223372036854775808 ≤ r1 + 1 ∧ r1 + 1 ≤ 9223372036854775807) (
  jn (fun (s_9 : (List (List UInt8))) (i_13 : Int) =>
   chk (0 ≤ i_13) (
   chk ((i_13).toNat ≤ (s_9).length) (
   chk ((i_13).toNat ≤ (clr s_9 ((i_13).toNat)).length) (
   some ((clr s_9 ((i_13).toNat)).take ((i_13).toNat))))))
    (fun k8 =>
    slices_DeleteFunc_string_L0 n del_ k8 n s_ r1 (r1 + 1)))
def slices_Min_string_L0 (n : Nat) (x_ : (List (List UInt8))) : Nat → (List UInt8) → Nat → Option (List UInt8)
  | 0, _, _ => none
  | m1 + 1, m_7, i_8 =>
  if i_8 < ((x_).length) then
   (x_[i_8]?).bind fun x12 =>
   slices_Min_string_L0 n x_ m1 (smin m_7 x12) (i_8 + 1)
  else
   some m_7
/-- slices.Min(()string,string) -/
def slices_Min_string (n : Nat) (x_ : (List (List UInt8))) : Option (List UInt8) :=
 if ((x_).length) < 1 then
  none
 else
  (x_[0]?).bind fun x3 =>
  slices_Min_string_L0 n x_ n x3 1
/-- grammarlab/poset.ordered inner 1 -/
def poset_ordered_1 (n : Nat) (s_ : (List UInt8)) (c0_ : (List UInt8)) : Option Bool :=
 some (decide ((s_ : List UInt8) = c0_))
def poset_ordered_L1 (n : Nat) (t_14 : (List (List UInt8 × Int))) (k25 : (List (List UInt8 × Int)) → (List (List UInt8 × (List (List UInt8)))) → (List (List UInt8)) → Option (List (List UInt8))) (x35 : TypeDecl) (t_42 : (List (List UInt8))) : Nat → (List (List UInt8 × (List (List UInt8)))) → Nat → Option (List (List UInt8))
  | 0, _, _ => none
  | m2 + 1, t_54, t_56 =>
  if t_56 < ((x35.Supers).length) then
   (x35.Supers[t_56]?).bind fun x60 =>
   chk (((mget t_54 x60).getD []).length + ([x35.Name]).length ≤ 137438953472) (
   poset_ordered_L1 n t_14 k25 x35 t_42 m2 (mset (t_54) (x60) (((mget t_54 x60).getD []) ++ [x35.Name])) (t_56 + 1))
  else
   k25 (mset (t_14) (x35.Name) ((((x35.Supers).length : Nat) : Int))) t_54 t_42
def poset_ordered_L0 (n : Nat) (t_ : (List TypeDecl)) (k5 : (List (List UInt8 × Int)) → (List (List UInt8 × (List (List UInt8)))) → (List (List UInt8)) → Option (List (List UInt8))) : Nat → (List (List UInt8 × Int)) → (List (List UInt8 × (List (List UInt8)))) → (List (List UInt8)) → Nat → Option (List (List UInt8))
  | 0, _, _, _, _ => none
  | m1 + 1, t_14, t_16, t_18, t_22 =>
  if t_22 < ((t_).length) then
   jn (fun (t_26 : (List (List UInt8 × Int))) (t_28 : (List (List UInt8 × (List (List UInt8))))) (t_30 : (List (List UInt8))) =>
    poset_ordered_L0 n t_ k5 m1 t_26 t_28 t_30 (t_22 + 1))
     (fun k25 =>
     (t_[t_22]?).bind fun x35 =>
     jn (fun (t_42 : (List (List UInt8))) =>
      poset_ordered_L1 n t_14 k25 x35 t_42 n t_16 0)
       (fun k41 =>
       if ((x35.Supers).length) = 0 then
        chk ((t_18).length + ([x35.Name]).length ≤ 137438953472) (
        k41 (t_18 ++ [x35.Name]))
       else
        k41 t_18))
  else
   k5 t_14 t_16 t_18
def poset_ordered_L3 (n : Nat) (t_8 : (List (List UInt8 × (List (List UInt8))))) (t_79 : (List (List UInt8))) (k85 : (List (List UInt8 × Int)) → (List (List UInt8)) → (List (List UInt8)) → Option (List (List UInt8))) (r96 : (List UInt8)) : Nat → (List (List UInt8 × Int)) → (List (List UInt8)) → Nat → Option (List (List UInt8))
  | 0, _, _, _ => none
  | m4 + 1, t_117, t_119, t_123 =>
  if t_123 < ((((mget t_8 r96).getD [])).length) then
   (((mget t_8 r96).getD [])[t_123]?).bind fun x127 =>
   chk (-9223372036854775808 ≤ ((mget t_117 x127).getD 0) - 1 ∧ ((mget t_117 x127).getD 0) - 1 ≤ 9223372036854775807) (
   if ((mget (mset (t_117) (x127) (((mget t_117 x127).getD 0) - 1)) x127).getD 0) = 0 then
    chk ((t_119).length + ([x127]).length ≤ 137438953472) (
    poset_ordered_L3 n t_8 t_79 k85 r96 m4 (mset (t_117) (x127) (((mget t_117 x127).getD 0) - 1)) (t_119 ++ [x127]) (t_123 + 1))
   else
    poset_ordered_L3 n t_8 t_79 k85 r96 m4 (mset (t_117) (x127) (((mget t_117 x127).getD 0) - 1)) t_119 (t_123 + 1))
  else
   k85 t_117 t_119 (t_79 ++ [r96])
def poset_ordered_L2 (n : Nat) (t_8 : (List (List UInt8 × (List (List UInt8))))) : Nat → (List (List UInt8 × Int)) → (List (List UInt8)) → (List (List UInt8)) → Option (List (List UInt8))
  | 0, _, _, _ => none
  | m3 + 1, t_73, t_75, t_79 =>
  if (0 : Nat) < ((t_75).length) then
   jn (fun (t_86 : (List (List UInt8 × Int))) (t_88 : (List (List UInt8))) (t_92 : (List (List UInt8))) =>
    poset_ordered_L2 n t_8 m3 t_86 t_88 t_92)
     (fun k85 =>
     (slices_Min_string n t_75).bind fun r96 =>
     (slices_DeleteFunc_string n t_75 (fun p => poset_ordered_1 n p r96)).bind fun r103 =>
     chk ((t_79).length + ([r96]).length ≤ 137438953472) (
     poset_ordered_L3 n t_8 t_79 k85 r96 n t_73 r103 0))
  else
   some t_79
/-- grammarlab/poset.ordered -/
def poset_ordered (n : Nat) (t_ : (List TypeDecl)) : Option (List (List UInt8)) :=
 jn (fun (t_6 : (List (List UInt8 × Int))) (t_8 : (List (List UInt8 × (List (List UInt8))))) (t_10 : (List (List UInt8))) =>
  poset_ordered_L2 n t_8 n t_6 t_10 [])
   (fun k5 =>
   poset_ordered_L0 n t_ k5 n [] [] [] 0)
def poset_Check_L0 (n : Nat) (d_ : (List TypeDecl)) (k19 : Nat → Option Int) : Nat → Nat → Nat → Option Int
  | 0, _, _ => none
  | m1 + 1, tops_21, t_22 =>
  if t_22 < ((d_).length) then
   (d_[t_22]?).bind fun x26 =>
   if ((x26.Supers).length) = 0 then
    chk (tops_21 + 1 ≤ 9223372036854775807) (
    poset_Check_L0 n d_ k19 m1 (tops_21 + 1) (t_22 + 1))
   else
    poset_Check_L0 n d_ k19 m1 tops_21 (t_22 + 1)
  else
   k19 tops_21
/-- grammarlab/poset.Check -/
def poset_Check (n : Nat) (d_ : (List TypeDecl)) : Option Int :=
 (poset_long n d_).bind fun r1 =>
 if r1 = true then
  some 7
 else
  (poset_names n d_).bind fun r7 =>
  if r7 ≠ 0 then
   some r7
  else
   (poset_links n d_).bind fun r13 =>
   if r13 ≠ 0 then
    some r13
   else
    jn (fun (tops_20 : Nat) =>
     if tops_20 ≠ 1 then
      some 1
     else
      (poset_ordered n d_).bind fun r35 =>
      if ((r35).length) < ((d_).length) then
       some 6
      else
       some 0)
      (fun k19 =>
      poset_Check_L0 n d_ k19 n 0 0)
/-- grammarlab/poset.Order -/
def poset_Order (n : Nat) (d_ : (List TypeDecl)) : Option ((List (List UInt8)) × Int) :=
 (poset_Check n d_).bind fun r1 =>
 if r1 ≠ 0 then
  some ([], r1)
 else
  (poset_ordered n d_).bind fun r7 =>
  some (r7, 0)
def r03_SameStrings_L0 (n : Nat) (a_ : (List (List UInt8))) (b_ : (List (List UInt8))) : Nat → Nat → Option Bool
  | 0, _ => none
  | m1 + 1, i_2 =>
  if i_2 < ((a_).length) then
   (a_[i_2]?).bind fun x6 =>
   (b_[i_2]?).bind fun x9 =>
   if (x6 : List UInt8) ≠ x9 then
    some false
   else
    r03_SameStrings_L0 n a_ b_ m1 (i_2 + 1)
  else
   some true
/-- grammarlab/grammarlabref03.SameStrings -/
def r03_SameStrings (n : Nat) (a_ : (List (List UInt8))) (b_ : (List (List UInt8))) : Option Bool :=
 if ((a_).length) ≠ ((b_).length) then
  some false
 else
  r03_SameStrings_L0 n a_ b_ n 0
def poset_reach_L1 (n : Nat) (to_ : (List (List UInt8 × (List (List UInt8))))) (k22 : (List (List UInt8 × Bool)) → (List (List UInt8)) → Option (List (List UInt8))) (x30 : (List UInt8)) : Nat → (List (List UInt8 × Bool)) → (List (List UInt8)) → Nat → Option (List (List UInt8))
  | 0, _, _, _ => none
  | m2 + 1, met_36, out_38, t_42 =>
  if t_42 < ((((mget to_ x30).getD [])).length) then
   (((mget to_ x30).getD [])[t_42]?).bind fun x46 =>
   if (!(((mget met_36 x46).getD false))) = true then
    chk ((out_38).length + ([x46]).length ≤ 137438953472) (
    poset_reach_L1 n to_ k22 x30 m2 (mset (met_36) (x46) (true)) (out_38 ++ [x46]) (t_42 + 1))
   else
    poset_reach_L1 n to_ k22 x30 m2 met_36 out_38 (t_42 + 1)
  else
   k22 met_36 out_38
def poset_reach_L0 (n : Nat) (to_ : (List (List UInt8 × (List (List UInt8))))) (k8 : (List (List UInt8)) → Option (List (List UInt8))) : Nat → (List (List UInt8 × Bool)) → (List (List UInt8)) → Nat → Option (List (List UInt8))
  | 0, _, _, _ => none
  | m1 + 1, met_13, out_15, i_19 =>
  if i_19 < ((out_15).length) then
   jn (fun (met_23 : (List (List UInt8 × Bool))) (out_25 : (List (List UInt8))) =>
    poset_reach_L0 n to_ k8 m1 met_23 out_25 (i_19 + 1))
     (fun k22 =>
     (out_15[i_19]?).bind fun x30 =>
     poset_reach_L1 n to_ k22 x30 n met_13 out_15 0)
  else
   k8 out_15
/-- grammarlab/poset.reach -/
def poset_reach (n : Nat) (to_ : (List (List UInt8 × (List (List UInt8))))) (name_ : (List UInt8)) : Option (List (List UInt8)) :=
 if (!((mget to_ name_).isSome)) = true then
  some []
 else
  jn (fun (out_9 : (List (List UInt8))) =>
   (slices_Sort_string n out_9).bind fun r60 =>
   some r60)
    (fun k8 =>
    poset_reach_L0 n to_ k8 n (mset ([]) (name_) (true)) [name_] 0)
/-- grammarlab/poset.Above -/
def poset_Above (n : Nat) (d_ : (List TypeDecl)) (name_ : (List UInt8)) : Option (List (List UInt8)) :=
 (poset_supers n d_).bind fun r1 =>
 (poset_reach n r1 name_).bind fun r4 =>
 some r4
def poset_Below_L1 (n : Nat) (k11 : (List (List UInt8 × (List (List UInt8)))) → Option (List (List UInt8))) (x15 : TypeDecl) : Nat → (List (List UInt8 × (List (List UInt8)))) → Nat → Option (List (List UInt8))
  | 0, _, _ => none
  | m2 + 1, to_27, t_29 =>
  if t_29 < ((x15.Supers).length) then
   (x15.Supers[t_29]?).bind fun x33 =>
   chk (((mget to_27 x33).getD []).length + ([x15.Name]).length ≤ 137438953472) (
   poset_Below_L1 n k11 x15 m2 (mset (to_27) (x33) (((mget to_27 x33).getD []) ++ [x15.Name])) (t_29 + 1))
  else
   k11 to_27
def poset_Below_L0 (n : Nat) (d_ : (List TypeDecl)) (k3 : (List (List UInt8 × (List (List UInt8)))) → Option (List (List UInt8))) : Nat → (List (List UInt8 × (List (List UInt8)))) → Nat → Option (List (List UInt8))
  | 0, _, _ => none
  | m1 + 1, to_6, t_8 =>
  if t_8 < ((d_).length) then
   jn (fun (to_12 : (List (List UInt8 × (List (List UInt8))))) =>
    poset_Below_L0 n d_ k3 m1 to_12 (t_8 + 1))
     (fun k11 =>
     (d_[t_8]?).bind fun x15 =>
     jn (fun (to_22 : (List (List UInt8 × (List (List UInt8))))) =>
      poset_Below_L1 n k11 x15 n to_22 0)
       (fun k21 =>
       if (!((mget to_6 x15.Name).isSome)) = true then
        k21 (mset (to_6) (x15.Name) ([]))
       else
        k21 to_6))
  else
   k3 to_6
/-- grammarlab/poset.Below -/
def poset_Below (n : Nat) (d_ : (List TypeDecl)) (name_ : (List UInt8)) : Option (List (List UInt8)) :=
 jn (fun (to_4 : (List (List UInt8 × (List (List UInt8))))) =>
  (poset_reach n to_4 name_).bind fun r46 =>
  some r46)
   (fun k3 =>
   poset_Below_L0 n d_ k3 n [] 0)
def poset_declared_L0 (n : Nat) (l_ : (List (List UInt8))) (r1 : (List (List UInt8 × (List (List UInt8))))) (k6 : (List (List UInt8)) → Option (List (List UInt8))) : Nat → (List (List UInt8)) → Nat → Option (List (List UInt8))
  | 0, _, _ => none
  | m1 + 1, out_11, t_15 =>
  if t_15 < ((l_).length) then
   (l_[t_15]?).bind fun x19 =>
   if ((mget r1 x19).isSome) = true then
    chk ((out_11).length + ([x19]).length ≤ 137438953472) (
    poset_declared_L0 n l_ r1 k6 m1 (out_11 ++ [x19]) (t_15 + 1))
   else
    poset_declared_L0 n l_ r1 k6 m1 out_11 (t_15 + 1)
  else
   k6 out_11
/-- grammarlab/poset.declared -/
def poset_declared (n : Nat) (d_ : (List TypeDecl)) (l_ : (List (List UInt8))) : Option (List (List UInt8)) :=
 (poset_supers n d_).bind fun r1 =>
 jn (fun (out_7 : (List (List UInt8))) =>
  (slices_Sort_string n out_7).bind fun r33 =>
  (slices_Compact_string n r33).bind fun r38 =>
  some r38)
   (fun k6 =>
   poset_declared_L0 n l_ r1 k6 n [] 0)
/-- grammarlab/poset.Maximal inner 1 -/
def poset_Maximal_1 (n : Nat) (x_ : (List UInt8)) (c0_ : (List UInt8)) (c1_ : (List (List UInt8))) : Option Bool :=
 if (x_ : List UInt8) ≠ c0_ then
  (slices_Contains_string n c1_ x_).bind fun r2 =>
  some r2
 else
  some false
/-- slices.ContainsFunc(()string,string) -/
def slices_ContainsFunc_string (n : Nat) (s_ : (List (List UInt8))) (f_ : ((List UInt8) → Option Bool)) : Option Bool :=
 (slices_IndexFunc_string n s_ f_).bind fun r1 =>
 some (decide ((0 : Int) ≤ r1))
def poset_Maximal_L0 (n : Nat) (r1 : (List (List UInt8))) (r6 : (List (List UInt8 × (List (List UInt8))))) : Nat → (List (List UInt8)) → Nat → Option (List (List UInt8))
  | 0, _, _ => none
  | m1 + 1, out_11, t_15 =>
  if t_15 < ((r1).length) then
   (r1[t_15]?).bind fun x19 =>
   (poset_reach n r6 x19).bind fun r25 =>
   (slices_ContainsFunc_string n r1 (fun p => poset_Maximal_1 n p x19 r25)).bind fun r32 =>
   if (!(r32)) = true then
    chk ((out_11).length + ([x19]).length ≤ 137438953472) (
    poset_Maximal_L0 n r1 r6 m1 (out_11 ++ [x19]) (t_15 + 1))
   else
    poset_Maximal_L0 n r1 r6 m1 out_11 (t_15 + 1)
  else
   some out_11
/-- grammarlab/poset.Maximal -/
def poset_Maximal (n : Nat) (d_ : (List TypeDecl)) (names_ : (List (List UInt8))) : Option (List (List UInt8)) :=
 (poset_declared n d_ names_).bind fun r1 =>
 (poset_supers n d_).bind fun r6 =>
 poset_Maximal_L0 n r1 r6 n [] 0
/-- grammarlab/poset.Minimal inner 1 -/
def poset_Minimal_1 (n : Nat) (s_ : (List UInt8)) (c0_ : (List (List UInt8 × Bool))) : Option Bool :=
 some ((mget c0_ s_).getD false)
def poset_Minimal_L1 (n : Nat) (k23 : (List (List UInt8 × Bool)) → Option (List (List UInt8))) (x27 : (List UInt8)) (r31 : (List (List UInt8))) : Nat → Nat → (List (List UInt8 × Bool)) → Option (List (List UInt8))
  | 0, _, _ => none
  | m2 + 1, t_36, covered_37 =>
  if t_36 < ((r31).length) then
   (r31[t_36]?).bind fun x42 =>
   if (x42 : List UInt8) ≠ x27 then
    poset_Minimal_L1 n k23 x27 r31 m2 (t_36 + 1) (mset (covered_37) (x42) (true))
   else
    poset_Minimal_L1 n k23 x27 r31 m2 (t_36 + 1) covered_37
  else
   k23 covered_37
def poset_Minimal_L0 (n : Nat) (r1 : (List (List UInt8))) (r6 : (List (List UInt8 × (List (List UInt8))))) (k15 : (List (List UInt8 × Bool)) → Option (List (List UInt8))) : Nat → Nat → (List (List UInt8 × Bool)) → Option (List (List UInt8))
  | 0, _, _ => none
  | m1 + 1, t_18, covered_19 =>
  if t_18 < ((r1).length) then
   jn (fun (covered_24 : (List (List UInt8 × Bool))) =>
    poset_Minimal_L0 n r1 r6 k15 m1 (t_18 + 1) covered_24)
     (fun k23 =>
     (r1[t_18]?).bind fun x27 =>
     (poset_reach n r6 x27).bind fun r31 =>
     poset_Minimal_L1 n k23 x27 r31 n 0 covered_19)
  else
   k15 covered_19
/-- grammarlab/poset.Minimal -/
def poset_Minimal (n : Nat) (d_ : (List TypeDecl)) (names_ : (List (List UInt8))) : Option (List (List UInt8)) :=
 (poset_declared n d_ names_).bind fun r1 =>
 (poset_supers n d_).bind fun r6 =>
 jn (fun (covered_16 : (List (List UInt8 × Bool))) =>
  (slices_DeleteFunc_string n r1 (fun p => poset_Minimal_1 n p covered_16)).bind fun r47 =>
  some r47)
   (fun k15 =>
   poset_Minimal_L0 n r1 r6 k15 n 0 [])
/-- grammarlab/grammarlablaw03.decl -/
def law03_decl (n : Nat) (name_ : (List UInt8)) (supers_ : (List (List UInt8))) : Option TypeDecl :=
 some (TypeDecl.mk name_ supers_ [])
/-- grammarlab/grammarlablaw03.exampleHolds -/
def law03_exampleHolds (n : Nat)  : Option Bool :=
 (law03_decl n [99] [[97], [98]]).bind fun r2 =>
 (law03_decl n [116] []).bind fun r5 =>
 (law03_decl n [98] [[116]]).bind fun r9 =>
 (law03_decl n [97] [[116]]).bind fun r13 =>
 (poset_Order n [r2, r5, r9, r13]).bind fun r29 =>
 jn (fun (t_35 : Bool) =>
  if t_35 = true then
   some false
  else
   jn (fun (t_83 : Bool) =>
    if t_83 = true then
     some false
    else
     (law03_decl n [97] [[98]]).bind fun r121 =>
     (law03_decl n [98] [[97]]).bind fun r125 =>
     (poset_Check n [r121, r125, r5]).bind fun r140 =>
     if r140 = 6 then
      chk (2 ≤ ([r121, r125, r5]).length) (
      (poset_Check n (([r121, r125, r5]).take 2)).bind fun r145 =>
      if r145 = 1 then
       chk (1 ≤ ([r121, r125, r5]).length) (
       (poset_Check n (([r121, r125, r5]).take 1)).bind fun r150 =>
       if r150 = 5 then
        (poset_Check n []).bind fun r154 =>
        some (decide (r154 = 1))
       else
        some false)
      else
       some false)
     else
      some false)
     (fun k82 =>
     (poset_Minimal n [r2, r5, r9, r13] [[98], [97], [99]]).bind fun r85 =>
     (r03_SameStrings n r85 [[99]]).bind fun r89 =>
     if (!(r89)) = true then
      k82 true
     else
      (poset_Maximal n [r2, r5, r9, r13] [[99], [97], [120], [97]]).bind fun r100 =>
      (r03_SameStrings n r100 [[97]]).bind fun r104 =>
      k82 (!(r104))))
   (fun k34 =>
   if r29.2 ≠ 0 then
    k34 true
   else
    (r03_SameStrings n r29.1 [[116], [97], [98], [99]]).bind fun r38 =>
    if (!(r38)) = true then
     k34 true
    else
     (poset_Above n [r2, r5, r9, r13] [99]).bind fun r45 =>
     (r03_SameStrings n r45 [[97], [98], [99], [116]]).bind fun r49 =>
     if (!(r49)) = true then
      k34 true
     else
      (poset_Below n [r2, r5, r9, r13] [97]).bind fun r61 =>
      (r03_SameStrings n r61 [[97], [99]]).bind fun r65 =>
      k34 (!(r65)))
def r03_sizes_L0 (n : Nat) (d_ : (List TypeDecl)) : Nat → Nat → Option Int
  | 0, _ => none
  | m1 + 1, i_3 =>
  if i_3 < ((d_).length) then
   jn (fun (t_7 : Bool) =>
    if t_7 = true then
     some 7
    else
     r03_sizes_L0 n d_ m1 (i_3 + 1))
     (fun k6 =>
     (d_[i_3]?).bind fun x9 =>
     if (256 : Nat) < ((x9.Supers).length) then
      k6 true
     else
      k6 (decide ((256 : Nat) < ((x9.Feats).length))))
  else
   some 0
/-- grammarlab/grammarlabref03.sizes -/
def r03_sizes (n : Nat) (d_ : (List TypeDecl)) : Option Int :=
 if (256 : Nat) < ((d_).length) then
  some 7
 else
  r03_sizes_L0 n d_ n 0
def r03_find_L0 (n : Nat) (d_ : (List TypeDecl)) (name_ : (List UInt8)) : Nat → Nat → Option Int
  | 0, _ => none
  | m1 + 1, i_1 =>
  if i_1 < ((d_).length) then
   (d_[i_1]?).bind fun x5 =>
   if (x5.Name : List UInt8) = name_ then
    some ((i_1 : Nat) : Int)
   else
    r03_find_L0 n d_ name_ m1 (i_1 + 1)
  else
   some (-1)
/-- grammarlab/grammarlabref03.find -/
def r03_find (n : Nat) (d_ : (List TypeDecl)) (name_ : (List UInt8)) : Option Int :=
 r03_find_L0 n d_ name_ n 0
/-- grammarlab/grammarlabref01.digit -/
def r01_digit (n : Nat) (c_ : UInt8) : Option Bool :=
 if (48 : Nat) ≤ c_.toNat then
  some (decide (c_.toNat ≤ 57))
 else
  some false
/-- grammarlab/grammarlabref01.upper -/
def r01_upper (n : Nat) (c_ : UInt8) : Option Bool :=
 if (65 : Nat) ≤ c_.toNat then
  some (decide (c_.toNat ≤ 90))
 else
  some false
/-- grammarlab/grammarlabref01.lower -/
def r01_lower (n : Nat) (c_ : UInt8) : Option Bool :=
 if (97 : Nat) ≤ c_.toNat then
  some (decide (c_.toNat ≤ 122))
 else
  some false
/-- grammarlab/grammarlabref01.part -/
def r01_part (n : Nat) (c_ : UInt8) (big_ : Bool) : Option Bool :=
 (r01_digit n c_).bind fun r1 =>
 if r1 = true then
  some true
 else
  if c_.toNat = 45 then
   some true
  else
   if big_ = true then
    (r01_upper n c_).bind fun r11 =>
    if r11 = true then
     some true
    else
     some false
   else
    (r01_lower n c_).bind fun r23 =>
    some r23
def r01_named_L0 (n : Nat) (s_ : (List UInt8)) (big_ : Bool) : Nat → Nat → Option Bool
  | 0, _ => none
  | m1 + 1, i_15 =>
  if i_15 < ((s_).length) then
   (s_[i_15]?).bind fun c18 =>
   (r01_part n c18 big_).bind fun r19 =>
   if (!(r19)) = true then
    some false
   else
    r01_named_L0 n s_ big_ m1 (i_15 + 1)
  else
   some true
/-- grammarlab/grammarlabref01.named -/
def r01_named (n : Nat) (s_ : (List UInt8)) (big_ : Bool) : Option Bool :=
 jn (fun (t_2 : Bool) =>
  if t_2 = true then
   some false
  else
   r01_named_L0 n s_ big_ n 0)
   (fun k1 =>
   if ((s_).length) < 1 then
    k1 true
   else
    if (32 : Nat) < ((s_).length) then
     k1 true
    else
     (s_[0]?).bind fun c5 =>
     (r01_digit n c5).bind fun r6 =>
     if r6 = true then
      k1 true
     else
      k1 (decide (c5.toNat = 45)))
/-- grammarlab/grammarlabref01.Name -/
def r01_Name (n : Nat) (s_ : (List UInt8)) : Option Bool :=
 (r01_named n s_ false).bind fun r1 =>
 some r1
def r03_names_L0 (n : Nat) (d_ : (List TypeDecl)) : Nat → Nat → Option Int
  | 0, _ => none
  | m1 + 1, i_1 =>
  if i_1 < ((d_).length) then
   (d_[i_1]?).bind fun x5 =>
   (r01_Name n x5.Name).bind fun r7 =>
   if (!(r7)) = true then
    some 1
   else
    (r03_find n d_ x5.Name).bind fun r17 =>
    if r17 < ((i_1 : Nat) : Int) then
     some 4
    else
     r03_names_L0 n d_ m1 (i_1 + 1)
  else
   some 0
/-- grammarlab/grammarlabref03.names -/
def r03_names (n : Nat) (d_ : (List TypeDecl)) : Option Int :=
 r03_names_L0 n d_ n 0
def r03_Among_L0 (n : Nat) (l_ : (List (List UInt8))) (s_ : (List UInt8)) : Nat → Nat → Option Bool
  | 0, _ => none
  | m1 + 1, i_1 =>
  if i_1 < ((l_).length) then
   (l_[i_1]?).bind fun x5 =>
   if (x5 : List UInt8) = s_ then
    some true
   else
    r03_Among_L0 n l_ s_ m1 (i_1 + 1)
  else
   some false
/-- grammarlab/grammarlabref03.Among -/
def r03_Among (n : Nat) (l_ : (List (List UInt8))) (s_ : (List UInt8)) : Option Bool :=
 r03_Among_L0 n l_ s_ n 0
def r03_supers_L1 (n : Nat) (d_ : (List TypeDecl)) (k4 : Option Int) (x6 : TypeDecl) : Nat → Nat → Option Int
  | 0, _ => none
  | m2 + 1, k_10 =>
  if k_10 < ((x6.Supers).length) then
   (x6.Supers[k_10]?).bind fun x14 =>
   (r03_find n d_ x14).bind fun r16 =>
   if r16 < 0 then
    some 5
   else
    chk (k_10 ≤ (x6.Supers).length) (
    (r03_Among n ((x6.Supers).take k_10) x14).bind fun r27 =>
    if r27 = true then
     some 4
    else
     r03_supers_L1 n d_ k4 x6 m2 (k_10 + 1))
  else
   k4
def r03_supers_L0 (n : Nat) (d_ : (List TypeDecl)) : Nat → Nat → Option Int
  | 0, _ => none
  | m1 + 1, i_1 =>
  if i_1 < ((d_).length) then
   jn (
    r03_supers_L0 n d_ m1 (i_1 + 1))
     (fun k4 =>
     (d_[i_1]?).bind fun x6 =>
     r03_supers_L1 n d_ k4 x6 n 0)
  else
   some 0
/-- grammarlab/grammarlabref03.supers -/
def r03_supers (n : Nat) (d_ : (List TypeDecl)) : Option Int :=
 r03_supers_L0 n d_ n 0
def r03_ready_L0 (n : Nat) (x_ : TypeDecl) (done_ : (List (List UInt8))) : Nat → Nat → Option Bool
  | 0, _ => none
  | m1 + 1, i_3 =>
  if i_3 < ((x_.Supers).length) then
   (x_.Supers[i_3]?).bind fun x7 =>
   (r03_Among n done_ x7).bind fun r9 =>
   if (!(r9)) = true then
    some false
   else
    r03_ready_L0 n x_ done_ m1 (i_3 + 1)
  else
   some true
/-- grammarlab/grammarlabref03.ready -/
def r03_ready (n : Nat) (x_ : TypeDecl) (done_ : (List (List UInt8))) : Option Bool :=
 r03_ready_L0 n x_ done_ n 0
def r03_placed_L1 (n : Nat) (d_ : (List TypeDecl)) (out_1 : (List (List UInt8))) (k7 : Bool → (List UInt8) → Option (List (List UInt8))) : Nat → Bool → (List UInt8) → Nat → Option (List (List UInt8))
  | 0, _, _, _ => none
  | m2 + 1, more_10, next_11, i_12 =>
  if i_12 < ((d_).length) then
   jn (fun (t_16 : Bool) =>
    if t_16 = true then
     r03_placed_L1 n d_ out_1 k7 m2 more_10 next_11 (i_12 + 1)
    else
     jn (fun (t_43 : Bool) =>
      if t_43 = true then
       (d_[i_12]?).bind fun x52 =>
       r03_placed_L1 n d_ out_1 k7 m2 true x52.Name (i_12 + 1)
      else
       r03_placed_L1 n d_ out_1 k7 m2 true next_11 (i_12 + 1))
       (fun k42 =>
       if (!(more_10)) = true then
        k42 true
       else
        (d_[i_12]?).bind fun x46 =>
        k42 (Op.bytesLess x46.Name next_11)))
     (fun k15 =>
     (d_[i_12]?).bind fun x18 =>
     (r03_Among n out_1 x18.Name).bind fun r20 =>
     if r20 = true then
      k15 true
     else
      (r03_ready n x18 out_1).bind fun r30 =>
      k15 (!(r30)))
  else
   k7 more_10 next_11
def r03_placed_L0 (n : Nat) (d_ : (List TypeDecl)) : Nat → (List (List UInt8)) → Bool → Option (List (List UInt8))
  | 0, _, _ => none
  | m1 + 1, out_1, more_5 =>
  if more_5 = true then
   jn (fun (more_8 : Bool) (next_9 : (List UInt8)) =>
    if more_8 = true then
     chk ((out_1).length + ([next_9]).length ≤ 137438953472) (
     r03_placed_L0 n d_ m1 (out_1 ++ [next_9]) more_8)
    else
     r03_placed_L0 n d_ m1 out_1 more_8)
     (fun k7 =>
     r03_placed_L1 n d_ out_1 k7 n false [] 0)
  else
   some out_1
/-- grammarlab/grammarlabref03.placed -/
def r03_placed (n : Nat) (d_ : (List TypeDecl)) : Option (List (List UInt8)) :=
 r03_placed_L0 n d_ n [] true
def r03_Check_L0 (n : Nat) (d_ : (List TypeDecl)) (k19 : Nat → Option Int) : Nat → Nat → Nat → Option Int
  | 0, _, _ => none
  | m1 + 1, n_21, i_22 =>
  if i_22 < ((d_).length) then
   (d_[i_22]?).bind fun x26 =>
   if ((x26.Supers).length) = 0 then
    chk (n_21 + 1 ≤ 9223372036854775807) (
    r03_Check_L0 n d_ k19 m1 (n_21 + 1) (i_22 + 1))
   else
    r03_Check_L0 n d_ k19 m1 n_21 (i_22 + 1)
  else
   k19 n_21
/-- grammarlab/grammarlabref03.Check -/
def r03_Check (n : Nat) (d_ : (List TypeDecl)) : Option Int :=
 (r03_sizes n d_).bind fun r1 =>
 if r1 ≠ 0 then
  some r1
 else
  (r03_names n d_).bind fun r7 =>
  if r7 ≠ 0 then
   some r7
  else
   (r03_supers n d_).bind fun r13 =>
   if r13 ≠ 0 then
    some r13
   else
    jn (fun (n_20 : Nat) =>
     if n_20 ≠ 1 then
      some 1
     else
      (r03_placed n d_).bind fun r33 =>
      if ((r33).length) < ((d_).length) then
       some 6
      else
       some 0)
      (fun k19 =>
      r03_Check_L0 n d_ k19 n 0 0)
/-- grammarlab/grammarlablaw03.PosetChecks -/
def law03_PosetChecks (n : Nat) (d_ : (List TypeDecl)) : Option Bool :=
 (r03_Light n d_).bind fun r1 =>
 if (!(r1)) = true then
  (law03_exampleHolds n).bind fun r7 =>
  some r7
 else
  (poset_Check n d_).bind fun r12 =>
  (r03_Check n d_).bind fun r15 =>
  if r12 = r15 then
   (law03_exampleHolds n).bind fun r19 =>
   some r19
  else
   some false
/-- grammarlab/grammarlabref03.Order -/
def r03_Order (n : Nat) (d_ : (List TypeDecl)) : Option ((List (List UInt8)) × Int) :=
 (r03_Check n d_).bind fun r1 =>
 if r1 ≠ 0 then
  some ([], r1)
 else
  (r03_placed n d_).bind fun r7 =>
  some (r7, 0)
/-- grammarlab/grammarlablaw03.PosetOrders -/
def law03_PosetOrders (n : Nat) (d_ : (List TypeDecl)) : Option Bool :=
 (r03_Light n d_).bind fun r1 =>
 if (!(r1)) = true then
  (law03_exampleHolds n).bind fun r7 =>
  some r7
 else
  (poset_Order n d_).bind fun r12 =>
  (r03_Order n d_).bind fun r17 =>
  if r12.2 = r17.2 then
   (r03_SameStrings n r12.1 r17.1).bind fun r23 =>
   if r23 = true then
    (law03_exampleHolds n).bind fun r27 =>
    some r27
   else
    some false
  else
   some false
/-- grammarlab/grammarlablaw03.valid -/
def law03_valid (n : Nat) (d_ : (List TypeDecl)) : Option Bool :=
 (r03_Light n d_).bind fun r1 =>
 if r1 = true then
  (r03_Check n d_).bind fun r5 =>
  some (decide (r5 = 0))
 else
  some false
def r03_Put_L0 (n : Nat) (l_ : (List (List UInt8))) (s_ : (List UInt8)) (k1 : Nat → Option (List (List UInt8))) : Nat → Nat → Option (List (List UInt8))
  | 0, _ => none
  | m1 + 1, at_3 =>
  jn (fun (t_5 : Bool) =>
   if t_5 = true then
    chk (at_3 + 1 ≤ 9223372036854775807) (
    r03_Put_L0 n l_ s_ k1 m1 (at_3 + 1))
   else
    k1 at_3)
    (fun k4 =>
    if at_3 < ((l_).length) then
     (l_[at_3]?).bind fun x9 =>
     k4 (Op.bytesLess x9 s_)
    else
     k4 false)
/-- grammarlab/grammarlabref03.Put -/
def r03_Put (n : Nat) (l_ : (List (List UInt8))) (s_ : (List UInt8)) : Option (List (List UInt8)) :=
 jn (fun (at_2 : Nat) =>
  jn (fun (t_16 : Bool) =>
   if t_16 = true then
    some l_
   else
    chk (at_2 ≤ (l_).length) (
    chk (((l_).take at_2).length ≤ 137438953472) (
    chk (((l_).take at_2).length + ([s_]).length ≤ 137438953472) (
    chk ((((l_).take at_2) ++ [s_]).length + ((l_).drop at_2).length ≤ 137438953472) (
    some ((((l_).take at_2) ++ [s_]) ++ ((l_).drop at_2)))))))
    (fun k15 =>
    if at_2 < ((l_).length) then
     (l_[at_2]?).bind fun x20 =>
     k15 (decide ((x20 : List UInt8) = s_))
    else
     k15 false))
   (fun k1 =>
   r03_Put_L0 n l_ s_ k1 n 0)
def r03_Names_L0 (n : Nat) (d_ : (List TypeDecl)) : Nat → (List (List UInt8)) → Nat → Option (List (List UInt8))
  | 0, _, _ => none
  | m1 + 1, out_1, i_5 =>
  if i_5 < ((d_).length) then
   (d_[i_5]?).bind fun x9 =>
   (r03_Put n out_1 x9.Name).bind fun r11 =>
   r03_Names_L0 n d_ m1 r11 (i_5 + 1)
  else
   some out_1
/-- grammarlab/grammarlabref03.Names -/
def r03_Names (n : Nat) (d_ : (List TypeDecl)) : Option (List (List UInt8)) :=
 r03_Names_L0 n d_ n [] 0
def r03_Above_L1 (n : Nat) (k21 : (List (List UInt8)) → Option (List (List UInt8))) (x33 : TypeDecl) : Nat → (List (List UInt8)) → Nat → Option (List (List UInt8))
  | 0, _, _ => none
  | m2 + 1, t_41, t_45 =>
  if t_45 < ((x33.Supers).length) then
   (x33.Supers[t_45]?).bind fun x49 =>
   (r03_Among n t_41 x49).bind fun r51 =>
   if (!(r51)) = true then
    chk ((t_41).length + ([x49]).length ≤ 137438953472) (
    r03_Above_L1 n k21 x33 m2 (t_41 ++ [x49]) (t_45 + 1))
   else
    r03_Above_L1 n k21 x33 m2 t_41 (t_45 + 1)
  else
   k21 t_41
def r03_Above_L0 (n : Nat) (t_ : (List TypeDecl)) (k9 : (List (List UInt8)) → Option (List (List UInt8))) : Nat → (List (List UInt8)) → Nat → Option (List (List UInt8))
  | 0, _, _ => none
  | m1 + 1, t_14, t_18 =>
  if t_18 < ((t_14).length) then
   jn (fun (t_22 : (List (List UInt8))) =>
    r03_Above_L0 n t_ k9 m1 t_22 (t_18 + 1))
     (fun k21 =>
     (t_14[t_18]?).bind fun x27 =>
     (r03_find n t_ x27).bind fun r29 =>
     (ix t_ r29).bind fun x33 =>
     r03_Above_L1 n k21 x33 n t_14 0)
  else
   k9 t_14
def r03_Above_L2 (n : Nat) (t_10 : (List (List UInt8))) : Nat → (List (List UInt8)) → Nat → Option (List (List UInt8))
  | 0, _, _ => none
  | m3 + 1, t_70, t_74 =>
  if t_74 < ((t_10).length) then
   (t_10[t_74]?).bind fun x78 =>
   (r03_Put n t_70 x78).bind fun r80 =>
   r03_Above_L2 n t_10 m3 r80 (t_74 + 1)
  else
   some t_70
/-- grammarlab/grammarlabref03.Above -/
def r03_Above (n : Nat) (t_ : (List TypeDecl)) (t_' : (List UInt8)) : Option (List (List UInt8)) :=
 (r03_find n t_ t_').bind fun r1 =>
 if r1 < 0 then
  some []
 else
  jn (fun (t_10 : (List (List UInt8))) =>
   r03_Above_L2 n t_10 n [] 0)
    (fun k9 =>
    r03_Above_L0 n t_ k9 n [t_'] 0)
def r03_Below_L1 (n : Nat) (t_ : (List TypeDecl)) (t_18 : Nat) (k21 : (List (List UInt8)) → Option (List (List UInt8))) : Nat → (List (List UInt8)) → Nat → Option (List (List UInt8))
  | 0, _, _ => none
  | m2 + 1, t_26, t_30 =>
  if t_30 < ((t_).length) then
   jn (fun (t_34 : Bool) =>
    if t_34 = true then
     (t_[t_30]?).bind fun x68 =>
     chk ((t_26).length + ([x68.Name]).length ≤ 137438953472) (
     r03_Below_L1 n t_ t_18 k21 m2 (t_26 ++ [x68.Name]) (t_30 + 1))
    else
     r03_Below_L1 n t_ t_18 k21 m2 t_26 (t_30 + 1))
     (fun k33 =>
     (t_[t_30]?).bind fun x36 =>
     (t_26[t_18]?).bind fun x39 =>
     (r03_Among n x36.Supers x39).bind fun r41 =>
     if r41 = true then
      (r03_Among n t_26 x36.Name).bind fun r47 =>
      k33 (!(r47))
     else
      k33 false)
  else
   k21 t_26
def r03_Below_L0 (n : Nat) (t_ : (List TypeDecl)) (k9 : (List (List UInt8)) → Option (List (List UInt8))) : Nat → (List (List UInt8)) → Nat → Option (List (List UInt8))
  | 0, _, _ => none
  | m1 + 1, t_14, t_18 =>
  if t_18 < ((t_14).length) then
   jn (fun (t_22 : (List (List UInt8))) =>
    r03_Below_L0 n t_ k9 m1 t_22 (t_18 + 1))
     (fun k21 =>
     r03_Below_L1 n t_ t_18 k21 n t_14 0)
  else
   k9 t_14
def r03_Below_L2 (n : Nat) (t_10 : (List (List UInt8))) : Nat → (List (List UInt8)) → Nat → Option (List (List UInt8))
  | 0, _, _ => none
  | m3 + 1, t_79, t_83 =>
  if t_83 < ((t_10).length) then
   (t_10[t_83]?).bind fun x87 =>
   (r03_Put n t_79 x87).bind fun r89 =>
   r03_Below_L2 n t_10 m3 r89 (t_83 + 1)
  else
   some t_79
/-- grammarlab/grammarlabref03.Below -/
def r03_Below (n : Nat) (t_ : (List TypeDecl)) (t_' : (List UInt8)) : Option (List (List UInt8)) :=
 (r03_find n t_ t_').bind fun r1 =>
 if r1 < 0 then
  some []
 else
  jn (fun (t_10 : (List (List UInt8))) =>
   r03_Below_L2 n t_10 n [] 0)
    (fun k9 =>
    r03_Below_L0 n t_ k9 n [t_'] 0)
def law03_PosetNeighbours_L0 (n : Nat) (d_ : (List TypeDecl)) (name_ : (List UInt8)) (r12 : (List (List UInt8))) (k24 : Option Bool) : Nat → Nat → Option Bool
  | 0, _ => none
  | m1 + 1, t_25 =>
  if t_25 < ((r12 ++ [name_]).length) then
   jn (fun (t_29 : Bool) =>
    if t_29 = true then
     some false
    else
     law03_PosetNeighbours_L0 n d_ name_ r12 k24 m1 (t_25 + 1))
     (fun k28 =>
     ((r12 ++ [name_])[t_25]?).bind fun x31 =>
     (poset_Above n d_ x31).bind fun r33 =>
     (r03_Above n d_ x31).bind fun r38 =>
     (r03_SameStrings n r33 r38).bind fun r41 =>
     if (!(r41)) = true then
      k28 true
     else
      (poset_Below n d_ x31).bind fun r57 =>
      (r03_Below n d_ x31).bind fun r62 =>
      (r03_SameStrings n r57 r62).bind fun r65 =>
      k28 (!(r65)))
  else
   k24
/-- grammarlab/grammarlablaw03.PosetNeighbours -/
def law03_PosetNeighbours (n : Nat) (d_ : (List TypeDecl)) (name_ : (List UInt8)) : Option Bool :=
 (law03_valid n d_).bind fun r1 =>
 if (!(r1)) = true then
  (law03_exampleHolds n).bind fun r7 =>
  some r7
 else
  (r03_Names n d_).bind fun r12 =>
  chk ((r12).length + ([name_]).length ≤ 137438953472) (
  jn (
   (law03_exampleHolds n).bind fun r104 =>
   some r104)
    (fun k24 =>
    law03_PosetNeighbours_L0 n d_ name_ r12 k24 n 0))
def r03_declared_L0 (n : Nat) (d_ : (List TypeDecl)) (l_ : (List (List UInt8))) : Nat → (List (List UInt8)) → Nat → Option (List (List UInt8))
  | 0, _, _ => none
  | m1 + 1, out_1, i_5 =>
  if i_5 < ((l_).length) then
   (l_[i_5]?).bind fun x9 =>
   (r03_find n d_ x9).bind fun r11 =>
   if (0 : Int) ≤ r11 then
    (r03_Put n out_1 x9).bind fun r21 =>
    r03_declared_L0 n d_ l_ m1 r21 (i_5 + 1)
   else
    r03_declared_L0 n d_ l_ m1 out_1 (i_5 + 1)
  else
   some out_1
/-- grammarlab/grammarlabref03.declared -/
def r03_declared (n : Nat) (d_ : (List TypeDecl)) (l_ : (List (List UInt8))) : Option (List (List UInt8)) :=
 r03_declared_L0 n d_ l_ n [] 0
def r03_Maximal_L1 (n : Nat) (r1 : (List (List UInt8))) (i_10 : Nat) (r16 : (List (List UInt8))) (k23 : Bool → Option (List (List UInt8))) : Nat → Bool → Nat → Option (List (List UInt8))
  | 0, _, _ => none
  | m2 + 1, free_25, k_26 =>
  if k_26 < ((r1).length) then
   if free_25 = true then
    if k_26 = i_10 then
     r03_Maximal_L1 n r1 i_10 r16 k23 m2 true (k_26 + 1)
    else
     (r1[k_26]?).bind fun x32 =>
     (r03_Among n r16 x32).bind fun r34 =>
     r03_Maximal_L1 n r1 i_10 r16 k23 m2 (!(r34)) (k_26 + 1)
   else
    r03_Maximal_L1 n r1 i_10 r16 k23 m2 false (k_26 + 1)
  else
   k23 free_25
def r03_Maximal_L0 (n : Nat) (d_ : (List TypeDecl)) (r1 : (List (List UInt8))) : Nat → (List (List UInt8)) → Nat → Option (List (List UInt8))
  | 0, _, _ => none
  | m1 + 1, out_6, i_10 =>
  if i_10 < ((r1).length) then
   (r1[i_10]?).bind fun x14 =>
   (r03_Above n d_ x14).bind fun r16 =>
   jn (fun (free_24 : Bool) =>
    if free_24 = true then
     chk ((out_6).length + ([x14]).length ≤ 137438953472) (
     r03_Maximal_L0 n d_ r1 m1 (out_6 ++ [x14]) (i_10 + 1))
    else
     r03_Maximal_L0 n d_ r1 m1 out_6 (i_10 + 1))
     (fun k23 =>
     r03_Maximal_L1 n r1 i_10 r16 k23 n true 0)
  else
   some out_6
/-- grammarlab/grammarlabref03.Maximal -/
def r03_Maximal (n : Nat) (d_ : (List TypeDecl)) (l_ : (List (List UInt8))) : Option (List (List UInt8)) :=
 (r03_declared n d_ l_).bind fun r1 =>
 r03_Maximal_L0 n d_ r1 n [] 0
def r03_Minimal_L1 (n : Nat) (d_ : (List TypeDecl)) (r1 : (List (List UInt8))) (i_10 : Nat) (k13 : Bool → Option (List (List UInt8))) : Nat → Bool → Nat → Option (List (List UInt8))
  | 0, _, _ => none
  | m2 + 1, free_15, k_16 =>
  if k_16 < ((r1).length) then
   if free_15 = true then
    if k_16 = i_10 then
     r03_Minimal_L1 n d_ r1 i_10 k13 m2 true (k_16 + 1)
    else
     (r1[k_16]?).bind fun x22 =>
     (r03_Above n d_ x22).bind fun r24 =>
     (r1[i_10]?).bind fun x28 =>
     (r03_Among n r24 x28).bind fun r30 =>
     r03_Minimal_L1 n d_ r1 i_10 k13 m2 (!(r30)) (k_16 + 1)
   else
    r03_Minimal_L1 n d_ r1 i_10 k13 m2 false (k_16 + 1)
  else
   k13 free_15
def r03_Minimal_L0 (n : Nat) (d_ : (List TypeDecl)) (r1 : (List (List UInt8))) : Nat → (List (List UInt8)) → Nat → Option (List (List UInt8))
  | 0, _, _ => none
  | m1 + 1, out_6, i_10 =>
  if i_10 < ((r1).length) then
   jn (fun (free_14 : Bool) =>
    if free_14 = true then
     (r1[i_10]?).bind fun x43 =>
     chk ((out_6).length + ([x43]).length ≤ 137438953472) (
     r03_Minimal_L0 n d_ r1 m1 (out_6 ++ [x43]) (i_10 + 1))
    else
     r03_Minimal_L0 n d_ r1 m1 out_6 (i_10 + 1))
     (fun k13 =>
     r03_Minimal_L1 n d_ r1 i_10 k13 n true 0)
  else
   some out_6
/-- grammarlab/grammarlabref03.Minimal -/
def r03_Minimal (n : Nat) (d_ : (List TypeDecl)) (l_ : (List (List UInt8))) : Option (List (List UInt8)) :=
 (r03_declared n d_ l_).bind fun r1 =>
 r03_Minimal_L0 n d_ r1 n [] 0
/-- grammarlab/grammarlablaw03.PosetExtremes -/
def law03_PosetExtremes (n : Nat) (d_ : (List TypeDecl)) (names_ : (List (List UInt8))) : Option Bool :=
 jn (fun (t_2 : Bool) =>
  if t_2 = true then
   (law03_exampleHolds n).bind fun r12 =>
   some r12
  else
   (poset_Maximal n d_ names_).bind fun r17 =>
   (r03_Maximal n d_ names_).bind fun r20 =>
   (r03_SameStrings n r17 r20).bind fun r23 =>
   if r23 = true then
    (poset_Minimal n d_ names_).bind fun r27 =>
    (r03_Minimal n d_ names_).bind fun r30 =>
    (r03_SameStrings n r27 r30).bind fun r33 =>
    if r33 = true then
     (law03_exampleHolds n).bind fun r37 =>
     some r37
    else
     some false
   else
    some false)
   (fun k1 =>
   (law03_valid n d_).bind fun r3 =>
   if (!(r3)) = true then
    k1 true
   else
    k1 (decide ((30 : Nat) < ((names_).length))))
def law03_PosetRelates_L1 (n : Nat) (t_ : (List TypeDecl)) (r12 : ((List (List UInt8)) × Int)) (t_47 : Nat) (k50 : Option Bool) (x52 : (List UInt8)) (r54 : (List (List UInt8))) : Nat → Nat → Option Bool
  | 0, _ => none
  | m2 + 1, t_88 =>
  if t_88 < ((r12.1).length) then
   (r12.1[t_88]?).bind fun x92 =>
   (r03_Among n r54 x92).bind fun r94 =>
   jn (fun (t_102 : Bool) =>
    if t_102 = true then
     some false
    else
     law03_PosetRelates_L1 n t_ r12 t_47 k50 x52 r54 m2 (t_88 + 1))
     (fun k101 =>
     (poset_Below n t_ x92).bind fun r105 =>
     (r03_Among n r105 x52).bind fun r110 =>
     if (!(r94 == r110)) = true then
      k101 true
     else
      if r94 = true then
       if t_47 < t_88 then
        k101 true
       else
        if t_88 ≠ t_47 then
         (poset_Above n t_ x92).bind fun r136 =>
         (r03_Among n r136 x52).bind fun r141 =>
         k101 r141
        else
         k101 false
      else
       k101 false)
  else
   k50
def law03_PosetRelates_L0 (n : Nat) (t_ : (List TypeDecl)) (r12 : ((List (List UInt8)) × Int)) (k46 : Option Bool) : Nat → Nat → Option Bool
  | 0, _ => none
  | m1 + 1, t_47 =>
  if t_47 < ((r12.1).length) then
   jn (
    law03_PosetRelates_L0 n t_ r12 k46 m1 (t_47 + 1))
     (fun k50 =>
     (r12.1[t_47]?).bind fun x52 =>
     (poset_Above n t_ x52).bind fun r54 =>
     jn (fun (t_62 : Bool) =>
      if t_62 = true then
       some false
      else
       law03_PosetRelates_L1 n t_ r12 t_47 k50 x52 r54 n 0)
       (fun k61 =>
       (r12.1[0]?).bind fun x64 =>
       (r03_Among n r54 x64).bind fun r66 =>
       if (!(r66)) = true then
        k61 true
       else
        (r03_Among n r54 x52).bind fun r76 =>
        k61 (!(r76))))
  else
   k46
/-- grammarlab/grammarlablaw03.PosetRelates -/
def law03_PosetRelates (n : Nat) (t_ : (List TypeDecl)) : Option Bool :=
 (law03_valid n t_).bind fun r1 =>
 if (!(r1)) = true then
  (law03_exampleHolds n).bind fun r7 =>
  some r7
 else
  (poset_Order n t_).bind fun r12 =>
  jn (fun (t_18 : Bool) =>
   if t_18 = true then
    some false
   else
    jn (
     (law03_exampleHolds n).bind fun r189 =>
     some r189)
      (fun k46 =>
      law03_PosetRelates_L0 n t_ r12 k46 n 0))
    (fun k17 =>
    if r12.2 ≠ 0 then
     k17 true
    else
     if ((r12.1).length) ≠ ((t_).length) then
      k17 true
     else
      (r12.1[0]?).bind fun x22 =>
      (poset_Below n t_ x22).bind fun r24 =>
      if ((r24).length) ≠ ((t_).length) then
       k17 true
      else
       (poset_Above n t_ x22).bind fun r34 =>
       k17 (decide (((r34).length) ≠ 1)))
def law03_PosetCovers_L1 (n : Nat) (t_ : (List TypeDecl)) (r17 : (List (List UInt8))) (x37 : (List UInt8)) (k47 : Bool → Option Bool) : Nat → Bool → Nat → Option Bool
  | 0, _, _ => none
  | m2 + 1, t_49, t_50 =>
  if t_50 < ((r17).length) then
   (r17[t_50]?).bind fun x54 =>
   if t_49 = true then
    law03_PosetCovers_L1 n t_ r17 x37 k47 m2 true (t_50 + 1)
   else
    (poset_Below n t_ x54).bind fun r59 =>
    (r03_Among n r59 x37).bind fun r62 =>
    law03_PosetCovers_L1 n t_ r17 x37 k47 m2 r62 (t_50 + 1)
  else
   k47 t_49
def law03_PosetCovers_L2 (n : Nat) (t_ : (List TypeDecl)) (r20 : (List (List UInt8))) (x37 : (List UInt8)) (k69 : Bool → Option Bool) : Nat → Bool → Nat → Option Bool
  | 0, _, _ => none
  | m3 + 1, t_71, t_72 =>
  if t_72 < ((r20).length) then
   (r20[t_72]?).bind fun x76 =>
   if t_71 = true then
    law03_PosetCovers_L2 n t_ r20 x37 k69 m3 true (t_72 + 1)
   else
    (poset_Above n t_ x76).bind fun r81 =>
    (r03_Among n r81 x37).bind fun r84 =>
    law03_PosetCovers_L2 n t_ r20 x37 k69 m3 r84 (t_72 + 1)
  else
   k69 t_71
def law03_PosetCovers_L0 (n : Nat) (t_ : (List TypeDecl)) (t_' : (List (List UInt8))) (r17 : (List (List UInt8))) (r20 : (List (List UInt8))) (r27 : (List (List UInt8))) (k32 : Option Bool) : Nat → Nat → Option Bool
  | 0, _ => none
  | m1 + 1, t_33 =>
  if t_33 < ((t_').length) then
   (t_'[t_33]?).bind fun x37 =>
   (r03_Among n r27 x37).bind fun r41 =>
   if (!(r41)) = true then
    law03_PosetCovers_L0 n t_ t_' r17 r20 r27 k32 m1 (t_33 + 1)
   else
    jn (fun (t_48 : Bool) =>
     jn (fun (t_70 : Bool) =>
      jn (fun (t_92 : Bool) =>
       if t_92 = true then
        some false
       else
        law03_PosetCovers_L0 n t_ t_' r17 r20 r27 k32 m1 (t_33 + 1))
        (fun k91 =>
        if (!(t_48)) = true then
         k91 true
        else
         k91 (!(t_70))))
       (fun k69 =>
       law03_PosetCovers_L2 n t_ r20 x37 k69 n false 0))
      (fun k47 =>
      law03_PosetCovers_L1 n t_ r17 x37 k47 n false 0)
  else
   k32
def law03_PosetCovers_L5 (n : Nat) (t_ : (List TypeDecl)) (t_' : (List (List UInt8))) (x106 : (List (List UInt8))) (t_110 : Nat) (k113 : Option Bool) (x115 : (List UInt8)) : Nat → Nat → Option Bool
  | 0, _ => none
  | m6 + 1, t_119 =>
  if t_119 < ((x106).length) then
   (x106[t_119]?).bind fun x123 =>
   jn (fun (t_128 : Bool) =>
    if t_128 = true then
     some false
    else
     law03_PosetCovers_L5 n t_ t_' x106 t_110 k113 x115 m6 (t_119 + 1))
     (fun k127 =>
     (r03_Among n t_' x115).bind fun r129 =>
     if (!(r129)) = true then
      k127 true
     else
      if t_119 ≠ t_110 then
       (poset_Below n t_ x123).bind fun r136 =>
       (r03_Among n r136 x115).bind fun r139 =>
       k127 r139
      else
       k127 false)
  else
   k113
def law03_PosetCovers_L4 (n : Nat) (t_ : (List TypeDecl)) (t_' : (List (List UInt8))) (k104 : Option Bool) (x106 : (List (List UInt8))) : Nat → Nat → Option Bool
  | 0, _ => none
  | m5 + 1, t_110 =>
  if t_110 < ((x106).length) then
   jn (
    law03_PosetCovers_L4 n t_ t_' k104 x106 m5 (t_110 + 1))
     (fun k113 =>
     (x106[t_110]?).bind fun x115 =>
     law03_PosetCovers_L5 n t_ t_' x106 t_110 k113 x115 n 0)
  else
   k104
def law03_PosetCovers_L3 (n : Nat) (t_ : (List TypeDecl)) (t_' : (List (List UInt8))) (k97 : Option Bool) : Nat → (List (List (List UInt8))) → Nat → Option Bool
  | 0, _, _ => none
  | m4 + 1, t_98, t_102 =>
  if t_102 < 2 then
   jn (
    chk (t_102 + 1 ≤ 9223372036854775807) (
    law03_PosetCovers_L3 n t_ t_' k97 m4 t_98 (t_102 + 1)))
     (fun k104 =>
     (t_98[t_102]?).bind fun x106 =>
     law03_PosetCovers_L4 n t_ t_' k104 x106 n 0)
  else
   k97
/-- grammarlab/grammarlablaw03.PosetCovers -/
def law03_PosetCovers (n : Nat) (t_ : (List TypeDecl)) (t_' : (List (List UInt8))) : Option Bool :=
 jn (fun (t_2 : Bool) =>
  if t_2 = true then
   (law03_exampleHolds n).bind fun r12 =>
   some r12
  else
   (poset_Maximal n t_ t_').bind fun r17 =>
   (poset_Minimal n t_ t_').bind fun r20 =>
   (r03_Names n t_).bind fun r27 =>
   jn (
    jn (
     (law03_exampleHolds n).bind fun r152 =>
     some r152)
      (fun k97 =>
      law03_PosetCovers_L3 n t_ t_' k97 n [r17, r20] 0))
     (fun k32 =>
     law03_PosetCovers_L0 n t_ t_' r17 r20 r27 k32 n 0))
   (fun k1 =>
   (law03_valid n t_).bind fun r3 =>
   if (!(r3)) = true then
    k1 true
   else
    k1 (decide ((30 : Nat) < ((t_').length))))
def law03_PosetTurns_L0 (n : Nat) (t_ : (List TypeDecl)) (t_' : UInt8) (k48 : Option Bool) : Nat → Nat → Option Bool
  | 0, _ => none
  | m1 + 1, t_49 =>
  if t_49 < ((t_).length) then
   jn (fun (t_53 : Bool) =>
    if t_53 = true then
     some false
    else
     law03_PosetTurns_L0 n t_ t_' k48 m1 (t_49 + 1))
     (fun k52 =>
     (t_[t_49]?).bind fun x55 =>
     (poset_Above n t_ x55.Name).bind fun r57 =>
     (poset_Above n (((t_).drop (t_'.toNat % ((t_).length))) ++ ((t_).take (t_'.toNat % ((t_).length)))) x55.Name).bind fun r62 =>
     (r03_SameStrings n r57 r62).bind fun r65 =>
     if (!(r65)) = true then
      k52 true
     else
      (poset_Below n t_ x55.Name).bind fun r81 =>
      (poset_Below n (((t_).drop (t_'.toNat % ((t_).length))) ++ ((t_).take (t_'.toNat % ((t_).length)))) x55.Name).bind fun r86 =>
      (r03_SameStrings n r81 r86).bind fun r89 =>
      k52 (!(r89)))
  else
   k48
/-- grammarlab/grammarlablaw03.PosetTurns -/
def law03_PosetTurns (n : Nat) (t_ : (List TypeDecl)) (t_' : UInt8) : Option Bool :=
 (law03_valid n t_).bind fun r1 =>
 if (!(r1)) = true then
  (law03_exampleHolds n).bind fun r7 =>
  some r7
 else
  chk (0 < (t_).length) (
  chk (t_'.toNat % ((t_).length) ≤ (t_).length) (
  chk (((t_).drop (t_'.toNat % ((t_).length))).length ≤ 137438953472) (
  chk (((t_).drop (t_'.toNat % ((t_).length))).length + ((t_).take (t_'.toNat % ((t_).length))).length ≤ 137438953472) (
  (poset_Check n (((t_).drop (t_'.toNat % ((t_).length))) ++ ((t_).take (t_'.toNat % ((t_).length))))).bind fun r26 =>
  if r26 ≠ 0 then
   some false
  else
   (poset_Order n t_).bind fun r32 =>
   (poset_Order n (((t_).drop (t_'.toNat % ((t_).length))) ++ ((t_).take (t_'.toNat % ((t_).length))))).bind fun r37 =>
   (r03_SameStrings n r32.1 r37.1).bind fun r42 =>
   if (!(r42)) = true then
    some false
   else
    jn (
     (law03_exampleHolds n).bind fun r181 =>
     some r181)
      (fun k48 =>
      law03_PosetTurns_L0 n t_ t_' k48 n 0)))))
end Go.Proofs.Ytoeolfnjblibpaa

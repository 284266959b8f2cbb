/- Chapter 22: types, plain programs -/
import Derived.Test.YtbhjplflnkidgaaGreatA0
import Derived.Test.YtbhjplflnkidgaaGreatGl15
import Derived.Test.YtbhjplflnkidgaaGreatGl16
import Derived.Test.YtbhjplflnkidgaaGreatGl28
import Derived.Test.YtbhjplflnkidgaaGreatGl29
import Derived.Test.YtbhjplflnkidgaaGreatGl27
import Derived.Test.YtbhjplflnkidgaaGreatGl35
import Derived.Test.YtbhjplflnkidgaaGreatProg
namespace Go.Proofs.YtbhjplflnkidgaaGreat
open Go.Gl Go.RowKit Tryz
set_option linter.unusedVariables false
set_option linter.unusedSimpArgs false
set_option maxRecDepth 4000
structure FeatDecl where
  mk ::
  Feat : (List UInt8)
  Value : (List UInt8)
  deriving DecidableEq
def RFeatDecl : Rep FeatDecl := Rep.via (Rep.prod Rep.str Rep.str) (fun x => (x.Feat, x.Value))
theorem RFeatDecl.open {M : Bs} {w : World} {cs : List Value} {x : FeatDecl} (h : RFeatDecl.rd M w cs x) : cs = [.string (bs (x.Feat)), .string (bs (x.Value))] ∧ ((x.Feat).length ≤ 9223372036854775807) ∧ ((x.Value).length ≤ 9223372036854775807) := by
  obtain ⟨_, _, rfl, h0, r0⟩ := h
  obtain ⟨rfl, p0⟩ := h0
  obtain ⟨rfl, p1⟩ := r0
  exact ⟨rfl, p0, p1⟩
theorem RFeatDecl.mk' {M : Bs} {w : World} {x : FeatDecl}  (p0 : (x.Feat).length ≤ 9223372036854775807) (p1 : (x.Value).length ≤ 9223372036854775807) : RFeatDecl.rd M w [.string (bs (x.Feat)), .string (bs (x.Value))] x := ⟨_, _, rfl, ⟨rfl, p0⟩, ⟨rfl, p1⟩⟩
structure TypeDecl where
  mk ::
  Name : (List UInt8)
  Supers : (List (List UInt8))
  Feats : (List FeatDecl)
  deriving DecidableEq
def RTypeDecl : Rep TypeDecl := Rep.via (Rep.prod Rep.str (Rep.prod (Rep.list Rep.str) (Rep.list RFeatDecl))) (fun x => (x.Name, (x.Supers, x.Feats)))
theorem RTypeDecl.open {M : Bs} {w : World} {cs : List Value} {x : TypeDecl} (h : RTypeDecl.rd M w cs x) : ∃ (Aq2 : Option Addr), ∃ (cq2 : Nat), ∃ (Aq3 : Option Addr), ∃ (cq3 : Nat), cs = [.string (bs (x.Name)), .slice (Aq2) ((x.Supers).length) (cq2), .slice (Aq3) ((x.Feats).length) (cq3)] ∧ ((x.Name).length ≤ 9223372036854775807) ∧ (SlR Rep.str M w Aq2 (x.Supers).length cq2 (x.Supers)) ∧ (SlR RFeatDecl M w Aq3 (x.Feats).length cq3 (x.Feats)) := by
  obtain ⟨_, _, rfl, h0, r0⟩ := h
  obtain ⟨rfl, p0⟩ := h0
  obtain ⟨_, _, rfl, h1, r1⟩ := r0
  obtain ⟨A1, n1, c1, rfl, p1⟩ := h1
  obtain rfl := p1.len
  obtain ⟨A2, n2, c2, rfl, p2⟩ := r1
  obtain rfl := p2.len
  exact ⟨A1, c1, A2, c2, rfl, p0, p1, p2⟩
theorem RTypeDecl.mk' {M : Bs} {w : World} {x : TypeDecl} {Aq2 : Option Addr} {cq2 : Nat} {Aq3 : Option Addr} {cq3 : Nat} (p0 : (x.Name).length ≤ 9223372036854775807) (p1 : SlR Rep.str M w Aq2 (x.Supers).length cq2 (x.Supers)) (p2 : SlR RFeatDecl M w Aq3 (x.Feats).length cq3 (x.Feats)) : RTypeDecl.rd M w [.string (bs (x.Name)), .slice (Aq2) ((x.Supers).length) (cq2), .slice (Aq3) ((x.Feats).length) (cq3)] x := ⟨_, _, rfl, ⟨rfl, p0⟩, ⟨_, _, rfl, ⟨_, _, _, rfl, p1⟩, ⟨_, _, _, rfl, p2⟩⟩⟩
structure Desc where
  mk ::
  Op : Int
  Name : (List UInt8)
  Path : (List (List UInt8))
  Kids : (List Desc)
def FDesc (R : Rep Desc) : Rep Desc := Rep.via (Rep.prod (Rep.num .i64) (Rep.prod Rep.str (Rep.prod (Rep.list Rep.str) (Rep.list R)))) (fun x => (x.Op, (x.Name, (x.Path, x.Kids))))
theorem FDesc.cts : Cts FDesc := Cts.via (Cts.prod (Cts.const _) (Cts.prod (Cts.const _) (Cts.prod (Cts.const _) (Cts.list Cts.id)))) _
def RDesc : Rep Desc := Rep.mu FDesc 4 (fun _ _ => rfl)
theorem RDesc.open {M : Bs} {w : World} {cs : List Value} {x : Desc} (h : RDesc.rd M w cs x) : ∃ (Aq3 : Option Addr), ∃ (cq3 : Nat), ∃ (Aq4 : Option Addr), ∃ (cq4 : Nat), cs = [.int .i64 (x.Op), .string (bs (x.Name)), .slice (Aq3) ((x.Path).length) (cq3), .slice (Aq4) ((x.Kids).length) (cq4)] ∧ ((x.Name).length ≤ 9223372036854775807) ∧ (SlR Rep.str M w Aq3 (x.Path).length cq3 (x.Path)) ∧ (SlR RDesc M w Aq4 (x.Kids).length cq4 (x.Kids)) := by
  replace h := Rep.mu_open FDesc.cts h
  obtain ⟨_, _, rfl, h0, r0⟩ := h
  obtain rfl := h0
  obtain ⟨_, _, rfl, h1, r1⟩ := r0
  obtain ⟨rfl, p0⟩ := h1
  obtain ⟨_, _, rfl, h2, r2⟩ := r1
  obtain ⟨A1, n1, c1, rfl, p1⟩ := h2
  obtain rfl := p1.len
  obtain ⟨A2, n2, c2, rfl, p2⟩ := r2
  obtain rfl := p2.len
  exact ⟨A1, c1, A2, c2, rfl, p0, p1, p2⟩
theorem RDesc.mk' {M : Bs} {w : World} {x : Desc} {Aq3 : Option Addr} {cq3 : Nat} {Aq4 : Option Addr} {cq4 : Nat} (p0 : (x.Name).length ≤ 9223372036854775807) (p1 : SlR Rep.str M w Aq3 (x.Path).length cq3 (x.Path)) (p2 : SlR RDesc M w Aq4 (x.Kids).length cq4 (x.Kids)) : RDesc.rd M w [.int .i64 (x.Op), .string (bs (x.Name)), .slice (Aq3) ((x.Path).length) (cq3), .slice (Aq4) ((x.Kids).length) (cq4)] x := Rep.mu_mk FDesc.cts (show (FDesc RDesc).rd M w [.int .i64 (x.Op), .string (bs (x.Name)), .slice (Aq3) ((x.Path).length) (cq3), .slice (Aq4) ((x.Kids).length) (cq4)] x from ⟨_, _, rfl, rfl, ⟨_, _, rfl, ⟨rfl, p0⟩, ⟨_, _, rfl, ⟨_, _, _, rfl, p1⟩, ⟨_, _, _, rfl, p2⟩⟩⟩⟩)
structure Def where
  mk ::
  Name : (List UInt8)
  Strict : Desc
  Defaults : (List Desc)
def RDef : Rep Def := Rep.via (Rep.prod Rep.str (Rep.prod RDesc (Rep.list RDesc))) (fun x => (x.Name, (x.Strict, x.Defaults)))
theorem RDef.open {M : Bs} {w : World} {cs : List Value} {x : Def} (h : RDef.rd M w cs x) : ∃ (Aq4 : Option Addr), ∃ (cq4 : Nat), ∃ (Aq5 : Option Addr), ∃ (cq5 : Nat), ∃ (Aq6 : Option Addr), ∃ (cq6 : Nat), cs = [.string (bs (x.Name)), .int .i64 (x.Strict.Op), .string (bs (x.Strict.Name)), .slice (Aq4) ((x.Strict.Path).length) (cq4), .slice (Aq5) ((x.Strict.Kids).length) (cq5), .slice (Aq6) ((x.Defaults).length) (cq6)] ∧ ((x.Name).length ≤ 9223372036854775807) ∧ ((x.Strict.Name).length ≤ 9223372036854775807) ∧ (SlR Rep.str M w Aq4 (x.Strict.Path).length cq4 (x.Strict.Path)) ∧ (SlR RDesc M w Aq5 (x.Strict.Kids).length cq5 (x.Strict.Kids)) ∧ (SlR RDesc M w Aq6 (x.Defaults).length cq6 (x.Defaults)) := by
  obtain ⟨_, _, rfl, h0, r0⟩ := h
  obtain ⟨rfl, p0⟩ := h0
  obtain ⟨_, _, rfl, h1, r1⟩ := r0
  obtain ⟨E1, E2, E3, E4, rfl, p5, p6, p7⟩ := RDesc.open h1
  obtain ⟨A8, n8, c8, rfl, p8⟩ := r1
  obtain rfl := p8.len
  exact ⟨E1, E2, E3, E4, A8, c8, rfl, p0, p5, p6, p7, p8⟩
theorem RDef.mk' {M : Bs} {w : World} {x : Def} {Aq4 : Option Addr} {cq4 : Nat} {Aq5 : Option Addr} {cq5 : Nat} {Aq6 : Option Addr} {cq6 : Nat} (p0 : (x.Name).length ≤ 9223372036854775807) (p1 : (x.Strict.Name).length ≤ 9223372036854775807) (p2 : SlR Rep.str M w Aq4 (x.Strict.Path).length cq4 (x.Strict.Path)) (p3 : SlR RDesc M w Aq5 (x.Strict.Kids).length cq5 (x.Strict.Kids)) (p4 : SlR RDesc M w Aq6 (x.Defaults).length cq6 (x.Defaults)) : RDef.rd M w [.string (bs (x.Name)), .int .i64 (x.Strict.Op), .string (bs (x.Strict.Name)), .slice (Aq4) ((x.Strict.Path).length) (cq4), .slice (Aq5) ((x.Strict.Kids).length) (cq5), .slice (Aq6) ((x.Defaults).length) (cq6)] x := ⟨_, _, rfl, ⟨rfl, p0⟩, ⟨_, _, rfl, (RDesc.mk' p1 p2 p3), ⟨_, _, _, rfl, p4⟩⟩⟩
structure EntryDecl where
  mk ::
  Words : (List (List UInt8))
  Def : Def
def REntryDecl : Rep EntryDecl := Rep.via (Rep.prod (Rep.list Rep.str) RDef) (fun x => (x.Words, x.Def))
theorem REntryDecl.open {M : Bs} {w : World} {cs : List Value} {x : EntryDecl} (h : REntryDecl.rd M w cs x) : ∃ (Aq1 : Option Addr), ∃ (cq1 : Nat), ∃ (Aq5 : Option Addr), ∃ (cq5 : Nat), ∃ (Aq6 : Option Addr), ∃ (cq6 : Nat), ∃ (Aq7 : Option Addr), ∃ (cq7 : Nat), cs = [.slice (Aq1) ((x.Words).length) (cq1), .string (bs (x.Def.Name)), .int .i64 (x.Def.Strict.Op), .string (bs (x.Def.Strict.Name)), .slice (Aq5) ((x.Def.Strict.Path).length) (cq5), .slice (Aq6) ((x.Def.Strict.Kids).length) (cq6), .slice (Aq7) ((x.Def.Defaults).length) (cq7)] ∧ (SlR Rep.str M w Aq1 (x.Words).length cq1 (x.Words)) ∧ ((x.Def.Name).length ≤ 9223372036854775807) ∧ ((x.Def.Strict.Name).length ≤ 9223372036854775807) ∧ (SlR Rep.str M w Aq5 (x.Def.Strict.Path).length cq5 (x.Def.Strict.Path)) ∧ (SlR RDesc M w Aq6 (x.Def.Strict.Kids).length cq6 (x.Def.Strict.Kids)) ∧ (SlR RDesc M w Aq7 (x.Def.Defaults).length cq7 (x.Def.Defaults)) := by
  obtain ⟨_, _, rfl, h0, r0⟩ := h
  obtain ⟨A0, n0, c0, rfl, p0⟩ := h0
  obtain rfl := p0.len
  obtain ⟨E1, E2, E3, E4, E5, E6, rfl, p7, p8, p9, p10, p11⟩ := RDef.open r0
  exact ⟨A0, c0, E1, E2, E3, E4, E5, E6, rfl, p0, p7, p8, p9, p10, p11⟩
theorem REntryDecl.mk' {M : Bs} {w : World} {x : EntryDecl} {Aq1 : Option Addr} {cq1 : Nat} {Aq5 : Option Addr} {cq5 : Nat} {Aq6 : Option Addr} {cq6 : Nat} {Aq7 : Option Addr} {cq7 : Nat} (p0 : SlR Rep.str M w Aq1 (x.Words).length cq1 (x.Words)) (p1 : (x.Def.Name).length ≤ 9223372036854775807) (p2 : (x.Def.Strict.Name).length ≤ 9223372036854775807) (p3 : SlR Rep.str M w Aq5 (x.Def.Strict.Path).length cq5 (x.Def.Strict.Path)) (p4 : SlR RDesc M w Aq6 (x.Def.Strict.Kids).length cq6 (x.Def.Strict.Kids)) (p5 : SlR RDesc M w Aq7 (x.Def.Defaults).length cq7 (x.Def.Defaults)) : REntryDecl.rd M w [.slice (Aq1) ((x.Words).length) (cq1), .string (bs (x.Def.Name)), .int .i64 (x.Def.Strict.Op), .string (bs (x.Def.Strict.Name)), .slice (Aq5) ((x.Def.Strict.Path).length) (cq5), .slice (Aq6) ((x.Def.Strict.Kids).length) (cq6), .slice (Aq7) ((x.Def.Defaults).length) (cq7)] x := ⟨_, _, rfl, ⟨_, _, _, rfl, p0⟩, (RDef.mk' p1 p2 p3 p4 p5)⟩
structure Change where
  mk ::
  Old : (List UInt8)
  New : (List UInt8)
  deriving DecidableEq
def RChange : Rep Change := Rep.via (Rep.prod Rep.str Rep.str) (fun x => (x.Old, x.New))
theorem RChange.open {M : Bs} {w : World} {cs : List Value} {x : Change} (h : RChange.rd M w cs x) : cs = [.string (bs (x.Old)), .string (bs (x.New))] ∧ ((x.Old).length ≤ 9223372036854775807) ∧ ((x.New).length ≤ 9223372036854775807) := by
  obtain ⟨_, _, rfl, h0, r0⟩ := h
  obtain ⟨rfl, p0⟩ := h0
  obtain ⟨rfl, p1⟩ := r0
  exact ⟨rfl, p0, p1⟩
theorem RChange.mk' {M : Bs} {w : World} {x : Change}  (p0 : (x.Old).length ≤ 9223372036854775807) (p1 : (x.New).length ≤ 9223372036854775807) : RChange.rd M w [.string (bs (x.Old)), .string (bs (x.New))] x := ⟨_, _, rfl, ⟨rfl, p0⟩, ⟨rfl, p1⟩⟩
structure Affix where
  mk ::
  Kind : Int
  Pairs : (List Change)
  deriving DecidableEq
def RAffix : Rep Affix := Rep.via (Rep.prod (Rep.num .i64) (Rep.list RChange)) (fun x => (x.Kind, x.Pairs))
theorem RAffix.open {M : Bs} {w : World} {cs : List Value} {x : Affix} (h : RAffix.rd M w cs x) : ∃ (Aq2 : Option Addr), ∃ (cq2 : Nat), cs = [.int .i64 (x.Kind), .slice (Aq2) ((x.Pairs).length) (cq2)] ∧ (SlR RChange M w Aq2 (x.Pairs).length cq2 (x.Pairs)) := by
  obtain ⟨_, _, rfl, h0, r0⟩ := h
  obtain rfl := h0
  obtain ⟨A0, n0, c0, rfl, p0⟩ := r0
  obtain rfl := p0.len
  exact ⟨A0, c0, rfl, p0⟩
theorem RAffix.mk' {M : Bs} {w : World} {x : Affix} {Aq2 : Option Addr} {cq2 : Nat} (p0 : SlR RChange M w Aq2 (x.Pairs).length cq2 (x.Pairs)) : RAffix.rd M w [.int .i64 (x.Kind), .slice (Aq2) ((x.Pairs).length) (cq2)] x := ⟨_, _, rfl, rfl, ⟨_, _, _, rfl, p0⟩⟩
structure LexDecl where
  mk ::
  Affix : Affix
  Def : Def
def RLexDecl : Rep LexDecl := Rep.via (Rep.prod RAffix RDef) (fun x => (x.Affix, x.Def))
theorem RLexDecl.open {M : Bs} {w : World} {cs : List Value} {x : LexDecl} (h : RLexDecl.rd M w cs x) : ∃ (Aq2 : Option Addr), ∃ (cq2 : Nat), ∃ (Aq6 : Option Addr), ∃ (cq6 : Nat), ∃ (Aq7 : Option Addr), ∃ (cq7 : Nat), ∃ (Aq8 : Option Addr), ∃ (cq8 : Nat), cs = [.int .i64 (x.Affix.Kind), .slice (Aq2) ((x.Affix.Pairs).length) (cq2), .string (bs (x.Def.Name)), .int .i64 (x.Def.Strict.Op), .string (bs (x.Def.Strict.Name)), .slice (Aq6) ((x.Def.Strict.Path).length) (cq6), .slice (Aq7) ((x.Def.Strict.Kids).length) (cq7), .slice (Aq8) ((x.Def.Defaults).length) (cq8)] ∧ (SlR RChange M w Aq2 (x.Affix.Pairs).length cq2 (x.Affix.Pairs)) ∧ ((x.Def.Name).length ≤ 9223372036854775807) ∧ ((x.Def.Strict.Name).length ≤ 9223372036854775807) ∧ (SlR Rep.str M w Aq6 (x.Def.Strict.Path).length cq6 (x.Def.Strict.Path)) ∧ (SlR RDesc M w Aq7 (x.Def.Strict.Kids).length cq7 (x.Def.Strict.Kids)) ∧ (SlR RDesc M w Aq8 (x.Def.Defaults).length cq8 (x.Def.Defaults)) := by
  obtain ⟨_, _, rfl, h0, r0⟩ := h
  obtain ⟨E0, E1, rfl, p2⟩ := RAffix.open h0
  obtain ⟨E3, E4, E5, E6, E7, E8, rfl, p9, p10, p11, p12, p13⟩ := RDef.open r0
  exact ⟨E0, E1, E3, E4, E5, E6, E7, E8, rfl, p2, p9, p10, p11, p12, p13⟩
theorem RLexDecl.mk' {M : Bs} {w : World} {x : LexDecl} {Aq2 : Option Addr} {cq2 : Nat} {Aq6 : Option Addr} {cq6 : Nat} {Aq7 : Option Addr} {cq7 : Nat} {Aq8 : Option Addr} {cq8 : Nat} (p0 : SlR RChange M w Aq2 (x.Affix.Pairs).length cq2 (x.Affix.Pairs)) (p1 : (x.Def.Name).length ≤ 9223372036854775807) (p2 : (x.Def.Strict.Name).length ≤ 9223372036854775807) (p3 : SlR Rep.str M w Aq6 (x.Def.Strict.Path).length cq6 (x.Def.Strict.Path)) (p4 : SlR RDesc M w Aq7 (x.Def.Strict.Kids).length cq7 (x.Def.Strict.Kids)) (p5 : SlR RDesc M w Aq8 (x.Def.Defaults).length cq8 (x.Def.Defaults)) : RLexDecl.rd M w [.int .i64 (x.Affix.Kind), .slice (Aq2) ((x.Affix.Pairs).length) (cq2), .string (bs (x.Def.Name)), .int .i64 (x.Def.Strict.Op), .string (bs (x.Def.Strict.Name)), .slice (Aq6) ((x.Def.Strict.Path).length) (cq6), .slice (Aq7) ((x.Def.Strict.Kids).length) (cq7), .slice (Aq8) ((x.Def.Defaults).length) (cq8)] x := ⟨_, _, rfl, (RAffix.mk' p0), (RDef.mk' p1 p2 p3 p4 p5)⟩
structure Module where
  mk ::
  Name : (List UInt8)
  Imports : (List (List UInt8))
  Types : (List TypeDecl)
  Templates : (List Def)
  Entries : (List EntryDecl)
  LexRules : (List LexDecl)
  Rules : (List Def)
  Roots : (List Def)
  Checks : (List (List (List UInt8)))
  Drops : (List (List UInt8))
def RModule : Rep Module := Rep.via (Rep.prod Rep.str (Rep.prod (Rep.list Rep.str) (Rep.prod (Rep.list RTypeDecl) (Rep.prod (Rep.list RDef) (Rep.prod (Rep.list REntryDecl) (Rep.prod (Rep.list RLexDecl) (Rep.prod (Rep.list RDef) (Rep.prod (Rep.list RDef) (Rep.prod (Rep.list (Rep.list Rep.str)) (Rep.list Rep.str)))))))))) (fun x => (x.Name, (x.Imports, (x.Types, (x.Templates, (x.Entries, (x.LexRules, (x.Rules, (x.Roots, (x.Checks, x.Drops))))))))))
theorem RModule.open {M : Bs} {w : World} {cs : List Value} {x : Module} (h : RModule.rd M w cs x) : ∃ (Aq2 : Option Addr), ∃ (cq2 : Nat), ∃ (Aq3 : Option Addr), ∃ (cq3 : Nat), ∃ (Aq4 : Option Addr), ∃ (cq4 : Nat), ∃ (Aq5 : Option Addr), ∃ (cq5 : Nat), ∃ (Aq6 : Option Addr), ∃ (cq6 : Nat), ∃ (Aq7 : Option Addr), ∃ (cq7 : Nat), ∃ (Aq8 : Option Addr), ∃ (cq8 : Nat), ∃ (Aq9 : Option Addr), ∃ (cq9 : Nat), ∃ (Aq10 : Option Addr), ∃ (cq10 : Nat), cs = [.string (bs (x.Name)), .slice (Aq2) ((x.Imports).length) (cq2), .slice (Aq3) ((x.Types).length) (cq3), .slice (Aq4) ((x.Templates).length) (cq4), .slice (Aq5) ((x.Entries).length) (cq5), .slice (Aq6) ((x.LexRules).length) (cq6), .slice (Aq7) ((x.Rules).length) (cq7), .slice (Aq8) ((x.Roots).length) (cq8), .slice (Aq9) ((x.Checks).length) (cq9), .slice (Aq10) ((x.Drops).length) (cq10)] ∧ ((x.Name).length ≤ 9223372036854775807) ∧ (SlR Rep.str M w Aq2 (x.Imports).length cq2 (x.Imports)) ∧ (SlR RTypeDecl M w Aq3 (x.Types).length cq3 (x.Types)) ∧ (SlR RDef M w Aq4 (x.Templates).length cq4 (x.Templates)) ∧ (SlR REntryDecl M w Aq5 (x.Entries).length cq5 (x.Entries)) ∧ (SlR RLexDecl M w Aq6 (x.LexRules).length cq6 (x.LexRules)) ∧ (SlR RDef M w Aq7 (x.Rules).length cq7 (x.Rules)) ∧ (SlR RDef M w Aq8 (x.Roots).length cq8 (x.Roots)) ∧ (SlR (Rep.list Rep.str) M w Aq9 (x.Checks).length cq9 (x.Checks)) ∧ (SlR Rep.str M w Aq10 (x.Drops).length cq10 (x.Drops)) := by
  obtain ⟨_, _, rfl, h0, r0⟩ := h
  obtain ⟨rfl, p0⟩ := h0
  obtain ⟨_, _, rfl, h1, r1⟩ := r0
  obtain ⟨A1, n1, c1, rfl, p1⟩ := h1
  obtain rfl := p1.len
  obtain ⟨_, _, rfl, h2, r2⟩ := r1
  obtain ⟨A2, n2, c2, rfl, p2⟩ := h2
  obtain rfl := p2.len
  obtain ⟨_, _, rfl, h3, r3⟩ := r2
  obtain ⟨A3, n3, c3, rfl, p3⟩ := h3
  obtain rfl := p3.len
  obtain ⟨_, _, rfl, h4, r4⟩ := r3
  obtain ⟨A4, n4, c4, rfl, p4⟩ := h4
  obtain rfl := p4.len
  obtain ⟨_, _, rfl, h5, r5⟩ := r4
  obtain ⟨A5, n5, c5, rfl, p5⟩ := h5
  obtain rfl := p5.len
  obtain ⟨_, _, rfl, h6, r6⟩ := r5
  obtain ⟨A6, n6, c6, rfl, p6⟩ := h6
  obtain rfl := p6.len
  obtain ⟨_, _, rfl, h7, r7⟩ := r6
  obtain ⟨A7, n7, c7, rfl, p7⟩ := h7
  obtain rfl := p7.len
  obtain ⟨_, _, rfl, h8, r8⟩ := r7
  obtain ⟨A8, n8, c8, rfl, p8⟩ := h8
  obtain rfl := p8.len
  obtain ⟨A9, n9, c9, rfl, p9⟩ := r8
  obtain rfl := p9.len
  exact ⟨A1, c1, A2, c2, A3, c3, A4, c4, A5, c5, A6, c6, A7, c7, A8, c8, A9, c9, rfl, p0, p1, p2, p3, p4, p5, p6, p7, p8, p9⟩
theorem RModule.mk' {M : Bs} {w : World} {x : Module} {Aq2 : Option Addr} {cq2 : Nat} {Aq3 : Option Addr} {cq3 : Nat} {Aq4 : Option Addr} {cq4 : Nat} {Aq5 : Option Addr} {cq5 : Nat} {Aq6 : Option Addr} {cq6 : Nat} {Aq7 : Option Addr} {cq7 : Nat} {Aq8 : Option Addr} {cq8 : Nat} {Aq9 : Option Addr} {cq9 : Nat} {Aq10 : Option Addr} {cq10 : Nat} (p0 : (x.Name).length ≤ 9223372036854775807) (p1 : SlR Rep.str M w Aq2 (x.Imports).length cq2 (x.Imports)) (p2 : SlR RTypeDecl M w Aq3 (x.Types).length cq3 (x.Types)) (p3 : SlR RDef M w Aq4 (x.Templates).length cq4 (x.Templates)) (p4 : SlR REntryDecl M w Aq5 (x.Entries).length cq5 (x.Entries)) (p5 : SlR RLexDecl M w Aq6 (x.LexRules).length cq6 (x.LexRules)) (p6 : SlR RDef M w Aq7 (x.Rules).length cq7 (x.Rules)) (p7 : SlR RDef M w Aq8 (x.Roots).length cq8 (x.Roots)) (p8 : SlR (Rep.list Rep.str) M w Aq9 (x.Checks).length cq9 (x.Checks)) (p9 : SlR Rep.str M w Aq10 (x.Drops).length cq10 (x.Drops)) : RModule.rd M w [.string (bs (x.Name)), .slice (Aq2) ((x.Imports).length) (cq2), .slice (Aq3) ((x.Types).length) (cq3), .slice (Aq4) ((x.Templates).length) (cq4), .slice (Aq5) ((x.Entries).length) (cq5), .slice (Aq6) ((x.LexRules).length) (cq6), .slice (Aq7) ((x.Rules).length) (cq7), .slice (Aq8) ((x.Roots).length) (cq8), .slice (Aq9) ((x.Checks).length) (cq9), .slice (Aq10) ((x.Drops).length) (cq10)] x := ⟨_, _, rfl, ⟨rfl, p0⟩, ⟨_, _, rfl, ⟨_, _, _, rfl, p1⟩, ⟨_, _, rfl, ⟨_, _, _, rfl, p2⟩, ⟨_, _, rfl, ⟨_, _, _, rfl, p3⟩, ⟨_, _, rfl, ⟨_, _, _, rfl, p4⟩, ⟨_, _, rfl, ⟨_, _, _, rfl, p5⟩, ⟨_, _, rfl, ⟨_, _, _, rfl, p6⟩, ⟨_, _, rfl, ⟨_, _, _, rfl, p7⟩, ⟨_, _, rfl, ⟨_, _, _, rfl, p8⟩, ⟨_, _, _, rfl, p9⟩⟩⟩⟩⟩⟩⟩⟩⟩⟩
def pre66 (M : Bs) (w : World) (vs : List Value) (x : Module) : Prop := ∃ (Aa2 : Option Addr), ∃ (ca2 : Nat), ∃ (Aa3 : Option Addr), ∃ (ca3 : Nat), ∃ (Aa4 : Option Addr), ∃ (ca4 : Nat), ∃ (Aa5 : Option Addr), ∃ (ca5 : Nat), ∃ (Aa6 : Option Addr), ∃ (ca6 : Nat), ∃ (Aa7 : Option Addr), ∃ (ca7 : Nat), ∃ (Aa8 : Option Addr), ∃ (ca8 : Nat), ∃ (Aa9 : Option Addr), ∃ (ca9 : Nat), ∃ (Aa10 : Option Addr), ∃ (ca10 : Nat), vs = [.agg #[.string (bs (x.Name)), .slice (Aa2) ((x.Imports).length) (ca2), .slice (Aa3) ((x.Types).length) (ca3), .slice (Aa4) ((x.Templates).length) (ca4), .slice (Aa5) ((x.Entries).length) (ca5), .slice (Aa6) ((x.LexRules).length) (ca6), .slice (Aa7) ((x.Rules).length) (ca7), .slice (Aa8) ((x.Roots).length) (ca8), .slice (Aa9) ((x.Checks).length) (ca9), .slice (Aa10) ((x.Drops).length) (ca10)]] ∧ ((x.Name).length ≤ 9223372036854775807) ∧ (SlR Rep.str M w Aa2 (x.Imports).length ca2 (x.Imports)) ∧ (SlR RTypeDecl M w Aa3 (x.Types).length ca3 (x.Types)) ∧ (SlR RDef M w Aa4 (x.Templates).length ca4 (x.Templates)) ∧ (SlR REntryDecl M w Aa5 (x.Entries).length ca5 (x.Entries)) ∧ (SlR RLexDecl M w Aa6 (x.LexRules).length ca6 (x.LexRules)) ∧ (SlR RDef M w Aa7 (x.Rules).length ca7 (x.Rules)) ∧ (SlR RDef M w Aa8 (x.Roots).length ca8 (x.Roots)) ∧ (SlR (Rep.list Rep.str) M w Aa9 (x.Checks).length ca9 (x.Checks)) ∧ (SlR Rep.str M w Aa10 (x.Drops).length ca10 (x.Drops))
def post66 (M : Bs) (w : World) (v : Value) (x : Bool) : Prop := v = .bool (x)
def pre69 (M : Bs) (w : World) (vs : List Value) (x : (List UInt8)) : Prop := vs = [.string (bs (x))] ∧ ((x).length ≤ 9223372036854775807)
def post69 (M : Bs) (w : World) (v : Value) (x : Bool) : Prop := v = .bool (x)
abbrev LB := List UInt8
abbrev LL := List (List UInt8)
def r21_count (n : Nat) (m_ : Module) : Option Int :=
 some (IntKind.i64.wrap ((IntKind.i64.wrap ((IntKind.i64.wrap ((IntKind.i64.wrap ((IntKind.i64.wrap ((IntKind.i64.wrap ((((m_.Types).length : Nat) : Int) + (((m_.Templates).length : Nat) : Int))) + (((m_.Entries).length : Nat) : Int))) + (((m_.LexRules).length : Nat) : Int))) + (((m_.Rules).length : Nat) : Int))) + (((m_.Roots).length : Nat) : Int))) + (((m_.Checks).length : Nat) : Int)))
def r21_lightNames_L0 (n : Nat) (l_ : LL) : Nat → Nat → Option Bool
  | 0, _ => none
  | m1 + 1, a0 =>
  if a0 < ((l_).length) then
   (l_[a0]?).bind fun x6 =>
   if (100 : Nat) < ((x6).length) then
    some false
   else
    r21_lightNames_L0 n l_ m1 (a0 + 1)
  else
   some true
def r21_lightNames (n : Nat) (l_ : LL) (most_ : Int) : Option Bool :=
 if most_ < (((l_).length : Nat) : Int) then
  some false
 else
  r21_lightNames_L0 n l_ n 0
def r21_lightTypes_L1 (n : Nat) (t_ : (List TypeDecl)) (c0 : Nat) (k4 : Option Bool) : Nat → Nat → Option Bool
  | 0, _ => none
  | m2 + 1, a0 =>
  (t_[c0]?).bind fun d0 =>
  if a0 < ((d0.Feats).length) then
   jn (fun (g0 : Bool) =>
    if g0 = true then
     some false
    else
     r21_lightTypes_L1 n t_ c0 k4 m2 (a0 + 1))
     (fun b0 =>
     (d0.Feats[a0]?).bind fun e0 =>
     if (100 : Nat) < ((e0.Feat).length) then
      b0 true
     else
      b0 (decide ((100 : Nat) < ((e0.Value).length))))
  else
   k4
def r21_lightTypes_L0 (n : Nat) (t_ : (List TypeDecl)) : Nat → Nat → Option Bool
  | 0, _ => none
  | m1 + 1, a0 =>
  if a0 < ((t_).length) then
   jn (
    r21_lightTypes_L0 n t_ m1 (a0 + 1))
     (fun k4 =>
     jn (fun (c0 : Bool) =>
      if c0 = true then
       some false
      else
       r21_lightTypes_L1 n t_ a0 k4 n 0)
       (fun k5 =>
       (t_[a0]?).bind fun x8 =>
       if (100 : Nat) < ((x8.Name).length) then
        k5 true
       else
        (r21_lightNames n x8.Supers 260).bind fun b0 =>
        if (!(b0)) = true then
         k5 true
        else
         k5 (decide ((260 : Nat) < ((x8.Feats).length)))))
  else
   some true
def r21_lightTypes (n : Nat) (t_ : (List TypeDecl)) : Option Bool :=
 r21_lightTypes_L0 n t_ n 0
def r19_weight_L0 (n : Nat) (t_ : Desc) (t_'' : Int) (b0 : Option Int) : Nat → Nat → Option Int
  | 0, _ => none
  | m1 + 1, a0 =>
  if a0 < ((t_.Path).length) then
   (t_.Path[a0]?).bind fun c0 =>
   if (60 : Nat) < ((c0).length) then
    chk (-9223372036854775808 ≤ t_'' + 1 ∧ t_'' + 1 ≤ 9223372036854775807) (
    some (t_'' + 1))
   else
    r19_weight_L0 n t_ t_'' b0 m1 (a0 + 1)
  else
   b0
def r19_weight_L1 (n : Nat) (t_ : Desc) (t_' : Int) (t_'' : Int) (self_ : Desc → Int → Int → Option Int) : Nat → Int → Nat → Option Int
  | 0, _, _ => none
  | m2 + 1, a0, b0 =>
  jn (fun (e0 : Bool) =>
   if e0 = true then
    (t_.Kids[b0]?).bind fun g0 =>
    chk (-9223372036854775808 ≤ t_' + 1 ∧ t_' + 1 ≤ 9223372036854775807) (
    (self_ g0 (t_' + 1) t_'').bind fun c0 =>
    chk (-9223372036854775808 ≤ a0 + c0 ∧ a0 + c0 ≤ 9223372036854775807) (
    chk (b0 + 1 ≤ 9223372036854775807) (
    r19_weight_L1 n t_ t_' t_'' self_ m2 (a0 + c0) (b0 + 1))))
   else
    some a0)
    (fun d0 =>
    if b0 < ((t_.Kids).length) then
     d0 (decide (a0 ≤ t_''))
    else
     d0 false)
def r19_weight : Nat → Desc → Int → Int → Option Int
  | 0, _, _, _ => none
  | n + 1, t_, t_', t_'' =>
  jn (fun (b0 : Bool) =>
   if b0 = true then
    chk (-9223372036854775808 ≤ t_'' + 1 ∧ t_'' + 1 ≤ 9223372036854775807) (
    some (t_'' + 1))
   else
    jn (
     r19_weight_L1 n t_ t_' t_'' (r19_weight n) n 1 0)
      (fun a0 =>
      r19_weight_L0 n t_ t_'' a0 n 0))
    (fun k3 =>
    if (80 : Int) < t_' then
     k3 true
    else
     if (60 : Nat) < ((t_.Name).length) then
      k3 true
     else
      if (80 : Nat) < ((t_.Path).length) then
       k3 true
      else
       k3 (decide (t_'' < (((t_.Kids).length : Nat) : Int))))
def r19_Light (n : Nat) (d_ : Desc) (most_ : Int) : Option Bool :=
 (r19_weight n d_ 1 most_).bind fun r3 =>
 some (decide (r3 ≤ most_))
def r21_lightDef_L0 (n : Nat) (x_ : Def) : Nat → Nat → Option Bool
  | 0, _ => none
  | m1 + 1, a0 =>
  if a0 < ((x_.Defaults).length) then
   (x_.Defaults[a0]?).bind fun c0 =>
   (r19_Light n c0 40).bind fun b0 =>
   if (!(b0)) = true then
    some false
   else
    r21_lightDef_L0 n x_ m1 (a0 + 1)
  else
   some true
def r21_lightDef (n : Nat) (x_ : Def) : Option Bool :=
 jn (fun (a0 : Bool) =>
  if a0 = true then
   some false
  else
   r21_lightDef_L0 n x_ n 0)
   (fun k3 =>
   if (60 : Nat) < ((x_.Name).length) then
    k3 true
   else
    if (8 : Nat) < ((x_.Defaults).length) then
     k3 true
    else
     (r19_Light n x_.Strict 40).bind fun r8 =>
     k3 (!(r8)))
def r21_lightDefs_L0 (n : Nat) (l_ : (List Def)) : Nat → Nat → Option Bool
  | 0, _ => none
  | m1 + 1, a0 =>
  if a0 < ((l_).length) then
   (l_[a0]?).bind fun x5 =>
   (r21_lightDef n x5).bind fun r7 =>
   if (!(r7)) = true then
    some false
   else
    r21_lightDefs_L0 n l_ m1 (a0 + 1)
  else
   some true
def r21_lightDefs (n : Nat) (l_ : (List Def)) : Option Bool :=
 r21_lightDefs_L0 n l_ n 0
def r21_lightWords_L0 (n : Nat) (t_ : Module) (k3 : Option Bool) : Nat → Nat → Option Bool
  | 0, _ => none
  | m1 + 1, a0 =>
  if a0 < ((t_.Entries).length) then
   jn (fun (e0 : Bool) =>
    if e0 = true then
     some false
    else
     r21_lightWords_L0 n t_ k3 m1 (a0 + 1))
     (fun k7 =>
     (t_.Entries[a0]?).bind fun b0 =>
     (r21_lightNames n b0.Words 8).bind fun c0 =>
     if (!(c0)) = true then
      k7 true
     else
      (r21_lightDef n b0.Def).bind fun d0 =>
      k7 (!(d0)))
  else
   k3
def r21_lightWords_L2 (n : Nat) (t_ : Module) (d0 : Nat) (b0 : Option Bool) : Nat → Nat → Option Bool
  | 0, _ => none
  | m3 + 1, a0 =>
  (t_.LexRules[d0]?).bind fun e0 =>
  if a0 < ((e0.Affix.Pairs).length) then
   jn (fun (h0 : Bool) =>
    if h0 = true then
     some false
    else
     r21_lightWords_L2 n t_ d0 b0 m3 (a0 + 1))
     (fun c0 =>
     (e0.Affix.Pairs[a0]?).bind fun g0 =>
     if (100 : Nat) < ((g0.Old).length) then
      c0 true
     else
      c0 (decide ((100 : Nat) < ((g0.New).length))))
  else
   b0
def r21_lightWords_L1 (n : Nat) (t_ : Module) (b0 : Option Bool) : Nat → Nat → Option Bool
  | 0, _ => none
  | m2 + 1, a0 =>
  if a0 < ((t_.LexRules).length) then
   jn (
    r21_lightWords_L1 n t_ b0 m2 (a0 + 1))
     (fun e0 =>
     jn (fun (h0 : Bool) =>
      if h0 = true then
       some false
      else
       r21_lightWords_L2 n t_ a0 e0 n 0)
       (fun c0 =>
       (t_.LexRules[a0]?).bind fun d0 =>
       if (20 : Nat) < ((d0.Affix.Pairs).length) then
        c0 true
       else
        (r21_lightDef n d0.Def).bind fun g0 =>
        c0 (!(g0))))
  else
   b0
def r21_lightWords_L3 (n : Nat) (t_ : Module) : Nat → Nat → Option Bool
  | 0, _ => none
  | m4 + 1, a0 =>
  if a0 < ((t_.Checks).length) then
   (t_.Checks[a0]?).bind fun c0 =>
   (r21_lightNames n c0 80).bind fun b0 =>
   if (!(b0)) = true then
    some false
   else
    r21_lightWords_L3 n t_ m4 (a0 + 1)
  else
   some true
def r21_lightWords (n : Nat) (t_ : Module) : Option Bool :=
 jn (
  jn (
   r21_lightWords_L3 n t_ n 0)
    (fun a0 =>
    r21_lightWords_L1 n t_ a0 n 0))
   (fun k3 =>
   r21_lightWords_L0 n t_ k3 n 0)
def r21_LightModule (n : Nat) (m_ : Module) : Option Bool :=
 if ((m_.Name).length) ≤ 100 then
  (r21_count n m_).bind fun r4 =>
  if r4 ≤ 300 then
   (r21_lightNames n m_.Imports 300).bind fun r8 =>
   if r8 = true then
    (r21_lightNames n m_.Drops 300).bind fun a0 =>
    if a0 = true then
     (r21_lightTypes n m_.Types).bind fun b0 =>
     if b0 = true then
      (r21_lightDefs n m_.Templates).bind fun c0 =>
      if c0 = true then
       (r21_lightDefs n m_.Rules).bind fun d0 =>
       if d0 = true then
        (r21_lightDefs n m_.Roots).bind fun e0 =>
        if e0 = true then
         (r21_lightWords n m_).bind fun g0 =>
         some g0
        else
         some false
       else
        some false
      else
       some false
     else
      some false
    else
     some false
   else
    some false
  else
   some false
 else
  some false
def r21_Light_L0 (n : Nat) (l_ : (List Module)) : Nat → Int → Nat → Option Bool
  | 0, _, _ => none
  | m1 + 1, b0, a0 =>
  if a0 < ((l_).length) then
   (l_[a0]?).bind fun x8 =>
   (r21_LightModule n x8).bind fun d0 =>
   if (!(d0)) = true then
    some false
   else
    (r21_count n x8).bind fun c0 =>
    if (300 : Int) < (IntKind.i64.wrap ((IntKind.i64.wrap ((IntKind.i64.wrap (b0 + c0)) + (((x8.Imports).length : Nat) : Int))) + (((x8.Drops).length : Nat) : Int))) then
     some false
    else
     r21_Light_L0 n l_ m1 (IntKind.i64.wrap ((IntKind.i64.wrap ((IntKind.i64.wrap (b0 + c0)) + (((x8.Imports).length : Nat) : Int))) + (((x8.Drops).length : Nat) : Int))) (a0 + 1)
  else
   some true
def r21_Light (n : Nat) (l_ : (List Module)) : Option Bool :=
 if (300 : Nat) < ((l_).length) then
  some false
 else
  r21_Light_L0 n l_ n 0 0
def r01_digit (n : Nat) (c_ : UInt8) : Option Bool :=
 if (48 : Nat) ≤ c_.toNat then
  some (decide (c_.toNat ≤ 57))
 else
  some false
def r01_upper (n : Nat) (c_ : UInt8) : Option Bool :=
 if (65 : Nat) ≤ c_.toNat then
  some (decide (c_.toNat ≤ 90))
 else
  some false
def r01_lower (n : Nat) (c_ : UInt8) : Option Bool :=
 if (97 : Nat) ≤ c_.toNat then
  some (decide (c_.toNat ≤ 122))
 else
  some false
def r01_part (n : Nat) (c_ : UInt8) (big_ : Bool) : Option Bool :=
 (r01_digit n c_).bind fun r1 =>
 if r1 = true then
  some true
 else
  if c_.toNat = 45 then
   some true
  else
   if big_ = true then
    (r01_upper n c_).bind fun a0 =>
    if a0 = true then
     some true
    else
     some false
   else
    (r01_lower n c_).bind fun b0 =>
    some b0
def r01_named_L0 (n : Nat) (s_ : LB) (big_ : Bool) : Nat → Nat → Option Bool
  | 0, _ => none
  | m1 + 1, a0 =>
  if a0 < ((s_).length) then
   (s_[a0]?).bind fun b0 =>
   (r01_part n b0 big_).bind fun c0 =>
   if (!(c0)) = true then
    some false
   else
    r01_named_L0 n s_ big_ m1 (a0 + 1)
  else
   some true
def r01_named (n : Nat) (s_ : LB) (big_ : Bool) : Option Bool :=
 jn (fun (a0 : Bool) =>
  if a0 = true then
   some false
  else
   r01_named_L0 n s_ big_ n 0)
   (fun k1 =>
   if ((s_).length) < 1 then
    k1 true
   else
    if (32 : Nat) < ((s_).length) then
     k1 true
    else
     (s_[0]?).bind fun c5 =>
     (r01_digit n c5).bind fun r6 =>
     if r6 = true then
      k1 true
     else
      k1 (decide (c5.toNat = 45)))
def r01_Name (n : Nat) (s_ : LB) : Option Bool :=
 (r01_named n s_ false).bind fun r1 =>
 some r1
def r21_long_L0 (n : Nat)  : Nat → (List Int) → Nat → Option Bool
  | 0, _, _ => none
  | m1 + 1, b0, a0 =>
  if a0 < ((b0).length) then
   (b0[a0]?).bind fun c0 =>
   if (256 : Int) < c0 then
    some true
   else
    r21_long_L0 n m1 b0 (a0 + 1)
  else
   some false
def r21_long (n : Nat) (m_ : Module) : Option Bool :=
 r21_long_L0 n  n [(((m_.Imports).length : Nat) : Int), (((m_.Types).length : Nat) : Int), (((m_.Templates).length : Nat) : Int), (((m_.Entries).length : Nat) : Int), (((m_.LexRules).length : Nat) : Int), (((m_.Rules).length : Nat) : Int), (((m_.Roots).length : Nat) : Int), (((m_.Checks).length : Nat) : Int), (((m_.Drops).length : Nat) : Int)] 0
def r01_Feature (n : Nat) (s_ : LB) : Option Bool :=
 (r01_named n s_ true).bind fun r1 =>
 some r1
def r21_allNames_L0 (n : Nat) (l_ : LL) (big_ : Bool) : Nat → Nat → Option Bool
  | 0, _ => none
  | m1 + 1, a0 =>
  if a0 < ((l_).length) then
   jn (fun (d0 : Bool) =>
    if d0 = true then
     some false
    else
     r21_allNames_L0 n l_ big_ m1 (a0 + 1))
     (fun k4 =>
     if big_ = true then
      (l_[a0]?).bind fun x8 =>
      (r01_Feature n x8).bind fun b0 =>
      if (!(b0)) = true then
       k4 true
      else
       k4 false
     else
      (l_[a0]?).bind fun e0 =>
      (r01_Name n e0).bind fun c0 =>
      k4 (!(c0)))
  else
   some true
def r21_allNames (n : Nat) (l_ : LL) (big_ : Bool) : Option Bool :=
 r21_allNames_L0 n l_ big_ n 0
def r21_first_L0 (n : Nat) (l_ : (List Int)) : Nat → Nat → Option Int
  | 0, _ => none
  | m1 + 1, a0 =>
  if a0 < ((l_).length) then
   (l_[a0]?).bind fun x5 =>
   if x5 ≠ 0 then
    some x5
   else
    r21_first_L0 n l_ m1 (a0 + 1)
  else
   some 0
def r21_first (n : Nat) (l_ : (List Int)) : Option Int :=
 r21_first_L0 n l_ n 0
def r21_typeError_L0 (n : Nat) (x_ : TypeDecl) : Nat → Nat → Option Int
  | 0, _ => none
  | m1 + 1, a0 =>
  if a0 < ((x_.Feats).length) then
   jn (fun (g0 : Bool) =>
    if g0 = true then
     some 1
    else
     r21_typeError_L0 n x_ m1 (a0 + 1))
     (fun b0 =>
     (x_.Feats[a0]?).bind fun c0 =>
     (r01_Feature n c0.Feat).bind fun d0 =>
     if (!(d0)) = true then
      b0 true
     else
      (r01_Name n c0.Value).bind fun e0 =>
      b0 (!(e0)))
  else
   some 0
def r21_typeError (n : Nat) (x_ : TypeDecl) : Option Int :=
 (r01_Name n x_.Name).bind fun r3 =>
 if (!(r3)) = true then
  some 1
 else
  jn (fun (b0 : Bool) =>
   if b0 = true then
    some 7
   else
    (r21_allNames n x_.Supers false).bind fun a0 =>
    if (!(a0)) = true then
     some 1
    else
     r21_typeError_L0 n x_ n 0)
    (fun k9 =>
    if (256 : Nat) < ((x_.Supers).length) then
     k9 true
    else
     k9 (decide ((256 : Nat) < ((x_.Feats).length))))
def r21_typesError_L0 (n : Nat) (l_ : (List TypeDecl)) : Nat → Nat → Option Int
  | 0, _ => none
  | m1 + 1, a0 =>
  if a0 < ((l_).length) then
   (l_[a0]?).bind fun x5 =>
   (r21_typeError n x5).bind fun r7 =>
   if r7 ≠ 0 then
    some r7
   else
    r21_typesError_L0 n l_ m1 (a0 + 1)
  else
   some 0
def r21_typesError (n : Nat) (l_ : (List TypeDecl)) : Option Int :=
 r21_typesError_L0 n l_ n 0
def r19_leaf (n : Nat) (op_ : Int) : Option Bool :=
 if op_ = 1 then
  some true
 else
  if op_ = 2 then
   some true
  else
   some (decide (op_ = 3))
def r19_kids_L0 (n : Nat) (d_ : Desc) : Nat → Nat → Option Bool
  | 0, _ => none
  | m1 + 1, a0 =>
  if a0 < ((d_.Kids).length) then
   (d_.Kids[a0]?).bind fun b0 =>
   if b0.Op = 4 then
    some false
   else
    r19_kids_L0 n d_ m1 (a0 + 1)
  else
   some (decide ((2 : Nat) ≤ ((d_.Kids).length)))
def r19_kids (n : Nat) (d_ : Desc) : Option Bool :=
 jn (fun (a0 : Bool) =>
  if a0 = true then
   some (decide (((d_.Kids).length) = 0))
  else
   if d_.Op = 5 then
    some (decide (((d_.Kids).length) = 1))
   else
    if d_.Op = 7 then
     some (decide ((2 : Nat) ≤ ((d_.Kids).length)))
    else
     if d_.Op = 4 then
      r19_kids_L0 n d_ n 0
     else
      some true)
   (fun k3 =>
   if d_.Op = 1 then
    k3 (decide (d_.Op = 1))
   else
    if d_.Op = 2 then
     k3 (decide (d_.Op = 2))
    else
     k3 (decide (d_.Op = 3)))
def r19_formed_L0 (n : Nat) (d_ : Desc) (b0 : Option Bool) : Nat → Nat → Option Bool
  | 0, _ => none
  | m1 + 1, a0 =>
  if a0 < ((d_.Path).length) then
   (d_.Path[a0]?).bind fun d0 =>
   (r01_Feature n d0).bind fun c0 =>
   if (!(c0)) = true then
    some false
   else
    r19_formed_L0 n d_ b0 m1 (a0 + 1)
  else
   b0
def r19_formed (n : Nat) (d_ : Desc) : Option Bool :=
 jn (fun (c0 : Bool) =>
  if c0 = true then
   some false
  else
   if (!((decide (d_.Op = 5)) == (decide ((0 : Nat) < ((d_.Path).length))))) = true then
    some false
   else
    jn (
     (r19_kids n d_).bind fun b0 =>
     some b0)
      (fun a0 =>
      r19_formed_L0 n d_ a0 n 0))
   (fun k3 =>
   (r19_leaf n d_.Op).bind fun r5 =>
   (r01_Name n d_.Name).bind fun r8 =>
   if (!(r5 == r8)) = true then
    k3 true
   else
    if (!(r5)) = true then
     k3 (decide ((d_.Name : List UInt8) ≠ []))
    else
     k3 false)
def r19_check_L0 (n : Nat) (d_ : Desc) (self_ : Desc → Int → Option Int) (b0 : Int) : Nat → Nat → Option Int
  | 0, _ => none
  | m1 + 1, a0 =>
  if a0 < ((d_.Kids).length) then
   (d_.Kids[a0]?).bind fun d0 =>
   (self_ d0 b0).bind fun c0 =>
   if c0 ≠ 0 then
    some c0
   else
    r19_check_L0 n d_ self_ b0 m1 (a0 + 1)
  else
   some 0
def r19_check : Nat → Desc → Int → Option Int
  | 0, _, _ => none
  | n + 1, d_, level_ =>
  jn (fun (e0 : Bool) =>
   if e0 = true then
    some 7
   else
    jn (fun (d0 : Bool) =>
     if d0 = true then
      some 14
     else
      (r19_formed n d_).bind fun c0 =>
      if (!(c0)) = true then
       some 1
      else
       chk (-9223372036854775808 ≤ level_ + 1 ∧ level_ + 1 ≤ 9223372036854775807) (
       jn (fun (b0 : Int) =>
        r19_check_L0 n d_ (r19_check n) b0 n 0)
         (fun a0 =>
         if d_.Op = 4 then
          a0 level_
         else
          a0 (level_ + 1))))
      (fun k9 =>
      if d_.Op < 1 then
       k9 true
      else
       k9 (decide ((8 : Int) < d_.Op))))
    (fun k3 =>
    if (64 : Int) < level_ then
     k3 true
    else
     if (64 : Nat) < ((d_.Path).length) then
      k3 true
     else
      k3 (decide ((256 : Nat) < ((d_.Kids).length))))
def r19_Check (n : Nat) (d_ : Desc) : Option Int :=
 (r19_check n d_ 1).bind fun r3 =>
 some r3
def r21_defError_L0 (n : Nat) (x_ : Def) : Nat → Int → Nat → Option Int
  | 0, _, _ => none
  | m1 + 1, b0, a0 =>
  jn (fun (e0 : Bool) =>
   if e0 = true then
    (x_.Defaults[a0]?).bind fun g0 =>
    (r19_Check n g0).bind fun d0 =>
    chk (a0 + 1 ≤ 9223372036854775807) (
    r21_defError_L0 n x_ m1 d0 (a0 + 1))
   else
    some b0)
    (fun c0 =>
    if a0 < ((x_.Defaults).length) then
     c0 (decide (b0 = 0))
    else
     c0 false)
def r21_defError (n : Nat) (x_ : Def) : Option Int :=
 (r01_Name n x_.Name).bind fun r3 =>
 if (!(r3)) = true then
  some 1
 else
  if (256 : Nat) < ((x_.Defaults).length) then
   some 7
  else
   (r19_Check n x_.Strict).bind fun a0 =>
   r21_defError_L0 n x_ n a0 0
def r21_defsError_L0 (n : Nat) (l_ : (List Def)) : Nat → Nat → Option Int
  | 0, _ => none
  | m1 + 1, a0 =>
  if a0 < ((l_).length) then
   (l_[a0]?).bind fun x5 =>
   (r21_defError n x5).bind fun r7 =>
   if r7 ≠ 0 then
    some r7
   else
    r21_defsError_L0 n l_ m1 (a0 + 1)
  else
   some 0
def r21_defsError (n : Nat) (l_ : (List Def)) : Option Int :=
 r21_defsError_L0 n l_ n 0
def r01_Word_L0 (n : Nat) (s_ : LB) : Nat → Nat → Option Bool
  | 0, _ => none
  | m1 + 1, b0 =>
  if b0 < ((s_).length) then
   jn (fun (d0 : Bool) =>
    if d0 = true then
     some false
    else
     r01_Word_L0 n s_ m1 (b0 + 1))
     (fun k8 =>
     (s_[b0]?).bind fun a0 =>
     if a0.toNat < 33 then
      k8 true
     else
      if (126 : Nat) < a0.toNat then
       k8 true
      else
       (r01_upper n a0).bind fun c0 =>
       if c0 = true then
        k8 true
       else
        if a0.toNat = 34 then
         k8 true
        else
         k8 (decide (a0.toNat = 92)))
  else
   some true
def r01_Word (n : Nat) (s_ : LB) : Option Bool :=
 jn (fun (a0 : Bool) =>
  if a0 = true then
   some false
  else
   r01_Word_L0 n s_ n 0)
   (fun k1 =>
   if ((s_).length) < 1 then
    k1 true
   else
    k1 (decide ((32 : Nat) < ((s_).length))))
def r21_entriesError_L1 (n : Nat) (x5 : EntryDecl) (b0 : Option Int) : Nat → Nat → Option Int
  | 0, _ => none
  | m2 + 1, a0 =>
  if a0 < ((x5.Words).length) then
   (x5.Words[a0]?).bind fun d0 =>
   (r01_Word n d0).bind fun c0 =>
   if (!(c0)) = true then
    some 1
   else
    r21_entriesError_L1 n x5 b0 m2 (a0 + 1)
  else
   b0
def r21_entriesError_L0 (n : Nat) (l_ : (List EntryDecl)) : Nat → Nat → Option Int
  | 0, _ => none
  | m1 + 1, a0 =>
  if a0 < ((l_).length) then
   (l_[a0]?).bind fun x5 =>
   if ((x5.Words).length) = 0 then
    some 1
   else
    jn (
     (r21_defError n x5.Def).bind fun b0 =>
     if b0 ≠ 0 then
      some b0
     else
      r21_entriesError_L0 n l_ m1 (a0 + 1))
      (fun c0 =>
      r21_entriesError_L1 n x5 c0 n 0)
  else
   some 0
def r21_entriesError (n : Nat) (l_ : (List EntryDecl)) : Option Int :=
 r21_entriesError_L0 n l_ n 0
def r21_quotable_L0 (n : Nat) (s_ : LB) : Nat → Nat → Option Bool
  | 0, _ => none
  | m1 + 1, a0 =>
  if a0 < ((s_).length) then
   jn (fun (b0 : Bool) =>
    if b0 = true then
     some false
    else
     r21_quotable_L0 n s_ m1 (a0 + 1))
     (fun k4 =>
     (s_[a0]?).bind fun c6 =>
     if c6.toNat < 32 then
      k4 true
     else
      if (126 : Nat) < c6.toNat then
       k4 true
      else
       k4 (decide (c6.toNat = 34)))
  else
   some true
def r21_quotable (n : Nat) (s_ : LB) : Option Bool :=
 r21_quotable_L0 n s_ n 0
def r21_affixError_L0 (n : Nat) (a_ : Affix) : Nat → Nat → Option Int
  | 0, _ => none
  | m1 + 1, a0 =>
  if a0 < ((a_.Pairs).length) then
   jn (fun (g0 : Bool) =>
    if g0 = true then
     some 1
    else
     r21_affixError_L0 n a_ m1 (a0 + 1))
     (fun b0 =>
     (a_.Pairs[a0]?).bind fun c0 =>
     (r21_quotable n c0.Old).bind fun d0 =>
     if (!(d0)) = true then
      b0 true
     else
      (r21_quotable n c0.New).bind fun e0 =>
      b0 (!(e0)))
  else
   some 0
def r21_affixError (n : Nat) (a_ : Affix) : Option Int :=
 jn (fun (a0 : Bool) =>
  if a0 = true then
   some 14
  else
   if (!((decide (a_.Kind = 0)) == (decide (((a_.Pairs).length) = 0)))) = true then
    some 1
   else
    r21_affixError_L0 n a_ n 0)
   (fun k3 =>
   if a_.Kind ≠ 0 then
    if a_.Kind ≠ 1 then
     k3 (decide (a_.Kind ≠ 2))
    else
     k3 false
   else
    k3 false)
def r21_lexError_L0 (n : Nat) (l_ : (List LexDecl)) : Nat → Nat → Option Int
  | 0, _ => none
  | m1 + 1, a0 =>
  if a0 < ((l_).length) then
   (l_[a0]?).bind fun x5 =>
   (r21_affixError n x5.Affix).bind fun r7 =>
   jn (fun (b0 : Int) =>
    if b0 ≠ 0 then
     some b0
    else
     r21_lexError_L0 n l_ m1 (a0 + 1))
     (fun c0 =>
     if r7 = 0 then
      (r21_defError n x5.Def).bind fun d0 =>
      c0 d0
     else
      c0 r7)
  else
   some 0
def r21_lexError (n : Nat) (l_ : (List LexDecl)) : Option Int :=
 r21_lexError_L0 n l_ n 0
def r21_checksError_L0 (n : Nat) (l_ : (List LL)) : Nat → Nat → Option Int
  | 0, _ => none
  | m1 + 1, a0 =>
  if a0 < ((l_).length) then
   (l_[a0]?).bind fun x5 =>
   if ((x5).length) = 0 then
    some 1
   else
    if (64 : Nat) < ((x5).length) then
     some 7
    else
     (r21_allNames n x5 true).bind fun b0 =>
     if (!(b0)) = true then
      some 1
     else
      r21_checksError_L0 n l_ m1 (a0 + 1)
  else
   some 0
def r21_checksError (n : Nat) (l_ : (List LL)) : Option Int :=
 r21_checksError_L0 n l_ n 0
def r21_moduleError (n : Nat) (m_ : Module) : Option Int :=
 (r01_Name n m_.Name).bind fun r3 =>
 if (!(r3)) = true then
  some 1
 else
  (r21_long n m_).bind fun r9 =>
  if r9 = true then
   some 7
  else
   (r21_allNames n m_.Imports false).bind fun c0 =>
   if (!(c0)) = true then
    some 1
   else
    (r21_typesError n m_.Types).bind fun d0 =>
    (r21_defsError n m_.Templates).bind fun e0 =>
    (r21_entriesError n m_.Entries).bind fun g0 =>
    (r21_lexError n m_.LexRules).bind fun h0 =>
    (r21_defsError n m_.Rules).bind fun i0 =>
    (r21_defsError n m_.Roots).bind fun j0 =>
    (r21_checksError n m_.Checks).bind fun k0 =>
    (r21_first n [d0, e0, g0, h0, i0, j0, k0]).bind fun b0 =>
    jn (fun (m0 : Bool) =>
     if m0 = true then
      some 1
     else
      some b0)
      (fun a0 =>
      if b0 = 0 then
       (r21_allNames n m_.Drops true).bind fun l0 =>
       a0 (!(l0))
      else
       a0 false)
def r21_joined_L0 (n : Nat) (l_ : LL) (between_ : LB) : Nat → LB → Nat → Option LB
  | 0, _, _ => none
  | m1 + 1, b0, a0 =>
  if a0 < ((l_).length) then
   jn (fun (c0 : LB) =>
    (l_[a0]?).bind fun d0 =>
    chk ((c0).length + (d0).length ≤ 9223372036854775807) (
    r21_joined_L0 n l_ between_ m1 (c0 ++ d0) (a0 + 1)))
     (fun k5 =>
     if (0 : Nat) < a0 then
      chk ((b0).length + (between_).length ≤ 9223372036854775807) (
      k5 (b0 ++ between_))
     else
      k5 b0)
  else
   some b0
def r21_joined (n : Nat) (l_ : LL) (between_ : LB) : Option LB :=
 r21_joined_L0 n l_ between_ n [] 0
def r21_typed_L0 (n : Nat) (x_ : TypeDecl) : Nat → LB → Nat → Option LB
  | 0, _, _ => none
  | m1 + 1, a0, c0 =>
  if c0 < ((x_.Feats).length) then
   jn (fun (d0 : LB) =>
    (x_.Feats[c0]?).bind fun b0 =>
    chk ((d0).length + (b0.Feat).length ≤ 9223372036854775807) (
    chk ((d0 ++ b0.Feat).length + ([32]).length ≤ 9223372036854775807) (
    chk (((d0 ++ b0.Feat) ++ [32]).length + (b0.Value).length ≤ 9223372036854775807) (
    r21_typed_L0 n x_ m1 (((d0 ++ b0.Feat) ++ [32]) ++ b0.Value) (c0 + 1)))))
     (fun e0 =>
     if c0 = 0 then
      chk ((a0).length + ([32, 58, 32]).length ≤ 9223372036854775807) (
      e0 (a0 ++ [32, 58, 32]))
     else
      chk ((a0).length + ([44, 32]).length ≤ 9223372036854775807) (
      e0 (a0 ++ [44, 32])))
  else
   chk ((a0).length + ([59, 10]).length ≤ 9223372036854775807) (
   some (a0 ++ [59, 10]))
def r21_typed (n : Nat) (x_ : TypeDecl) : Option LB :=
 chk (([116, 121, 112, 101, 32]).length + (x_.Name).length ≤ 9223372036854775807) (
 jn (fun (a0 : LB) =>
  r21_typed_L0 n x_ n a0 0)
   (fun k4 =>
   if (0 : Nat) < ((x_.Supers).length) then
    chk (([116, 121, 112, 101, 32] ++ x_.Name).length + ([32, 60, 32]).length ≤ 9223372036854775807) (
    (r21_joined n x_.Supers [44, 32]).bind fun r9 =>
    chk ((([116, 121, 112, 101, 32] ++ x_.Name) ++ [32, 60, 32]).length + (r9).length ≤ 9223372036854775807) (
    k4 ((([116, 121, 112, 101, 32] ++ x_.Name) ++ [32, 60, 32]) ++ r9)))
   else
    k4 ([116, 121, 112, 101, 32] ++ x_.Name)))
def r19_joined_L0 (n : Nat) (l_ : (List Desc)) (between_ : LB) (last_ : LB) (via_ : Desc → Option LB) : Nat → LB → Nat → Option LB
  | 0, _, _ => none
  | m1 + 1, b0, a0 =>
  if a0 < ((l_).length) then
   jn (fun (d0 : LB) =>
    (l_[a0]?).bind fun g0 =>
    (via_ g0).bind fun c0 =>
    chk ((d0).length + (c0).length ≤ 9223372036854775807) (
    r19_joined_L0 n l_ between_ last_ via_ m1 (d0 ++ c0) (a0 + 1)))
     (fun k5 =>
     jn (fun (e0 : Bool) =>
      if e0 = true then
       chk ((b0).length + (last_).length ≤ 9223372036854775807) (
       k5 (b0 ++ last_))
      else
       if (0 : Nat) < a0 then
        chk ((b0).length + (between_).length ≤ 9223372036854775807) (
        k5 (b0 ++ between_))
       else
        k5 b0)
       (fun k7 =>
       if (0 : Nat) < a0 then
        k7 (decide (((a0 : Nat) : Int) = ((((l_).length : Nat) : Int) - 1)))
       else
        k7 false))
  else
   some b0
def r19_joined (n : Nat) (via_ : Desc → Option LB) (l_ : (List Desc)) (between_ : LB) (last_ : LB) : Option LB :=
 r19_joined_L0 n l_ between_ last_ via_ n [] 0
def r19_written_L0 (n : Nat) (t_ : Desc) (c0 : LB → Option LB) : Nat → LB → Nat → Option LB
  | 0, _, _ => none
  | m1 + 1, a0, b0 =>
  if b0 < ((t_.Path).length) then
   chk ((a0).length + ([46]).length ≤ 9223372036854775807) (
   (t_.Path[b0]?).bind fun d0 =>
   chk ((a0 ++ [46]).length + (d0).length ≤ 9223372036854775807) (
   r19_written_L0 n t_ c0 m1 ((a0 ++ [46]) ++ d0) (b0 + 1)))
  else
   c0 a0
def r19_written : Nat → Desc → Option LB
  | 0, _ => none
  | n + 1, t_ =>
  if t_.Op = 1 then
   some t_.Name
  else
   if t_.Op = 2 then
    chk (([64]).length + (t_.Name).length ≤ 9223372036854775807) (
    some ([64] ++ t_.Name))
   else
    if t_.Op = 3 then
     chk (([35]).length + (t_.Name).length ≤ 9223372036854775807) (
     some ([35] ++ t_.Name))
    else
     if t_.Op = 4 then
      (r19_joined n (r19_written n) t_.Kids [32, 38, 32] [32, 38, 32]).bind fun r9 =>
      some r9
     else
      if t_.Op = 5 then
       (t_.Path[0]?).bind fun g0 =>
       chk (([91]).length + (g0).length ≤ 9223372036854775807) (
       jn (fun (a0 : LB) =>
        chk ((a0).length + ([32]).length ≤ 9223372036854775807) (
        (t_.Kids[0]?).bind fun i0 =>
        ((r19_written n) i0).bind fun b0 =>
        chk ((a0 ++ [32]).length + (b0).length ≤ 9223372036854775807) (
        chk (((a0 ++ [32]) ++ b0).length + ([93]).length ≤ 9223372036854775807) (
        some (((a0 ++ [32]) ++ b0) ++ [93])))))
         (fun h0 =>
         r19_written_L0 n t_ h0 n ([91] ++ g0) 1))
      else
       if t_.Op = 6 then
        (r19_joined n (r19_written n) t_.Kids [44, 32] [44, 32]).bind fun c0 =>
        chk (([60]).length + (c0).length ≤ 9223372036854775807) (
        chk (([60] ++ c0).length + ([62]).length ≤ 9223372036854775807) (
        some (([60] ++ c0) ++ [62])))
       else
        if t_.Op = 7 then
         (r19_joined n (r19_written n) t_.Kids [44, 32] [32, 124, 32]).bind fun d0 =>
         chk (([60]).length + (d0).length ≤ 9223372036854775807) (
         chk (([60] ++ d0).length + ([62]).length ≤ 9223372036854775807) (
         some (([60] ++ d0) ++ [62])))
        else
         if ((t_.Kids).length) = 0 then
          some [60, 33, 32, 33, 62]
         else
          (r19_joined n (r19_written n) t_.Kids [44, 32] [44, 32]).bind fun e0 =>
          chk (([60, 33, 32]).length + (e0).length ≤ 9223372036854775807) (
          chk (([60, 33, 32] ++ e0).length + ([32, 33, 62]).length ≤ 9223372036854775807) (
          some (([60, 33, 32] ++ e0) ++ [32, 33, 62])))
def r19_Print (n : Nat) (d_ : Desc) : Option (LB × Int) :=
 (r19_Check n d_).bind fun r3 =>
 if r3 ≠ 0 then
  some ([], r3)
 else
  (r19_written n d_).bind fun r9 =>
  if (65536 : Nat) < ((r9).length) then
   some ([], 7)
  else
   some (r9, 0)
def r21_defined_L0 (n : Nat) (x_ : Def) : Nat → LB → Nat → Option LB
  | 0, _, _ => none
  | m1 + 1, a0, b0 =>
  if b0 < ((x_.Defaults).length) then
   (x_.Defaults[b0]?).bind fun d0 =>
   (r19_Print n d0).bind fun c0 =>
   chk ((a0).length + ([32, 47, 32]).length ≤ 9223372036854775807) (
   chk ((a0 ++ [32, 47, 32]).length + (c0.1).length ≤ 9223372036854775807) (
   r21_defined_L0 n x_ m1 ((a0 ++ [32, 47, 32]) ++ c0.1) (b0 + 1)))
  else
   chk ((a0).length + ([59, 10]).length ≤ 9223372036854775807) (
   some (a0 ++ [59, 10]))
def r21_defined (n : Nat) (x_ : Def) : Option LB :=
 (r19_Print n x_.Strict).bind fun r3 =>
 chk (([32, 61, 32]).length + (r3.1).length ≤ 9223372036854775807) (
 r21_defined_L0 n x_ n ([32, 61, 32] ++ r3.1) 0)
def r21_defs_L0 (n : Nat) (what_ : LB) (l_ : (List Def)) : Nat → LB → Nat → Option LB
  | 0, _, _ => none
  | m1 + 1, a0, b0 =>
  if b0 < ((l_).length) then
   chk ((a0).length + (what_).length ≤ 9223372036854775807) (
   (l_[b0]?).bind fun x7 =>
   chk ((a0 ++ what_).length + (x7.Name).length ≤ 9223372036854775807) (
   (r21_defined n x7).bind fun c0 =>
   chk (((a0 ++ what_) ++ x7.Name).length + (c0).length ≤ 9223372036854775807) (
   r21_defs_L0 n what_ l_ m1 (((a0 ++ what_) ++ x7.Name) ++ c0) (b0 + 1))))
  else
   some a0
def r21_defs (n : Nat) (what_ : LB) (l_ : (List Def)) : Option LB :=
 r21_defs_L0 n what_ l_ n [] 0
def r21_affixed_L0 (n : Nat) (a_ : Affix) : Nat → LB → Nat → Option LB
  | 0, _, _ => none
  | m1 + 1, d0, c0 =>
  if c0 < ((a_.Pairs).length) then
   jn (fun (b0 : LB) =>
    chk ((b0).length + ([32, 34]).length ≤ 9223372036854775807) (
    (a_.Pairs[c0]?).bind fun a0 =>
    chk ((b0 ++ [32, 34]).length + (a0.Old).length ≤ 9223372036854775807) (
    chk (((b0 ++ [32, 34]) ++ a0.Old).length + ([34, 32, 34]).length ≤ 9223372036854775807) (
    chk ((((b0 ++ [32, 34]) ++ a0.Old) ++ [34, 32, 34]).length + (a0.New).length ≤ 9223372036854775807) (
    chk (((((b0 ++ [32, 34]) ++ a0.Old) ++ [34, 32, 34]) ++ a0.New).length + ([34]).length ≤ 9223372036854775807) (
    r21_affixed_L0 n a_ m1 (((((b0 ++ [32, 34]) ++ a0.Old) ++ [34, 32, 34]) ++ a0.New) ++ [34]) (c0 + 1)))))))
     (fun e0 =>
     if (0 : Nat) < c0 then
      chk ((d0).length + ([44]).length ≤ 9223372036854775807) (
      e0 (d0 ++ [44]))
     else
      e0 d0)
  else
   some d0
def r21_affixed (n : Nat) (a_ : Affix) : Option LB :=
 jn (fun (a0 : LB) =>
  r21_affixed_L0 n a_ n a0 0)
   (fun k3 =>
   if a_.Kind = 0 then
    some [110, 111, 110, 101]
   else
    if a_.Kind = 1 then
     k3 [115, 117, 102, 102, 105, 120]
    else
     k3 [112, 114, 101, 102, 105, 120])
def r21_module_L0 (n : Nat) (t_ : Module) (k5 : LB → Option LB) : Nat → LB → Nat → Option LB
  | 0, _, _ => none
  | m1 + 1, a0, b0 =>
  if b0 < ((t_.Imports).length) then
   chk ((a0).length + ([105, 109, 112, 111, 114, 116, 32]).length ≤ 9223372036854775807) (
   (t_.Imports[b0]?).bind fun c0 =>
   chk ((a0 ++ [105, 109, 112, 111, 114, 116, 32]).length + (c0).length ≤ 9223372036854775807) (
   chk (((a0 ++ [105, 109, 112, 111, 114, 116, 32]) ++ c0).length + ([59, 10]).length ≤ 9223372036854775807) (
   r21_module_L0 n t_ k5 m1 (((a0 ++ [105, 109, 112, 111, 114, 116, 32]) ++ c0) ++ [59, 10]) (b0 + 1))))
  else
   k5 a0
def r21_module_L1 (n : Nat) (t_ : Module) (c0 : LB → Option LB) : Nat → LB → Nat → Option LB
  | 0, _, _ => none
  | m2 + 1, a0, b0 =>
  if b0 < ((t_.Types).length) then
   (t_.Types[b0]?).bind fun e0 =>
   (r21_typed n e0).bind fun d0 =>
   chk ((a0).length + (d0).length ≤ 9223372036854775807) (
   r21_module_L1 n t_ c0 m2 (a0 ++ d0) (b0 + 1))
  else
   c0 a0
def r21_module_L2 (n : Nat) (t_ : Module) (e0 : LB → Option LB) : Nat → LB → Nat → Option LB
  | 0, _, _ => none
  | m3 + 1, a0, d0 =>
  if d0 < ((t_.Entries).length) then
   chk ((a0).length + ([101, 110, 116, 114, 121, 32]).length ≤ 9223372036854775807) (
   (t_.Entries[d0]?).bind fun b0 =>
   chk ((a0 ++ [101, 110, 116, 114, 121, 32]).length + (b0.Def.Name).length ≤ 9223372036854775807) (
   chk (((a0 ++ [101, 110, 116, 114, 121, 32]) ++ b0.Def.Name).length + ([32, 34]).length ≤ 9223372036854775807) (
   (r21_joined n b0.Words [32]).bind fun c0 =>
   chk ((((a0 ++ [101, 110, 116, 114, 121, 32]) ++ b0.Def.Name) ++ [32, 34]).length + (c0).length ≤ 9223372036854775807) (
   chk (((((a0 ++ [101, 110, 116, 114, 121, 32]) ++ b0.Def.Name) ++ [32, 34]) ++ c0).length + ([34]).length ≤ 9223372036854775807) (
   (r21_defined n b0.Def).bind fun g0 =>
   chk ((((((a0 ++ [101, 110, 116, 114, 121, 32]) ++ b0.Def.Name) ++ [32, 34]) ++ c0) ++ [34]).length + (g0).length ≤ 9223372036854775807) (
   r21_module_L2 n t_ e0 m3 ((((((a0 ++ [101, 110, 116, 114, 121, 32]) ++ b0.Def.Name) ++ [32, 34]) ++ c0) ++ [34]) ++ g0) (d0 + 1)))))))
  else
   e0 a0
def r21_module_L3 (n : Nat) (t_ : Module) (e0 : LB → Option LB) : Nat → LB → Nat → Option LB
  | 0, _, _ => none
  | m4 + 1, a0, d0 =>
  if d0 < ((t_.LexRules).length) then
   chk ((a0).length + ([108, 101, 120, 114, 117, 108, 101, 32]).length ≤ 9223372036854775807) (
   (t_.LexRules[d0]?).bind fun b0 =>
   chk ((a0 ++ [108, 101, 120, 114, 117, 108, 101, 32]).length + (b0.Def.Name).length ≤ 9223372036854775807) (
   chk (((a0 ++ [108, 101, 120, 114, 117, 108, 101, 32]) ++ b0.Def.Name).length + ([32]).length ≤ 9223372036854775807) (
   (r21_affixed n b0.Affix).bind fun c0 =>
   chk ((((a0 ++ [108, 101, 120, 114, 117, 108, 101, 32]) ++ b0.Def.Name) ++ [32]).length + (c0).length ≤ 9223372036854775807) (
   (r21_defined n b0.Def).bind fun g0 =>
   chk (((((a0 ++ [108, 101, 120, 114, 117, 108, 101, 32]) ++ b0.Def.Name) ++ [32]) ++ c0).length + (g0).length ≤ 9223372036854775807) (
   r21_module_L3 n t_ e0 m4 (((((a0 ++ [108, 101, 120, 114, 117, 108, 101, 32]) ++ b0.Def.Name) ++ [32]) ++ c0) ++ g0) (d0 + 1))))))
  else
   e0 a0
def r21_module_L4 (n : Nat) (t_ : Module) (d0 : LB → Option LB) : Nat → LB → Nat → Option LB
  | 0, _, _ => none
  | m5 + 1, a0, c0 =>
  if c0 < ((t_.Checks).length) then
   chk ((a0).length + ([99, 104, 101, 99, 107, 32]).length ≤ 9223372036854775807) (
   (t_.Checks[c0]?).bind fun e0 =>
   (r21_joined n e0 [46]).bind fun b0 =>
   chk ((a0 ++ [99, 104, 101, 99, 107, 32]).length + (b0).length ≤ 9223372036854775807) (
   chk (((a0 ++ [99, 104, 101, 99, 107, 32]) ++ b0).length + ([59, 10]).length ≤ 9223372036854775807) (
   r21_module_L4 n t_ d0 m5 (((a0 ++ [99, 104, 101, 99, 107, 32]) ++ b0) ++ [59, 10]) (c0 + 1))))
  else
   d0 a0
def r21_module_L5 (n : Nat) (t_ : Module) : Nat → LB → Nat → Option LB
  | 0, _, _ => none
  | m6 + 1, a0, b0 =>
  if b0 < ((t_.Drops).length) then
   chk ((a0).length + ([100, 114, 111, 112, 32]).length ≤ 9223372036854775807) (
   (t_.Drops[b0]?).bind fun c0 =>
   chk ((a0 ++ [100, 114, 111, 112, 32]).length + (c0).length ≤ 9223372036854775807) (
   chk (((a0 ++ [100, 114, 111, 112, 32]) ++ c0).length + ([59, 10]).length ≤ 9223372036854775807) (
   r21_module_L5 n t_ m6 (((a0 ++ [100, 114, 111, 112, 32]) ++ c0) ++ [59, 10]) (b0 + 1))))
  else
   some a0
def r21_module (n : Nat) (t_ : Module) : Option LB :=
 chk (([109, 111, 100, 117, 108, 101, 32]).length + (t_.Name).length ≤ 9223372036854775807) (
 chk (([109, 111, 100, 117, 108, 101, 32] ++ t_.Name).length + ([59, 10]).length ≤ 9223372036854775807) (
 jn (fun (m0 : LB) =>
  jn (fun (e0 : LB) =>
   (r21_defs n [116, 101, 109, 112, 108, 97, 116, 101, 32] t_.Templates).bind fun d0 =>
   chk ((e0).length + (d0).length ≤ 9223372036854775807) (
   jn (fun (l0 : LB) =>
    jn (fun (b0 : LB) =>
     (r21_defs n [114, 117, 108, 101, 32] t_.Rules).bind fun a0 =>
     chk ((b0).length + (a0).length ≤ 9223372036854775807) (
     (r21_defs n [114, 111, 111, 116, 32] t_.Roots).bind fun c0 =>
     chk ((b0 ++ a0).length + (c0).length ≤ 9223372036854775807) (
     jn (fun (k0 : LB) =>
      r21_module_L5 n t_ n k0 0)
       (fun g0 =>
       r21_module_L4 n t_ g0 n ((b0 ++ a0) ++ c0) 0))))
      (fun j0 =>
      r21_module_L3 n t_ j0 n l0 0))
     (fun i0 =>
     r21_module_L2 n t_ i0 n (e0 ++ d0) 0)))
    (fun h0 =>
    r21_module_L1 n t_ h0 n m0 0))
   (fun k5 =>
   r21_module_L0 n t_ k5 n (([109, 111, 100, 117, 108, 101, 32] ++ t_.Name) ++ [59, 10]) 0)))
def r21_Print_L0 (n : Nat) (l_ : (List Module)) (k3 : Option (LB × Int)) : Nat → Nat → Option (LB × Int)
  | 0, _ => none
  | m1 + 1, a0 =>
  if a0 < ((l_).length) then
   (l_[a0]?).bind fun x8 =>
   (r21_moduleError n x8).bind fun b0 =>
   if b0 ≠ 0 then
    some ([], b0)
   else
    r21_Print_L0 n l_ k3 m1 (a0 + 1)
  else
   k3
def r21_Print_L1 (n : Nat) (l_ : (List Module)) (c0 : LB → Option (LB × Int)) : Nat → LB → Nat → Option (LB × Int)
  | 0, _, _ => none
  | m2 + 1, b0, a0 =>
  if a0 < ((l_).length) then
   (l_[a0]?).bind fun e0 =>
   (r21_module n e0).bind fun d0 =>
   chk ((b0).length + (d0).length ≤ 9223372036854775807) (
   r21_Print_L1 n l_ c0 m2 (b0 ++ d0) (a0 + 1))
  else
   c0 b0
def r21_Print (n : Nat) (l_ : (List Module)) : Option (LB × Int) :=
 if (256 : Nat) < ((l_).length) then
  some ([], 7)
 else
  jn (
   jn (fun (a0 : LB) =>
    if (65536 : Nat) < ((a0).length) then
     some ([], 7)
    else
     some (a0, 0))
     (fun b0 =>
     r21_Print_L1 n l_ b0 n [] 0))
    (fun k3 =>
    r21_Print_L0 n l_ k3 n 0)
def law22_light_L0 (n : Nat) (t_ : (List Module)) (c0 : Int → Option Bool) : Nat → Int → Nat → Option Bool
  | 0, _, _ => none
  | m1 + 1, d0, b0 =>
  if b0 < ((t_).length) then
   (t_[b0]?).bind fun a0 =>
   law22_light_L0 n t_ c0 m1 (IntKind.i64.wrap ((IntKind.i64.wrap ((IntKind.i64.wrap ((IntKind.i64.wrap ((IntKind.i64.wrap ((IntKind.i64.wrap ((IntKind.i64.wrap (d0 + (((a0.Types).length : Nat) : Int))) + (((a0.Templates).length : Nat) : Int))) + (((a0.Entries).length : Nat) : Int))) + (((a0.LexRules).length : Nat) : Int))) + (((a0.Rules).length : Nat) : Int))) + (((a0.Roots).length : Nat) : Int))) + (((a0.Imports).length : Nat) : Int))) (b0 + 1)
  else
   c0 d0
def law22_light (n : Nat) (t_ : (List Module)) : Option Bool :=
 jn (fun (d0 : Bool) =>
  if d0 = true then
   some false
  else
   jn (fun (c0 : Int) =>
    (r21_Print n t_).bind fun b0 =>
    if c0 ≤ 40 then
     some (decide (b0.2 = 0))
    else
     some false)
     (fun a0 =>
     law22_light_L0 n t_ a0 n 0 0))
   (fun k1 =>
   if (6 : Nat) < ((t_).length) then
    k1 true
   else
    (r21_Light n t_).bind fun r5 =>
    k1 (!(r5)))
def slices_IndexFunc_Module_L0 (n : Nat) (s_ : (List Module)) (f_ : (Module → Option Bool)) : Nat → Nat → Option Int
  | 0, _ => none
  | m1 + 1, a0 =>
  if a0 < ((s_).length) then
   (s_[a0]?).bind fun x5 =>
   (f_ x5).bind fun r7 =>
   if r7 = true then
    some ((a0 : Nat) : Int)
   else
    slices_IndexFunc_Module_L0 n s_ f_ m1 (a0 + 1)
  else
   some (-1)
def slices_IndexFunc_Module (n : Nat) (s_ : (List Module)) (f_ : (Module → Option Bool)) : Option Int :=
 slices_IndexFunc_Module_L0 n s_ f_ n 0
def module_find_1 (n : Nat) (m_ : Module) (a0 : LB) : Option Bool :=
 some (decide ((m_.Name : List UInt8) = a0))
def module_find (n : Nat) (l_ : (List Module)) (name_ : LB) : Option (Module × Bool) :=
 (slices_IndexFunc_Module n l_ (fun p => module_find_1 n p name_)).bind fun r5 =>
 if r5 < 0 then
  some ((Module.mk [] [] [] [] [] [] [] [] [] []), false)
 else
  (ix l_ r5).bind fun a0 =>
  some (a0, true)
def slices_Index_string_L0 (n : Nat) (s_ : LL) (v_ : LB) : Nat → Nat → Option Int
  | 0, _ => none
  | m1 + 1, a0 =>
  if a0 < ((s_).length) then
   (s_[a0]?).bind fun x5 =>
   if (v_ : List UInt8) = x5 then
    some ((a0 : Nat) : Int)
   else
    slices_Index_string_L0 n s_ v_ m1 (a0 + 1)
  else
   some (-1)
def slices_Index_string (n : Nat) (s_ : LL) (v_ : LB) : Option Int :=
 slices_Index_string_L0 n s_ v_ n 0
def slices_Contains_string (n : Nat) (s_ : LL) (v_ : LB) : Option Bool :=
 (slices_Index_string n s_ v_).bind fun r1 =>
 some (decide ((0 : Int) ≤ r1))
def module_needs_L1 (n : Nat) (t_ : (List Module)) (e0 : LL → Option LL) (b0 : (Module × Bool)) : Nat → LL → Nat → Option LL
  | 0, _, _ => none
  | m2 + 1, a0, c0 =>
  if c0 < ((b0.1.Imports).length) then
   (b0.1.Imports[c0]?).bind fun d0 =>
   (module_find n t_ d0).bind fun h0 =>
   jn (fun (j0 : Bool) =>
    if j0 = true then
     chk ((a0).length + ([d0]).length ≤ 137438953472) (
     module_needs_L1 n t_ e0 b0 m2 (a0 ++ [d0]) (c0 + 1))
    else
     module_needs_L1 n t_ e0 b0 m2 a0 (c0 + 1))
     (fun g0 =>
     if h0.2 = true then
      (slices_Contains_string n a0 d0).bind fun i0 =>
      g0 (!(i0))
     else
      g0 false)
  else
   e0 a0
def module_needs_L0 (n : Nat) (t_ : (List Module)) : Nat → LL → Nat → Option LL
  | 0, _, _ => none
  | m1 + 1, a0, b0 =>
  if b0 < ((a0).length) then
   jn (fun (e0 : LL) =>
    module_needs_L0 n t_ m1 e0 (b0 + 1))
     (fun c0 =>
     (a0[b0]?).bind fun g0 =>
     (module_find n t_ g0).bind fun d0 =>
     module_needs_L1 n t_ c0 d0 n a0 0)
  else
   some a0
def module_needs (n : Nat) (t_ : (List Module)) (t_' : LB) : Option LL :=
 (module_find n t_ t_').bind fun r1 =>
 if (!(r1.2)) = true then
  some []
 else
  module_needs_L0 n t_ n [t_'] 0
def module_check_L0 (n : Nat) (t_ : (List Module)) (k1 : Option Int) : Nat → Nat → Option Int
  | 0, _ => none
  | m1 + 1, a0 =>
  if a0 < ((t_).length) then
   jn (fun (c0 : Bool) =>
    if c0 = true then
     some 4
    else
     module_check_L0 n t_ k1 m1 (a0 + 1))
     (fun k5 =>
     chk (a0 ≤ (t_).length) (
     (t_[a0]?).bind fun x9 =>
     (module_find n ((t_).take a0) x9.Name).bind fun b0 =>
     k5 b0.2))
  else
   k1
def module_check_L2 (n : Nat) (t_ : (List Module)) (c0 : Option Int) (a0 : (Module × Bool)) : Nat → Nat → Option Int
  | 0, _ => none
  | m3 + 1, b0 =>
  if b0 < ((a0.1.Imports).length) then
   (a0.1.Imports[b0]?).bind fun e0 =>
   (module_find n t_ e0).bind fun d0 =>
   if (!(d0.2)) = true then
    some 5
   else
    module_check_L2 n t_ c0 a0 m3 (b0 + 1)
  else
   c0
def module_check_L1 (n : Nat) (t_ : (List Module)) (a0 : LL) (c0 : Option Int) : Nat → Nat → Option Int
  | 0, _ => none
  | m2 + 1, b0 =>
  if b0 < ((a0).length) then
   jn (
    module_check_L1 n t_ a0 c0 m2 (b0 + 1))
     (fun d0 =>
     (a0[b0]?).bind fun g0 =>
     (module_find n t_ g0).bind fun e0 =>
     module_check_L2 n t_ d0 e0 n 0)
  else
   c0
def module_check_L4 (n : Nat) (t_ : (List Module)) (c0 : Option Int) (d0 : LB) (a0 : (Module × Bool)) : Nat → Nat → Option Int
  | 0, _ => none
  | m5 + 1, b0 =>
  if b0 < ((a0.1.Imports).length) then
   (a0.1.Imports[b0]?).bind fun h0 =>
   (module_needs n t_ h0).bind fun e0 =>
   (slices_Contains_string n e0 d0).bind fun g0 =>
   if g0 = true then
    some 6
   else
    module_check_L4 n t_ c0 d0 a0 m5 (b0 + 1)
  else
   c0
def module_check_L3 (n : Nat) (t_ : (List Module)) (a0 : LL) : Nat → Nat → Option Int
  | 0, _ => none
  | m4 + 1, b0 =>
  if b0 < ((a0).length) then
   jn (
    module_check_L3 n t_ a0 m4 (b0 + 1))
     (fun d0 =>
     (a0[b0]?).bind fun c0 =>
     (module_find n t_ c0).bind fun e0 =>
     module_check_L4 n t_ d0 c0 e0 n 0)
  else
   some 0
def module_check (n : Nat) (t_ : (List Module)) (t_' : LB) : Option Int :=
 jn (
  (module_find n t_ t_').bind fun c0 =>
  if (!(c0.2)) = true then
   some 5
  else
   (module_needs n t_ t_').bind fun a0 =>
   jn (
    module_check_L3 n t_ a0 n 0)
     (fun b0 =>
     module_check_L1 n t_ a0 b0 n 0))
   (fun k1 =>
   module_check_L0 n t_ k1 n 0)
def module_Order_1_L0 (n : Nat) (d0 : (List Module)) (self_ : LB → (List (List UInt8 × Bool)) → (List Module) → LL → Option ((List (List UInt8 × Bool)) × LL)) (r4 : (Module × Bool)) (e0 : (List (List UInt8 × Bool)) → LL → Option ((List (List UInt8 × Bool)) × LL)) : Nat → Nat → (List (List UInt8 × Bool)) → LL → Option ((List (List UInt8 × Bool)) × LL)
  | 0, _, _, _ => none
  | m1 + 1, a0, b0, c0 =>
  if a0 < ((r4.1.Imports).length) then
   (r4.1.Imports[a0]?).bind fun h0 =>
   (self_ h0 b0 d0 c0).bind fun g0 =>
   module_Order_1_L0 n d0 self_ r4 e0 m1 (a0 + 1) g0.1 g0.2
  else
   e0 b0 c0
def module_Order_1 : Nat → LB → (List (List UInt8 × Bool)) → (List Module) → LL → Option ((List (List UInt8 × Bool)) × LL)
  | 0, _, _, _, _ => none
  | n + 1, name_, a0, c0, d0 =>
  if (!(((mget a0 name_).getD false))) = true then
   some (a0, d0)
  else
   (module_find n c0 name_).bind fun r4 =>
   jn (fun (e0 : (List (List UInt8 × Bool))) (b0 : LL) =>
    chk ((b0).length + ([name_]).length ≤ 137438953472) (
    some (e0, b0 ++ [name_])))
     (fun g0 =>
     module_Order_1_L0 n c0 (module_Order_1 n) r4 g0 n 0 (mdel (a0) (name_)) d0)
def module_Order_L0 (n : Nat) (a0 : LL) (c0 : (List (List UInt8 × Bool)) → Option (LL × Int)) : Nat → Nat → (List (List UInt8 × Bool)) → Option (LL × Int)
  | 0, _, _ => none
  | m1 + 1, b0, d0 =>
  if b0 < ((a0).length) then
   (a0[b0]?).bind fun e0 =>
   module_Order_L0 n a0 c0 m1 (b0 + 1) (mset (d0) (e0) (true))
  else
   c0 d0
def module_Order (n : Nat) (l_ : (List Module)) (main_ : LB) : Option (LL × Int) :=
 (module_check n l_ main_).bind fun r3 =>
 if r3 ≠ 0 then
  some ([], r3)
 else
  (module_needs n l_ main_).bind fun b0 =>
  jn (fun (d0 : (List (List UInt8 × Bool))) =>
   (module_Order_1 n main_ d0 l_ []).bind fun c0 =>
   some (c0.2, 0))
    (fun a0 =>
    module_Order_L0 n b0 a0 n 0 [])
def r01_Same_L0 (n : Nat) (a_ : LL) (b_ : LL) : Nat → Nat → Option Bool
  | 0, _ => none
  | m1 + 1, a0 =>
  if a0 < ((a_).length) then
   (a_[a0]?).bind fun x6 =>
   (b_[a0]?).bind fun x9 =>
   if (x6 : List UInt8) ≠ x9 then
    some false
   else
    r01_Same_L0 n a_ b_ m1 (a0 + 1)
  else
   some true
def r01_Same (n : Nat) (a_ : LL) (b_ : LL) : Option Bool :=
 if ((a_).length) ≠ ((b_).length) then
  some false
 else
  r01_Same_L0 n a_ b_ n 0
def hier_decl (n : Nat) (name_ : LB) (super_ : LB) (feats_ : (List FeatDecl)) : Option TypeDecl :=
 some (TypeDecl.mk name_ [super_] feats_)
def hier_Prelude (n : Nat)  : Option (List TypeDecl) :=
 (hier_decl n [108, 105, 115, 116] [116, 111, 112] []).bind fun r1 =>
 (hier_decl n [99, 111, 110, 115] [108, 105, 115, 116] [(FeatDecl.mk [70, 73, 82, 83, 84] [116, 111, 112]), (FeatDecl.mk [82, 69, 83, 84] [108, 105, 115, 116])]).bind fun r5 =>
 (hier_decl n [110, 117, 108, 108] [108, 105, 115, 116] []).bind fun r8 =>
 (hier_decl n [100, 108, 105, 115, 116] [116, 111, 112] [(FeatDecl.mk [76, 73, 83, 84] [108, 105, 115, 116]), (FeatDecl.mk [76, 65, 83, 84] [108, 105, 115, 116])]).bind fun a0 =>
 (hier_decl n [105, 110, 100, 101, 120] [116, 111, 112] []).bind fun b0 =>
 (hier_decl n [104, 97, 110, 100, 108, 101] [105, 110, 100, 101, 120] []).bind fun c0 =>
 (hier_decl n [101, 118, 101, 110, 116] [105, 110, 100, 101, 120] []).bind fun d0 =>
 (hier_decl n [101, 110, 116, 105, 116, 121] [105, 110, 100, 101, 120] []).bind fun e0 =>
 (hier_decl n [114, 101, 108] [116, 111, 112] [(FeatDecl.mk [76, 65, 66, 69, 76] [104, 97, 110, 100, 108, 101])]).bind fun g0 =>
 (hier_decl n [113, 101, 113] [116, 111, 112] [(FeatDecl.mk [72, 73, 71, 72] [104, 97, 110, 100, 108, 101]), (FeatDecl.mk [76, 79, 87] [104, 97, 110, 100, 108, 101])]).bind fun h0 =>
 (hier_decl n [115, 101, 109] [116, 111, 112] [(FeatDecl.mk [84, 79, 80] [104, 97, 110, 100, 108, 101]), (FeatDecl.mk [73, 78, 68, 69, 88] [105, 110, 100, 101, 120]), (FeatDecl.mk [82, 69, 76, 83] [100, 108, 105, 115, 116]), (FeatDecl.mk [67, 79, 78, 83] [100, 108, 105, 115, 116])]).bind fun i0 =>
 (hier_decl n [115, 105, 103, 110] [116, 111, 112] [(FeatDecl.mk [83, 69, 77] [115, 101, 109]), (FeatDecl.mk [65, 82, 71, 83] [108, 105, 115, 116])]).bind fun j0 =>
 some [(TypeDecl.mk [116, 111, 112] [] []), r1, r5, r8, a0, b0, c0, d0, e0, g0, h0, i0, j0]
def module_Visible_L0 (n : Nat) (r1 : (List TypeDecl)) (k6 : LL → Option LL) : Nat → LL → Nat → Option LL
  | 0, _, _ => none
  | m1 + 1, a0, b0 =>
  if b0 < ((r1).length) then
   (r1[b0]?).bind fun c0 =>
   chk ((a0).length + ([c0.Name]).length ≤ 137438953472) (
   module_Visible_L0 n r1 k6 m1 (a0 ++ [c0.Name]) (b0 + 1))
  else
   k6 a0
def module_Visible_L2 (n : Nat) (a0 : (Module × Bool)) (d0 : LL → Option LL) : Nat → LL → Nat → Option LL
  | 0, _, _ => none
  | m3 + 1, b0, c0 =>
  if c0 < ((a0.1.Types).length) then
   (a0.1.Types[c0]?).bind fun e0 =>
   chk ((b0).length + ([e0.Name]).length ≤ 137438953472) (
   module_Visible_L2 n a0 d0 m3 (b0 ++ [e0.Name]) (c0 + 1))
  else
   d0 b0
def module_Visible_L3 (n : Nat) (e0 : LL → Option LL) (a0 : (Module × Bool)) : Nat → LL → Nat → Option LL
  | 0, _, _ => none
  | m4 + 1, b0, c0 =>
  if c0 < ((a0.1.Templates).length) then
   (a0.1.Templates[c0]?).bind fun d0 =>
   chk (([64]).length + (d0.Name).length ≤ 9223372036854775807) (
   chk ((b0).length + ([[64] ++ d0.Name]).length ≤ 137438953472) (
   module_Visible_L3 n e0 a0 m4 (b0 ++ [[64] ++ d0.Name]) (c0 + 1)))
  else
   e0 b0
def module_Visible_L1 (n : Nat) (t_ : (List Module)) (a0 : LL) (c0 : LL → Option LL) : Nat → LL → Nat → Option LL
  | 0, _, _ => none
  | m2 + 1, e0, b0 =>
  if b0 < ((a0).length) then
   jn (fun (i0 : LL) =>
    module_Visible_L1 n t_ a0 c0 m2 i0 (b0 + 1))
     (fun g0 =>
     (a0[b0]?).bind fun k0 =>
     (module_find n t_ k0).bind fun d0 =>
     jn (fun (j0 : LL) =>
      module_Visible_L3 n g0 d0 n j0 0)
       (fun h0 =>
       module_Visible_L2 n d0 h0 n e0 0))
  else
   c0 e0
def module_Visible (n : Nat) (t_ : (List Module)) (t_' : LB) : Option LL :=
 (hier_Prelude n).bind fun r1 =>
 jn (fun (g0 : LL) =>
  (module_needs n t_ t_').bind fun d0 =>
  jn (fun (e0 : LL) =>
   (slices_Sort_string n e0).bind fun b0 =>
   (slices_Compact_string n b0).bind fun c0 =>
   some c0)
    (fun a0 =>
    module_Visible_L1 n t_ d0 a0 n g0 0))
   (fun k6 =>
   module_Visible_L0 n r1 k6 n [] 0)
def slices_Concat_TypeDecl_L0 (n : Nat) (slices_ : (List (List TypeDecl))) (k1 : Nat → Option (List TypeDecl)) : Nat → Nat → Nat → Option (List TypeDecl)
  | 0, _, _ => none
  | m1 + 1, a0, b0 =>
  if b0 < ((slices_).length) then
   (slices_[b0]?).bind fun x8 =>
   chk (a0 + (x8).length ≤ 9223372036854775807) (
   if (a0 + (x8).length) < 0 then
    none
   else
    slices_Concat_TypeDecl_L0 n slices_ k1 m1 (a0 + (x8).length) (b0 + 1))
  else
   k1 a0
def slices_Concat_TypeDecl_L1 (n : Nat) (slices_ : (List (List TypeDecl))) : Nat → (List TypeDecl) → Nat → Option (List TypeDecl)
  | 0, _, _ => none
  | m2 + 1, a0, b0 =>
  if b0 < ((slices_).length) then
   (slices_[b0]?).bind fun c0 =>
   chk ((a0).length + (c0).length ≤ 137438953472) (
   slices_Concat_TypeDecl_L1 n slices_ m2 (a0 ++ c0) (b0 + 1))
  else
   some a0
def slices_Concat_TypeDecl (n : Nat) (slices_ : (List (List TypeDecl))) : Option (List TypeDecl) :=
 jn (fun (b0 : Nat) =>
  (slices_Grow_TypeDecl n ((b0 : Nat) : Int)).bind fun a0 =>
  slices_Concat_TypeDecl_L1 n slices_ n a0 0)
   (fun k1 =>
   slices_Concat_TypeDecl_L0 n slices_ k1 n 0 0)
def slices_Clone_string (n : Nat) (s_ : LL) : Option LL :=
 chk ((s_).length ≤ 137438953472) (
 some s_)
def module_twice (n : Nat) (l_ : LL) : Option Bool :=
 (sortedValues n l_).bind fun r3 =>
 (slices_Clone_string n r3).bind fun a0 =>
 (slices_Compact_string n a0).bind fun b0 =>
 some (decide (((b0).length) < ((r3).length)))
def module_names_L0 (n : Nat) (l_ : (List Def)) : Nat → LL → Nat → Option LL
  | 0, _, _ => none
  | m1 + 1, out_1, a0 =>
  if a0 < ((l_).length) then
   (l_[a0]?).bind fun x9 =>
   chk ((out_1).length + ([x9.Name]).length ≤ 137438953472) (
   module_names_L0 n l_ m1 (out_1 ++ [x9.Name]) (a0 + 1))
  else
   some out_1
def module_names (n : Nat) (l_ : (List Def)) : Option LL :=
 module_names_L0 n l_ n [] 0
def module_repeats_L0 (n : Nat) (r7 : (List TypeDecl)) (c0 : LL → Option Bool) : Nat → LL → Nat → Option Bool
  | 0, _, _ => none
  | m1 + 1, a0, b0 =>
  if b0 < ((r7).length) then
   (r7[b0]?).bind fun d0 =>
   chk ((a0).length + ([d0.Name]).length ≤ 137438953472) (
   module_repeats_L0 n r7 c0 m1 (a0 ++ [d0.Name]) (b0 + 1))
  else
   c0 a0
def module_repeats_L1 (n : Nat) (t_ : Module) (c0 : LL → Option Bool) : Nat → LL → Nat → Option Bool
  | 0, _, _ => none
  | m2 + 1, a0, b0 =>
  if b0 < ((t_.Entries).length) then
   (t_.Entries[b0]?).bind fun d0 =>
   chk ((a0).length + ([d0.Def.Name]).length ≤ 137438953472) (
   module_repeats_L1 n t_ c0 m2 (a0 ++ [d0.Def.Name]) (b0 + 1))
  else
   c0 a0
def module_repeats_L2 (n : Nat) (t_ : Module) (c0 : LL → Option Bool) : Nat → LL → Nat → Option Bool
  | 0, _, _ => none
  | m3 + 1, a0, b0 =>
  if b0 < ((t_.LexRules).length) then
   (t_.LexRules[b0]?).bind fun d0 =>
   chk ((a0).length + ([d0.Def.Name]).length ≤ 137438953472) (
   module_repeats_L2 n t_ c0 m3 (a0 ++ [d0.Def.Name]) (b0 + 1))
  else
   c0 a0
def module_repeats (n : Nat) (t_ : Module) : Option Bool :=
 (hier_Prelude n).bind fun r3 =>
 (slices_Concat_TypeDecl n [r3, t_.Types]).bind fun r7 =>
 jn (fun (m0 : LL) =>
  jn (fun (n0 : LL) =>
   jn (fun (b0 : LL) =>
    (module_twice n m0).bind fun k0 =>
    if k0 = true then
     some true
    else
     (module_names n t_.Templates).bind fun l0 =>
     (module_twice n l0).bind fun g0 =>
     if g0 = true then
      some true
     else
      (module_names n t_.Rules).bind fun a0 =>
      chk ((b0).length + (a0).length ≤ 137438953472) (
      (module_twice n (b0 ++ a0)).bind fun h0 =>
      if h0 = true then
       some true
      else
       (module_names n t_.Roots).bind fun i0 =>
       (module_twice n i0).bind fun j0 =>
       some j0))
     (fun e0 =>
     module_repeats_L2 n t_ e0 n n0 0))
    (fun d0 =>
    module_repeats_L1 n t_ d0 n [] 0))
   (fun c0 =>
   module_repeats_L0 n r7 c0 n [] 0)
def slices_IndexFunc_string_L0 (n : Nat) (s_ : LL) (f_ : (LB → Option Bool)) : Nat → Nat → Option Int
  | 0, _ => none
  | m1 + 1, a0 =>
  if a0 < ((s_).length) then
   (s_[a0]?).bind fun x5 =>
   (f_ x5).bind fun r7 =>
   if r7 = true then
    some ((a0 : Nat) : Int)
   else
    slices_IndexFunc_string_L0 n s_ f_ m1 (a0 + 1)
  else
   some (-1)
def slices_IndexFunc_string (n : Nat) (s_ : LL) (f_ : (LB → Option Bool)) : Option Int :=
 slices_IndexFunc_string_L0 n s_ f_ n 0
def slices_ContainsFunc_string (n : Nat) (s_ : LL) (f_ : (LB → Option Bool)) : Option Bool :=
 (slices_IndexFunc_string n s_ f_).bind fun r1 =>
 some (decide ((0 : Int) ≤ r1))
def slices_Concat_Def_L0 (n : Nat) (slices_ : (List (List Def))) (k1 : Nat → Option (List Def)) : Nat → Nat → Nat → Option (List Def)
  | 0, _, _ => none
  | m1 + 1, a0, b0 =>
  if b0 < ((slices_).length) then
   (slices_[b0]?).bind fun x8 =>
   chk (a0 + (x8).length ≤ 9223372036854775807) (
   if (a0 + (x8).length) < 0 then
    none
   else
    slices_Concat_Def_L0 n slices_ k1 m1 (a0 + (x8).length) (b0 + 1))
  else
   k1 a0
def slices_Concat_Def_L1 (n : Nat) (slices_ : (List (List Def))) : Nat → (List Def) → Nat → Option (List Def)
  | 0, _, _ => none
  | m2 + 1, a0, b0 =>
  if b0 < ((slices_).length) then
   (slices_[b0]?).bind fun c0 =>
   chk ((a0).length + (c0).length ≤ 137438953472) (
   slices_Concat_Def_L1 n slices_ m2 (a0 ++ c0) (b0 + 1))
  else
   some a0
def slices_Concat_Def (n : Nat) (slices_ : (List (List Def))) : Option (List Def) :=
 jn (fun (b0 : Nat) =>
  (slices_Grow_Def n ((b0 : Nat) : Int)).bind fun a0 =>
  slices_Concat_Def_L1 n slices_ n a0 0)
   (fun k1 =>
   slices_Concat_Def_L0 n slices_ k1 n 0 0)
def module_definitions_L0 (n : Nat) (m_ : Module) (b0 : (List Def) → Option (List Def)) : Nat → (List Def) → Nat → Option (List Def)
  | 0, _, _ => none
  | m1 + 1, out_15, a0 =>
  if a0 < ((m_.Entries).length) then
   (m_.Entries[a0]?).bind fun c0 =>
   chk ((out_15).length + ([c0.Def]).length ≤ 137438953472) (
   module_definitions_L0 n m_ b0 m1 (out_15 ++ [c0.Def]) (a0 + 1))
  else
   b0 out_15
def module_definitions_L1 (n : Nat) (m_ : Module) : Nat → (List Def) → Nat → Option (List Def)
  | 0, _, _ => none
  | m2 + 1, out_36, a0 =>
  if a0 < ((m_.LexRules).length) then
   (m_.LexRules[a0]?).bind fun b0 =>
   chk ((out_36).length + ([b0.Def]).length ≤ 137438953472) (
   module_definitions_L1 n m_ m2 (out_36 ++ [b0.Def]) (a0 + 1))
  else
   some out_36
def module_definitions (n : Nat) (m_ : Module) : Option (List Def) :=
 (slices_Concat_Def n [m_.Templates, m_.Rules, m_.Roots]).bind fun r4 =>
 jn (fun (out_11 : (List Def)) =>
  module_definitions_L1 n m_ n out_11 0)
   (fun a0 =>
   module_definitions_L0 n m_ a0 n r4 0)
def desc_Names_1_L0 (n : Nat) (d_ : Desc) (self_ : Desc → LL → LL → Option (LL × LL)) : Nat → Nat → LL → LL → Option (LL × LL)
  | 0, _, _, _ => none
  | m1 + 1, a0, b0, c0 =>
  if a0 < ((d_.Kids).length) then
   (d_.Kids[a0]?).bind fun e0 =>
   (self_ e0 b0 c0).bind fun d0 =>
   desc_Names_1_L0 n d_ self_ m1 (a0 + 1) d0.1 d0.2
  else
   some (b0, c0)
def desc_Names_1 : Nat → Desc → LL → LL → Option (LL × LL)
  | 0, _, _, _ => none
  | n + 1, d_, a0, b0 =>
  jn (fun (c0 : LL) (d0 : LL) =>
   desc_Names_1_L0 n d_ (desc_Names_1 n) n 0 c0 d0)
    (fun k3 =>
    if d_.Op = 1 then
     chk ((a0).length + ([d_.Name]).length ≤ 137438953472) (
     k3 (a0 ++ [d_.Name]) b0)
    else
     if d_.Op = 2 then
      chk ((b0).length + ([d_.Name]).length ≤ 137438953472) (
      k3 a0 (b0 ++ [d_.Name]))
     else
      k3 a0 b0)
def desc_Names (n : Nat) (d_ : Desc) : Option (LL × LL) :=
 (desc_Names_1 n d_ [] []).bind fun r9 =>
 jn (fun (h0 : LL) (g0 : LL) =>
  some (h0, g0))
   (fun a0 =>
   (slices_Sort_string n r9.1).bind fun b0 =>
   (slices_Compact_string n b0).bind fun c0 =>
   chk (0 + 1 ≤ 9223372036854775807) (
   (slices_Sort_string n r9.2).bind fun d0 =>
   (slices_Compact_string n d0).bind fun e0 =>
   chk (1 + 1 ≤ 9223372036854775807) (
   a0 c0 e0)))
def module_uses_L1 (n : Nat) (d0 : LL → Option LL) (c0 : TypeDecl) : Nat → LL → Nat → Option LL
  | 0, _, _ => none
  | m2 + 1, a0, b0 =>
  if b0 < ((c0.Feats).length) then
   (c0.Feats[b0]?).bind fun e0 =>
   chk ((a0).length + ([e0.Value]).length ≤ 137438953472) (
   module_uses_L1 n d0 c0 m2 (a0 ++ [e0.Value]) (b0 + 1))
  else
   d0 a0
def module_uses_L0 (n : Nat) (t_ : Module) (k3 : LL → Option LL) : Nat → LL → Nat → Option LL
  | 0, _, _ => none
  | m1 + 1, b0, a0 =>
  if a0 < ((t_.Types).length) then
   jn (fun (e0 : LL) =>
    module_uses_L0 n t_ k3 m1 e0 (a0 + 1))
     (fun d0 =>
     (t_.Types[a0]?).bind fun c0 =>
     chk ((b0).length + (c0.Supers).length ≤ 137438953472) (
     module_uses_L1 n d0 c0 n (b0 ++ c0.Supers) 0))
  else
   k3 b0
def module_uses_L4 (n : Nat) (e0 : LL → Option LL) (a0 : (LL × LL)) : Nat → LL → Nat → Option LL
  | 0, _, _ => none
  | m5 + 1, b0, c0 =>
  if c0 < ((a0.2).length) then
   (a0.2[c0]?).bind fun d0 =>
   chk (([64]).length + (d0).length ≤ 9223372036854775807) (
   chk ((b0).length + ([[64] ++ d0]).length ≤ 137438953472) (
   module_uses_L4 n e0 a0 m5 (b0 ++ [[64] ++ d0]) (c0 + 1)))
  else
   e0 b0
def module_uses_L3 (n : Nat) (e0 : LL → Option LL) (a0 : Def) : Nat → LL → Nat → Option LL
  | 0, _, _ => none
  | m4 + 1, c0, d0 =>
  if d0 < (([a0.Strict] ++ a0.Defaults).length) then
   jn (fun (h0 : LL) =>
    module_uses_L3 n e0 a0 m4 h0 (d0 + 1))
     (fun g0 =>
     (([a0.Strict] ++ a0.Defaults)[d0]?).bind fun i0 =>
     (desc_Names n i0).bind fun b0 =>
     chk ((c0).length + (b0.1).length ≤ 137438953472) (
     module_uses_L4 n g0 b0 n (c0 ++ b0.1) 0))
  else
   e0 c0
def module_uses_L2 (n : Nat) (a0 : (List Def)) : Nat → LL → Nat → Option LL
  | 0, _, _ => none
  | m3 + 1, d0, b0 =>
  if b0 < ((a0).length) then
   jn (fun (g0 : LL) =>
    module_uses_L2 n a0 m3 g0 (b0 + 1))
     (fun e0 =>
     (a0[b0]?).bind fun c0 =>
     chk (([c0.Strict]).length + (c0.Defaults).length ≤ 137438953472) (
     module_uses_L3 n e0 c0 n d0 0))
  else
   some d0
def module_uses (n : Nat) (t_ : Module) : Option LL :=
 jn (fun (b0 : LL) =>
  (module_definitions n t_).bind fun a0 =>
  module_uses_L2 n a0 n b0 0)
   (fun k3 =>
   module_uses_L0 n t_ k3 n [] 0)
def module_Link_1 (n : Nat) (x_ : LB) (a0 : LL) : Option Bool :=
 (slices_Contains_string n a0 x_).bind fun r1 =>
 some (!(r1))
def module_Link_L0 (n : Nat) (t_ : (List Module)) (r3 : (LL × Int)) (l0 : (List TypeDecl) → (List Def) → (List EntryDecl) → (List LexDecl) → (List Def) → (List Def) → (List LL) → LL → Option (Module × Int)) : Nat → Nat → (List TypeDecl) → (List Def) → (List EntryDecl) → (List LexDecl) → (List Def) → (List Def) → (List LL) → LL → Option (Module × Int)
  | 0, _, _, _, _, _, _, _, _, _ => none
  | m1 + 1, k0, b0, c0, d0, e0, g0, h0, i0, j0 =>
  if k0 < ((r3.1).length) then
   (r3.1[k0]?).bind fun m0 =>
   (module_find n t_ m0).bind fun a0 =>
   chk ((b0).length + (a0.1.Types).length ≤ 137438953472) (
   chk ((c0).length + (a0.1.Templates).length ≤ 137438953472) (
   chk ((d0).length + (a0.1.Entries).length ≤ 137438953472) (
   chk ((e0).length + (a0.1.LexRules).length ≤ 137438953472) (
   chk ((g0).length + (a0.1.Rules).length ≤ 137438953472) (
   chk ((h0).length + (a0.1.Roots).length ≤ 137438953472) (
   chk ((i0).length + (a0.1.Checks).length ≤ 137438953472) (
   chk ((j0).length + (a0.1.Drops).length ≤ 137438953472) (
   module_Link_L0 n t_ r3 l0 m1 (k0 + 1) (b0 ++ a0.1.Types) (c0 ++ a0.1.Templates) (d0 ++ a0.1.Entries) (e0 ++ a0.1.LexRules) (g0 ++ a0.1.Rules) (h0 ++ a0.1.Roots) (i0 ++ a0.1.Checks) (j0 ++ a0.1.Drops)))))))))
  else
   l0 b0 c0 d0 e0 g0 h0 i0 j0
def module_Link_L1 (n : Nat) (t_ : (List Module)) (r3 : (LL × Int)) (b0 : Option (Module × Int)) : Nat → Nat → Option (Module × Int)
  | 0, _ => none
  | m2 + 1, a0 =>
  if a0 < ((r3.1).length) then
   (r3.1[a0]?).bind fun c0 =>
   (module_find n t_ c0).bind fun d0 =>
   (module_Visible n t_ c0).bind fun e0 =>
   (module_uses n d0.1).bind fun g0 =>
   (slices_ContainsFunc_string n g0 (fun p => module_Link_1 n p e0)).bind fun h0 =>
   if h0 = true then
    some ((Module.mk [] [] [] [] [] [] [] [] [] []), 5)
   else
    module_Link_L1 n t_ r3 b0 m2 (a0 + 1)
  else
   b0
def module_Link (n : Nat) (t_ : (List Module)) (t_' : LB) : Option (Module × Int) :=
 (module_Order n t_ t_').bind fun r3 =>
 if r3.2 ≠ 0 then
  some ((Module.mk [] [] [] [] [] [] [] [] [] []), r3.2)
 else
  jn (fun (a0 : (List TypeDecl)) (b0 : (List Def)) (c0 : (List EntryDecl)) (d0 : (List LexDecl)) (e0 : (List Def)) (g0 : (List Def)) (h0 : (List LL)) (i0 : LL) =>
   (module_repeats n (Module.mk t_' [] a0 b0 c0 d0 e0 g0 h0 i0)).bind fun l0 =>
   if l0 = true then
    some ((Module.mk [] [] [] [] [] [] [] [] [] []), 4)
   else
    jn (
     some ((Module.mk t_' [] a0 b0 c0 d0 e0 g0 h0 i0), 0))
      (fun k0 =>
      module_Link_L1 n t_ r3 k0 n 0))
    (fun j0 =>
    module_Link_L0 n t_ r3 j0 n 0 [] [] [] [] [] [] [] [])
def law22_exampleHolds (n : Nat)  : Option Bool :=
 (module_Order n [(Module.mk [97] [[98], [99]] [(TypeDecl.mk [120] [[121]] [])] [] [] [] [] [] [] []), (Module.mk [98] [[99]] [] [] [] [] [] [] [] []), (Module.mk [99] [] [(TypeDecl.mk [121] [[116, 111, 112]] [])] [] [] [] [] [] [] []), (Module.mk [100] [] [(TypeDecl.mk [122] [[121]] [])] [] [] [] [] [] [] [])] [97]).bind fun c0 =>
 (module_Link n [(Module.mk [97] [[98], [99]] [(TypeDecl.mk [120] [[121]] [])] [] [] [] [] [] [] []), (Module.mk [98] [[99]] [] [] [] [] [] [] [] []), (Module.mk [99] [] [(TypeDecl.mk [121] [[116, 111, 112]] [])] [] [] [] [] [] [] []), (Module.mk [100] [] [(TypeDecl.mk [122] [[121]] [])] [] [] [] [] [] [] [])] [97]).bind fun a0 =>
 (module_Link n [(Module.mk [97] [[98], [99]] [(TypeDecl.mk [120] [[121]] [])] [] [] [] [] [] [] []), (Module.mk [98] [[99]] [] [] [] [] [] [] [] []), (Module.mk [99] [] [(TypeDecl.mk [121] [[116, 111, 112]] [])] [] [] [] [] [] [] []), (Module.mk [100] [] [(TypeDecl.mk [122] [[121]] [])] [] [] [] [] [] [] [])] [100]).bind fun d0 =>
 (module_Order n [(Module.mk [97] [[97]] [] [] [] [] [] [] [] [])] [97]).bind fun e0 =>
 (module_Visible n [(Module.mk [97] [[98], [99]] [(TypeDecl.mk [120] [[121]] [])] [] [] [] [] [] [] []), (Module.mk [98] [[99]] [] [] [] [] [] [] [] []), (Module.mk [99] [] [(TypeDecl.mk [121] [[116, 111, 112]] [])] [] [] [] [] [] [] []), (Module.mk [100] [] [(TypeDecl.mk [122] [[121]] [])] [] [] [] [] [] [] [])] [98]).bind fun b0 =>
 if c0.2 = 0 then
  (r01_Same n c0.1 [[99], [98], [97]]).bind fun g0 =>
  if g0 = true then
   if a0.2 = 0 then
    if (a0.1.Name : List UInt8) = [97] then
     if ((a0.1.Types).length) = 2 then
      (a0.1.Types[0]?).bind fun h0 =>
      if (h0.Name : List UInt8) = [121] then
       if d0.2 = 5 then
        if e0.2 = 6 then
         if ((b0).length) = 14 then
          (b0[13]?).bind fun i0 =>
          if (i0 : List UInt8) = [121] then
           (b0[0]?).bind fun j0 =>
           some (decide ((j0 : List UInt8) = [99, 111, 110, 115]))
          else
           some false
         else
          some false
        else
         some false
       else
        some false
      else
       some false
     else
      some false
    else
     some false
   else
    some false
  else
   some false
 else
  some false
def r22_find_L0 (n : Nat) (l_ : (List Module)) (name_ : LB) : Nat → Nat → Option Int
  | 0, _ => none
  | m1 + 1, a0 =>
  if a0 < ((l_).length) then
   (l_[a0]?).bind fun x5 =>
   if (x5.Name : List UInt8) = name_ then
    some ((a0 : Nat) : Int)
   else
    r22_find_L0 n l_ name_ m1 (a0 + 1)
  else
   some (-1)
def r22_find (n : Nat) (l_ : (List Module)) (name_ : LB) : Option Int :=
 r22_find_L0 n l_ name_ n 0
def r22_has_L0 (n : Nat) (l_ : LL) (s_ : LB) : Nat → Nat → Option Bool
  | 0, _ => none
  | m1 + 1, a0 =>
  if a0 < ((l_).length) then
   (l_[a0]?).bind fun x5 =>
   if (x5 : List UInt8) = s_ then
    some true
   else
    r22_has_L0 n l_ s_ m1 (a0 + 1)
  else
   some false
def r22_has (n : Nat) (l_ : LL) (s_ : LB) : Option Bool :=
 r22_has_L0 n l_ s_ n 0
def r22_Needs_L1 (n : Nat) (l_ : (List Module)) (b0 : LL → Option LL) (c0 : Int) : Nat → LL → Nat → Option LL
  | 0, _, _ => none
  | m2 + 1, out_26, a0 =>
  (ix l_ c0).bind fun e0 =>
  if a0 < ((e0.Imports).length) then
   (e0.Imports[a0]?).bind fun d0 =>
   (r22_has n out_26 d0).bind fun g0 =>
   if (!(g0)) = true then
    chk ((out_26).length + ([d0]).length ≤ 137438953472) (
    r22_Needs_L1 n l_ b0 c0 m2 (out_26 ++ [d0]) (a0 + 1))
   else
    r22_Needs_L1 n l_ b0 c0 m2 out_26 (a0 + 1)
  else
   b0 out_26
def r22_Needs_L0 (n : Nat) (l_ : (List Module)) : Nat → LL → Nat → Option LL
  | 0, _, _ => none
  | m1 + 1, out_3, a0 =>
  if a0 < ((out_3).length) then
   jn (fun (out_11 : LL) =>
    r22_Needs_L0 n l_ m1 out_11 (a0 + 1))
     (fun b0 =>
     (out_3[a0]?).bind fun d0 =>
     (r22_find n l_ d0).bind fun c0 =>
     if c0 < 0 then
      b0 out_3
     else
      r22_Needs_L1 n l_ b0 c0 n out_3 0)
  else
   some out_3
def r22_Needs (n : Nat) (l_ : (List Module)) (name_ : LB) : Option LL :=
 r22_Needs_L0 n l_ n [name_] 0
def r22_cyclic_L0 (n : Nat) (l_ : (List Module)) (name_ : LB) (x5 : Module) : Nat → Nat → Option Bool
  | 0, _ => none
  | m1 + 1, a0 =>
  if a0 < ((x5.Imports).length) then
   (x5.Imports[a0]?).bind fun d0 =>
   (r22_Needs n l_ d0).bind fun b0 =>
   (r22_has n b0 name_).bind fun c0 =>
   if c0 = true then
    some true
   else
    r22_cyclic_L0 n l_ name_ x5 m1 (a0 + 1)
  else
   some false
def r22_cyclic (n : Nat) (l_ : (List Module)) (name_ : LB) : Option Bool :=
 (r22_find n l_ name_).bind fun r1 =>
 (ix l_ r1).bind fun x5 =>
 r22_cyclic_L0 n l_ name_ x5 n 0
def r22_visit_L0 (n : Nat) (l_ : (List Module)) (self_ : (List Module) → LB → LL → Option LL) (b0 : Module) (c0 : LL → Option LL) : Nat → LL → Nat → Option LL
  | 0, _, _ => none
  | m1 + 1, out_24, a0 =>
  if a0 < ((b0.Imports).length) then
   (b0.Imports[a0]?).bind fun e0 =>
   (self_ l_ e0 out_24).bind fun d0 =>
   r22_visit_L0 n l_ self_ b0 c0 m1 d0 (a0 + 1)
  else
   c0 out_24
def r22_visit : Nat → (List Module) → LB → LL → Option LL
  | 0, _, _, _ => none
  | n + 1, l_, name_, out_ =>
  (r22_has n out_ name_).bind fun r1 =>
  if r1 = true then
   some out_
  else
   (r22_find n l_ name_).bind fun r7 =>
   (ix l_ r7).bind fun b0 =>
   jn (fun (out_20 : LL) =>
    chk ((out_20).length + ([name_]).length ≤ 137438953472) (
    some (out_20 ++ [name_])))
     (fun a0 =>
     r22_visit_L0 n l_ (r22_visit n) b0 a0 n out_ 0)
def r22_Order_L0 (n : Nat) (l_ : (List Module)) (k1 : Option (LL × Int)) : Nat → Nat → Option (LL × Int)
  | 0, _ => none
  | m1 + 1, a0 =>
  if a0 < ((l_).length) then
   (l_[a0]?).bind fun x6 =>
   (r22_find n l_ x6.Name).bind fun r8 =>
   if r8 ≠ ((a0 : Nat) : Int) then
    some ([], 4)
   else
    r22_Order_L0 n l_ k1 m1 (a0 + 1)
  else
   k1
def r22_Order_L1 (n : Nat) (l_ : (List Module)) (b0 : LL) (c0 : Option (LL × Int)) : Nat → Nat → Option (LL × Int)
  | 0, _ => none
  | m2 + 1, a0 =>
  if a0 < ((b0).length) then
   (b0[a0]?).bind fun e0 =>
   (r22_find n l_ e0).bind fun d0 =>
   if d0 < 0 then
    some ([], 5)
   else
    r22_Order_L1 n l_ b0 c0 m2 (a0 + 1)
  else
   c0
def r22_Order_L2 (n : Nat) (l_ : (List Module)) (b0 : LL) (c0 : Option (LL × Int)) : Nat → Nat → Option (LL × Int)
  | 0, _ => none
  | m3 + 1, a0 =>
  if a0 < ((b0).length) then
   (b0[a0]?).bind fun e0 =>
   (r22_cyclic n l_ e0).bind fun d0 =>
   if d0 = true then
    some ([], 6)
   else
    r22_Order_L2 n l_ b0 c0 m3 (a0 + 1)
  else
   c0
def r22_Order (n : Nat) (l_ : (List Module)) (main_ : LB) : Option (LL × Int) :=
 jn (
  (r22_Needs n l_ main_).bind fun a0 =>
  jn (
   jn (
    (r22_visit n l_ main_ []).bind fun d0 =>
    some (d0, 0))
     (fun c0 =>
     r22_Order_L2 n l_ a0 c0 n 0))
    (fun b0 =>
    r22_Order_L1 n l_ a0 b0 n 0))
   (fun k1 =>
   r22_Order_L0 n l_ k1 n 0)
def r06_decl_L0 (n : Nat) (feats_ : LL) (c0 : (List FeatDecl) → Option TypeDecl) : Nat → Nat → (List FeatDecl) → Option TypeDecl
  | 0, _, _ => none
  | m1 + 1, a0, b0 =>
  chk (a0 + 1 ≤ 9223372036854775807) (
  if (a0 + 1) < ((feats_).length) then
   (feats_[a0]?).bind fun d0 =>
   (feats_[a0 + 1]?).bind fun e0 =>
   chk ((b0).length + ([(FeatDecl.mk d0 e0)]).length ≤ 137438953472) (
   chk (a0 + 2 ≤ 9223372036854775807) (
   r06_decl_L0 n feats_ c0 m1 (a0 + 2) (b0 ++ [(FeatDecl.mk d0 e0)])))
  else
   c0 b0)
def r06_decl (n : Nat) (name_ : LB) (super_ : LB) (feats_ : LL) : Option TypeDecl :=
 jn (fun (c0 : LL) =>
  jn (fun (b0 : (List FeatDecl)) =>
   some (TypeDecl.mk name_ c0 b0))
    (fun a0 =>
    r06_decl_L0 n feats_ a0 n 0 []))
   (fun k5 =>
   if (super_ : List UInt8) ≠ [] then
    k5 [super_]
   else
    k5 [])
def r06_Prelude (n : Nat)  : Option (List TypeDecl) :=
 (r06_decl n [116, 111, 112] [] []).bind fun r1 =>
 (r06_decl n [108, 105, 115, 116] [116, 111, 112] []).bind fun r4 =>
 (r06_decl n [99, 111, 110, 115] [108, 105, 115, 116] [[70, 73, 82, 83, 84], [116, 111, 112], [82, 69, 83, 84], [108, 105, 115, 116]]).bind fun r8 =>
 (r06_decl n [110, 117, 108, 108] [108, 105, 115, 116] []).bind fun a0 =>
 (r06_decl n [100, 108, 105, 115, 116] [116, 111, 112] [[76, 73, 83, 84], [108, 105, 115, 116], [76, 65, 83, 84], [108, 105, 115, 116]]).bind fun b0 =>
 (r06_decl n [105, 110, 100, 101, 120] [116, 111, 112] []).bind fun c0 =>
 (r06_decl n [104, 97, 110, 100, 108, 101] [105, 110, 100, 101, 120] []).bind fun d0 =>
 (r06_decl n [101, 118, 101, 110, 116] [105, 110, 100, 101, 120] []).bind fun e0 =>
 (r06_decl n [101, 110, 116, 105, 116, 121] [105, 110, 100, 101, 120] []).bind fun g0 =>
 (r06_decl n [114, 101, 108] [116, 111, 112] [[76, 65, 66, 69, 76], [104, 97, 110, 100, 108, 101]]).bind fun h0 =>
 (r06_decl n [113, 101, 113] [116, 111, 112] [[72, 73, 71, 72], [104, 97, 110, 100, 108, 101], [76, 79, 87], [104, 97, 110, 100, 108, 101]]).bind fun i0 =>
 (r06_decl n [115, 101, 109] [116, 111, 112] [[84, 79, 80], [104, 97, 110, 100, 108, 101], [73, 78, 68, 69, 88], [105, 110, 100, 101, 120], [82, 69, 76, 83], [100, 108, 105, 115, 116], [67, 79, 78, 83], [100, 108, 105, 115, 116]]).bind fun j0 =>
 (r06_decl n [115, 105, 103, 110] [116, 111, 112] [[83, 69, 77], [115, 101, 109], [65, 82, 71, 83], [108, 105, 115, 116]]).bind fun k0 =>
 some [r1, r4, r8, a0, b0, c0, d0, e0, g0, h0, i0, j0, k0]
def r19_With_L0 (n : Nat) (l_ : LL) (s_ : LB) (k1 : LL → Bool → Option LL) : Nat → LL → Bool → Nat → Option LL
  | 0, _, _, _ => none
  | m1 + 1, out_7, b0, a0 =>
  if a0 < ((l_).length) then
   jn (fun (h0 : Bool) =>
    jn (fun (out_24 : LL) (d0 : Bool) =>
     (l_[a0]?).bind fun c0 =>
     if (c0 : List UInt8) ≠ s_ then
      chk ((out_24).length + ([c0]).length ≤ 137438953472) (
      r19_With_L0 n l_ s_ k1 m1 (out_24 ++ [c0]) d0 (a0 + 1))
     else
      r19_With_L0 n l_ s_ k1 m1 out_24 d0 (a0 + 1))
      (fun g0 =>
      if h0 = true then
       chk ((out_7).length + ([s_]).length ≤ 137438953472) (
       g0 (out_7 ++ [s_]) true)
      else
       g0 out_7 b0))
     (fun e0 =>
     if (!(b0)) = true then
      (l_[a0]?).bind fun i0 =>
      e0 (!(Op.bytesLess i0 s_))
     else
      e0 false)
  else
   k1 out_7 b0
def r19_With (n : Nat) (l_ : LL) (s_ : LB) : Option LL :=
 jn (fun (out_2 : LL) (a0 : Bool) =>
  if (!(a0)) = true then
   chk ((out_2).length + ([s_]).length ≤ 137438953472) (
   some (out_2 ++ [s_]))
  else
   some out_2)
   (fun k1 =>
   r19_With_L0 n l_ s_ k1 n [] false 0)
def r22_Visible_L0 (n : Nat) (r1 : (List TypeDecl)) (k6 : LL → Option LL) : Nat → LL → Nat → Option LL
  | 0, _, _ => none
  | m1 + 1, b0, a0 =>
  if a0 < ((r1).length) then
   (r1[a0]?).bind fun d0 =>
   (r19_With n b0 d0.Name).bind fun c0 =>
   r22_Visible_L0 n r1 k6 m1 c0 (a0 + 1)
  else
   k6 b0
def r22_Visible_L2 (n : Nat) (t_ : (List Module)) (c0 : Int) (b0 : LL → Option LL) : Nat → LL → Nat → Option LL
  | 0, _, _ => none
  | m3 + 1, d0, a0 =>
  (ix t_ c0).bind fun e0 =>
  if a0 < ((e0.Types).length) then
   (e0.Types[a0]?).bind fun h0 =>
   (r19_With n d0 h0.Name).bind fun g0 =>
   r22_Visible_L2 n t_ c0 b0 m3 g0 (a0 + 1)
  else
   b0 d0
def r22_Visible_L3 (n : Nat) (t_ : (List Module)) (b0 : LL → Option LL) (c0 : Int) : Nat → LL → Nat → Option LL
  | 0, _, _ => none
  | m4 + 1, d0, a0 =>
  (ix t_ c0).bind fun e0 =>
  if a0 < ((e0.Templates).length) then
   (e0.Templates[a0]?).bind fun g0 =>
   chk (([64]).length + (g0.Name).length ≤ 9223372036854775807) (
   (r19_With n d0 ([64] ++ g0.Name)).bind fun h0 =>
   r22_Visible_L3 n t_ b0 c0 m4 h0 (a0 + 1))
  else
   b0 d0
def r22_Visible_L1 (n : Nat) (t_ : (List Module)) (a0 : LL) : Nat → LL → Nat → Option LL
  | 0, _, _ => none
  | m2 + 1, c0, d0 =>
  if d0 < ((a0).length) then
   jn (fun (h0 : LL) =>
    r22_Visible_L1 n t_ a0 m2 h0 (d0 + 1))
     (fun e0 =>
     (a0[d0]?).bind fun j0 =>
     (r22_find n t_ j0).bind fun b0 =>
     if b0 < 0 then
      e0 c0
     else
      jn (fun (i0 : LL) =>
       r22_Visible_L3 n t_ e0 b0 n i0 0)
        (fun g0 =>
        r22_Visible_L2 n t_ b0 g0 n c0 0))
  else
   some c0
def r22_Visible (n : Nat) (t_ : (List Module)) (t_' : LB) : Option LL :=
 (r06_Prelude n).bind fun r1 =>
 jn (fun (b0 : LL) =>
  (r22_Needs n t_ t_').bind fun a0 =>
  r22_Visible_L1 n t_ a0 n b0 0)
   (fun k6 =>
   r22_Visible_L0 n r1 k6 n [] 0)
def r22_joined_L0 (n : Nat) (t_ : (List Module)) (t_' : LL) (k5 : (List TypeDecl) → (List Def) → (List EntryDecl) → (List LexDecl) → (List Def) → (List Def) → (List LL) → LL → Option Module) : Nat → Nat → (List TypeDecl) → (List Def) → (List EntryDecl) → (List LexDecl) → (List Def) → (List Def) → (List LL) → LL → Option Module
  | 0, _, _, _, _, _, _, _, _, _ => none
  | m1 + 1, k0, b0, c0, d0, e0, g0, h0, i0, j0 =>
  if k0 < ((t_').length) then
   (t_'[k0]?).bind fun m0 =>
   (r22_find n t_ m0).bind fun l0 =>
   (ix t_ l0).bind fun a0 =>
   chk ((b0).length + (a0.Types).length ≤ 137438953472) (
   chk ((c0).length + (a0.Templates).length ≤ 137438953472) (
   chk ((d0).length + (a0.Entries).length ≤ 137438953472) (
   chk ((e0).length + (a0.LexRules).length ≤ 137438953472) (
   chk ((g0).length + (a0.Rules).length ≤ 137438953472) (
   chk ((h0).length + (a0.Roots).length ≤ 137438953472) (
   chk ((i0).length + (a0.Checks).length ≤ 137438953472) (
   chk ((j0).length + (a0.Drops).length ≤ 137438953472) (
   r22_joined_L0 n t_ t_' k5 m1 (k0 + 1) (b0 ++ a0.Types) (c0 ++ a0.Templates) (d0 ++ a0.Entries) (e0 ++ a0.LexRules) (g0 ++ a0.Rules) (h0 ++ a0.Roots) (i0 ++ a0.Checks) (j0 ++ a0.Drops)))))))))
  else
   k5 b0 c0 d0 e0 g0 h0 i0 j0
def r22_joined (n : Nat) (t_ : (List Module)) (t_' : LL) (t_'' : LB) : Option Module :=
 jn (fun (i0 : (List TypeDecl)) (a0 : (List Def)) (b0 : (List EntryDecl)) (c0 : (List LexDecl)) (d0 : (List Def)) (e0 : (List Def)) (g0 : (List LL)) (h0 : LL) =>
  some (Module.mk t_'' [] i0 a0 b0 c0 d0 e0 g0 h0))
   (fun k5 =>
   r22_joined_L0 n t_ t_' k5 n 0 [] [] [] [] [] [] [] [])
def r22_twice_L0 (n : Nat) (l_ : LL) : Nat → Nat → Option Bool
  | 0, _ => none
  | m1 + 1, a0 =>
  if a0 < ((l_).length) then
   chk (a0 ≤ (l_).length) (
   (l_[a0]?).bind fun x6 =>
   (r22_has n ((l_).take a0) x6).bind fun r8 =>
   if r8 = true then
    some true
   else
    r22_twice_L0 n l_ m1 (a0 + 1))
  else
   some false
def r22_twice (n : Nat) (l_ : LL) : Option Bool :=
 r22_twice_L0 n l_ n 0
def r22_typeNames_L0 (n : Nat) (l_ : (List TypeDecl)) : Nat → LL → Nat → Option LL
  | 0, _, _ => none
  | m1 + 1, out_1, a0 =>
  if a0 < ((l_).length) then
   (l_[a0]?).bind fun x9 =>
   chk ((out_1).length + ([x9.Name]).length ≤ 137438953472) (
   r22_typeNames_L0 n l_ m1 (out_1 ++ [x9.Name]) (a0 + 1))
  else
   some out_1
def r22_typeNames (n : Nat) (l_ : (List TypeDecl)) : Option LL :=
 r22_typeNames_L0 n l_ n [] 0
def r22_defNames_L0 (n : Nat) (l_ : (List Def)) : Nat → LL → Nat → Option LL
  | 0, _, _ => none
  | m1 + 1, out_1, a0 =>
  if a0 < ((l_).length) then
   (l_[a0]?).bind fun x9 =>
   chk ((out_1).length + ([x9.Name]).length ≤ 137438953472) (
   r22_defNames_L0 n l_ m1 (out_1 ++ [x9.Name]) (a0 + 1))
  else
   some out_1
def r22_defNames (n : Nat) (l_ : (List Def)) : Option LL :=
 r22_defNames_L0 n l_ n [] 0
def r22_ruleNames_L0 (n : Nat) (m_ : Module) (k3 : LL → Option LL) : Nat → LL → Nat → Option LL
  | 0, _, _ => none
  | m1 + 1, out_8, a0 =>
  if a0 < ((m_.Entries).length) then
   (m_.Entries[a0]?).bind fun b0 =>
   chk ((out_8).length + ([b0.Def.Name]).length ≤ 137438953472) (
   r22_ruleNames_L0 n m_ k3 m1 (out_8 ++ [b0.Def.Name]) (a0 + 1))
  else
   k3 out_8
def r22_ruleNames_L1 (n : Nat) (m_ : Module) (b0 : LL → Option LL) : Nat → LL → Nat → Option LL
  | 0, _, _ => none
  | m2 + 1, out_32, a0 =>
  if a0 < ((m_.LexRules).length) then
   (m_.LexRules[a0]?).bind fun c0 =>
   chk ((out_32).length + ([c0.Def.Name]).length ≤ 137438953472) (
   r22_ruleNames_L1 n m_ b0 m2 (out_32 ++ [c0.Def.Name]) (a0 + 1))
  else
   b0 out_32
def r22_ruleNames (n : Nat) (m_ : Module) : Option LL :=
 jn (fun (out_4 : LL) =>
  jn (fun (out_28 : LL) =>
   (r22_defNames n m_.Rules).bind fun a0 =>
   chk ((out_28).length + (a0).length ≤ 137438953472) (
   some (out_28 ++ a0)))
    (fun b0 =>
    r22_ruleNames_L1 n m_ b0 n out_4 0))
   (fun k3 =>
   r22_ruleNames_L0 n m_ k3 n [] 0)
def r22_definitions_L0 (n : Nat) (m_ : Module) (b0 : (List Def) → Option (List Def)) : Nat → (List Def) → Nat → Option (List Def)
  | 0, _, _ => none
  | m1 + 1, out_15, a0 =>
  if a0 < ((m_.Entries).length) then
   (m_.Entries[a0]?).bind fun c0 =>
   chk ((out_15).length + ([c0.Def]).length ≤ 137438953472) (
   r22_definitions_L0 n m_ b0 m1 (out_15 ++ [c0.Def]) (a0 + 1))
  else
   b0 out_15
def r22_definitions_L1 (n : Nat) (m_ : Module) (b0 : (List Def) → Option (List Def)) : Nat → (List Def) → Nat → Option (List Def)
  | 0, _, _ => none
  | m2 + 1, out_39, a0 =>
  if a0 < ((m_.LexRules).length) then
   (m_.LexRules[a0]?).bind fun c0 =>
   chk ((out_39).length + ([c0.Def]).length ≤ 137438953472) (
   r22_definitions_L1 n m_ b0 m2 (out_39 ++ [c0.Def]) (a0 + 1))
  else
   b0 out_39
def r22_definitions (n : Nat) (m_ : Module) : Option (List Def) :=
 chk ((m_.Templates).length ≤ 137438953472) (
 jn (fun (out_11 : (List Def)) =>
  jn (fun (out_35 : (List Def)) =>
   chk ((out_35).length + (m_.Rules).length ≤ 137438953472) (
   chk ((out_35 ++ m_.Rules).length + (m_.Roots).length ≤ 137438953472) (
   some ((out_35 ++ m_.Rules) ++ m_.Roots))))
    (fun b0 =>
    r22_definitions_L1 n m_ b0 n out_11 0))
   (fun a0 =>
   r22_definitions_L0 n m_ a0 n m_.Templates 0))
def r19_Named_L0 (n : Nat) (d_ : Desc) (op_ : Int) (self_ : Desc → Int → LL → Option LL) : Nat → LL → Nat → Option LL
  | 0, _, _ => none
  | m1 + 1, b0, a0 =>
  if a0 < ((d_.Kids).length) then
   (d_.Kids[a0]?).bind fun d0 =>
   (self_ d0 op_ b0).bind fun c0 =>
   r19_Named_L0 n d_ op_ self_ m1 c0 (a0 + 1)
  else
   some b0
def r19_Named : Nat → Desc → Int → LL → Option LL
  | 0, _, _, _ => none
  | n + 1, d_, op_, l_ =>
  jn (fun (a0 : LL) =>
   r19_Named_L0 n d_ op_ (r19_Named n) n a0 0)
    (fun k3 =>
    if d_.Op = op_ then
     (r19_With n l_ d_.Name).bind fun r8 =>
     k3 r8
    else
     k3 l_)
def r19_Names (n : Nat) (d_ : Desc) : Option (LL × LL) :=
 (r19_Named n d_ 1 []).bind fun r3 =>
 (r19_Named n d_ 2 []).bind fun r6 =>
 some (r3, r6)
def r22_used_L1 (n : Nat) (d0 : LL → Option LL) (c0 : TypeDecl) : Nat → LL → Nat → Option LL
  | 0, _, _ => none
  | m2 + 1, a0, b0 =>
  if b0 < ((c0.Feats).length) then
   (c0.Feats[b0]?).bind fun e0 =>
   chk ((a0).length + ([e0.Value]).length ≤ 137438953472) (
   r22_used_L1 n d0 c0 m2 (a0 ++ [e0.Value]) (b0 + 1))
  else
   d0 a0
def r22_used_L0 (n : Nat) (t_ : Module) (k3 : LL → Option LL) : Nat → LL → Nat → Option LL
  | 0, _, _ => none
  | m1 + 1, b0, a0 =>
  if a0 < ((t_.Types).length) then
   jn (fun (e0 : LL) =>
    r22_used_L0 n t_ k3 m1 e0 (a0 + 1))
     (fun d0 =>
     (t_.Types[a0]?).bind fun c0 =>
     chk ((b0).length + (c0.Supers).length ≤ 137438953472) (
     r22_used_L1 n d0 c0 n (b0 ++ c0.Supers) 0))
  else
   k3 b0
def r22_used_L4 (n : Nat) (e0 : LL → Option LL) (a0 : (LL × LL)) : Nat → LL → Nat → Option LL
  | 0, _, _ => none
  | m5 + 1, b0, c0 =>
  if c0 < ((a0.2).length) then
   (a0.2[c0]?).bind fun d0 =>
   chk (([64]).length + (d0).length ≤ 9223372036854775807) (
   chk ((b0).length + ([[64] ++ d0]).length ≤ 137438953472) (
   r22_used_L4 n e0 a0 m5 (b0 ++ [[64] ++ d0]) (c0 + 1)))
  else
   e0 b0
def r22_used_L3 (n : Nat) (i0 : (List Def)) (j0 : Nat) (g0 : LL → Option LL) : Nat → LL → Int → Option LL
  | 0, _, _ => none
  | m4 + 1, e0, a0 =>
  (i0[j0]?).bind fun b0 =>
  if a0 < (((b0.Defaults).length : Nat) : Int) then
   jn (fun (p0 : LL) =>
    chk (-9223372036854775808 ≤ a0 + 1 ∧ a0 + 1 ≤ 9223372036854775807) (
    r22_used_L3 n i0 j0 g0 m4 p0 (a0 + 1)))
     (fun o0 =>
     jn (fun (l0 : Int) (m0 : LB) (n0 : LL) (k0 : (List Desc)) =>
      (r19_Names n (Desc.mk l0 m0 n0 k0)).bind fun d0 =>
      chk ((e0).length + (d0.1).length ≤ 137438953472) (
      r22_used_L4 n o0 d0 n (e0 ++ d0.1) 0))
       (fun h0 =>
       if (0 : Int) ≤ a0 then
        (ix b0.Defaults a0).bind fun c0 =>
        h0 c0.Op c0.Name c0.Path c0.Kids
       else
        h0 b0.Strict.Op b0.Strict.Name b0.Strict.Path b0.Strict.Kids))
  else
   g0 e0
def r22_used_L2 (n : Nat) (a0 : (List Def)) : Nat → LL → Nat → Option LL
  | 0, _, _ => none
  | m3 + 1, c0, b0 =>
  if b0 < ((a0).length) then
   jn (fun (e0 : LL) =>
    r22_used_L2 n a0 m3 e0 (b0 + 1))
     (fun d0 =>
     r22_used_L3 n a0 b0 d0 n c0 (-1))
  else
   some c0
def r22_used (n : Nat) (t_ : Module) : Option LL :=
 jn (fun (b0 : LL) =>
  (r22_definitions n t_).bind fun a0 =>
  r22_used_L2 n a0 n b0 0)
   (fun k3 =>
   r22_used_L0 n t_ k3 n [] 0)
def r22_Link_L1 (n : Nat) (c0 : Option (Module × Int)) (d0 : LL) (a0 : LL) : Nat → Nat → Option (Module × Int)
  | 0, _ => none
  | m2 + 1, b0 =>
  if b0 < ((a0).length) then
   (a0[b0]?).bind fun g0 =>
   (r22_has n d0 g0).bind fun e0 =>
   if (!(e0)) = true then
    some ((Module.mk [] [] [] [] [] [] [] [] [] []), 5)
   else
    r22_Link_L1 n c0 d0 a0 m2 (b0 + 1)
  else
   c0
def r22_Link_L0 (n : Nat) (t_ : (List Module)) (r3 : (LL × Int)) (b0 : Option (Module × Int)) : Nat → Nat → Option (Module × Int)
  | 0, _ => none
  | m1 + 1, a0 =>
  if a0 < ((r3.1).length) then
   jn (
    r22_Link_L0 n t_ r3 b0 m1 (a0 + 1))
     (fun d0 =>
     (r3.1[a0]?).bind fun c0 =>
     (r22_Visible n t_ c0).bind fun e0 =>
     (r22_find n t_ c0).bind fun g0 =>
     (ix t_ g0).bind fun i0 =>
     (r22_used n i0).bind fun h0 =>
     r22_Link_L1 n d0 e0 h0 n 0)
  else
   b0
def r22_Link (n : Nat) (t_ : (List Module)) (t_' : LB) : Option (Module × Int) :=
 (r22_Order n t_ t_').bind fun r3 =>
 if r3.2 ≠ 0 then
  some ((Module.mk [] [] [] [] [] [] [] [] [] []), r3.2)
 else
  (r22_joined n t_ r3.1 t_').bind fun r9 =>
  jn (fun (n0 : Bool) =>
   if n0 = true then
    some ((Module.mk [] [] [] [] [] [] [] [] [] []), 4)
   else
    jn (
     some (r9, 0))
      (fun d0 =>
      r22_Link_L0 n t_ r3 d0 n 0))
    (fun a0 =>
    (r06_Prelude n).bind fun e0 =>
    (r22_typeNames n e0).bind fun b0 =>
    (r22_typeNames n r9.Types).bind fun c0 =>
    chk ((b0).length + (c0).length ≤ 137438953472) (
    (r22_twice n (b0 ++ c0)).bind fun g0 =>
    if g0 = true then
     a0 true
    else
     (r22_defNames n r9.Templates).bind fun h0 =>
     (r22_twice n h0).bind fun i0 =>
     if i0 = true then
      a0 true
     else
      (r22_ruleNames n r9).bind fun j0 =>
      (r22_twice n j0).bind fun k0 =>
      if k0 = true then
       a0 true
      else
       (r22_defNames n r9.Roots).bind fun l0 =>
       (r22_twice n l0).bind fun m0 =>
       a0 m0))
def r21_sameTypes_L1 (n : Nat) (t_ : (List TypeDecl)) (t_' : (List TypeDecl)) (b0 : Nat) (k5 : Option Bool) : Nat → Nat → Option Bool
  | 0, _ => none
  | m2 + 1, a0 =>
  (t_[b0]?).bind fun c0 =>
  if a0 < ((c0.Feats).length) then
   (c0.Feats[a0]?).bind fun d0 =>
   (t_'[b0]?).bind fun e0 =>
   (e0.Feats[a0]?).bind fun g0 =>
   if d0 = g0 then
    r21_sameTypes_L1 n t_ t_' b0 k5 m2 (a0 + 1)
   else
    some false
  else
   k5
def r21_sameTypes_L0 (n : Nat) (t_ : (List TypeDecl)) (t_' : (List TypeDecl)) : Nat → Nat → Option Bool
  | 0, _ => none
  | m1 + 1, a0 =>
  if a0 < ((t_).length) then
   jn (
    r21_sameTypes_L0 n t_ t_' m1 (a0 + 1))
     (fun k5 =>
     jn (fun (d0 : Bool) =>
      if d0 = true then
       some false
      else
       r21_sameTypes_L1 n t_ t_' a0 k5 n 0)
       (fun k6 =>
       (t_[a0]?).bind fun x9 =>
       (t_'[a0]?).bind fun b0 =>
       if (x9.Name : List UInt8) ≠ b0.Name then
        k6 true
       else
        (r01_Same n x9.Supers b0.Supers).bind fun c0 =>
        if (!(c0)) = true then
         k6 true
        else
         k6 (decide (((x9.Feats).length) ≠ ((b0.Feats).length)))))
  else
   some true
def r21_sameTypes (n : Nat) (t_ : (List TypeDecl)) (t_' : (List TypeDecl)) : Option Bool :=
 if ((t_).length) ≠ ((t_').length) then
  some false
 else
  r21_sameTypes_L0 n t_ t_' n 0
def r19_SameDescs_L0 (n : Nat) (a_ : (List Desc)) (b_ : (List Desc)) (via_ : Desc → Desc → Option Bool) : Nat → Nat → Option Bool
  | 0, _ => none
  | m1 + 1, a0 =>
  if a0 < ((a_).length) then
   (a_[a0]?).bind fun x6 =>
   (b_[a0]?).bind fun x9 =>
   (via_ x6 x9).bind fun b0 =>
   if (!(b0)) = true then
    some false
   else
    r19_SameDescs_L0 n a_ b_ via_ m1 (a0 + 1)
  else
   some true
def r19_SameDescs (n : Nat) (via_ : Desc → Desc → Option Bool) (a_ : (List Desc)) (b_ : (List Desc)) : Option Bool :=
 if ((a_).length) ≠ ((b_).length) then
  some false
 else
  r19_SameDescs_L0 n a_ b_ via_ n 0
def r19_SameDesc : Nat → Desc → Desc → Option Bool
  | 0, _, _ => none
  | n + 1, a_, b_ =>
  if a_.Op = b_.Op then
   if (a_.Name : List UInt8) = b_.Name then
    (r01_Same n a_.Path b_.Path).bind fun r7 =>
    if r7 = true then
     (r19_SameDescs n (r19_SameDesc n) a_.Kids b_.Kids).bind fun a0 =>
     some a0
    else
     some false
   else
    some false
  else
   some false
def r21_sameDefs_L0 (n : Nat) (a_ : (List Def)) (b_ : (List Def)) : Nat → Nat → Option Bool
  | 0, _ => none
  | m1 + 1, a0 =>
  if a0 < ((a_).length) then
   jn (fun (e0 : Bool) =>
    if e0 = true then
     some false
    else
     r21_sameDefs_L0 n a_ b_ m1 (a0 + 1))
     (fun k5 =>
     (a_[a0]?).bind fun x8 =>
     (b_[a0]?).bind fun b0 =>
     if (x8.Name : List UInt8) ≠ b0.Name then
      k5 true
     else
      (r19_SameDesc n x8.Strict b0.Strict).bind fun c0 =>
      if (!(c0)) = true then
       k5 true
      else
       (r19_SameDescs n (r19_SameDesc n) x8.Defaults b0.Defaults).bind fun d0 =>
       k5 (!(d0)))
  else
   some true
def r21_sameDefs (n : Nat) (a_ : (List Def)) (b_ : (List Def)) : Option Bool :=
 if ((a_).length) ≠ ((b_).length) then
  some false
 else
  r21_sameDefs_L0 n a_ b_ n 0
def r21_SameAffix_L0 (n : Nat) (a_ : Affix) (b_ : Affix) : Nat → Nat → Option Bool
  | 0, _ => none
  | m1 + 1, a0 =>
  if a0 < ((a_.Pairs).length) then
   (a_.Pairs[a0]?).bind fun b0 =>
   (b_.Pairs[a0]?).bind fun c0 =>
   if b0 = c0 then
    r21_SameAffix_L0 n a_ b_ m1 (a0 + 1)
   else
    some false
  else
   some true
def r21_SameAffix (n : Nat) (a_ : Affix) (b_ : Affix) : Option Bool :=
 jn (fun (a0 : Bool) =>
  if a0 = true then
   some false
  else
   r21_SameAffix_L0 n a_ b_ n 0)
   (fun k5 =>
   if a_.Kind ≠ b_.Kind then
    k5 true
   else
    k5 (decide (((a_.Pairs).length) ≠ ((b_.Pairs).length))))
def r21_sameLists_L0 (n : Nat) (t_ : Module) (t_' : Module) (b0 : Option Bool) : Nat → Nat → Option Bool
  | 0, _ => none
  | m1 + 1, a0 =>
  if a0 < ((t_.Entries).length) then
   jn (fun (i0 : Bool) =>
    if i0 = true then
     some false
    else
     r21_sameLists_L0 n t_ t_' b0 m1 (a0 + 1))
     (fun c0 =>
     (t_.Entries[a0]?).bind fun d0 =>
     (t_'.Entries[a0]?).bind fun e0 =>
     (r01_Same n d0.Words e0.Words).bind fun g0 =>
     if (!(g0)) = true then
      c0 true
     else
      (r21_sameDefs n [d0.Def] [e0.Def]).bind fun h0 =>
      c0 (!(h0)))
  else
   b0
def r21_sameLists_L1 (n : Nat) (t_ : Module) (t_' : Module) (b0 : Option Bool) : Nat → Nat → Option Bool
  | 0, _ => none
  | m2 + 1, a0 =>
  if a0 < ((t_.LexRules).length) then
   jn (fun (i0 : Bool) =>
    if i0 = true then
     some false
    else
     r21_sameLists_L1 n t_ t_' b0 m2 (a0 + 1))
     (fun c0 =>
     (t_.LexRules[a0]?).bind fun d0 =>
     (t_'.LexRules[a0]?).bind fun e0 =>
     (r21_SameAffix n d0.Affix e0.Affix).bind fun g0 =>
     if (!(g0)) = true then
      c0 true
     else
      (r21_sameDefs n [d0.Def] [e0.Def]).bind fun h0 =>
      c0 (!(h0)))
  else
   b0
def r21_sameLists_L2 (n : Nat) (t_ : Module) (t_' : Module) : Nat → Nat → Option Bool
  | 0, _ => none
  | m3 + 1, a0 =>
  if a0 < ((t_.Checks).length) then
   (t_.Checks[a0]?).bind fun c0 =>
   (t_'.Checks[a0]?).bind fun d0 =>
   (r01_Same n c0 d0).bind fun b0 =>
   if (!(b0)) = true then
    some false
   else
    r21_sameLists_L2 n t_ t_' m3 (a0 + 1)
  else
   some true
def r21_sameLists (n : Nat) (t_ : Module) (t_' : Module) : Option Bool :=
 jn (fun (c0 : Bool) =>
  if c0 = true then
   some false
  else
   jn (
    jn (
     r21_sameLists_L2 n t_ t_' n 0)
      (fun b0 =>
      r21_sameLists_L1 n t_ t_' b0 n 0))
     (fun a0 =>
     r21_sameLists_L0 n t_ t_' a0 n 0))
   (fun k5 =>
   if ((t_.Entries).length) ≠ ((t_'.Entries).length) then
    k5 true
   else
    if ((t_.LexRules).length) ≠ ((t_'.LexRules).length) then
     k5 true
    else
     k5 (decide (((t_.Checks).length) ≠ ((t_'.Checks).length))))
def r21_SameModule (n : Nat) (a_ : Module) (b_ : Module) : Option Bool :=
 if (a_.Name : List UInt8) = b_.Name then
  (r01_Same n a_.Imports b_.Imports).bind fun r6 =>
  if r6 = true then
   (r21_sameTypes n a_.Types b_.Types).bind fun a0 =>
   if a0 = true then
    (r21_sameDefs n a_.Templates b_.Templates).bind fun b0 =>
    if b0 = true then
     (r21_sameLists n a_ b_).bind fun c0 =>
     if c0 = true then
      (r21_sameDefs n a_.Rules b_.Rules).bind fun d0 =>
      if d0 = true then
       (r21_sameDefs n a_.Roots b_.Roots).bind fun e0 =>
       if e0 = true then
        (r01_Same n a_.Drops b_.Drops).bind fun g0 =>
        some g0
       else
        some false
      else
       some false
     else
      some false
    else
     some false
   else
    some false
  else
   some false
 else
  some false
def law22_ModuleLinks (n : Nat) (l_ : (List Module)) (main_ : LB) : Option Bool :=
 (law22_light n l_).bind fun r1 =>
 if (!(r1)) = true then
  (law22_exampleHolds n).bind fun r7 =>
  some r7
 else
  (module_Link n l_ main_).bind fun a0 =>
  (r22_Link n l_ main_).bind fun b0 =>
  if a0.2 = b0.2 then
   (r21_SameModule n a0.1 b0.1).bind fun c0 =>
   if c0 = true then
    (law22_exampleHolds n).bind fun d0 =>
    some d0
   else
    some false
  else
   some false
end Go.Proofs.YtbhjplflnkidgaaGreat

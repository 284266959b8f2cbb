/- Chapter 22: types, plain programs -/
import Derived.Test.YtbhjplflnkidgaaGreatA0
import Derived.Test.YtbhjplflnkidgaaGreatGl15
import Derived.Test.YtbhjplflnkidgaaGreatGl16
import Derived.Test.YtbhjplflnkidgaaGreatGl28
import Derived.Test.YtbhjplflnkidgaaGreatGl29
import Derived.Test.YtbhjplflnkidgaaGreatGl27
import Derived.Test.YtbhjplflnkidgaaGreatGl35
import Derived.Test.YtbhjplflnkidgaaGreatProg
namespace Go.Proofs.YtbhjplflnkidgaaGreat
open Go.Gl Go.RowKit Tryz
set_option linter.unusedVariables false
set_option linter.unusedSimpArgs false
set_option maxRecDepth 4000

structure FeatDecl where
  mk ::
  Feat : (List UInt8)
  Value : (List UInt8)
  deriving DecidableEq
def RFeatDecl : Rep FeatDecl := Rep.via (Rep.prod Rep.str Rep.str) (fun x => (x.Feat, x.Value))
theorem RFeatDecl.open {M : Bs} {w : World} {cs : List Value} {x : FeatDecl} (h : RFeatDecl.rd M w cs x) : cs = [.string (bs (x.Feat)), .string (bs (x.Value))] ∧ ((x.Feat).length ≤ 9223372036854775807) ∧ ((x.Value).length ≤ 9223372036854775807) := by
  obtain ⟨_, _, rfl, h0, r0⟩ := h
  obtain ⟨rfl, p0⟩ := h0
  obtain ⟨rfl, p1⟩ := r0
  exact ⟨rfl, p0, p1⟩
theorem RFeatDecl.mk' {M : Bs} {w : World} {x : FeatDecl}  (p0 : (x.Feat).length ≤ 9223372036854775807) (p1 : (x.Value).length ≤ 9223372036854775807) : RFeatDecl.rd M w [.string (bs (x.Feat)), .string (bs (x.Value))] x := ⟨_, _, rfl, ⟨rfl, p0⟩, ⟨rfl, p1⟩⟩
structure TypeDecl where
  mk ::
  Name : (List UInt8)
  Supers : (List (List UInt8))
  Feats : (List FeatDecl)
  deriving DecidableEq
def RTypeDecl : Rep TypeDecl := Rep.via (Rep.prod Rep.str (Rep.prod (Rep.list Rep.str) (Rep.list RFeatDecl))) (fun x => (x.Name, (x.Supers, x.Feats)))
theorem RTypeDecl.open {M : Bs} {w : World} {cs : List Value} {x : TypeDecl} (h : RTypeDecl.rd M w cs x) : ∃ (Aq2 : Option Addr), ∃ (cq2 : Nat), ∃ (Aq3 : Option Addr), ∃ (cq3 : Nat), cs = [.string (bs (x.Name)), .slice (Aq2) ((x.Supers).length) (cq2), .slice (Aq3) ((x.Feats).length) (cq3)] ∧ ((x.Name).length ≤ 9223372036854775807) ∧ (SlR Rep.str M w Aq2 (x.Supers).length cq2 (x.Supers)) ∧ (SlR RFeatDecl M w Aq3 (x.Feats).length cq3 (x.Feats)) := by
  obtain ⟨_, _, rfl, h0, r0⟩ := h
  obtain ⟨rfl, p0⟩ := h0
  obtain ⟨_, _, rfl, h1, r1⟩ := r0
  obtain ⟨A1, n1, c1, rfl, p1⟩ := h1
  obtain rfl := p1.len
  obtain ⟨A2, n2, c2, rfl, p2⟩ := r1
  obtain rfl := p2.len
  exact ⟨A1, c1, A2, c2, rfl, p0, p1, p2⟩
theorem RTypeDecl.mk' {M : Bs} {w : World} {x : TypeDecl} {Aq2 : Option Addr} {cq2 : Nat} {Aq3 : Option Addr} {cq3 : Nat} (p0 : (x.Name).length ≤ 9223372036854775807) (p1 : SlR Rep.str M w Aq2 (x.Supers).length cq2 (x.Supers)) (p2 : SlR RFeatDecl M w Aq3 (x.Feats).length cq3 (x.Feats)) : RTypeDecl.rd M w [.string (bs (x.Name)), .slice (Aq2) ((x.Supers).length) (cq2), .slice (Aq3) ((x.Feats).length) (cq3)] x := ⟨_, _, rfl, ⟨rfl, p0⟩, ⟨_, _, rfl, ⟨_, _, _, rfl, p1⟩, ⟨_, _, _, rfl, p2⟩⟩⟩
structure Desc where
  mk ::
  Op : Int
  Name : (List UInt8)
  Path : (List (List UInt8))
  Kids : (List Desc)
def FDesc (R : Rep Desc) : Rep Desc := Rep.via (Rep.prod (Rep.num .i64) (Rep.prod Rep.str (Rep.prod (Rep.list Rep.str) (Rep.list R)))) (fun x => (x.Op, (x.Name, (x.Path, x.Kids))))
theorem FDesc.cts : Cts FDesc := Cts.via (Cts.prod (Cts.const _) (Cts.prod (Cts.const _) (Cts.prod (Cts.const _) (Cts.list Cts.id)))) _
def RDesc : Rep Desc := Rep.mu FDesc 4 (fun _ _ => rfl)
theorem RDesc.open {M : Bs} {w : World} {cs : List Value} {x : Desc} (h : RDesc.rd M w cs x) : ∃ (Aq3 : Option Addr), ∃ (cq3 : Nat), ∃ (Aq4 : Option Addr), ∃ (cq4 : Nat), cs = [.int .i64 (x.Op), .string (bs (x.Name)), .slice (Aq3) ((x.Path).length) (cq3), .slice (Aq4) ((x.Kids).length) (cq4)] ∧ ((x.Name).length ≤ 9223372036854775807) ∧ (SlR Rep.str M w Aq3 (x.Path).length cq3 (x.Path)) ∧ (SlR RDesc M w Aq4 (x.Kids).length cq4 (x.Kids)) := by
  replace h := Rep.mu_open FDesc.cts h
  obtain ⟨_, _, rfl, h0, r0⟩ := h
  obtain rfl := h0
  obtain ⟨_, _, rfl, h1, r1⟩ := r0
  obtain ⟨rfl, p0⟩ := h1
  obtain ⟨_, _, rfl, h2, r2⟩ := r1
  obtain ⟨A1, n1, c1, rfl, p1⟩ := h2
  obtain rfl := p1.len
  obtain ⟨A2, n2, c2, rfl, p2⟩ := r2
  obtain rfl := p2.len
  exact ⟨A1, c1, A2, c2, rfl, p0, p1, p2⟩
theorem RDesc.mk' {M : Bs} {w : World} {x : Desc} {Aq3 : Option Addr} {cq3 : Nat} {Aq4 : Option Addr} {cq4 : Nat} (p0 : (x.Name).length ≤ 9223372036854775807) (p1 : SlR Rep.str M w Aq3 (x.Path).length cq3 (x.Path)) (p2 : SlR RDesc M w Aq4 (x.Kids).length cq4 (x.Kids)) : RDesc.rd M w [.int .i64 (x.Op), .string (bs (x.Name)), .slice (Aq3) ((x.Path).length) (cq3), .slice (Aq4) ((x.Kids).length) (cq4)] x := Rep.mu_mk FDesc.cts (show (FDesc RDesc).rd M w [.int .i64 (x.Op), .string (bs (x.Name)), .slice (Aq3) ((x.Path).length) (cq3), .slice (Aq4) ((x.Kids).length) (cq4)] x from ⟨_, _, rfl, rfl, ⟨_, _, rfl, ⟨rfl, p0⟩, ⟨_, _, rfl, ⟨_, _, _, rfl, p1⟩, ⟨_, _, _, rfl, p2⟩⟩⟩⟩)
structure Def where
  mk ::
  Name : (List UInt8)
  Strict : Desc
  Defaults : (List Desc)
def RDef : Rep Def := Rep.via (Rep.prod Rep.str (Rep.prod RDesc (Rep.list RDesc))) (fun x => (x.Name, (x.Strict, x.Defaults)))
theorem RDef.open {M : Bs} {w : World} {cs : List Value} {x : Def} (h : RDef.rd M w cs x) : ∃ (Aq4 : Option Addr), ∃ (cq4 : Nat), ∃ (Aq5 : Option Addr), ∃ (cq5 : Nat), ∃ (Aq6 : Option Addr), ∃ (cq6 : Nat), cs = [.string (bs (x.Name)), .int .i64 (x.Strict.Op), .string (bs (x.Strict.Name)), .slice (Aq4) ((x.Strict.Path).length) (cq4), .slice (Aq5) ((x.Strict.Kids).length) (cq5), .slice (Aq6) ((x.Defaults).length) (cq6)] ∧ ((x.Name).length ≤ 9223372036854775807) ∧ ((x.Strict.Name).length ≤ 9223372036854775807) ∧ (SlR Rep.str M w Aq4 (x.Strict.Path).length cq4 (x.Strict.Path)) ∧ (SlR RDesc M w Aq5 (x.Strict.Kids).length cq5 (x.Strict.Kids)) ∧ (SlR RDesc M w Aq6 (x.Defaults).length cq6 (x.Defaults)) := by
  obtain ⟨_, _, rfl, h0, r0⟩ := h
  obtain ⟨rfl, p0⟩ := h0
  obtain ⟨_, _, rfl, h1, r1⟩ := r0
  obtain ⟨E1, E2, E3, E4, rfl, p5, p6, p7⟩ := RDesc.open h1
  obtain ⟨A8, n8, c8, rfl, p8⟩ := r1
  obtain rfl := p8.len
  exact ⟨E1, E2, E3, E4, A8, c8, rfl, p0, p5, p6, p7, p8⟩
theorem RDef.mk' {M : Bs} {w : World} {x : Def} {Aq4 : Option Addr} {cq4 : Nat} {Aq5 : Option Addr} {cq5 : Nat} {Aq6 : Option Addr} {cq6 : Nat} (p0 : (x.Name).length ≤ 9223372036854775807) (p1 : (x.Strict.Name).length ≤ 9223372036854775807) (p2 : SlR Rep.str M w Aq4 (x.Strict.Path).length cq4 (x.Strict.Path)) (p3 : SlR RDesc M w Aq5 (x.Strict.Kids).length cq5 (x.Strict.Kids)) (p4 : SlR RDesc M w Aq6 (x.Defaults).length cq6 (x.Defaults)) : RDef.rd M w [.string (bs (x.Name)), .int .i64 (x.Strict.Op), .string (bs (x.Strict.Name)), .slice (Aq4) ((x.Strict.Path).length) (cq4), .slice (Aq5) ((x.Strict.Kids).length) (cq5), .slice (Aq6) ((x.Defaults).length) (cq6)] x := ⟨_, _, rfl, ⟨rfl, p0⟩, ⟨_, _, rfl, (RDesc.mk' p1 p2 p3), ⟨_, _, _, rfl, p4⟩⟩⟩
structure EntryDecl where
  mk ::
  Words : (List (List UInt8))
  Def : Def
def REntryDecl : Rep EntryDecl := Rep.via (Rep.prod (Rep.list Rep.str) RDef) (fun x => (x.Words, x.Def))
theorem REntryDecl.open {M : Bs} {w : World} {cs : List Value} {x : EntryDecl} (h : REntryDecl.rd M w cs x) : ∃ (Aq1 : Option Addr), ∃ (cq1 : Nat), ∃ (Aq5 : Option Addr), ∃ (cq5 : Nat), ∃ (Aq6 : Option Addr), ∃ (cq6 : Nat), ∃ (Aq7 : Option Addr), ∃ (cq7 : Nat), cs = [.slice (Aq1) ((x.Words).length) (cq1), .string (bs (x.Def.Name)), .int .i64 (x.Def.Strict.Op), .string (bs (x.Def.Strict.Name)), .slice (Aq5) ((x.Def.Strict.Path).length) (cq5), .slice (Aq6) ((x.Def.Strict.Kids).length) (cq6), .slice (Aq7) ((x.Def.Defaults).length) (cq7)] ∧ (SlR Rep.str M w Aq1 (x.Words).length cq1 (x.Words)) ∧ ((x.Def.Name).length ≤ 9223372036854775807) ∧ ((x.Def.Strict.Name).length ≤ 9223372036854775807) ∧ (SlR Rep.str M w Aq5 (x.Def.Strict.Path).length cq5 (x.Def.Strict.Path)) ∧ (SlR RDesc M w Aq6 (x.Def.Strict.Kids).length cq6 (x.Def.Strict.Kids)) ∧ (SlR RDesc M w Aq7 (x.Def.Defaults).length cq7 (x.Def.Defaults)) := by
  obtain ⟨_, _, rfl, h0, r0⟩ := h
  obtain ⟨A0, n0, c0, rfl, p0⟩ := h0
  obtain rfl := p0.len
  obtain ⟨E1, E2, E3, E4, E5, E6, rfl, p7, p8, p9, p10, p11⟩ := RDef.open r0
  exact ⟨A0, c0, E1, E2, E3, E4, E5, E6, rfl, p0, p7, p8, p9, p10, p11⟩
theorem REntryDecl.mk' {M : Bs} {w : World} {x : EntryDecl} {Aq1 : Option Addr} {cq1 : Nat} {Aq5 : Option Addr} {cq5 : Nat} {Aq6 : Option Addr} {cq6 : Nat} {Aq7 : Option Addr} {cq7 : Nat} (p0 : SlR Rep.str M w Aq1 (x.Words).length cq1 (x.Words)) (p1 : (x.Def.Name).length ≤ 9223372036854775807) (p2 : (x.Def.Strict.Name).length ≤ 9223372036854775807) (p3 : SlR Rep.str M w Aq5 (x.Def.Strict.Path).length cq5 (x.Def.Strict.Path)) (p4 : SlR RDesc M w Aq6 (x.Def.Strict.Kids).length cq6 (x.Def.Strict.Kids)) (p5 : SlR RDesc M w Aq7 (x.Def.Defaults).length cq7 (x.Def.Defaults)) : REntryDecl.rd M w [.slice (Aq1) ((x.Words).length) (cq1), .string (bs (x.Def.Name)), .int .i64 (x.Def.Strict.Op), .string (bs (x.Def.Strict.Name)), .slice (Aq5) ((x.Def.Strict.Path).length) (cq5), .slice (Aq6) ((x.Def.Strict.Kids).length) (cq6), .slice (Aq7) ((x.Def.Defaults).length) (cq7)] x := ⟨_, _, rfl, ⟨_, _, _, rfl, p0⟩, (RDef.mk' p1 p2 p3 p4 p5)⟩
structure Change where
  mk ::
  Old : (List UInt8)
  New : (List UInt8)
  deriving DecidableEq
def RChange : Rep Change := Rep.via (Rep.prod Rep.str Rep.str) (fun x => (x.Old, x.New))
theorem RChange.open {M : Bs} {w : World} {cs : List Value} {x : Change} (h : RChange.rd M w cs x) : cs = [.string (bs (x.Old)), .string (bs (x.New))] ∧ ((x.Old).length ≤ 9223372036854775807) ∧ ((x.New).length ≤ 9223372036854775807) := by
  obtain ⟨_, _, rfl, h0, r0⟩ := h
  obtain ⟨rfl, p0⟩ := h0
  obtain ⟨rfl, p1⟩ := r0
  exact ⟨rfl, p0, p1⟩
theorem RChange.mk' {M : Bs} {w : World} {x : Change}  (p0 : (x.Old).length ≤ 9223372036854775807) (p1 : (x.New).length ≤ 9223372036854775807) : RChange.rd M w [.string (bs (x.Old)), .string (bs (x.New))] x := ⟨_, _, rfl, ⟨rfl, p0⟩, ⟨rfl, p1⟩⟩
structure Affix where
  mk ::
  Kind : Int
  Pairs : (List Change)
  deriving DecidableEq
def RAffix : Rep Affix := Rep.via (Rep.prod (Rep.num .i64) (Rep.list RChange)) (fun x => (x.Kind, x.Pairs))
theorem RAffix.open {M : Bs} {w : World} {cs : List Value} {x : Affix} (h : RAffix.rd M w cs x) : ∃ (Aq2 : Option Addr), ∃ (cq2 : Nat), cs = [.int .i64 (x.Kind), .slice (Aq2) ((x.Pairs).length) (cq2)] ∧ (SlR RChange M w Aq2 (x.Pairs).length cq2 (x.Pairs)) := by
  obtain ⟨_, _, rfl, h0, r0⟩ := h
  obtain rfl := h0
  obtain ⟨A0, n0, c0, rfl, p0⟩ := r0
  obtain rfl := p0.len
  exact ⟨A0, c0, rfl, p0⟩
theorem RAffix.mk' {M : Bs} {w : World} {x : Affix} {Aq2 : Option Addr} {cq2 : Nat} (p0 : SlR RChange M w Aq2 (x.Pairs).length cq2 (x.Pairs)) : RAffix.rd M w [.int .i64 (x.Kind), .slice (Aq2) ((x.Pairs).length) (cq2)] x := ⟨_, _, rfl, rfl, ⟨_, _, _, rfl, p0⟩⟩
structure LexDecl where
  mk ::
  Affix : Affix
  Def : Def
def RLexDecl : Rep LexDecl := Rep.via (Rep.prod RAffix RDef) (fun x => (x.Affix, x.Def))
theorem RLexDecl.open {M : Bs} {w : World} {cs : List Value} {x : LexDecl} (h : RLexDecl.rd M w cs x) : ∃ (Aq2 : Option Addr), ∃ (cq2 : Nat), ∃ (Aq6 : Option Addr), ∃ (cq6 : Nat), ∃ (Aq7 : Option Addr), ∃ (cq7 : Nat), ∃ (Aq8 : Option Addr), ∃ (cq8 : Nat), cs = [.int .i64 (x.Affix.Kind), .slice (Aq2) ((x.Affix.Pairs).length) (cq2), .string (bs (x.Def.Name)), .int .i64 (x.Def.Strict.Op), .string (bs (x.Def.Strict.Name)), .slice (Aq6) ((x.Def.Strict.Path).length) (cq6), .slice (Aq7) ((x.Def.Strict.Kids).length) (cq7), .slice (Aq8) ((x.Def.Defaults).length) (cq8)] ∧ (SlR RChange M w Aq2 (x.Affix.Pairs).length cq2 (x.Affix.Pairs)) ∧ ((x.Def.Name).length ≤ 9223372036854775807) ∧ ((x.Def.Strict.Name).length ≤ 9223372036854775807) ∧ (SlR Rep.str M w Aq6 (x.Def.Strict.Path).length cq6 (x.Def.Strict.Path)) ∧ (SlR RDesc M w Aq7 (x.Def.Strict.Kids).length cq7 (x.Def.Strict.Kids)) ∧ (SlR RDesc M w Aq8 (x.Def.Defaults).length cq8 (x.Def.Defaults)) := by
  obtain ⟨_, _, rfl, h0, r0⟩ := h
  obtain ⟨E0, E1, rfl, p2⟩ := RAffix.open h0
  obtain ⟨E3, E4, E5, E6, E7, E8, rfl, p9, p10, p11, p12, p13⟩ := RDef.open r0
  exact ⟨E0, E1, E3, E4, E5, E6, E7, E8, rfl, p2, p9, p10, p11, p12, p13⟩
theorem RLexDecl.mk' {M : Bs} {w : World} {x : LexDecl} {Aq2 : Option Addr} {cq2 : Nat} {Aq6 : Option Addr} {cq6 : Nat} {Aq7 : Option Addr} {cq7 : Nat} {Aq8 : Option Addr} {cq8 : Nat} (p0 : SlR RChange M w Aq2 (x.Affix.Pairs).length cq2 (x.Affix.Pairs)) (p1 : (x.Def.Name).length ≤ 9223372036854775807) (p2 : (x.Def.Strict.Name).length ≤ 9223372036854775807) (p3 : SlR Rep.str M w Aq6 (x.Def.Strict.Path).length cq6 (x.Def.Strict.Path)) (p4 : SlR RDesc M w Aq7 (x.Def.Strict.Kids).length cq7 (x.Def.Strict.Kids)) (p5 : SlR RDesc M w Aq8 (x.Def.Defaults).length cq8 (x.Def.Defaults)) : RLexDecl.rd M w [.int .i64 (x.Affix.Kind), .slice (Aq2) ((x.Affix.Pairs).length) (cq2), .string (bs (x.Def.Name)), .int .i64 (x.Def.Strict.Op), .string (bs (x.Def.Strict.Name)), .slice (Aq6) ((x.Def.Strict.Path).length) (cq6), .slice (Aq7) ((x.Def.Strict.Kids).length) (cq7), .slice (Aq8) ((x.Def.Defaults).length) (cq8)] x := ⟨_, _, rfl, (RAffix.mk' p0), (RDef.mk' p1 p2 p3 p4 p5)⟩
structure Module where
  mk ::
  Name : (List UInt8)
  Imports : (List (List UInt8))
  Types : (List TypeDecl)
  Templates : (List Def)
  Entries : (List EntryDecl)
  LexRules : (List LexDecl)
  Rules : (List Def)
  Roots : (List Def)
  Checks : (List (List (List UInt8)))
  Drops : (List (List UInt8))
def RModule : Rep Module := Rep.via (Rep.prod Rep.str (Rep.prod (Rep.list Rep.str) (Rep.prod (Rep.list RTypeDecl) (Rep.prod (Rep.list RDef) (Rep.prod (Rep.list REntryDecl) (Rep.prod (Rep.list RLexDecl) (Rep.prod (Rep.list RDef) (Rep.prod (Rep.list RDef) (Rep.prod (Rep.list (Rep.list Rep.str)) (Rep.list Rep.str)))))))))) (fun x => (x.Name, (x.Imports, (x.Types, (x.Templates, (x.Entries, (x.LexRules, (x.Rules, (x.Roots, (x.Checks, x.Drops))))))))))
theorem RModule.open {M : Bs} {w : World} {cs : List Value} {x : Module} (h : RModule.rd M w cs x) : ∃ (Aq2 : Option Addr), ∃ (cq2 : Nat), ∃ (Aq3 : Option Addr), ∃ (cq3 : Nat), ∃ (Aq4 : Option Addr), ∃ (cq4 : Nat), ∃ (Aq5 : Option Addr), ∃ (cq5 : Nat), ∃ (Aq6 : Option Addr), ∃ (cq6 : Nat), ∃ (Aq7 : Option Addr), ∃ (cq7 : Nat), ∃ (Aq8 : Option Addr), ∃ (cq8 : Nat), ∃ (Aq9 : Option Addr), ∃ (cq9 : Nat), ∃ (Aq10 : Option Addr), ∃ (cq10 : Nat), cs = [.string (bs (x.Name)), .slice (Aq2) ((x.Imports).length) (cq2), .slice (Aq3) ((x.Types).length) (cq3), .slice (Aq4) ((x.Templates).length) (cq4), .slice (Aq5) ((x.Entries).length) (cq5), .slice (Aq6) ((x.LexRules).length) (cq6), .slice (Aq7) ((x.Rules).length) (cq7), .slice (Aq8) ((x.Roots).length) (cq8), .slice (Aq9) ((x.Checks).length) (cq9), .slice (Aq10) ((x.Drops).length) (cq10)] ∧ ((x.Name).length ≤ 9223372036854775807) ∧ (SlR Rep.str M w Aq2 (x.Imports).length cq2 (x.Imports)) ∧ (SlR RTypeDecl M w Aq3 (x.Types).length cq3 (x.Types)) ∧ (SlR RDef M w Aq4 (x.Templates).length cq4 (x.Templates)) ∧ (SlR REntryDecl M w Aq5 (x.Entries).length cq5 (x.Entries)) ∧ (SlR RLexDecl M w Aq6 (x.LexRules).length cq6 (x.LexRules)) ∧ (SlR RDef M w Aq7 (x.Rules).length cq7 (x.Rules)) ∧ (SlR RDef M w Aq8 (x.Roots).length cq8 (x.Roots)) ∧ (SlR (Rep.list Rep.str) M w Aq9 (x.Checks).length cq9 (x.Checks)) ∧ (SlR Rep.str M w Aq10 (x.Drops).length cq10 (x.Drops)) := by
  obtain ⟨_, _, rfl, h0, r0⟩ := h
  obtain ⟨rfl, p0⟩ := h0
  obtain ⟨_, _, rfl, h1, r1⟩ := r0
  obtain ⟨A1, n1, c1, rfl, p1⟩ := h1
  obtain rfl := p1.len
  obtain ⟨_, _, rfl, h2, r2⟩ := r1
  obtain ⟨A2, n2, c2, rfl, p2⟩ := h2
  obtain rfl := p2.len
  obtain ⟨_, _, rfl, h3, r3⟩ := r2
  obtain ⟨A3, n3, c3, rfl, p3⟩ := h3
  obtain rfl := p3.len
  obtain ⟨_, _, rfl, h4, r4⟩ := r3
  obtain ⟨A4, n4, c4, rfl, p4⟩ := h4
  obtain rfl := p4.len
  obtain ⟨_, _, rfl, h5, r5⟩ := r4
  obtain ⟨A5, n5, c5, rfl, p5⟩ := h5
  obtain rfl := p5.len
  obtain ⟨_, _, rfl, h6, r6⟩ := r5
  obtain ⟨A6, n6, c6, rfl, p6⟩ := h6
  obtain rfl := p6.len
  obtain ⟨_, _, rfl, h7, r7⟩ := r6
  obtain ⟨A7, n7, c7, rfl, p7⟩ := h7
  obtain rfl := p7.len
  obtain ⟨_, _, rfl, h8, r8⟩ := r7
  obtain ⟨A8, n8, c8, rfl, p8⟩ := h8
  obtain rfl := p8.len
  obtain ⟨A9, n9, c9, rfl, p9⟩ := r8
  obtain rfl := p9.len
  exact ⟨A1, c1, A2, c2, A3, c3, A4, c4, A5, c5, A6, c6, A7, c7, A8, c8, A9, c9, rfl, p0, p1, p2, p3, p4, p5, p6, p7, p8, p9⟩
theorem RModule.mk' {M : Bs} {w : World} {x : Module} {Aq2 : Option Addr} {cq2 : Nat} {Aq3 : Option Addr} {cq3 : Nat} {Aq4 : Option Addr} {cq4 : Nat} {Aq5 : Option Addr} {cq5 : Nat} {Aq6 : Option Addr} {cq6 : Nat} {Aq7 : Option Addr} {cq7 : Nat} {Aq8 : Option Addr} {cq8 : Nat} {Aq9 : Option Addr} {cq9 : Nat} {Aq10 : Option Addr} {cq10 : Nat} (p0 : (x.Name).length ≤ 9223372036854775807) (p1 : SlR Rep.str M w Aq2 (x.Imports).length cq2 (x.Imports)) (p2 : SlR RTypeDecl M w Aq3 (x.Types).length cq3 (x.Types)) (p3 : SlR RDef M w Aq4 (x.Templates).length cq4 (x.Templates)) (p4 : SlR REntryDecl M w Aq5 (x.Entries).length cq5 (x.Entries)) (p5 : SlR RLexDecl M w Aq6 (x.LexRules).length cq6 (x.LexRules)) (p6 : SlR RDef M w Aq7 (x.Rules).length cq7 (x.Rules)) (p7 : SlR RDef M w Aq8 (x.Roots).length cq8 (x.Roots)) (p8 : SlR (Rep.list Rep.str) M w Aq9 (x.Checks).length cq9 (x.Checks)) (p9 : SlR Rep.str M w Aq10 (x.Drops).length cq10 (x.Drops)) : RModule.rd M w [.string (bs (x.Name)), .slice (Aq2) ((x.Imports).length) (cq2), .slice (Aq3) ((x.Types).length) (cq3), .slice (Aq4) ((x.Templates).length) (cq4), .slice (Aq5) ((x.Entries).length) (cq5), .slice (Aq6) ((x.LexRules).length) (cq6), .slice (Aq7) ((x.Rules).length) (cq7), .slice (Aq8) ((x.Roots).length) (cq8), .slice (Aq9) ((x.Checks).length) (cq9), .slice (Aq10) ((x.Drops).length) (cq10)] x := ⟨_, _, rfl, ⟨rfl, p0⟩, ⟨_, _, rfl, ⟨_, _, _, rfl, p1⟩, ⟨_, _, rfl, ⟨_, _, _, rfl, p2⟩, ⟨_, _, rfl, ⟨_, _, _, rfl, p3⟩, ⟨_, _, rfl, ⟨_, _, _, rfl, p4⟩, ⟨_, _, rfl, ⟨_, _, _, rfl, p5⟩, ⟨_, _, rfl, ⟨_, _, _, rfl, p6⟩, ⟨_, _, rfl, ⟨_, _, _, rfl, p7⟩, ⟨_, _, rfl, ⟨_, _, _, rfl, p8⟩, ⟨_, _, _, rfl, p9⟩⟩⟩⟩⟩⟩⟩⟩⟩⟩
def pre66 (M : Bs) (w : World) (vs : List Value) (x : Module) : Prop := ∃ (Aa2 : Option Addr), ∃ (ca2 : Nat), ∃ (Aa3 : Option Addr), ∃ (ca3 : Nat), ∃ (Aa4 : Option Addr), ∃ (ca4 : Nat), ∃ (Aa5 : Option Addr), ∃ (ca5 : Nat), ∃ (Aa6 : Option Addr), ∃ (ca6 : Nat), ∃ (Aa7 : Option Addr), ∃ (ca7 : Nat), ∃ (Aa8 : Option Addr), ∃ (ca8 : Nat), ∃ (Aa9 : Option Addr), ∃ (ca9 : Nat), ∃ (Aa10 : Option Addr), ∃ (ca10 : Nat), vs = [.agg #[.string (bs (x.Name)), .slice (Aa2) ((x.Imports).length) (ca2), .slice (Aa3) ((x.Types).length) (ca3), .slice (Aa4) ((x.Templates).length) (ca4), .slice (Aa5) ((x.Entries).length) (ca5), .slice (Aa6) ((x.LexRules).length) (ca6), .slice (Aa7) ((x.Rules).length) (ca7), .slice (Aa8) ((x.Roots).length) (ca8), .slice (Aa9) ((x.Checks).length) (ca9), .slice (Aa10) ((x.Drops).length) (ca10)]] ∧ ((x.Name).length ≤ 9223372036854775807) ∧ (SlR Rep.str M w Aa2 (x.Imports).length ca2 (x.Imports)) ∧ (SlR RTypeDecl M w Aa3 (x.Types).length ca3 (x.Types)) ∧ (SlR RDef M w Aa4 (x.Templates).length ca4 (x.Templates)) ∧ (SlR REntryDecl M w Aa5 (x.Entries).length ca5 (x.Entries)) ∧ (SlR RLexDecl M w Aa6 (x.LexRules).length ca6 (x.LexRules)) ∧ (SlR RDef M w Aa7 (x.Rules).length ca7 (x.Rules)) ∧ (SlR RDef M w Aa8 (x.Roots).length ca8 (x.Roots)) ∧ (SlR (Rep.list Rep.str) M w Aa9 (x.Checks).length ca9 (x.Checks)) ∧ (SlR Rep.str M w Aa10 (x.Drops).length ca10 (x.Drops))
def post66 (M : Bs) (w : World) (v : Value) (x : Bool) : Prop := v = .bool (x)
def pre69 (M : Bs) (w : World) (vs : List Value) (x : (List UInt8)) : Prop := vs = [.string (bs (x))] ∧ ((x).length ≤ 9223372036854775807)
def post69 (M : Bs) (w : World) (v : Value) (x : Bool) : Prop := v = .bool (x)
/-- grammarlab/grammarlabref21.count -/
def r21_count (n : Nat) (m_ : Module) : Option Int :=
 some (IntKind.i64.wrap ((IntKind.i64.wrap ((IntKind.i64.wrap ((IntKind.i64.wrap ((IntKind.i64.wrap ((IntKind.i64.wrap ((((m_.Types).length : Nat) : Int) + (((m_.Templates).length : Nat) : Int))) + (((m_.Entries).length : Nat) : Int))) + (((m_.LexRules).length : Nat) : Int))) + (((m_.Rules).length : Nat) : Int))) + (((m_.Roots).length : Nat) : Int))) + (((m_.Checks).length : Nat) : Int)))
def r21_lightNames_L0 (n : Nat) (l_ : (List (List UInt8))) : Nat → Nat → Option Bool
  | 0, _ => none
  | m1 + 1, i_2 =>
  if i_2 < ((l_).length) then
   (l_[i_2]?).bind fun x6 =>
   if (100 : Nat) < ((x6).length) then
    some false
   else
    r21_lightNames_L0 n l_ m1 (i_2 + 1)
  else
   some true
/-- grammarlab/grammarlabref21.lightNames -/
def r21_lightNames (n : Nat) (l_ : (List (List UInt8))) (most_ : Int) : Option Bool :=
 if most_ < (((l_).length : Nat) : Int) then
  some false
 else
  r21_lightNames_L0 n l_ n 0
def r21_lightTypes_L1 (n : Nat) (t_ : (List TypeDecl)) (t_1 : Nat) (k4 : Option Bool) : Nat → Nat → Option Bool
  | 0, _ => none
  | m2 + 1, t_36 =>
  (t_[t_1]?).bind fun x38 =>
  if t_36 < ((x38.Feats).length) then
   jn (fun (t_45 : Bool) =>
    if t_45 = true then
     some false
    else
     r21_lightTypes_L1 n t_ t_1 k4 m2 (t_36 + 1))
     (fun k44 =>
     (x38.Feats[t_36]?).bind fun x49 =>
     if (100 : Nat) < ((x49.Feat).length) then
      k44 true
     else
      k44 (decide ((100 : Nat) < ((x49.Value).length))))
  else
   k4
def r21_lightTypes_L0 (n : Nat) (t_ : (List TypeDecl)) : Nat → Nat → Option Bool
  | 0, _ => none
  | m1 + 1, t_1 =>
  if t_1 < ((t_).length) then
   jn (
    r21_lightTypes_L0 n t_ m1 (t_1 + 1))
     (fun k4 =>
     jn (fun (t_6 : Bool) =>
      if t_6 = true then
       some false
      else
       r21_lightTypes_L1 n t_ t_1 k4 n 0)
       (fun k5 =>
       (t_[t_1]?).bind fun x8 =>
       if (100 : Nat) < ((x8.Name).length) then
        k5 true
       else
        (r21_lightNames n x8.Supers 260).bind fun r15 =>
        if (!(r15)) = true then
         k5 true
        else
         k5 (decide ((260 : Nat) < ((x8.Feats).length)))))
  else
   some true
/-- grammarlab/grammarlabref21.lightTypes -/
def r21_lightTypes (n : Nat) (t_ : (List TypeDecl)) : Option Bool :=
 r21_lightTypes_L0 n t_ n 0
def r19_weight_L0 (n : Nat) (t_ : Desc) (t_'' : Int) (k11 : Option Int) : Nat → Nat → Option Int
  | 0, _ => none
  | m1 + 1, t_12 =>
  if t_12 < ((t_.Path).length) then
   (t_.Path[t_12]?).bind fun x16 =>
   if (60 : Nat) < ((x16).length) then
    chk (-9223372036854775808 ≤ t_'' + 1 ∧ t_'' + 1 ≤ 9223372036854775807) (
    some (t_'' + 1))
   else
    r19_weight_L0 n t_ t_'' k11 m1 (t_12 + 1)
  else
   k11
def r19_weight_L1 (n : Nat) (t_ : Desc) (t_' : Int) (t_'' : Int) (self_ : Desc → Int → Int → Option Int) : Nat → Int → Nat → Option Int
  | 0, _, _ => none
  | m2 + 1, t_23, t_24 =>
  jn (fun (t_26 : Bool) =>
   if t_26 = true then
    (t_.Kids[t_24]?).bind fun x31 =>
    chk (-9223372036854775808 ≤ t_' + 1 ∧ t_' + 1 ≤ 9223372036854775807) (
    (self_ x31 (t_' + 1) t_'').bind fun r34 =>
    chk (-9223372036854775808 ≤ t_23 + r34 ∧ t_23 + r34 ≤ 9223372036854775807) (
    chk (t_24 + 1 ≤ 9223372036854775807) (
    r19_weight_L1 n t_ t_' t_'' self_ m2 (t_23 + r34) (t_24 + 1))))
   else
    some t_23)
    (fun k25 =>
    if t_24 < ((t_.Kids).length) then
     k25 (decide (t_23 ≤ t_''))
    else
     k25 false)
/-- grammarlab/grammarlabref19.weight -/
def r19_weight : Nat → Desc → Int → Int → Option Int
  | 0, _, _, _ => none
  | n + 1, t_, t_', t_'' =>
  jn (fun (t_4 : Bool) =>
   if t_4 = true then
    chk (-9223372036854775808 ≤ t_'' + 1 ∧ t_'' + 1 ≤ 9223372036854775807) (
    some (t_'' + 1))
   else
    jn (
     r19_weight_L1 n t_ t_' t_'' (r19_weight n) n 1 0)
      (fun k11 =>
      r19_weight_L0 n t_ t_'' k11 n 0))
    (fun k3 =>
    if (80 : Int) < t_' then
     k3 true
    else
     if (60 : Nat) < ((t_.Name).length) then
      k3 true
     else
      if (80 : Nat) < ((t_.Path).length) then
       k3 true
      else
       k3 (decide (t_'' < (((t_.Kids).length : Nat) : Int))))
/-- grammarlab/grammarlabref19.Light -/
def r19_Light (n : Nat) (d_ : Desc) (most_ : Int) : Option Bool :=
 (r19_weight n d_ 1 most_).bind fun r3 =>
 some (decide (r3 ≤ most_))
def r21_lightDef_L0 (n : Nat) (x_ : Def) : Nat → Nat → Option Bool
  | 0, _ => none
  | m1 + 1, i_14 =>
  if i_14 < ((x_.Defaults).length) then
   (x_.Defaults[i_14]?).bind fun x18 =>
   (r19_Light n x18 40).bind fun r20 =>
   if (!(r20)) = true then
    some false
   else
    r21_lightDef_L0 n x_ m1 (i_14 + 1)
  else
   some true
/-- grammarlab/grammarlabref21.lightDef -/
def r21_lightDef (n : Nat) (x_ : Def) : Option Bool :=
 jn (fun (t_4 : Bool) =>
  if t_4 = true then
   some false
  else
   r21_lightDef_L0 n x_ n 0)
   (fun k3 =>
   if (60 : Nat) < ((x_.Name).length) then
    k3 true
   else
    if (8 : Nat) < ((x_.Defaults).length) then
     k3 true
    else
     (r19_Light n x_.Strict 40).bind fun r8 =>
     k3 (!(r8)))
def r21_lightDefs_L0 (n : Nat) (l_ : (List Def)) : Nat → Nat → Option Bool
  | 0, _ => none
  | m1 + 1, i_1 =>
  if i_1 < ((l_).length) then
   (l_[i_1]?).bind fun x5 =>
   (r21_lightDef n x5).bind fun r7 =>
   if (!(r7)) = true then
    some false
   else
    r21_lightDefs_L0 n l_ m1 (i_1 + 1)
  else
   some true
/-- grammarlab/grammarlabref21.lightDefs -/
def r21_lightDefs (n : Nat) (l_ : (List Def)) : Option Bool :=
 r21_lightDefs_L0 n l_ n 0
def r21_lightWords_L0 (n : Nat) (t_ : Module) (k3 : Option Bool) : Nat → Nat → Option Bool
  | 0, _ => none
  | m1 + 1, t_4 =>
  if t_4 < ((t_.Entries).length) then
   jn (fun (t_8 : Bool) =>
    if t_8 = true then
     some false
    else
     r21_lightWords_L0 n t_ k3 m1 (t_4 + 1))
     (fun k7 =>
     (t_.Entries[t_4]?).bind fun x10 =>
     (r21_lightNames n x10.Words 8).bind fun r12 =>
     if (!(r12)) = true then
      k7 true
     else
      (r21_lightDef n x10.Def).bind fun r22 =>
      k7 (!(r22)))
  else
   k3
def r21_lightWords_L2 (n : Nat) (t_ : Module) (t_35 : Nat) (k38 : Option Bool) : Nat → Nat → Option Bool
  | 0, _ => none
  | m3 + 1, t_59 =>
  (t_.LexRules[t_35]?).bind fun x61 =>
  if t_59 < ((x61.Affix.Pairs).length) then
   jn (fun (t_68 : Bool) =>
    if t_68 = true then
     some false
    else
     r21_lightWords_L2 n t_ t_35 k38 m3 (t_59 + 1))
     (fun k67 =>
     (x61.Affix.Pairs[t_59]?).bind fun x72 =>
     if (100 : Nat) < ((x72.Old).length) then
      k67 true
     else
      k67 (decide ((100 : Nat) < ((x72.New).length))))
  else
   k38
def r21_lightWords_L1 (n : Nat) (t_ : Module) (k34 : Option Bool) : Nat → Nat → Option Bool
  | 0, _ => none
  | m2 + 1, t_35 =>
  if t_35 < ((t_.LexRules).length) then
   jn (
    r21_lightWords_L1 n t_ k34 m2 (t_35 + 1))
     (fun k38 =>
     jn (fun (t_40 : Bool) =>
      if t_40 = true then
       some false
      else
       r21_lightWords_L2 n t_ t_35 k38 n 0)
       (fun k39 =>
       (t_.LexRules[t_35]?).bind fun x42 =>
       if (20 : Nat) < ((x42.Affix.Pairs).length) then
        k39 true
       else
        (r21_lightDef n x42.Def).bind fun r49 =>
        k39 (!(r49))))
  else
   k34
def r21_lightWords_L3 (n : Nat) (t_ : Module) : Nat → Nat → Option Bool
  | 0, _ => none
  | m4 + 1, t_92 =>
  if t_92 < ((t_.Checks).length) then
   (t_.Checks[t_92]?).bind fun x96 =>
   (r21_lightNames n x96 80).bind fun r98 =>
   if (!(r98)) = true then
    some false
   else
    r21_lightWords_L3 n t_ m4 (t_92 + 1)
  else
   some true
/-- grammarlab/grammarlabref21.lightWords -/
def r21_lightWords (n : Nat) (t_ : Module) : Option Bool :=
 jn (
  jn (
   r21_lightWords_L3 n t_ n 0)
    (fun k34 =>
    r21_lightWords_L1 n t_ k34 n 0))
   (fun k3 =>
   r21_lightWords_L0 n t_ k3 n 0)
/-- grammarlab/grammarlabref21.LightModule -/
def r21_LightModule (n : Nat) (m_ : Module) : Option Bool :=
 if ((m_.Name).length) ≤ 100 then
  (r21_count n m_).bind fun r4 =>
  if r4 ≤ 300 then
   (r21_lightNames n m_.Imports 300).bind fun r8 =>
   if r8 = true then
    (r21_lightNames n m_.Drops 300).bind fun r12 =>
    if r12 = true then
     (r21_lightTypes n m_.Types).bind fun r16 =>
     if r16 = true then
      (r21_lightDefs n m_.Templates).bind fun r20 =>
      if r20 = true then
       (r21_lightDefs n m_.Rules).bind fun r24 =>
       if r24 = true then
        (r21_lightDefs n m_.Roots).bind fun r28 =>
        if r28 = true then
         (r21_lightWords n m_).bind fun r32 =>
         some r32
        else
         some false
       else
        some false
      else
       some false
     else
      some false
    else
     some false
   else
    some false
  else
   some false
 else
  some false
def r21_Light_L0 (n : Nat) (l_ : (List Module)) : Nat → Int → Nat → Option Bool
  | 0, _, _ => none
  | m1 + 1, n_3, i_4 =>
  if i_4 < ((l_).length) then
   (l_[i_4]?).bind fun x8 =>
   (r21_LightModule n x8).bind fun r10 =>
   if (!(r10)) = true then
    some false
   else
    (r21_count n x8).bind fun r20 =>
    if (300 : Int) < (IntKind.i64.wrap ((IntKind.i64.wrap ((IntKind.i64.wrap (n_3 + r20)) + (((x8.Imports).length : Nat) : Int))) + (((x8.Drops).length : Nat) : Int))) then
     some false
    else
     r21_Light_L0 n l_ m1 (IntKind.i64.wrap ((IntKind.i64.wrap ((IntKind.i64.wrap (n_3 + r20)) + (((x8.Imports).length : Nat) : Int))) + (((x8.Drops).length : Nat) : Int))) (i_4 + 1)
  else
   some true
/-- grammarlab/grammarlabref21.Light -/
def r21_Light (n : Nat) (l_ : (List Module)) : Option Bool :=
 if (300 : Nat) < ((l_).length) then
  some false
 else
  r21_Light_L0 n l_ n 0 0
/-- grammarlab/grammarlabref01.digit -/
def r01_digit (n : Nat) (c_ : UInt8) : Option Bool :=
 if (48 : Nat) ≤ c_.toNat then
  some (decide (c_.toNat ≤ 57))
 else
  some false
/-- grammarlab/grammarlabref01.upper -/
def r01_upper (n : Nat) (c_ : UInt8) : Option Bool :=
 if (65 : Nat) ≤ c_.toNat then
  some (decide (c_.toNat ≤ 90))
 else
  some false
/-- grammarlab/grammarlabref01.lower -/
def r01_lower (n : Nat) (c_ : UInt8) : Option Bool :=
 if (97 : Nat) ≤ c_.toNat then
  some (decide (c_.toNat ≤ 122))
 else
  some false
/-- grammarlab/grammarlabref01.part -/
def r01_part (n : Nat) (c_ : UInt8) (big_ : Bool) : Option Bool :=
 (r01_digit n c_).bind fun r1 =>
 if r1 = true then
  some true
 else
  if c_.toNat = 45 then
   some true
  else
   if big_ = true then
    (r01_upper n c_).bind fun r11 =>
    if r11 = true then
     some true
    else
     some false
   else
    (r01_lower n c_).bind fun r23 =>
    some r23
def r01_named_L0 (n : Nat) (s_ : (List UInt8)) (big_ : Bool) : Nat → Nat → Option Bool
  | 0, _ => none
  | m1 + 1, i_15 =>
  if i_15 < ((s_).length) then
   (s_[i_15]?).bind fun c18 =>
   (r01_part n c18 big_).bind fun r19 =>
   if (!(r19)) = true then
    some false
   else
    r01_named_L0 n s_ big_ m1 (i_15 + 1)
  else
   some true
/-- grammarlab/grammarlabref01.named -/
def r01_named (n : Nat) (s_ : (List UInt8)) (big_ : Bool) : Option Bool :=
 jn (fun (t_2 : Bool) =>
  if t_2 = true then
   some false
  else
   r01_named_L0 n s_ big_ n 0)
   (fun k1 =>
   if ((s_).length) < 1 then
    k1 true
   else
    if (32 : Nat) < ((s_).length) then
     k1 true
    else
     (s_[0]?).bind fun c5 =>
     (r01_digit n c5).bind fun r6 =>
     if r6 = true then
      k1 true
     else
      k1 (decide (c5.toNat = 45)))
/-- grammarlab/grammarlabref01.Name -/
def r01_Name (n : Nat) (s_ : (List UInt8)) : Option Bool :=
 (r01_named n s_ false).bind fun r1 =>
 some r1
def r21_long_L0 (n : Nat)  : Nat → (List Int) → Nat → Option Bool
  | 0, _, _ => none
  | m1 + 1, l_5, i_9 =>
  if i_9 < ((l_5).length) then
   (l_5[i_9]?).bind fun x13 =>
   if (256 : Int) < x13 then
    some true
   else
    r21_long_L0 n m1 l_5 (i_9 + 1)
  else
   some false
/-- grammarlab/grammarlabref21.long -/
def r21_long (n : Nat) (m_ : Module) : Option Bool :=
 r21_long_L0 n  n [(((m_.Imports).length : Nat) : Int), (((m_.Types).length : Nat) : Int), (((m_.Templates).length : Nat) : Int), (((m_.Entries).length : Nat) : Int), (((m_.LexRules).length : Nat) : Int), (((m_.Rules).length : Nat) : Int), (((m_.Roots).length : Nat) : Int), (((m_.Checks).length : Nat) : Int), (((m_.Drops).length : Nat) : Int)] 0
/-- grammarlab/grammarlabref01.Feature -/
def r01_Feature (n : Nat) (s_ : (List UInt8)) : Option Bool :=
 (r01_named n s_ true).bind fun r1 =>
 some r1
def r21_allNames_L0 (n : Nat) (l_ : (List (List UInt8))) (big_ : Bool) : Nat → Nat → Option Bool
  | 0, _ => none
  | m1 + 1, i_1 =>
  if i_1 < ((l_).length) then
   jn (fun (t_5 : Bool) =>
    if t_5 = true then
     some false
    else
     r21_allNames_L0 n l_ big_ m1 (i_1 + 1))
     (fun k4 =>
     if big_ = true then
      (l_[i_1]?).bind fun x8 =>
      (r01_Feature n x8).bind fun r10 =>
      if (!(r10)) = true then
       k4 true
      else
       k4 false
     else
      (l_[i_1]?).bind fun x23 =>
      (r01_Name n x23).bind fun r25 =>
      k4 (!(r25)))
  else
   some true
/-- grammarlab/grammarlabref21.allNames -/
def r21_allNames (n : Nat) (l_ : (List (List UInt8))) (big_ : Bool) : Option Bool :=
 r21_allNames_L0 n l_ big_ n 0
def r21_first_L0 (n : Nat) (l_ : (List Int)) : Nat → Nat → Option Int
  | 0, _ => none
  | m1 + 1, i_1 =>
  if i_1 < ((l_).length) then
   (l_[i_1]?).bind fun x5 =>
   if x5 ≠ 0 then
    some x5
   else
    r21_first_L0 n l_ m1 (i_1 + 1)
  else
   some 0
/-- grammarlab/grammarlabref21.first -/
def r21_first (n : Nat) (l_ : (List Int)) : Option Int :=
 r21_first_L0 n l_ n 0
def r21_typeError_L0 (n : Nat) (x_ : TypeDecl) : Nat → Nat → Option Int
  | 0, _ => none
  | m1 + 1, i_20 =>
  if i_20 < ((x_.Feats).length) then
   jn (fun (t_24 : Bool) =>
    if t_24 = true then
     some 1
    else
     r21_typeError_L0 n x_ m1 (i_20 + 1))
     (fun k23 =>
     (x_.Feats[i_20]?).bind fun x26 =>
     (r01_Feature n x26.Feat).bind fun r28 =>
     if (!(r28)) = true then
      k23 true
     else
      (r01_Name n x26.Value).bind fun r38 =>
      k23 (!(r38)))
  else
   some 0
/-- grammarlab/grammarlabref21.typeError -/
def r21_typeError (n : Nat) (x_ : TypeDecl) : Option Int :=
 (r01_Name n x_.Name).bind fun r3 =>
 if (!(r3)) = true then
  some 1
 else
  jn (fun (t_10 : Bool) =>
   if t_10 = true then
    some 7
   else
    (r21_allNames n x_.Supers false).bind fun r14 =>
    if (!(r14)) = true then
     some 1
    else
     r21_typeError_L0 n x_ n 0)
    (fun k9 =>
    if (256 : Nat) < ((x_.Supers).length) then
     k9 true
    else
     k9 (decide ((256 : Nat) < ((x_.Feats).length))))
def r21_typesError_L0 (n : Nat) (l_ : (List TypeDecl)) : Nat → Nat → Option Int
  | 0, _ => none
  | m1 + 1, i_1 =>
  if i_1 < ((l_).length) then
   (l_[i_1]?).bind fun x5 =>
   (r21_typeError n x5).bind fun r7 =>
   if r7 ≠ 0 then
    some r7
   else
    r21_typesError_L0 n l_ m1 (i_1 + 1)
  else
   some 0
/-- grammarlab/grammarlabref21.typesError -/
def r21_typesError (n : Nat) (l_ : (List TypeDecl)) : Option Int :=
 r21_typesError_L0 n l_ n 0
/-- grammarlab/grammarlabref19.leaf -/
def r19_leaf (n : Nat) (op_ : Int) : Option Bool :=
 if op_ = 1 then
  some true
 else
  if op_ = 2 then
   some true
  else
   some (decide (op_ = 3))
def r19_kids_L0 (n : Nat) (d_ : Desc) : Nat → Nat → Option Bool
  | 0, _ => none
  | m1 + 1, i_11 =>
  if i_11 < ((d_.Kids).length) then
   (d_.Kids[i_11]?).bind fun x15 =>
   if x15.Op = 4 then
    some false
   else
    r19_kids_L0 n d_ m1 (i_11 + 1)
  else
   some (decide ((2 : Nat) ≤ ((d_.Kids).length)))
/-- grammarlab/grammarlabref19.kids -/
def r19_kids (n : Nat) (d_ : Desc) : Option Bool :=
 jn (fun (t_4 : Bool) =>
  if t_4 = true then
   some (decide (((d_.Kids).length) = 0))
  else
   if d_.Op = 5 then
    some (decide (((d_.Kids).length) = 1))
   else
    if d_.Op = 7 then
     some (decide ((2 : Nat) ≤ ((d_.Kids).length)))
    else
     if d_.Op = 4 then
      r19_kids_L0 n d_ n 0
     else
      some true)
   (fun k3 =>
   if d_.Op = 1 then
    k3 (decide (d_.Op = 1))
   else
    if d_.Op = 2 then
     k3 (decide (d_.Op = 2))
    else
     k3 (decide (d_.Op = 3)))
def r19_formed_L0 (n : Nat) (d_ : Desc) (k33 : Option Bool) : Nat → Nat → Option Bool
  | 0, _ => none
  | m1 + 1, i_34 =>
  if i_34 < ((d_.Path).length) then
   (d_.Path[i_34]?).bind fun x38 =>
   (r01_Feature n x38).bind fun r40 =>
   if (!(r40)) = true then
    some false
   else
    r19_formed_L0 n d_ k33 m1 (i_34 + 1)
  else
   k33
/-- grammarlab/grammarlabref19.formed -/
def r19_formed (n : Nat) (d_ : Desc) : Option Bool :=
 jn (fun (t_4 : Bool) =>
  if t_4 = true then
   some false
  else
   if (!((decide (d_.Op = 5)) == (decide ((0 : Nat) < ((d_.Path).length))))) = true then
    some false
   else
    jn (
     (r19_kids n d_).bind fun r48 =>
     some r48)
      (fun k33 =>
      r19_formed_L0 n d_ k33 n 0))
   (fun k3 =>
   (r19_leaf n d_.Op).bind fun r5 =>
   (r01_Name n d_.Name).bind fun r8 =>
   if (!(r5 == r8)) = true then
    k3 true
   else
    if (!(r5)) = true then
     k3 (decide ((d_.Name : List UInt8) ≠ []))
    else
     k3 false)
def r19_check_L0 (n : Nat) (d_ : Desc) (self_ : Desc → Int → Option Int) (inner_21 : Int) : Nat → Nat → Option Int
  | 0, _ => none
  | m1 + 1, i_23 =>
  if i_23 < ((d_.Kids).length) then
   (d_.Kids[i_23]?).bind fun x27 =>
   (self_ x27 inner_21).bind fun r29 =>
   if r29 ≠ 0 then
    some r29
   else
    r19_check_L0 n d_ self_ inner_21 m1 (i_23 + 1)
  else
   some 0
/-- grammarlab/grammarlabref19.check -/
def r19_check : Nat → Desc → Int → Option Int
  | 0, _, _ => none
  | n + 1, d_, level_ =>
  jn (fun (t_4 : Bool) =>
   if t_4 = true then
    some 7
   else
    jn (fun (t_10 : Bool) =>
     if t_10 = true then
      some 14
     else
      (r19_formed n d_).bind fun r13 =>
      if (!(r13)) = true then
       some 1
      else
       chk (-9223372036854775808 ≤ level_ + 1 ∧ level_ + 1 ≤ 9223372036854775807) (
       jn (fun (inner_21 : Int) =>
        r19_check_L0 n d_ (r19_check n) inner_21 n 0)
         (fun k20 =>
         if d_.Op = 4 then
          k20 level_
         else
          k20 (level_ + 1))))
      (fun k9 =>
      if d_.Op < 1 then
       k9 true
      else
       k9 (decide ((8 : Int) < d_.Op))))
    (fun k3 =>
    if (64 : Int) < level_ then
     k3 true
    else
     if (64 : Nat) < ((d_.Path).length) then
      k3 true
     else
      k3 (decide ((256 : Nat) < ((d_.Kids).length))))
/-- grammarlab/grammarlabref19.Check -/
def r19_Check (n : Nat) (d_ : Desc) : Option Int :=
 (r19_check n d_ 1).bind fun r3 =>
 some r3
def r21_defError_L0 (n : Nat) (x_ : Def) : Nat → Int → Nat → Option Int
  | 0, _, _ => none
  | m1 + 1, e_16, i_17 =>
  jn (fun (t_19 : Bool) =>
   if t_19 = true then
    (x_.Defaults[i_17]?).bind fun x24 =>
    (r19_Check n x24).bind fun r26 =>
    chk (i_17 + 1 ≤ 9223372036854775807) (
    r21_defError_L0 n x_ m1 r26 (i_17 + 1))
   else
    some e_16)
    (fun k18 =>
    if i_17 < ((x_.Defaults).length) then
     k18 (decide (e_16 = 0))
    else
     k18 false)
/-- grammarlab/grammarlabref21.defError -/
def r21_defError (n : Nat) (x_ : Def) : Option Int :=
 (r01_Name n x_.Name).bind fun r3 =>
 if (!(r3)) = true then
  some 1
 else
  if (256 : Nat) < ((x_.Defaults).length) then
   some 7
  else
   (r19_Check n x_.Strict).bind fun r11 =>
   r21_defError_L0 n x_ n r11 0
def r21_defsError_L0 (n : Nat) (l_ : (List Def)) : Nat → Nat → Option Int
  | 0, _ => none
  | m1 + 1, i_1 =>
  if i_1 < ((l_).length) then
   (l_[i_1]?).bind fun x5 =>
   (r21_defError n x5).bind fun r7 =>
   if r7 ≠ 0 then
    some r7
   else
    r21_defsError_L0 n l_ m1 (i_1 + 1)
  else
   some 0
/-- grammarlab/grammarlabref21.defsError -/
def r21_defsError (n : Nat) (l_ : (List Def)) : Option Int :=
 r21_defsError_L0 n l_ n 0
def r01_Word_L0 (n : Nat) (s_ : (List UInt8)) : Nat → Nat → Option Bool
  | 0, _ => none
  | m1 + 1, i_5 =>
  if i_5 < ((s_).length) then
   jn (fun (t_9 : Bool) =>
    if t_9 = true then
     some false
    else
     r01_Word_L0 n s_ m1 (i_5 + 1))
     (fun k8 =>
     (s_[i_5]?).bind fun c10 =>
     if c10.toNat < 33 then
      k8 true
     else
      if (126 : Nat) < c10.toNat then
       k8 true
      else
       (r01_upper n c10).bind fun r13 =>
       if r13 = true then
        k8 true
       else
        if c10.toNat = 34 then
         k8 true
        else
         k8 (decide (c10.toNat = 92)))
  else
   some true
/-- grammarlab/grammarlabref01.Word -/
def r01_Word (n : Nat) (s_ : (List UInt8)) : Option Bool :=
 jn (fun (t_2 : Bool) =>
  if t_2 = true then
   some false
  else
   r01_Word_L0 n s_ n 0)
   (fun k1 =>
   if ((s_).length) < 1 then
    k1 true
   else
    k1 (decide ((32 : Nat) < ((s_).length))))
def r21_entriesError_L1 (n : Nat) (x5 : EntryDecl) (k10 : Option Int) : Nat → Nat → Option Int
  | 0, _ => none
  | m2 + 1, k_11 =>
  if k_11 < ((x5.Words).length) then
   (x5.Words[k_11]?).bind fun x21 =>
   (r01_Word n x21).bind fun r23 =>
   if (!(r23)) = true then
    some 1
   else
    r21_entriesError_L1 n x5 k10 m2 (k_11 + 1)
  else
   k10
def r21_entriesError_L0 (n : Nat) (l_ : (List EntryDecl)) : Nat → Nat → Option Int
  | 0, _ => none
  | m1 + 1, i_1 =>
  if i_1 < ((l_).length) then
   (l_[i_1]?).bind fun x5 =>
   if ((x5.Words).length) = 0 then
    some 1
   else
    jn (
     (r21_defError n x5.Def).bind fun r35 =>
     if r35 ≠ 0 then
      some r35
     else
      r21_entriesError_L0 n l_ m1 (i_1 + 1))
      (fun k10 =>
      r21_entriesError_L1 n x5 k10 n 0)
  else
   some 0
/-- grammarlab/grammarlabref21.entriesError -/
def r21_entriesError (n : Nat) (l_ : (List EntryDecl)) : Option Int :=
 r21_entriesError_L0 n l_ n 0
def r21_quotable_L0 (n : Nat) (s_ : (List UInt8)) : Nat → Nat → Option Bool
  | 0, _ => none
  | m1 + 1, i_1 =>
  if i_1 < ((s_).length) then
   jn (fun (t_5 : Bool) =>
    if t_5 = true then
     some false
    else
     r21_quotable_L0 n s_ m1 (i_1 + 1))
     (fun k4 =>
     (s_[i_1]?).bind fun c6 =>
     if c6.toNat < 32 then
      k4 true
     else
      if (126 : Nat) < c6.toNat then
       k4 true
      else
       k4 (decide (c6.toNat = 34)))
  else
   some true
/-- grammarlab/grammarlabref21.quotable -/
def r21_quotable (n : Nat) (s_ : (List UInt8)) : Option Bool :=
 r21_quotable_L0 n s_ n 0
def r21_affixError_L0 (n : Nat) (a_ : Affix) : Nat → Nat → Option Int
  | 0, _ => none
  | m1 + 1, i_9 =>
  if i_9 < ((a_.Pairs).length) then
   jn (fun (t_13 : Bool) =>
    if t_13 = true then
     some 1
    else
     r21_affixError_L0 n a_ m1 (i_9 + 1))
     (fun k12 =>
     (a_.Pairs[i_9]?).bind fun x15 =>
     (r21_quotable n x15.Old).bind fun r17 =>
     if (!(r17)) = true then
      k12 true
     else
      (r21_quotable n x15.New).bind fun r27 =>
      k12 (!(r27)))
  else
   some 0
/-- grammarlab/grammarlabref21.affixError -/
def r21_affixError (n : Nat) (a_ : Affix) : Option Int :=
 jn (fun (t_4 : Bool) =>
  if t_4 = true then
   some 14
  else
   if (!((decide (a_.Kind = 0)) == (decide (((a_.Pairs).length) = 0)))) = true then
    some 1
   else
    r21_affixError_L0 n a_ n 0)
   (fun k3 =>
   if a_.Kind ≠ 0 then
    if a_.Kind ≠ 1 then
     k3 (decide (a_.Kind ≠ 2))
    else
     k3 false
   else
    k3 false)
def r21_lexError_L0 (n : Nat) (l_ : (List LexDecl)) : Nat → Nat → Option Int
  | 0, _ => none
  | m1 + 1, i_1 =>
  if i_1 < ((l_).length) then
   (l_[i_1]?).bind fun x5 =>
   (r21_affixError n x5.Affix).bind fun r7 =>
   jn (fun (e_15 : Int) =>
    if e_15 ≠ 0 then
     some e_15
    else
     r21_lexError_L0 n l_ m1 (i_1 + 1))
     (fun k14 =>
     if r7 = 0 then
      (r21_defError n x5.Def).bind fun r19 =>
      k14 r19
     else
      k14 r7)
  else
   some 0
/-- grammarlab/grammarlabref21.lexError -/
def r21_lexError (n : Nat) (l_ : (List LexDecl)) : Option Int :=
 r21_lexError_L0 n l_ n 0
def r21_checksError_L0 (n : Nat) (l_ : (List (List (List UInt8)))) : Nat → Nat → Option Int
  | 0, _ => none
  | m1 + 1, i_1 =>
  if i_1 < ((l_).length) then
   (l_[i_1]?).bind fun x5 =>
   if ((x5).length) = 0 then
    some 1
   else
    if (64 : Nat) < ((x5).length) then
     some 7
    else
     (r21_allNames n x5 true).bind fun r18 =>
     if (!(r18)) = true then
      some 1
     else
      r21_checksError_L0 n l_ m1 (i_1 + 1)
  else
   some 0
/-- grammarlab/grammarlabref21.checksError -/
def r21_checksError (n : Nat) (l_ : (List (List (List UInt8)))) : Option Int :=
 r21_checksError_L0 n l_ n 0
/-- grammarlab/grammarlabref21.moduleError -/
def r21_moduleError (n : Nat) (m_ : Module) : Option Int :=
 (r01_Name n m_.Name).bind fun r3 =>
 if (!(r3)) = true then
  some 1
 else
  (r21_long n m_).bind fun r9 =>
  if r9 = true then
   some 7
  else
   (r21_allNames n m_.Imports false).bind fun r15 =>
   if (!(r15)) = true then
    some 1
   else
    (r21_typesError n m_.Types).bind fun r21 =>
    (r21_defsError n m_.Templates).bind fun r24 =>
    (r21_entriesError n m_.Entries).bind fun r27 =>
    (r21_lexError n m_.LexRules).bind fun r30 =>
    (r21_defsError n m_.Rules).bind fun r33 =>
    (r21_defsError n m_.Roots).bind fun r36 =>
    (r21_checksError n m_.Checks).bind fun r39 =>
    (r21_first n [r21, r24, r27, r30, r33, r36, r39]).bind fun r43 =>
    jn (fun (t_64 : Bool) =>
     if t_64 = true then
      some 1
     else
      some r43)
      (fun k63 =>
      if r43 = 0 then
       (r21_allNames n m_.Drops true).bind fun r66 =>
       k63 (!(r66))
      else
       k63 false)
def r21_joined_L0 (n : Nat) (l_ : (List (List UInt8))) (between_ : (List UInt8)) : Nat → (List UInt8) → Nat → Option (List UInt8)
  | 0, _, _ => none
  | m1 + 1, s_1, i_2 =>
  if i_2 < ((l_).length) then
   jn (fun (s_6 : (List UInt8)) =>
    (l_[i_2]?).bind fun x10 =>
    chk ((s_6).length + (x10).length ≤ 9223372036854775807) (
    r21_joined_L0 n l_ between_ m1 (s_6 ++ x10) (i_2 + 1)))
     (fun k5 =>
     if (0 : Nat) < i_2 then
      chk ((s_1).length + (between_).length ≤ 9223372036854775807) (
      k5 (s_1 ++ between_))
     else
      k5 s_1)
  else
   some s_1
/-- grammarlab/grammarlabref21.joined -/
def r21_joined (n : Nat) (l_ : (List (List UInt8))) (between_ : (List UInt8)) : Option (List UInt8) :=
 r21_joined_L0 n l_ between_ n [] 0
def r21_typed_L0 (n : Nat) (x_ : TypeDecl) : Nat → (List UInt8) → Nat → Option (List UInt8)
  | 0, _, _ => none
  | m1 + 1, s_15, i_16 =>
  if i_16 < ((x_.Feats).length) then
   jn (fun (s_20 : (List UInt8)) =>
    (x_.Feats[i_16]?).bind fun x25 =>
    chk ((s_20).length + (x25.Feat).length ≤ 9223372036854775807) (
    chk ((s_20 ++ x25.Feat).length + ([32]).length ≤ 9223372036854775807) (
    chk (((s_20 ++ x25.Feat) ++ [32]).length + (x25.Value).length ≤ 9223372036854775807) (
    r21_typed_L0 n x_ m1 (((s_20 ++ x25.Feat) ++ [32]) ++ x25.Value) (i_16 + 1)))))
     (fun k19 =>
     if i_16 = 0 then
      chk ((s_15).length + ([32, 58, 32]).length ≤ 9223372036854775807) (
      k19 (s_15 ++ [32, 58, 32]))
     else
      chk ((s_15).length + ([44, 32]).length ≤ 9223372036854775807) (
      k19 (s_15 ++ [44, 32])))
  else
   chk ((s_15).length + ([59, 10]).length ≤ 9223372036854775807) (
   some (s_15 ++ [59, 10]))
/-- grammarlab/grammarlabref21.typed -/
def r21_typed (n : Nat) (x_ : TypeDecl) : Option (List UInt8) :=
 chk (([116, 121, 112, 101, 32]).length + (x_.Name).length ≤ 9223372036854775807) (
 jn (fun (s_5 : (List UInt8)) =>
  r21_typed_L0 n x_ n s_5 0)
   (fun k4 =>
   if (0 : Nat) < ((x_.Supers).length) then
    chk (([116, 121, 112, 101, 32] ++ x_.Name).length + ([32, 60, 32]).length ≤ 9223372036854775807) (
    (r21_joined n x_.Supers [44, 32]).bind fun r9 =>
    chk ((([116, 121, 112, 101, 32] ++ x_.Name) ++ [32, 60, 32]).length + (r9).length ≤ 9223372036854775807) (
    k4 ((([116, 121, 112, 101, 32] ++ x_.Name) ++ [32, 60, 32]) ++ r9)))
   else
    k4 ([116, 121, 112, 101, 32] ++ x_.Name)))
def r19_joined_L0 (n : Nat) (l_ : (List Desc)) (between_ : (List UInt8)) (last_ : (List UInt8)) (via_ : Desc → Option (List UInt8)) : Nat → (List UInt8) → Nat → Option (List UInt8)
  | 0, _, _ => none
  | m1 + 1, s_1, i_2 =>
  if i_2 < ((l_).length) then
   jn (fun (s_6 : (List UInt8)) =>
    (l_[i_2]?).bind fun x16 =>
    (via_ x16).bind fun r18 =>
    chk ((s_6).length + (r18).length ≤ 9223372036854775807) (
    r19_joined_L0 n l_ between_ last_ via_ m1 (s_6 ++ r18) (i_2 + 1)))
     (fun k5 =>
     jn (fun (t_8 : Bool) =>
      if t_8 = true then
       chk ((s_1).length + (last_).length ≤ 9223372036854775807) (
       k5 (s_1 ++ last_))
      else
       if (0 : Nat) < i_2 then
        chk ((s_1).length + (between_).length ≤ 9223372036854775807) (
        k5 (s_1 ++ between_))
       else
        k5 s_1)
       (fun k7 =>
       if (0 : Nat) < i_2 then
        k7 (decide (((i_2 : Nat) : Int) = ((((l_).length : Nat) : Int) - 1)))
       else
        k7 false))
  else
   some s_1
/-- grammarlab/grammarlabref19.joined -/
def r19_joined (n : Nat) (via_ : Desc → Option (List UInt8)) (l_ : (List Desc)) (between_ : (List UInt8)) (last_ : (List UInt8)) : Option (List UInt8) :=
 r19_joined_L0 n l_ between_ last_ via_ n [] 0
def r19_written_L0 (n : Nat) (t_ : Desc) (k21 : (List UInt8) → Option (List UInt8)) : Nat → (List UInt8) → Nat → Option (List UInt8)
  | 0, _, _ => none
  | m1 + 1, t_23, t_24 =>
  if t_24 < ((t_.Path).length) then
   chk ((t_23).length + ([46]).length ≤ 9223372036854775807) (
   (t_.Path[t_24]?).bind fun x29 =>
   chk ((t_23 ++ [46]).length + (x29).length ≤ 9223372036854775807) (
   r19_written_L0 n t_ k21 m1 ((t_23 ++ [46]) ++ x29) (t_24 + 1)))
  else
   k21 t_23
/-- grammarlab/grammarlabref19.written -/
def r19_written : Nat → Desc → Option (List UInt8)
  | 0, _ => none
  | n + 1, t_ =>
  if t_.Op = 1 then
   some t_.Name
  else
   if t_.Op = 2 then
    chk (([64]).length + (t_.Name).length ≤ 9223372036854775807) (
    some ([64] ++ t_.Name))
   else
    if t_.Op = 3 then
     chk (([35]).length + (t_.Name).length ≤ 9223372036854775807) (
     some ([35] ++ t_.Name))
    else
     if t_.Op = 4 then
      (r19_joined n (r19_written n) t_.Kids [32, 38, 32] [32, 38, 32]).bind fun r9 =>
      some r9
     else
      if t_.Op = 5 then
       (t_.Path[0]?).bind fun x16 =>
       chk (([91]).length + (x16).length ≤ 9223372036854775807) (
       jn (fun (t_22 : (List UInt8)) =>
        chk ((t_22).length + ([32]).length ≤ 9223372036854775807) (
        (t_.Kids[0]?).bind fun x36 =>
        ((r19_written n) x36).bind fun r38 =>
        chk ((t_22 ++ [32]).length + (r38).length ≤ 9223372036854775807) (
        chk (((t_22 ++ [32]) ++ r38).length + ([93]).length ≤ 9223372036854775807) (
        some (((t_22 ++ [32]) ++ r38) ++ [93])))))
         (fun k21 =>
         r19_written_L0 n t_ k21 n ([91] ++ x16) 1))
      else
       if t_.Op = 6 then
        (r19_joined n (r19_written n) t_.Kids [44, 32] [44, 32]).bind fun r48 =>
        chk (([60]).length + (r48).length ≤ 9223372036854775807) (
        chk (([60] ++ r48).length + ([62]).length ≤ 9223372036854775807) (
        some (([60] ++ r48) ++ [62])))
       else
        if t_.Op = 7 then
         (r19_joined n (r19_written n) t_.Kids [44, 32] [32, 124, 32]).bind fun r56 =>
         chk (([60]).length + (r56).length ≤ 9223372036854775807) (
         chk (([60] ++ r56).length + ([62]).length ≤ 9223372036854775807) (
         some (([60] ++ r56) ++ [62])))
        else
         if ((t_.Kids).length) = 0 then
          some [60, 33, 32, 33, 62]
         else
          (r19_joined n (r19_written n) t_.Kids [44, 32] [44, 32]).bind fun r64 =>
          chk (([60, 33, 32]).length + (r64).length ≤ 9223372036854775807) (
          chk (([60, 33, 32] ++ r64).length + ([32, 33, 62]).length ≤ 9223372036854775807) (
          some (([60, 33, 32] ++ r64) ++ [32, 33, 62])))
/-- grammarlab/grammarlabref19.Print -/
def r19_Print (n : Nat) (d_ : Desc) : Option ((List UInt8) × Int) :=
 (r19_Check n d_).bind fun r3 =>
 if r3 ≠ 0 then
  some ([], r3)
 else
  (r19_written n d_).bind fun r9 =>
  if (65536 : Nat) < ((r9).length) then
   some ([], 7)
  else
   some (r9, 0)
def r21_defined_L0 (n : Nat) (x_ : Def) : Nat → (List UInt8) → Nat → Option (List UInt8)
  | 0, _, _ => none
  | m1 + 1, s_9, i_10 =>
  if i_10 < ((x_.Defaults).length) then
   (x_.Defaults[i_10]?).bind fun x14 =>
   (r19_Print n x14).bind fun r16 =>
   chk ((s_9).length + ([32, 47, 32]).length ≤ 9223372036854775807) (
   chk ((s_9 ++ [32, 47, 32]).length + (r16.1).length ≤ 9223372036854775807) (
   r21_defined_L0 n x_ m1 ((s_9 ++ [32, 47, 32]) ++ r16.1) (i_10 + 1)))
  else
   chk ((s_9).length + ([59, 10]).length ≤ 9223372036854775807) (
   some (s_9 ++ [59, 10]))
/-- grammarlab/grammarlabref21.defined -/
def r21_defined (n : Nat) (x_ : Def) : Option (List UInt8) :=
 (r19_Print n x_.Strict).bind fun r3 =>
 chk (([32, 61, 32]).length + (r3.1).length ≤ 9223372036854775807) (
 r21_defined_L0 n x_ n ([32, 61, 32] ++ r3.1) 0)
def r21_defs_L0 (n : Nat) (what_ : (List UInt8)) (l_ : (List Def)) : Nat → (List UInt8) → Nat → Option (List UInt8)
  | 0, _, _ => none
  | m1 + 1, s_1, i_2 =>
  if i_2 < ((l_).length) then
   chk ((s_1).length + (what_).length ≤ 9223372036854775807) (
   (l_[i_2]?).bind fun x7 =>
   chk ((s_1 ++ what_).length + (x7.Name).length ≤ 9223372036854775807) (
   (r21_defined n x7).bind fun r12 =>
   chk (((s_1 ++ what_) ++ x7.Name).length + (r12).length ≤ 9223372036854775807) (
   r21_defs_L0 n what_ l_ m1 (((s_1 ++ what_) ++ x7.Name) ++ r12) (i_2 + 1))))
  else
   some s_1
/-- grammarlab/grammarlabref21.defs -/
def r21_defs (n : Nat) (what_ : (List UInt8)) (l_ : (List Def)) : Option (List UInt8) :=
 r21_defs_L0 n what_ l_ n [] 0
def r21_affixed_L0 (n : Nat) (a_ : Affix) : Nat → (List UInt8) → Nat → Option (List UInt8)
  | 0, _, _ => none
  | m1 + 1, s_7, i_8 =>
  if i_8 < ((a_.Pairs).length) then
   jn (fun (s_12 : (List UInt8)) =>
    chk ((s_12).length + ([32, 34]).length ≤ 9223372036854775807) (
    (a_.Pairs[i_8]?).bind fun x17 =>
    chk ((s_12 ++ [32, 34]).length + (x17.Old).length ≤ 9223372036854775807) (
    chk (((s_12 ++ [32, 34]) ++ x17.Old).length + ([34, 32, 34]).length ≤ 9223372036854775807) (
    chk ((((s_12 ++ [32, 34]) ++ x17.Old) ++ [34, 32, 34]).length + (x17.New).length ≤ 9223372036854775807) (
    chk (((((s_12 ++ [32, 34]) ++ x17.Old) ++ [34, 32, 34]) ++ x17.New).length + ([34]).length ≤ 9223372036854775807) (
    r21_affixed_L0 n a_ m1 (((((s_12 ++ [32, 34]) ++ x17.Old) ++ [34, 32, 34]) ++ x17.New) ++ [34]) (i_8 + 1)))))))
     (fun k11 =>
     if (0 : Nat) < i_8 then
      chk ((s_7).length + ([44]).length ≤ 9223372036854775807) (
      k11 (s_7 ++ [44]))
     else
      k11 s_7)
  else
   some s_7
/-- grammarlab/grammarlabref21.affixed -/
def r21_affixed (n : Nat) (a_ : Affix) : Option (List UInt8) :=
 jn (fun (s_4 : (List UInt8)) =>
  r21_affixed_L0 n a_ n s_4 0)
   (fun k3 =>
   if a_.Kind = 0 then
    some [110, 111, 110, 101]
   else
    if a_.Kind = 1 then
     k3 [115, 117, 102, 102, 105, 120]
    else
     k3 [112, 114, 101, 102, 105, 120])
def r21_module_L0 (n : Nat) (t_ : Module) (k5 : (List UInt8) → Option (List UInt8)) : Nat → (List UInt8) → Nat → Option (List UInt8)
  | 0, _, _ => none
  | m1 + 1, t_7, t_8 =>
  if t_8 < ((t_.Imports).length) then
   chk ((t_7).length + ([105, 109, 112, 111, 114, 116, 32]).length ≤ 9223372036854775807) (
   (t_.Imports[t_8]?).bind fun x13 =>
   chk ((t_7 ++ [105, 109, 112, 111, 114, 116, 32]).length + (x13).length ≤ 9223372036854775807) (
   chk (((t_7 ++ [105, 109, 112, 111, 114, 116, 32]) ++ x13).length + ([59, 10]).length ≤ 9223372036854775807) (
   r21_module_L0 n t_ k5 m1 (((t_7 ++ [105, 109, 112, 111, 114, 116, 32]) ++ x13) ++ [59, 10]) (t_8 + 1))))
  else
   k5 t_7
def r21_module_L1 (n : Nat) (t_ : Module) (k19 : (List UInt8) → Option (List UInt8)) : Nat → (List UInt8) → Nat → Option (List UInt8)
  | 0, _, _ => none
  | m2 + 1, t_21, t_22 =>
  if t_22 < ((t_.Types).length) then
   (t_.Types[t_22]?).bind fun x26 =>
   (r21_typed n x26).bind fun r28 =>
   chk ((t_21).length + (r28).length ≤ 9223372036854775807) (
   r21_module_L1 n t_ k19 m2 (t_21 ++ r28) (t_22 + 1))
  else
   k19 t_21
def r21_module_L2 (n : Nat) (t_ : Module) (k42 : (List UInt8) → Option (List UInt8)) : Nat → (List UInt8) → Nat → Option (List UInt8)
  | 0, _, _ => none
  | m3 + 1, t_44, t_45 =>
  if t_45 < ((t_.Entries).length) then
   chk ((t_44).length + ([101, 110, 116, 114, 121, 32]).length ≤ 9223372036854775807) (
   (t_.Entries[t_45]?).bind fun x50 =>
   chk ((t_44 ++ [101, 110, 116, 114, 121, 32]).length + (x50.Def.Name).length ≤ 9223372036854775807) (
   chk (((t_44 ++ [101, 110, 116, 114, 121, 32]) ++ x50.Def.Name).length + ([32, 34]).length ≤ 9223372036854775807) (
   (r21_joined n x50.Words [32]).bind fun r56 =>
   chk ((((t_44 ++ [101, 110, 116, 114, 121, 32]) ++ x50.Def.Name) ++ [32, 34]).length + (r56).length ≤ 9223372036854775807) (
   chk (((((t_44 ++ [101, 110, 116, 114, 121, 32]) ++ x50.Def.Name) ++ [32, 34]) ++ r56).length + ([34]).length ≤ 9223372036854775807) (
   (r21_defined n x50.Def).bind fun r63 =>
   chk ((((((t_44 ++ [101, 110, 116, 114, 121, 32]) ++ x50.Def.Name) ++ [32, 34]) ++ r56) ++ [34]).length + (r63).length ≤ 9223372036854775807) (
   r21_module_L2 n t_ k42 m3 ((((((t_44 ++ [101, 110, 116, 114, 121, 32]) ++ x50.Def.Name) ++ [32, 34]) ++ r56) ++ [34]) ++ r63) (t_45 + 1)))))))
  else
   k42 t_44
def r21_module_L3 (n : Nat) (t_ : Module) (k81 : (List UInt8) → Option (List UInt8)) : Nat → (List UInt8) → Nat → Option (List UInt8)
  | 0, _, _ => none
  | m4 + 1, t_83, t_84 =>
  if t_84 < ((t_.LexRules).length) then
   chk ((t_83).length + ([108, 101, 120, 114, 117, 108, 101, 32]).length ≤ 9223372036854775807) (
   (t_.LexRules[t_84]?).bind fun x89 =>
   chk ((t_83 ++ [108, 101, 120, 114, 117, 108, 101, 32]).length + (x89.Def.Name).length ≤ 9223372036854775807) (
   chk (((t_83 ++ [108, 101, 120, 114, 117, 108, 101, 32]) ++ x89.Def.Name).length + ([32]).length ≤ 9223372036854775807) (
   (r21_affixed n x89.Affix).bind fun r95 =>
   chk ((((t_83 ++ [108, 101, 120, 114, 117, 108, 101, 32]) ++ x89.Def.Name) ++ [32]).length + (r95).length ≤ 9223372036854775807) (
   (r21_defined n x89.Def).bind fun r101 =>
   chk (((((t_83 ++ [108, 101, 120, 114, 117, 108, 101, 32]) ++ x89.Def.Name) ++ [32]) ++ r95).length + (r101).length ≤ 9223372036854775807) (
   r21_module_L3 n t_ k81 m4 (((((t_83 ++ [108, 101, 120, 114, 117, 108, 101, 32]) ++ x89.Def.Name) ++ [32]) ++ r95) ++ r101) (t_84 + 1))))))
  else
   k81 t_83
def r21_module_L4 (n : Nat) (t_ : Module) (k133 : (List UInt8) → Option (List UInt8)) : Nat → (List UInt8) → Nat → Option (List UInt8)
  | 0, _, _ => none
  | m5 + 1, t_135, t_136 =>
  if t_136 < ((t_.Checks).length) then
   chk ((t_135).length + ([99, 104, 101, 99, 107, 32]).length ≤ 9223372036854775807) (
   (t_.Checks[t_136]?).bind fun x141 =>
   (r21_joined n x141 [46]).bind fun r143 =>
   chk ((t_135 ++ [99, 104, 101, 99, 107, 32]).length + (r143).length ≤ 9223372036854775807) (
   chk (((t_135 ++ [99, 104, 101, 99, 107, 32]) ++ r143).length + ([59, 10]).length ≤ 9223372036854775807) (
   r21_module_L4 n t_ k133 m5 (((t_135 ++ [99, 104, 101, 99, 107, 32]) ++ r143) ++ [59, 10]) (t_136 + 1))))
  else
   k133 t_135
def r21_module_L5 (n : Nat) (t_ : Module) : Nat → (List UInt8) → Nat → Option (List UInt8)
  | 0, _, _ => none
  | m6 + 1, t_152, t_153 =>
  if t_153 < ((t_.Drops).length) then
   chk ((t_152).length + ([100, 114, 111, 112, 32]).length ≤ 9223372036854775807) (
   (t_.Drops[t_153]?).bind fun x158 =>
   chk ((t_152 ++ [100, 114, 111, 112, 32]).length + (x158).length ≤ 9223372036854775807) (
   chk (((t_152 ++ [100, 114, 111, 112, 32]) ++ x158).length + ([59, 10]).length ≤ 9223372036854775807) (
   r21_module_L5 n t_ m6 (((t_152 ++ [100, 114, 111, 112, 32]) ++ x158) ++ [59, 10]) (t_153 + 1))))
  else
   some t_152
/-- grammarlab/grammarlabref21.module -/
def r21_module (n : Nat) (t_ : Module) : Option (List UInt8) :=
 chk (([109, 111, 100, 117, 108, 101, 32]).length + (t_.Name).length ≤ 9223372036854775807) (
 chk (([109, 111, 100, 117, 108, 101, 32] ++ t_.Name).length + ([59, 10]).length ≤ 9223372036854775807) (
 jn (fun (t_6 : (List UInt8)) =>
  jn (fun (t_20 : (List UInt8)) =>
   (r21_defs n [116, 101, 109, 112, 108, 97, 116, 101, 32] t_.Templates).bind fun r36 =>
   chk ((t_20).length + (r36).length ≤ 9223372036854775807) (
   jn (fun (t_43 : (List UInt8)) =>
    jn (fun (t_82 : (List UInt8)) =>
     jn (fun (t_118 : (List UInt8)) =>
      jn (fun (t_134 : (List UInt8)) =>
       r21_module_L5 n t_ n t_134 0)
        (fun k133 =>
        r21_module_L4 n t_ k133 n t_118 0))
       (fun k117 =>
       (r21_defs n [114, 117, 108, 101, 32] t_.Rules).bind fun r119 =>
       chk ((t_82).length + (r119).length ≤ 9223372036854775807) (
       (r21_defs n [114, 111, 111, 116, 32] t_.Roots).bind fun r123 =>
       chk ((t_82 ++ r119).length + (r123).length ≤ 9223372036854775807) (
       k117 ((t_82 ++ r119) ++ r123)))))
      (fun k81 =>
      r21_module_L3 n t_ k81 n t_43 0))
     (fun k42 =>
     r21_module_L2 n t_ k42 n (t_20 ++ r36) 0)))
    (fun k19 =>
    r21_module_L1 n t_ k19 n t_6 0))
   (fun k5 =>
   r21_module_L0 n t_ k5 n (([109, 111, 100, 117, 108, 101, 32] ++ t_.Name) ++ [59, 10]) 0)))
def r21_Print_L0 (n : Nat) (l_ : (List Module)) (k3 : Option ((List UInt8) × Int)) : Nat → Nat → Option ((List UInt8) × Int)
  | 0, _ => none
  | m1 + 1, i_4 =>
  if i_4 < ((l_).length) then
   (l_[i_4]?).bind fun x8 =>
   (r21_moduleError n x8).bind fun r10 =>
   if r10 ≠ 0 then
    some ([], r10)
   else
    r21_Print_L0 n l_ k3 m1 (i_4 + 1)
  else
   k3
def r21_Print_L1 (n : Nat) (l_ : (List Module)) (k18 : (List UInt8) → Option ((List UInt8) × Int)) : Nat → (List UInt8) → Nat → Option ((List UInt8) × Int)
  | 0, _, _ => none
  | m2 + 1, s_20, i_21 =>
  if i_21 < ((l_).length) then
   (l_[i_21]?).bind fun x25 =>
   (r21_module n x25).bind fun r27 =>
   chk ((s_20).length + (r27).length ≤ 9223372036854775807) (
   r21_Print_L1 n l_ k18 m2 (s_20 ++ r27) (i_21 + 1))
  else
   k18 s_20
/-- grammarlab/grammarlabref21.Print -/
def r21_Print (n : Nat) (l_ : (List Module)) : Option ((List UInt8) × Int) :=
 if (256 : Nat) < ((l_).length) then
  some ([], 7)
 else
  jn (
   jn (fun (s_19 : (List UInt8)) =>
    if (65536 : Nat) < ((s_19).length) then
     some ([], 7)
    else
     some (s_19, 0))
     (fun k18 =>
     r21_Print_L1 n l_ k18 n [] 0))
    (fun k3 =>
    r21_Print_L0 n l_ k3 n 0)
def law22_light_L0 (n : Nat) (t_ : (List Module)) (k11 : Int → Option Bool) : Nat → Int → Nat → Option Bool
  | 0, _, _ => none
  | m1 + 1, t_13, t_14 =>
  if t_14 < ((t_).length) then
   (t_[t_14]?).bind fun x18 =>
   law22_light_L0 n t_ k11 m1 (IntKind.i64.wrap ((IntKind.i64.wrap ((IntKind.i64.wrap ((IntKind.i64.wrap ((IntKind.i64.wrap ((IntKind.i64.wrap ((IntKind.i64.wrap (t_13 + (((x18.Types).length : Nat) : Int))) + (((x18.Templates).length : Nat) : Int))) + (((x18.Entries).length : Nat) : Int))) + (((x18.LexRules).length : Nat) : Int))) + (((x18.Rules).length : Nat) : Int))) + (((x18.Roots).length : Nat) : Int))) + (((x18.Imports).length : Nat) : Int))) (t_14 + 1)
  else
   k11 t_13
/-- grammarlab/grammarlablaw22.light -/
def law22_light (n : Nat) (t_ : (List Module)) : Option Bool :=
 jn (fun (t_2 : Bool) =>
  if t_2 = true then
   some false
  else
   jn (fun (t_12 : Int) =>
    (r21_Print n t_).bind fun r46 =>
    if t_12 ≤ 40 then
     some (decide (r46.2 = 0))
    else
     some false)
     (fun k11 =>
     law22_light_L0 n t_ k11 n 0 0))
   (fun k1 =>
   if (6 : Nat) < ((t_).length) then
    k1 true
   else
    (r21_Light n t_).bind fun r5 =>
    k1 (!(r5)))
def slices_IndexFunc_Module_L0 (n : Nat) (s_ : (List Module)) (f_ : (Module → Option Bool)) : Nat → Nat → Option Int
  | 0, _ => none
  | m1 + 1, t_1 =>
  if t_1 < ((s_).length) then
   (s_[t_1]?).bind fun x5 =>
   (f_ x5).bind fun r7 =>
   if r7 = true then
    some ((t_1 : Nat) : Int)
   else
    slices_IndexFunc_Module_L0 n s_ f_ m1 (t_1 + 1)
  else
   some (-1)
/-- slices.IndexFunc(()grammarlab/api.Module,grammarlab/api.Module) -/
def slices_IndexFunc_Module (n : Nat) (s_ : (List Module)) (f_ : (Module → Option Bool)) : Option Int :=
 slices_IndexFunc_Module_L0 n s_ f_ n 0
/-- grammarlab/module.find inner 1 -/
def module_find_1 (n : Nat) (m_ : Module) (c0_ : (List UInt8)) : Option Bool :=
 some (decide ((m_.Name : List UInt8) = c0_))
/-- grammarlab/module.find -/
def module_find (n : Nat) (l_ : (List Module)) (name_ : (List UInt8)) : Option (Module × Bool) :=
 (slices_IndexFunc_Module n l_ (fun p => module_find_1 n p name_)).bind fun r5 =>
 if r5 < 0 then
  some ((Module.mk [] [] [] [] [] [] [] [] [] []), false)
 else
  (ix l_ r5).bind fun x12 =>
  some (x12, true)
def slices_Index_string_L0 (n : Nat) (s_ : (List (List UInt8))) (v_ : (List UInt8)) : Nat → Nat → Option Int
  | 0, _ => none
  | m1 + 1, t_1 =>
  if t_1 < ((s_).length) then
   (s_[t_1]?).bind fun x5 =>
   if (v_ : List UInt8) = x5 then
    some ((t_1 : Nat) : Int)
   else
    slices_Index_string_L0 n s_ v_ m1 (t_1 + 1)
  else
   some (-1)
/-- slices.Index(()string,string) -/
def slices_Index_string (n : Nat) (s_ : (List (List UInt8))) (v_ : (List UInt8)) : Option Int :=
 slices_Index_string_L0 n s_ v_ n 0
/-- slices.Contains(()string,string) -/
def slices_Contains_string (n : Nat) (s_ : (List (List UInt8))) (v_ : (List UInt8)) : Option Bool :=
 (slices_Index_string n s_ v_).bind fun r1 =>
 some (decide ((0 : Int) ≤ r1))
def module_needs_L1 (n : Nat) (t_ : (List Module)) (k18 : (List (List UInt8)) → Option (List (List UInt8))) (r26 : (Module × Bool)) : Nat → (List (List UInt8)) → Nat → Option (List (List UInt8))
  | 0, _, _ => none
  | m2 + 1, t_35, t_39 =>
  if t_39 < ((r26.1.Imports).length) then
   (r26.1.Imports[t_39]?).bind fun x43 =>
   (module_find n t_ x43).bind fun r47 =>
   jn (fun (t_55 : Bool) =>
    if t_55 = true then
     chk ((t_35).length + ([x43]).length ≤ 137438953472) (
     module_needs_L1 n t_ k18 r26 m2 (t_35 ++ [x43]) (t_39 + 1))
    else
     module_needs_L1 n t_ k18 r26 m2 t_35 (t_39 + 1))
     (fun k54 =>
     if r47.2 = true then
      (slices_Contains_string n t_35 x43).bind fun r57 =>
      k54 (!(r57))
     else
      k54 false)
  else
   k18 t_35
def module_needs_L0 (n : Nat) (t_ : (List Module)) : Nat → (List (List UInt8)) → Nat → Option (List (List UInt8))
  | 0, _, _ => none
  | m1 + 1, t_11, t_15 =>
  if t_15 < ((t_11).length) then
   jn (fun (t_19 : (List (List UInt8))) =>
    module_needs_L0 n t_ m1 t_19 (t_15 + 1))
     (fun k18 =>
     (t_11[t_15]?).bind fun x24 =>
     (module_find n t_ x24).bind fun r26 =>
     module_needs_L1 n t_ k18 r26 n t_11 0)
  else
   some t_11
/-- grammarlab/module.needs -/
def module_needs (n : Nat) (t_ : (List Module)) (t_' : (List UInt8)) : Option (List (List UInt8)) :=
 (module_find n t_ t_').bind fun r1 =>
 if (!(r1.2)) = true then
  some []
 else
  module_needs_L0 n t_ n [t_'] 0
def module_check_L0 (n : Nat) (t_ : (List Module)) (k1 : Option Int) : Nat → Nat → Option Int
  | 0, _ => none
  | m1 + 1, t_2 =>
  if t_2 < ((t_).length) then
   jn (fun (t_6 : Bool) =>
    if t_6 = true then
     some 4
    else
     module_check_L0 n t_ k1 m1 (t_2 + 1))
     (fun k5 =>
     chk (t_2 ≤ (t_).length) (
     (t_[t_2]?).bind fun x9 =>
     (module_find n ((t_).take t_2) x9.Name).bind fun r11 =>
     k5 r11.2))
  else
   k1
def module_check_L2 (n : Nat) (t_ : (List Module)) (k46 : Option Int) (r52 : (Module × Bool)) : Nat → Nat → Option Int
  | 0, _ => none
  | m3 + 1, t_59 =>
  if t_59 < ((r52.1.Imports).length) then
   (r52.1.Imports[t_59]?).bind fun x63 =>
   (module_find n t_ x63).bind fun r67 =>
   if (!(r67.2)) = true then
    some 5
   else
    module_check_L2 n t_ k46 r52 m3 (t_59 + 1)
  else
   k46
def module_check_L1 (n : Nat) (t_ : (List Module)) (r37 : (List (List UInt8))) (k42 : Option Int) : Nat → Nat → Option Int
  | 0, _ => none
  | m2 + 1, t_43 =>
  if t_43 < ((r37).length) then
   jn (
    module_check_L1 n t_ r37 k42 m2 (t_43 + 1))
     (fun k46 =>
     (r37[t_43]?).bind fun x48 =>
     (module_find n t_ x48).bind fun r52 =>
     module_check_L2 n t_ k46 r52 n 0)
  else
   k42
def module_check_L4 (n : Nat) (t_ : (List Module)) (k78 : Option Int) (x80 : (List UInt8)) (r84 : (Module × Bool)) : Nat → Nat → Option Int
  | 0, _ => none
  | m5 + 1, t_91 =>
  if t_91 < ((r84.1.Imports).length) then
   (r84.1.Imports[t_91]?).bind fun x95 =>
   (module_needs n t_ x95).bind fun r99 =>
   (slices_Contains_string n r99 x80).bind fun r102 =>
   if r102 = true then
    some 6
   else
    module_check_L4 n t_ k78 x80 r84 m5 (t_91 + 1)
  else
   k78
def module_check_L3 (n : Nat) (t_ : (List Module)) (r37 : (List (List UInt8))) : Nat → Nat → Option Int
  | 0, _ => none
  | m4 + 1, t_75 =>
  if t_75 < ((r37).length) then
   jn (
    module_check_L3 n t_ r37 m4 (t_75 + 1))
     (fun k78 =>
     (r37[t_75]?).bind fun x80 =>
     (module_find n t_ x80).bind fun r84 =>
     module_check_L4 n t_ k78 x80 r84 n 0)
  else
   some 0
/-- grammarlab/module.check -/
def module_check (n : Nat) (t_ : (List Module)) (t_' : (List UInt8)) : Option Int :=
 jn (
  (module_find n t_ t_').bind fun r29 =>
  if (!(r29.2)) = true then
   some 5
  else
   (module_needs n t_ t_').bind fun r37 =>
   jn (
    module_check_L3 n t_ r37 n 0)
     (fun k42 =>
     module_check_L1 n t_ r37 k42 n 0))
   (fun k1 =>
   module_check_L0 n t_ k1 n 0)
def module_Order_1_L0 (n : Nat) (c1_ : (List Module)) (self_ : (List UInt8) → (List (List UInt8 × Bool)) → (List Module) → (List (List UInt8)) → Option ((List (List UInt8 × Bool)) × (List (List UInt8)))) (r4 : (Module × Bool)) (k11 : (List (List UInt8 × Bool)) → (List (List UInt8)) → Option ((List (List UInt8 × Bool)) × (List (List UInt8)))) : Nat → Nat → (List (List UInt8 × Bool)) → (List (List UInt8)) → Option ((List (List UInt8 × Bool)) × (List (List UInt8)))
  | 0, _, _, _ => none
  | m1 + 1, t_18, b_19, b_21 =>
  if t_18 < ((r4.1.Imports).length) then
   (r4.1.Imports[t_18]?).bind fun x28 =>
   (self_ x28 b_19 c1_ b_21).bind fun r32 =>
   module_Order_1_L0 n c1_ self_ r4 k11 m1 (t_18 + 1) r32.1 r32.2
  else
   k11 b_19 b_21
/-- grammarlab/module.Order inner 1 -/
def module_Order_1 : Nat → (List UInt8) → (List (List UInt8 × Bool)) → (List Module) → (List (List UInt8)) → Option ((List (List UInt8 × Bool)) × (List (List UInt8)))
  | 0, _, _, _, _ => none
  | n + 1, name_, c0_, c1_, c3_ =>
  if (!(((mget c0_ name_).getD false))) = true then
   some (c0_, c3_)
  else
   (module_find n c1_ name_).bind fun r4 =>
   jn (fun (b_12 : (List (List UInt8 × Bool))) (b_14 : (List (List UInt8))) =>
    chk ((b_14).length + ([name_]).length ≤ 137438953472) (
    some (b_12, b_14 ++ [name_])))
     (fun k11 =>
     module_Order_1_L0 n c1_ (module_Order_1 n) r4 k11 n 0 (mdel (c0_) (name_)) c3_)
def module_Order_L0 (n : Nat) (r13 : (List (List UInt8))) (k18 : (List (List UInt8 × Bool)) → Option ((List (List UInt8)) × Int)) : Nat → Nat → (List (List UInt8 × Bool)) → Option ((List (List UInt8)) × Int)
  | 0, _, _ => none
  | m1 + 1, t_21, wait_22 =>
  if t_21 < ((r13).length) then
   (r13[t_21]?).bind fun x27 =>
   module_Order_L0 n r13 k18 m1 (t_21 + 1) (mset (wait_22) (x27) (true))
  else
   k18 wait_22
/-- grammarlab/module.Order -/
def module_Order (n : Nat) (l_ : (List Module)) (main_ : (List UInt8)) : Option ((List (List UInt8)) × Int) :=
 (module_check n l_ main_).bind fun r3 =>
 if r3 ≠ 0 then
  some ([], r3)
 else
  (module_needs n l_ main_).bind fun r13 =>
  jn (fun (wait_19 : (List (List UInt8 × Bool))) =>
   (module_Order_1 n main_ wait_19 l_ []).bind fun r35 =>
   some (r35.2, 0))
    (fun k18 =>
    module_Order_L0 n r13 k18 n 0 [])
def r01_Same_L0 (n : Nat) (a_ : (List (List UInt8))) (b_ : (List (List UInt8))) : Nat → Nat → Option Bool
  | 0, _ => none
  | m1 + 1, i_2 =>
  if i_2 < ((a_).length) then
   (a_[i_2]?).bind fun x6 =>
   (b_[i_2]?).bind fun x9 =>
   if (x6 : List UInt8) ≠ x9 then
    some false
   else
    r01_Same_L0 n a_ b_ m1 (i_2 + 1)
  else
   some true
/-- grammarlab/grammarlabref01.Same -/
def r01_Same (n : Nat) (a_ : (List (List UInt8))) (b_ : (List (List UInt8))) : Option Bool :=
 if ((a_).length) ≠ ((b_).length) then
  some false
 else
  r01_Same_L0 n a_ b_ n 0
/-- grammarlab/hier.decl -/
def hier_decl (n : Nat) (name_ : (List UInt8)) (super_ : (List UInt8)) (feats_ : (List FeatDecl)) : Option TypeDecl :=
 some (TypeDecl.mk name_ [super_] feats_)
/-- grammarlab/hier.Prelude -/
def hier_Prelude (n : Nat)  : Option (List TypeDecl) :=
 (hier_decl n [108, 105, 115, 116] [116, 111, 112] []).bind fun r1 =>
 (hier_decl n [99, 111, 110, 115] [108, 105, 115, 116] [(FeatDecl.mk [70, 73, 82, 83, 84] [116, 111, 112]), (FeatDecl.mk [82, 69, 83, 84] [108, 105, 115, 116])]).bind fun r5 =>
 (hier_decl n [110, 117, 108, 108] [108, 105, 115, 116] []).bind fun r8 =>
 (hier_decl n [100, 108, 105, 115, 116] [116, 111, 112] [(FeatDecl.mk [76, 73, 83, 84] [108, 105, 115, 116]), (FeatDecl.mk [76, 65, 83, 84] [108, 105, 115, 116])]).bind fun r12 =>
 (hier_decl n [105, 110, 100, 101, 120] [116, 111, 112] []).bind fun r15 =>
 (hier_decl n [104, 97, 110, 100, 108, 101] [105, 110, 100, 101, 120] []).bind fun r18 =>
 (hier_decl n [101, 118, 101, 110, 116] [105, 110, 100, 101, 120] []).bind fun r21 =>
 (hier_decl n [101, 110, 116, 105, 116, 121] [105, 110, 100, 101, 120] []).bind fun r24 =>
 (hier_decl n [114, 101, 108] [116, 111, 112] [(FeatDecl.mk [76, 65, 66, 69, 76] [104, 97, 110, 100, 108, 101])]).bind fun r28 =>
 (hier_decl n [113, 101, 113] [116, 111, 112] [(FeatDecl.mk [72, 73, 71, 72] [104, 97, 110, 100, 108, 101]), (FeatDecl.mk [76, 79, 87] [104, 97, 110, 100, 108, 101])]).bind fun r32 =>
 (hier_decl n [115, 101, 109] [116, 111, 112] [(FeatDecl.mk [84, 79, 80] [104, 97, 110, 100, 108, 101]), (FeatDecl.mk [73, 78, 68, 69, 88] [105, 110, 100, 101, 120]), (FeatDecl.mk [82, 69, 76, 83] [100, 108, 105, 115, 116]), (FeatDecl.mk [67, 79, 78, 83] [100, 108, 105, 115, 116])]).bind fun r36 =>
 (hier_decl n [115, 105, 103, 110] [116, 111, 112] [(FeatDecl.mk [83, 69, 77] [115, 101, 109]), (FeatDecl.mk [65, 82, 71, 83] [108, 105, 115, 116])]).bind fun r40 =>
 some [(TypeDecl.mk [116, 111, 112] [] []), r1, r5, r8, r12, r15, r18, r21, r24, r28, r32, r36, r40]
def module_Visible_L0 (n : Nat) (r1 : (List TypeDecl)) (k6 : (List (List UInt8)) → Option (List (List UInt8))) : Nat → (List (List UInt8)) → Nat → Option (List (List UInt8))
  | 0, _, _ => none
  | m1 + 1, t_11, t_15 =>
  if t_15 < ((r1).length) then
   (r1[t_15]?).bind fun x19 =>
   chk ((t_11).length + ([x19.Name]).length ≤ 137438953472) (
   module_Visible_L0 n r1 k6 m1 (t_11 ++ [x19.Name]) (t_15 + 1))
  else
   k6 t_11
def module_Visible_L2 (n : Nat) (r59 : (Module × Bool)) (k66 : (List (List UInt8)) → Option (List (List UInt8))) : Nat → (List (List UInt8)) → Nat → Option (List (List UInt8))
  | 0, _, _ => none
  | m3 + 1, t_71, t_75 =>
  if t_75 < ((r59.1.Types).length) then
   (r59.1.Types[t_75]?).bind fun x79 =>
   chk ((t_71).length + ([x79.Name]).length ≤ 137438953472) (
   module_Visible_L2 n r59 k66 m3 (t_71 ++ [x79.Name]) (t_75 + 1))
  else
   k66 t_71
def module_Visible_L3 (n : Nat) (k49 : (List (List UInt8)) → Option (List (List UInt8))) (r59 : (Module × Bool)) : Nat → (List (List UInt8)) → Nat → Option (List (List UInt8))
  | 0, _, _ => none
  | m4 + 1, t_92, t_96 =>
  if t_96 < ((r59.1.Templates).length) then
   (r59.1.Templates[t_96]?).bind fun x100 =>
   chk (([64]).length + (x100.Name).length ≤ 9223372036854775807) (
   chk ((t_92).length + ([[64] ++ x100.Name]).length ≤ 137438953472) (
   module_Visible_L3 n k49 r59 m4 (t_92 ++ [[64] ++ x100.Name]) (t_96 + 1)))
  else
   k49 t_92
def module_Visible_L1 (n : Nat) (t_ : (List Module)) (r32 : (List (List UInt8))) (k37 : (List (List UInt8)) → Option (List (List UInt8))) : Nat → (List (List UInt8)) → Nat → Option (List (List UInt8))
  | 0, _, _ => none
  | m2 + 1, t_42, t_46 =>
  if t_46 < ((r32).length) then
   jn (fun (t_50 : (List (List UInt8))) =>
    module_Visible_L1 n t_ r32 k37 m2 t_50 (t_46 + 1))
     (fun k49 =>
     (r32[t_46]?).bind fun x55 =>
     (module_find n t_ x55).bind fun r59 =>
     jn (fun (t_67 : (List (List UInt8))) =>
      module_Visible_L3 n k49 r59 n t_67 0)
       (fun k66 =>
       module_Visible_L2 n r59 k66 n t_42 0))
  else
   k37 t_42
/-- grammarlab/module.Visible -/
def module_Visible (n : Nat) (t_ : (List Module)) (t_' : (List UInt8)) : Option (List (List UInt8)) :=
 (hier_Prelude n).bind fun r1 =>
 jn (fun (t_7 : (List (List UInt8))) =>
  (module_needs n t_ t_').bind fun r32 =>
  jn (fun (t_38 : (List (List UInt8))) =>
   (slices_Sort_string n t_38).bind fun r114 =>
   (slices_Compact_string n r114).bind fun r119 =>
   some r119)
    (fun k37 =>
    module_Visible_L1 n t_ r32 k37 n t_7 0))
   (fun k6 =>
   module_Visible_L0 n r1 k6 n [] 0)
def slices_Concat_TypeDecl_L0 (n : Nat) (slices_ : (List (List TypeDecl))) (k1 : Nat → Option (List TypeDecl)) : Nat → Nat → Nat → Option (List TypeDecl)
  | 0, _, _ => none
  | m1 + 1, size_3, t_4 =>
  if t_4 < ((slices_).length) then
   (slices_[t_4]?).bind fun x8 =>
   chk (size_3 + (x8).length ≤ 9223372036854775807) (
   if (size_3 + (x8).length) < 0 then
    none
   else
    slices_Concat_TypeDecl_L0 n slices_ k1 m1 (size_3 + (x8).length) (t_4 + 1))
  else
   k1 size_3
def slices_Concat_TypeDecl_L1 (n : Nat) (slices_ : (List (List TypeDecl))) : Nat → (List TypeDecl) → Nat → Option (List TypeDecl)
  | 0, _, _ => none
  | m2 + 1, newslice_19, t_23 =>
  if t_23 < ((slices_).length) then
   (slices_[t_23]?).bind fun x27 =>
   chk ((newslice_19).length + (x27).length ≤ 137438953472) (
   slices_Concat_TypeDecl_L1 n slices_ m2 (newslice_19 ++ x27) (t_23 + 1))
  else
   some newslice_19
/-- slices.Concat(()grammarlab/api.TypeDecl,grammarlab/api.TypeDecl) -/
def slices_Concat_TypeDecl (n : Nat) (slices_ : (List (List TypeDecl))) : Option (List TypeDecl) :=
 jn (fun (size_2 : Nat) =>
  (slices_Grow_TypeDecl n ((size_2 : Nat) : Int)).bind fun r14 =>
  slices_Concat_TypeDecl_L1 n slices_ n r14 0)
   (fun k1 =>
   slices_Concat_TypeDecl_L0 n slices_ k1 n 0 0)
/-- slices.Clone(()string,string) -/
def slices_Clone_string (n : Nat) (s_ : (List (List UInt8))) : Option (List (List UInt8)) :=
 chk ((s_).length ≤ 137438953472) (
 some s_)
/-- grammarlab/module.twice -/
def module_twice (n : Nat) (l_ : (List (List UInt8))) : Option Bool :=
 (sortedValues n l_).bind fun r3 =>
 (slices_Clone_string n r3).bind fun r10 =>
 (slices_Compact_string n r10).bind fun r13 =>
 some (decide (((r13).length) < ((r3).length)))
def module_names_L0 (n : Nat) (l_ : (List Def)) : Nat → (List (List UInt8)) → Nat → Option (List (List UInt8))
  | 0, _, _ => none
  | m1 + 1, out_1, t_5 =>
  if t_5 < ((l_).length) then
   (l_[t_5]?).bind fun x9 =>
   chk ((out_1).length + ([x9.Name]).length ≤ 137438953472) (
   module_names_L0 n l_ m1 (out_1 ++ [x9.Name]) (t_5 + 1))
  else
   some out_1
/-- grammarlab/module.names -/
def module_names (n : Nat) (l_ : (List Def)) : Option (List (List UInt8)) :=
 module_names_L0 n l_ n [] 0
def module_repeats_L0 (n : Nat) (r7 : (List TypeDecl)) (k15 : (List (List UInt8)) → Option Bool) : Nat → (List (List UInt8)) → Nat → Option Bool
  | 0, _, _ => none
  | m1 + 1, t_20, t_24 =>
  if t_24 < ((r7).length) then
   (r7[t_24]?).bind fun x28 =>
   chk ((t_20).length + ([x28.Name]).length ≤ 137438953472) (
   module_repeats_L0 n r7 k15 m1 (t_20 ++ [x28.Name]) (t_24 + 1))
  else
   k15 t_20
def module_repeats_L1 (n : Nat) (t_ : Module) (k41 : (List (List UInt8)) → Option Bool) : Nat → (List (List UInt8)) → Nat → Option Bool
  | 0, _, _ => none
  | m2 + 1, t_46, t_50 =>
  if t_50 < ((t_.Entries).length) then
   (t_.Entries[t_50]?).bind fun x54 =>
   chk ((t_46).length + ([x54.Def.Name]).length ≤ 137438953472) (
   module_repeats_L1 n t_ k41 m2 (t_46 ++ [x54.Def.Name]) (t_50 + 1))
  else
   k41 t_46
def module_repeats_L2 (n : Nat) (t_ : Module) (k67 : (List (List UInt8)) → Option Bool) : Nat → (List (List UInt8)) → Nat → Option Bool
  | 0, _, _ => none
  | m3 + 1, t_72, t_76 =>
  if t_76 < ((t_.LexRules).length) then
   (t_.LexRules[t_76]?).bind fun x80 =>
   chk ((t_72).length + ([x80.Def.Name]).length ≤ 137438953472) (
   module_repeats_L2 n t_ k67 m3 (t_72 ++ [x80.Def.Name]) (t_76 + 1))
  else
   k67 t_72
/-- grammarlab/module.repeats -/
def module_repeats (n : Nat) (t_ : Module) : Option Bool :=
 (hier_Prelude n).bind fun r3 =>
 (slices_Concat_TypeDecl n [r3, t_.Types]).bind fun r7 =>
 jn (fun (t_16 : (List (List UInt8))) =>
  jn (fun (t_42 : (List (List UInt8))) =>
   jn (fun (t_68 : (List (List UInt8))) =>
    (module_twice n t_16).bind fun r93 =>
    if r93 = true then
     some true
    else
     (module_names n t_.Templates).bind fun r99 =>
     (module_twice n r99).bind fun r102 =>
     if r102 = true then
      some true
     else
      (module_names n t_.Rules).bind fun r112 =>
      chk ((t_68).length + (r112).length ≤ 137438953472) (
      (module_twice n (t_68 ++ r112)).bind fun r118 =>
      if r118 = true then
       some true
      else
       (module_names n t_.Roots).bind fun r134 =>
       (module_twice n r134).bind fun r137 =>
       some r137))
     (fun k67 =>
     module_repeats_L2 n t_ k67 n t_42 0))
    (fun k41 =>
    module_repeats_L1 n t_ k41 n [] 0))
   (fun k15 =>
   module_repeats_L0 n r7 k15 n [] 0)
def slices_IndexFunc_string_L0 (n : Nat) (s_ : (List (List UInt8))) (f_ : ((List UInt8) → Option Bool)) : Nat → Nat → Option Int
  | 0, _ => none
  | m1 + 1, t_1 =>
  if t_1 < ((s_).length) then
   (s_[t_1]?).bind fun x5 =>
   (f_ x5).bind fun r7 =>
   if r7 = true then
    some ((t_1 : Nat) : Int)
   else
    slices_IndexFunc_string_L0 n s_ f_ m1 (t_1 + 1)
  else
   some (-1)
/-- slices.IndexFunc(()string,string) -/
def slices_IndexFunc_string (n : Nat) (s_ : (List (List UInt8))) (f_ : ((List UInt8) → Option Bool)) : Option Int :=
 slices_IndexFunc_string_L0 n s_ f_ n 0
/-- slices.ContainsFunc(()string,string) -/
def slices_ContainsFunc_string (n : Nat) (s_ : (List (List UInt8))) (f_ : ((List UInt8) → Option Bool)) : Option Bool :=
 (slices_IndexFunc_string n s_ f_).bind fun r1 =>
 some (decide ((0 : Int) ≤ r1))
def slices_Concat_Def_L0 (n : Nat) (slices_ : (List (List Def))) (k1 : Nat → Option (List Def)) : Nat → Nat → Nat → Option (List Def)
  | 0, _, _ => none
  | m1 + 1, size_3, t_4 =>
  if t_4 < ((slices_).length) then
   (slices_[t_4]?).bind fun x8 =>
   chk (size_3 + (x8).length ≤ 9223372036854775807) (
   if (size_3 + (x8).length) < 0 then
    none
   else
    slices_Concat_Def_L0 n slices_ k1 m1 (size_3 + (x8).length) (t_4 + 1))
  else
   k1 size_3
def slices_Concat_Def_L1 (n : Nat) (slices_ : (List (List Def))) : Nat → (List Def) → Nat → Option (List Def)
  | 0, _, _ => none
  | m2 + 1, newslice_19, t_23 =>
  if t_23 < ((slices_).length) then
   (slices_[t_23]?).bind fun x27 =>
   chk ((newslice_19).length + (x27).length ≤ 137438953472) (
   slices_Concat_Def_L1 n slices_ m2 (newslice_19 ++ x27) (t_23 + 1))
  else
   some newslice_19
/-- slices.Concat(()grammarlab/api.Def,grammarlab/api.Def) -/
def slices_Concat_Def (n : Nat) (slices_ : (List (List Def))) : Option (List Def) :=
 jn (fun (size_2 : Nat) =>
  (slices_Grow_Def n ((size_2 : Nat) : Int)).bind fun r14 =>
  slices_Concat_Def_L1 n slices_ n r14 0)
   (fun k1 =>
   slices_Concat_Def_L0 n slices_ k1 n 0 0)
def module_definitions_L0 (n : Nat) (m_ : Module) (k10 : (List Def) → Option (List Def)) : Nat → (List Def) → Nat → Option (List Def)
  | 0, _, _ => none
  | m1 + 1, out_15, t_19 =>
  if t_19 < ((m_.Entries).length) then
   (m_.Entries[t_19]?).bind fun x23 =>
   chk ((out_15).length + ([x23.Def]).length ≤ 137438953472) (
   module_definitions_L0 n m_ k10 m1 (out_15 ++ [x23.Def]) (t_19 + 1))
  else
   k10 out_15
def module_definitions_L1 (n : Nat) (m_ : Module) : Nat → (List Def) → Nat → Option (List Def)
  | 0, _, _ => none
  | m2 + 1, out_36, t_40 =>
  if t_40 < ((m_.LexRules).length) then
   (m_.LexRules[t_40]?).bind fun x44 =>
   chk ((out_36).length + ([x44.Def]).length ≤ 137438953472) (
   module_definitions_L1 n m_ m2 (out_36 ++ [x44.Def]) (t_40 + 1))
  else
   some out_36
/-- grammarlab/module.definitions -/
def module_definitions (n : Nat) (m_ : Module) : Option (List Def) :=
 (slices_Concat_Def n [m_.Templates, m_.Rules, m_.Roots]).bind fun r4 =>
 jn (fun (out_11 : (List Def)) =>
  module_definitions_L1 n m_ n out_11 0)
   (fun k10 =>
   module_definitions_L0 n m_ k10 n r4 0)
def desc_Names_1_L0 (n : Nat) (d_ : Desc) (self_ : Desc → (List (List UInt8)) → (List (List UInt8)) → Option ((List (List UInt8)) × (List (List UInt8)))) : Nat → Nat → (List (List UInt8)) → (List (List UInt8)) → Option ((List (List UInt8)) × (List (List UInt8)))
  | 0, _, _, _ => none
  | m1 + 1, t_28, b_29, b_33 =>
  if t_28 < ((d_.Kids).length) then
   (d_.Kids[t_28]?).bind fun x40 =>
   (self_ x40 b_29 b_33).bind fun r46 =>
   desc_Names_1_L0 n d_ self_ m1 (t_28 + 1) r46.1 r46.2
  else
   some (b_29, b_33)
/-- grammarlab/desc.Names inner 1 -/
def desc_Names_1 : Nat → Desc → (List (List UInt8)) → (List (List UInt8)) → Option ((List (List UInt8)) × (List (List UInt8)))
  | 0, _, _, _ => none
  | n + 1, d_, c0_, c1_ =>
  jn (fun (b_4 : (List (List UInt8))) (b_8 : (List (List UInt8))) =>
   desc_Names_1_L0 n d_ (desc_Names_1 n) n 0 b_4 b_8)
    (fun k3 =>
    if d_.Op = 1 then
     chk ((c0_).length + ([d_.Name]).length ≤ 137438953472) (
     k3 (c0_ ++ [d_.Name]) c1_)
    else
     if d_.Op = 2 then
      chk ((c1_).length + ([d_.Name]).length ≤ 137438953472) (
      k3 c0_ (c1_ ++ [d_.Name]))
     else
      k3 c0_ c1_)
/-- grammarlab/desc.Names -/
def desc_Names (n : Nat) (d_ : Desc) : Option ((List (List UInt8)) × (List (List UInt8))) :=
 (desc_Names_1 n d_ [] []).bind fun r9 =>
 jn (fun (types_17 : (List (List UInt8))) (templates_21 : (List (List UInt8))) =>
  some (types_17, templates_21))
   (fun k16 =>
   (slices_Sort_string n r9.1).bind fun r25 =>
   (slices_Compact_string n r25).bind fun r30 =>
   chk (0 + 1 ≤ 9223372036854775807) (
   (slices_Sort_string n r9.2).bind fun r36 =>
   (slices_Compact_string n r36).bind fun r41 =>
   chk (1 + 1 ≤ 9223372036854775807) (
   k16 r30 r41)))
def module_uses_L1 (n : Nat) (k15 : (List (List UInt8)) → Option (List (List UInt8))) (x21 : TypeDecl) : Nat → (List (List UInt8)) → Nat → Option (List (List UInt8))
  | 0, _, _ => none
  | m2 + 1, t_32, t_36 =>
  if t_36 < ((x21.Feats).length) then
   (x21.Feats[t_36]?).bind fun x40 =>
   chk ((t_32).length + ([x40.Value]).length ≤ 137438953472) (
   module_uses_L1 n k15 x21 m2 (t_32 ++ [x40.Value]) (t_36 + 1))
  else
   k15 t_32
def module_uses_L0 (n : Nat) (t_ : Module) (k3 : (List (List UInt8)) → Option (List (List UInt8))) : Nat → (List (List UInt8)) → Nat → Option (List (List UInt8))
  | 0, _, _ => none
  | m1 + 1, t_8, t_12 =>
  if t_12 < ((t_.Types).length) then
   jn (fun (t_16 : (List (List UInt8))) =>
    module_uses_L0 n t_ k3 m1 t_16 (t_12 + 1))
     (fun k15 =>
     (t_.Types[t_12]?).bind fun x21 =>
     chk ((t_8).length + (x21.Supers).length ≤ 137438953472) (
     module_uses_L1 n k15 x21 n (t_8 ++ x21.Supers) 0))
  else
   k3 t_8
def module_uses_L4 (n : Nat) (k91 : (List (List UInt8)) → Option (List (List UInt8))) (r103 : ((List (List UInt8)) × (List (List UInt8)))) : Nat → (List (List UInt8)) → Nat → Option (List (List UInt8))
  | 0, _, _ => none
  | m5 + 1, t_113, t_117 =>
  if t_117 < ((r103.2).length) then
   (r103.2[t_117]?).bind fun x121 =>
   chk (([64]).length + (x121).length ≤ 9223372036854775807) (
   chk ((t_113).length + ([[64] ++ x121]).length ≤ 137438953472) (
   module_uses_L4 n k91 r103 m5 (t_113 ++ [[64] ++ x121]) (t_117 + 1)))
  else
   k91 t_113
def module_uses_L3 (n : Nat) (k65 : (List (List UInt8)) → Option (List (List UInt8))) (x71 : Def) : Nat → (List (List UInt8)) → Nat → Option (List (List UInt8))
  | 0, _, _ => none
  | m4 + 1, t_84, t_88 =>
  if t_88 < (([x71.Strict] ++ x71.Defaults).length) then
   jn (fun (t_92 : (List (List UInt8))) =>
    module_uses_L3 n k65 x71 m4 t_92 (t_88 + 1))
     (fun k91 =>
     (([x71.Strict] ++ x71.Defaults)[t_88]?).bind fun x97 =>
     (desc_Names n x97).bind fun r103 =>
     chk ((t_84).length + (r103.1).length ≤ 137438953472) (
     module_uses_L4 n k91 r103 n (t_84 ++ r103.1) 0))
  else
   k65 t_84
def module_uses_L2 (n : Nat) (r53 : (List Def)) : Nat → (List (List UInt8)) → Nat → Option (List (List UInt8))
  | 0, _, _ => none
  | m3 + 1, t_58, t_62 =>
  if t_62 < ((r53).length) then
   jn (fun (t_66 : (List (List UInt8))) =>
    module_uses_L2 n r53 m3 t_66 (t_62 + 1))
     (fun k65 =>
     (r53[t_62]?).bind fun x71 =>
     chk (([x71.Strict]).length + (x71.Defaults).length ≤ 137438953472) (
     module_uses_L3 n k65 x71 n t_58 0))
  else
   some t_58
/-- grammarlab/module.uses -/
def module_uses (n : Nat) (t_ : Module) : Option (List (List UInt8)) :=
 jn (fun (t_4 : (List (List UInt8))) =>
  (module_definitions n t_).bind fun r53 =>
  module_uses_L2 n r53 n t_4 0)
   (fun k3 =>
   module_uses_L0 n t_ k3 n [] 0)
/-- grammarlab/module.Link inner 1 -/
def module_Link_1 (n : Nat) (x_ : (List UInt8)) (c0_ : (List (List UInt8))) : Option Bool :=
 (slices_Contains_string n c0_ x_).bind fun r1 =>
 some (!(r1))
def module_Link_L0 (n : Nat) (t_ : (List Module)) (r3 : ((List (List UInt8)) × Int)) (k11 : (List TypeDecl) → (List Def) → (List EntryDecl) → (List LexDecl) → (List Def) → (List Def) → (List (List (List UInt8))) → (List (List UInt8)) → Option (Module × Int)) : Nat → Nat → (List TypeDecl) → (List Def) → (List EntryDecl) → (List LexDecl) → (List Def) → (List Def) → (List (List (List UInt8))) → (List (List UInt8)) → Option (Module × Int)
  | 0, _, _, _, _, _, _, _, _, _ => none
  | m1 + 1, t_44, b_45, b_49, b_53, b_57, b_61, b_65, b_69, b_73 =>
  if t_44 < ((r3.1).length) then
   (r3.1[t_44]?).bind fun x80 =>
   (module_find n t_ x80).bind fun r84 =>
   chk ((b_45).length + (r84.1.Types).length ≤ 137438953472) (
   chk ((b_49).length + (r84.1.Templates).length ≤ 137438953472) (
   chk ((b_53).length + (r84.1.Entries).length ≤ 137438953472) (
   chk ((b_57).length + (r84.1.LexRules).length ≤ 137438953472) (
   chk ((b_61).length + (r84.1.Rules).length ≤ 137438953472) (
   chk ((b_65).length + (r84.1.Roots).length ≤ 137438953472) (
   chk ((b_69).length + (r84.1.Checks).length ≤ 137438953472) (
   chk ((b_73).length + (r84.1.Drops).length ≤ 137438953472) (
   module_Link_L0 n t_ r3 k11 m1 (t_44 + 1) (b_45 ++ r84.1.Types) (b_49 ++ r84.1.Templates) (b_53 ++ r84.1.Entries) (b_57 ++ r84.1.LexRules) (b_61 ++ r84.1.Rules) (b_65 ++ r84.1.Roots) (b_69 ++ r84.1.Checks) (b_73 ++ r84.1.Drops)))))))))
  else
   k11 b_45 b_49 b_53 b_57 b_61 b_65 b_69 b_73
def module_Link_L1 (n : Nat) (t_ : (List Module)) (r3 : ((List (List UInt8)) × Int)) (k137 : Option (Module × Int)) : Nat → Nat → Option (Module × Int)
  | 0, _ => none
  | m2 + 1, t_138 =>
  if t_138 < ((r3.1).length) then
   (r3.1[t_138]?).bind fun x142 =>
   (module_find n t_ x142).bind fun r146 =>
   (module_Visible n t_ x142).bind fun r153 =>
   (module_uses n r146.1).bind fun r160 =>
   (slices_ContainsFunc_string n r160 (fun p => module_Link_1 n p r153)).bind fun r163 =>
   if r163 = true then
    some ((Module.mk [] [] [] [] [] [] [] [] [] []), 5)
   else
    module_Link_L1 n t_ r3 k137 m2 (t_138 + 1)
  else
   k137
/-- grammarlab/module.Link -/
def module_Link (n : Nat) (t_ : (List Module)) (t_' : (List UInt8)) : Option (Module × Int) :=
 (module_Order n t_ t_').bind fun r3 =>
 if r3.2 ≠ 0 then
  some ((Module.mk [] [] [] [] [] [] [] [] [] []), r3.2)
 else
  jn (fun (b_12 : (List TypeDecl)) (b_16 : (List Def)) (b_20 : (List EntryDecl)) (b_24 : (List LexDecl)) (b_28 : (List Def)) (b_32 : (List Def)) (b_36 : (List (List (List UInt8)))) (b_40 : (List (List UInt8))) =>
   (module_repeats n (Module.mk t_' [] b_12 b_16 b_20 b_24 b_28 b_32 b_36 b_40)).bind fun r131 =>
   if r131 = true then
    some ((Module.mk [] [] [] [] [] [] [] [] [] []), 4)
   else
    jn (
     some ((Module.mk t_' [] b_12 b_16 b_20 b_24 b_28 b_32 b_36 b_40), 0))
      (fun k137 =>
      module_Link_L1 n t_ r3 k137 n 0))
    (fun k11 =>
    module_Link_L0 n t_ r3 k11 n 0 [] [] [] [] [] [] [] [])
/-- grammarlab/grammarlablaw22.exampleHolds -/
def law22_exampleHolds (n : Nat)  : Option Bool :=
 (module_Order n [(Module.mk [97] [[98], [99]] [(TypeDecl.mk [120] [[121]] [])] [] [] [] [] [] [] []), (Module.mk [98] [[99]] [] [] [] [] [] [] [] []), (Module.mk [99] [] [(TypeDecl.mk [121] [[116, 111, 112]] [])] [] [] [] [] [] [] []), (Module.mk [100] [] [(TypeDecl.mk [122] [[121]] [])] [] [] [] [] [] [] [])] [97]).bind fun r19 =>
 (module_Link n [(Module.mk [97] [[98], [99]] [(TypeDecl.mk [120] [[121]] [])] [] [] [] [] [] [] []), (Module.mk [98] [[99]] [] [] [] [] [] [] [] []), (Module.mk [99] [] [(TypeDecl.mk [121] [[116, 111, 112]] [])] [] [] [] [] [] [] []), (Module.mk [100] [] [(TypeDecl.mk [122] [[121]] [])] [] [] [] [] [] [] [])] [97]).bind fun r24 =>
 (module_Link n [(Module.mk [97] [[98], [99]] [(TypeDecl.mk [120] [[121]] [])] [] [] [] [] [] [] []), (Module.mk [98] [[99]] [] [] [] [] [] [] [] []), (Module.mk [99] [] [(TypeDecl.mk [121] [[116, 111, 112]] [])] [] [] [] [] [] [] []), (Module.mk [100] [] [(TypeDecl.mk [122] [[121]] [])] [] [] [] [] [] [] [])] [100]).bind fun r31 =>
 (module_Order n [(Module.mk [97] [[97]] [] [] [] [] [] [] [] [])] [97]).bind fun r40 =>
 (module_Visible n [(Module.mk [97] [[98], [99]] [(TypeDecl.mk [120] [[121]] [])] [] [] [] [] [] [] []), (Module.mk [98] [[99]] [] [] [] [] [] [] [] []), (Module.mk [99] [] [(TypeDecl.mk [121] [[116, 111, 112]] [])] [] [] [] [] [] [] []), (Module.mk [100] [] [(TypeDecl.mk [122] [[121]] [])] [] [] [] [] [] [] [])] [98]).bind fun r47 =>
 if r19.2 = 0 then
  (r01_Same n r19.1 [[99], [98], [97]]).bind fun r54 =>
  if r54 = true then
   if r24.2 = 0 then
    if (r24.1.Name : List UInt8) = [97] then
     if ((r24.1.Types).length) = 2 then
      (r24.1.Types[0]?).bind fun x62 =>
      if (x62.Name : List UInt8) = [121] then
       if r31.2 = 5 then
        if r40.2 = 6 then
         if ((r47).length) = 14 then
          (r47[13]?).bind fun x69 =>
          if (x69 : List UInt8) = [121] then
           (r47[0]?).bind fun x73 =>
           some (decide ((x73 : List UInt8) = [99, 111, 110, 115]))
          else
           some false
         else
          some false
        else
         some false
       else
        some false
      else
       some false
     else
      some false
    else
     some false
   else
    some false
  else
   some false
 else
  some false
def r21_sameTypes_L1 (n : Nat) (t_ : (List TypeDecl)) (t_' : (List TypeDecl)) (t_2 : Nat) (k5 : Option Bool) : Nat → Nat → Option Bool
  | 0, _ => none
  | m2 + 1, t_60 =>
  (t_[t_2]?).bind fun x62 =>
  if t_60 < ((x62.Feats).length) then
   (x62.Feats[t_60]?).bind fun x71 =>
   (t_'[t_2]?).bind fun x74 =>
   (x74.Feats[t_60]?).bind fun x77 =>
   if x71 = x77 then
    r21_sameTypes_L1 n t_ t_' t_2 k5 m2 (t_60 + 1)
   else
    some false
  else
   k5
def r21_sameTypes_L0 (n : Nat) (t_ : (List TypeDecl)) (t_' : (List TypeDecl)) : Nat → Nat → Option Bool
  | 0, _ => none
  | m1 + 1, t_2 =>
  if t_2 < ((t_).length) then
   jn (
    r21_sameTypes_L0 n t_ t_' m1 (t_2 + 1))
     (fun k5 =>
     jn (fun (t_7 : Bool) =>
      if t_7 = true then
       some false
      else
       r21_sameTypes_L1 n t_ t_' t_2 k5 n 0)
       (fun k6 =>
       (t_[t_2]?).bind fun x9 =>
       (t_'[t_2]?).bind fun x12 =>
       if (x9.Name : List UInt8) ≠ x12.Name then
        k6 true
       else
        (r01_Same n x9.Supers x12.Supers).bind fun r23 =>
        if (!(r23)) = true then
         k6 true
        else
         k6 (decide (((x9.Feats).length) ≠ ((x12.Feats).length)))))
  else
   some true
/-- grammarlab/grammarlabref21.sameTypes -/
def r21_sameTypes (n : Nat) (t_ : (List TypeDecl)) (t_' : (List TypeDecl)) : Option Bool :=
 if ((t_).length) ≠ ((t_').length) then
  some false
 else
  r21_sameTypes_L0 n t_ t_' n 0
def r19_SameDescs_L0 (n : Nat) (a_ : (List Desc)) (b_ : (List Desc)) (via_ : Desc → Desc → Option Bool) : Nat → Nat → Option Bool
  | 0, _ => none
  | m1 + 1, i_2 =>
  if i_2 < ((a_).length) then
   (a_[i_2]?).bind fun x6 =>
   (b_[i_2]?).bind fun x9 =>
   (via_ x6 x9).bind fun r11 =>
   if (!(r11)) = true then
    some false
   else
    r19_SameDescs_L0 n a_ b_ via_ m1 (i_2 + 1)
  else
   some true
/-- grammarlab/grammarlabref19.SameDescs -/
def r19_SameDescs (n : Nat) (via_ : Desc → Desc → Option Bool) (a_ : (List Desc)) (b_ : (List Desc)) : Option Bool :=
 if ((a_).length) ≠ ((b_).length) then
  some false
 else
  r19_SameDescs_L0 n a_ b_ via_ n 0
/-- grammarlab/grammarlabref19.SameDesc -/
def r19_SameDesc : Nat → Desc → Desc → Option Bool
  | 0, _, _ => none
  | n + 1, a_, b_ =>
  if a_.Op = b_.Op then
   if (a_.Name : List UInt8) = b_.Name then
    (r01_Same n a_.Path b_.Path).bind fun r7 =>
    if r7 = true then
     (r19_SameDescs n (r19_SameDesc n) a_.Kids b_.Kids).bind fun r11 =>
     some r11
    else
     some false
   else
    some false
  else
   some false
def r21_sameDefs_L0 (n : Nat) (a_ : (List Def)) (b_ : (List Def)) : Nat → Nat → Option Bool
  | 0, _ => none
  | m1 + 1, i_2 =>
  if i_2 < ((a_).length) then
   jn (fun (t_6 : Bool) =>
    if t_6 = true then
     some false
    else
     r21_sameDefs_L0 n a_ b_ m1 (i_2 + 1))
     (fun k5 =>
     (a_[i_2]?).bind fun x8 =>
     (b_[i_2]?).bind fun x11 =>
     if (x8.Name : List UInt8) ≠ x11.Name then
      k5 true
     else
      (r19_SameDesc n x8.Strict x11.Strict).bind fun r22 =>
      if (!(r22)) = true then
       k5 true
      else
       (r19_SameDescs n (r19_SameDesc n) x8.Defaults x11.Defaults).bind fun r40 =>
       k5 (!(r40)))
  else
   some true
/-- grammarlab/grammarlabref21.sameDefs -/
def r21_sameDefs (n : Nat) (a_ : (List Def)) (b_ : (List Def)) : Option Bool :=
 if ((a_).length) ≠ ((b_).length) then
  some false
 else
  r21_sameDefs_L0 n a_ b_ n 0
def r21_SameAffix_L0 (n : Nat) (a_ : Affix) (b_ : Affix) : Nat → Nat → Option Bool
  | 0, _ => none
  | m1 + 1, i_9 =>
  if i_9 < ((a_.Pairs).length) then
   (a_.Pairs[i_9]?).bind fun x13 =>
   (b_.Pairs[i_9]?).bind fun x16 =>
   if x13 = x16 then
    r21_SameAffix_L0 n a_ b_ m1 (i_9 + 1)
   else
    some false
  else
   some true
/-- grammarlab/grammarlabref21.SameAffix -/
def r21_SameAffix (n : Nat) (a_ : Affix) (b_ : Affix) : Option Bool :=
 jn (fun (t_6 : Bool) =>
  if t_6 = true then
   some false
  else
   r21_SameAffix_L0 n a_ b_ n 0)
   (fun k5 =>
   if a_.Kind ≠ b_.Kind then
    k5 true
   else
    k5 (decide (((a_.Pairs).length) ≠ ((b_.Pairs).length))))
def r21_sameLists_L0 (n : Nat) (t_ : Module) (t_' : Module) (k10 : Option Bool) : Nat → Nat → Option Bool
  | 0, _ => none
  | m1 + 1, t_11 =>
  if t_11 < ((t_.Entries).length) then
   jn (fun (t_15 : Bool) =>
    if t_15 = true then
     some false
    else
     r21_sameLists_L0 n t_ t_' k10 m1 (t_11 + 1))
     (fun k14 =>
     (t_.Entries[t_11]?).bind fun x17 =>
     (t_'.Entries[t_11]?).bind fun x20 =>
     (r01_Same n x17.Words x20.Words).bind fun r22 =>
     if (!(r22)) = true then
      k14 true
     else
      (r21_sameDefs n [x17.Def] [x20.Def]).bind fun r38 =>
      k14 (!(r38)))
  else
   k10
def r21_sameLists_L1 (n : Nat) (t_ : Module) (t_' : Module) (k156 : Option Bool) : Nat → Nat → Option Bool
  | 0, _ => none
  | m2 + 1, t_157 =>
  if t_157 < ((t_.LexRules).length) then
   jn (fun (t_161 : Bool) =>
    if t_161 = true then
     some false
    else
     r21_sameLists_L1 n t_ t_' k156 m2 (t_157 + 1))
     (fun k160 =>
     (t_.LexRules[t_157]?).bind fun x163 =>
     (t_'.LexRules[t_157]?).bind fun x166 =>
     (r21_SameAffix n x163.Affix x166.Affix).bind fun r168 =>
     if (!(r168)) = true then
      k160 true
     else
      (r21_sameDefs n [x163.Def] [x166.Def]).bind fun r184 =>
      k160 (!(r184)))
  else
   k156
def r21_sameLists_L2 (n : Nat) (t_ : Module) (t_' : Module) : Nat → Nat → Option Bool
  | 0, _ => none
  | m3 + 1, t_302 =>
  if t_302 < ((t_.Checks).length) then
   (t_.Checks[t_302]?).bind fun x306 =>
   (t_'.Checks[t_302]?).bind fun x309 =>
   (r01_Same n x306 x309).bind fun r311 =>
   if (!(r311)) = true then
    some false
   else
    r21_sameLists_L2 n t_ t_' m3 (t_302 + 1)
  else
   some true
/-- grammarlab/grammarlabref21.sameLists -/
def r21_sameLists (n : Nat) (t_ : Module) (t_' : Module) : Option Bool :=
 jn (fun (t_6 : Bool) =>
  if t_6 = true then
   some false
  else
   jn (
    jn (
     r21_sameLists_L2 n t_ t_' n 0)
      (fun k156 =>
      r21_sameLists_L1 n t_ t_' k156 n 0))
     (fun k10 =>
     r21_sameLists_L0 n t_ t_' k10 n 0))
   (fun k5 =>
   if ((t_.Entries).length) ≠ ((t_'.Entries).length) then
    k5 true
   else
    if ((t_.LexRules).length) ≠ ((t_'.LexRules).length) then
     k5 true
    else
     k5 (decide (((t_.Checks).length) ≠ ((t_'.Checks).length))))
/-- grammarlab/grammarlabref21.SameModule -/
def r21_SameModule (n : Nat) (a_ : Module) (b_ : Module) : Option Bool :=
 if (a_.Name : List UInt8) = b_.Name then
  (r01_Same n a_.Imports b_.Imports).bind fun r6 =>
  if r6 = true then
   (r21_sameTypes n a_.Types b_.Types).bind fun r10 =>
   if r10 = true then
    (r21_sameDefs n a_.Templates b_.Templates).bind fun r14 =>
    if r14 = true then
     (r21_sameLists n a_ b_).bind fun r18 =>
     if r18 = true then
      (r21_sameDefs n a_.Rules b_.Rules).bind fun r22 =>
      if r22 = true then
       (r21_sameDefs n a_.Roots b_.Roots).bind fun r26 =>
       if r26 = true then
        (r01_Same n a_.Drops b_.Drops).bind fun r30 =>
        some r30
       else
        some false
      else
       some false
     else
      some false
    else
     some false
   else
    some false
  else
   some false
 else
  some false
/-- grammarlab/grammarlablaw22.ModuleAgain -/
def law22_ModuleAgain (n : Nat) (l_ : (List Module)) (main_ : (List UInt8)) : Option Bool :=
 (law22_light n l_).bind fun r1 =>
 if (!(r1)) = true then
  (law22_exampleHolds n).bind fun r7 =>
  some r7
 else
  (module_Link n l_ main_).bind fun r12 =>
  if r12.2 ≠ 0 then
   (r21_SameModule n r12.1 (Module.mk [] [] [] [] [] [] [] [] [] [])).bind fun r20 =>
   if r20 = true then
    (law22_exampleHolds n).bind fun r24 =>
    some r24
   else
    some false
  else
   (module_Link n [r12.1] main_).bind fun r34 =>
   if r34.2 = 0 then
    (r21_SameModule n r12.1 r34.1).bind fun r43 =>
    if r43 = true then
     if (r12.1.Name : List UInt8) = main_ then
      if ((r12.1.Imports).length) = 0 then
       (law22_exampleHolds n).bind fun r49 =>
       some r49
      else
       some false
     else
      some false
    else
     some false
   else
    some false
end Go.Proofs.YtbhjplflnkidgaaGreat


/- below.both's nodes and fits; a symbolic walk. -/
-- TYPESA
import Derived.Test.YtgecnlcbdbaneaaDoorH5
set_option linter.unusedVariables false
set_option linter.unusedSimpArgs false
namespace Go.Proofs.YtgecnlcbdbaneaaDoor
open Go.RowKit Go.Sw

/-- A pair of nodes. -/
structure Pr where
  a : Int
  b : Int
  t : Bool
deriving DecidableEq
abbrev bD (t : Bool) : D := .v (.bool t)
def Pr.d (p : Pr) : D := .agg [iD p.a, iD p.b, bD p.t]
def n0 : Nd := ⟨0, 0, [], []⟩
def gAt (g : List Nd) (i : Int) : Nd := g.getD i.toNat n0
def ndX (g h : List Nd) (p : Pr) : Nd := if p.t = true then gAt h p.b else gAt g p.a
def ndY (g h : List Nd) (p : Pr) : Nd := if p.t = true then gAt g p.a else gAt h p.b
theorem gAt_d {g : List Nd} {i : Int} (h0 : 0 ≤ i) (h1 : i < (g.length : Int)) : (g.map Nd.d).getD i.toNat default = (gAt g i).d := by
  have : i.toNat < g.length := by omega
  simp [List.getD, gAt, this]
/-- From x's To i and y's To k. -/
def toP (g h : List Nd) (p : Pr) (i k : Int) (t : Bool) : Pr :=
  if p.t = true then ⟨(gAt g p.a).to.getD k.toNat 0, (gAt h p.b).to.getD i.toNat 0, p.t != t⟩ else ⟨(gAt g p.a).to.getD i.toNat 0, (gAt h p.b).to.getD k.toNat 0, p.t != t⟩
end Go.Proofs.YtgecnlcbdbaneaaDoor

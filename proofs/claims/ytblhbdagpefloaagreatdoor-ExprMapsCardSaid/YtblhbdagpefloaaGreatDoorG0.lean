/-
 Grammars: what they are, and as rows.
-/
import Derived.Test.YtblhbdagpefloaaGreatDoorW1
namespace Ab
open Go
set_option linter.unusedVariables false
inductive GVal where
 | mk (kind i : Int) (s : List UInt8) (l : List GVal)
namespace GVal
def kind : GVal → Int | .mk k _ _ _ => k
def i : GVal → Int | .mk _ i _ _ => i
def s : GVal → List UInt8 | .mk _ _ s _ => s
def l : GVal → List GVal | .mk _ _ _ l => l
end GVal
mutual
def GVal.row : GVal → List D
 | .mk k i s l => [.i .i64 k, .i .i64 i, .s s, .l 4 (gvalRows l)]
def gvalRows : List GVal → List (List D)
 | [] => []
 | x :: r => GVal.row x :: gvalRows r
end
theorem gvalRows_eq : ∀ (l : List GVal), gvalRows l = l.map GVal.row
 | [] => rfl
 | x :: r => by simp [gvalRows, gvalRows_eq r]
structure GTok where
 name : List UInt8
 rex : List UInt8
 skip : Bool
structure GNt where
 name : List UInt8
 inh : List (List UInt8)
 syn : List (List UInt8)
structure GSym where
 tok : Bool
 at_ : Int
inductive Exp where
 | mk (op : Int) (v : GVal) (occ attr : Int) (args : List Exp)
namespace Exp
def op : Exp → Int | .mk o _ _ _ _ => o
def v : Exp → GVal | .mk _ v _ _ _ => v
def occ : Exp → Int | .mk _ _ o _ _ => o
def attr : Exp → Int | .mk _ _ _ a _ => a
def args : Exp → List Exp | .mk _ _ _ _ as => as
end Exp
structure GRule where
 occ : Int
 attr : Int
 e : Exp
structure GProd where
 left : Int
 right : List GSym
 rules : List GRule
structure Gram where
 toks : List GTok
 nts : List GNt
 prods : List GProd
def strRow (s : List UInt8) : List D := [.s s]
def GTok.row (t : GTok) : List D := [.s t.name, .s t.rex, .b t.skip]
def GNt.row (n : GNt) : List D := [.s n.name, .l 1 (n.inh.map strRow), .l 1 (n.syn.map strRow)]
def GSym.row (s : GSym) : List D := [.b s.tok, .i .i64 s.at_]
mutual
def Exp.row : Exp → List D
 | .mk o v occ attr args => [.i .i64 o, .i .i64 v.kind, .i .i64 v.i, .s v.s, .l 4 (gvalRows v.l), .i .i64 occ, .i .i64 attr, .l 8 (expRows args)]
def expRows : List Exp → List (List D)
 | [] => []
 | x :: r => Exp.row x :: expRows r
end
theorem expRows_eq : ∀ (l : List Exp), expRows l = l.map Exp.row
 | [] => rfl
 | x :: r => by simp [expRows, expRows_eq r]
theorem exp_row (e : Exp) : e.row = [.i .i64 e.op, .i .i64 e.v.kind, .i .i64 e.v.i, .s e.v.s, .l 4 (gvalRows e.v.l), .i .i64 e.occ, .i .i64 e.attr, .l 8 (e.args.map Exp.row)] := by
 cases e; simp only [Exp.row, expRows_eq]; rfl
def GRule.row (r : GRule) : List D := [.i .i64 r.occ, .i .i64 r.attr, .i .i64 r.e.op, .i .i64 r.e.v.kind, .i .i64 r.e.v.i, .s r.e.v.s, .l 4 (gvalRows r.e.v.l), .i .i64 r.e.occ, .i .i64 r.e.attr, .l 8 (r.e.args.map Exp.row)]
def GProd.row (p : GProd) : List D := [.i .i64 p.left, .l 2 (p.right.map GSym.row), .l 10 (p.rules.map GRule.row)]
def Gram.row (g : Gram) : List D := [.l 3 (g.toks.map GTok.row), .l 3 (g.nts.map GNt.row), .l 3 (g.prods.map GProd.row)]
abbrev Gram.cells (g : Gram) : List D := [.l 3 (g.toks.map GTok.row), .l 3 (g.nts.map GNt.row), .l 3 (g.prods.map GProd.row)]
abbrev GProd.cells (p : GProd) : List D := [.i .i64 p.left, .l 2 (p.right.map GSym.row), .l 10 (p.rules.map GRule.row)]
abbrev Gram.arg (g : Gram) : V := .agg [.d (.l 3 (g.toks.map GTok.row)), .d (.l 3 (g.nts.map GNt.row)), .d (.l 3 (g.prods.map GProd.row))]
abbrev GProd.arg (p : GProd) : V := .agg [.d (.i .i64 p.left), .d (.l 2 (p.right.map GSym.row)), .d (.l 10 (p.rules.map GRule.row))]
abbrev GSym.arg (s : GSym) : V := .agg [.d (.b s.tok), .d (.i .i64 s.at_)]
abbrev GNt.arg (n : GNt) : V := .agg [.d (.s n.name), .d (.l 1 (n.inh.map strRow)), .d (.l 1 (n.syn.map strRow))]
abbrev Exp.arg (e : Exp) : V := .agg [.d (.i .i64 e.op), .d (.i .i64 e.v.kind), .d (.i .i64 e.v.i), .d (.s e.v.s), .d (.l 4 (gvalRows e.v.l)), .d (.i .i64 e.occ), .d (.i .i64 e.attr), .d (.l 8 (e.args.map Exp.row))]
abbrev GVal.arg (v : GVal) : V := .agg [.d (.i .i64 v.kind), .d (.i .i64 v.i), .d (.s v.s), .d (.l 4 (gvalRows v.l))]
abbrev GRule.arg (r : GRule) : V := .agg [.d (.i .i64 r.occ), .d (.i .i64 r.attr), .d (.i .i64 r.e.op), .d (.i .i64 r.e.v.kind), .d (.i .i64 r.e.v.i), .d (.s r.e.v.s), .d (.l 4 (gvalRows r.e.v.l)), .d (.i .i64 r.e.occ), .d (.i .i64 r.e.attr), .d (.l 8 (r.e.args.map Exp.row))]
end Ab

/-
  What caps.Read computes, as a plain function with rounds.
-/
import Derived.Test.YthafedmlbialiaaDoorR4
import Derived.Test.YthafedmlbialiaaDoorPAx0
namespace Go.Proofs.YthafedmlbialiaaDoor
open Go.RowKit Go.Proofs.YthafedmlbialiaaDoorW.PrintWords Go.Proofs.YthafedmlbialiaaDoorW.PrintLast Go.Proofs.YthafedmlbialiaaDoorW.PrintMore

/-- The capabilities of one parameter: the reader behind them, and the list. -/
def capsRead.l1 : Nat → Rdr → List PA.S61 → Option (Rdr × List PA.S61)
  | 0, _, _ => none
  | k + 1, r, l =>
    if 0 < r.left then
      if l.length < 4398046511104 then
        capsRead.l1 k (((r.took 1).took 1).took (acc8 ((r.took 1).taken 1))) (l ++ [⟨acc8 (r.taken 1), ((r.took 1).took 1).taken (acc8 ((r.took 1).taken 1))⟩])
      else none
    else some (r, l)
/-- The parameter's block is opened. -/
def capsRead.op (r : Rdr) : Rdr := ((r.took 1).took 1).opened (acc8 ((r.took 1).taken 1))
/-- Parameter by parameter. -/
def capsRead.l0 : Nat → Rdr → List PA.S61 → Option (List PA.S61 × Int × Int)
  | 0, _, _ => none
  | k + 1, r, l =>
    if 0 < r.left then
      if ((r.took 1).took 1).ends.length < 1000000 then
        if (capsRead.op r).e = 0 ∧ acc8 (r.taken 1) ≠ 2 then some ([], 2, 4)
        else (capsRead.l1 k (capsRead.op r) l).bind fun p => capsRead.l0 k p.1.closed p.2
      else none
    else if r.e = 0 then some (l, 0, 0) else some ([], 2, 0)
/-- caps.Read. -/
def capsRead.f (k : Nat) (b : List Int) : Option (List PA.S61 × Int × Int) := capsRead.l0 k (Rdr.new b) []
end Go.Proofs.YthafedmlbialiaaDoor

/- What an op of code must be, plainly. -/
import Derived.Test.YthinhlcfpaaldaaGreatVmP
import Derived.Test.YthinhlcfpaaldaaGreatK5
import Derived.Test.YthinhlcfpaaldaaGreatGFast
namespace Go.Proofs.YthinhlcfpaaldaaGreat.Dat
open Go Go.RowKit Go.Proofs.YthinhlcfpaaldaaGreat.Mem
set_option linter.unusedVariables false
set_option linter.unusedSimpArgs false
/-- What the fields of an op are: D, A, B, and whether it has an exit. -/
def shpL : List (Int × Int × Int × Bool) := [(1, 0, 0, false), (1, 1, 0, false), (2, 0, 0, false), (2, 2, 0, false), (2, 1, 0, true), (1, 2, 0, false), (1, 1, 1, true), (1, 1, 1, true), (1, 1, 1, true), (1, 1, 1, true), (1, 1, 1, false), (1, 1, 0, true), (2, 2, 2, true), (2, 2, 2, true), (2, 2, 2, true), (1, 2, 2, false), (1, 4, 0, true), (1, 1, 3, true), (3, 1, 1, true), (0, 0, 0, true), (1, 4, 0, false), (0, 1, 5, true), (0, 6, 0, false), (0, 1, 6, true), (0, 0, 0, true), (0, 0, 0, true), (0, 1, 0, false), (0, 1, 0, true), (0, 7, 0, true)]
def shp (op : Int) : Option (Int × Int × Int × Bool) := if btw op 1 29 = true then shpL[(op - 1).toNat]? else none
def partB (n what vals nums nf nops : Int) : Bool :=
  if what = 1 then btw n 0 (vals - 1) else if what = 2 then btw n 0 (nums - 1) else if what = 3 then btw n 0 5 else if what = 4 then btw n 0 6 else if what = 5 then btw n 0 (nf - 1) else if what = 6 then btw n 0 (nops - 1) else if what = 7 then btw n 1 3 else decide (n = 0)
def constB (nf : Int) (o : DFOp) : Bool := if o.op = 1 then valB nf 0 o.v else if o.op = 3 then decide (o.v.k = 1) && valB nf 0 o.v else nilV o.v
def goB (o : DFOp) : Int := if o.op = 23 then o.a else if o.op = 24 then o.b else -1
/-- An op may go back to an FSafe alone. -/
def backB (ops : List DFOp) (k : Nat) (tz : Int) : Bool := decide (tz < 0) || (decide ((k : Int) < tz) || (match ops[tz.toNat]? with
  | none => true
  | some q => decide (q.op = 25)))
def opS (l : List DFunc) (c : DFast) (k : Nat) (o : DFOp) (s : Int × Int × Int × Bool) : Bool :=
  (partB o.d s.1 c.vals c.nums l.length c.ops.length && (partB o.a s.2.1 c.vals c.nums l.length c.ops.length && (partB o.b s.2.2.1 c.vals c.nums l.length c.ops.length && constB l.length o))) &&
  ((if s.2.2.2 = true then btw o.x 0 ((c.exits.length : Int) - 1) else decide (o.x = 0)) && (backB c.ops k (goB o) && (insO l o.f o.p).isSome))
def opB (l : List DFunc) (c : DFast) (k : Nat) (o : DFOp) : Bool := match shp o.op with
  | none => false
  | some s => opS l c k o s
def opAtB (l : List DFunc) (c : DFast) (k : Nat) : Bool := match c.ops[k]? with
  | none => true
  | some o => opB l c k o
theorem opAtB_of {l : List DFunc} {c : DFast} {k : Nat} {o : DFOp} (h : c.ops[k]? = some o) : opAtB l c k = opB l c k o := by unfold opAtB; rw [h]
end Go.Proofs.YthinhlcfpaaldaaGreat.Dat

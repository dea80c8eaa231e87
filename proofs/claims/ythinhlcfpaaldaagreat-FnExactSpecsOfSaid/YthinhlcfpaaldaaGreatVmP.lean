/- Whether a state is as it must be, plainly. -/
import Derived.Test.YthinhlcfpaaldaaGreatValOk
import Derived.Test.YthinhlcfpaaldaaGreatK3
import Derived.Test.YthinhlcfpaaldaaGreatK4
namespace Go.Proofs.YthinhlcfpaaldaaGreat.Dat
open Go Go.RowKit Go.Proofs.YthinhlcfpaaldaaGreat.Mem
set_option linter.unusedVariables false
set_option linter.unusedSimpArgs false
/-- Sizes of records. -/
def recsB (h : List DRec) : Bool := decide ((h.length : Int) ≤ 120) && !(h.any (fun r => decide (6 < r.fields.length)))
def opAt (y : DFunc) (pc : Int) : Int := (y.code.getD pc.toNat zIns).op
def isCal (op : Int) : Bool := decide (op = 23) || decide (op = 24)
/-- A frame of the function y: sizes. -/
def frmL (y : DFunc) (d : List Int) (pc : Int) (ns : Nat) (last : Bool) : Bool :=
  if last then decide ((ns : Int) = at0 d pc) else decide (1 ≤ pc) && (decide (0 ≤ at0 d (pc - 1)) && (isCal (opAt y (pc - 1)) && decide ((ns : Int) = at0 d pc - 1)))
def frmF (y : DFunc) (d : List Int) (pc : Int) (nl ns : Nat) (last : Bool) : Bool :=
  decide ((nl : Int) = y.locals) && (btw pc 0 ((y.code.length : Int) - 1) && (decide (0 ≤ at0 d pc) && frmL y d pc ns last))
def frmB (l : List DFunc) (fn pc : Int) (nl ns : Nat) (last : Bool) : Bool :=
  btw fn 0 ((l.length : Int) - 1) && frmF (l.getD fn.toNat zFunc) (depthsL l (l.getD fn.toNat zFunc).code) pc nl ns last
def frmAt (l : List DFunc) (fs : List DFrame) (k : Nat) : Bool := match fs[k]? with
  | none => true
  | some f => frmB l f.fn f.pc f.locals.length f.stack.length (decide (k + 1 = fs.length))
def frmsB (l : List DFunc) (fs : List DFrame) : Bool := (List.range fs.length).all (frmAt l fs)
def nilV (v : DValue) : Bool := decide (v.k = 0) && (decide (v.n = 0) && noS v.s)
def numsB (v : DVm) : Bool := recsB v.heap && (btw v.made (v.heap.length : Int) 120 && (decide ((v.out.length : Int) ≤ 200) && btw v.steps 0 50000))
def outsB (v : DVm) : Bool := v.out.all textB
def frvB (nf nr : Int) (fs : List DFrame) : Bool := fs.all (fun f => f.locals.all (valB nf nr) && f.stack.all (valB nf nr))
def hpvB (nf nr : Int) (h : List DRec) : Bool := h.all (fun r => r.fields.all (valB nf nr))
def manyB (v : DVm) : Bool := btw (v.frames.length : Int) 1 24 && nilV v.value
def statB (v : DVm) : Bool := if v.status = 0 then manyB v && decide (v.trap = 0) else if v.status = 2 then manyB v && btw v.trap 1 8 else if v.status = 1 then decide (v.frames.length = 0) && decide (v.trap = 0) else false
def valsB (l : List DFunc) (v : DVm) : Bool := frvB l.length v.heap.length v.frames && (hpvB l.length v.heap.length v.heap && valB l.length v.heap.length v.value)
/-- VmOk of a good module. -/
def vmB (l : List DFunc) (v : DVm) : Bool := numsB v && (outsB v && ((valsB l v && frmsB l v.frames) && statB v))
def vmOkB (t : List ByteArray) (l : List DFunc) (v : DVm) : Bool := isGoodB t l && vmB l v
theorem range_all {P : Nat → Bool} (n : Nat) : (List.range (n + 1)).all P = ((List.range n).all P && P n) := by
  rw [List.range_succ, List.all_append]
  simp
theorem frmAt_of {l : List DFunc} {fs : List DFrame} {k : Nat} {f : DFrame} (hf : fs[k]? = some f) : frmAt l fs k = frmB l f.fn f.pc f.locals.length f.stack.length (decide (k + 1 = fs.length)) := by
  unfold frmAt
  rw [hf]
theorem all_snoc {α : Type} (p : α → Bool) (l : List α) (k : Nat) (x : α) (hx : l[k]? = some x) : (l.take (k + 1)).all p = ((l.take k).all p && p x) := by
  rw [List.take_add_one, hx, List.all_append]
  simp
theorem frmB_at {l : List DFunc} {k : Nat} {y : DFunc} (hy : l[k]? = some y) (pc : Int) (nl ns : Nat) (last : Bool) : frmB l (k : Int) pc nl ns last = frmF y (depthsL l y.code) pc nl ns last := by
  have hk : k < l.length := (List.getElem?_eq_some_iff.1 hy).1
  unfold frmB
  have e : l.getD ((k : Int)).toNat zFunc = y := by rw [Int.toNat_natCast, List.getD_eq_getElem?_getD, hy]; rfl
  rw [e, show btw (k : Int) 0 ((l.length : Int) - 1) = true from btw_true.2 (by omega), Bool.true_and]
theorem frmB_no {l : List DFunc} {fn : Int} (h : btw fn 0 ((l.length : Int) - 1) = false) (pc : Int) (nl ns : Nat) (last : Bool) : frmB l fn pc nl ns last = false := by
  unfold frmB
  rw [h, Bool.false_and]
theorem opAt_at {y : DFunc} {k : Nat} {x : DIns} (hx : y.code[k]? = some x) : opAt y (k : Int) = x.op := by
  unfold opAt
  rw [Int.toNat_natCast, List.getD_eq_getElem?_getD, hx]
  rfl
end Go.Proofs.YthinhlcfpaaldaaGreat.Dat

/- Code as a row of numbers, plainly; how long the row is. -/
import Derived.Test.YthinhlcfpaaldaaGreatWrP
import Derived.Test.YthinhlcfpaaldaaGreatGFast
namespace Go.Proofs.YthinhlcfpaaldaaGreat.Dat
open Go Go.RowKit Go.Proofs.YthinhlcfpaaldaaGreat.Mem
set_option linter.unusedVariables false
set_option linter.unusedSimpArgs false
def encSrc (s : DSrc) : List Int := s.kind :: s.n :: encV s.v
theorem encSrc_len (s : DSrc) : (encSrc s).length ≤ 5 * (1 + msSrc s) := by
  unfold encSrc msSrc msValue
  rw [List.length_cons, List.length_cons, encV_len]
  omega
def encO (o : DFOp) : List Int := o.op :: o.d :: o.a :: o.b :: o.x :: o.f :: o.p :: encV o.v
theorem encO_len (o : DFOp) : (encO o).length ≤ 10 * (1 + msFOp o) := by
  unfold encO msFOp msValue
  simp only [List.length_cons, encV_len]
  omega
def encXF (f : DExFrame) : List Int := f.fn :: f.pc :: (encL encSrc f.locals ++ encL encSrc f.stack)
theorem encXF_len (f : DExFrame) : (encXF f).length ≤ 5 * (1 + msExFrame f) := by
  have h1 := encL_len (enc := encSrc) (ms := msSrc) 5 f.locals (fun x _ => encSrc_len x)
  have h2 := encL_len (enc := encSrc) (ms := msSrc) 5 f.stack (fun x _ => encSrc_len x)
  unfold encXF msExFrame
  rw [List.length_cons, List.length_cons, List.length_append]
  omega
def encXR (r : DExRec) : List Int := encL encSrc r.fields
theorem encXR_len (r : DExRec) : (encXR r).length ≤ 5 * (1 + msExRec r) := by
  have h1 := encL_len (enc := encSrc) (ms := msSrc) 5 r.fields (fun x _ => encSrc_len x)
  unfold encXR msExRec
  omega
def encX (e : DExit) : List Int := e.kind :: e.spec.fn :: e.spec.pc :: e.spec.kind :: e.spec.target :: (encL encXF e.frames ++ encL encXR e.recs)
theorem encX_len (e : DExit) : (encX e).length ≤ 7 * (1 + msExit e) := by
  have h1 := encL_len (enc := encXF) (ms := msExFrame) 5 e.frames (fun x _ => encXF_len x)
  have h2 := encL_len (enc := encXR) (ms := msExRec) 5 e.recs (fun x _ => encXR_len x)
  unfold encX msExit
  simp only [List.length_cons, List.length_append]
  omega
def encFast (c : DFast) : List Int := c.fn :: c.entry :: c.vals :: c.nums :: (encL encO c.ops ++ encL encX c.exits)
theorem encFast_len (c : DFast) : (encFast c).length ≤ 6 + 10 * msFast c := by
  have h1 := encL_len (enc := encO) (ms := msFOp) 10 c.ops (fun x _ => encO_len x)
  have h2 := encL_len (enc := encX) (ms := msExit) 7 c.exits (fun x _ => encX_len x)
  unfold encFast msFast
  simp only [List.length_cons, List.length_append]
  omega
end Go.Proofs.YthinhlcfpaaldaaGreat.Dat

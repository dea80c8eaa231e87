/- What a tier must be, plainly. -/
import Derived.Test.YthinhlcfpaaldaaGreatM5
import Derived.Test.YthinhlcfpaaldaaGreatK5
import Derived.Test.YthinhlcfpaaldaaGreatGTier
namespace Go.Proofs.YthinhlcfpaaldaaGreat.Dat
open Go Go.RowKit Go.Proofs.YthinhlcfpaaldaaGreat.Mem
set_option linter.unusedVariables false
set_option linter.unusedSimpArgs false
/-- What a guess that failed must stand at. -/
def failX (op kind : Int) : Bool := (decide (kind = 1) && isAr op) || (decide (kind = 2) && decide (op = 23))
def failB (l : List DFunc) (f : DFail) : Bool := match insO l f.fn f.pc with
  | none => false
  | some x => btw f.count 1 1000000 && failX x.op f.kind
def sameP (a b : DFail) : Bool := decide (a.fn = b.fn) && decide (a.pc = b.pc)
def sameC (a b : DFast) : Bool := decide (a.fn = b.fn) && decide (a.entry = b.entry)
/-- Ok, and the first one of its kind. -/
def failAt (l : List DFunc) (fs : List DFail) (i : Nat) : Bool := match fs[i]? with
  | none => true
  | some f => failB l f && !((fs.take i).any (fun q => sameP q f))
def codeAtB (l : List DFunc) (cs : List DFast) (i : Nat) : Bool := match cs[i]? with
  | none => true
  | some c => fastB l c && !((cs.take i).any (fun q => sameC q c))
def sumF (fs : List DFail) : Int := (fs.map (fun f => f.count)).sum
def failsB (l : List DFunc) (fs : List DFail) (guards : Int) : Bool := (List.range fs.length).all (failAt l fs) && (decide (fs.length ≤ 150) && decide (guards = sumF fs))
def codesB (l : List DFunc) (cs : List DFast) : Bool := (List.range cs.length).all (codeAtB l cs)
def tierB (l : List DFunc) (t : DTier) : Bool := codesB l t.codes && (decide (t.codes.length ≤ 8) && (vmB l t.vm && (profB l t.sites && (failsB l t.fails t.guards && btw t.entered 0 1000000000))))
def tierOkB (ts : List ByteArray) (l : List DFunc) (t : DTier) : Bool := isGoodB ts l && tierB l t
theorem failAt_of {l : List DFunc} {fs : List DFail} {i : Nat} {f : DFail} (h : fs[i]? = some f) : failAt l fs i = (failB l f && !((fs.take i).any (fun q => sameP q f))) := by unfold failAt; rw [h]
theorem codeAt_of {l : List DFunc} {cs : List DFast} {i : Nat} {c : DFast} (h : cs[i]? = some c) : codeAtB l cs i = (fastB l c && !((cs.take i).any (fun q => sameC q c))) := by unfold codeAtB; rw [h]
theorem range_no {p : Nat → Bool} {n k : Nat} (hk : k < n) (h : p k = false) : (List.range n).all p = false := by
  rw [List.all_eq_false]
  exact ⟨k, List.mem_range.2 hk, by simp [h]⟩
theorem sumF_snoc {fs : List DFail} {k : Nat} {f : DFail} (h : fs[k]? = some f) : sumF (fs.take (k + 1)) = sumF (fs.take k) + f.count := by
  unfold sumF
  rw [List.take_add_one, h, List.map_append, List.sum_append]
  simp
/-- The place of the first one, or -1. -/
def FirstIs {α : Type} (p : α → Bool) (l : List α) (r : Int) : Prop := (r = -1 ∧ l.any p = false) ∨ ∃ (k : Nat) (x : α), r = k ∧ l[k]? = some x ∧ p x = true ∧ (l.take k).any p = false
theorem first_at {α : Type} {p : α → Bool} {l : List α} {r : Int} {i : Nat} {x : α} (h : FirstIs p l r) (hx : l[i]? = some x) (hp : p x = true) : decide (r = (i : Int)) = !((l.take i).any p) := by
  rcases h with ⟨rfl, h0⟩ | ⟨k, y, rfl, hy, hpy, hb⟩
  · have : l.any p = true := List.any_eq_true.2 ⟨x, List.mem_of_getElem? hx, hp⟩
    rw [this] at h0
    cases h0
  · rcases Nat.lt_trichotomy k i with hlt | rfl | hgt
    · have h1 : (l.take i).any p = true := List.any_eq_true.2 ⟨y, List.mem_of_getElem? (by rw [List.getElem?_take_of_lt hlt]; exact hy), hpy⟩
      rw [h1]
      exact decide_eq_false (by omega)
    · rw [hb]
      exact decide_eq_true rfl
    · have h1 : (l.take k).any p = true := List.any_eq_true.2 ⟨x, List.mem_of_getElem? (by rw [List.getElem?_take_of_lt hgt]; exact hx), hp⟩
      rw [h1] at hb
      cases hb
theorem isAr_07 (op : Int) : isAr op = (is07 op && !(decide (op = 23))) := by
  unfold is07 isAr
  rw [Bool.eq_iff_iff]
  simp [btw]
  omega
end Go.Proofs.YthinhlcfpaaldaaGreat.Dat

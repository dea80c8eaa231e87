/- A state as a row of numbers, plainly; how long the row is. -/
import Derived.Test.YthinhlcfpaaldaaGreatK4
namespace Go.Proofs.YthinhlcfpaaldaaGreat.Dat
open Go Go.RowKit Go.Proofs.YthinhlcfpaaldaaGreat.Mem
set_option linter.unusedVariables false
set_option linter.unusedSimpArgs false
theorem eFlat_len {α : Type} {enc : α → List Int} {ms : α → Nat} (c : Nat) : ∀ l : List α, (∀ x ∈ l, (enc x).length ≤ c * (1 + ms x)) → (l.map enc).flatten.length ≤ c * sumOf ms l
  | [], _ => by simp [sumOf]
  | x :: l, h => by
    have h1 := eFlat_len c l (fun y hy => h y (List.mem_cons_of_mem _ hy))
    have h2 := h x (by simp)
    unfold sumOf at h1 ⊢
    simp only [List.map_cons, List.flatten_cons, List.length_append, List.length_cons, List.sum_cons, Nat.mul_add, Nat.mul_one] at h1 h2 ⊢
    omega
theorem flat_snoc {α : Type} {enc : α → List Int} {l : List α} {k : Nat} {x : α} (h : l[k]? = some x) : ((l.take (k + 1)).map enc).flatten = ((l.take k).map enc).flatten ++ enc x := by
  rw [List.take_add_one, h, List.map_append, List.flatten_append]
  simp
theorem flat_take_le {α : Type} {enc : α → List Int} {l : List α} (k : Nat) : ((l.take k).map enc).flatten.length ≤ (l.map enc).flatten.length := by
  have e : (l.map enc).flatten = ((l.take k).map enc).flatten ++ ((l.drop k).map enc).flatten := by
    rw [← List.flatten_append, ← List.map_append, List.take_append_drop]
  rw [e, List.length_append]
  omega
theorem flat_mem_le {α : Type} {enc : α → List Int} {l : List α} {k : Nat} {x : α} (h : l[k]? = some x) : ((l.take k).map enc).flatten.length + (enc x).length ≤ (l.map enc).flatten.length := by
  have h1 := flat_take_le (enc := enc) (l := l) (k + 1)
  rw [flat_snoc h, List.length_append] at h1
  exact h1
def bytesN (s : ByteArray) (k : Nat) : List Int := (List.range k).map (fun i => ((s[i]!).toNat : Int))
def encT (s : ByteArray) : List Int := (s.size : Int) :: bytesN s s.size
theorem bytesN_snoc (s : ByteArray) (k : Nat) : bytesN s (k + 1) = bytesN s k ++ [((s[k]!).toNat : Int)] := by
  unfold bytesN
  rw [List.range_succ, List.map_append]
  rfl
theorem bytesN_len (s : ByteArray) (k : Nat) : (bytesN s k).length = k := by
  unfold bytesN
  rw [List.length_map, List.length_range]
theorem encT_len (s : ByteArray) : (encT s).length = 1 + s.size := by
  unfold encT
  rw [List.length_cons, bytesN_len]
  omega
def encV (v : DValue) : List Int := v.k :: v.n :: encT v.s
theorem encV_len (v : DValue) : (encV v).length = 3 + v.s.size := by
  unfold encV
  rw [List.length_cons, List.length_cons, encT_len]
  omega
/-- A list: how many there are, then each. -/
def encL {α : Type} (enc : α → List Int) (l : List α) : List Int := (l.length : Int) :: (l.map enc).flatten
theorem encL_len {α : Type} {enc : α → List Int} {ms : α → Nat} (c : Nat) (l : List α) (h : ∀ x ∈ l, (enc x).length ≤ c * (1 + ms x)) : (encL enc l).length ≤ 1 + c * sumOf ms l := by
  have := eFlat_len c l h
  unfold encL
  rw [List.length_cons]
  omega
theorem encVs_len (l : List DValue) : (encL encV l).length ≤ 1 + 3 * sumOf msValue l := encL_len 3 l (fun x _ => by
  rw [encV_len]
  unfold msValue
  omega)
def encF (f : DFrame) : List Int := f.fn :: f.pc :: (encL encV f.locals ++ encL encV f.stack)
theorem encF_len (f : DFrame) : (encF f).length ≤ 4 * (1 + msFrame f) := by
  have h1 := encVs_len f.locals
  have h2 := encVs_len f.stack
  unfold encF msFrame
  rw [List.length_cons, List.length_cons, List.length_append]
  omega
def encR (r : DRec) : List Int := encL encV r.fields
theorem encR_len (r : DRec) : (encR r).length ≤ 3 * (1 + msRec r) := by
  have h1 := encVs_len r.fields
  unfold encR msRec
  omega
def encVm (v : DVm) : List Int := encL encF v.frames ++ (encL encR v.heap ++ (v.made :: (encL encT v.out ++ (v.status :: v.trap :: (encV v.value ++ [v.steps])))))
theorem encVm_len (v : DVm) : (encVm v).length ≤ 12 + 4 * msVm v := by
  have h1 := encL_len (enc := encF) (ms := msFrame) 4 v.frames (fun x _ => encF_len x)
  have h2 := encL_len (enc := encR) (ms := msRec) 3 v.heap (fun x _ => encR_len x)
  have h3 := encL_len (enc := encT) (ms := ByteArray.size) 1 v.out (fun x _ => by rw [encT_len]; omega)
  have h4 := encV_len v.value
  unfold encVm msVm msValue
  simp only [List.length_append, List.length_cons, List.length_nil]
  omega
end Go.Proofs.YthinhlcfpaaldaaGreat.Dat

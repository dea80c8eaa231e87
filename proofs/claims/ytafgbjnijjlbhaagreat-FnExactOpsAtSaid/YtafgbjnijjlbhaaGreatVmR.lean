/- VmOk in the reference. -/
import Derived.Test.YtafgbjnijjlbhaaGreatVm3
namespace Go.Proofs.YtafgbjnijjlbhaaGreat.Dat
open Go Go.RowKit Go.Proofs.YtafgbjnijjlbhaaGreat.Mem
set_option linter.unusedVariables false
set_option linter.unusedSimpArgs false
theorem range_get {α : Type} (p : α → Bool) (l : List α) : l.all p = (List.range l.length).all (fun k => match l[k]? with | none => true | some x => p x) := by
  rw [Bool.eq_iff_iff, List.all_eq_true, List.all_eq_true]
  constructor
  · intro h k hk
    obtain ⟨x, hx⟩ := get_exU l k (List.mem_range.1 hk)
    simp only [hx]
    exact h x (List.mem_of_getElem? hx)
  · intro h x hx
    obtain ⟨k, hk⟩ := List.mem_iff_getElem?.1 hx
    have := h k (List.mem_range.2 (List.getElem?_eq_some_iff.1 hk).1)
    simpa only [hk] using this
theorem all_and {α : Type} (p q : α → Bool) (l : List α) : (l.all p && l.all q) = l.all (fun x => p x && q x) := by
  induction l with
  | nil => rfl
  | cons x l ih =>
    simp only [List.all_cons, ← ih]
    cases p x <;> cases q x <;> simp
end Go.Proofs.YtafgbjnijjlbhaaGreat.Dat

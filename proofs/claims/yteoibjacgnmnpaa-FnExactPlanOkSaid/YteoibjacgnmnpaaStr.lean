/- Leaders, heads and straight functions, in the program and in the reference. -/
import Derived.Test.YteoibjacgnmnpaaStrP
namespace Go.Proofs.Yteoibjacgnmnpaa.Dat
open Go Go.RowKit Go.Proofs.Yteoibjacgnmnpaa.Mem
set_option linter.unusedVariables false
set_option linter.unusedSimpArgs false
theorem infoBool : (Try.prog.info? 4).map (fun i => (i.zero, i.size, i.bytes)) = some (some (.bool false), 1, 1) := by kernel_rfl
theorem markF_at {m : List Bool} {k : Nat} {b : Bool} (hk : m[k]? = some b) : markF (m.take (k + 1)) 0 = markF (m.take k) 0 ++ (if b then [(k : Int)] else []) := by
  have gen : ∀ (m : List Bool) (k i : Nat) (b : Bool), m[k]? = some b → markF (m.take (k + 1)) i = markF (m.take k) i ++ (if b then [((i + k : Nat) : Int)] else []) := by
    intro m
    induction m with
    | nil => intro k i b h; simp at h
    | cons c m ih =>
      intro k i b h
      cases k with
      | zero =>
        have e : c = b := by simpa using h
        subst e
        cases c <;> simp [markF]
      | succ k =>
        have := ih k (i + 1) b (by simpa using h)
        rw [show i + 1 + k = i + (k + 1) by omega] at this
        cases c <;> simp [markF, this]
  simpa using gen m k 0 b hk
end Go.Proofs.Yteoibjacgnmnpaa.Dat

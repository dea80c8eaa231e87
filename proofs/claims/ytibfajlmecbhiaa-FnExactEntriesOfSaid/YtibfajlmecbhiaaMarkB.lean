/- The laws' marks in bytes. -/
import Derived.Test.YtibfajlmecbhiaaApp
import Derived.Test.YtibfajlmecbhiaaProg
import Derived.WalkLawsBesides
import Derived.WalkSpells
import Derived.Deep.LoopGhost
import Derived.Lib.Hide
namespace Go.Proofs.Ytibfajlmecbhiaa.Mem
open Go Go.RowKit
namespace Knd
theorem OwnF.form {α : Type} {d : Knd α} {e : Nat} {w : World} {v : Value} {xs : List α} {Fs : List (List Nat)} (h : OwnF d e w v xs Fs) (hn : 0 < xs.length) : ∃ g c, v = .slice (some ⟨g, 0, none⟩) xs.length c := by
  obtain ⟨inner, ho, hr⟩ := h
  rcases ho.2 with ⟨_, h0⟩ | ⟨g, cap, cur, hv, _⟩
  · omega
  · exact ⟨g, cap, hv⟩
end Knd
end Go.Proofs.Ytibfajlmecbhiaa.Mem
namespace Go.Proofs.Ytibfajlmecbhiaa.Dat
open Go Go.RowKit Go.Proofs.Ytibfajlmecbhiaa.Mem
set_option linter.unusedVariables false
set_option linter.unusedSimpArgs false
def mkB (k : Int) : List Int → List Int
  | [] => []
  | _ :: bs => (k % 256) :: mkB (k + 1) bs
theorem mkB_len (k : Int) (bs : List Int) : (mkB k bs).length = bs.length := by
  induction bs generalizing k with
  | nil => rfl
  | cons b bs ih => simp [mkB, ih]
theorem mkB_get (k : Int) (bs : List Int) (j : Nat) (hj : j < bs.length) : (mkB k bs)[j]? = some ((k + j) % 256) := by
  induction bs generalizing k j with
  | nil => simp at hj
  | cons b bs ih =>
    cases j with
    | zero => simp [mkB]
    | succ j =>
      have := ih (k + 1) j (by simpa using hj)
      simp only [mkB, List.getElem?_cons_succ, this]
      congr 2
      omega
theorem set_upto {α : Type} (M l : List α) (j : Nat) (x : α) (hl : M.length = l.length) (hx : M[j]? = some x) : (M.take j ++ l.drop j).set j x = M.take (j + 1) ++ l.drop (j + 1) := by
  have hj : j < M.length := (List.getElem?_eq_some_iff.1 hx).1
  have e : M[j] = x := (List.getElem?_eq_some_iff.1 hx).2
  rw [List.set_append_right _ _ (by rw [List.length_take]; omega), List.length_take, Nat.min_eq_left (by omega), Nat.sub_self, List.drop_eq_getElem_cons (by omega), List.set_cons_zero, List.take_succ_eq_append_getElem hj, e]
  simp
end Go.Proofs.Ytibfajlmecbhiaa.Dat

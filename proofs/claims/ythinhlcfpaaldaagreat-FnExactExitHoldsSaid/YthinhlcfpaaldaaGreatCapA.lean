/- A row that is held has room for what it holds. -/
import Derived.Test.YthinhlcfpaaldaaGreatK2
namespace Go.Proofs.YthinhlcfpaaldaaGreat.Dat
open Go Go.RowKit Go.Proofs.YthinhlcfpaaldaaGreat.Mem
theorem St.capA {w W : World} {L : List Res} {α : Type} {d : Knd α} {e : Nat} {A : Option Addr} {n c : Nat} {xs : List α} {F : List Nat} (h : St w L W) (i : Nat) (hi : L[i]? = some (Res.own d e (.slice A n c) xs F)) : xs.length ≤ c := by
  obtain ⟨A', c', h1, h2, _⟩ := h.row i hi
  cases h1
  exact h2
end Go.Proofs.YthinhlcfpaaldaaGreat.Dat

/- Loops of the printed form, each told once: a search, a copy, a comparison, a sum of sizes. -/
import Derived.RowKit3
import Derived.WalkKit
namespace Go.Proofs.Ytkllanigogkbiaa.Loops
set_option linter.unusedVariables false
set_option linter.unusedSimpArgs false
open Go Go.RowKit

theorem wrap_next {i : Int} {n : Nat} (h0 : 0 ≤ i) (h : i < n) (hn : n ≤ 9223372036854775807) : wrap64 (i + 1) = i + 1 := by
  unfold wrap64
  omega

theorem getD_of {α : Type} {d : α} {l : List α} {i : Int} {n : Nat} (h0 : i = (n : Int)) (x : α) (h : l[n]? = some x) : l.getD i.toNat d = x := by
  subst h0
  simp [List.getD_eq_getElem?_getD, h]

/-- The first that meets p. -/
theorem find_loop {α β : Type} (d : α) (p : α → Bool) (g : α → β) (dflt : β) (f : Nat → List α → Int → Option β)
    (hs : ∀ k l i, i < (l.length : Int) → 0 ≤ i → f (k + 1) l i = if p (l.getD i.toNat d) then some (g (l.getD i.toNat d)) else f k l (wrap64 (i + 1)))
    (he : ∀ k l i, ¬ i < (l.length : Int) → f (k + 1) l i = some dflt) (l : List α) (hl : l.length ≤ 9223372036854775807) :
    ∀ (m n k : Nat), n + m = l.length → m < k → f k l n = some ((((l.drop n).find? p).map g).getD dflt) := by
  intro m
  induction m with
  | zero =>
    intro n k hnm hk
    obtain ⟨k, rfl⟩ : ∃ j, k = j + 1 := ⟨k - 1, by omega⟩
    rw [he _ _ _ (by omega), List.drop_eq_nil_of_le (by omega)]
    rfl
  | succ m ih =>
    intro n k hnm hk
    obtain ⟨k, rfl⟩ : ∃ j, k = j + 1 := ⟨k - 1, by omega⟩
    have hlt : n < l.length := by omega
    rw [hs _ _ _ (by omega) (by omega), wrap_next (n := l.length) (by omega) (by omega) hl]
    have hg : l.getD ((n : Int)).toNat d = l[n] := by simp [List.getD_eq_getElem?_getD, List.getElem?_eq_getElem hlt]
    rw [hg, List.drop_eq_getElem_cons hlt, List.find?_cons]
    by_cases hp : p l[n] = true
    · simp [hp]
    · have hp' : p l[n] = false := by simpa using hp
      have := ih (n + 1) k (by omega) (by omega)
      rw [if_neg hp, hp']
      simpa using this

/-- A copy, element by element, into a row of the same length. -/
theorem map_loop {α β : Type} (d : α) (g : α → β) (f : Nat → List α → List β → Int → Option (List β))
    (hs : ∀ k l o i, i < (l.length : Int) → 0 ≤ i → i < (o.length : Int) → f (k + 1) l o i = f k l (o.set i.toNat (g (l.getD i.toNat d))) (wrap64 (i + 1)))
    (he : ∀ k l o i, ¬ i < (l.length : Int) → f (k + 1) l o i = some o) (l : List α) (hl : l.length ≤ 9223372036854775807) :
    ∀ (m n k : Nat) (o : List β), n + m = l.length → m < k → o.length = l.length → o.take n = (l.take n).map g → f k l o n = some (l.map g) := by
  intro m
  induction m with
  | zero =>
    intro n k o hnm hk ho ht
    obtain ⟨k, rfl⟩ : ∃ j, k = j + 1 := ⟨k - 1, by omega⟩
    rw [he _ _ _ _ (by omega)]
    rw [List.take_of_length_le (by omega), List.take_of_length_le (by omega)] at ht
    rw [ht]
  | succ m ih =>
    intro n k o hnm hk ho ht
    obtain ⟨k, rfl⟩ : ∃ j, k = j + 1 := ⟨k - 1, by omega⟩
    have hlt : n < l.length := by omega
    rw [hs _ _ _ _ (by omega) (by omega) (by omega), wrap_next (n := l.length) (by omega) (by omega) hl]
    have hg : l.getD ((n : Int)).toNat d = l[n] := by simp [List.getD_eq_getElem?_getD, List.getElem?_eq_getElem hlt]
    rw [hg]
    have := ih (n + 1) k (o.set n (g l[n])) (by omega) (by omega) (by simpa using ho) (by
      rw [List.take_succ_eq_append_getElem (by simp; omega), List.take_succ_eq_append_getElem hlt, List.map_append]
      simp [List.take_set_of_le, ht])
    simpa using this

/-- A comparison of a list with itself. -/
theorem eq_loop {α : Type} (f : Nat → List α → List α → Int → Option Bool)
    (hs : ∀ k l i, i < (l.length : Int) → 0 ≤ i → f (k + 1) l l i = f k l l (wrap64 (i + 1)))
    (he : ∀ k l i, ¬ i < (l.length : Int) → f (k + 1) l l i = some true) (l : List α) (hl : l.length ≤ 9223372036854775807) :
    ∀ (m n k : Nat), n + m = l.length → m < k → f k l l n = some true := by
  intro m
  induction m with
  | zero =>
    intro n k hnm hk
    obtain ⟨k, rfl⟩ : ∃ j, k = j + 1 := ⟨k - 1, by omega⟩
    exact he _ _ _ (by omega)
  | succ m ih =>
    intro n k hnm hk
    obtain ⟨k, rfl⟩ : ∃ j, k = j + 1 := ⟨k - 1, by omega⟩
    rw [hs _ _ _ (by omega) (by omega), wrap_next (n := l.length) (by omega) (by omega) hl]
    have := ih (n + 1) k (by omega) (by omega)
    simpa using this

end Go.Proofs.Ytkllanigogkbiaa.Loops

/- Ascending lists, and the list that sorting and compacting gives. -/
import Derived.Lib.SlicesCompact
namespace Go.Proofs.Ytibfajlmecbhiaa.Dat
open Go
set_option linter.unusedVariables false
set_option linter.unusedSimpArgs false
theorem asc_unique : ∀ (a b : List Int), a.Pairwise (· < ·) → b.Pairwise (· < ·) → (∀ z, z ∈ a ↔ z ∈ b) → a = b
  | [], [], _, _, _ => rfl
  | [], y :: b, _, _, h => absurd ((h y).2 (List.mem_cons_self)) (by simp)
  | x :: a, [], _, _, h => absurd ((h x).1 (List.mem_cons_self)) (by simp)
  | x :: a, y :: b, ha, hb, h => by
    obtain ⟨ha1, ha2⟩ := List.pairwise_cons.1 ha
    obtain ⟨hb1, hb2⟩ := List.pairwise_cons.1 hb
    have e : x = y := by
      rcases List.mem_cons.1 ((h x).1 List.mem_cons_self) with h1 | h1
      · exact h1
      rcases List.mem_cons.1 ((h y).2 List.mem_cons_self) with h2 | h2
      · exact h2.symm
      have := hb1 x h1
      have := ha1 y h2
      omega
    subst e
    rw [asc_unique a b ha2 hb2 (fun z => ?_)]
    constructor
    · intro hz
      rcases List.mem_cons.1 ((h z).1 (List.mem_cons_of_mem _ hz)) with h1 | h1
      · have := ha1 z hz
        omega
      · exact h1
    · intro hz
      rcases List.mem_cons.1 ((h z).2 (List.mem_cons_of_mem _ hz)) with h1 | h1
      · have := hb1 z hz
        omega
      · exact h1
theorem arr_get {zs : List Int} {j : Nat} {x : Int} (h : zs[j]? = some x) : zs.toArray[j]! = x := by
  obtain ⟨hj, e⟩ := List.getElem?_eq_some_iff.1 h
  rw [getElem!_pos zs.toArray j (by simpa using hj)]
  simpa using e
theorem le_of_asc {zs : List Int} (hs : zs.Pairwise (· ≤ ·)) {i j : Nat} {x y : Int} (hij : i ≤ j) (hx : zs[i]? = some x) (hy : zs[j]? = some y) : x ≤ y := by
  rcases Nat.lt_or_ge i j with h | h
  · obtain ⟨hi, ex⟩ := List.getElem?_eq_some_iff.1 hx
    obtain ⟨hj, ey⟩ := List.getElem?_eq_some_iff.1 hy
    have := List.pairwise_iff_getElem.1 hs i j hi hj h
    omega
  · obtain rfl : i = j := by omega
    rw [hx] at hy
    simp only [Option.some.injEq] at hy
    omega
theorem compact_mem {zs : List Int} {z : Int} : z ∈ Lib.compact zs ↔ z ∈ zs := by
  unfold Lib.compact Lib.compactUpTo
  rw [List.mem_map]
  constructor
  · rintro ⟨j, hj, rfl⟩
    have hjl := List.mem_range.1 (List.mem_filter.1 hj).1
    rw [arr_get (List.getElem?_eq_getElem hjl)]
    exact List.getElem_mem hjl
  · intro hz
    have hex : ∀ (n j : Nat), j ≤ n → zs[j]? = some z → ∃ k, k < zs.length ∧ zs[k]? = some z ∧ Lib.keeps zs.toArray k = true := by
      intro n
      induction n with
      | zero =>
        intro j hj hx
        obtain rfl : j = 0 := by omega
        exact ⟨0, (List.getElem?_eq_some_iff.1 hx).1, hx, by simp [Lib.keeps]⟩
      | succ n ih =>
        intro j hj hx
        have hjl := (List.getElem?_eq_some_iff.1 hx).1
        by_cases hk : Lib.keeps zs.toArray j = true
        · exact ⟨j, hjl, hx, hk⟩
        · have h2 : ¬ (j = 0 ∨ zs.toArray[j]! ≠ zs.toArray[j - 1]!) := by simpa [Lib.keeps] using hk
          have h3 : j ≠ 0 := fun e => h2 (.inl e)
          have h4 : zs.toArray[j]! = zs.toArray[j - 1]! := Classical.byContradiction fun e => h2 (.inr e)
          have hp : zs[j - 1]? = some zs[j - 1] := List.getElem?_eq_getElem (by omega)
          rw [arr_get hx, arr_get hp] at h4
          exact ih (j - 1) (by omega) (by rw [hp, ← h4])
    obtain ⟨j, hj, e⟩ := List.getElem_of_mem hz
    obtain ⟨k, h1, h2, h3⟩ := hex j j (Nat.le_refl _) (by rw [List.getElem?_eq_getElem hj, e])
    exact ⟨k, List.mem_filter.2 ⟨List.mem_range.2 h1, h3⟩, arr_get h2⟩
theorem compact_asc {zs : List Int} (hs : zs.Pairwise (· ≤ ·)) : (Lib.compact zs).Pairwise (· < ·) := by
  unfold Lib.compact Lib.compactUpTo
  rw [List.pairwise_map]
  refine List.Pairwise.imp_of_mem ?_ ((List.pairwise_lt_range (n := zs.length)).filter _)
  intro i j hi hj hij
  obtain ⟨hi1, _⟩ := List.mem_filter.1 hi
  obtain ⟨hj1, hj2⟩ := List.mem_filter.1 hj
  have hil := List.mem_range.1 hi1
  have hjl := List.mem_range.1 hj1
  have hpl : j - 1 < zs.length := by omega
  have hk : j = 0 ∨ zs.toArray[j]! ≠ zs.toArray[j - 1]! := by simpa [Lib.keeps] using hj2
  rw [arr_get (List.getElem?_eq_getElem hil), arr_get (List.getElem?_eq_getElem hjl)]
  rw [arr_get (List.getElem?_eq_getElem hjl), arr_get (List.getElem?_eq_getElem hpl)] at hk
  have h1 := le_of_asc hs (show i ≤ j - 1 by omega) (List.getElem?_eq_getElem hil) (List.getElem?_eq_getElem hpl)
  have h2 := le_of_asc hs (show j - 1 ≤ j by omega) (List.getElem?_eq_getElem hpl) (List.getElem?_eq_getElem hjl)
  rcases hk with h3 | h3 <;> omega
def ascL (zs : List Int) : List Int := Lib.compact (zs.mergeSort fun x y => decide (x ≤ y))
theorem ascL_mem {zs : List Int} {z : Int} : z ∈ ascL zs ↔ z ∈ zs := by
  unfold ascL
  rw [compact_mem, List.mem_mergeSort]
theorem ascL_asc (zs : List Int) : (ascL zs).Pairwise (· < ·) := by
  refine compact_asc ?_
  have := List.pairwise_mergeSort (le := fun x y : Int => decide (x ≤ y)) (fun a b c h1 h2 => by simp only [decide_eq_true_eq] at *; omega) (fun a b => by simp only [Bool.or_eq_true, decide_eq_true_eq]; omega) zs
  exact this.imp (fun h => by simpa using h)
theorem ascL_eq {zs ys : List Int} (hy : ys.Pairwise (· < ·)) (h : ∀ z, z ∈ zs ↔ z ∈ ys) : ascL zs = ys :=
  asc_unique _ _ (ascL_asc zs) hy (fun z => by rw [ascL_mem, h])
theorem compact_len (zs : List Int) : (Lib.compact zs).length ≤ zs.length := by
  unfold Lib.compact Lib.compactUpTo
  rw [List.length_map]
  exact Nat.le_trans (List.length_filter_le _ _) (by simp)
theorem ascL_len (zs : List Int) : (ascL zs).length ≤ zs.length := by
  unfold ascL
  exact Nat.le_trans (compact_len _) (by simp)
end Go.Proofs.Ytibfajlmecbhiaa.Dat

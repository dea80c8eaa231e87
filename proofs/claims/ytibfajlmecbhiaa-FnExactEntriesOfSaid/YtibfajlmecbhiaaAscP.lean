/- Leaders, heads and entries as the program gathers them: a list, sorted, each number once. -/
import Derived.Test.YtibfajlmecbhiaaStrP
import Derived.Test.YtibfajlmecbhiaaAscA
namespace Go.Proofs.Ytibfajlmecbhiaa.Dat
open Go Go.RowKit Go.Proofs.Ytibfajlmecbhiaa.Mem
set_option linter.unusedVariables false
set_option linter.unusedSimpArgs false
theorem markF_asc : ∀ (m : List Bool) (i : Nat), (markF m i).Pairwise (· < ·)
  | [], i => by simp [markF]
  | b :: m, i => by
    have ih := markF_asc m (i + 1)
    cases b
    · simpa [markF] using ih
    · simp only [markF, if_true, List.pairwise_cons]
      refine ⟨fun z hz => ?_, ih⟩
      obtain ⟨k, _, e⟩ := (mem_markF m (i + 1)).1 hz
      omega
theorem markF_len : ∀ (m : List Bool) (i : Nat), (markF m i).length ≤ m.length
  | [], i => by simp [markF]
  | b :: m, i => by
    have ih := markF_len m (i + 1)
    cases b <;> simp [markF] <;> omega
/-- What the program gathers. -/
def leadO (x : DIns) (pc : Nat) (h : Int) : List Int := if h < 0 ∨ isJmp x.op = false then [] else if x.op = 17 then [x.a] else [x.a, (pc : Int) + 1]
def leadR (d : List Int) : List DIns → Nat → List Int
  | [], _ => []
  | x :: c, pc => leadO x pc (at0 d pc) ++ leadR d c (pc + 1)
def headO (x : DIns) (pc : Nat) (h : Int) : List Int := if 0 ≤ h ∧ isJmp x.op = true ∧ x.a ≤ pc then [x.a] else []
def headR (d : List Int) : List DIns → Nat → List Int
  | [], _ => []
  | x :: c, pc => headO x pc (at0 d pc) ++ headR d c (pc + 1)
theorem leadO_len (x : DIns) (pc : Nat) (h : Int) : (leadO x pc h).length ≤ 2 := by
  unfold leadO
  split
  · simp
  · split <;> simp
theorem headO_len (x : DIns) (pc : Nat) (h : Int) : (headO x pc h).length ≤ 2 := by
  unfold headO
  split <;> simp
theorem mem_leadO {x : DIns} {pc : Nat} {h z : Int} : z ∈ leadO x pc h ↔ 0 ≤ h ∧ isJmp x.op = true ∧ (z = x.a ∨ (x.op ≠ 17 ∧ z = (pc : Int) + 1)) := by
  unfold leadO
  split
  · rename_i h1
    constructor
    · intro h2
      simp at h2
    · rintro ⟨h2, h3, _⟩
      rcases h1 with h1 | h1
      · omega
      · rw [h1] at h3
        simp at h3
  · rename_i h1
    have a1 : 0 ≤ h := by omega
    have a2 : isJmp x.op = true := by
      cases h3 : isJmp x.op
      · exact absurd (.inr h3) h1
      · rfl
    split
    · rename_i h2
      constructor
      · intro h3
        exact ⟨a1, a2, .inl (List.mem_singleton.1 h3)⟩
      · rintro ⟨_, _, h3 | ⟨h3, _⟩⟩
        · exact List.mem_singleton.2 h3
        · exact absurd h2 h3
    · rename_i h2
      simp [a1, a2, h2]
theorem mem_headO {x : DIns} {pc : Nat} {h z : Int} : z ∈ headO x pc h ↔ 0 ≤ h ∧ isJmp x.op = true ∧ x.a ≤ pc ∧ z = x.a := by
  unfold headO
  split
  · rename_i h1
    simp [h1.1, h1.2.1, h1.2.2]
  · rename_i h1
    constructor
    · intro h2
      simp at h2
    · rintro ⟨h2, h3, h4, _⟩
      exact absurd ⟨h2, h3, h4⟩ h1
theorem mem_leadR {d : List Int} {z : Int} : ∀ (c : List DIns) (pc : Nat), z ∈ leadR d c pc ↔ ∃ (j : Nat) (x : DIns), c[j]? = some x ∧ z ∈ leadO x (pc + j) (at0 d ((pc + j : Nat) : Int))
  | [], pc => by simp [leadR]
  | y :: c, pc => by
    rw [leadR, List.mem_append, mem_leadR c (pc + 1)]
    constructor
    · rintro (h | ⟨j, x, h1, h2⟩)
      · exact ⟨0, y, rfl, by simpa using h⟩
      · exact ⟨j + 1, x, by simpa using h1, by rwa [show pc + (j + 1) = pc + 1 + j by omega]⟩
    · rintro ⟨j, x, h1, h2⟩
      cases j with
      | zero =>
        have e : y = x := by simpa using h1
        subst e
        exact .inl (by simpa using h2)
      | succ j => exact .inr ⟨j, x, by simpa using h1, by rwa [show pc + 1 + j = pc + (j + 1) by omega]⟩
theorem mem_headR {d : List Int} {z : Int} : ∀ (c : List DIns) (pc : Nat), z ∈ headR d c pc ↔ ∃ (j : Nat) (x : DIns), c[j]? = some x ∧ z ∈ headO x (pc + j) (at0 d ((pc + j : Nat) : Int))
  | [], pc => by simp [headR]
  | y :: c, pc => by
    rw [headR, List.mem_append, mem_headR c (pc + 1)]
    constructor
    · rintro (h | ⟨j, x, h1, h2⟩)
      · exact ⟨0, y, rfl, by simpa using h⟩
      · exact ⟨j + 1, x, by simpa using h1, by rwa [show pc + (j + 1) = pc + 1 + j by omega]⟩
    · rintro ⟨j, x, h1, h2⟩
      cases j with
      | zero =>
        have e : y = x := by simpa using h1
        subst e
        exact .inl (by simpa using h2)
      | succ j => exact .inr ⟨j, x, by simpa using h1, by rwa [show pc + 1 + j = pc + (j + 1) by omega]⟩
theorem rep_no {n i : Nat} : (List.replicate n false)[i]? ≠ some true := fun e => by
  rw [List.getElem?_replicate] at e
  split at e <;> simp at e
theorem heads_asc {l : List DFunc} {c : List DIns} (hc : ∀ x ∈ c, InsFit c.length x) : ascL (headR (depthsL l c) c 0) = headsL l c := by
  refine ascL_eq (markF_asc _ _) (fun z => ?_)
  unfold headsL
  rw [mem_headR, mem_markF]
  constructor
  · rintro ⟨j, x, hx, hz⟩
    obtain ⟨h1, h2, h3, h4⟩ := mem_headO.1 hz
    obtain ⟨ha0, ha1⟩ := (hc x (List.mem_of_getElem? hx)).jmp h2
    refine ⟨x.a.toNat, (headM_iff c 0 _ (by simp; omega)).2 (.inr ⟨j, x, hx, h1, h2, h3, rfl⟩), by omega⟩
  · rintro ⟨k, hk, e⟩
    have hkl : k < c.length := by
      have := (List.getElem?_eq_some_iff.1 hk).1
      rwa [headM_len, List.length_replicate] at this
    rcases (headM_iff c 0 _ (by simpa using hkl)).1 hk with h2 | ⟨j, x, hx, h0, hj, hle, ek⟩
    · exact absurd h2 rep_no
    · obtain ⟨ha0, ha1⟩ := (hc x (List.mem_of_getElem? hx)).jmp hj
      exact ⟨j, x, hx, mem_headO.2 ⟨h0, hj, hle, by omega⟩⟩
theorem leads_asc {l : List DFunc} {c : List DIns} (hc : ∀ x ∈ c, InsFit c.length x) (h1 : 1 ≤ c.length) (hn : ∀ (j : Nat) (x : DIns), c[j]? = some x → 0 ≤ at0 (depthsL l c) j → isJmp x.op = true → x.op ≠ 17 → j + 1 < c.length) : ascL (0 :: leadR (depthsL l c) c 0) = leadersL l c := by
  refine ascL_eq (markF_asc _ _) (fun z => ?_)
  unfold leadersL
  rw [List.mem_cons, mem_leadR, mem_markF]
  have hin : ∀ i : Nat, i < c.length → i < ((List.replicate c.length false).set 0 true).length := fun i hi => by simpa using hi
  have hin2 : ∀ i : Nat, i < c.length → i < (List.replicate c.length false).length := fun i hi => by simpa using hi
  constructor
  · rintro (rfl | ⟨j, x, hx, hz⟩)
    · exact ⟨0, (leadM_iff c 0 _ (hin _ (by omega))).2 (.inl (by rw [List.getElem?_set_self (by simp; omega)])), by simp⟩
    · obtain ⟨h2, h3, h4⟩ := mem_leadO.1 hz
      obtain ⟨ha0, ha1⟩ := (hc x (List.mem_of_getElem? hx)).jmp h3
      rcases h4 with h4 | ⟨h4, h5⟩
      · exact ⟨x.a.toNat, (leadM_iff c 0 _ (hin _ (by omega))).2 (.inr ⟨j, x, hx, h2, h3, .inl rfl⟩), by omega⟩
      · have := hn j x hx (by simpa using h2) h3 h4
        exact ⟨j + 1, (leadM_iff c 0 _ (hin _ this)).2 (.inr ⟨j, x, hx, h2, h3, .inr ⟨h4, by omega⟩⟩), by omega⟩
  · rintro ⟨k, hk, e⟩
    have hkl : k < c.length := by
      have := (List.getElem?_eq_some_iff.1 hk).1
      rwa [leadM_len, List.length_set, List.length_replicate] at this
    rcases (leadM_iff c 0 _ (hin k hkl)).1 hk with h2 | ⟨j, x, hx, h0, hj, ek⟩
    · rcases (set_true (hin2 k hkl)).1 h2 with h3 | h3
      · exact absurd h3 rep_no
      · exact .inl (by omega)
    · obtain ⟨ha0, ha1⟩ := (hc x (List.mem_of_getElem? hx)).jmp hj
      refine .inr ⟨j, x, hx, mem_leadO.2 ⟨h0, hj, ?_⟩⟩
      rcases ek with ek | ⟨h4, ek⟩
      · exact .inl (by omega)
      · exact .inr ⟨h4, by omega⟩
def entriesL (l : List DFunc) (c : List DIns) : List Int := if (headsL l c).head? = some 0 then headsL l c else 0 :: headsL l c
theorem heads_nn {l : List DFunc} {c : List DIns} {z : Int} (h : z ∈ headsL l c) : 0 ≤ z := by
  obtain ⟨k, _, e⟩ := (mem_markF _ _).1 h
  omega
theorem entries_asc {l : List DFunc} {c : List DIns} : ascL (headsL l c ++ [0]) = entriesL l c := by
  have hp : (headsL l c).Pairwise (· < ·) := markF_asc _ _
  unfold entriesL
  split
  · rename_i h
    refine ascL_eq hp (fun z => ?_)
    rw [List.mem_append, List.mem_singleton]
    constructor
    · rintro (h1 | rfl)
      · exact h1
      · exact List.mem_of_mem_head? h
    · exact .inl
  · rename_i h
    refine ascL_eq (List.pairwise_cons.2 ⟨fun z hz => ?_, hp⟩) (fun z => ?_)
    · have h0 := heads_nn hz
      rcases hh : headsL l c with _ | ⟨y, ys⟩
      · rw [hh] at hz
        simp at hz
      · rw [hh] at h hz hp
        have hy : y ≠ 0 := fun e => h (by rw [e]; rfl)
        have hy0 : 0 ≤ y := heads_nn (l := l) (c := c) (by rw [hh]; exact List.mem_cons_self)
        rcases List.mem_cons.1 hz with rfl | h2
        · omega
        · have := (List.pairwise_cons.1 hp).1 z h2
          omega
    · rw [List.mem_append, List.mem_singleton, List.mem_cons]
      constructor
      · rintro (h1 | h1)
        · exact .inr h1
        · exact .inl h1
      · rintro (h1 | h1)
        · exact .inr h1
        · exact .inl h1
theorem leadR_len (d : List Int) : ∀ (c : List DIns) (pc : Nat), (leadR d c pc).length ≤ 2 * c.length
  | [], pc => by simp [leadR]
  | x :: c, pc => by
    have ih := leadR_len d c (pc + 1)
    have := leadO_len x pc (at0 d pc)
    rw [leadR, List.length_append, List.length_cons]
    omega
theorem headR_len (d : List Int) : ∀ (c : List DIns) (pc : Nat), (headR d c pc).length ≤ 2 * c.length
  | [], pc => by simp [headR]
  | x :: c, pc => by
    have ih := headR_len d c (pc + 1)
    have := headO_len x pc (at0 d pc)
    rw [headR, List.length_append, List.length_cons]
    omega
theorem headsL_len (l : List DFunc) (c : List DIns) : (headsL l c).length ≤ c.length := by
  unfold headsL
  refine Nat.le_trans (markF_len _ _) ?_
  rw [headM_len, List.length_replicate]
  exact Nat.le_refl _
theorem leadersL_len (l : List DFunc) (c : List DIns) : (leadersL l c).length ≤ c.length := by
  unfold leadersL
  refine Nat.le_trans (markF_len _ _) ?_
  rw [leadM_len, List.length_set, List.length_replicate]
  exact Nat.le_refl _
end Go.Proofs.Ytibfajlmecbhiaa.Dat

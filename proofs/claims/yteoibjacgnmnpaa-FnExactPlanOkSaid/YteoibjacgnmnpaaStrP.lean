/- Leaders, heads and straight functions, plainly. -/
import Derived.Test.YteoibjacgnmnpaaGood
namespace Go.Proofs.Yteoibjacgnmnpaa.Dat
open Go Go.RowKit Go.Proofs.Yteoibjacgnmnpaa.Mem
set_option linter.unusedVariables false
set_option linter.unusedSimpArgs false
def leadS (m : List Bool) (x : DIns) (pc : Nat) (h : Int) : List Bool := if h < 0 ∨ isJmp x.op = false then m else if x.op = 17 then m.set x.a.toNat true else (m.set x.a.toNat true).set (pc + 1) true
def leadM (d : List Int) : List DIns → Nat → List Bool → List Bool
  | [], _, m => m
  | x :: c, pc, m => leadM d c (pc + 1) (leadS m x pc (at0 d pc))
def headS (m : List Bool) (x : DIns) (pc : Nat) (h : Int) : List Bool := if 0 ≤ h ∧ isJmp x.op = true ∧ x.a ≤ pc then m.set x.a.toNat true else m
def headM (d : List Int) : List DIns → Nat → List Bool → List Bool
  | [], _, m => m
  | x :: c, pc, m => headM d c (pc + 1) (headS m x pc (at0 d pc))
/-- The places that are marked. -/
def markF : List Bool → Nat → List Int
  | [], _ => []
  | b :: bs, i => if b then (i : Int) :: markF bs (i + 1) else markF bs (i + 1)
def leadersL (l : List DFunc) (c : List DIns) : List Int := markF (leadM (depthsL l c) c 0 ((List.replicate c.length false).set 0 true)) 0
def headsL (l : List DFunc) (c : List DIns) : List Int := markF (headM (depthsL l c) c 0 (List.replicate c.length false)) 0
def noJmp (d : List Int) : List DIns → Nat → Bool
  | [], _ => true
  | x :: c, pc => !(decide (0 ≤ at0 d pc) && isJmp x.op) && noJmp d c (pc + 1)
def straightB (l : List DFunc) (c : List DIns) : Bool := noJmp (depthsL l c) c 0 && decide ((c.length : Int) ≤ 24)
theorem leadS_len (m : List Bool) (x : DIns) (pc : Nat) (h : Int) : (leadS m x pc h).length = m.length := by
  unfold leadS
  split
  · rfl
  · split <;> simp
theorem headS_len (m : List Bool) (x : DIns) (pc : Nat) (h : Int) : (headS m x pc h).length = m.length := by
  unfold headS
  split <;> simp
theorem leadM_len (d : List Int) : ∀ (c : List DIns) (pc : Nat) (m : List Bool), (leadM d c pc m).length = m.length
  | [], _, _ => rfl
  | x :: c, pc, m => by rw [leadM, leadM_len d c, leadS_len]
theorem headM_len (d : List Int) : ∀ (c : List DIns) (pc : Nat) (m : List Bool), (headM d c pc m).length = m.length
  | [], _, _ => rfl
  | x :: c, pc, m => by rw [headM, headM_len d c, headS_len]
theorem set_true {m : List Bool} {i k : Nat} (hi : i < m.length) : (m.set k true)[i]? = some true ↔ m[i]? = some true ∨ k = i := by
  rw [List.getElem?_set]
  split
  · rename_i h
    subst h
    simp [hi]
  · rename_i h
    simp [h]
theorem leadS_iff {m : List Bool} {x : DIns} {pc : Nat} {h : Int} {i : Nat} (hi : i < m.length) : (leadS m x pc h)[i]? = some true ↔ m[i]? = some true ∨ (0 ≤ h ∧ isJmp x.op = true ∧ (x.a.toNat = i ∨ (x.op ≠ 17 ∧ pc + 1 = i))) := by
  unfold leadS
  split
  · rename_i h1
    constructor
    · exact .inl
    · rintro (h2 | ⟨h2, h3, _⟩)
      · exact h2
      · rcases h1 with h1 | h1
        · omega
        · rw [h1] at h3
          simp at h3
  · rename_i h1
    have a1 : 0 ≤ h := by omega
    have a2 : isJmp x.op = true := by
      cases h3 : isJmp x.op
      · exact absurd (.inr h3) h1
      · rfl
    split
    · rename_i h2
      rw [set_true hi]
      constructor
      · rintro (h3 | h3)
        · exact .inl h3
        · exact .inr ⟨a1, a2, .inl h3⟩
      · rintro (h3 | ⟨_, _, h3 | ⟨h3, _⟩⟩)
        · exact .inl h3
        · exact .inr h3
        · exact absurd h2 h3
    · rename_i h2
      rw [set_true (by simpa using hi), set_true hi]
      constructor
      · rintro ((h3 | h3) | h3)
        · exact .inl h3
        · exact .inr ⟨a1, a2, .inl h3⟩
        · exact .inr ⟨a1, a2, .inr ⟨h2, h3⟩⟩
      · rintro (h3 | ⟨_, _, h3 | ⟨_, h3⟩⟩)
        · exact .inl (.inl h3)
        · exact .inl (.inr h3)
        · exact .inr h3
theorem headS_iff {m : List Bool} {x : DIns} {pc : Nat} {h : Int} {i : Nat} (hi : i < m.length) : (headS m x pc h)[i]? = some true ↔ m[i]? = some true ∨ (0 ≤ h ∧ isJmp x.op = true ∧ x.a ≤ pc ∧ x.a.toNat = i) := by
  unfold headS
  split
  · rename_i h1
    rw [set_true hi]
    simp [h1.1, h1.2.1, h1.2.2]
  · rename_i h1
    constructor
    · exact .inl
    · rintro (h2 | ⟨h2, h3, h4, _⟩)
      · exact h2
      · exact absurd ⟨h2, h3, h4⟩ h1
theorem leadM_iff {d : List Int} {i : Nat} : ∀ (c : List DIns) (pc : Nat) (m : List Bool), i < m.length → ((leadM d c pc m)[i]? = some true ↔ m[i]? = some true ∨ ∃ (j : Nat) (x : DIns), c[j]? = some x ∧ 0 ≤ at0 d ((pc + j : Nat) : Int) ∧ isJmp x.op = true ∧ (x.a.toNat = i ∨ (x.op ≠ 17 ∧ pc + j + 1 = i)))
  | [], pc, m, _ => by simp [leadM]
  | y :: c, pc, m, hi => by
    rw [leadM, leadM_iff c (pc + 1) _ (by rw [leadS_len]; exact hi), leadS_iff hi]
    constructor
    · rintro ((h | ⟨h1, h2, h3⟩) | ⟨j, x, h1, h2, h3, h4⟩)
      · exact .inl h
      · exact .inr ⟨0, y, rfl, by simpa using h1, h2, by simpa using h3⟩
      · refine .inr ⟨j + 1, x, by simpa using h1, ?_, h3, ?_⟩
        · rwa [show pc + (j + 1) = pc + 1 + j by omega]
        · rwa [show pc + (j + 1) + 1 = pc + 1 + j + 1 by omega]
    · rintro (h | ⟨j, x, h1, h2, h3, h4⟩)
      · exact .inl (.inl h)
      · cases j with
        | zero =>
          have e : y = x := by simpa using h1
          subst e
          exact .inl (.inr ⟨by simpa using h2, h3, by simpa using h4⟩)
        | succ j =>
          refine .inr ⟨j, x, by simpa using h1, ?_, h3, ?_⟩
          · rwa [show pc + 1 + j = pc + (j + 1) by omega]
          · rwa [show pc + 1 + j + 1 = pc + (j + 1) + 1 by omega]
theorem headM_iff {d : List Int} {i : Nat} : ∀ (c : List DIns) (pc : Nat) (m : List Bool), i < m.length → ((headM d c pc m)[i]? = some true ↔ m[i]? = some true ∨ ∃ (j : Nat) (x : DIns), c[j]? = some x ∧ 0 ≤ at0 d ((pc + j : Nat) : Int) ∧ isJmp x.op = true ∧ x.a ≤ ((pc + j : Nat) : Int) ∧ x.a.toNat = i)
  | [], pc, m, _ => by simp [headM]
  | y :: c, pc, m, hi => by
    rw [headM, headM_iff c (pc + 1) _ (by rw [headS_len]; exact hi), headS_iff hi]
    constructor
    · rintro ((h | ⟨h1, h2, h3, h4⟩) | ⟨j, x, h1, h2, h3, h4, h5⟩)
      · exact .inl h
      · exact .inr ⟨0, y, rfl, by simpa using h1, h2, by simpa using h3, h4⟩
      · refine .inr ⟨j + 1, x, by simpa using h1, ?_, h3, ?_, h5⟩
        · rwa [show pc + (j + 1) = pc + 1 + j by omega]
        · rwa [show pc + (j + 1) = pc + 1 + j by omega]
    · rintro (h | ⟨j, x, h1, h2, h3, h4, h5⟩)
      · exact .inl (.inl h)
      · cases j with
        | zero =>
          have e : y = x := by simpa using h1
          subst e
          exact .inl (.inr ⟨by simpa using h2, h3, by simpa using h4, h5⟩)
        | succ j =>
          refine .inr ⟨j, x, by simpa using h1, ?_, h3, ?_, h5⟩
          · rwa [show pc + 1 + j = pc + (j + 1) by omega]
          · rwa [show pc + 1 + j = pc + (j + 1) by omega]
theorem mem_markF {z : Int} : ∀ (m : List Bool) (i : Nat), z ∈ markF m i ↔ ∃ k : Nat, m[k]? = some true ∧ z = ((i + k : Nat) : Int)
  | [], i => by simp [markF]
  | b :: m, i => by
    have ih := mem_markF (z := z) m (i + 1)
    cases b
    · simp only [markF, Bool.false_eq_true, if_false, ih]
      constructor
      · rintro ⟨k, h1, h2⟩
        exact ⟨k + 1, by simpa using h1, by rw [h2]; omega⟩
      · rintro ⟨k, h1, h2⟩
        cases k with
        | zero => simp at h1
        | succ k => exact ⟨k, by simpa using h1, by rw [h2]; omega⟩
    · simp only [markF, if_true, List.mem_cons, ih]
      constructor
      · rintro (h | ⟨k, h1, h2⟩)
        · exact ⟨0, rfl, by simpa using h⟩
        · exact ⟨k + 1, by simpa using h1, by rw [h2]; omega⟩
      · rintro ⟨k, h1, h2⟩
        cases k with
        | zero => exact .inl (by simpa using h2)
        | succ k => exact .inr ⟨k, by simpa using h1, by rw [h2]; omega⟩
theorem noJmp_iff {d : List Int} : ∀ (c : List DIns) (pc : Nat), noJmp d c pc = true ↔ ∀ (j : Nat) (x : DIns), c[j]? = some x → 0 ≤ at0 d ((pc + j : Nat) : Int) → isJmp x.op = false
  | [], pc => by simp [noJmp]
  | y :: c, pc => by
    unfold noJmp
    rw [Bool.and_eq_true, noJmp_iff c (pc + 1)]
    constructor
    · rintro ⟨h1, h2⟩ j x hx h0
      cases j with
      | zero =>
        have e : y = x := by simpa using hx
        subst e
        have h0' : 0 ≤ at0 d (pc : Int) := by simpa using h0
        rw [decide_eq_true h0', Bool.true_and] at h1
        simpa using h1
      | succ j => exact h2 j x (by simpa using hx) (by rwa [show pc + 1 + j = pc + (j + 1) by omega])
    · intro h
      refine ⟨?_, fun j x hx h0 => h (j + 1) x (by simpa using hx) (by rwa [show pc + (j + 1) = pc + 1 + j by omega])⟩
      by_cases h0 : 0 ≤ at0 d (pc : Int)
      · rw [decide_eq_true h0, h 0 y rfl (by simpa using h0)]
        rfl
      · rw [decide_eq_false h0]
        rfl
theorem straight_eq {l : List DFunc} {c : List DIns} (hc : ∀ x ∈ c, InsFit c.length x) (h1 : 1 ≤ c.length) : noJmp (depthsL l c) c 0 = (decide ((leadersL l c).length = 1) && decide ((headsL l c).length = 0)) := by
  have hin : ∀ i : Nat, i < c.length → i < ((List.replicate c.length false).set 0 true).length := fun i hi => by simpa using hi
  have hin2 : ∀ i : Nat, i < c.length → i < (List.replicate c.length false).length := fun i hi => by simpa using hi
  have hno : ∀ i : Nat, (List.replicate c.length false)[i]? ≠ some true := fun i e => by
    rw [List.getElem?_replicate] at e
    split at e <;> simp at e
  cases hs : noJmp (depthsL l c) c 0
  · have hex : ∃ (j : Nat) (x : DIns), c[j]? = some x ∧ 0 ≤ at0 (depthsL l c) ((0 + j : Nat) : Int) ∧ isJmp x.op = true := by
      refine Classical.byContradiction fun hn => ?_
      have : noJmp (depthsL l c) c 0 = true := (noJmp_iff c 0).2 (fun j x hx h0 => by
        cases hj : isJmp x.op
        · rfl
        · exact absurd ⟨j, x, hx, h0, hj⟩ hn)
      rw [this] at hs
      simp at hs
    obtain ⟨j, x, hx, h0, hj⟩ := hex
    obtain ⟨ha0, ha1⟩ := (hc x (List.mem_of_getElem? hx)).jmp hj
    have hk : x.a.toNat < c.length := by omega
    by_cases hle : x.a ≤ ((0 + j : Nat) : Int)
    · have hm : (headM (depthsL l c) c 0 (List.replicate c.length false))[x.a.toNat]? = some true := (headM_iff c 0 _ (hin2 _ hk)).2 (.inr ⟨j, x, hx, h0, hj, hle, rfl⟩)
      have hmem : (x.a.toNat : Int) ∈ headsL l c := (mem_markF _ _).2 ⟨x.a.toNat, hm, by simp⟩
      have : 0 < (headsL l c).length := List.length_pos_of_mem hmem
      rw [decide_eq_false (p := (headsL l c).length = 0) (by omega), Bool.and_false]
    · have hm : (leadM (depthsL l c) c 0 ((List.replicate c.length false).set 0 true))[x.a.toNat]? = some true := (leadM_iff c 0 _ (hin _ hk)).2 (.inr ⟨j, x, hx, h0, hj, .inl rfl⟩)
      have hm0 : (leadM (depthsL l c) c 0 ((List.replicate c.length false).set 0 true))[0]? = some true := (leadM_iff c 0 _ (hin _ (by omega))).2 (.inl (by rw [List.getElem?_set_self (by simp; omega)]))
      have a1 : (x.a.toNat : Int) ∈ leadersL l c := (mem_markF _ _).2 ⟨x.a.toNat, hm, by simp⟩
      have a2 : (0 : Int) ∈ leadersL l c := (mem_markF _ _).2 ⟨0, hm0, by simp⟩
      have hne : (leadersL l c).length ≠ 1 := fun e => by
        obtain ⟨z, hz⟩ := List.length_eq_one_iff.1 e
        rw [hz] at a1 a2
        have b1 := List.mem_singleton.1 a1
        have b2 := List.mem_singleton.1 a2
        omega
      rw [decide_eq_false hne, Bool.false_and]
  · have hall := (noJmp_iff c 0).1 hs
    have hh : headsL l c = [] := by
      apply List.eq_nil_iff_forall_not_mem.2
      intro z hz
      obtain ⟨k, hk, _⟩ := (mem_markF _ _).1 hz
      have hkl : k < c.length := by
        have := (List.getElem?_eq_some_iff.1 hk).1
        rwa [headM_len, List.length_replicate] at this
      rcases (headM_iff c 0 _ (hin2 k hkl)).1 hk with h2 | ⟨j, x, hx, h0, hj, _⟩
      · exact hno k h2
      · rw [hall j x hx h0] at hj
        simp at hj
    have hl0 : ∀ z ∈ leadersL l c, z = 0 := by
      intro z hz
      obtain ⟨k, hk, hzk⟩ := (mem_markF _ _).1 hz
      have hkl : k < c.length := by
        have := (List.getElem?_eq_some_iff.1 hk).1
        rwa [leadM_len, List.length_set, List.length_replicate] at this
      rcases (leadM_iff c 0 _ (hin k hkl)).1 hk with h2 | ⟨j, x, hx, h0, hj, _⟩
      · rcases (set_true (hin2 k hkl)).1 h2 with h3 | h3
        · exact absurd h3 (hno k)
        · rw [hzk, ← h3]
          simp
      · rw [hall j x hx h0] at hj
        simp at hj
    have hl : (leadersL l c).length = 1 := by
      have e : leadM (depthsL l c) c 0 ((List.replicate c.length false).set 0 true) = (List.replicate c.length false).set 0 true := by
        apply List.ext_getElem?
        intro i
        rcases Nat.lt_or_ge i c.length with hi | hi
        · have b1 := leadM_iff (d := depthsL l c) c 0 ((List.replicate c.length false).set 0 true) (hin i hi)
          have b2 : (leadM (depthsL l c) c 0 ((List.replicate c.length false).set 0 true))[i]? = some true ↔ ((List.replicate c.length false).set 0 true)[i]? = some true := by
            rw [b1]
            constructor
            · rintro (h2 | ⟨j, x, hx, h0, hj, _⟩)
              · exact h2
              · rw [hall j x hx h0] at hj
                simp at hj
            · exact .inl
          have l1 : i < (leadM (depthsL l c) c 0 ((List.replicate c.length false).set 0 true)).length := by rw [leadM_len]; exact hin i hi
          have l2 := hin i hi
          rw [List.getElem?_eq_getElem l1, List.getElem?_eq_getElem l2] at b2 ⊢
          simp only [Option.some.injEq] at b2 ⊢
          exact Bool.eq_iff_iff.2 b2
        · rw [List.getElem?_eq_none (by rw [leadM_len]; simpa using hi), List.getElem?_eq_none (by simpa using hi)]
      unfold leadersL
      rw [e]
      obtain ⟨n, hn⟩ : ∃ n, c.length = n + 1 := ⟨c.length - 1, by omega⟩
      rw [hn, List.replicate_succ, List.set_cons_zero]
      have e2 : ∀ (n i : Nat), markF (List.replicate n false) i = [] := by
        intro n
        induction n with
        | zero => intro i; rfl
        | succ n ih => intro i; rw [List.replicate_succ]; simp [markF, ih]
      simp [markF, e2]
    rw [decide_eq_true hl, hh]
    rfl
end Go.Proofs.Yteoibjacgnmnpaa.Dat

/- The specs of a fast code, plainly: sorted, each once. -/
import Derived.Test.YthinhlcfpaaldaaGreatK4
namespace Go.Proofs.YthinhlcfpaaldaaGreat.Dat
open Go Go.RowKit Go.Proofs.YthinhlcfpaaldaaGreat.Mem
set_option linter.unusedVariables false
set_option linter.unusedSimpArgs false
/-- A list that rises strictly is told by what it holds. -/
theorem rise_eq {α : Type} {lt : α → α → Prop} (hirr : ∀ a, ¬ lt a a) (hasy : ∀ a b, lt a b → lt b a → False) : ∀ (l m : List α), l.Pairwise lt → m.Pairwise lt → (∀ x, x ∈ l ↔ x ∈ m) → l = m
  | [], [], _, _, _ => rfl
  | [], b :: m, _, _, h => absurd ((h b).2 (List.mem_cons_self ..)) (by simp)
  | a :: l, [], _, _, h => absurd ((h a).1 (List.mem_cons_self ..)) (by simp)
  | a :: l, b :: m, hl, hm, h => by
    rw [List.pairwise_cons] at hl hm
    have e : a = b := by
      rcases List.mem_cons.1 ((h a).1 (List.mem_cons_self ..)) with e | ha
      · exact e
      · rcases List.mem_cons.1 ((h b).2 (List.mem_cons_self ..)) with e | hb
        · exact e.symm
        · exact (hasy _ _ (hm.1 a ha) (hl.1 b hb)).elim
    subst e
    rw [rise_eq hirr hasy l m hl.2 hm.2 (fun x => ⟨fun hx => by
      rcases List.mem_cons.1 ((h x).1 (List.mem_cons_of_mem _ hx)) with rfl | hx'
      · exact (hirr _ (hl.1 _ hx)).elim
      · exact hx', fun hx => by
      rcases List.mem_cons.1 ((h x).2 (List.mem_cons_of_mem _ hx)) with rfl | hx'
      · exact (hirr _ (hm.1 _ hx)).elim
      · exact hx'⟩)]
deriving instance DecidableEq for DSpec
def LtS (a b : DSpec) : Prop := a.fn < b.fn ∨ (a.fn = b.fn ∧ (a.pc < b.pc ∨ (a.pc = b.pc ∧ (a.target < b.target ∨ (a.target = b.target ∧ a.kind < b.kind)))))
instance (a b : DSpec) : Decidable (LtS a b) := by unfold LtS; infer_instance
theorem lts_irr (a : DSpec) : ¬ LtS a a := by unfold LtS; omega
theorem lts_asy (a b : DSpec) : LtS a b → LtS b a → False := by unfold LtS; omega
theorem lts_trans {a b c : DSpec} : LtS a b → LtS b c → LtS a c := by unfold LtS; omega
theorem lts_tri (a b : DSpec) : LtS a b ∨ a = b ∨ LtS b a := by
  obtain ⟨a1, a2, a3, a4⟩ := a
  obtain ⟨b1, b2, b3, b4⟩ := b
  simp only [LtS, DSpec.mk.injEq]
  omega
/-- A spec put where it belongs, unless it is there. -/
def putL : List DSpec → DSpec → List DSpec
  | [], x => [x]
  | a :: l, x => if LtS a x then a :: putL l x else if a = x then a :: l else x :: a :: l
theorem mem_putL {x y : DSpec} : ∀ {l : List DSpec}, y ∈ putL l x ↔ y = x ∨ y ∈ l
  | [] => by simp [putL]
  | a :: l => by
    unfold putL
    split
    · rw [List.mem_cons, mem_putL, List.mem_cons]
      exact ⟨fun h => by rcases h with h | h | h <;> simp [h], fun h => by rcases h with h | h | h <;> simp [h]⟩
    · split
      · next h => subst h; simp
      · simp
theorem putL_rise {x : DSpec} : ∀ {l : List DSpec}, l.Pairwise LtS → (putL l x).Pairwise LtS
  | [], _ => by simp [putL]
  | a :: l, h => by
    rw [List.pairwise_cons] at h
    unfold putL
    split
    · next ha =>
      rw [List.pairwise_cons]
      refine ⟨fun y hy => ?_, putL_rise h.2⟩
      rcases mem_putL.1 hy with rfl | hy
      · exact ha
      · exact h.1 y hy
    · next ha =>
      split
      · exact List.pairwise_cons.2 h
      · next hne =>
        have hx : LtS x a := by
          rcases lts_tri a x with q | q | q
          · exact absurd q ha
          · exact absurd q hne
          · exact q
        rw [List.pairwise_cons]
        refine ⟨fun y hy => ?_, List.pairwise_cons.2 h⟩
        rcases List.mem_cons.1 hy with rfl | hy
        · exact hx
        · exact lts_trans hx (h.1 y hy)
/-- Where it is put: at the first place that is not less. -/
theorem put_at {x : DSpec} : ∀ (l : List DSpec) (j : Nat), (∀ i y, l[i]? = some y → i < j → LtS y x) → (∀ y, l[j]? = some y → ¬ LtS y x) → j ≤ l.length → putL l x = if l[j]? = some x then l else l.take j ++ x :: l.drop j
  | [], 0, _, _, _ => by simp [putL]
  | [], j + 1, _, _, h => by simp at h
  | a :: l, 0, _, h2, _ => by
    have := h2 a (by simp)
    simp only [putL, if_neg this, List.getElem?_cons_zero, Option.some.injEq, List.take_zero, List.nil_append, List.drop_zero]
  | a :: l, j + 1, h1, h2, h3 => by
    have ha := h1 0 a (by simp) (by omega)
    have ih := put_at l j (fun i y hy hi => h1 (i + 1) y (by simpa using hy) (by omega)) (fun y hy => h2 y (by simpa using hy)) (by simp at h3; omega)
    simp only [putL, if_pos ha, ih, List.getElem?_cons_succ, List.take_succ_cons, List.drop_succ_cons, List.cons_append]
    split <;> rfl
/-- The specs, sorted, each once. -/
def riseL (l : List DSpec) : List DSpec := l.foldl putL []
theorem rise_snoc {l : List DSpec} {k : Nat} {x : DSpec} (h : l[k]? = some x) : riseL (l.take (k + 1)) = putL (riseL (l.take k)) x := by
  unfold riseL
  rw [List.take_add_one, h, List.foldl_append]
  rfl
theorem foldl_put : ∀ (l m : List DSpec), m.Pairwise LtS → (l.foldl putL m).Pairwise LtS ∧ ∀ y, y ∈ l.foldl putL m ↔ y ∈ m ∨ y ∈ l
  | [], m, h => ⟨h, fun y => by simp⟩
  | a :: l, m, h => by
    obtain ⟨h1, h2⟩ := foldl_put l (putL m a) (putL_rise h)
    refine ⟨h1, fun y => ?_⟩
    rw [List.foldl_cons, h2, mem_putL, List.mem_cons]
    constructor
    · rintro ((h | h) | h) <;> simp [h]
    · rintro (h | h | h) <;> simp [h]
/-- Any rising list that holds the same is it. -/
theorem riseL_of {l m : List DSpec} (hm : m.Pairwise LtS) (h : ∀ y, y ∈ m ↔ y ∈ l) : m = riseL l := by
  obtain ⟨h1, h2⟩ := foldl_put l [] List.Pairwise.nil
  exact rise_eq lts_irr lts_asy m (riseL l) hm h1 (fun x => by rw [h]; exact ⟨fun hx => (h2 x).2 (.inr hx), fun hx => by simpa using (h2 x).1 hx⟩)
/-! ### Neighbours that are alike, once -/
def dedS (acc : List DSpec) (x : DSpec) : List DSpec := if acc.getLast? = some x then acc else acc ++ [x]
def ded (l : List DSpec) : List DSpec := l.foldl dedS []
theorem ded_snoc {l : List DSpec} {k : Nat} {x : DSpec} (h : l[k]? = some x) : ded (l.take (k + 1)) = dedS (ded (l.take k)) x := by
  unfold ded
  rw [List.take_add_one, h, List.foldl_append]
  rfl
theorem dedS_last (acc : List DSpec) (x : DSpec) : (dedS acc x).getLast? = some x := by
  unfold dedS
  split
  · assumption
  · simp
theorem ded_last {l : List DSpec} {k : Nat} {x : DSpec} (h : l[k]? = some x) : (ded (l.take (k + 1))).getLast? = some x := by
  rw [ded_snoc h]
  exact dedS_last _ _
theorem ded_same {l : List DSpec} {k : Nat} {x : DSpec} (h : l[k]? = some x) (h2 : l[k + 1]? = some x) : ded (l.take (k + 2)) = ded (l.take (k + 1)) := by
  rw [ded_snoc h2]
  unfold dedS
  rw [if_pos (ded_last h)]
theorem ded_other {l : List DSpec} {k : Nat} {x y : DSpec} (h : l[k]? = some x) (h2 : l[k + 1]? = some y) (hne : y ≠ x) : ded (l.take (k + 2)) = ded (l.take (k + 1)) ++ [y] := by
  rw [ded_snoc h2]
  unfold dedS
  rw [if_neg]
  rw [ded_last h]
  exact fun e => hne (Option.some.inj e).symm
theorem ded_one {l : List DSpec} {x : DSpec} (h : l[0]? = some x) : ded (l.take 1) = l.take 1 := by
  rw [ded_snoc h, List.take_add_one, h]
  simp [ded, dedS]
/-- Sorted: no later one is less. -/
def SrtS (l : List DSpec) : Prop := l.Pairwise (fun a b => ¬ LtS b a)
theorem ded_rise {l : List DSpec} (h : SrtS l) (k : Nat) : (ded (l.take k)).Pairwise LtS ∧ ∀ y, y ∈ ded (l.take k) ↔ y ∈ l.take k := by
  induction k with
  | zero => simp [ded]
  | succ k ih =>
    cases hk : l[k]? with
    | none =>
      rw [List.take_add_one, hk]
      simpa using ih
    | some x =>
      obtain ⟨i1, i2⟩ := ih
      have hmem : ∀ y, y ∈ l.take (k + 1) ↔ y ∈ l.take k ∨ y = x := by
        intro y
        rw [List.take_add_one, hk]
        simp
      have hsx : ∀ y ∈ l.take k, ¬ LtS x y := by
        have h1 : SrtS (l.take (k + 1)) := List.Pairwise.sublist (List.take_sublist _ _) h
        rw [List.take_add_one, hk] at h1
        intro y hy
        exact (List.pairwise_append.1 h1).2.2 y hy x (by simp)
      rw [ded_snoc hk]
      unfold dedS
      split
      · next hl =>
        have hx : x ∈ l.take k := (i2 x).1 (List.mem_of_getLast? hl)
        refine ⟨i1, fun y => ?_⟩
        rw [hmem, i2]
        exact ⟨fun h => .inl h, fun h => h.elim id (fun e => e ▸ hx)⟩
      · next hl =>
        refine ⟨List.pairwise_append.2 ⟨i1, by simp, fun a ha b hb => ?_⟩, fun y => ?_⟩
        · rw [List.mem_singleton] at hb
          subst hb
          rcases lts_tri a b with q | q | q
          · exact q
          · subst q
            refine absurd ?_ hl
            cases hz : (ded (l.take k)).getLast? with
            | none =>
              rw [List.getLast?_eq_none_iff] at hz
              rw [hz] at ha
              simp at ha
            | some z =>
              obtain ⟨ys, e⟩ := List.getLast?_eq_some_iff.1 hz
              rw [e] at ha i1
              rcases List.mem_append.1 ha with ha | ha
              · have h1 := (List.pairwise_append.1 i1).2.2 a ha z (by simp)
                have h2 : z ∈ ded (l.take k) := by rw [e]; simp
                exact absurd h1 (hsx z ((i2 z).1 h2))
              · rw [List.mem_singleton] at ha
                rw [ha]
          · exact absurd q (hsx a ((i2 a).1 ha))
        · rw [List.mem_append, hmem, i2, List.mem_singleton]
theorem ded_riseL {l m : List DSpec} (h : SrtS m) (hm : ∀ y, y ∈ m ↔ y ∈ l) : ded m = riseL l := by
  have h1 := ded_rise h m.length
  rw [List.take_length] at h1
  exact riseL_of h1.1 (fun y => (h1.2 y).trans (hm y))
theorem rise_len (l : List DSpec) (k : Nat) : (riseL (l.take k)).length ≤ k := by
  induction k with
  | zero => simp [riseL]
  | succ k ih =>
    cases h : l[k]? with
    | none =>
      rw [List.take_add_one, h]
      simp only [Option.toList_none, List.append_nil]
      omega
    | some x =>
      rw [rise_snoc h]
      have : ∀ m : List DSpec, (putL m x).length ≤ m.length + 1 := by
        intro m
        induction m with
        | nil => simp [putL]
        | cons a m ihm =>
          unfold putL
          split
          · simp only [List.length_cons]
            omega
          · split <;> simp
      have := this (riseL (l.take k))
      omega
end Go.Proofs.YthinhlcfpaaldaaGreat.Dat

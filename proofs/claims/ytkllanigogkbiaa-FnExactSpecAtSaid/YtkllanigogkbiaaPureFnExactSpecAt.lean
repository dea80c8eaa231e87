/- SpecAt: the law's printed function answers true, whatever the plan. -/
import Derived.Test.YtkllanigogkbiaaPFnExactSpecAtx
import Derived.Test.YtkllanigogkbiaaLoops
namespace Go.Proofs.Ytkllanigogkbiaa.PureSpecAt
set_option linter.unusedVariables false
set_option linter.unusedSimpArgs false
open Go.RowKit Go.Proofs.Ytkllanigogkbiaa.PFnExactSpecAt Go.Proofs.Ytkllanigogkbiaa.Loops
def V120 (x : S120) : Prop := (Lit.int .i64 x.f0).wf = true ∧ (Lit.int .i64 x.f1).wf = true ∧ (Lit.int .i64 x.f2).wf = true ∧ (Lit.int .i64 x.f3).wf = true

def cv (x : S120) : S50 := ⟨x.f0, x.f1, x.f2, x.f3⟩
theorem to_is (l : List S120) (hl : l.length ≤ 1048576) (k : Nat) (hk : l.length < k) : laws_toSpecS.f k l = some (l.map cv) := by
  unfold laws_toSpecS.f
  rw [if_pos (by omega), if_pos (by simp; omega)]
  have := map_loop z120 cv laws_toSpecS.l0 (fun k l o i h1 h2 h3 => by simp only [laws_toSpecS.l0]; rw [if_pos h1, if_pos h2]; simp only [laws_toSpec.f, Option.bind_some]; rw [if_pos h3]; rfl)
    (fun k l o i h => by simp only [laws_toSpecS.l0]; rw [if_neg h]) l (by omega) l.length 0 k (List.replicate l.length z50) (by omega) hk (by simp) (by simp)
  simpa using this
def at_ (x1 x2 : Int) (l : List S50) : Int × Int × Int × Int := ((l.find? (fun s => decide (s.f0 = x1) && decide (s.f1 = x2))).map (fun s => (s.f0, s.f1, s.f2, s.f3))).getD (0, 0, 0, 0)
theorem spec_is (x1 x2 : Int) (l : List S50) (a : Int) (b : Bool) (hl : l.length ≤ 1048576) (k : Nat) (hk : l.length < k) : spec_SpecAt.f k l a b x1 x2 = some (at_ x1 x2 l) := by
  have := find_loop z50 (fun s => decide (s.f0 = x1) && decide (s.f1 = x2)) (fun s => (s.f0, s.f1, s.f2, s.f3)) (0, 0, 0, 0) (fun k l i => spec_SpecAt.l0 k x1 x2 i l a b)
    (fun k l i h1 h2 => by
      simp only [spec_SpecAt.l0]; rw [if_pos h1, if_pos h2]
      by_cases h3 : (rd_T50 l i).f0 = x1
      · by_cases h4 : (rd_T50 l i).f1 = x2 <;> simp [rd_T50] at h3 h4 ⊢ <;> simp [h3, h4]
      · simp [rd_T50] at h3 ⊢; simp [h3])
    (fun k l i h => by simp only [spec_SpecAt.l0]; rw [if_neg h]) l (by omega) l.length 0 k (by omega) hk
  simpa [spec_SpecAt.f, at_] using this
theorem impl_is (x1 x2 : Int) (l : List S50) (a : Int) (b : Bool) (hl : l.length ≤ 1048576) (k : Nat) (hk : l.length < k) : impl_SpecAt.f k l a b x1 x2 = some (at_ x1 x2 l) := by
  have := find_loop z50 (fun s => decide (s.f0 = x1) && decide (s.f1 = x2)) (fun s => (s.f0, s.f1, s.f2, s.f3)) (0, 0, 0, 0) (fun k l i => impl_SpecAt.l0 k x1 x2 l l.length i)
    (fun k l i h1 h2 => by
      simp only [impl_SpecAt.l0]; rw [if_pos h1, if_pos h2, if_pos h1]
      by_cases h3 : (rd_T50 l i).f0 = x1
      · by_cases h4 : (rd_T50 l i).f1 = x2 <;> simp [rd_T50] at h3 h4 ⊢ <;> simp [h3, h4]
      · simp [rd_T50] at h3 ⊢; simp [h3])
    (fun k l i h => by simp only [impl_SpecAt.l0]; rw [if_neg h]) l (by omega) l.length 0 k (by omega) hk
  simpa [impl_SpecAt.f, at_] using this
theorem eq_is (l : List S50) (hl : l.length ≤ 1048576) (k : Nat) (hk : l.length < k) : laws_eqSpecS.f k l l = some true := by
  have := eq_loop laws_eqSpecS.l0 (fun k l i h1 h2 => by simp only [laws_eqSpecS.l0]; rw [if_pos h1, if_pos h2, if_pos h1]; simp [laws_eqSpec.f])
    (fun k l i h => by simp only [laws_eqSpecS.l0]; rw [if_neg h]) l (by omega) l.length 0 k (by omega) hk
  simpa [laws_eqSpecS.f] using this

theorem pure : ∀ (l0_0 : List S120) (a0_1 : Int) (a0_2 : Bool) (a1 : Int) (a2 : Int), (l0_0.length ≤ maxLen ∧ ∀ y ∈ l0_0, V120 y) → (Lit.int .i64 a0_1).wf = true → (Lit.int .i64 a1).wf = true → (Lit.int .i64 a2).wf = true → ∃ k, laws_FnExactSpecAt.f k l0_0 a0_1 a0_2 a1 a2 = some true := by
  intro l a b x1 x2 ⟨hm, _⟩ _ _ _
  refine ⟨l.length + 1, ?_⟩
  unfold laws_FnExactSpecAt.f laws_szPlan.f laws_szSpecS.f
  unfold maxLen at hm
  by_cases h0 : wrap64 (1048576 - (l.length : Int)) < 0
  · simp [h0]
  · have hl : l.length ≤ 1048576 := by unfold wrap64 at h0; omega
    simp [h0, laws_toPlan.f, laws_eqPlan.f, to_is l hl, spec_is x1 x2 (l.map cv) a b (by simpa using hl), impl_is x1 x2 (l.map cv) a b (by simpa using hl), eq_is (l.map cv) (by simpa using hl), laws_eqSpec.f]

end Go.Proofs.Ytkllanigogkbiaa.PureSpecAt

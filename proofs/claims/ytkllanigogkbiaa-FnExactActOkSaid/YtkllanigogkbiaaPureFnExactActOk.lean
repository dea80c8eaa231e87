/- ActOk: the law's printed function answers true, whatever the act. -/
import Derived.Test.YtkllanigogkbiaaPFnExactActOkx
import Derived.Test.YtkllanigogkbiaaLoops
namespace Go.Proofs.Ytkllanigogkbiaa.PureActOk
set_option linter.unusedVariables false
set_option linter.unusedSimpArgs false
open Go.RowKit Go.Proofs.Ytkllanigogkbiaa.PFnExactActOk Go.Proofs.Ytkllanigogkbiaa.Loops
def V91 (x : S91) : Prop := (Lit.int .i64 x.f0).wf = true ∧ (Lit.int .i64 x.f1).wf = true ∧ (Lit.int .i64 x.f2).wf = true ∧ (Lit.int .i64 x.f3).wf = true

def cv (x : S91) : S37 := ⟨x.f0, x.f1, x.f2, x.f3⟩
theorem to_is (l : List S91) (hl : l.length ≤ 1048576) (k : Nat) (hk : l.length < k) : laws_toSiteS.f k l = some (l.map cv) := by
  unfold laws_toSiteS.f
  rw [if_pos (by omega), if_pos (by simp; omega)]
  have := map_loop z91 cv laws_toSiteS.l0 (fun k l o i h1 h2 h3 => by simp only [laws_toSiteS.l0]; rw [if_pos h1, if_pos h2]; simp only [laws_toSite.f, Option.bind_some]; rw [if_pos h3]; rfl)
    (fun k l o i h => by simp only [laws_toSiteS.l0]; rw [if_neg h]) l (by omega) l.length 0 k (List.replicate l.length z37) (by omega) hk (by simp) (by simp)
  simpa using this
theorem eq_is (l : List S37) (hl : l.length ≤ 1048576) (k : Nat) (hk : l.length < k) : laws_eqSiteS.f k l l = some true := by
  have := eq_loop laws_eqSiteS.l0 (fun k l i h1 h2 => by simp only [laws_eqSiteS.l0]; rw [if_pos h1, if_pos h2, if_pos h1]; simp [laws_eqSite.f])
    (fun k l i h => by simp only [laws_eqSiteS.l0]; rw [if_neg h]) l (by omega) l.length 0 k (by omega) hk
  simpa [laws_eqSiteS.f] using this

theorem same (a0 a1 a2 a3 : Int) (a4 : Bool) (l : List S37) : ∃ r, spec_ActOk.f a0 a1 a2 a3 a4 l = some r ∧ impl_ActOk.f a0 a1 a2 a3 a4 l = some r := by
  have w11 : wrap64 (12 - 1) = 11 := by unfold wrap64; omega
  have w119 : wrap64 (120 - 1) = 119 := by unfold wrap64; omega
  simp only [spec_ActOk.f, impl_ActOk.f, spec_l01Between.f, impl_isPlace.f, impl_inRange.f, impl_Act_only.f, w11, w119, ge_iff_le]
  by_cases h1 : a0 = 1
  · subst h1
    by_cases h2 : 0 ≤ a1 <;> by_cases h3 : a1 ≤ 500 <;> by_cases h4 : a2 = 0 <;> by_cases h5 : a3 = 0 <;> cases a4 <;> simp [h2, h3, h4, h5]
  by_cases h1 : a0 = 2
  · subst h1
    by_cases h2 : 0 ≤ a1 <;> by_cases h3 : a1 ≤ 11 <;> by_cases h4 : a2 = 0 <;> by_cases h5 : 0 ≤ a3 <;> by_cases h6 : a3 ≤ 3 <;> simp [h2, h3, h4, h5, h6]
  by_cases h1 : a0 = 3
  · subst h1
    by_cases h2 : 0 ≤ a1 <;> by_cases h3 : a1 ≤ 11 <;> by_cases h4 : 0 ≤ a2 <;> by_cases h7 : a2 ≤ 119 <;> by_cases h5 : 0 ≤ a3 <;> by_cases h6 : a3 ≤ 3 <;> simp [h2, h3, h4, h5, h6, h7]
  by_cases h1 : a0 = 4
  · subst h1
    by_cases h2 : 0 ≤ a1 <;> by_cases h3 : a1 ≤ 11 <;> by_cases h4 : a2 = 0 <;> by_cases h5 : a3 = 0 <;> cases a4 <;> simp [h2, h3, h4, h5]
  by_cases h1 : a0 = 5
  · subst h1
    by_cases hp : 0 ≤ a1 <;> by_cases h2 : a1 = 0 <;> by_cases h3 : (l.length : Int) ≤ 150 <;> by_cases h4 : a2 = 0 <;> by_cases h5 : a3 = 0 <;> cases a4 <;> simp [hp, h2, h3, h4, h5]
  · by_cases h2 : 0 ≤ a1
    · simp [*]
    · rw [if_neg h2]; simp [*]

theorem pure : ∀ (a0_0 : Int) (a0_1 : Int) (a0_2 : Int) (a0_3 : Int) (a0_4 : Bool) (l0_5 : List S91), (Lit.int .i64 a0_0).wf = true → (Lit.int .i64 a0_1).wf = true → (Lit.int .i64 a0_2).wf = true → (Lit.int .i64 a0_3).wf = true → (l0_5.length ≤ maxLen ∧ ∀ y ∈ l0_5, V91 y) → ∃ k, laws_FnExactActOk.f k a0_0 a0_1 a0_2 a0_3 a0_4 l0_5 = some true := by
  intro a0 a1 a2 a3 a4 l _ _ _ _ ⟨hm, _⟩
  refine ⟨l.length + 1, ?_⟩
  unfold laws_FnExactActOk.f laws_szAct.f laws_szSiteS.f
  unfold maxLen at hm
  by_cases h0 : wrap64 (1048576 - (l.length : Int)) < 0
  · simp [h0]
  · have hl : l.length ≤ 1048576 := by unfold wrap64 at h0; omega
    obtain ⟨r, h1, h2⟩ := same a0 a1 a2 a3 a4 (l.map cv)
    simp [h0, laws_toAct.f, laws_eqAct.f, to_is l hl, h1, h2, eq_is (l.map cv) (by simpa using hl)]

end Go.Proofs.Ytkllanigogkbiaa.PureActOk

/- SiteAt: the law's printed function answers true, whatever the sites. -/
import Derived.Test.YtkllanigogkbiaaPFnExactSiteAtx
import Derived.Test.YtkllanigogkbiaaLoops
namespace Go.Proofs.Ytkllanigogkbiaa.PureSiteAt
set_option linter.unusedVariables false
set_option linter.unusedSimpArgs false
open Go.RowKit Go.Proofs.Ytkllanigogkbiaa.PFnExactSiteAt Go.Proofs.Ytkllanigogkbiaa.Loops
def V91 (x : S91) : Prop := (Lit.int .i64 x.f0).wf = true ∧ (Lit.int .i64 x.f1).wf = true ∧ (Lit.int .i64 x.f2).wf = true ∧ (Lit.int .i64 x.f3).wf = true

def cv (x : S91) : S37 := ⟨x.f0, x.f1, x.f2, x.f3⟩
theorem to_is (l : List S91) (hl : l.length ≤ 1048576) (k : Nat) (hk : l.length < k) : laws_toSiteS.f k l = some (l.map cv) := by
  unfold laws_toSiteS.f
  rw [if_pos (by omega), if_pos (by simp; omega)]
  have := map_loop z91 cv laws_toSiteS.l0 (fun k l o i h1 h2 h3 => by simp only [laws_toSiteS.l0]; rw [if_pos h1, if_pos h2]; simp only [laws_toSite.f, Option.bind_some]; rw [if_pos h3]; rfl)
    (fun k l o i h => by simp only [laws_toSiteS.l0]; rw [if_neg h]) l (by omega) l.length 0 k (List.replicate l.length z37) (by omega) hk (by simp) (by simp)
  simpa using this
def at_ (x1 x2 : Int) (l : List S37) : Int × Int × Int × Int := ((l.find? (fun s => decide (s.f0 = x1) && decide (s.f1 = x2))).map (fun s => (s.f0, s.f1, s.f2, s.f3))).getD (0, 0, 0, 0)
theorem spec_is (x1 x2 : Int) (l : List S37) (hl : l.length ≤ 1048576) (k : Nat) (hk : l.length < k) : spec_SiteAt.f k l x1 x2 = some (at_ x1 x2 l) := by
  have := find_loop z37 (fun s => decide (s.f0 = x1) && decide (s.f1 = x2)) (fun s => (s.f0, s.f1, s.f2, s.f3)) (0, 0, 0, 0) (fun k l i => spec_SiteAt.l0 k l x1 x2 i)
    (fun k l i h1 h2 => by
      simp only [spec_SiteAt.l0]; rw [if_pos h1, if_pos h2]
      by_cases h3 : (rd_T37 l i).f0 = x1
      · by_cases h4 : (rd_T37 l i).f1 = x2 <;> simp [rd_T37] at h3 h4 ⊢ <;> simp [h3, h4]
      · simp [rd_T37] at h3 ⊢; simp [h3])
    (fun k l i h => by simp only [spec_SiteAt.l0]; rw [if_neg h]) l (by omega) l.length 0 k (by omega) hk
  simpa [spec_SiteAt.f, at_] using this
theorem impl_is (x1 x2 : Int) (l : List S37) (hl : l.length ≤ 1048576) (k : Nat) (hk : l.length < k) : impl_SiteAt.f k l x1 x2 = some (at_ x1 x2 l) := by
  have := find_loop z37 (fun s => decide (s.f0 = x1) && decide (s.f1 = x2)) (fun s => (s.f0, s.f1, s.f2, s.f3)) (0, 0, 0, 0) (fun k l i => impl_SiteAt.l0 k x1 x2 l l.length i)
    (fun k l i h1 h2 => by
      simp only [impl_SiteAt.l0]; rw [if_pos h1, if_pos h2, if_pos h1]
      by_cases h3 : (rd_T37 l i).f0 = x1
      · by_cases h4 : (rd_T37 l i).f1 = x2 <;> simp [rd_T37] at h3 h4 ⊢ <;> simp [h3, h4]
      · simp [rd_T37] at h3 ⊢; simp [h3])
    (fun k l i h => by simp only [impl_SiteAt.l0]; rw [if_neg h]) l (by omega) l.length 0 k (by omega) hk
  simpa [impl_SiteAt.f, at_] using this
theorem eq_is (l : List S37) (hl : l.length ≤ 1048576) (k : Nat) (hk : l.length < k) : laws_eqSiteS.f k l l = some true := by
  have := eq_loop laws_eqSiteS.l0 (fun k l i h1 h2 => by simp only [laws_eqSiteS.l0]; rw [if_pos h1, if_pos h2, if_pos h1]; simp [laws_eqSite.f])
    (fun k l i h => by simp only [laws_eqSiteS.l0]; rw [if_neg h]) l (by omega) l.length 0 k (by omega) hk
  simpa [laws_eqSiteS.f] using this

theorem pure : ∀ (l0 : List S91) (a1 : Int) (a2 : Int), (l0.length ≤ maxLen ∧ ∀ y ∈ l0, V91 y) → (Lit.int .i64 a1).wf = true → (Lit.int .i64 a2).wf = true → ∃ k, laws_FnExactSiteAt.f k l0 a1 a2 = some true := by
  intro l x1 x2 ⟨hm, _⟩ _ _
  refine ⟨l.length + 1, ?_⟩
  unfold laws_FnExactSiteAt.f laws_szSiteS.f
  unfold maxLen at hm
  by_cases h0 : wrap64 (1048576 - (l.length : Int)) < 0
  · simp [h0]
  · have hl : l.length ≤ 1048576 := by unfold wrap64 at h0; omega
    simp [h0, to_is l hl, spec_is x1 x2 (l.map cv) (by simpa using hl), impl_is x1 x2 (l.map cv) (by simpa using hl), eq_is (l.map cv) (by simpa using hl), laws_eqSite.f]

end Go.Proofs.Ytkllanigogkbiaa.PureSiteAt

/- PlanOk in the program and in the reference. -/
import Derived.Test.YteoibjacgnmnpaaPlan9b
namespace Go.Proofs.Yteoibjacgnmnpaa.Dat
open Go Go.RowKit Go.Proofs.Yteoibjacgnmnpaa.Mem
set_option linter.unusedVariables false
set_option linter.unusedSimpArgs false
def planOkB (t : List ByteArray) (l : List DFunc) (p : DPlan) : Bool := isGoodB t l && planB l p
theorem planOkI (A B D : Option Addr) (c d e0 : Nat) (t : List ByteArray) (l : List DFunc) (p : DPlan) (w : World) (h : HasMod A B t l w) (hr : kSpec.Row w D p.specs.length p.specs) (hp : p.specs.length ≤ 1048576) :
    Calls Try.prog 41 #[.agg #[.slice A t.length c, .slice B l.length d], .agg #[.slice D p.specs.length e0, .int .i64 p.lay, .bool p.bare]] w fun e w' => e = .returned (.bool (planOkB t l p)) ∧ Below w.heap.size w w' := by
  have hS := ((St.start w).made (.cells #[.slice A t.length c, .slice B l.length d] 34 (0, 0))).madeAt (.cells #[.slice D p.specs.length e0, .int .i64 p.lay, .bool p.bare] 63 (0, 0)) (w.heap.size + 1) (by simp)
  cases hg : isGoodB t l
  · have E := Lib.hid (show planOkB t l p = false by unfold planOkB; rw [hg]; rfl)
    have HG := Lib.hid hg
    clear hg
    go_enter Try.func41, Try.ntmps41
    go_wp2_with fail
    refine (isGoodI A B c d t l _ (h.below hS.bel) HG.out).mono ?_
    rintro e w1 ⟨rfl, hb⟩
    go_wp2
    go_ret
    exact ⟨ret_bool E.out.symm, (by repeat (first | with_reducible exact Below.refl _ _ | with_reducible assumption | (with_reducible refine bl_set ?_ (by dsimp only; omega) _) | with_reducible refine bl_alloc ?_ _ | with_reducible refine bl_drewN ?_ _ | with_reducible refine bl_drew ?_ | with_reducible refine bl_step ?_ (by with_reducible assumption) | exact Below.refl _ _ | assumption | (refine bl_set ?_ (by dsimp only; omega) _) | refine bl_alloc ?_ _ | refine bl_drewN ?_ _ | refine bl_drew ?_ | refine bl_step ?_ (by assumption)))⟩
  · have E := Lib.hid (show planOkB t l p = planB l p by unfold planOkB; rw [hg]; rfl)
    have HG := Lib.hid hg
    clear hg
    go_enter Try.func41, Try.ntmps41
    go_wp2_with fail
    refine (isGoodI A B c d t l _ (h.below hS.bel) HG.out).mono ?_
    rintro e w1 ⟨rfl, hb⟩
    replace hS := hS.step hb
    have x0 := hS.cell 0 rfl
    have x1 := hS.cell 1 rfl
    go_wp2_with fail
    refine (planI A B D c d e0 t l p _ (h.below hS.bel) (hr.below hS.bel) hp).mono ?_
    rintro e w2 ⟨rfl, hb2⟩
    go_wp2
    go_ret
    exact ⟨ret_bool E.out.symm, (hS.step hb2).bel⟩
theorem planOk3 (A B D : Option Addr) (c d e0 : Nat) (t : List ByteArray) (l : List DFunc) (p : DPlan) (w : World) (h : HasMod A B t l w) (hr : kSpec.Row w D p.specs.length p.specs) (hp : p.specs.length ≤ 1048576) :
    Calls Try.prog 39 #[.agg #[.slice A t.length c, .slice B l.length d], .agg #[.slice D p.specs.length e0, .int .i64 p.lay, .bool p.bare]] w fun e w' => e = .returned (.bool (planOkB t l p)) ∧ Below w.heap.size w w' := by
  have hS := ((St.start w).made (.cells #[.slice A t.length c, .slice B l.length d] 34 (0, 0))).madeAt (.cells #[.slice D p.specs.length e0, .int .i64 p.lay, .bool p.bare] 63 (0, 0)) (w.heap.size + 1) (by simp)
  cases hg : isGoodB t l
  · have E := Lib.hid (show planOkB t l p = false by unfold planOkB; rw [hg]; rfl)
    have HG := Lib.hid hg
    clear hg
    go_enter Try.func39, Try.ntmps39
    go_wp2_with fail
    refine (good03 A B c d t l _ (h.below hS.bel) HG.out).mono ?_
    rintro e w1 ⟨rfl, hb⟩
    go_wp2
    go_ret
    exact ⟨ret_bool E.out.symm, (by repeat (first | with_reducible exact Below.refl _ _ | with_reducible assumption | (with_reducible refine bl_set ?_ (by dsimp only; omega) _) | with_reducible refine bl_alloc ?_ _ | with_reducible refine bl_drewN ?_ _ | with_reducible refine bl_drew ?_ | with_reducible refine bl_step ?_ (by with_reducible assumption) | exact Below.refl _ _ | assumption | (refine bl_set ?_ (by dsimp only; omega) _) | refine bl_alloc ?_ _ | refine bl_drewN ?_ _ | refine bl_drew ?_ | refine bl_step ?_ (by assumption)))⟩
  · have E := Lib.hid (show planOkB t l p = planB l p by unfold planOkB; rw [hg]; rfl)
    have HG := Lib.hid hg
    clear hg
    go_enter Try.func39, Try.ntmps39
    go_wp2_with fail
    refine (good03 A B c d t l _ (h.below hS.bel) HG.out).mono ?_
    rintro e w1 ⟨rfl, hb⟩
    replace hS := hS.step hb
    have x0 := hS.cell 0 rfl
    have x1 := hS.cell 1 rfl
    go_wp2_with fail
    refine (plan9 A B D c d e0 t l p _ (h.below hS.bel) (hr.below hS.bel) hp).mono ?_
    rintro e w2 ⟨rfl, hb2⟩
    go_wp2
    go_ret
    exact ⟨ret_bool E.out.symm, (hS.step hb2).bel⟩
end Go.Proofs.Yteoibjacgnmnpaa.Dat

/- ProfileOk in the program and in the reference. -/
import Derived.Test.YteoibjacgnmnpaaProf3
namespace Go.Proofs.Yteoibjacgnmnpaa.Dat
open Go Go.RowKit Go.Proofs.Yteoibjacgnmnpaa.Mem
set_option linter.unusedVariables false
set_option linter.unusedSimpArgs false
def profOkB (t : List ByteArray) (l : List DFunc) (p : List DSite) : Bool := isGoodB t l && profB l p
theorem profOkI (A B D : Option Addr) (c d e0 : Nat) (t : List ByteArray) (l : List DFunc) (p : List DSite) (w : World) (h : HasMod A B t l w) (hr : kSite.Row w D p.length p) (hp : p.length ≤ 1048576) :
    Calls Try.prog 34 #[.agg #[.slice A t.length c, .slice B l.length d], .slice D p.length e0] w fun e w' => e = .returned (.bool (profOkB t l p)) ∧ Below w.heap.size w w' := by
  have hS := (St.start w).made (.cells #[.slice A t.length c, .slice B l.length d] 34 (0, 0))
  cases hg : isGoodB t l
  · have E := Lib.hid (show profOkB t l p = false by unfold profOkB; rw [hg]; rfl)
    have HG := Lib.hid hg
    clear hg
    go_enter Try.func34, Try.ntmps34
    go_wp2_with fail
    refine (isGoodI A B c d t l _ (h.below hS.bel) HG.out).mono ?_
    rintro e w1 ⟨rfl, hb⟩
    go_wp2
    go_ret
    exact ⟨ret_bool E.out.symm, (by repeat (first | with_reducible exact Below.refl _ _ | with_reducible assumption | (with_reducible refine bl_set ?_ (by dsimp only; omega) _) | with_reducible refine bl_alloc ?_ _ | with_reducible refine bl_drewN ?_ _ | with_reducible refine bl_drew ?_ | with_reducible refine bl_step ?_ (by with_reducible assumption) | exact Below.refl _ _ | assumption | (refine bl_set ?_ (by dsimp only; omega) _) | refine bl_alloc ?_ _ | refine bl_drewN ?_ _ | refine bl_drew ?_ | refine bl_step ?_ (by assumption)))⟩
  · have E := Lib.hid (show profOkB t l p = profB l p by unfold profOkB; rw [hg]; rfl)
    have HG := Lib.hid hg
    clear hg
    go_enter Try.func34, Try.ntmps34
    go_wp2_with fail
    refine (isGoodI A B c d t l _ (h.below hS.bel) HG.out).mono ?_
    rintro e w1 ⟨rfl, hb⟩
    replace hS := hS.step hb
    have x0 := hS.cell 0 rfl
    go_wp2_with fail
    refine (profI A B D c d e0 t l p _ (h.below hS.bel) (hr.below hS.bel) hp).mono ?_
    rintro e w2 ⟨rfl, hb2⟩
    go_wp2
    go_ret
    exact ⟨ret_bool E.out.symm, (hS.step hb2).bel⟩
theorem profOk3 (A B D : Option Addr) (c d e0 : Nat) (t : List ByteArray) (l : List DFunc) (p : List DSite) (w : World) (h : HasMod A B t l w) (hr : kSite.Row w D p.length p) (hp : p.length ≤ 1048576) :
    Calls Try.prog 31 #[.agg #[.slice A t.length c, .slice B l.length d], .slice D p.length e0] w fun e w' => e = .returned (.bool (profOkB t l p)) ∧ Below w.heap.size w w' := by
  have hS := (St.start w).made (.cells #[.slice A t.length c, .slice B l.length d] 34 (0, 0))
  cases hg : isGoodB t l
  · have E := Lib.hid (show profOkB t l p = false by unfold profOkB; rw [hg]; rfl)
    have HG := Lib.hid hg
    clear hg
    go_enter Try.func31, Try.ntmps31
    go_wp2_with fail
    refine (good03 A B c d t l _ (h.below hS.bel) HG.out).mono ?_
    rintro e w1 ⟨rfl, hb⟩
    go_wp2
    go_ret
    exact ⟨ret_bool E.out.symm, (by repeat (first | with_reducible exact Below.refl _ _ | with_reducible assumption | (with_reducible refine bl_set ?_ (by dsimp only; omega) _) | with_reducible refine bl_alloc ?_ _ | with_reducible refine bl_drewN ?_ _ | with_reducible refine bl_drew ?_ | with_reducible refine bl_step ?_ (by with_reducible assumption) | exact Below.refl _ _ | assumption | (refine bl_set ?_ (by dsimp only; omega) _) | refine bl_alloc ?_ _ | refine bl_drewN ?_ _ | refine bl_drew ?_ | refine bl_step ?_ (by assumption)))⟩
  · have E := Lib.hid (show profOkB t l p = profB l p by unfold profOkB; rw [hg]; rfl)
    have HG := Lib.hid hg
    clear hg
    go_enter Try.func31, Try.ntmps31
    go_wp2_with fail
    refine (good03 A B c d t l _ (h.below hS.bel) HG.out).mono ?_
    rintro e w1 ⟨rfl, hb⟩
    replace hS := hS.step hb
    have x0 := hS.cell 0 rfl
    go_wp2_with fail
    refine (prof3 A B D c d e0 t l p _ (h.below hS.bel) (hr.below hS.bel) hp).mono ?_
    rintro e w2 ⟨rfl, hb2⟩
    go_wp2
    go_ret
    exact ⟨ret_bool E.out.symm, (hS.step hb2).bel⟩
end Go.Proofs.Yteoibjacgnmnpaa.Dat

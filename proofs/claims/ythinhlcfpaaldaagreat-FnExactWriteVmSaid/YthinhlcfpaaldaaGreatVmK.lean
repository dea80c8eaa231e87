/- VmOk, in the program and in the reference. -/
import Derived.Test.YthinhlcfpaaldaaGreatVmO
import Derived.Test.YthinhlcfpaaldaaGreatVmR
namespace Go.Proofs.YthinhlcfpaaldaaGreat.Dat
open Go Go.RowKit Go.Proofs.YthinhlcfpaaldaaGreat.Mem
set_option linter.unusedVariables false
set_option linter.unusedSimpArgs false
set_option maxHeartbeats 4000000 in
set_option maxRecDepth 100000 in
theorem vmOk3 (A B A0 A1 A3 : Option Addr) (c d c0 c1 c3 : Nat) (t : List ByteArray) (l : List DFunc) (v : DVm) (w : World) (h : HasMod A B t l w)
    (r0 : kFrame.Row w A0 v.frames.length v.frames) (r1 : kRec.Row w A1 v.heap.length v.heap) (r3 : Knd.str.Row w A3 v.out.length v.out) (hM : MVm v) {r : Bool} (hr : vmOkB t l v = r) :
    Calls Tryz.prog 89 #[.agg #[.slice A t.length c, .slice B l.length d], .agg #[.slice A0 v.frames.length c0, .slice A1 v.heap.length c1, .int .i64 v.made, .slice A3 v.out.length c3, .int .i64 v.status, .int .i64 v.trap, .int .i64 v.value.k, .int .i64 v.value.n, .string v.value.s, .int .i64 v.steps]] w fun e w' => e = .returned (.bool r) ∧ Below w.heap.size w w' := by
  subst hr
  have hS := (((St.start w).made (.cells #[.slice A t.length c, .slice B l.length d] 36 (0, 0))).madeAt (.cells #[.slice A0 v.frames.length c0, .slice A1 v.heap.length c1, .int .i64 v.made, .slice A3 v.out.length c3, .int .i64 v.status, .int .i64 v.trap, .int .i64 v.value.k, .int .i64 v.value.n, .string v.value.s, .int .i64 v.steps] 67 (0, 0)) (w.heap.size + 1) (by simp))
  cases hg : isGoodB t l
  · have E := Lib.hid (show vmOkB t l v = false by unfold vmOkB; rw [hg]; rfl)
    have HG := Lib.hid hg
    clear hg
    go_enter Tryz.func89, Tryz.ntmps89
    go_wp2_with fail
    refine (good03 A B c d t l _ (h.below hS.bel) HG.out).mono ?_
    rintro e w1 ⟨rfl, hb⟩
    go_wp2
    go_ret
    exact ⟨ret_bool E.out.symm, (hS.step hb).bel⟩
  · have E := Lib.hid (show vmOkB t l v = vmB l v by unfold vmOkB; rw [hg]; rfl)
    have hfit := Lib.hid (modFit (isGood_mod hg))
    have HG := Lib.hid hg
    clear hg
    go_enter Tryz.func89, Tryz.ntmps89
    go_wp2_with fail
    refine (good03 A B c d t l _ (h.below hS.bel) HG.out).mono ?_
    rintro e w1 ⟨rfl, hb⟩
    replace hS := hS.step hb
    have x0 := hS.cell 0 rfl
    have x1 := hS.cell 1 rfl
    go_wp2_with fail
    refine (vm03 A B A0 A1 A3 c d c0 c1 c3 t l v _ (h.below hS.bel) hfit.out (r0.below hS.bel) (r1.below hS.bel) (r3.below hS.bel) hM).mono ?_
    rintro e w2 ⟨rfl, hb2⟩
    go_wp2
    go_ret
    exact ⟨ret_bool E.out.symm, (hS.step hb2).bel⟩
end Go.Proofs.YthinhlcfpaaldaaGreat.Dat

/- Straight, in the program and in the reference. -/
import Derived.Test.YtibfajlmecbhiaaStr
namespace Go.Proofs.Ytibfajlmecbhiaa.Dat
open Go Go.RowKit Go.Proofs.Ytibfajlmecbhiaa.Mem
set_option linter.unusedVariables false
set_option linter.unusedSimpArgs false
theorem isJumpI (op a : Int) (w : World) {r : Bool} (h : isJmp op = r) : Calls Try.prog 44 #[.agg #[.int .i64 op, .int .i64 a]] w fun e w' => e = .returned (.bool r) ∧ Below w.heap.size w w' := by
  have H := Lib.hid h
  clear h
  go_enter Try.func44, Try.ntmps44
  go_wp2_with fail
  refine (inRange _ H.out).mono ?_
  rintro e w' ⟨rfl, rfl⟩
  go_wp2
  go_ret
  exact ⟨rfl, (by repeat (first | exact Below.refl _ _ | assumption | (refine bl_set ?_ (by dsimp only; omega) _) | refine bl_alloc ?_ _ | refine bl_drewN ?_ _ | refine bl_drew ?_ | refine bl_step ?_ (by assumption)))⟩
def isFuncB (t : List ByteArray) (l : List DFunc) (f : Int) : Bool := btw f 0 ((l.length : Int) - 1) && isGoodB t l
set_option maxHeartbeats 4000000 in
set_option maxRecDepth 100000 in
theorem isFuncI (A B : Option Addr) (c d : Nat) (t : List ByteArray) (l : List DFunc) (f : Int) (w : World) (h : HasMod A B t l w) {r : Bool} (hg : isFuncB t l f = r) :
    Calls Try.prog 25 #[.agg #[.slice A t.length c, .slice B l.length d], .int .i64 f] w fun e w' => e = .returned (.bool r) ∧ Below w.heap.size w w' := by
  have hm := h.hm
  unfold isFuncB at hg
  cases hf : btw f 0 ((l.length : Int) - 1)
  · rw [hf, Bool.false_and] at hg
    subst hg
    have HF := Lib.hid hf
    clear hf
    go_enter Try.func25, Try.ntmps25
    go_wp2_with fail
    refine (isPlace _ HF.out (by omega) (by omega)).mono ?_
    rintro e w' ⟨rfl, rfl⟩
    go_wp2
    go_ret
    exact ⟨rfl, (by repeat (first | exact Below.refl _ _ | assumption | (refine bl_set ?_ (by dsimp only; omega) _) | refine bl_alloc ?_ _ | refine bl_drewN ?_ _ | refine bl_drew ?_ | refine bl_step ?_ (by assumption)))⟩
  rw [hf, Bool.true_and] at hg
  have HF := Lib.hid hf
  have HG := Lib.hid hg
  clear hf hg
  go_enter Try.func25, Try.ntmps25
  go_wp2_with fail
  refine (isPlace _ HF.out (by omega) (by omega)).mono ?_
  rintro e w' ⟨rfl, rfl⟩
  go_wp2_with fail
  refine (isGoodI A B c d t l _ (h.below (by repeat (first | exact Below.refl _ _ | assumption | (refine bl_set ?_ (by dsimp only; omega) _) | refine bl_alloc ?_ _ | refine bl_drewN ?_ _ | refine bl_drew ?_ | refine bl_step ?_ (by assumption)))) HG.out).mono ?_
  rintro e w' ⟨rfl, hb⟩
  go_wp2
  go_ret
  exact ⟨rfl, (by repeat (first | exact Below.refl _ _ | assumption | (refine bl_set ?_ (by dsimp only; omega) _) | refine bl_alloc ?_ _ | refine bl_drewN ?_ _ | refine bl_drew ?_ | refine bl_step ?_ (by assumption)))⟩
set_option maxHeartbeats 4000000 in
set_option maxRecDepth 100000 in
theorem is08 (A B : Option Addr) (c d : Nat) (t : List ByteArray) (l : List DFunc) (f : Int) (w : World) (h : HasMod A B t l w) {r : Bool} (hg : isFuncB t l f = r) :
    Calls Try.prog 21 #[.agg #[.slice A t.length c, .slice B l.length d], .int .i64 f] w fun e w' => e = .returned (.bool r) ∧ Below w.heap.size w w' := by
  have hm := h.hm
  unfold isFuncB at hg
  rw [Bool.and_comm] at hg
  have hS0 := (St.start w).made (.cells #[.slice A t.length c, .slice B l.length d] 31 (0, 0))
  cases hf : isGoodB t l
  · rw [hf, Bool.false_and] at hg
    subst hg
    have HF := Lib.hid hf
    clear hf
    go_enter Try.func21, Try.ntmps21
    go_wp2_with fail
    refine (good03 A B c d t l _ (h.below hS0.bel) HF.out).mono ?_
    rintro e w' ⟨rfl, hb⟩
    go_wp2
    go_ret
    exact ⟨rfl, (by repeat (first | exact Below.refl _ _ | assumption | (refine bl_set ?_ (by dsimp only; omega) _) | refine bl_alloc ?_ _ | refine bl_drewN ?_ _ | refine bl_drew ?_ | refine bl_step ?_ (by assumption)))⟩
  rw [hf, Bool.true_and] at hg
  have HF := Lib.hid hf
  have HG := Lib.hid hg
  clear hf hg
  go_enter Try.func21, Try.ntmps21
  go_wp2_with fail
  refine (good03 A B c d t l _ (h.below hS0.bel) HF.out).mono ?_
  rintro e w' ⟨rfl, hb⟩
  have hS := hS0.step hb
  have x0 := hS.cell 0 rfl
  have hW := hS.bel
  clear hS0 hb
  go_wp2_with fail
  refine (between _ HG.out).mono ?_
  rintro e w' ⟨rfl, rfl⟩
  go_wp2
  go_ret
  exact ⟨rfl, (by repeat (first | exact Below.refl _ _ | assumption | (refine bl_set ?_ (by dsimp only; omega) _) | refine bl_alloc ?_ _ | refine bl_drewN ?_ _ | refine bl_drew ?_ | refine bl_step ?_ (by assumption)))⟩
/-- Straight, whole. -/
def strB (t : List ByteArray) (l : List DFunc) (f : Int) : Bool := isFuncB t l f && straightB l (l.getD f.toNat zFunc).code
end Go.Proofs.Ytibfajlmecbhiaa.Dat

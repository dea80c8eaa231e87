/- SpecsOf, both sides. Written by a program (sogen.py). -/
import Derived.Test.YthinhlcfpaaldaaGreatSoI
import Derived.Test.YthinhlcfpaaldaaGreatFlO
import Derived.Test.YthinhlcfpaaldaaGreatM5
namespace Go.Proofs.YthinhlcfpaaldaaGreat.Dat
open Go Go.RowKit Go.Proofs.YthinhlcfpaaldaaGreat.Mem
set_option linter.unusedVariables false
set_option linter.unusedSimpArgs false
theorem fastOk_fastS {t : List ByteArray} {l : List DFunc} {c : DFast} (h : fastOkB t l c = true) : fastB l c = true := by
  unfold fastOkB at h
  rw [Bool.and_eq_true] at h
  exact h.2
def specsL (t : List ByteArray) (l : List DFunc) (c : DFast) : List DSpec := if fastOkB t l c then riseL (specZ c.exits) else []
theorem specs_small (t : List ByteArray) (l : List DFunc) (c : DFast) : (specsL t l c).length ≤ 1048576 := by
  unfold specsL
  cases hf : fastOkB t l c
  · simp
  · have hb := fastOk_fastS hf
    have h1 := (fast_len hb).2.2
    have h2 := specZ_len c.exits c.exits.length
    rw [List.take_length] at h2
    have h3 := rise_len (specZ c.exits) (specZ c.exits).length
    rw [List.take_length] at h3
    simp only [if_true]
    omega
set_option maxHeartbeats 4000000 in
set_option maxRecDepth 100000 in
theorem specsI (A B A4 A5 : Option Addr) (c0 d0 c4 c5 : Nat) (t : List ByteArray) (l : List DFunc) (c : DFast) (w : World) (h : HasMod A B t l w) (r4 : kFOp.Row w A4 c.ops.length c.ops) (r5 : kExit.Row w A5 c.exits.length c.exits) (hM : MFast c) (hms : msFast c ≤ 1048576) {X : List DSpec} (hX : specsL t l c = X) :
    Calls Tryz.prog 16 #[.agg #[.slice A t.length c0, .slice B l.length d0], .agg #[.int .i64 c.fn, .int .i64 c.entry, .int .i64 c.vals, .int .i64 c.nums, .slice A4 c.ops.length c4, .slice A5 c.exits.length c5]] w (NewRow kSpec 110 X w) := by
  subst hX
  have hS := ((St.start w).made (.cells #[.slice A t.length c0, .slice B l.length d0] 36 (0, 0))).madeAt (.cells #[.int .i64 c.fn, .int .i64 c.entry, .int .i64 c.vals, .int .i64 c.nums, .slice A4 c.ops.length c4, .slice A5 c.exits.length c5] 41 (0, 0)) (w.heap.size + 1) (by simp)
  cases hf : fastOkB t l c
  · have e : specsL t l c = [] := by unfold specsL; rw [hf]; rfl
    rw [e]
    have HF := Lib.hid hf
    clear hf e
    go_enter Tryz.func16, Tryz.ntmps16
    go_wp2_with fail
    refine (fastOkI A B A4 A5 c0 d0 c4 c5 t l c _ (h.below hS.bel) (r4.below hS.bel) (r5.below hS.bel) hM hms HF.out).mono ?_
    rintro e w1 ⟨rfl, hb⟩
    replace hS := hS.step hb
    clear hb
    go_wp2
    go_ret
    exact newNil _ _ _ _ hS.bel
  have e : specsL t l c = riseL (specZ c.exits) := by unfold specsL; rw [hf]; rfl
  rw [e]
  have hl9 := (fast_len (fastOk_fastS hf)).2.2
  have HF := Lib.hid hf
  clear hf e
  go_enter Tryz.func16, Tryz.ntmps16
  go_wp2_with fail
  refine (fastOkI A B A4 A5 c0 d0 c4 c5 t l c _ (h.below hS.bel) (r4.below hS.bel) (r5.below hS.bel) hM hms HF.out).mono ?_
  rintro e w1 ⟨rfl, hb⟩
  replace hS := hS.step hb
  clear hb
  have x_f := hS.cell 0 rfl
  go_wp2_with fail
  refine (specsF A4 A5 c4 c5 c _ (r5.below hS.bel) hl9).mono ?_
  intro e w3 hnr
  obtain ⟨v, F3, rfl, hS3⟩ := hS.newRow hnr
  clear hnr
  go_wp2
  go_ret
  exact hS3.outRow 0 rfl
set_option maxHeartbeats 4000000 in
set_option maxRecDepth 100000 in
theorem specs3 (A B A4 A5 : Option Addr) (c0 d0 c4 c5 : Nat) (t : List ByteArray) (l : List DFunc) (c : DFast) (w : World) (h : HasMod A B t l w) (r4 : kFOp.Row w A4 c.ops.length c.ops) (r5 : kExit.Row w A5 c.exits.length c.exits) (hM : MFast c) (hms : msFast c ≤ 1048576) {X : List DSpec} (hX : specsL t l c = X) :
    Calls Tryz.prog 13 #[.agg #[.slice A t.length c0, .slice B l.length d0], .agg #[.int .i64 c.fn, .int .i64 c.entry, .int .i64 c.vals, .int .i64 c.nums, .slice A4 c.ops.length c4, .slice A5 c.exits.length c5]] w (NewRow kSpec 110 X w) := by
  subst hX
  have hS := ((St.start w).made (.cells #[.slice A t.length c0, .slice B l.length d0] 36 (0, 0))).madeAt (.cells #[.int .i64 c.fn, .int .i64 c.entry, .int .i64 c.vals, .int .i64 c.nums, .slice A4 c.ops.length c4, .slice A5 c.exits.length c5] 41 (0, 0)) (w.heap.size + 1) (by simp)
  cases hf : fastOkB t l c
  · have e : specsL t l c = [] := by unfold specsL; rw [hf]; rfl
    rw [e]
    have HF := Lib.hid hf
    clear hf e
    go_enter Tryz.func13, Tryz.ntmps13
    go_wp2_with fail
    refine (fastOk3 A B A4 A5 c0 d0 c4 c5 t l c _ (h.below hS.bel) (r4.below hS.bel) (r5.below hS.bel) hM hms HF.out).mono ?_
    rintro e w1 ⟨rfl, hb⟩
    replace hS := hS.step hb
    clear hb
    have hS2 := hS.empty kSpec 110 w1.heap.size rfl
    go_wp2
    go_ret
    exact hS2.outRow 0 rfl
  have e : specsL t l c = riseL (specZ c.exits) := by unfold specsL; rw [hf]; rfl
  rw [e]
  have hl9 := (fast_len (fastOk_fastS hf)).2.2
  have HF := Lib.hid hf
  clear hf e
  go_enter Tryz.func13, Tryz.ntmps13
  go_wp2_with fail
  refine (fastOk3 A B A4 A5 c0 d0 c4 c5 t l c _ (h.below hS.bel) (r4.below hS.bel) (r5.below hS.bel) hM hms HF.out).mono ?_
  rintro e w1 ⟨rfl, hb⟩
  replace hS := hS.step hb
  clear hb
  have x_f := hS.cell 0 rfl
  go_wp2_with fail
  refine (specs10 A4 A5 c4 c5 c _ (r5.below hS.bel) hl9).mono ?_
  intro e w3 hnr
  obtain ⟨v, F3, rfl, hS3⟩ := hS.newRow hnr
  clear hnr
  go_wp2
  go_ret
  exact hS3.outRow 0 rfl
end Go.Proofs.YthinhlcfpaaldaaGreat.Dat

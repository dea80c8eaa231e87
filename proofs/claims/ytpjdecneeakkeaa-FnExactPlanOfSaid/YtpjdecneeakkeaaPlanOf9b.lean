/- spec.PlanOf, joined. -/
import Derived.Test.YtpjdecneeakkeaaPlanOf9
namespace Go.Proofs.Ytpjdecneeakkeaa.Dat
open Go Go.RowKit Go.Proofs.Ytpjdecneeakkeaa.Mem
set_option linter.unusedVariables false
set_option linter.unusedSimpArgs false
set_option maxHeartbeats 8000000 in
set_option maxRecDepth 100000 in
theorem planOf9 (A B D E : Option Addr) (c d e0 e1 : Nat) (t : List ByteArray) (l : List DFunc) (sites : List DSite) (black : List DSpec) (lay : Int) (bare : Bool) (w : World) (h : HasMod A B t l w) (hr : kSite.Row w D sites.length sites) (hp : sites.length ≤ 1048576) (hrb : kSpec.Row w E black.length black) (hbl : black.length ≤ 1048576) {X : DPlan} (hX : planOfV t l sites black lay bare = X) :
    Calls Try.prog 48 #[.agg #[.slice A t.length c, .slice B l.length d], .slice D sites.length e0, .slice E black.length e1, .int .i64 lay, .bool bare] w (fun en w' => ∃ (v0 : Value) (F0 : List Nat), en = .returned (.agg #[v0, .int .i64 X.lay, .bool X.bare]) ∧ St w [Res.own kSpec 167 v0 X.specs F0] w') := by
  have hS := ((St.start w).made (.cells #[.slice A t.length c, .slice B l.length d] 34 (0, 0))).madeAt (.cells #[.slice none 0 0, .int .i64 0, .bool false] 70 (0, 0)) (w.heap.size + 1) (by simp)
  cases hpr : profOkB t l sites
  · obtain rfl : X = ⟨[], 0, false⟩ := by rw [← hX]; unfold planOfV; rw [if_neg (by rw [hpr]; simp)]
    have HP := Lib.hid hpr
    clear hpr hX
    go_enter Try.func48, Try.ntmps48
    go_wp2_with fail
    refine (profOk3' A B D c d e0 t l sites _ (h.below hS.bel) (hr.below hS.bel) hp HP.out).mono ?_
    rintro e w1 ⟨rfl, hb⟩
    replace hS := hS.step hb
    have x0 := hS.cell 0 rfl
    have f0 := hS.free 0 rfl
    go_wp2
    have hS2 := ((hS.set 0 rfl 0 (.slice none 0 0)).set 0 rfl 1 (.int .i64 0)).set 0 rfl 2 (.bool false)
    have y0 := hS2.cell 0 rfl 0
    have y1 := hS2.cell 0 rfl 1
    have y2 := hS2.cell 0 rfl 2
    refine bodyPost_ret (v := .agg #[.slice none 0 0, .int .i64 0, .bool false]) (by simp [results, Try.results48, go_sem, *]) rfl ?_
    exact ⟨_, [], rfl, (hS2.drop.drop).new (r := Res.own kSpec 167 (.slice none 0 0) [] []) (Below.refl _ _) (Knd.Own.nil _ _ _) (by simp [Res.own]) (by simp [Res.own])⟩
  cases hla : btw lay 0 3
  · obtain rfl : X = ⟨[], 0, false⟩ := by rw [← hX]; unfold planOfV; rw [if_neg (by rw [hla]; simp)]
    have HP := Lib.hid hpr
    have HL := Lib.hid hla
    clear hpr hX hla
    go_enter Try.func48, Try.ntmps48
    go_wp2_with fail
    refine (profOk3' A B D c d e0 t l sites _ (h.below hS.bel) (hr.below hS.bel) hp HP.out).mono ?_
    rintro e w1 ⟨rfl, hb⟩
    replace hS := hS.step hb
    have x0 := hS.cell 0 rfl
    have f0 := hS.free 0 rfl
    go_wp2_with fail
    refine (between (r := false) _ HL.out).mono ?_
    rintro e w' ⟨rfl, rfl⟩
    go_wp2
    have hS2 := ((hS.set 0 rfl 0 (.slice none 0 0)).set 0 rfl 1 (.int .i64 0)).set 0 rfl 2 (.bool false)
    have y0 := hS2.cell 0 rfl 0
    have y1 := hS2.cell 0 rfl 1
    have y2 := hS2.cell 0 rfl 2
    refine bodyPost_ret (v := .agg #[.slice none 0 0, .int .i64 0, .bool false]) (by simp [results, Try.results48, go_sem, *]) rfl ?_
    exact ⟨_, [], rfl, (hS2.drop.drop).new (r := Res.own kSpec 167 (.slice none 0 0) [] []) (Below.refl _ _) (Knd.Own.nil _ _ _) (by simp [Res.own]) (by simp [Res.own])⟩
  have hprof := profOk_prof hpr
  obtain rfl : X = ⟨planS l sites black, lay, bare⟩ := by rw [← hX]; unfold planOfV; rw [if_pos ⟨hpr, hla⟩]
  have HP := Lib.hid hpr
  have HL := Lib.hid hla
  have HF := Lib.hid hprof
  clear hpr hX hla hprof
  go_enter Try.func48, Try.ntmps48
  go_wp2_with fail
  refine (profOk3' A B D c d e0 t l sites _ (h.below hS.bel) (hr.below hS.bel) hp HP.out).mono ?_
  rintro e w1 ⟨rfl, hb⟩
  replace hS := hS.step hb
  clear hb
  have x1 := hS.cell 1 rfl
  go_wp2_with fail
  refine (between (r := true) _ HL.out).mono ?_
  rintro e w' ⟨rfl, rfl⟩
  go_wp2_with fail
  refine (l09Plan A B D E c d e0 e1 t l sites black lay bare _ (h.below hS.bel) (hr.below hS.bel) hp (hrb.below hS.bel) hbl HF.out).mono ?_
  rintro e w2 ⟨v0, F0, rfl, hSx⟩
  replace hS := hS.join hSx
  clear hSx x1
  obtain ⟨Av, cv, rfl, _, _⟩ := hS.row 0 rfl
  have x0 := hS.cell 1 rfl
  have f0 := hS.free 1 rfl
  go_wp2
  have hS2 := ((hS.set 1 rfl 0 (.slice Av (planS l sites black).length cv)).set 1 rfl 1 (.int .i64 lay)).set 1 rfl 2 (.bool bare)
  have y0 := hS2.cell 1 rfl 0
  have y1 := hS2.cell 1 rfl 1
  have y2 := hS2.cell 1 rfl 2
  refine bodyPost_ret (v := .agg #[.slice Av (planS l sites black).length cv, .int .i64 lay, .bool bare]) (by simp [results, Try.results48, go_sem, *]) rfl ?_
  exact ⟨_, _, rfl, hS2.only 0 rfl⟩
theorem planOfV_ms (t : List ByteArray) (l : List DFunc) (sites : List DSite) (black : List DSpec) (lay : Int) (bare : Bool) (h : sites.length ≤ 1048576) : msPlan (planOfV t l sites black lay bare) ≤ 1048576 := by
  have h1 := planS_len l black sites
  unfold planOfV
  split
  · unfold msPlan
    dsimp only
    omega
  · unfold msPlan
    simp
end Go.Proofs.Ytpjdecneeakkeaa.Dat

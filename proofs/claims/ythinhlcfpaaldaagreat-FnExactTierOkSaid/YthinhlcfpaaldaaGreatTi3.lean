/- The reference's look at a guess that failed. -/
import Derived.Test.YthinhlcfpaaldaaGreatTiP
namespace Go.Proofs.YthinhlcfpaaldaaGreat.Dat
open Go Go.RowKit Go.Proofs.YthinhlcfpaaldaaGreat.Mem
set_option linter.unusedVariables false
set_option linter.unusedSimpArgs false
set_option maxHeartbeats 8000000 in
set_option maxRecDepth 100000 in
theorem fail17 (A B : Option Addr) (c0 d0 : Nat) (t : List ByteArray) (l : List DFunc) (f : DFail) (w : World) (h : HasMod A B t l w) (hl12 : l.length ≤ 12) :
    Calls Tryz.prog 146 #[.agg #[.slice A t.length c0, .slice B l.length d0], .agg #[.int .i64 f.fn, .int .i64 f.pc, .int .i64 f.kind, .int .i64 f.count]] w fun e w' => e = .returned (.bool (failB l f)) ∧ Below w.heap.size w w' := by
  obtain ⟨fn, pc, kind, count⟩ := f
  dsimp only
  have eq1 : IntKind.i64.wrap ((l.length : Int) - 1) = (l.length : Int) - 1 := IntWalk.i64_in _ (by omega)
  cases hf : btw fn 0 ((l.length : Int) - 1)
  · have E := Lib.hid (show failB l ⟨fn, pc, kind, count⟩ = false by unfold failB insO; rw [hf]; rfl)
    have HF := Lib.hid hf
    have hS := (((St.start w).made (.cells #[.slice A t.length c0, .slice B l.length d0] 36 (0, 0))).madeAt (.cells #[.int .i64 fn, .int .i64 pc, .int .i64 kind, .int .i64 count] 217 (0, 0)) (w.heap.size + 1) (by simp)).drew
    clear hf
    go_enter Tryz.func146, Tryz.ntmps146
    go_wp2
    refine wp_region_held_drew (S := (fun (w' : World) => w'.cell? ⟨w.heap.size + 1, 0, none⟩ = some (.int .i64 fn) ∧ w'.cell? ⟨w.heap.size, 1, none⟩ = some (.slice B l.length d0))) (by kernel_rfl) (⟨hS.cell 0 rfl 0, hS.cell 1 rfl 1⟩) (fun hHeld => ?_)
    (iterate 6 (first | refine rQ1 ?_ | refine rQ2 ?_); try simp only [pP])
    refine regC 6 rfl (by kernel_rfl) (by rfl) (fun Kq hKq => ?_)
    go_simp
    (with_reducible refine (between _ HF.out).mono ?_)
    rintro e w3 ⟨rfl, rfl⟩
    try go_wp2_with fail
    refine hKq.out _ _ (hHeld) (fun hHeld => ?_)
    clear hKq Kq
    (try simp only [pP])
    (iterate 2 (first | refine rQ1 ?_ | refine rQ2 ?_); try simp only [pP])
    refine regS (fun _ _ _ d h => by cases d <;> exact h) [9, 10, 11, 12, 13, 14, 15, 16, 17, 18, 19, 20, 21] _ _ _ rfl (by kernel_rfl) (by assumption) ?_
    simp only [skipL, List.getElem?_cons_zero, List.getElem?_cons_succ, Option.bind_some, pP]
    (iterate 2 (first | refine rQ1 ?_ | refine rQ2 ?_); try simp only [pP])
    refine regS (fun _ _ _ d h => by cases d <;> exact h) [24, 25, 26, 27] _ _ _ rfl (by kernel_rfl) (by assumption) ?_
    simp only [skipL, List.getElem?_cons_zero, List.getElem?_cons_succ, Option.bind_some, pP]
    (first | refine rQ1 ?_ | refine rQ2 ?_); (try simp only [pP])
    refine wpAnyH_done (by kernel_rfl) ?_ _
    clear hHeld
    go_wp2
    go_ret
    exact ⟨ret_bool E.out.symm, hS.bel⟩
  have hf2 := btw_true.1 hf
  obtain ⟨fk, rfl⟩ : ∃ fk : Nat, fn = fk := ⟨fn.toNat, by omega⟩
  obtain ⟨y, hy⟩ := get_exU l fk (by omega)
  have hyc := (h.hv y (List.mem_of_getElem? hy)).1
  obtain ⟨adf, A9, c9, rfl, _, _, v2', _, hr9⟩ := kFunc_at h.hr fk y hy
  have HF := Lib.hid hf
  have f0 : (0 : Int) ≤ (fk : Int) := by omega
  have f1 : (fk : Int) < l.length := by omega
  have f2 : fk < l.length := by omega
  have eq2 : IntKind.i64.wrap ((y.code.length : Int) - 1) = (y.code.length : Int) - 1 := IntWalk.i64_in _ (by omega)
  cases hp : btw pc 0 ((y.code.length : Int) - 1)
  · have E := Lib.hid (show failB l ⟨(fk : Int), pc, kind, count⟩ = false by unfold failB insO; rw [hf, Int.toNat_natCast, getD_some hy, hp]; rfl)
    have HP := Lib.hid hp
    have hS := (((St.start w).made (.cells #[.slice A t.length c0, .slice (some adf) l.length d0] 36 (0, 0))).madeAt (.cells #[.int .i64 (fk : Int), .int .i64 pc, .int .i64 kind, .int .i64 count] 217 (0, 0)) (w.heap.size + 1) (by simp)).drew
    clear hf hp hy
    go_enter Tryz.func146, Tryz.ntmps146
    go_wp2
    refine wp_region_held_drew (S := (fun (w' : World) => w'.cell? ⟨w.heap.size + 1, 0, none⟩ = some (.int .i64 (fk : Int)) ∧ w'.cell? ⟨w.heap.size + 1, 1, none⟩ = some (.int .i64 pc) ∧ w'.cell? ⟨w.heap.size + 1, 3, none⟩ = some (.int .i64 count) ∧ w'.cell? ⟨w.heap.size, 1, none⟩ = some (.slice (some adf) l.length d0) ∧ w'.cell? ⟨(adf.add (fk * 3)).block, (adf.add (fk * 3)).off + 2, none⟩ = some (.slice A9 y.code.length c9))) (by kernel_rfl) (⟨hS.cell 0 rfl 0, hS.cell 0 rfl 1, hS.cell 0 rfl 3, hS.cell 1 rfl 1, kept hS.bel v2'⟩) (fun hHeld => ?_)
    (iterate 6 (first | refine rQ1 ?_ | refine rQ2 ?_); try simp only [pP])
    refine regC 6 rfl (by kernel_rfl) (by rfl) (fun Kq hKq => ?_)
    go_simp
    (with_reducible refine (between _ HF.out).mono ?_)
    rintro e w3 ⟨rfl, rfl⟩
    try go_wp2_with fail
    refine hKq.out _ _ (hHeld) (fun hHeld => ?_)
    clear hKq Kq
    (try simp only [pP])
    (iterate 13 (first | refine rQ1 ?_ | refine rQ2 ?_); try simp only [pP])
    refine regC 20 rfl (by kernel_rfl) (by rfl) (fun Kq hKq => ?_)
    go_simp
    (with_reducible refine (between _ HP.out).mono ?_)
    rintro e w4 ⟨rfl, rfl⟩
    try go_wp2_with fail
    refine hKq.out _ _ (hHeld) (fun hHeld => ?_)
    clear hKq Kq
    (try simp only [pP])
    (iterate 3 (first | refine rQ1 ?_ | refine rQ2 ?_); try simp only [pP])
    refine regS (fun _ _ _ d h => by cases d <;> exact h) [24, 25, 26, 27] _ _ _ rfl (by kernel_rfl) (by assumption) ?_
    simp only [skipL, List.getElem?_cons_zero, List.getElem?_cons_succ, Option.bind_some, pP]
    (first | refine rQ1 ?_ | refine rQ2 ?_); (try simp only [pP])
    refine wpAnyH_done (by kernel_rfl) ?_ _
    clear hHeld
    go_wp2
    go_ret
    exact ⟨ret_bool E.out.symm, hS.bel⟩
  have hp2 := btw_true.1 hp
  obtain ⟨pk, rfl⟩ : ∃ pk : Nat, pc = pk := ⟨pc.toNat, by omega⟩
  obtain ⟨x, hx⟩ := get_exU y.code pk (by omega)
  have hI : insO l (fk : Int) (pk : Int) = some x := by
    unfold insO
    rw [hf, Int.toNat_natCast, getD_some hy, hp, Int.toNat_natCast]
    exact hx
  have E0 : failB l ⟨(fk : Int), (pk : Int), kind, count⟩ = (btw count 1 1000000 && failX x.op kind) := by unfold failB; rw [hI]
  obtain ⟨ad9, rfl, r0', r1'⟩ := kIns_at hr9 pk x hx
  have HP := Lib.hid hp
  have p0 : (0 : Int) ≤ (pk : Int) := by omega
  have p1 : (pk : Int) < y.code.length := by omega
  have p2 : pk < y.code.length := by omega
  clear hf hp hy hI hx
  cases hc : btw count 1 1000000
  · have E := Lib.hid (E0.trans (by rw [hc, Bool.false_and]))
    have HC := Lib.hid hc
    have hS := (((St.start w).made (.cells #[.slice A t.length c0, .slice (some adf) l.length d0] 36 (0, 0))).madeAt (.cells #[.int .i64 (fk : Int), .int .i64 (pk : Int), .int .i64 kind, .int .i64 count] 217 (0, 0)) (w.heap.size + 1) (by simp)).drew
    clear hc E0
    go_enter Tryz.func146, Tryz.ntmps146
    go_wp2
    refine wp_region_held_drew (S := (fun (w' : World) => w'.cell? ⟨w.heap.size + 1, 0, none⟩ = some (.int .i64 (fk : Int)) ∧ w'.cell? ⟨w.heap.size + 1, 1, none⟩ = some (.int .i64 (pk : Int)) ∧ w'.cell? ⟨w.heap.size + 1, 3, none⟩ = some (.int .i64 count) ∧ w'.cell? ⟨w.heap.size, 1, none⟩ = some (.slice (some adf) l.length d0) ∧ w'.cell? ⟨(adf.add (fk * 3)).block, (adf.add (fk * 3)).off + 2, none⟩ = some (.slice (some ad9) y.code.length c9))) (by kernel_rfl) (⟨hS.cell 0 rfl 0, hS.cell 0 rfl 1, hS.cell 0 rfl 3, hS.cell 1 rfl 1, kept hS.bel v2'⟩) (fun hHeld => ?_)
    (iterate 6 (first | refine rQ1 ?_ | refine rQ2 ?_); try simp only [pP])
    refine regC 6 rfl (by kernel_rfl) (by rfl) (fun Kq hKq => ?_)
    go_simp
    (with_reducible refine (between _ HF.out).mono ?_)
    rintro e w3 ⟨rfl, rfl⟩
    try go_wp2_with fail
    refine hKq.out _ _ (hHeld) (fun hHeld => ?_)
    clear hKq Kq
    (try simp only [pP])
    (iterate 13 (first | refine rQ1 ?_ | refine rQ2 ?_); try simp only [pP])
    refine regC 20 rfl (by kernel_rfl) (by rfl) (fun Kq hKq => ?_)
    go_simp
    (with_reducible refine (between _ HP.out).mono ?_)
    rintro e w4 ⟨rfl, rfl⟩
    try go_wp2_with fail
    refine hKq.out _ _ (hHeld) (fun hHeld => ?_)
    clear hKq Kq
    (try simp only [pP])
    (iterate 5 (first | refine rQ1 ?_ | refine rQ2 ?_); try simp only [pP])
    refine regC 26 rfl (by kernel_rfl) (by rfl) (fun Kq hKq => ?_)
    go_simp
    (with_reducible refine (between _ HC.out).mono ?_)
    rintro e w5 ⟨rfl, rfl⟩
    try go_wp2_with fail
    refine hKq.out _ _ (hHeld) (fun hHeld => ?_)
    clear hKq Kq
    (try simp only [pP])
    (iterate 2 (first | refine rQ1 ?_ | refine rQ2 ?_); try simp only [pP])
    refine wpAnyH_done (by kernel_rfl) ?_ _
    clear hHeld
    go_wp2
    go_ret
    exact ⟨ret_bool E.out.symm, hS.bel⟩
  rw [hc, Bool.true_and] at E0
  have HC := Lib.hid hc
  have E1 := Lib.hid E0
  have hS := (((St.start w).made (.cells #[.slice A t.length c0, .slice (some adf) l.length d0] 36 (0, 0))).madeAt (.cells #[.int .i64 (fk : Int), .int .i64 (pk : Int), .int .i64 kind, .int .i64 count] 217 (0, 0)) (w.heap.size + 1) (by simp)).drew
  clear hc E0
  go_enter Tryz.func146, Tryz.ntmps146
  go_wp2
  refine wp_region_held_drew (S := (fun (w' : World) => w'.cell? ⟨w.heap.size + 1, 0, none⟩ = some (.int .i64 (fk : Int)) ∧ w'.cell? ⟨w.heap.size + 1, 1, none⟩ = some (.int .i64 (pk : Int)) ∧ w'.cell? ⟨w.heap.size + 1, 3, none⟩ = some (.int .i64 count) ∧ w'.cell? ⟨w.heap.size, 1, none⟩ = some (.slice (some adf) l.length d0) ∧ w'.cell? ⟨(adf.add (fk * 3)).block, (adf.add (fk * 3)).off + 2, none⟩ = some (.slice (some ad9) y.code.length c9))) (by kernel_rfl) (⟨hS.cell 0 rfl 0, hS.cell 0 rfl 1, hS.cell 0 rfl 3, hS.cell 1 rfl 1, kept hS.bel v2'⟩) (fun hHeld => ?_)
  (iterate 6 (first | refine rQ1 ?_ | refine rQ2 ?_); try simp only [pP])
  refine regC 6 rfl (by kernel_rfl) (by rfl) (fun Kq hKq => ?_)
  go_simp
  (with_reducible refine (between _ HF.out).mono ?_)
  rintro e w3 ⟨rfl, rfl⟩
  try go_wp2_with fail
  refine hKq.out _ _ (hHeld) (fun hHeld => ?_)
  clear hKq Kq
  (try simp only [pP])
  (iterate 13 (first | refine rQ1 ?_ | refine rQ2 ?_); try simp only [pP])
  refine regC 20 rfl (by kernel_rfl) (by rfl) (fun Kq hKq => ?_)
  go_simp
  (with_reducible refine (between _ HP.out).mono ?_)
  rintro e w4 ⟨rfl, rfl⟩
  try go_wp2_with fail
  refine hKq.out _ _ (hHeld) (fun hHeld => ?_)
  clear hKq Kq
  (try simp only [pP])
  (iterate 5 (first | refine rQ1 ?_ | refine rQ2 ?_); try simp only [pP])
  refine regC 26 rfl (by kernel_rfl) (by rfl) (fun Kq hKq => ?_)
  go_simp
  (with_reducible refine (between _ HC.out).mono ?_)
  rintro e w5 ⟨rfl, rfl⟩
  try go_wp2_with fail
  refine hKq.out _ _ (hHeld) (fun hHeld => ?_)
  clear hKq Kq
  (try simp only [pP])
  (iterate 2 (first | refine rQ1 ?_ | refine rQ2 ?_); try simp only [pP])
  refine wpAnyH_done (by kernel_rfl) ?_ _
  clear hHeld
  go_wp2
  replace hS := hS.drew
  refine wp_region_held_drew (S := (fun (w' : World) => w'.cell? ⟨w.heap.size + 1, 0, none⟩ = some (.int .i64 (fk : Int)) ∧ w'.cell? ⟨w.heap.size + 1, 1, none⟩ = some (.int .i64 (pk : Int)) ∧ w'.cell? ⟨w.heap.size, 1, none⟩ = some (.slice (some adf) l.length d0) ∧ w'.cell? ⟨(adf.add (fk * 3)).block, (adf.add (fk * 3)).off + 2, none⟩ = some (.slice (some ad9) y.code.length c9) ∧ w'.cell? (ad9.add (pk * 2)) = some (.int .i64 x.op))) (by kernel_rfl) (⟨hS.cell 0 rfl 0, hS.cell 0 rfl 1, hS.cell 1 rfl 1, kept hS.bel v2', kept hS.bel r0'⟩) (fun hHeld => ?_)
  (iterate 13 (first | refine rQ1 ?_ | refine rQ2 ?_); try simp only [pP])
  refine wpAnyH_done (by kernel_rfl) ?_ _
  clear hHeld
  have x_f := hS.cell 0 rfl
  by_cases k1 : kind = 1
  · subst k1
    have E2 := Lib.hid (E1.out.trans (show _ = (is07 x.op && !(decide (x.op = 23))) by unfold failX; rw [isAr_07]; simp))
    cases h7 : is07 x.op
    · have H7 := Lib.hid h7
      have E := Lib.hid (E2.out.trans (by rw [h7, Bool.false_and]))
      clear h7
      go_wp2_with (go_at_call 235; refine (l07Is _ _ H7.out).mono ?_; rintro e w' ⟨rfl, rfl⟩)
      go_ret
      exact ⟨ret_bool E.out.symm, hS.bel⟩
    · have H7 := Lib.hid h7
      have E := Lib.hid (E2.out.trans (show _ = (x.op != 23) by rw [h7, Bool.true_and]; rw [Bool.eq_iff_iff]; simp))
      clear h7
      go_wp2_with (go_at_call 235; refine (l07Is _ _ H7.out).mono ?_; rintro e w' ⟨rfl, rfl⟩)
      go_ret
      exact ⟨ret_bool E.out.symm, hS.bel⟩
  have b1 : (kind == 1) = false := by simp [k1]
  by_cases k2 : kind = 2
  · subst k2
    have E := Lib.hid (E1.out.trans (show _ = (x.op == 23) by unfold failX; rw [Bool.eq_iff_iff]; simp))
    clear k1
    go_wp2
    go_ret
    exact ⟨ret_bool E.out.symm, hS.bel⟩
  have b2 : (kind == 2) = false := by simp [k2]
  have E := Lib.hid (E1.out.trans (show _ = false by unfold failX; simp [k1, k2]))
  clear k1 k2
  go_wp2
  go_ret
  exact ⟨ret_bool E.out.symm, hS.bel⟩
end Go.Proofs.YthinhlcfpaaldaaGreat.Dat

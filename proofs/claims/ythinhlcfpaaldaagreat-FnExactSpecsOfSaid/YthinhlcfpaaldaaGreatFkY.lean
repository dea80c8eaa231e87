/- The program's look at an exit. -/
import Derived.Test.YthinhlcfpaaldaaGreatM4
import Derived.Test.YthinhlcfpaaldaaGreatVmF
namespace Go.Proofs.YthinhlcfpaaldaaGreat.Dat
open Go Go.RowKit Go.Proofs.YthinhlcfpaaldaaGreat.Mem
set_option linter.unusedVariables false
set_option linter.unusedSimpArgs false
theorem any_many {rs : List DExRec} (h : rs.any (fun r => decide (6 < r.fields.length)) = true) : rs.all (fun r => decide (r.fields.length ≤ 6)) = false := by
  rw [List.any_eq_true] at h
  obtain ⟨r, hr, h6⟩ := h
  rw [List.all_eq_false]
  exact ⟨r, hr, by simp at h6 ⊢; omega⟩
theorem none_many {rs : List DExRec} (h : rs.any (fun r => decide (6 < r.fields.length)) = false) : rs.all (fun r => decide (r.fields.length ≤ 6)) = true := by
  rw [List.any_eq_false] at h
  rw [List.all_eq_true]
  intro r hr
  have := h r hr
  simp at this ⊢
  omega
theorem rec_le {fs : List DExFrame} {rs : List DExRec} {q : DExRec} {a : Int} {b : DSpec} (hq : q ∈ rs) (hn : (srcsL ⟨a, b, fs, rs⟩).length ≤ 1048576) : q.fields.length ≤ 1048576 := by
  obtain ⟨j, hj⟩ := List.mem_iff_getElem?.1 hq
  have h1 := srcR_le rs (j + 1)
  rw [srcR_snoc hj, List.length_append] at h1
  unfold srcsL at hn
  dsimp only at hn
  rw [List.length_append] at hn
  omega
set_option maxHeartbeats 8000000 in
set_option maxRecDepth 100000 in
theorem exitI (A B A4 A5 AF AR D : Option Addr) (c0 d0 c4 c5 cf cr e0 : Nat) (t : List ByteArray) (l : List DFunc) (c : DFast) (x : DExit) (w : World) (h : HasMod A B t l w) (hfit : ModFit t l) (hD : kHgh.Row w D l.length (highsL l)) (r5 : kExFrame.Row w AF x.frames.length x.frames) (r6 : kExRec.Row w AR x.recs.length x.recs) (hv : ∀ s ∈ srcsL x, s.v.s.size ≤ maxLen) (hn : (srcsL x).length ≤ 1048576) (m6 : x.recs.length ≤ 1048576) (h1 : 0 ≤ c.vals) (h2 : c.vals ≤ 400) (h3 : 0 ≤ c.nums) (h4 : c.nums ≤ 400) :
    Calls Tryz.prog 221 #[.agg #[.int .i64 c.fn, .int .i64 c.entry, .int .i64 c.vals, .int .i64 c.nums, .slice A4 c.ops.length c4, .slice A5 c.exits.length c5], .agg #[.slice A t.length c0, .slice B l.length d0], .slice D l.length e0, .agg #[.int .i64 x.kind, .int .i64 x.spec.fn, .int .i64 x.spec.pc, .int .i64 x.spec.kind, .int .i64 x.spec.target, .slice AF x.frames.length cf, .slice AR x.recs.length cr]] w fun e w' => e = .returned (.bool (exitB l c x)) ∧ Below w.heap.size w w' := by
  cases hk : btw x.kind 1 4
  · have E := Lib.hid (show exitB l c x = false by unfold exitB exHeadB; rw [hk, Bool.false_and, Bool.false_and])
    have HK := Lib.hid hk
    clear hk
    have hS2 := ((((St.start w).made (.cells #[.int .i64 c.fn, .int .i64 c.entry, .int .i64 c.vals, .int .i64 c.nums, .slice A4 c.ops.length c4, .slice A5 c.exits.length c5] 41 (0, 0))).madeAt (.cells #[.slice A t.length c0, .slice B l.length d0] 36 (0, 0)) (w.heap.size + 1) (by simp)).madeAt (.cells #[.int .i64 x.kind, .int .i64 x.spec.fn, .int .i64 x.spec.pc, .int .i64 x.spec.kind, .int .i64 x.spec.target, .slice AF x.frames.length cf, .slice AR x.recs.length cr] 168 (0, 0)) (w.heap.size + 1 + 1) (by simp)).drew
    go_enter Tryz.func221, Tryz.ntmps221
    go_wp2
    refine wp_region_held_drew (S := (fun w' => w'.cell? ⟨w.heap.size + 1 + 1, 0, none⟩ = some (.int .i64 x.kind) ∧ w'.cell? ⟨w.heap.size + 1 + 1, 5, none⟩ = some (.slice AF x.frames.length cf) ∧ w'.cell? ⟨w.heap.size + 1 + 1, 6, none⟩ = some (.slice AR x.recs.length cr) ∧ w'.cell? ⟨w.heap.size, 0, none⟩ = some (.int .i64 c.fn))) (by kernel_rfl) (⟨hS2.cell 0 rfl 0, hS2.cell 0 rfl 5, hS2.cell 0 rfl 6, hS2.cell 2 rfl 0⟩) (fun hHeld => ?_)
    (iterate 2 (first | refine rQ1 ?_ | refine rQ2 ?_); try simp only [pP])
    refine regC 2 rfl (by kernel_rfl) (by rfl) (fun Kq hKq => ?_)
    go_simp
    (with_reducible refine (inRange _ HK.out).mono ?_)
    rintro e w3 ⟨rfl, rfl⟩
    try go_wp2_with fail
    refine hKq.out _ _ (hHeld) (fun hHeld => ?_)
    clear hKq Kq
    (try simp only [pP])
    (iterate 2 (first | refine rQ1 ?_ | refine rQ2 ?_); try simp only [pP])
    refine regS (fun _ _ _ d h => by cases d <;> exact h) [5, 6, 7, 8, 9] _ _ _ rfl (by kernel_rfl) (by assumption) ?_
    simp only [skipL, List.getElem?_cons_zero, List.getElem?_cons_succ, Option.bind_some, pP]
    (iterate 2 (first | refine rQ1 ?_ | refine rQ2 ?_); try simp only [pP])
    refine regS (fun _ _ _ d h => by cases d <;> exact h) [12, 13, 14, 15, 16, 17, 18, 19] _ _ _ rfl (by kernel_rfl) (by assumption) ?_
    simp only [skipL, List.getElem?_cons_zero, List.getElem?_cons_succ, Option.bind_some, pP]
    (iterate 2 (first | refine rQ1 ?_ | refine rQ2 ?_); try simp only [pP])
    refine regS (fun _ _ _ d h => by cases d <;> exact h) [22, 23, 24, 25] _ _ _ rfl (by kernel_rfl) (by assumption) ?_
    simp only [skipL, List.getElem?_cons_zero, List.getElem?_cons_succ, Option.bind_some, pP]
    (first | refine rQ1 ?_ | refine rQ2 ?_); (try simp only [pP])
    refine wpAnyH_done (by kernel_rfl) ?_ _
    clear hHeld
    go_wp2
    go_ret
    exact ⟨ret_bool E.out.symm, hS2.bel⟩
  have HK := Lib.hid hk
  cases hn2 : btw (x.frames.length : Int) 1 4
  · have E := Lib.hid (show exitB l c x = false by unfold exitB exHeadB; rw [hn2, Bool.false_and, Bool.and_false, Bool.false_and])
    have HN := Lib.hid hn2
    clear hn2 hk
    have hS2 := ((((St.start w).made (.cells #[.int .i64 c.fn, .int .i64 c.entry, .int .i64 c.vals, .int .i64 c.nums, .slice A4 c.ops.length c4, .slice A5 c.exits.length c5] 41 (0, 0))).madeAt (.cells #[.slice A t.length c0, .slice B l.length d0] 36 (0, 0)) (w.heap.size + 1) (by simp)).madeAt (.cells #[.int .i64 x.kind, .int .i64 x.spec.fn, .int .i64 x.spec.pc, .int .i64 x.spec.kind, .int .i64 x.spec.target, .slice AF x.frames.length cf, .slice AR x.recs.length cr] 168 (0, 0)) (w.heap.size + 1 + 1) (by simp)).drew
    go_enter Tryz.func221, Tryz.ntmps221
    go_wp2
    refine wp_region_held_drew (S := (fun w' => w'.cell? ⟨w.heap.size + 1 + 1, 0, none⟩ = some (.int .i64 x.kind) ∧ w'.cell? ⟨w.heap.size + 1 + 1, 5, none⟩ = some (.slice AF x.frames.length cf) ∧ w'.cell? ⟨w.heap.size + 1 + 1, 6, none⟩ = some (.slice AR x.recs.length cr) ∧ w'.cell? ⟨w.heap.size, 0, none⟩ = some (.int .i64 c.fn))) (by kernel_rfl) (⟨hS2.cell 0 rfl 0, hS2.cell 0 rfl 5, hS2.cell 0 rfl 6, hS2.cell 2 rfl 0⟩) (fun hHeld => ?_)
    (iterate 2 (first | refine rQ1 ?_ | refine rQ2 ?_); try simp only [pP])
    refine regC 2 rfl (by kernel_rfl) (by rfl) (fun Kq hKq => ?_)
    go_simp
    (with_reducible refine (inRange _ HK.out).mono ?_)
    rintro e w3 ⟨rfl, rfl⟩
    try go_wp2_with fail
    refine hKq.out _ _ (hHeld) (fun hHeld => ?_)
    clear hKq Kq
    (try simp only [pP])
    (iterate 5 (first | refine rQ1 ?_ | refine rQ2 ?_); try simp only [pP])
    refine regC 8 rfl (by kernel_rfl) (by rfl) (fun Kq hKq => ?_)
    go_simp
    (with_reducible refine (inRange _ HN.out).mono ?_)
    rintro e w3 ⟨rfl, rfl⟩
    try go_wp2_with fail
    refine hKq.out _ _ (hHeld) (fun hHeld => ?_)
    clear hKq Kq
    (try simp only [pP])
    (iterate 3 (first | refine rQ1 ?_ | refine rQ2 ?_); try simp only [pP])
    refine regS (fun _ _ _ d h => by cases d <;> exact h) [12, 13, 14, 15, 16, 17, 18, 19] _ _ _ rfl (by kernel_rfl) (by assumption) ?_
    simp only [skipL, List.getElem?_cons_zero, List.getElem?_cons_succ, Option.bind_some, pP]
    (iterate 2 (first | refine rQ1 ?_ | refine rQ2 ?_); try simp only [pP])
    refine regS (fun _ _ _ d h => by cases d <;> exact h) [22, 23, 24, 25] _ _ _ rfl (by kernel_rfl) (by assumption) ?_
    simp only [skipL, List.getElem?_cons_zero, List.getElem?_cons_succ, Option.bind_some, pP]
    (first | refine rQ1 ?_ | refine rQ2 ?_); (try simp only [pP])
    refine wpAnyH_done (by kernel_rfl) ?_ _
    clear hHeld
    go_wp2
    go_ret
    exact ⟨ret_bool E.out.symm, hS2.bel⟩
  have HN := Lib.hid hn2
  have hn3 := btw_true.1 hn2
  obtain ⟨y, hy⟩ := get_exU x.frames 0 (by omega)
  obtain ⟨ad, A2, A3, c2, c3, rfl, q0, q1, q2, q3, _, r2, _, r3⟩ := kExFrame_at r5 0 y hy
  rw [Nat.zero_mul, show ad.add 0 = ad from by cases ad; rfl] at q0
  have n0 : 0 < x.frames.length := by omega
  clear q1 q2 q3
  by_cases hc : y.fn = c.fn
  rotate_left
  · have E := Lib.hid (show exitB l c x = false by unfold exitB exHeadB; rw [hy]; simp [hc])
    have hc2 : (y.fn != c.fn) = true := by simp [hc]
    clear hc hy hk hn2 hn3
    have hS2 := ((((St.start w).made (.cells #[.int .i64 c.fn, .int .i64 c.entry, .int .i64 c.vals, .int .i64 c.nums, .slice A4 c.ops.length c4, .slice A5 c.exits.length c5] 41 (0, 0))).madeAt (.cells #[.slice A t.length c0, .slice B l.length d0] 36 (0, 0)) (w.heap.size + 1) (by simp)).madeAt (.cells #[.int .i64 x.kind, .int .i64 x.spec.fn, .int .i64 x.spec.pc, .int .i64 x.spec.kind, .int .i64 x.spec.target, .slice (some ad) x.frames.length cf, .slice AR x.recs.length cr] 168 (0, 0)) (w.heap.size + 1 + 1) (by simp)).drew
    have p0 := kept hS2.bel q0
    go_enter Tryz.func221, Tryz.ntmps221
    go_wp2
    refine wp_region_held_drew (S := (fun w' => w'.cell? ⟨w.heap.size + 1 + 1, 0, none⟩ = some (.int .i64 x.kind) ∧ w'.cell? ⟨w.heap.size + 1 + 1, 5, none⟩ = some (.slice (some ad) x.frames.length cf) ∧ w'.cell? ⟨w.heap.size + 1 + 1, 6, none⟩ = some (.slice AR x.recs.length cr) ∧ w'.cell? ⟨w.heap.size, 0, none⟩ = some (.int .i64 c.fn) ∧ w'.cell? ad = some (.int .i64 y.fn))) (by kernel_rfl) (⟨hS2.cell 0 rfl 0, hS2.cell 0 rfl 5, hS2.cell 0 rfl 6, hS2.cell 2 rfl 0, p0⟩) (fun hHeld => ?_)
    (iterate 2 (first | refine rQ1 ?_ | refine rQ2 ?_); try simp only [pP])
    refine regC 2 rfl (by kernel_rfl) (by rfl) (fun Kq hKq => ?_)
    go_simp
    (with_reducible refine (inRange _ HK.out).mono ?_)
    rintro e w3 ⟨rfl, rfl⟩
    try go_wp2_with fail
    refine hKq.out _ _ (hHeld) (fun hHeld => ?_)
    clear hKq Kq
    (try simp only [pP])
    (iterate 5 (first | refine rQ1 ?_ | refine rQ2 ?_); try simp only [pP])
    refine regC 8 rfl (by kernel_rfl) (by rfl) (fun Kq hKq => ?_)
    go_simp
    (with_reducible refine (inRange _ HN.out).mono ?_)
    rintro e w3 ⟨rfl, rfl⟩
    try go_wp2_with fail
    refine hKq.out _ _ (hHeld) (fun hHeld => ?_)
    clear hKq Kq
    (try simp only [pP])
    (iterate 13 (first | refine rQ1 ?_ | refine rQ2 ?_); try simp only [pP])
    refine regS (fun _ _ _ d h => by cases d <;> exact h) [22, 23, 24, 25] _ _ _ rfl (by kernel_rfl) (by assumption) ?_
    simp only [skipL, List.getElem?_cons_zero, List.getElem?_cons_succ, Option.bind_some, pP]
    (first | refine rQ1 ?_ | refine rQ2 ?_); (try simp only [pP])
    refine wpAnyH_done (by kernel_rfl) ?_ _
    clear hHeld
    go_wp2
    go_ret
    exact ⟨ret_bool E.out.symm, hS2.bel⟩
  have hc2 : (y.fn != c.fn) = false := by simp [hc]
  by_cases h60 : x.recs.length ≤ 60
  rotate_left
  · have E := Lib.hid (show exitB l c x = false by unfold exitB exHeadB; simp [h60])
    have h61 : 60 < x.recs.length := by omega
    clear hc hy hk hn2 hn3 h60
    have hS2 := ((((St.start w).made (.cells #[.int .i64 c.fn, .int .i64 c.entry, .int .i64 c.vals, .int .i64 c.nums, .slice A4 c.ops.length c4, .slice A5 c.exits.length c5] 41 (0, 0))).madeAt (.cells #[.slice A t.length c0, .slice B l.length d0] 36 (0, 0)) (w.heap.size + 1) (by simp)).madeAt (.cells #[.int .i64 x.kind, .int .i64 x.spec.fn, .int .i64 x.spec.pc, .int .i64 x.spec.kind, .int .i64 x.spec.target, .slice (some ad) x.frames.length cf, .slice AR x.recs.length cr] 168 (0, 0)) (w.heap.size + 1 + 1) (by simp)).drew
    have p0 := kept hS2.bel q0
    go_enter Tryz.func221, Tryz.ntmps221
    go_wp2
    refine wp_region_held_drew (S := (fun w' => w'.cell? ⟨w.heap.size + 1 + 1, 0, none⟩ = some (.int .i64 x.kind) ∧ w'.cell? ⟨w.heap.size + 1 + 1, 5, none⟩ = some (.slice (some ad) x.frames.length cf) ∧ w'.cell? ⟨w.heap.size + 1 + 1, 6, none⟩ = some (.slice AR x.recs.length cr) ∧ w'.cell? ⟨w.heap.size, 0, none⟩ = some (.int .i64 c.fn) ∧ w'.cell? ad = some (.int .i64 y.fn))) (by kernel_rfl) (⟨hS2.cell 0 rfl 0, hS2.cell 0 rfl 5, hS2.cell 0 rfl 6, hS2.cell 2 rfl 0, p0⟩) (fun hHeld => ?_)
    (iterate 2 (first | refine rQ1 ?_ | refine rQ2 ?_); try simp only [pP])
    refine regC 2 rfl (by kernel_rfl) (by rfl) (fun Kq hKq => ?_)
    go_simp
    (with_reducible refine (inRange _ HK.out).mono ?_)
    rintro e w3 ⟨rfl, rfl⟩
    try go_wp2_with fail
    refine hKq.out _ _ (hHeld) (fun hHeld => ?_)
    clear hKq Kq
    (try simp only [pP])
    (iterate 5 (first | refine rQ1 ?_ | refine rQ2 ?_); try simp only [pP])
    refine regC 8 rfl (by kernel_rfl) (by rfl) (fun Kq hKq => ?_)
    go_simp
    (with_reducible refine (inRange _ HN.out).mono ?_)
    rintro e w3 ⟨rfl, rfl⟩
    try go_wp2_with fail
    refine hKq.out _ _ (hHeld) (fun hHeld => ?_)
    clear hKq Kq
    (try simp only [pP])
    (iterate 18 (first | refine rQ1 ?_ | refine rQ2 ?_); try simp only [pP])
    refine wpAnyH_done (by kernel_rfl) ?_ _
    clear hHeld
    go_wp2
    go_ret
    exact ⟨ret_bool E.out.symm, hS2.bel⟩
  have HD0 := Lib.hid (show exHeadB c x = true by unfold exHeadB; rw [hk, hn2, hy]; simp [hc, h60])
  obtain ⟨kind, ⟨sfn, spc, skind, starg⟩, frames, recs⟩ := x
  dsimp only at *
  clear hk hn2 hc hy
  by_cases k2 : kind = 2
  · subst k2
    cases hsp : specB l ⟨sfn, spc, skind, starg⟩
    · have E := Lib.hid (show exitB l c ⟨2, ⟨sfn, spc, skind, starg⟩, frames, recs⟩ = false by unfold exitB; rw [show exSpecB l ⟨2, ⟨sfn, spc, skind, starg⟩, frames, recs⟩ = specB l ⟨sfn, spc, skind, starg⟩ from rfl, hsp]; simp)
      have HSP := Lib.hid hsp
      clear hsp
      have hS2 := ((((St.start w).made (.cells #[.int .i64 c.fn, .int .i64 c.entry, .int .i64 c.vals, .int .i64 c.nums, .slice A4 c.ops.length c4, .slice A5 c.exits.length c5] 41 (0, 0))).madeAt (.cells #[.slice A t.length c0, .slice B l.length d0] 36 (0, 0)) (w.heap.size + 1) (by simp)).madeAt (.cells #[.int .i64 2, .int .i64 sfn, .int .i64 spc, .int .i64 skind, .int .i64 starg, .slice (some ad) frames.length cf, .slice AR recs.length cr] 168 (0, 0)) (w.heap.size + 1 + 1) (by simp)).drew
      have p0 := kept hS2.bel q0
      go_enter Tryz.func221, Tryz.ntmps221
      go_wp2
      refine wp_region_held_drew (S := (fun w' => w'.cell? ⟨w.heap.size + 1 + 1, 0, none⟩ = some (.int .i64 2) ∧ w'.cell? ⟨w.heap.size + 1 + 1, 5, none⟩ = some (.slice (some ad) frames.length cf) ∧ w'.cell? ⟨w.heap.size + 1 + 1, 6, none⟩ = some (.slice AR recs.length cr) ∧ w'.cell? ⟨w.heap.size, 0, none⟩ = some (.int .i64 c.fn) ∧ w'.cell? ad = some (.int .i64 y.fn))) (by kernel_rfl) (⟨hS2.cell 0 rfl 0, hS2.cell 0 rfl 5, hS2.cell 0 rfl 6, hS2.cell 2 rfl 0, p0⟩) (fun hHeld => ?_)
      (iterate 2 (first | refine rQ1 ?_ | refine rQ2 ?_); try simp only [pP])
      refine regC 2 rfl (by kernel_rfl) (by rfl) (fun Kq hKq => ?_)
      go_simp
      (with_reducible refine (inRange _ HK.out).mono ?_)
      rintro e w3 ⟨rfl, rfl⟩
      try go_wp2_with fail
      refine hKq.out _ _ (hHeld) (fun hHeld => ?_)
      clear hKq Kq
      (try simp only [pP])
      (iterate 5 (first | refine rQ1 ?_ | refine rQ2 ?_); try simp only [pP])
      refine regC 8 rfl (by kernel_rfl) (by rfl) (fun Kq hKq => ?_)
      go_simp
      (with_reducible refine (inRange _ HN.out).mono ?_)
      rintro e w3 ⟨rfl, rfl⟩
      try go_wp2_with fail
      refine hKq.out _ _ (hHeld) (fun hHeld => ?_)
      clear hKq Kq
      (try simp only [pP])
      (iterate 18 (first | refine rQ1 ?_ | refine rQ2 ?_); try simp only [pP])
      refine wpAnyH_done (by kernel_rfl) ?_ _
      clear hHeld
      go_wp2_with (go_at_call 295; refine (specI A B c0 d0 t l ⟨sfn, spc, skind, starg⟩ _ (h.below hS2.bel) HSP.out).mono ?_; rintro e w5 ⟨rfl, hb5⟩; have hS3 := hS2.step hb5; have x3 := hS3.cell 0 rfl; clear hb5)
      go_ret
      exact ⟨ret_bool E.out.symm, hS3.bel⟩
    · have HG0 := Lib.hid (show exSpecB l ⟨2, ⟨sfn, spc, skind, starg⟩, frames, recs⟩ = true from hsp)
      have HSP := Lib.hid hsp
      clear hsp
      have hS2 := ((((St.start w).made (.cells #[.int .i64 c.fn, .int .i64 c.entry, .int .i64 c.vals, .int .i64 c.nums, .slice A4 c.ops.length c4, .slice A5 c.exits.length c5] 41 (0, 0))).madeAt (.cells #[.slice A t.length c0, .slice B l.length d0] 36 (0, 0)) (w.heap.size + 1) (by simp)).madeAt (.cells #[.int .i64 2, .int .i64 sfn, .int .i64 spc, .int .i64 skind, .int .i64 starg, .slice (some ad) frames.length cf, .slice AR recs.length cr] 168 (0, 0)) (w.heap.size + 1 + 1) (by simp)).drew
      have p0 := kept hS2.bel q0
      go_enter Tryz.func221, Tryz.ntmps221
      go_wp2
      refine wp_region_held_drew (S := (fun w' => w'.cell? ⟨w.heap.size + 1 + 1, 0, none⟩ = some (.int .i64 2) ∧ w'.cell? ⟨w.heap.size + 1 + 1, 5, none⟩ = some (.slice (some ad) frames.length cf) ∧ w'.cell? ⟨w.heap.size + 1 + 1, 6, none⟩ = some (.slice AR recs.length cr) ∧ w'.cell? ⟨w.heap.size, 0, none⟩ = some (.int .i64 c.fn) ∧ w'.cell? ad = some (.int .i64 y.fn))) (by kernel_rfl) (⟨hS2.cell 0 rfl 0, hS2.cell 0 rfl 5, hS2.cell 0 rfl 6, hS2.cell 2 rfl 0, p0⟩) (fun hHeld => ?_)
      (iterate 2 (first | refine rQ1 ?_ | refine rQ2 ?_); try simp only [pP])
      refine regC 2 rfl (by kernel_rfl) (by rfl) (fun Kq hKq => ?_)
      go_simp
      (with_reducible refine (inRange _ HK.out).mono ?_)
      rintro e w3 ⟨rfl, rfl⟩
      try go_wp2_with fail
      refine hKq.out _ _ (hHeld) (fun hHeld => ?_)
      clear hKq Kq
      (try simp only [pP])
      (iterate 5 (first | refine rQ1 ?_ | refine rQ2 ?_); try simp only [pP])
      refine regC 8 rfl (by kernel_rfl) (by rfl) (fun Kq hKq => ?_)
      go_simp
      (with_reducible refine (inRange _ HN.out).mono ?_)
      rintro e w3 ⟨rfl, rfl⟩
      try go_wp2_with fail
      refine hKq.out _ _ (hHeld) (fun hHeld => ?_)
      clear hKq Kq
      (try simp only [pP])
      (iterate 18 (first | refine rQ1 ?_ | refine rQ2 ?_); try simp only [pP])
      refine wpAnyH_done (by kernel_rfl) ?_ _
      clear hHeld
      go_wp2_with (go_at_call 295; refine (specI A B c0 d0 t l ⟨sfn, spc, skind, starg⟩ _ (h.below hS2.bel) HSP.out).mono ?_; rintro e w5 ⟨rfl, hb5⟩; have hS3 := hS2.step hb5; have x3 := hS3.cell 0 rfl; clear hb5)
      clear p0 x3
      go_loopw [62] (fun i wr => ∃ k : Nat, k ≤ frames.length ∧ i = .int .i64 k ∧ Hid (exFrB l frames k = true) ∧ St w [Res.box (w.heap.size + 1 + 1) (.cells #[.int .i64 2, .int .i64 sfn, .int .i64 spc, .int .i64 skind, .int .i64 starg, .slice (some ad) frames.length cf, .slice AR recs.length cr] 168 (0, 0)), Res.box (w.heap.size + 1) (.cells #[.slice A t.length c0, .slice B l.length d0] 36 (0, 0)), Res.box w.heap.size (.cells #[.int .i64 c.fn, .int .i64 c.entry, .int .i64 c.vals, .int .i64 c.nums, .slice A4 c.ops.length c4, .slice A5 c.exits.length c5] 41 (0, 0))] wr) (fun i _ => frames.length - (intOf i).toNat)
      case atStart => exact ⟨0, by omega, rfl, Lib.hid rfl, hS3⟩
      case round =>
        obtain ⟨k, hk, rfl, hb, hS⟩ := hrel
        by_cases hlt : k < frames.length
        · obtain ⟨z, hz⟩ := get_exU frames k hlt
          obtain ⟨ad9, A2, A3, c2, c3, had, q0, q1, q2, q3, _, _, _, _⟩ := kExFrame_at r5 k z hz
          obtain rfl := Option.some.inj had
          have p0 := kept hS.bel q0
          have p1 := kept hS.bel q1
          have p2 := kept hS.bel q2
          have p3 := kept hS.bel q3
          obtain ⟨g8, hg8⟩ : ∃ g8, wr.heap.size = g8 := ⟨_, rfl⟩
          have hT := hS.madeAt (.cells #[.int .i64 z.fn, .int .i64 z.pc, .slice A2 z.locals.length c2, .slice A3 z.stack.length c3] 171 (0, 0)) g8 hg8
          have hF := h.below hT.bel
          have ew : IntKind.i64.wrap ((frames.length : Int) - 1) = (frames.length : Int) - 1 := IntWalk.i64_in _ (by omega)
          have xe := hT.cell 1 rfl
          have xm := hT.cell 2 rfl
          clear q0 q1 q2 q3
          cases hf : frmB l z.fn z.pc z.locals.length z.stack.length (decide (k + 1 = frames.length))
          · have E := Lib.hid (show exitB l c ⟨2, ⟨sfn, spc, skind, starg⟩, frames, recs⟩ = false by unfold exitB; rw [exFrB_no hz hf]; simp)
            have HB : Hid (∀ e, decide (k + 1 = frames.length) = e → frmB l z.fn z.pc z.locals.length z.stack.length e = false) := Lib.hid (fun e he => by rw [← he]; exact hf)
            clear hf hz
            go_wp2_with fail
            refine (frameI A B D c0 d0 e0 t l z.fn z.pc z.locals.length z.stack.length _ _ hF hfit (hD.below hT.bel)).mono ?_
            rintro e w5 ⟨rfl, hb2⟩
            rw [HB.out _ (show decide (k + 1 = frames.length) = ((k : Int) == (frames.length : Int) - 1) by rw [Bool.eq_iff_iff]; simp; omega)]
            have hT2 := hT.step hb2
            go_wp2
            go_ret
            exact ⟨ret_bool E.out.symm, hT2.bel⟩
          · have HN2 := Lib.hid (show exFrB l frames (k + 1) = true by rw [exFrB_succ hz, hb.out, hf]; rfl)
            have HB : Hid (∀ e, decide (k + 1 = frames.length) = e → frmB l z.fn z.pc z.locals.length z.stack.length e = true) := Lib.hid (fun e he => by rw [← he]; exact hf)
            clear hf hz
            go_wp2_with fail
            refine (frameI A B D c0 d0 e0 t l z.fn z.pc z.locals.length z.stack.length _ _ hF hfit (hD.below hT.bel)).mono ?_
            rintro e w5 ⟨rfl, hb2⟩
            rw [HB.out _ (show decide (k + 1 = frames.length) = ((k : Int) == (frames.length : Int) - 1) by rw [Bool.eq_iff_iff]; simp; omega)]
            have hT2 := hT.step hb2
            go_wp2
            go_roundw
            case rel => exact ⟨k + 1, by omega, by go_num, HN2, hT2.drop⟩
            case measure => simp [intOf]; omega
        · obtain rfl : k = frames.length := by omega
          have xe := hS.cell 0 rfl
          cases hr : recs.any (fun r => decide (6 < r.fields.length))
          · have E := Lib.hid (show exitB l c ⟨2, ⟨sfn, spc, skind, starg⟩, frames, recs⟩ = !((srcsL ⟨2, ⟨sfn, spc, skind, starg⟩, frames, recs⟩).any (fun s => !(srcB l.length c.vals c.nums recs.length s))) by unfold exitB; rw [HD0.out, HG0.out, hb.out, none_many hr, ← List.all_eq_not_any_not]; rfl)
            have HR := Lib.hid hr
            clear hr
            go_wp2_with fail
            refine (hasRx AR cr recs (fun r => decide (6 < r.fields.length)) _ (r6.below hS.bel) m6 (fun q hq W hb cs hK => by
              obtain ⟨A7, c7, rfl, _, _⟩ := kExRec_K.1 hK
              exact recXCl A7 c7 q.fields.length W (rec_le hq hn))).mono ?_
            rintro e w5 ⟨rfl, hb5⟩
            rw [HR.out]
            have hS5 := hS.step hb5
            clear xe
            have xe := hS5.cell 0 rfl
            go_wp2_with fail
            refine (srcsI (some ad) AR cf cr ⟨2, ⟨sfn, spc, skind, starg⟩, frames, recs⟩ _ (r5.below hS5.bel) (r6.below hS5.bel) (by show frames.length ≤ 1048576; omega) m6 hn).mono ?_
            intro e w6 hNR
            obtain ⟨v0, F, rfl, hS6⟩ := hS5.newRow hNR
            obtain ⟨A9, c9, rfl, _, hr9⟩ := hS6.row 0 rfl
            go_wp2_with fail
            refine (hasSx A9 c9 (srcsL ⟨2, ⟨sfn, spc, skind, starg⟩, frames, recs⟩) _ _ _ (fun s => !(srcB l.length c.vals c.nums recs.length s)) _ hr9 hn (fun q hq W hb cs hK => by
              obtain rfl := kSrc_K.1 hK
              exact srcCl A B A4 A5 AR c0 d0 c4 c5 cr t l c recs.length w.heap.size (w.heap.size + 1) (w.heap.size + 1 + 1) q.kind q.n q.v.k q.v.n q.v.s W (kept hb (hS6.cell 3 rfl 0)) (kept hb (hS6.cell 3 rfl 1)) (kept hb (hS6.cell 3 rfl 2)) (kept hb (hS6.cell 3 rfl 3)) (kept hb (hS6.cell 3 rfl 4)) (kept hb (hS6.cell 3 rfl 5)) (kept hb (hS6.cell 2 rfl 0)) (kept hb (hS6.cell 2 rfl 1)) (kept hb (hS6.cell 1 rfl 6)) hfit.n12 h1 h2 h3 h4 (by omega) (hv q hq))).mono ?_
            rintro e w7 ⟨rfl, hb7⟩
            have hS7 := hS6.step hb7
            go_wp2
            go_ret
            exact ⟨ret_bool E.out.symm, hS7.bel⟩
          · have E := Lib.hid (show exitB l c ⟨2, ⟨sfn, spc, skind, starg⟩, frames, recs⟩ = false by unfold exitB; rw [any_many hr]; simp)
            have HR := Lib.hid hr
            clear hr
            go_wp2_with fail
            refine (hasRx AR cr recs (fun r => decide (6 < r.fields.length)) _ (r6.below hS.bel) m6 (fun q hq W hb cs hK => by
              obtain ⟨A7, c7, rfl, _, _⟩ := kExRec_K.1 hK
              exact recXCl A7 c7 q.fields.length W (rec_le hq hn))).mono ?_
            rintro e w5 ⟨rfl, hb5⟩
            rw [HR.out]
            have hS5 := hS.step hb5
            clear xe
            have xe := hS5.cell 0 rfl
            go_wp2
            go_ret
            exact ⟨ret_bool E.out.symm, hS5.bel⟩
  have k2b : (kind == 2) = false := by simp [k2]
  have k2c : (kind != 2) = true := by simp [k2]
  have HX2 : ∀ s : DSpec, exSpecB l ⟨kind, s, frames, recs⟩ = nilSpB s := fun s => by unfold exSpecB; exact if_neg k2
  by_cases z0 : sfn = 0
  rotate_left
  · have E := Lib.hid (show exitB l c ⟨kind, ⟨sfn, spc, skind, starg⟩, frames, recs⟩ = false by unfold exitB; rw [HX2]; simp [nilSpB, z0])
    have m0 : (sfn == 0) = false := by simp [z0]
    have m1 : (sfn != 0) = true := by simp [z0]
    clear z0 k2
    have hS2 := ((((St.start w).made (.cells #[.int .i64 c.fn, .int .i64 c.entry, .int .i64 c.vals, .int .i64 c.nums, .slice A4 c.ops.length c4, .slice A5 c.exits.length c5] 41 (0, 0))).madeAt (.cells #[.slice A t.length c0, .slice B l.length d0] 36 (0, 0)) (w.heap.size + 1) (by simp)).madeAt (.cells #[.int .i64 kind, .int .i64 sfn, .int .i64 spc, .int .i64 skind, .int .i64 starg, .slice (some ad) frames.length cf, .slice AR recs.length cr] 168 (0, 0)) (w.heap.size + 1 + 1) (by simp)).drew
    have p0 := kept hS2.bel q0
    go_enter Tryz.func221, Tryz.ntmps221
    go_wp2
    refine wp_region_held_drew (S := (fun w' => w'.cell? ⟨w.heap.size + 1 + 1, 0, none⟩ = some (.int .i64 kind) ∧ w'.cell? ⟨w.heap.size + 1 + 1, 5, none⟩ = some (.slice (some ad) frames.length cf) ∧ w'.cell? ⟨w.heap.size + 1 + 1, 6, none⟩ = some (.slice AR recs.length cr) ∧ w'.cell? ⟨w.heap.size, 0, none⟩ = some (.int .i64 c.fn) ∧ w'.cell? ad = some (.int .i64 y.fn))) (by kernel_rfl) (⟨hS2.cell 0 rfl 0, hS2.cell 0 rfl 5, hS2.cell 0 rfl 6, hS2.cell 2 rfl 0, p0⟩) (fun hHeld => ?_)
    (iterate 2 (first | refine rQ1 ?_ | refine rQ2 ?_); try simp only [pP])
    refine regC 2 rfl (by kernel_rfl) (by rfl) (fun Kq hKq => ?_)
    go_simp
    (with_reducible refine (inRange _ HK.out).mono ?_)
    rintro e w3 ⟨rfl, rfl⟩
    try go_wp2_with fail
    refine hKq.out _ _ (hHeld) (fun hHeld => ?_)
    clear hKq Kq
    (try simp only [pP])
    (iterate 5 (first | refine rQ1 ?_ | refine rQ2 ?_); try simp only [pP])
    refine regC 8 rfl (by kernel_rfl) (by rfl) (fun Kq hKq => ?_)
    go_simp
    (with_reducible refine (inRange _ HN.out).mono ?_)
    rintro e w3 ⟨rfl, rfl⟩
    try go_wp2_with fail
    refine hKq.out _ _ (hHeld) (fun hHeld => ?_)
    clear hKq Kq
    (try simp only [pP])
    (iterate 18 (first | refine rQ1 ?_ | refine rQ2 ?_); try simp only [pP])
    refine wpAnyH_done (by kernel_rfl) ?_ _
    clear hHeld
    go_wp2
    go_ret
    exact ⟨ret_bool E.out.symm, hS2.bel⟩
  subst z0
  by_cases z1 : spc = 0
  rotate_left
  · have E := Lib.hid (show exitB l c ⟨kind, ⟨0, spc, skind, starg⟩, frames, recs⟩ = false by unfold exitB; rw [HX2]; simp [nilSpB, z1])
    have m0 : (spc == 0) = false := by simp [z1]
    have m1 : (spc != 0) = true := by simp [z1]
    clear z1 k2
    have hS2 := ((((St.start w).made (.cells #[.int .i64 c.fn, .int .i64 c.entry, .int .i64 c.vals, .int .i64 c.nums, .slice A4 c.ops.length c4, .slice A5 c.exits.length c5] 41 (0, 0))).madeAt (.cells #[.slice A t.length c0, .slice B l.length d0] 36 (0, 0)) (w.heap.size + 1) (by simp)).madeAt (.cells #[.int .i64 kind, .int .i64 0, .int .i64 spc, .int .i64 skind, .int .i64 starg, .slice (some ad) frames.length cf, .slice AR recs.length cr] 168 (0, 0)) (w.heap.size + 1 + 1) (by simp)).drew
    have p0 := kept hS2.bel q0
    go_enter Tryz.func221, Tryz.ntmps221
    go_wp2
    refine wp_region_held_drew (S := (fun w' => w'.cell? ⟨w.heap.size + 1 + 1, 0, none⟩ = some (.int .i64 kind) ∧ w'.cell? ⟨w.heap.size + 1 + 1, 5, none⟩ = some (.slice (some ad) frames.length cf) ∧ w'.cell? ⟨w.heap.size + 1 + 1, 6, none⟩ = some (.slice AR recs.length cr) ∧ w'.cell? ⟨w.heap.size, 0, none⟩ = some (.int .i64 c.fn) ∧ w'.cell? ad = some (.int .i64 y.fn))) (by kernel_rfl) (⟨hS2.cell 0 rfl 0, hS2.cell 0 rfl 5, hS2.cell 0 rfl 6, hS2.cell 2 rfl 0, p0⟩) (fun hHeld => ?_)
    (iterate 2 (first | refine rQ1 ?_ | refine rQ2 ?_); try simp only [pP])
    refine regC 2 rfl (by kernel_rfl) (by rfl) (fun Kq hKq => ?_)
    go_simp
    (with_reducible refine (inRange _ HK.out).mono ?_)
    rintro e w3 ⟨rfl, rfl⟩
    try go_wp2_with fail
    refine hKq.out _ _ (hHeld) (fun hHeld => ?_)
    clear hKq Kq
    (try simp only [pP])
    (iterate 5 (first | refine rQ1 ?_ | refine rQ2 ?_); try simp only [pP])
    refine regC 8 rfl (by kernel_rfl) (by rfl) (fun Kq hKq => ?_)
    go_simp
    (with_reducible refine (inRange _ HN.out).mono ?_)
    rintro e w3 ⟨rfl, rfl⟩
    try go_wp2_with fail
    refine hKq.out _ _ (hHeld) (fun hHeld => ?_)
    clear hKq Kq
    (try simp only [pP])
    (iterate 18 (first | refine rQ1 ?_ | refine rQ2 ?_); try simp only [pP])
    refine wpAnyH_done (by kernel_rfl) ?_ _
    clear hHeld
    go_wp2
    go_ret
    exact ⟨ret_bool E.out.symm, hS2.bel⟩
  subst z1
  by_cases z2 : skind = 0
  rotate_left
  · have E := Lib.hid (show exitB l c ⟨kind, ⟨0, 0, skind, starg⟩, frames, recs⟩ = false by unfold exitB; rw [HX2]; simp [nilSpB, z2])
    have m0 : (skind == 0) = false := by simp [z2]
    have m1 : (skind != 0) = true := by simp [z2]
    clear z2 k2
    have hS2 := ((((St.start w).made (.cells #[.int .i64 c.fn, .int .i64 c.entry, .int .i64 c.vals, .int .i64 c.nums, .slice A4 c.ops.length c4, .slice A5 c.exits.length c5] 41 (0, 0))).madeAt (.cells #[.slice A t.length c0, .slice B l.length d0] 36 (0, 0)) (w.heap.size + 1) (by simp)).madeAt (.cells #[.int .i64 kind, .int .i64 0, .int .i64 0, .int .i64 skind, .int .i64 starg, .slice (some ad) frames.length cf, .slice AR recs.length cr] 168 (0, 0)) (w.heap.size + 1 + 1) (by simp)).drew
    have p0 := kept hS2.bel q0
    go_enter Tryz.func221, Tryz.ntmps221
    go_wp2
    refine wp_region_held_drew (S := (fun w' => w'.cell? ⟨w.heap.size + 1 + 1, 0, none⟩ = some (.int .i64 kind) ∧ w'.cell? ⟨w.heap.size + 1 + 1, 5, none⟩ = some (.slice (some ad) frames.length cf) ∧ w'.cell? ⟨w.heap.size + 1 + 1, 6, none⟩ = some (.slice AR recs.length cr) ∧ w'.cell? ⟨w.heap.size, 0, none⟩ = some (.int .i64 c.fn) ∧ w'.cell? ad = some (.int .i64 y.fn))) (by kernel_rfl) (⟨hS2.cell 0 rfl 0, hS2.cell 0 rfl 5, hS2.cell 0 rfl 6, hS2.cell 2 rfl 0, p0⟩) (fun hHeld => ?_)
    (iterate 2 (first | refine rQ1 ?_ | refine rQ2 ?_); try simp only [pP])
    refine regC 2 rfl (by kernel_rfl) (by rfl) (fun Kq hKq => ?_)
    go_simp
    (with_reducible refine (inRange _ HK.out).mono ?_)
    rintro e w3 ⟨rfl, rfl⟩
    try go_wp2_with fail
    refine hKq.out _ _ (hHeld) (fun hHeld => ?_)
    clear hKq Kq
    (try simp only [pP])
    (iterate 5 (first | refine rQ1 ?_ | refine rQ2 ?_); try simp only [pP])
    refine regC 8 rfl (by kernel_rfl) (by rfl) (fun Kq hKq => ?_)
    go_simp
    (with_reducible refine (inRange _ HN.out).mono ?_)
    rintro e w3 ⟨rfl, rfl⟩
    try go_wp2_with fail
    refine hKq.out _ _ (hHeld) (fun hHeld => ?_)
    clear hKq Kq
    (try simp only [pP])
    (iterate 18 (first | refine rQ1 ?_ | refine rQ2 ?_); try simp only [pP])
    refine wpAnyH_done (by kernel_rfl) ?_ _
    clear hHeld
    go_wp2
    go_ret
    exact ⟨ret_bool E.out.symm, hS2.bel⟩
  subst z2
  by_cases z3 : starg = 0
  rotate_left
  · have E := Lib.hid (show exitB l c ⟨kind, ⟨0, 0, 0, starg⟩, frames, recs⟩ = false by unfold exitB; rw [HX2]; simp [nilSpB, z3])
    have m0 : (starg == 0) = false := by simp [z3]
    have m1 : (starg != 0) = true := by simp [z3]
    clear z3 k2
    have hS2 := ((((St.start w).made (.cells #[.int .i64 c.fn, .int .i64 c.entry, .int .i64 c.vals, .int .i64 c.nums, .slice A4 c.ops.length c4, .slice A5 c.exits.length c5] 41 (0, 0))).madeAt (.cells #[.slice A t.length c0, .slice B l.length d0] 36 (0, 0)) (w.heap.size + 1) (by simp)).madeAt (.cells #[.int .i64 kind, .int .i64 0, .int .i64 0, .int .i64 0, .int .i64 starg, .slice (some ad) frames.length cf, .slice AR recs.length cr] 168 (0, 0)) (w.heap.size + 1 + 1) (by simp)).drew
    have p0 := kept hS2.bel q0
    go_enter Tryz.func221, Tryz.ntmps221
    go_wp2
    refine wp_region_held_drew (S := (fun w' => w'.cell? ⟨w.heap.size + 1 + 1, 0, none⟩ = some (.int .i64 kind) ∧ w'.cell? ⟨w.heap.size + 1 + 1, 5, none⟩ = some (.slice (some ad) frames.length cf) ∧ w'.cell? ⟨w.heap.size + 1 + 1, 6, none⟩ = some (.slice AR recs.length cr) ∧ w'.cell? ⟨w.heap.size, 0, none⟩ = some (.int .i64 c.fn) ∧ w'.cell? ad = some (.int .i64 y.fn))) (by kernel_rfl) (⟨hS2.cell 0 rfl 0, hS2.cell 0 rfl 5, hS2.cell 0 rfl 6, hS2.cell 2 rfl 0, p0⟩) (fun hHeld => ?_)
    (iterate 2 (first | refine rQ1 ?_ | refine rQ2 ?_); try simp only [pP])
    refine regC 2 rfl (by kernel_rfl) (by rfl) (fun Kq hKq => ?_)
    go_simp
    (with_reducible refine (inRange _ HK.out).mono ?_)
    rintro e w3 ⟨rfl, rfl⟩
    try go_wp2_with fail
    refine hKq.out _ _ (hHeld) (fun hHeld => ?_)
    clear hKq Kq
    (try simp only [pP])
    (iterate 5 (first | refine rQ1 ?_ | refine rQ2 ?_); try simp only [pP])
    refine regC 8 rfl (by kernel_rfl) (by rfl) (fun Kq hKq => ?_)
    go_simp
    (with_reducible refine (inRange _ HN.out).mono ?_)
    rintro e w3 ⟨rfl, rfl⟩
    try go_wp2_with fail
    refine hKq.out _ _ (hHeld) (fun hHeld => ?_)
    clear hKq Kq
    (try simp only [pP])
    (iterate 18 (first | refine rQ1 ?_ | refine rQ2 ?_); try simp only [pP])
    refine wpAnyH_done (by kernel_rfl) ?_ _
    clear hHeld
    go_wp2
    go_ret
    exact ⟨ret_bool E.out.symm, hS2.bel⟩
  subst z3
  have HG0 := Lib.hid (show exSpecB l ⟨kind, ⟨0, 0, 0, 0⟩, frames, recs⟩ = true by rw [HX2]; rfl)
  clear HX2 k2
  have hS2 := ((((St.start w).made (.cells #[.int .i64 c.fn, .int .i64 c.entry, .int .i64 c.vals, .int .i64 c.nums, .slice A4 c.ops.length c4, .slice A5 c.exits.length c5] 41 (0, 0))).madeAt (.cells #[.slice A t.length c0, .slice B l.length d0] 36 (0, 0)) (w.heap.size + 1) (by simp)).madeAt (.cells #[.int .i64 kind, .int .i64 0, .int .i64 0, .int .i64 0, .int .i64 0, .slice (some ad) frames.length cf, .slice AR recs.length cr] 168 (0, 0)) (w.heap.size + 1 + 1) (by simp)).drew
  have p0 := kept hS2.bel q0
  go_enter Tryz.func221, Tryz.ntmps221
  go_wp2
  refine wp_region_held_drew (S := (fun w' => w'.cell? ⟨w.heap.size + 1 + 1, 0, none⟩ = some (.int .i64 kind) ∧ w'.cell? ⟨w.heap.size + 1 + 1, 5, none⟩ = some (.slice (some ad) frames.length cf) ∧ w'.cell? ⟨w.heap.size + 1 + 1, 6, none⟩ = some (.slice AR recs.length cr) ∧ w'.cell? ⟨w.heap.size, 0, none⟩ = some (.int .i64 c.fn) ∧ w'.cell? ad = some (.int .i64 y.fn))) (by kernel_rfl) (⟨hS2.cell 0 rfl 0, hS2.cell 0 rfl 5, hS2.cell 0 rfl 6, hS2.cell 2 rfl 0, p0⟩) (fun hHeld => ?_)
  (iterate 2 (first | refine rQ1 ?_ | refine rQ2 ?_); try simp only [pP])
  refine regC 2 rfl (by kernel_rfl) (by rfl) (fun Kq hKq => ?_)
  go_simp
  (with_reducible refine (inRange _ HK.out).mono ?_)
  rintro e w3 ⟨rfl, rfl⟩
  try go_wp2_with fail
  refine hKq.out _ _ (hHeld) (fun hHeld => ?_)
  clear hKq Kq
  (try simp only [pP])
  (iterate 5 (first | refine rQ1 ?_ | refine rQ2 ?_); try simp only [pP])
  refine regC 8 rfl (by kernel_rfl) (by rfl) (fun Kq hKq => ?_)
  go_simp
  (with_reducible refine (inRange _ HN.out).mono ?_)
  rintro e w3 ⟨rfl, rfl⟩
  try go_wp2_with fail
  refine hKq.out _ _ (hHeld) (fun hHeld => ?_)
  clear hKq Kq
  (try simp only [pP])
  (iterate 18 (first | refine rQ1 ?_ | refine rQ2 ?_); try simp only [pP])
  refine wpAnyH_done (by kernel_rfl) ?_ _
  clear hHeld
  go_wp2
  clear p0
  go_loopw [62] (fun i wr => ∃ k : Nat, k ≤ frames.length ∧ i = .int .i64 k ∧ Hid (exFrB l frames k = true) ∧ St w [Res.box (w.heap.size + 1 + 1) (.cells #[.int .i64 kind, .int .i64 0, .int .i64 0, .int .i64 0, .int .i64 0, .slice (some ad) frames.length cf, .slice AR recs.length cr] 168 (0, 0)), Res.box (w.heap.size + 1) (.cells #[.slice A t.length c0, .slice B l.length d0] 36 (0, 0)), Res.box w.heap.size (.cells #[.int .i64 c.fn, .int .i64 c.entry, .int .i64 c.vals, .int .i64 c.nums, .slice A4 c.ops.length c4, .slice A5 c.exits.length c5] 41 (0, 0))] wr) (fun i _ => frames.length - (intOf i).toNat)
  case atStart => exact ⟨0, by omega, rfl, Lib.hid rfl, hS2⟩
  case round =>
    obtain ⟨k, hk, rfl, hb, hS⟩ := hrel
    by_cases hlt : k < frames.length
    · obtain ⟨z, hz⟩ := get_exU frames k hlt
      obtain ⟨ad9, A2, A3, c2, c3, had, q0, q1, q2, q3, _, _, _, _⟩ := kExFrame_at r5 k z hz
      obtain rfl := Option.some.inj had
      have p0 := kept hS.bel q0
      have p1 := kept hS.bel q1
      have p2 := kept hS.bel q2
      have p3 := kept hS.bel q3
      obtain ⟨g8, hg8⟩ : ∃ g8, wr.heap.size = g8 := ⟨_, rfl⟩
      have hT := hS.madeAt (.cells #[.int .i64 z.fn, .int .i64 z.pc, .slice A2 z.locals.length c2, .slice A3 z.stack.length c3] 171 (0, 0)) g8 hg8
      have hF := h.below hT.bel
      have ew : IntKind.i64.wrap ((frames.length : Int) - 1) = (frames.length : Int) - 1 := IntWalk.i64_in _ (by omega)
      have xe := hT.cell 1 rfl
      have xm := hT.cell 2 rfl
      clear q0 q1 q2 q3
      cases hf : frmB l z.fn z.pc z.locals.length z.stack.length (decide (k + 1 = frames.length))
      · have E := Lib.hid (show exitB l c ⟨kind, ⟨0, 0, 0, 0⟩, frames, recs⟩ = false by unfold exitB; rw [exFrB_no hz hf]; simp)
        have HB : Hid (∀ e, decide (k + 1 = frames.length) = e → frmB l z.fn z.pc z.locals.length z.stack.length e = false) := Lib.hid (fun e he => by rw [← he]; exact hf)
        clear hf hz
        go_wp2_with fail
        refine (frameI A B D c0 d0 e0 t l z.fn z.pc z.locals.length z.stack.length _ _ hF hfit (hD.below hT.bel)).mono ?_
        rintro e w5 ⟨rfl, hb2⟩
        rw [HB.out _ (show decide (k + 1 = frames.length) = ((k : Int) == (frames.length : Int) - 1) by rw [Bool.eq_iff_iff]; simp; omega)]
        have hT2 := hT.step hb2
        go_wp2
        go_ret
        exact ⟨ret_bool E.out.symm, hT2.bel⟩
      · have HN2 := Lib.hid (show exFrB l frames (k + 1) = true by rw [exFrB_succ hz, hb.out, hf]; rfl)
        have HB : Hid (∀ e, decide (k + 1 = frames.length) = e → frmB l z.fn z.pc z.locals.length z.stack.length e = true) := Lib.hid (fun e he => by rw [← he]; exact hf)
        clear hf hz
        go_wp2_with fail
        refine (frameI A B D c0 d0 e0 t l z.fn z.pc z.locals.length z.stack.length _ _ hF hfit (hD.below hT.bel)).mono ?_
        rintro e w5 ⟨rfl, hb2⟩
        rw [HB.out _ (show decide (k + 1 = frames.length) = ((k : Int) == (frames.length : Int) - 1) by rw [Bool.eq_iff_iff]; simp; omega)]
        have hT2 := hT.step hb2
        go_wp2
        go_roundw
        case rel => exact ⟨k + 1, by omega, by go_num, HN2, hT2.drop⟩
        case measure => simp [intOf]; omega
    · obtain rfl : k = frames.length := by omega
      have xe := hS.cell 0 rfl
      cases hr : recs.any (fun r => decide (6 < r.fields.length))
      · have E := Lib.hid (show exitB l c ⟨kind, ⟨0, 0, 0, 0⟩, frames, recs⟩ = !((srcsL ⟨kind, ⟨0, 0, 0, 0⟩, frames, recs⟩).any (fun s => !(srcB l.length c.vals c.nums recs.length s))) by unfold exitB; rw [HD0.out, HG0.out, hb.out, none_many hr, ← List.all_eq_not_any_not]; rfl)
        have HR := Lib.hid hr
        clear hr
        go_wp2_with fail
        refine (hasRx AR cr recs (fun r => decide (6 < r.fields.length)) _ (r6.below hS.bel) m6 (fun q hq W hb cs hK => by
          obtain ⟨A7, c7, rfl, _, _⟩ := kExRec_K.1 hK
          exact recXCl A7 c7 q.fields.length W (rec_le hq hn))).mono ?_
        rintro e w5 ⟨rfl, hb5⟩
        rw [HR.out]
        have hS5 := hS.step hb5
        clear xe
        have xe := hS5.cell 0 rfl
        go_wp2_with fail
        refine (srcsI (some ad) AR cf cr ⟨kind, ⟨0, 0, 0, 0⟩, frames, recs⟩ _ (r5.below hS5.bel) (r6.below hS5.bel) (by show frames.length ≤ 1048576; omega) m6 hn).mono ?_
        intro e w6 hNR
        obtain ⟨v0, F, rfl, hS6⟩ := hS5.newRow hNR
        obtain ⟨A9, c9, rfl, _, hr9⟩ := hS6.row 0 rfl
        go_wp2_with fail
        refine (hasSx A9 c9 (srcsL ⟨kind, ⟨0, 0, 0, 0⟩, frames, recs⟩) _ _ _ (fun s => !(srcB l.length c.vals c.nums recs.length s)) _ hr9 hn (fun q hq W hb cs hK => by
          obtain rfl := kSrc_K.1 hK
          exact srcCl A B A4 A5 AR c0 d0 c4 c5 cr t l c recs.length w.heap.size (w.heap.size + 1) (w.heap.size + 1 + 1) q.kind q.n q.v.k q.v.n q.v.s W (kept hb (hS6.cell 3 rfl 0)) (kept hb (hS6.cell 3 rfl 1)) (kept hb (hS6.cell 3 rfl 2)) (kept hb (hS6.cell 3 rfl 3)) (kept hb (hS6.cell 3 rfl 4)) (kept hb (hS6.cell 3 rfl 5)) (kept hb (hS6.cell 2 rfl 0)) (kept hb (hS6.cell 2 rfl 1)) (kept hb (hS6.cell 1 rfl 6)) hfit.n12 h1 h2 h3 h4 (by omega) (hv q hq))).mono ?_
        rintro e w7 ⟨rfl, hb7⟩
        have hS7 := hS6.step hb7
        go_wp2
        go_ret
        exact ⟨ret_bool E.out.symm, hS7.bel⟩
      · have E := Lib.hid (show exitB l c ⟨kind, ⟨0, 0, 0, 0⟩, frames, recs⟩ = false by unfold exitB; rw [any_many hr]; simp)
        have HR := Lib.hid hr
        clear hr
        go_wp2_with fail
        refine (hasRx AR cr recs (fun r => decide (6 < r.fields.length)) _ (r6.below hS.bel) m6 (fun q hq W hb cs hK => by
          obtain ⟨A7, c7, rfl, _, _⟩ := kExRec_K.1 hK
          exact recXCl A7 c7 q.fields.length W (rec_le hq hn))).mono ?_
        rintro e w5 ⟨rfl, hb5⟩
        rw [HR.out]
        have hS5 := hS.step hb5
        clear xe
        have xe := hS5.cell 0 rfl
        go_wp2
        go_ret
        exact ⟨ret_bool E.out.symm, hS5.bel⟩
end Go.Proofs.YthinhlcfpaaldaaGreat.Dat

/- Whether code is as it must be, in the program: fastOk. -/
import Derived.Test.YthinhlcfpaaldaaGreatM5
namespace Go.Proofs.YthinhlcfpaaldaaGreat.Dat
open Go Go.RowKit Go.Proofs.YthinhlcfpaaldaaGreat.Mem
set_option linter.unusedVariables false
set_option linter.unusedSimpArgs false
theorem entriesL_len (l : List DFunc) (cd : List DIns) : (entriesL l cd).length ≤ cd.length + 1 := by
  have h1 := headsL_len l cd
  have h2 := ascL_len (headsL l cd ++ [0])
  rw [entries_asc, List.length_append, List.length_singleton] at h2
  omega
set_option maxHeartbeats 16000000 in
set_option maxRecDepth 100000 in
theorem fastI (A B A4 A5 D : Option Addr) (c0 d0 c4 c5 e0 : Nat) (t : List ByteArray) (l : List DFunc) (c : DFast) (w : World) (h : HasMod A B t l w) (hgd : isGoodB t l = true) (hD : kHgh.Row w D l.length (highsL l)) (r4 : kFOp.Row w A4 c.ops.length c.ops) (r5 : kExit.Row w A5 c.exits.length c.exits) (hms : msFast c ≤ 1048576) :
    Calls Tryz.prog 133 #[.agg #[.slice A t.length c0, .slice B l.length d0], .slice D l.length e0, .agg #[.int .i64 c.fn, .int .i64 c.entry, .int .i64 c.vals, .int .i64 c.nums, .slice A4 c.ops.length c4, .slice A5 c.exits.length c5]] w fun e w' => e = .returned (.bool (fastB l c)) ∧ Below w.heap.size w w' := by
  have hfit := modFit (isGood_mod hgd)
  have hm := hfit.n12
  have hM := MFast_of hms
  have hno : c.ops.length ≤ 1048576 := hM.1.1
  have hne : c.exits.length ≤ 1048576 := hM.2.1
  cases hF : btw c.fn 0 ((l.length : Int) - 1)
  · have hS := ((((St.start w).made (.cells #[.slice A t.length c0, .slice B l.length d0] 36 (0, 0))).madeAt (.cells #[.slice D l.length e0] 124 (0, 0)) (w.heap.size + 1) (by simp)).madeAt (.cells #[.int .i64 c.fn, .int .i64 c.entry, .int .i64 c.vals, .int .i64 c.nums, .slice A4 c.ops.length c4, .slice A5 c.exits.length c5] 41 (0, 0)) (w.heap.size + 1 + 1) (by simp)).drew
    have E := Lib.hid (fast_no (show fastHeadB l c = false by unfold fastHeadB; rw [funAt_no hF]))
    have HF := Lib.hid hF
    clear hF
    go_enter Tryz.func133, Tryz.ntmps133
    go_wp2
    refine wp_region_held_drew (S := (fun w' => w'.cell? ⟨w.heap.size, 0, none⟩ = some (.slice A t.length c0) ∧ w'.cell? ⟨w.heap.size, 1, none⟩ = some (.slice B l.length d0) ∧ w'.cell? ⟨w.heap.size + 1 + 1, 0, none⟩ = some (.int .i64 c.fn) ∧ w'.cell? ⟨w.heap.size + 1 + 1, 1, none⟩ = some (.int .i64 c.entry))) (by kernel_rfl) (⟨hS.cell 2 rfl 0, hS.cell 2 rfl 1, hS.cell 0 rfl 0, hS.cell 0 rfl 1⟩) (fun hHeld => ?_)
    (iterate 5 (first | refine rQ1 ?_ | refine rQ2 ?_); try simp only [pP])
    refine regC 5 rfl (by kernel_rfl) (by rfl) (fun Kq hKq => ?_)
    go_simp
    (with_reducible refine (isPlace _ HF.out (by omega) (by omega)).mono ?_)
    rintro e w3 ⟨rfl, rfl⟩
    try go_wp2_with fail
    refine hKq.out _ _ (hHeld) (fun hHeld => ?_)
    clear hKq Kq
    (try simp only [pP])
    (iterate 2 (first | refine rQ1 ?_ | refine rQ2 ?_); try simp only [pP])
    refine regS (fun _ _ _ d h => by cases d <;> exact h) [8, 9, 10, 11, 12, 13, 14, 15] _ _ _ rfl (by kernel_rfl) (by assumption) ?_
    simp only [skipL, List.getElem?_cons_zero, List.getElem?_cons_succ, Option.bind_some, pP]
    (first | refine rQ1 ?_ | refine rQ2 ?_); (try simp only [pP])
    refine wpAnyH_done (by kernel_rfl) ?_ _
    clear hHeld
    go_wp2
    go_ret
    exact ⟨ret_bool E.out.symm, hS.bel⟩
  have hF2 := btw_true.1 hF
  obtain ⟨fn, entry, vals, nums, ops, exits⟩ := c
  dsimp only at *
  obtain ⟨fk, rfl⟩ : ∃ fk : Nat, fn = fk := ⟨fn.toNat, by omega⟩
  obtain ⟨y, hy⟩ := get_exU l fk (by omega)
  have hym := List.mem_of_getElem? hy
  have hyl := hfit.loc y hym
  have hyp := hfit.par y hym
  have hH := hfit.hgt hym
  have hen := fun e (he : e ∈ entriesL l y.code) => entry_fit hgd hym he
  have hc120 := hfit.c120 y hym
  have hEl : (entriesL l y.code).length ≤ 1048576 := by have := entriesL_len l y.code; omega
  have CE : ∀ W, HasMod A B t l W → Calls Tryz.prog 217 #[.agg #[.slice A t.length c0, .slice B l.length d0], .int .i64 fk] W (NewRow (Knd.int .i64) 3 (entriesL l y.code) W) := fun W hW => entriesI A B c0 d0 t l fk y W hW.hr hgd hy
  have hhd : fastHeadB l ⟨(fk : Int), entry, vals, nums, ops, exits⟩ = ((entriesL l y.code).any (fun x => decide (x = entry)) && (btw vals (y.locals + at0 (depthsL l y.code) entry) 400 && btw nums 0 400)) := by
    unfold fastHeadB
    rw [funAt_of (k := fk) rfl hy]
    show ((entriesL l y.code).contains entry && _) = _
    rw [has_any]
  obtain ⟨EL, hEL⟩ : ∃ EL, entriesL l y.code = EL := ⟨_, rfl⟩
  rw [hEL] at hhd hEl
  simp only [hEL] at hen CE
  have HF := Lib.hid hF
  have k0 : (0 : Int) ≤ (fk : Int) := by omega
  have k1 : (fk : Int) < l.length := by omega
  have k2 : fk < l.length := by omega
  clear hF hF2 hEL
  cases hA : EL.any (fun x => decide (x = entry))
  · have hS := ((((St.start w).made (.cells #[.slice A t.length c0, .slice B l.length d0] 36 (0, 0))).madeAt (.cells #[.slice D l.length e0] 124 (0, 0)) (w.heap.size + 1) (by simp)).madeAt (.cells #[.int .i64 (fk : Int), .int .i64 entry, .int .i64 vals, .int .i64 nums, .slice A4 ops.length c4, .slice A5 exits.length c5] 41 (0, 0)) (w.heap.size + 1 + 1) (by simp)).drew
    have E := Lib.hid (fast_no (hhd.trans (by rw [hA, Bool.false_and])))
    have HA := Lib.hid hA
    clear hA hy hhd hen
    go_enter Tryz.func133, Tryz.ntmps133
    go_wp2
    refine wp_region_held_drew (S := (fun w' => w'.cell? ⟨w.heap.size, 0, none⟩ = some (.slice A t.length c0) ∧ w'.cell? ⟨w.heap.size, 1, none⟩ = some (.slice B l.length d0) ∧ w'.cell? ⟨w.heap.size + 1 + 1, 0, none⟩ = some (.int .i64 (fk : Int)) ∧ w'.cell? ⟨w.heap.size + 1 + 1, 1, none⟩ = some (.int .i64 entry))) (by kernel_rfl) (⟨hS.cell 2 rfl 0, hS.cell 2 rfl 1, hS.cell 0 rfl 0, hS.cell 0 rfl 1⟩) (fun hHeld => ?_)
    (iterate 5 (first | refine rQ1 ?_ | refine rQ2 ?_); try simp only [pP])
    refine regC 5 rfl (by kernel_rfl) (by rfl) (fun Kq hKq => ?_)
    go_simp
    (with_reducible refine (isPlace _ HF.out (by omega) (by omega)).mono ?_)
    rintro e w3 ⟨rfl, rfl⟩
    try go_wp2_with fail
    refine hKq.out _ _ (hHeld) (fun hHeld => ?_)
    clear hKq Kq
    (try simp only [pP])
    (iterate 5 (first | refine rQ1 ?_ | refine rQ2 ?_); try simp only [pP]); (first | refine rW 12 ?_ | refine rV 12 ?_); (try simp only [pP]); (first | refine rW 13 ?_ | refine rV 13 ?_); (try simp only [pP])
    refine regC 11 rfl (by kernel_rfl) (by rfl) (fun Kq hKq => ?_)
    go_simp
    (with_reducible refine (CE _ (h.below hS.bel)).mono ?_)
    intro e w4 hn; obtain ⟨v, F, rfl, hS2⟩ := hS.newRow hn; obtain ⟨A9, c9, rfl, _, hr9⟩ := hS2.row 0 rfl; clear hn
    try go_wp2_with fail
    refine hKq.out _ _ (⟨hS2.cell 3 rfl 0, hS2.cell 3 rfl 1, hS2.cell 1 rfl 0, hS2.cell 1 rfl 1⟩) (fun hHeld => ?_)
    clear hKq Kq
    (try simp only [pP])
    refine regC 14 rfl (by kernel_rfl) (by rfl) (fun Kq hKq => ?_)
    go_simp
    (with_reducible refine (hasInt A9 c9 EL entry _ hr9 hEl).mono ?_)
    rintro e w5 ⟨rfl, hb⟩; rw [HA.out]; have hS3 := hS2.step hb
    try go_wp2_with fail
    refine hKq.out _ _ (⟨hS3.cell 3 rfl 0, hS3.cell 3 rfl 1, hS3.cell 1 rfl 0, hS3.cell 1 rfl 1⟩) (fun hHeld => ?_)
    clear hKq Kq
    (try simp only [pP])
    (iterate 2 (first | refine rQ1 ?_ | refine rQ2 ?_); try simp only [pP])
    refine wpAnyH_done (by kernel_rfl) ?_ _
    clear hHeld
    go_wp2
    go_ret
    exact ⟨ret_bool E.out.symm, hS3.bel⟩
  rw [hA, Bool.true_and] at hhd
  obtain ⟨x0, hx0, ex0⟩ := List.any_eq_true.1 hA
  obtain rfl := of_decide_eq_true ex0
  obtain ⟨he0, he1, he2⟩ := hen _ hx0
  obtain ⟨ek, rfl⟩ : ∃ ek : Nat, x0 = ek := ⟨x0.toNat, by omega⟩
  obtain ⟨adB, A2, c2, rfl, _, q1', _, _, _⟩ := kFunc_at h.hr fk y hy
  obtain ⟨adD, A3, c3, rfl, p0', hp, hr3⟩ := kHgh_at hD fk _ (highsL_at hy)
  have hde := at0_get (d := depthsL l y.code) (k := ek) (by rw [hH.1]; omega)
  have hdr := hH.at_ (ek : Int)
  obtain ⟨adE, rfl, e0'⟩ := hr3.one ek _ hde
  obtain ⟨hg, hhg⟩ : ∃ hg, at0 (depthsL l y.code) (ek : Int) = hg := ⟨_, rfl⟩
  obtain ⟨dl, hdl⟩ : ∃ dl, (depthsL l y.code).length = dl := ⟨_, rfl⟩
  rw [hhg] at hhd he2 hdr e0'
  rw [hdl] at p0' hp hr3
  have j0 : (0 : Int) ≤ (ek : Int) := by omega
  have j2 : ek < dl := by rw [← hdl, hH.1]; omega
  have j1 : (ek : Int) < dl := by omega
  have ewr : IntKind.i64.wrap (y.locals + hg) = y.locals + hg := IntWalk.i64_in _ (by omega)
  have HA := Lib.hid hA
  have hS := ((((St.start w).made (.cells #[.slice A t.length c0, .slice (some adB) l.length d0] 36 (0, 0))).madeAt (.cells #[.slice (some adD) l.length e0] 124 (0, 0)) (w.heap.size + 1) (by simp)).madeAt (.cells #[.int .i64 (fk : Int), .int .i64 (ek : Int), .int .i64 vals, .int .i64 nums, .slice A4 ops.length c4, .slice A5 exits.length c5] 41 (0, 0)) (w.heap.size + 1 + 1) (by simp)).drew
  clear hA hx0 ex0 hen hde hy hH hdl hhg hr3
  go_enter Tryz.func133, Tryz.ntmps133
  go_wp2
  refine wp_region_held_drew (S := (fun w' => w'.cell? ⟨w.heap.size, 0, none⟩ = some (.slice A t.length c0) ∧ w'.cell? ⟨w.heap.size, 1, none⟩ = some (.slice (some adB) l.length d0) ∧ w'.cell? ⟨w.heap.size + 1 + 1, 0, none⟩ = some (.int .i64 (fk : Int)) ∧ w'.cell? ⟨w.heap.size + 1 + 1, 1, none⟩ = some (.int .i64 (ek : Int)))) (by kernel_rfl) (⟨hS.cell 2 rfl 0, hS.cell 2 rfl 1, hS.cell 0 rfl 0, hS.cell 0 rfl 1⟩) (fun hHeld => ?_)
  (iterate 5 (first | refine rQ1 ?_ | refine rQ2 ?_); try simp only [pP])
  refine regC 5 rfl (by kernel_rfl) (by rfl) (fun Kq hKq => ?_)
  go_simp
  (with_reducible refine (isPlace _ HF.out (by omega) (by omega)).mono ?_)
  rintro e w3 ⟨rfl, rfl⟩
  try go_wp2_with fail
  refine hKq.out _ _ (hHeld) (fun hHeld => ?_)
  clear hKq Kq
  (try simp only [pP])
  (iterate 5 (first | refine rQ1 ?_ | refine rQ2 ?_); try simp only [pP]); (first | refine rW 12 ?_ | refine rV 12 ?_); (try simp only [pP]); (first | refine rW 13 ?_ | refine rV 13 ?_); (try simp only [pP])
  refine regC 11 rfl (by kernel_rfl) (by rfl) (fun Kq hKq => ?_)
  go_simp
  (with_reducible refine (CE _ (h.below hS.bel)).mono ?_)
  intro e w4 hn; obtain ⟨v, F, rfl, hS2⟩ := hS.newRow hn; obtain ⟨A9, c9, rfl, _, hr9⟩ := hS2.row 0 rfl; clear hn
  try go_wp2_with fail
  refine hKq.out _ _ (⟨hS2.cell 3 rfl 0, hS2.cell 3 rfl 1, hS2.cell 1 rfl 0, hS2.cell 1 rfl 1⟩) (fun hHeld => ?_)
  clear hKq Kq
  (try simp only [pP])
  refine regC 14 rfl (by kernel_rfl) (by rfl) (fun Kq hKq => ?_)
  go_simp
  (with_reducible refine (hasInt A9 c9 EL (ek : Int) _ hr9 hEl).mono ?_)
  rintro e w5 ⟨rfl, hb⟩; rw [HA.out]; have hS3 := hS2.step hb; clear hb
  try go_wp2_with fail
  refine hKq.out _ _ (⟨hS3.cell 3 rfl 0, hS3.cell 3 rfl 1, hS3.cell 1 rfl 0, hS3.cell 1 rfl 1⟩) (fun hHeld => ?_)
  clear hKq Kq
  (try simp only [pP])
  (iterate 2 (first | refine rQ1 ?_ | refine rQ2 ?_); try simp only [pP])
  refine wpAnyH_done (by kernel_rfl) ?_ _
  clear hHeld hS CE
  have hS := hS3.drop.drew
  clear hS2 hS3
  have q1 := kept hS.bel q1'
  have p0 := kept hS.bel p0'
  have u0 := kept hS.bel e0'
  go_wp2
  cases hV : btw vals (y.locals + hg) 400
  · have E := Lib.hid (fast_no (hhd.trans (by rw [hV, Bool.false_and])))
    have HV := Lib.hid hV
    clear hV hhd
    refine wp_region_held_drew (S := (fun w' => w'.cell? ⟨w.heap.size, 1, none⟩ = some (.slice (some adB) l.length d0) ∧ w'.cell? ⟨w.heap.size + 1, 0, none⟩ = some (.slice (some adD) l.length e0) ∧ w'.cell? ⟨w.heap.size + 1 + 1, 0, none⟩ = some (.int .i64 (fk : Int)) ∧ w'.cell? ⟨w.heap.size + 1 + 1, 1, none⟩ = some (.int .i64 (ek : Int)) ∧ w'.cell? ⟨w.heap.size + 1 + 1, 2, none⟩ = some (.int .i64 vals) ∧ w'.cell? ⟨w.heap.size + 1 + 1, 3, none⟩ = some (.int .i64 nums) ∧ w'.cell? ⟨(adB.add (fk * 3)).block, (adB.add (fk * 3)).off + 1, none⟩ = some (.int .i64 y.locals) ∧ w'.cell? (adD.add fk) = some (.slice (some adE) dl c3) ∧ w'.cell? (adE.add ek) = some (.int .i64 hg))) (by kernel_rfl) (⟨hS.cell 2 rfl 1, hS.cell 1 rfl 0, hS.cell 0 rfl 0, hS.cell 0 rfl 1, hS.cell 0 rfl 2, hS.cell 0 rfl 3, q1, p0, u0⟩) (fun hHeld => ?_)
    clear q1 p0 u0
    (iterate 19 (first | refine rQ1 ?_ | refine rQ2 ?_); try simp only [pP])
    refine regC 19 rfl (by kernel_rfl) (by rfl) (fun Kq hKq => ?_)
    go_simp
    (with_reducible refine (inRange _ HV.out).mono ?_)
    rintro e w6 ⟨rfl, rfl⟩
    try go_wp2_with fail
    refine hKq.out _ _ (hHeld) (fun hHeld => ?_)
    clear hKq Kq
    (try simp only [pP])
    (iterate 2 (first | refine rQ1 ?_ | refine rQ2 ?_); try simp only [pP])
    refine regS (fun _ _ _ d h => by cases d <;> exact h) [22, 23, 24, 25] _ _ _ rfl (by kernel_rfl) (by assumption) ?_
    simp only [skipL, List.getElem?_cons_zero, List.getElem?_cons_succ, Option.bind_some, pP]
    (first | refine rQ1 ?_ | refine rQ2 ?_); (try simp only [pP])
    refine wpAnyH_done (by kernel_rfl) ?_ _
    clear hHeld
    go_wp2
    go_ret
    exact ⟨ret_bool E.out.symm, hS.bel⟩
  rw [hV, Bool.true_and] at hhd
  have hV2 := btw_true.1 hV
  have HV := Lib.hid hV
  clear hV
  cases hN : btw nums 0 400
  · have E := Lib.hid (fast_no (hhd.trans hN))
    have HN := Lib.hid hN
    clear hN hhd
    refine wp_region_held_drew (S := (fun w' => w'.cell? ⟨w.heap.size, 1, none⟩ = some (.slice (some adB) l.length d0) ∧ w'.cell? ⟨w.heap.size + 1, 0, none⟩ = some (.slice (some adD) l.length e0) ∧ w'.cell? ⟨w.heap.size + 1 + 1, 0, none⟩ = some (.int .i64 (fk : Int)) ∧ w'.cell? ⟨w.heap.size + 1 + 1, 1, none⟩ = some (.int .i64 (ek : Int)) ∧ w'.cell? ⟨w.heap.size + 1 + 1, 2, none⟩ = some (.int .i64 vals) ∧ w'.cell? ⟨w.heap.size + 1 + 1, 3, none⟩ = some (.int .i64 nums) ∧ w'.cell? ⟨(adB.add (fk * 3)).block, (adB.add (fk * 3)).off + 1, none⟩ = some (.int .i64 y.locals) ∧ w'.cell? (adD.add fk) = some (.slice (some adE) dl c3) ∧ w'.cell? (adE.add ek) = some (.int .i64 hg))) (by kernel_rfl) (⟨hS.cell 2 rfl 1, hS.cell 1 rfl 0, hS.cell 0 rfl 0, hS.cell 0 rfl 1, hS.cell 0 rfl 2, hS.cell 0 rfl 3, q1, p0, u0⟩) (fun hHeld => ?_)
    clear q1 p0 u0
    (iterate 19 (first | refine rQ1 ?_ | refine rQ2 ?_); try simp only [pP])
    refine regC 19 rfl (by kernel_rfl) (by rfl) (fun Kq hKq => ?_)
    go_simp
    (with_reducible refine (inRange _ HV.out).mono ?_)
    rintro e w6 ⟨rfl, rfl⟩
    try go_wp2_with fail
    refine hKq.out _ _ (hHeld) (fun hHeld => ?_)
    clear hKq Kq
    (try simp only [pP])
    (iterate 4 (first | refine rQ1 ?_ | refine rQ2 ?_); try simp only [pP])
    refine regC 24 rfl (by kernel_rfl) (by rfl) (fun Kq hKq => ?_)
    go_simp
    (with_reducible refine (inRange _ HN.out).mono ?_)
    rintro e w7 ⟨rfl, rfl⟩
    try go_wp2_with fail
    refine hKq.out _ _ (hHeld) (fun hHeld => ?_)
    clear hKq Kq
    (try simp only [pP])
    (iterate 2 (first | refine rQ1 ?_ | refine rQ2 ?_); try simp only [pP])
    refine wpAnyH_done (by kernel_rfl) ?_ _
    clear hHeld
    go_wp2
    go_ret
    exact ⟨ret_bool E.out.symm, hS.bel⟩
  have E1 := Lib.hid (show fastB l ⟨(fk : Int), (ek : Int), vals, nums, ops, exits⟩ = ((btw (ops.length : Int) 1 1500 && decide (exits.length ≤ 1500)) && ((List.range ops.length).all (opAtB l ⟨(fk : Int), (ek : Int), vals, nums, ops, exits⟩) && (lastB ⟨(fk : Int), (ek : Int), vals, nums, ops, exits⟩ && exits.all (exitB l ⟨(fk : Int), (ek : Int), vals, nums, ops, exits⟩)))) by unfold fastB; rw [hhd.trans hN]; rfl)
  have hN2 := btw_true.1 hN
  have HN := Lib.hid hN
  clear hN hhd
  refine wp_region_held_drew (S := (fun w' => w'.cell? ⟨w.heap.size, 1, none⟩ = some (.slice (some adB) l.length d0) ∧ w'.cell? ⟨w.heap.size + 1, 0, none⟩ = some (.slice (some adD) l.length e0) ∧ w'.cell? ⟨w.heap.size + 1 + 1, 0, none⟩ = some (.int .i64 (fk : Int)) ∧ w'.cell? ⟨w.heap.size + 1 + 1, 1, none⟩ = some (.int .i64 (ek : Int)) ∧ w'.cell? ⟨w.heap.size + 1 + 1, 2, none⟩ = some (.int .i64 vals) ∧ w'.cell? ⟨w.heap.size + 1 + 1, 3, none⟩ = some (.int .i64 nums) ∧ w'.cell? ⟨(adB.add (fk * 3)).block, (adB.add (fk * 3)).off + 1, none⟩ = some (.int .i64 y.locals) ∧ w'.cell? (adD.add fk) = some (.slice (some adE) dl c3) ∧ w'.cell? (adE.add ek) = some (.int .i64 hg))) (by kernel_rfl) (⟨hS.cell 2 rfl 1, hS.cell 1 rfl 0, hS.cell 0 rfl 0, hS.cell 0 rfl 1, hS.cell 0 rfl 2, hS.cell 0 rfl 3, q1, p0, u0⟩) (fun hHeld => ?_)
  clear q1 p0 u0
  (iterate 19 (first | refine rQ1 ?_ | refine rQ2 ?_); try simp only [pP])
  refine regC 19 rfl (by kernel_rfl) (by rfl) (fun Kq hKq => ?_)
  go_simp
  (with_reducible refine (inRange _ HV.out).mono ?_)
  rintro e w6 ⟨rfl, rfl⟩
  try go_wp2_with fail
  refine hKq.out _ _ (hHeld) (fun hHeld => ?_)
  clear hKq Kq
  (try simp only [pP])
  (iterate 4 (first | refine rQ1 ?_ | refine rQ2 ?_); try simp only [pP])
  refine regC 24 rfl (by kernel_rfl) (by rfl) (fun Kq hKq => ?_)
  go_simp
  (with_reducible refine (inRange _ HN.out).mono ?_)
  rintro e w7 ⟨rfl, rfl⟩
  try go_wp2_with fail
  refine hKq.out _ _ (hHeld) (fun hHeld => ?_)
  clear hKq Kq
  (try simp only [pP])
  (iterate 2 (first | refine rQ1 ?_ | refine rQ2 ?_); try simp only [pP])
  refine wpAnyH_done (by kernel_rfl) ?_ _
  clear hHeld
  have xf := hS.cell 0 rfl
  cases hO : btw (ops.length : Int) 1 1500
  · have E := Lib.hid (E1.out.trans (by rw [hO, Bool.false_and, Bool.false_and]))
    have HO := Lib.hid hO
    clear hO
    go_wp2_with (go_at_call 153; (with_reducible refine (inRange _ HO.out).mono ?_); rintro e w' ⟨rfl, rfl⟩)
    go_ret
    exact ⟨ret_bool E.out.symm, hS.bel⟩
  have hO2 := btw_true.1 hO
  have HO := Lib.hid hO
  by_cases h15 : exits.length ≤ 1500
  rotate_left
  · have E := Lib.hid (E1.out.trans (by rw [decide_eq_false h15, Bool.and_false, Bool.false_and]))
    have h16 : 1500 < exits.length := by omega
    clear hO h15
    go_wp2_with (go_at_call 153; (with_reducible refine (inRange _ HO.out).mono ?_); rintro e w' ⟨rfl, rfl⟩)
    go_ret
    exact ⟨ret_bool E.out.symm, hS.bel⟩
  have E2 := Lib.hid (E1.out.trans (show _ = ((List.range ops.length).all (opAtB l ⟨(fk : Int), (ek : Int), vals, nums, ops, exits⟩) && (lastB ⟨(fk : Int), (ek : Int), vals, nums, ops, exits⟩ && exits.all (exitB l ⟨(fk : Int), (ek : Int), vals, nums, ops, exits⟩))) by rw [hO, decide_eq_true h15]; rfl))
  have h16 : ¬ (1500 < exits.length) := by omega
  clear hO E1
  go_wp2_with (go_at_call 153; (with_reducible refine (inRange _ HO.out).mono ?_); rintro e w' ⟨rfl, rfl⟩)
  clear xf
  go_loopw [67] (fun i wr => ∃ k : Nat, k ≤ ops.length ∧ i = .int .i64 k ∧ Hid ((List.range k).all (opAtB l ⟨(fk : Int), (ek : Int), vals, nums, ops, exits⟩) = true) ∧ St w [Res.box (w.heap.size + 1 + 1) (.cells #[.int .i64 (fk : Int), .int .i64 (ek : Int), .int .i64 vals, .int .i64 nums, .slice A4 ops.length c4, .slice A5 exits.length c5] 41 (0, 0)), Res.box (w.heap.size + 1) (.cells #[.slice (some adD) l.length e0] 124 (0, 0)), Res.box w.heap.size (.cells #[.slice A t.length c0, .slice (some adB) l.length d0] 36 (0, 0))] wr) (fun i _ => ops.length - (intOf i).toNat)
  case atStart => exact ⟨0, by omega, rfl, Lib.hid rfl, hS⟩
  case round =>
    clear hS
    obtain ⟨k, hk, rfl, hb, hS⟩ := hrel
    have xf := hS.cell 0 rfl
    by_cases hlt : k < ops.length
    · obtain ⟨o, ho⟩ := get_exU ops k hlt
      have hos := ms_op hms (List.mem_of_getElem? ho)
      have xm := hS.cell 2 rfl
      have CO : ∀ W, HasMod A (some adB) t l W → kFOp.Row W A4 ops.length ops → Calls Tryz.prog 218 #[.agg #[.int .i64 (fk : Int), .int .i64 (ek : Int), .int .i64 vals, .int .i64 nums, .slice A4 ops.length c4, .slice A5 exits.length c5], .agg #[.slice A t.length c0, .slice (some adB) l.length d0], .int .i64 k] W fun e w' => e = .returned (.bool (opB l ⟨(fk : Int), (ek : Int), vals, nums, ops, exits⟩ k o)) ∧ Below W.heap.size W w' := fun W hW r => opI A (some adB) A4 A5 c0 d0 c4 c5 t l ⟨(fk : Int), (ek : Int), vals, nums, ops, exits⟩ k o W hW hm (by show 0 ≤ vals; omega) (by show vals ≤ 400; omega) (by show 0 ≤ nums; omega) (by show nums ≤ 400; omega) (by show ops.length ≤ 1500; omega) (by show exits.length ≤ 1500; omega) r ho hos
      cases hp : opB l ⟨(fk : Int), (ek : Int), vals, nums, ops, exits⟩ k o
      · have E := Lib.hid (E2.out.trans (by rw [show (List.range ops.length).all (opAtB l ⟨(fk : Int), (ek : Int), vals, nums, ops, exits⟩) = false from List.all_eq_false.2 ⟨k, List.mem_range.2 hlt, by rw [opAtB_of (c := ⟨(fk : Int), (ek : Int), vals, nums, ops, exits⟩) ho, hp]; simp⟩, Bool.false_and]))
        have HP := Lib.hid hp
        clear hp ho
        go_wp2_with fail
        refine (CO _ (h.below hS.bel) (r4.below hS.bel)).mono ?_
        rintro e w8 ⟨rfl, hb2⟩
        rw [HP.out]
        have hS2 := hS.step hb2
        go_wp2
        go_ret
        exact ⟨ret_bool E.out.symm, hS2.bel⟩
      · have HN3 := Lib.hid (show (List.range (k + 1)).all (opAtB l ⟨(fk : Int), (ek : Int), vals, nums, ops, exits⟩) = true by rw [range_all, hb.out, opAtB_of (c := ⟨(fk : Int), (ek : Int), vals, nums, ops, exits⟩) ho, hp]; rfl)
        have HP := Lib.hid hp
        clear hp ho
        go_wp2_with fail
        refine (CO _ (h.below hS.bel) (r4.below hS.bel)).mono ?_
        rintro e w8 ⟨rfl, hb2⟩
        rw [HP.out]
        have hS2 := hS.step hb2
        go_wp2
        go_roundw
        case rel => exact ⟨k + 1, by omega, by go_num, HN3, hS2⟩
        case measure => simp [intOf]; omega
    · obtain rfl : k = ops.length := by omega
      obtain ⟨o, ho⟩ := get_exU ops (ops.length - 1) (by omega)
      have E3 := Lib.hid (E2.out.trans (show _ = ((decide (o.op = 23) || (decide (o.op = 26) || decide (o.op = 27))) && exits.all (exitB l ⟨(fk : Int), (ek : Int), vals, nums, ops, exits⟩)) by rw [hb.out]; unfold lastB; rw [ho]; rfl))
      obtain ⟨ad, rfl, u0', _⟩ := kFOp_at r4 (ops.length - 1) o ho
      have u0 := kept hS.bel u0'
      have eL : IntKind.i64.wrap ((ops.length : Int) - 1) = (ops.length : Int) - 1 := IntWalk.i64_in _ (by omega)
      have eN : ((ops.length : Int) - 1).toNat = ops.length - 1 := by omega
      have l0 : (0 : Int) ≤ (ops.length : Int) - 1 := by omega
      have l1 : (ops.length : Int) - 1 < ops.length := by omega
      have l2 : ops.length - 1 < ops.length := by omega
      have CX : ∀ W, Below w.heap.size w W → W.cell? ⟨w.heap.size + 1 + 1, 0, none⟩ = some (.int .i64 (fk : Int)) ∧ W.cell? ⟨w.heap.size + 1 + 1, 1, none⟩ = some (.int .i64 (ek : Int)) ∧ W.cell? ⟨w.heap.size + 1 + 1, 2, none⟩ = some (.int .i64 vals) ∧ W.cell? ⟨w.heap.size + 1 + 1, 3, none⟩ = some (.int .i64 nums) ∧ W.cell? ⟨w.heap.size + 1 + 1, 4, none⟩ = some (.slice (some ad) ops.length c4) ∧ W.cell? ⟨w.heap.size + 1 + 1, 5, none⟩ = some (.slice A5 exits.length c5) ∧ W.cell? ⟨w.heap.size, 0, none⟩ = some (.slice A t.length c0) ∧ W.cell? ⟨w.heap.size, 1, none⟩ = some (.slice (some adB) l.length d0) ∧ W.cell? ⟨w.heap.size + 1, 0, none⟩ = some (.slice (some adD) l.length e0) → ∀ x ∈ exits, ∀ W', Below W.heap.size W W' → ∀ cs, kExit.K W' x cs → Calls Tryz.prog 220 ((agg1 cs :: [.pointer (some ⟨w.heap.size + 1 + 1, 0, none⟩), .pointer (some ⟨w.heap.size, 0, none⟩), .pointer (some ⟨w.heap.size + 1, 0, none⟩)]).toArray) W' fun e w' => e = .returned (.bool (!(exitB l ⟨(fk : Int), (ek : Int), vals, nums, ops, exits⟩ x))) ∧ Below W'.heap.size W' w' := by
        rintro W hbW ⟨y0, y1, y2, y3, y4, y5, y6, y7, y8⟩ x hx W' hb' cs hK
        obtain ⟨AF, AR, cf, cr, rfl, hl5, hr5, hl6, hr6⟩ := kExit_K.1 hK
        have hsf := srcs_fit (ms_exit hms hx)
        have hMx := (MExit_of (ms_exit hms hx)).2.1
        have hbw : Below w.heap.size w W' := bl_step hbW hb'
        exact exCl A (some adB) (some ad) A5 AF AR (some adD) c0 d0 c4 c5 cf cr e0 (w.heap.size + 1 + 1) w.heap.size (w.heap.size + 1) t l ⟨(fk : Int), (ek : Int), vals, nums, ops, exits⟩ x W' (kept hb' y0) (kept hb' y1) (kept hb' y2) (kept hb' y3) (kept hb' y4) (kept hb' y5) (kept hb' y6) (kept hb' y7) (kept hb' y8) (h.below hbw) hfit (hD.below hbw) hr5 hr6 hsf.2 hsf.1 hMx (by show 0 ≤ vals; omega) (by show vals ≤ 400; omega) (by show 0 ≤ nums; omega) (by show nums ≤ 400; omega)
      by_cases o23 : o.op = 23 ∨ o.op = 26 ∨ o.op = 27
      rotate_left
      · have E := Lib.hid (E3.out.trans (by rw [show decide (o.op = 23) = false from decide_eq_false (fun e => o23 (.inl e)), show decide (o.op = 26) = false from decide_eq_false (fun e => o23 (.inr (.inl e))), show decide (o.op = 27) = false from decide_eq_false (fun e => o23 (.inr (.inr e)))]))
        have b23 : (o.op != 23) = true := by simp; omega
        have b26 : (o.op != 26) = true := by simp; omega
        have b27 : (o.op != 27) = true := by simp; omega
        clear o23 ho
        go_wp2
        go_ret
        exact ⟨ret_bool E.out.symm, hS.bel⟩
      have E4 := Lib.hid (E3.out.trans (show _ = !(exits.any (fun x => !(exitB l ⟨(fk : Int), (ek : Int), vals, nums, ops, exits⟩ x))) by rw [show (decide (o.op = 23) || (decide (o.op = 26) || decide (o.op = 27))) = true by rcases o23 with e | e | e <;> simp [e], Bool.true_and, List.all_eq_not_any_not]))
      obtain ⟨oop, hoop⟩ : ∃ oop, o.op = oop := ⟨_, rfl⟩
      rw [hoop] at u0 o23
      clear hoop ho u0' E3
      rcases o23 with rfl | rfl | rfl
      all_goals (
        go_wp2_with fail
        refine (hasEx A5 c5 exits _ _ _ (fun x => !(exitB l ⟨(fk : Int), (ek : Int), vals, nums, ops, exits⟩ x)) _ (r5.below hS.bel) hne (CX _ hS.bel ⟨hS.cell 0 rfl 0, hS.cell 0 rfl 1, hS.cell 0 rfl 2, hS.cell 0 rfl 3, hS.cell 0 rfl 4, hS.cell 0 rfl 5, hS.cell 2 rfl 0, hS.cell 2 rfl 1, hS.cell 1 rfl 0⟩)).mono ?_
        rintro e w9 ⟨rfl, hb9⟩
        have hS9 := hS.step hb9
        go_wp2
        go_ret
        exact ⟨ret_bool E4.out.symm, hS9.bel⟩)
end Go.Proofs.YthinhlcfpaaldaaGreat.Dat

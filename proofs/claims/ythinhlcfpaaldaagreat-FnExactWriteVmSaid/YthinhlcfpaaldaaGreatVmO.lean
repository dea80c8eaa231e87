/- VmOk in the program. -/
import Derived.Test.YthinhlcfpaaldaaGreatVmV
import Derived.Test.YthinhlcfpaaldaaGreatVmF
namespace Go.Proofs.YthinhlcfpaaldaaGreat.Dat
open Go Go.RowKit Go.Proofs.YthinhlcfpaaldaaGreat.Mem
set_option linter.unusedVariables false
set_option linter.unusedSimpArgs false
theorem outs_any (v : DVm) : (v.out.any fun s => !textB s) = !outsB v := by
  unfold outsB
  rw [List.all_eq_not_any_not, Bool.not_not]
set_option maxHeartbeats 16000000 in
set_option maxRecDepth 100000 in
theorem vmI (A B D A0 A1 A3 : Option Addr) (c d e0 c0 c1 c3 : Nat) (t : List ByteArray) (l : List DFunc) (v : DVm) (w : World) (h : HasMod A B t l w) (hfit : ModFit t l) (hD : kHgh.Row w D l.length (highsL l))
    (r0 : kFrame.Row w A0 v.frames.length v.frames) (r1 : kRec.Row w A1 v.heap.length v.heap) (r3 : Knd.str.Row w A3 v.out.length v.out) (hM : MVm v) :
    Calls Tryz.prog 150 #[.agg #[.slice A t.length c, .slice B l.length d], .slice D l.length e0, .agg #[.slice A0 v.frames.length c0, .slice A1 v.heap.length c1, .int .i64 v.made, .slice A3 v.out.length c3, .int .i64 v.status, .int .i64 v.trap, .int .i64 v.value.k, .int .i64 v.value.n, .string v.value.s, .int .i64 v.steps]] w fun e w' => e = .returned (.bool (vmB l v)) ∧ Below w.heap.size w w' := by
  have hm := hfit.n12
  have hm' : l.length ≤ 1048576 := by omega
  have hnf := hM.1.1
  have hnh := hM.2.1.1
  have hno := hM.2.2.1.1
  have hS := ((St.start w).made (.cells #[.slice A t.length c, .slice B l.length d] 36 (0, 0))).madeAt (.cells #[.slice A0 v.frames.length c0, .slice A1 v.heap.length c1, .int .i64 v.made, .slice A3 v.out.length c3, .int .i64 v.status, .int .i64 v.trap, .int .i64 v.value.k, .int .i64 v.value.n, .string v.value.s, .int .i64 v.steps] 67 (0, 0)) (w.heap.size + 1) (by simp)
  cases hn : numsB v
  · have E := Lib.hid (show vmB l v = false by unfold vmB; rw [hn, Bool.false_and])
    unfold numsB at hn
    cases h1 : recsB v.heap
    · have H1 := Lib.hid h1
      clear h1 hn
      go_enter Tryz.func150, Tryz.ntmps150
      go_wp2_with fail
      refine (recsI A1 c1 v.heap _ (r1.below hS.bel) hnh).mono ?_
      rintro e w1 ⟨rfl, hb⟩
      rw [H1.out]
      replace hS := hS.step hb
      have x0 := hS.cell 0 rfl
      clear hb
      go_wp2
      go_ret
      exact ⟨ret_bool E.out.symm, hS.bel⟩
    rw [h1, Bool.true_and] at hn
    have H1 := Lib.hid h1
    clear h1
    cases h2 : btw v.made (v.heap.length : Int) 120
    · have H2 := Lib.hid h2
      clear h2 hn
      go_enter Tryz.func150, Tryz.ntmps150
      go_wp2_with fail
      refine (recsI A1 c1 v.heap _ (r1.below hS.bel) hnh).mono ?_
      rintro e w1 ⟨rfl, hb⟩
      rw [H1.out]
      replace hS := hS.step hb
      have x0 := hS.cell 0 rfl
      clear hb
      go_wp2_with (go_at_call 153; (with_reducible refine (inRange _ H2.out).mono ?_); rintro e w' ⟨rfl, rfl⟩)
      go_ret
      exact ⟨ret_bool E.out.symm, hS.bel⟩
    rw [h2, Bool.true_and] at hn
    have H2 := Lib.hid h2
    clear h2
    by_cases h3 : (v.out.length : Int) ≤ 200
    rotate_left
    · clear hn
      go_enter Tryz.func150, Tryz.ntmps150
      go_wp2_with fail
      refine (recsI A1 c1 v.heap _ (r1.below hS.bel) hnh).mono ?_
      rintro e w1 ⟨rfl, hb⟩
      rw [H1.out]
      replace hS := hS.step hb
      have x0 := hS.cell 0 rfl
      clear hb
      go_wp2_with (go_at_call 153; (with_reducible refine (inRange _ H2.out).mono ?_); rintro e w' ⟨rfl, rfl⟩)
      go_ret
      exact ⟨ret_bool E.out.symm, hS.bel⟩
    rw [decide_eq_true h3, Bool.true_and] at hn
    have H4 := Lib.hid hn
    clear hn
    go_enter Tryz.func150, Tryz.ntmps150
    go_wp2_with fail
    refine (recsI A1 c1 v.heap _ (r1.below hS.bel) hnh).mono ?_
    rintro e w1 ⟨rfl, hb⟩
    rw [H1.out]
    replace hS := hS.step hb
    have x0 := hS.cell 0 rfl
    clear hb
    go_wp2_with (go_at_call 153; first | ((with_reducible refine (inRange _ H2.out).mono ?_); rintro e w' ⟨rfl, rfl⟩) | ((with_reducible refine (inRange _ H4.out).mono ?_); rintro e w' ⟨rfl, rfl⟩))
    go_ret
    exact ⟨ret_bool E.out.symm, hS.bel⟩
  have E0 : vmB l v = (outsB v && ((valsB l v && frmsB l v.frames) && statB v)) := by unfold vmB; rw [hn, Bool.true_and]
  unfold numsB at hn
  simp only [Bool.and_eq_true, decide_eq_true_eq] at hn
  obtain ⟨h1, h2, h3, h4⟩ := hn
  have H1 := Lib.hid h1
  have H2 := Lib.hid h2
  have H4 := Lib.hid h4
  clear h1 h2 h4
  cases ho : outsB v
  · have E := Lib.hid (E0.trans (by rw [ho, Bool.false_and]))
    have HO := Lib.hid ((outs_any v).trans (by rw [ho]))
    clear E0 ho
    go_enter Tryz.func150, Tryz.ntmps150
    go_wp2_with fail
    refine (recsI A1 c1 v.heap _ (r1.below hS.bel) hnh).mono ?_
    rintro e w1 ⟨rfl, hb⟩
    rw [H1.out]
    replace hS := hS.step hb
    have x0 := hS.cell 0 rfl
    clear hb
    go_wp2_with (go_at_call 153; first | ((with_reducible refine (inRange _ H2.out).mono ?_); rintro e w' ⟨rfl, rfl⟩) | ((with_reducible refine (inRange _ H4.out).mono ?_); rintro e w' ⟨rfl, rfl⟩))
    refine (hasSo A3 c3 v.out (fun s => !textB s) _ (r3.below hS.bel) hno (fun x hx W hb cs hK => by
      obtain rfl : cs = [.string x] := hK
      exact outCl x W (Nat.le_trans (hM.2.2.1.2 x hx) (by unfold maxLen; omega)))).mono ?_
    rintro e w2 ⟨rfl, hb⟩
    rw [HO.out]
    replace hS := hS.step hb
    go_wp2
    go_ret
    exact ⟨ret_bool E.out.symm, hS.bel⟩
  have E1 := Lib.hid (E0.trans (show _ = ((valsB l v && frmsB l v.frames) && statB v) by rw [ho, Bool.true_and]))
  have HO := Lib.hid ((outs_any v).trans (by rw [ho]))
  clear E0 ho
  go_enter Tryz.func150, Tryz.ntmps150
  go_wp2_with fail
  refine (recsI A1 c1 v.heap _ (r1.below hS.bel) hnh).mono ?_
  rintro e w1 ⟨rfl, hb⟩
  rw [H1.out]
  replace hS := hS.step hb
  have x0 := hS.cell 0 rfl
  clear hb
  go_wp2_with (go_at_call 153; first | ((with_reducible refine (inRange _ H2.out).mono ?_); rintro e w' ⟨rfl, rfl⟩) | ((with_reducible refine (inRange _ H4.out).mono ?_); rintro e w' ⟨rfl, rfl⟩))
  refine (hasSo A3 c3 v.out (fun s => !textB s) _ (r3.below hS.bel) hno (fun x hx W hb cs hK => by
    obtain rfl : cs = [.string x] := hK
    exact outCl x W (Nat.le_trans (hM.2.2.1.2 x hx) (by unfold maxLen; omega)))).mono ?_
  rintro e w2 ⟨rfl, hb⟩
  rw [HO.out]
  replace hS := hS.step hb
  clear hb x0
  obtain ⟨g7, hg7⟩ : ∃ g7, w2.heap.size = g7 := ⟨_, rfl⟩
  have hS7 := hS.madeAt (.cells #[.bool true] 4 (0, 0)) g7 hg7
  have x0 := hS7.cell 1 rfl
  have CV := Lib.hid (valuesI A B A0 A1 A3 c d c0 c1 c3 g7 w.heap.size (w.heap.size + 1) t.length l v hS7 r0 r1 hM hm')
  go_wp2_with fail
  refine CV.out.mono ?_
  rintro e w3 ⟨rfl, hS3⟩
  clear hS hS7 CV x0
  have x0 := hS3.cell 1 rfl
  clear hg7
  go_wp2
  go_loopw [45] (fun i wr => ∃ (k : Nat) (b : Bool), k ≤ v.frames.length ∧ i = .int .i64 k ∧ Hid (b = (valsB l v && (List.range k).all (frmAt l v.frames))) ∧ St w [Res.box g7 (.cells #[.bool b] 4 (0, 0)), Res.box (w.heap.size + 1) (.cells #[.slice A0 v.frames.length c0, .slice A1 v.heap.length c1, .int .i64 v.made, .slice A3 v.out.length c3, .int .i64 v.status, .int .i64 v.trap, .int .i64 v.value.k, .int .i64 v.value.n, .string v.value.s, .int .i64 v.steps] 67 (0, 0)), Res.box w.heap.size (.cells #[.slice A t.length c, .slice B l.length d] 36 (0, 0))] wr) (fun i _ => v.frames.length - (intOf i).toNat)
  case atStart => exact ⟨0, valsB l v, by omega, rfl, Lib.hid (by simp), hS3⟩
  case round =>
    clear hS3 x0
    obtain ⟨k, b, hk, rfl, hb, hS⟩ := hrel
    have xb := hS.cell 0 rfl
    have fb := hS.free 0 rfl
    have zb := hS.blt 0 rfl
    have x0 := hS.cell 1 rfl
    have x2 := hS.cell 2 rfl
    by_cases hlt : k < v.frames.length
    · obtain ⟨x, hx⟩ := get_exU v.frames k hlt
      obtain ⟨ad, A2, A4, c2, c4, rfl, q0', q1', q2', q3', hl2, hr2, hl4, hr4⟩ := kFrame_at r0 k x hx
      have q0 := kept hS.bel q0'
      have q1 := kept hS.bel q1'
      have q2 := kept hS.bel q2'
      have q3 := kept hS.bel q3'
      have HA := Lib.hid ((range_all (P := frmAt l v.frames) k).trans (by rw [frmAt_of hx]))
      obtain ⟨g8, hg8⟩ : ∃ g8, wr.heap.size = g8 := ⟨_, rfl⟩
      rw [hg8] at zb
      have hT := hS.madeAt (.cells #[.int .i64 x.fn, .int .i64 x.pc, .slice A2 x.locals.length c2, .slice A4 x.stack.length c4] 145 (0, 0)) g8 hg8
      clear hx q0' q1' q2' q3'
      have hF := h.below hT.bel
      have xb' := hT.cell 1 rfl
      have fb' := hT.free 1 rfl
      have zb' := hT.blt 1 rfl
      have x0' := hT.cell 2 rfl
      have x2' := hT.cell 3 rfl
      cases b
      · have HB := Lib.hid (show false = (valsB l v && (List.range (k + 1)).all (frmAt l v.frames)) by rw [HA.out, ← Bool.and_assoc, ← hb.out]; rfl)
        have HS := Lib.hid ((hS.set 0 rfl 0 (.bool false)).al (.cells #[.int .i64 x.fn, .int .i64 x.pc, .slice A2 x.locals.length c2, .slice A4 x.stack.length c4] 145 (0, 0)))
        go_wp2
        go_roundw
        case rel => exact ⟨k + 1, false, by omega, by go_num, HB, HS.out⟩
        case measure => simp [intOf]; omega
      · have hb' := hb.out
        have ew : IntKind.i64.wrap ((v.frames.length : Int) - 1) = (v.frames.length : Int) - 1 := IntWalk.i64_in _ (by omega)
        have HB : Hid (∀ e, decide (k + 1 = v.frames.length) = e → frmB l x.fn x.pc x.locals.length x.stack.length e = (valsB l v && (List.range (k + 1)).all (frmAt l v.frames))) := Lib.hid (fun e he => by rw [HA.out, ← Bool.and_assoc, ← hb', Bool.true_and, he])
        clear hb'
        go_wp2_with fail
        refine (frameI A B D c d e0 t l x.fn x.pc x.locals.length x.stack.length _ _ hF hfit (hD.below hT.bel)).mono ?_
        rintro e w5 ⟨rfl, hb2⟩
        rw [HB.out _ (show decide (k + 1 = v.frames.length) = ((k : Int) == (v.frames.length : Int) - 1) by rw [Bool.eq_iff_iff]; simp; omega)]
        have hT2 := hT.step hb2
        clear hb2 xb xb' fb fb' zb zb' x0' x2' x0 x2 q0 q1 q2 q3 hT hF
        have xb := hT2.cell 1 rfl
        have fb := hT2.free 1 rfl
        have zb := hT2.blt 1 rfl
        obtain ⟨b9, hb9⟩ : ∃ b9, (valsB l v && (List.range (k + 1)).all (frmAt l v.frames)) = b9 := ⟨_, rfl⟩
        rw [hb9]
        have HB9 := Lib.hid hb9.symm
        have HS := Lib.hid ((hT2.set 1 rfl 0 (.bool b9)).drop)
        clear hb9
        go_wp2
        go_roundw
        case rel => exact ⟨k + 1, b9, by omega, by go_num, HB9, HS.out⟩
        case measure => simp [intOf]; omega
    obtain rfl : k = v.frames.length := by omega
    have HB := Lib.hid (show vmB l v = (b && statB v) by rw [E1.out, hb.out]; rfl)
    clear hb hlt hk
    have hbel := hS.bel
    go_wp2_with (go_at_call 153; first | ((with_reducible refine (inRange (r := btw (v.frames.length : Int) 1 24) _ rfl).mono ?_); rintro e w' ⟨rfl, rfl⟩) | ((with_reducible refine (inRange (r := btw v.trap 1 8) _ rfl).mono ?_); rintro e w' ⟨rfl, rfl⟩))
    all_goals (go_ret; refine ⟨ret_bool ?_, hbel⟩; rw [HB.out, Bool.eq_iff_iff]; simp_all [statB, manyB, nilV, noS])
set_option maxHeartbeats 4000000 in
set_option maxRecDepth 100000 in
theorem vmOkI (A B A0 A1 A3 : Option Addr) (c d c0 c1 c3 : Nat) (t : List ByteArray) (l : List DFunc) (v : DVm) (w : World) (h : HasMod A B t l w)
    (r0 : kFrame.Row w A0 v.frames.length v.frames) (r1 : kRec.Row w A1 v.heap.length v.heap) (r3 : Knd.str.Row w A3 v.out.length v.out) (hM : MVm v) {r : Bool} (hr : vmOkB t l v = r) :
    Calls Tryz.prog 94 #[.agg #[.slice A t.length c, .slice B l.length d], .agg #[.slice A0 v.frames.length c0, .slice A1 v.heap.length c1, .int .i64 v.made, .slice A3 v.out.length c3, .int .i64 v.status, .int .i64 v.trap, .int .i64 v.value.k, .int .i64 v.value.n, .string v.value.s, .int .i64 v.steps]] w fun e w' => e = .returned (.bool r) ∧ Below w.heap.size w w' := by
  subst hr
  have hS := (((St.start w).made (.cells #[.slice A t.length c, .slice B l.length d] 36 (0, 0))).madeAt (.cells #[.slice A0 v.frames.length c0, .slice A1 v.heap.length c1, .int .i64 v.made, .slice A3 v.out.length c3, .int .i64 v.status, .int .i64 v.trap, .int .i64 v.value.k, .int .i64 v.value.n, .string v.value.s, .int .i64 v.steps] 67 (0, 0)) (w.heap.size + 1) (by simp)).drew
  cases hg : isGoodB t l
  · have E := Lib.hid (show vmOkB t l v = false by unfold vmOkB; rw [hg]; rfl)
    have HG := Lib.hid hg
    clear hg
    go_enter Tryz.func94, Tryz.ntmps94
    go_wp2
    refine wp_region_held_drew (S := (fun w' => w'.cell? ⟨w.heap.size, 0, none⟩ = some (.slice A t.length c) ∧ w'.cell? ⟨w.heap.size, 1, none⟩ = some (.slice B l.length d) ∧ w'.cell? ⟨w.heap.size + 1, 0, none⟩ = some (.slice A0 v.frames.length c0) ∧ w'.cell? ⟨w.heap.size + 1, 1, none⟩ = some (.slice A1 v.heap.length c1) ∧ w'.cell? ⟨w.heap.size + 1, 2, none⟩ = some (.int .i64 v.made) ∧ w'.cell? ⟨w.heap.size + 1, 3, none⟩ = some (.slice A3 v.out.length c3) ∧ w'.cell? ⟨w.heap.size + 1, 4, none⟩ = some (.int .i64 v.status) ∧ w'.cell? ⟨w.heap.size + 1, 5, none⟩ = some (.int .i64 v.trap) ∧ w'.cell? ⟨w.heap.size + 1, 6, none⟩ = some (.int .i64 v.value.k) ∧ w'.cell? ⟨w.heap.size + 1, 7, none⟩ = some (.int .i64 v.value.n) ∧ w'.cell? ⟨w.heap.size + 1, 8, none⟩ = some (.string v.value.s) ∧ w'.cell? ⟨w.heap.size + 1, 9, none⟩ = some (.int .i64 v.steps))) (by kernel_rfl) (⟨hS.cell 1 rfl 0, hS.cell 1 rfl 1, hS.cell 0 rfl 0, hS.cell 0 rfl 1, hS.cell 0 rfl 2, hS.cell 0 rfl 3, hS.cell 0 rfl 4, hS.cell 0 rfl 5, hS.cell 0 rfl 6, hS.cell 0 rfl 7, hS.cell 0 rfl 8, hS.cell 0 rfl 9⟩) (fun hHeld => ?_)
    (first | refine rQ1 ?_ | refine rQ2 ?_); (try simp only [pP])
    refine regC 1 rfl (by kernel_rfl) (by rfl) (fun Kq hKq => ?_)
    go_simp
    (with_reducible refine (isGoodI A B c d t l _ (h.below hS.bel) HG.out).mono ?_)
    rintro e w1 ⟨rfl, hb⟩; have hS1 := hS.step hb; clear hb
    try go_wp2_with fail
    refine hKq.out _ _ (⟨hS1.cell 1 rfl 0, hS1.cell 1 rfl 1, hS1.cell 0 rfl 0, hS1.cell 0 rfl 1, hS1.cell 0 rfl 2, hS1.cell 0 rfl 3, hS1.cell 0 rfl 4, hS1.cell 0 rfl 5, hS1.cell 0 rfl 6, hS1.cell 0 rfl 7, hS1.cell 0 rfl 8, hS1.cell 0 rfl 9⟩) (fun hHeld => ?_)
    clear hKq Kq
    (try simp only [pP])
    (first | refine rQ1 ?_ | refine rQ2 ?_); (try simp only [pP])
    refine regS (fun _ _ _ d h => by cases d <;> exact h) [3, 4, 5, 6, 7] _ _ _ rfl (by kernel_rfl) (by assumption) ?_
    simp only [skipL, List.getElem?_cons_zero, List.getElem?_cons_succ, Option.bind_some, pP]
    (iterate 2 (first | refine rQ1 ?_ | refine rQ2 ?_); try simp only [pP])
    refine wpAnyH_done (by kernel_rfl) ?_ _
    clear hHeld
    go_wp2
    go_ret
    exact ⟨ret_bool E.out.symm, hS1.bel⟩
  · have E := Lib.hid (show vmOkB t l v = vmB l v by unfold vmOkB; rw [hg]; rfl)
    have hfit := Lib.hid (modFit (isGood_mod hg))
    have HG := Lib.hid hg
    clear hg
    go_enter Tryz.func94, Tryz.ntmps94
    go_wp2
    refine wp_region_held_drew (S := (fun w' => w'.cell? ⟨w.heap.size, 0, none⟩ = some (.slice A t.length c) ∧ w'.cell? ⟨w.heap.size, 1, none⟩ = some (.slice B l.length d) ∧ w'.cell? ⟨w.heap.size + 1, 0, none⟩ = some (.slice A0 v.frames.length c0) ∧ w'.cell? ⟨w.heap.size + 1, 1, none⟩ = some (.slice A1 v.heap.length c1) ∧ w'.cell? ⟨w.heap.size + 1, 2, none⟩ = some (.int .i64 v.made) ∧ w'.cell? ⟨w.heap.size + 1, 3, none⟩ = some (.slice A3 v.out.length c3) ∧ w'.cell? ⟨w.heap.size + 1, 4, none⟩ = some (.int .i64 v.status) ∧ w'.cell? ⟨w.heap.size + 1, 5, none⟩ = some (.int .i64 v.trap) ∧ w'.cell? ⟨w.heap.size + 1, 6, none⟩ = some (.int .i64 v.value.k) ∧ w'.cell? ⟨w.heap.size + 1, 7, none⟩ = some (.int .i64 v.value.n) ∧ w'.cell? ⟨w.heap.size + 1, 8, none⟩ = some (.string v.value.s) ∧ w'.cell? ⟨w.heap.size + 1, 9, none⟩ = some (.int .i64 v.steps))) (by kernel_rfl) (⟨hS.cell 1 rfl 0, hS.cell 1 rfl 1, hS.cell 0 rfl 0, hS.cell 0 rfl 1, hS.cell 0 rfl 2, hS.cell 0 rfl 3, hS.cell 0 rfl 4, hS.cell 0 rfl 5, hS.cell 0 rfl 6, hS.cell 0 rfl 7, hS.cell 0 rfl 8, hS.cell 0 rfl 9⟩) (fun hHeld => ?_)
    (first | refine rQ1 ?_ | refine rQ2 ?_); (try simp only [pP])
    refine regC 1 rfl (by kernel_rfl) (by rfl) (fun Kq hKq => ?_)
    go_simp
    (with_reducible refine (isGoodI A B c d t l _ (h.below hS.bel) HG.out).mono ?_)
    rintro e w1 ⟨rfl, hb⟩; have hS1 := hS.step hb; clear hb
    try go_wp2_with fail
    refine hKq.out _ _ (⟨hS1.cell 1 rfl 0, hS1.cell 1 rfl 1, hS1.cell 0 rfl 0, hS1.cell 0 rfl 1, hS1.cell 0 rfl 2, hS1.cell 0 rfl 3, hS1.cell 0 rfl 4, hS1.cell 0 rfl 5, hS1.cell 0 rfl 6, hS1.cell 0 rfl 7, hS1.cell 0 rfl 8, hS1.cell 0 rfl 9⟩) (fun hHeld => ?_)
    clear hKq Kq
    (try simp only [pP])
    (iterate 3 (first | refine rQ1 ?_ | refine rQ2 ?_); try simp only [pP]); (first | refine rW 6 ?_ | refine rV 6 ?_); (try simp only [pP])
    refine regC 5 rfl (by kernel_rfl) (by rfl) (fun Kq hKq => ?_)
    go_simp
    (with_reducible refine (heightsI A B c d t l _ (h.below hS1.bel).hr hfit.out).mono ?_)
    intro e w2 hn; obtain ⟨v2, F2, rfl, hS2⟩ := hS1.newRow hn; obtain ⟨D, e0, rfl, _, hD⟩ := hS2.row 0 rfl; rw [highsL_len] at hD; clear hn
    try go_wp2_with fail
    refine hKq.out _ _ (⟨hS2.cell 2 rfl 0, hS2.cell 2 rfl 1, hS2.cell 1 rfl 0, hS2.cell 1 rfl 1, hS2.cell 1 rfl 2, hS2.cell 1 rfl 3, hS2.cell 1 rfl 4, hS2.cell 1 rfl 5, hS2.cell 1 rfl 6, hS2.cell 1 rfl 7, hS2.cell 1 rfl 8, hS2.cell 1 rfl 9⟩) (fun hHeld => ?_)
    clear hKq Kq
    (try simp only [pP])
    rw [highsL_len]
    refine regC 7 rfl (by kernel_rfl) (by rfl) (fun Kq hKq => ?_)
    go_simp
    (with_reducible refine (vmI A B D A0 A1 A3 c d e0 c0 c1 c3 t l v _ (h.below hS2.bel) hfit.out hD (r0.below hS2.bel) (r1.below hS2.bel) (r3.below hS2.bel) hM).mono ?_)
    rintro e w3 ⟨rfl, hb⟩; have hS3 := hS2.step hb; clear hb
    try go_wp2_with fail
    refine hKq.out _ _ (⟨hS3.cell 2 rfl 0, hS3.cell 2 rfl 1, hS3.cell 1 rfl 0, hS3.cell 1 rfl 1, hS3.cell 1 rfl 2, hS3.cell 1 rfl 3, hS3.cell 1 rfl 4, hS3.cell 1 rfl 5, hS3.cell 1 rfl 6, hS3.cell 1 rfl 7, hS3.cell 1 rfl 8, hS3.cell 1 rfl 9⟩) (fun hHeld => ?_)
    clear hKq Kq
    (try simp only [pP])
    (iterate 2 (first | refine rQ1 ?_ | refine rQ2 ?_); try simp only [pP])
    refine wpAnyH_done (by kernel_rfl) ?_ _
    clear hHeld
    go_wp2
    go_ret
    exact ⟨ret_bool E.out.symm, hS3.bel⟩
end Go.Proofs.YthinhlcfpaaldaaGreat.Dat

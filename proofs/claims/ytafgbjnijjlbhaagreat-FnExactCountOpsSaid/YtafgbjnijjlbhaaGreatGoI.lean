/- The ops at a place; the counts of ops. -/
import Derived.Test.YtafgbjnijjlbhaaGreatFlO
namespace Go.Proofs.YtafgbjnijjlbhaaGreat.Dat
open Go Go.RowKit Go.Proofs.YtafgbjnijjlbhaaGreat.Mem
set_option linter.unusedVariables false
set_option linter.unusedSimpArgs false
theorem opsAt_small (t : List ByteArray) (l : List DFunc) (c : DFast) (f p : Int) : (opsAtL t l c f p).length ≤ 1048576 := by
  unfold opsAtL
  cases hf : fastOkB t l c
  · simp
  · have hb : fastB l c = true := by unfold fastOkB at hf; rw [Bool.and_eq_true] at hf; exact hf.2
    have h1 := (fast_len hb).2.1
    have h2 := opsZ_len c.ops f p c.ops.length
    rw [List.take_length] at h2
    simp only [if_true]
    omega
theorem counts_small (t : List ByteArray) (l : List DFunc) (c : DFast) : (countsL t l c).length ≤ 1048576 := by
  unfold countsL
  cases hf : fastOkB t l c
  · simp
  · simp only [if_true, cntL_len]
    omega
theorem fastOk_fast {t : List ByteArray} {l : List DFunc} {c : DFast} (h : fastOkB t l c = true) : fastB l c = true := by
  unfold fastOkB at h
  rw [Bool.and_eq_true] at h
  exact h.2
set_option maxHeartbeats 4000000 in
set_option maxRecDepth 100000 in
theorem opsAtI (A B A4 A5 : Option Addr) (c0 d0 c4 c5 : Nat) (t : List ByteArray) (l : List DFunc) (c : DFast) (f p : Int) (w : World) (h : HasMod A B t l w) (r4 : kFOp.Row w A4 c.ops.length c.ops) (r5 : kExit.Row w A5 c.exits.length c.exits) (hM : MFast c) (hms : msFast c ≤ 1048576) {X : List Int} (hX : opsAtL t l c f p = X) :
    Calls Tryz.prog 28 #[.agg #[.slice A t.length c0, .slice B l.length d0], .agg #[.int .i64 c.fn, .int .i64 c.entry, .int .i64 c.vals, .int .i64 c.nums, .slice A4 c.ops.length c4, .slice A5 c.exits.length c5], .int .i64 f, .int .i64 p] w (NewRow (Knd.int .i64) 3 X w) := by
  subst hX
  have hS := ((St.start w).made (.cells #[.slice A t.length c0, .slice B l.length d0] 35 (0, 0))).madeAt (.cells #[.int .i64 c.fn, .int .i64 c.entry, .int .i64 c.vals, .int .i64 c.nums, .slice A4 c.ops.length c4, .slice A5 c.exits.length c5] 40 (0, 0)) (w.heap.size + 1) (by simp)
  cases hf : fastOkB t l c
  · have e : opsAtL t l c f p = [] := by unfold opsAtL; rw [hf]; rfl
    rw [e]
    have HF := Lib.hid hf
    clear hf e
    go_enter Tryz.func28, Tryz.ntmps28
    go_wp2_with fail
    refine (fastOkI A B A4 A5 c0 d0 c4 c5 t l c _ (h.below hS.bel) (r4.below hS.bel) (r5.below hS.bel) hM hms HF.out).mono ?_
    rintro e w1 ⟨rfl, hb⟩
    replace hS := hS.step hb
    clear hb
    go_wp2
    go_ret
    exact newNil _ _ _ _ hS.bel
  have e : opsAtL t l c f p = opsZ c.ops f p := by unfold opsAtL; rw [hf]; rfl
  rw [e]
  have hb9 := fastOk_fast hf
  have hl9 := (fast_len hb9).2.1
  have HF := Lib.hid hf
  clear hf e hb9
  go_enter Tryz.func28, Tryz.ntmps28
  go_wp2_with fail
  refine (fastOkI A B A4 A5 c0 d0 c4 c5 t l c _ (h.below hS.bel) (r4.below hS.bel) (r5.below hS.bel) hM hms HF.out).mono ?_
  rintro e w1 ⟨rfl, hb⟩
  replace hS := hS.step hb
  clear hb
  have hT := hS.emptyV (Knd.int .i64) 3 w1.heap.size rfl
  have x_f := hT.cell 1 rfl
  go_wp2
  clear x_f
  go_loopw [9, 20] (fun v i wr => ∃ (k : Nat) (F : List Nat), k ≤ c.ops.length ∧ i = .int .i64 k ∧ St w [Res.own (Knd.int .i64) 3 v (opsZ (c.ops.take k) f p) F, Res.box (w.heap.size + 1) (.cells #[.int .i64 c.fn, .int .i64 c.entry, .int .i64 c.vals, .int .i64 c.nums, .slice A4 c.ops.length c4, .slice A5 c.exits.length c5] 40 (0, 0)), Res.box w.heap.size (.cells #[.slice A t.length c0, .slice B l.length d0] 35 (0, 0))] wr) (fun _ i _ => c.ops.length - (intOf i).toNat)
  case atStart => exact ⟨0, _, by omega, rfl, hT⟩
  case round =>
    clear hS hT
    obtain ⟨k, F, hk, rfl, hS⟩ := hrel
    have x_f := hS.cell 1 rfl
    by_cases hlt : k < c.ops.length
    rotate_left
    · obtain rfl : k = c.ops.length := by omega
      rw [List.take_length] at hS
      go_wp2
      go_ret
      exact hS.outRow 0 rfl
    obtain ⟨o, ho⟩ := get_exU c.ops k hlt
    have hzl := opsZ_len c.ops f p k
    obtain ⟨op, od, oa, ob, ox, of_, op_, ⟨vk, vn, vs⟩⟩ := o
    obtain ⟨ad, rfl, q0, q1, q2, q3, q4, q5, q6, q7, q8, q9⟩ := kFOp_at r4 k _ ho
    dsimp only at q0 q1 q2 q3 q4 q5 q6 q7 q8 q9
    have u0 := kept hS.bel q0
    have u1 := kept hS.bel q1
    have u2 := kept hS.bel q2
    have u3 := kept hS.bel q3
    have u4 := kept hS.bel q4
    have u5 := kept hS.bel q5
    have u6 := kept hS.bel q6
    have u7 := kept hS.bel q7
    have u8 := kept hS.bel q8
    have u9 := kept hS.bel q9
    clear q0 q1 q2 q3 q4 q5 q6 q7 q8 q9
    obtain ⟨Av, cv, rfl, _, _⟩ := hS.row 0 rfl
    by_cases hf1 : of_ = f
    · have m1 : (of_ == f) = true := by simp [hf1]
      by_cases hp1 : op_ = p
      · have m2 : (op_ == p) = true := by simp [hp1]
        have HN := Lib.hid (opsZ_yes ho hf1 hp1)
        clear ho hf1 hp1
        replace hS := hS.made (.cells #[.int .i64 op, .int .i64 od, .int .i64 oa, .int .i64 ob, .int .i64 ox, .int .i64 of_, .int .i64 op_, .int .i64 vk, .int .i64 vn, .string vs] 107 (0, 0))
        go_wp2_with (at_builtin; refine Knd.wp_app1 rfl _ _ _ rfl 3 Tryz.underlying45 (.int .i64 0) 8 infoInt rfl rfl ((hS.al _).own_ 1 rfl) _ _ _ _ _ (blkAt _ _ (by simp)) rfl (by (try simp [maxLen]); (try omega)) (by (try simp); (try omega)) ?_; rintro gq cq wq hO hB hg; have hSq := (hS.al _).app1 1 rfl hO hB hg; clear hO hB hg hS; have hS := hSq; clear hSq)
        go_roundw
        case rel => exact ⟨k + 1, _, by omega, by go_num, by rw [HN.out]; exact hS.drop⟩
        case measure => simp [intOf]; omega
      · have m2 : (op_ == p) = false := by simp [hp1]
        have HN := Lib.hid (opsZ_not (f := f) (p := p) ho (fun e => hp1 e.2))
        clear ho hf1 hp1
        replace hS := hS.made (.cells #[.int .i64 op, .int .i64 od, .int .i64 oa, .int .i64 ob, .int .i64 ox, .int .i64 of_, .int .i64 op_, .int .i64 vk, .int .i64 vn, .string vs] 107 (0, 0))
        go_wp2
        go_roundw
        case rel => exact ⟨k + 1, _, by omega, by go_num, by rw [HN.out]; exact hS.drop⟩
        case measure => simp [intOf]; omega
    · have m1 : (of_ == f) = false := by simp [hf1]
      have HN := Lib.hid (opsZ_not (f := f) (p := p) ho (fun e => hf1 e.1))
      clear ho hf1
      replace hS := hS.made (.cells #[.int .i64 op, .int .i64 od, .int .i64 oa, .int .i64 ob, .int .i64 ox, .int .i64 of_, .int .i64 op_, .int .i64 vk, .int .i64 vn, .string vs] 107 (0, 0))
      go_wp2
      go_roundw
      case rel => exact ⟨k + 1, _, by omega, by go_num, by rw [HN.out]; exact hS.drop⟩
      case measure => simp [intOf]; omega
set_option maxHeartbeats 4000000 in
set_option maxRecDepth 100000 in
theorem opsAt3 (A B A4 A5 : Option Addr) (c0 d0 c4 c5 : Nat) (t : List ByteArray) (l : List DFunc) (c : DFast) (f p : Int) (w : World) (h : HasMod A B t l w) (r4 : kFOp.Row w A4 c.ops.length c.ops) (r5 : kExit.Row w A5 c.exits.length c.exits) (hM : MFast c) (hms : msFast c ≤ 1048576) {X : List Int} (hX : opsAtL t l c f p = X) :
    Calls Tryz.prog 27 #[.agg #[.slice A t.length c0, .slice B l.length d0], .agg #[.int .i64 c.fn, .int .i64 c.entry, .int .i64 c.vals, .int .i64 c.nums, .slice A4 c.ops.length c4, .slice A5 c.exits.length c5], .int .i64 f, .int .i64 p] w (NewRow (Knd.int .i64) 3 X w) := by
  subst hX
  have hS := ((St.start w).made (.cells #[.slice A t.length c0, .slice B l.length d0] 35 (0, 0))).madeAt (.cells #[.int .i64 c.fn, .int .i64 c.entry, .int .i64 c.vals, .int .i64 c.nums, .slice A4 c.ops.length c4, .slice A5 c.exits.length c5] 40 (0, 0)) (w.heap.size + 1) (by simp)
  cases hf : fastOkB t l c
  · have e : opsAtL t l c f p = [] := by unfold opsAtL; rw [hf]; rfl
    rw [e]
    have HF := Lib.hid hf
    clear hf e
    replace hS := hS.emptyV (Knd.int .i64) 3 (w.heap.size + 1 + 1) (by simp)
    go_enter Tryz.func27, Tryz.ntmps27
    go_wp2_with fail
    refine (fastOk3 A B A4 A5 c0 d0 c4 c5 t l c _ (h.below hS.bel) (r4.below hS.bel) (r5.below hS.bel) hM hms HF.out).mono ?_
    rintro e w1 ⟨rfl, hb⟩
    replace hS := hS.step hb
    clear hb
    go_wp2
    go_ret
    exact hS.outRow 0 rfl
  have e : opsAtL t l c f p = opsZ c.ops f p := by unfold opsAtL; rw [hf]; rfl
  rw [e]
  have hb9 := fastOk_fast hf
  have hl9 := (fast_len hb9).2.1
  have HF := Lib.hid hf
  clear hf e hb9
  replace hS := hS.emptyV (Knd.int .i64) 3 (w.heap.size + 1 + 1) (by simp)
  go_enter Tryz.func27, Tryz.ntmps27
  go_wp2_with fail
  refine (fastOk3 A B A4 A5 c0 d0 c4 c5 t l c _ (h.below hS.bel) (r4.below hS.bel) (r5.below hS.bel) hM hms HF.out).mono ?_
  rintro e w1 ⟨rfl, hb⟩
  replace hS := hS.step hb
  clear hb
  have x_f := hS.cell 1 rfl
  go_wp2
  clear x_f
  go_loopw [9, 10] (fun v i wr => ∃ (k : Nat) (F : List Nat), k ≤ c.ops.length ∧ i = .int .i64 k ∧ St w [Res.own (Knd.int .i64) 3 v (opsZ (c.ops.take k) f p) F, Res.box (w.heap.size + 1) (.cells #[.int .i64 c.fn, .int .i64 c.entry, .int .i64 c.vals, .int .i64 c.nums, .slice A4 c.ops.length c4, .slice A5 c.exits.length c5] 40 (0, 0)), Res.box w.heap.size (.cells #[.slice A t.length c0, .slice B l.length d0] 35 (0, 0))] wr) (fun _ i _ => c.ops.length - (intOf i).toNat)
  case atStart => exact ⟨0, _, by omega, rfl, hS⟩
  case round =>
    clear hS
    obtain ⟨k, F, hk, rfl, hS⟩ := hrel
    have x_f := hS.cell 1 rfl
    by_cases hlt : k < c.ops.length
    rotate_left
    · obtain rfl : k = c.ops.length := by omega
      rw [List.take_length] at hS
      go_wp2
      go_ret
      exact hS.outRow 0 rfl
    obtain ⟨o, ho⟩ := get_exU c.ops k hlt
    have hzl := opsZ_len c.ops f p k
    obtain ⟨op, od, oa, ob, ox, of_, op_, ⟨vk, vn, vs⟩⟩ := o
    obtain ⟨ad, rfl, q0, q1, q2, q3, q4, q5, q6, q7, q8, q9⟩ := kFOp_at r4 k _ ho
    dsimp only at q0 q1 q2 q3 q4 q5 q6 q7 q8 q9
    have u0 := kept hS.bel q0
    have u1 := kept hS.bel q1
    have u2 := kept hS.bel q2
    have u3 := kept hS.bel q3
    have u4 := kept hS.bel q4
    have u5 := kept hS.bel q5
    have u6 := kept hS.bel q6
    have u7 := kept hS.bel q7
    have u8 := kept hS.bel q8
    have u9 := kept hS.bel q9
    clear q0 q1 q2 q3 q4 q5 q6 q7 q8 q9
    obtain ⟨Av, cv, rfl, _, _⟩ := hS.row 0 rfl
    by_cases hf1 : of_ = f
    · have m1 : (of_ == f) = true := by simp [hf1]
      by_cases hp1 : op_ = p
      · have m2 : (op_ == p) = true := by simp [hp1]
        have HN := Lib.hid (opsZ_yes ho hf1 hp1)
        clear ho hf1 hp1
        go_wp2_with (at_builtin; refine Knd.wp_app1 rfl _ _ _ rfl 3 Tryz.underlying45 (.int .i64 0) 8 infoInt rfl rfl ((hS.al _).own_ 0 rfl) _ _ _ _ _ (blkAt _ _ (by simp)) rfl (by (try simp [maxLen]); (try omega)) (by (try simp); (try omega)) ?_; rintro gq cq wq hO hB hg; have hSq := (hS.al _).app1 0 rfl hO hB hg; clear hO hB hg hS; have hS := hSq; clear hSq)
        go_roundw
        case rel => exact ⟨k + 1, _, by omega, by go_num, by rw [HN.out]; exact hS⟩
        case measure => simp [intOf]; omega
      · have m2 : (op_ == p) = false := by simp [hp1]
        have HN := Lib.hid (opsZ_not (f := f) (p := p) ho (fun e => hp1 e.2))
        clear ho hf1 hp1
        go_wp2
        go_roundw
        case rel => exact ⟨k + 1, _, by omega, by go_num, by rw [HN.out]; exact hS⟩
        case measure => simp [intOf]; omega
    · have m1 : (of_ == f) = false := by simp [hf1]
      have HN := Lib.hid (opsZ_not (f := f) (p := p) ho (fun e => hf1 e.1))
      clear ho hf1
      go_wp2
      go_roundw
      case rel => exact ⟨k + 1, _, by omega, by go_num, by rw [HN.out]; exact hS⟩
      case measure => simp [intOf]; omega
set_option maxHeartbeats 4000000 in
set_option maxRecDepth 100000 in
theorem countsI (A B A4 A5 : Option Addr) (c0 d0 c4 c5 : Nat) (t : List ByteArray) (l : List DFunc) (c : DFast) (w : World) (h : HasMod A B t l w) (r4 : kFOp.Row w A4 c.ops.length c.ops) (r5 : kExit.Row w A5 c.exits.length c.exits) (hM : MFast c) (hms : msFast c ≤ 1048576) {X : List Int} (hX : countsL t l c = X) :
    Calls Tryz.prog 21 #[.agg #[.slice A t.length c0, .slice B l.length d0], .agg #[.int .i64 c.fn, .int .i64 c.entry, .int .i64 c.vals, .int .i64 c.nums, .slice A4 c.ops.length c4, .slice A5 c.exits.length c5]] w (NewRow (Knd.int .i64) 3 X w) := by
  subst hX
  have hS := ((St.start w).made (.cells #[.slice A t.length c0, .slice B l.length d0] 35 (0, 0))).madeAt (.cells #[.int .i64 c.fn, .int .i64 c.entry, .int .i64 c.vals, .int .i64 c.nums, .slice A4 c.ops.length c4, .slice A5 c.exits.length c5] 40 (0, 0)) (w.heap.size + 1) (by simp)
  cases hf : fastOkB t l c
  · have e : countsL t l c = [] := by unfold countsL; rw [hf]; rfl
    rw [e]
    have HF := Lib.hid hf
    clear hf e
    go_enter Tryz.func21, Tryz.ntmps21
    go_wp2_with fail
    refine (fastOkI A B A4 A5 c0 d0 c4 c5 t l c _ (h.below hS.bel) (r4.below hS.bel) (r5.below hS.bel) hM hms HF.out).mono ?_
    rintro e w1 ⟨rfl, hb⟩
    replace hS := hS.step hb
    clear hb
    go_wp2
    go_ret
    exact newNil _ _ _ _ hS.bel
  have e : countsL t l c = cntL c.ops := by unfold countsL; rw [hf]; rfl
  rw [e]
  have hb9 := fastOk_fast hf
  have hl9 := (fast_len hb9).2.1
  have HF := Lib.hid hf
  clear hf e
  go_enter Tryz.func21, Tryz.ntmps21
  go_wp2_with fail
  refine (fastOkI A B A4 A5 c0 d0 c4 c5 t l c _ (h.below hS.bel) (r4.below hS.bel) (r5.below hS.bel) hM hms HF.out).mono ?_
  rintro e w1 ⟨rfl, hb⟩
  replace hS := hS.step hb
  clear hb
  obtain ⟨g, hg⟩ : ∃ g, w1.heap.size = g := ⟨_, rfl⟩
  have hT := hS.litAt (enc := Value.int .i64) (h1 := fun _ => rfl) (e := 3) (List.replicate 30 (0 : Int)) #[.int .i64 0, .int .i64 0, .int .i64 0, .int .i64 0, .int .i64 0, .int .i64 0, .int .i64 0, .int .i64 0, .int .i64 0, .int .i64 0, .int .i64 0, .int .i64 0, .int .i64 0, .int .i64 0, .int .i64 0, .int .i64 0, .int .i64 0, .int .i64 0, .int .i64 0, .int .i64 0, .int .i64 0, .int .i64 0, .int .i64 0, .int .i64 0, .int .i64 0, .int .i64 0, .int .i64 0, .int .i64 0, .int .i64 0, .int .i64 0] (by rfl) g hg 30 (by simp) (by simp)
  have x_f := hT.cell 1 rfl
  go_wp2_with (refine Knd.wp_makeB rfl _ _ _ rfl 30 rfl rfl 3 Tryz.underlying45 (.int .i64 0) 8 infoInt rfl (by decide) (by omega) ?_)
  clear x_f hg
  go_loopw [16] (fun i wr => ∃ (k : Nat), k ≤ c.ops.length ∧ i = .int .i64 k ∧ St w [Res.own (Knd.int .i64) 3 (.slice (some ⟨g, 0, none⟩) 30 30) (cntL (c.ops.take k)) [g], Res.box (w.heap.size + 1) (.cells #[.int .i64 c.fn, .int .i64 c.entry, .int .i64 c.vals, .int .i64 c.nums, .slice A4 c.ops.length c4, .slice A5 c.exits.length c5] 40 (0, 0)), Res.box w.heap.size (.cells #[.slice A t.length c0, .slice B l.length d0] 35 (0, 0))] wr) (fun i _ => c.ops.length - (intOf i).toNat)
  case atStart => exact ⟨0, by omega, rfl, hT⟩
  case round =>
    clear hS hT
    obtain ⟨k, hk, rfl, hS⟩ := hrel
    have x_f := hS.cell 1 rfl
    by_cases hlt : k < c.ops.length
    rotate_left
    · obtain rfl : k = c.ops.length := by omega
      rw [List.take_length] at hS
      go_wp2
      go_ret
      exact hS.outRow 0 rfl
    obtain ⟨o, ho⟩ := get_exU c.ops k hlt
    have hor := op_rng (fast_op hb9 ho)
    obtain ⟨op, od, oa, ob, ox, of_, op_, ⟨vk, vn, vs⟩⟩ := o
    dsimp only at hor
    obtain ⟨j, rfl⟩ : ∃ j : Nat, op = j := ⟨op.toNat, by omega⟩
    have j30 : j < 30 := by omega
    have hcl := cntL_len (c.ops.take k)
    obtain ⟨x, hx⟩ := get_exU (cntL (c.ops.take k)) j (by omega)
    have hxr := cntL_rng c.ops k hk x (List.mem_of_getElem? hx)
    have HN := Lib.hid (show cntL (c.ops.take (k + 1)) = (cntL (c.ops.take k)).set j (x + 1) by
      rw [cntL_snoc ho]
      unfold cntS
      rw [show ((j : Int)).toNat = j from Int.toNat_natCast j, List.getD_eq_getElem?_getD, hx]
      rfl)
    obtain ⟨ad, rfl, q0, q1, q2, q3, q4, q5, q6, q7, q8, q9⟩ := kFOp_at r4 k _ ho
    dsimp only at q0 q1 q2 q3 q4 q5 q6 q7 q8 q9
    have u0 := kept hS.bel q0
    have u1 := kept hS.bel q1
    have u2 := kept hS.bel q2
    have u3 := kept hS.bel q3
    have u4 := kept hS.bel q4
    have u5 := kept hS.bel q5
    have u6 := kept hS.bel q6
    have u7 := kept hS.bel q7
    have u8 := kept hS.bel q8
    have u9 := kept hS.bel q9
    clear q0 q1 q2 q3 q4 q5 q6 q7 q8 q9
    obtain ⟨g8, hg8⟩ : ∃ g8, wr.heap.size = g8 := ⟨_, rfl⟩
    have gl : g < g8 := by rw [← hg8]; exact hS.lts 0 rfl g (by simp [Res.own])
    have hS0 := hS
    replace hS := hS.madeAt (.cells #[.int .i64 (j : Int), .int .i64 od, .int .i64 oa, .int .i64 ob, .int .i64 ox, .int .i64 of_, .int .i64 op_, .int .i64 vk, .int .i64 vn, .string vs] 107 (0, 0)) g8 hg8
    have y0 := hS.cell1 1 rfl j x hx
    have fz := hS.free1 1 rfl j
    have hQ := Lib.hid ((hS0.put1 0 rfl j (by omega) (x + 1)).al (.cells #[.int .i64 (j : Int), .int .i64 od, .int .i64 oa, .int .i64 ob, .int .i64 ox, .int .i64 of_, .int .i64 op_, .int .i64 vk, .int .i64 vn, .string vs] 107 (0, 0)))
    clear ho hx hcl hor
    go_wp2
    go_roundw
    case rel => exact ⟨k + 1, by omega, by go_num, by rw [HN.out]; exact hQ.out⟩
    case measure => simp [intOf]; omega
set_option maxHeartbeats 4000000 in
set_option maxRecDepth 100000 in
theorem counts3 (A B A4 A5 : Option Addr) (c0 d0 c4 c5 : Nat) (t : List ByteArray) (l : List DFunc) (c : DFast) (w : World) (h : HasMod A B t l w) (r4 : kFOp.Row w A4 c.ops.length c.ops) (r5 : kExit.Row w A5 c.exits.length c.exits) (hM : MFast c) (hms : msFast c ≤ 1048576) {X : List Int} (hX : countsL t l c = X) :
    Calls Tryz.prog 20 #[.agg #[.slice A t.length c0, .slice B l.length d0], .agg #[.int .i64 c.fn, .int .i64 c.entry, .int .i64 c.vals, .int .i64 c.nums, .slice A4 c.ops.length c4, .slice A5 c.exits.length c5]] w (NewRow (Knd.int .i64) 3 X w) := by
  subst hX
  have hS := ((St.start w).made (.cells #[.slice A t.length c0, .slice B l.length d0] 35 (0, 0))).madeAt (.cells #[.int .i64 c.fn, .int .i64 c.entry, .int .i64 c.vals, .int .i64 c.nums, .slice A4 c.ops.length c4, .slice A5 c.exits.length c5] 40 (0, 0)) (w.heap.size + 1) (by simp)
  cases hf : fastOkB t l c
  · have e : countsL t l c = [] := by unfold countsL; rw [hf]; rfl
    rw [e]
    have HF := Lib.hid hf
    clear hf e
    go_enter Tryz.func20, Tryz.ntmps20
    go_wp2_with fail
    refine (fastOk3 A B A4 A5 c0 d0 c4 c5 t l c _ (h.below hS.bel) (r4.below hS.bel) (r5.below hS.bel) hM hms HF.out).mono ?_
    rintro e w1 ⟨rfl, hb⟩
    replace hS := hS.step hb
    clear hb
    have hS2 := hS.emptyV (Knd.int .i64) 3 w1.heap.size rfl
    go_wp2
    go_ret
    exact hS2.outRow 0 rfl
  have e : countsL t l c = cntL c.ops := by unfold countsL; rw [hf]; rfl
  rw [e]
  have hb9 := fastOk_fast hf
  have hl9 := (fast_len hb9).2.1
  have HF := Lib.hid hf
  clear hf e
  go_enter Tryz.func20, Tryz.ntmps20
  go_wp2_with fail
  refine (fastOk3 A B A4 A5 c0 d0 c4 c5 t l c _ (h.below hS.bel) (r4.below hS.bel) (r5.below hS.bel) hM hms HF.out).mono ?_
  rintro e w1 ⟨rfl, hb⟩
  replace hS := hS.step hb
  clear hb
  obtain ⟨g, hg⟩ : ∃ g, w1.heap.size = g := ⟨_, rfl⟩
  have hT := hS.litAt (enc := Value.int .i64) (h1 := fun _ => rfl) (e := 3) (List.replicate 30 (0 : Int)) #[.int .i64 0, .int .i64 0, .int .i64 0, .int .i64 0, .int .i64 0, .int .i64 0, .int .i64 0, .int .i64 0, .int .i64 0, .int .i64 0, .int .i64 0, .int .i64 0, .int .i64 0, .int .i64 0, .int .i64 0, .int .i64 0, .int .i64 0, .int .i64 0, .int .i64 0, .int .i64 0, .int .i64 0, .int .i64 0, .int .i64 0, .int .i64 0, .int .i64 0, .int .i64 0, .int .i64 0, .int .i64 0, .int .i64 0, .int .i64 0] (by rfl) g hg 30 (by simp) (by simp)
  have x_f := hT.cell 1 rfl
  go_wp2_with (refine Knd.wp_makeB rfl _ _ _ rfl 30 rfl rfl 3 Tryz.underlying45 (.int .i64 0) 8 infoInt rfl (by decide) (by omega) ?_)
  clear x_f hg
  go_loopw [6] (fun i wr => ∃ (k : Nat), k ≤ c.ops.length ∧ i = .int .i64 k ∧ St w [Res.own (Knd.int .i64) 3 (.slice (some ⟨g, 0, none⟩) 30 30) (cntL (c.ops.take k)) [g], Res.box (w.heap.size + 1) (.cells #[.int .i64 c.fn, .int .i64 c.entry, .int .i64 c.vals, .int .i64 c.nums, .slice A4 c.ops.length c4, .slice A5 c.exits.length c5] 40 (0, 0)), Res.box w.heap.size (.cells #[.slice A t.length c0, .slice B l.length d0] 35 (0, 0))] wr) (fun i _ => c.ops.length - (intOf i).toNat)
  case atStart => exact ⟨0, by omega, rfl, hT⟩
  case round =>
    clear hS hT
    obtain ⟨k, hk, rfl, hS⟩ := hrel
    have x_f := hS.cell 1 rfl
    by_cases hlt : k < c.ops.length
    rotate_left
    · obtain rfl : k = c.ops.length := by omega
      rw [List.take_length] at hS
      go_wp2
      go_ret
      exact hS.outRow 0 rfl
    obtain ⟨o, ho⟩ := get_exU c.ops k hlt
    have hor := op_rng (fast_op hb9 ho)
    obtain ⟨op, od, oa, ob, ox, of_, op_, ⟨vk, vn, vs⟩⟩ := o
    dsimp only at hor
    obtain ⟨j, rfl⟩ : ∃ j : Nat, op = j := ⟨op.toNat, by omega⟩
    have j30 : j < 30 := by omega
    have hcl := cntL_len (c.ops.take k)
    obtain ⟨x, hx⟩ := get_exU (cntL (c.ops.take k)) j (by omega)
    have hxr := cntL_rng c.ops k hk x (List.mem_of_getElem? hx)
    have HN := Lib.hid (show cntL (c.ops.take (k + 1)) = (cntL (c.ops.take k)).set j (x + 1) by
      rw [cntL_snoc ho]
      unfold cntS
      rw [show ((j : Int)).toNat = j from Int.toNat_natCast j, List.getD_eq_getElem?_getD, hx]
      rfl)
    obtain ⟨ad, rfl, q0, q1, q2, q3, q4, q5, q6, q7, q8, q9⟩ := kFOp_at r4 k _ ho
    dsimp only at q0 q1 q2 q3 q4 q5 q6 q7 q8 q9
    have u0 := kept hS.bel q0
    have u1 := kept hS.bel q1
    have u2 := kept hS.bel q2
    have u3 := kept hS.bel q3
    have u4 := kept hS.bel q4
    have u5 := kept hS.bel q5
    have u6 := kept hS.bel q6
    have u7 := kept hS.bel q7
    have u8 := kept hS.bel q8
    have u9 := kept hS.bel q9
    clear q0 q1 q2 q3 q4 q5 q6 q7 q8 q9
    obtain ⟨g8, hg8⟩ : ∃ g8, wr.heap.size = g8 := ⟨_, rfl⟩
    have gl : g < g8 := by rw [← hg8]; exact hS.lts 0 rfl g (by simp [Res.own])

    have y0 := hS.cell1 0 rfl j x hx
    have fz := hS.free1 0 rfl j
    have hQ := Lib.hid (hS.put1 0 rfl j (by omega) (x + 1))
    clear ho hx hcl hor
    go_wp2
    go_roundw
    case rel => exact ⟨k + 1, by omega, by go_num, by rw [HN.out]; exact hQ.out⟩
    case measure => simp [intOf]; omega
end Go.Proofs.YtafgbjnijjlbhaaGreat.Dat

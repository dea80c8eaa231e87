/- The guesses of a tier that failed, in the program. -/
import Derived.Test.YthinhlcfpaaldaaGreatTiC
namespace Go.Proofs.YthinhlcfpaaldaaGreat.Dat
open Go Go.RowKit Go.Proofs.YthinhlcfpaaldaaGreat.Mem
set_option linter.unusedVariables false
set_option linter.unusedSimpArgs false
theorem row_cutK {α : Type} {d : Knd α} {W : World} {A : Option Addr} {n : Nat} {xs : List α} (h : d.Row W A n xs) (k : Nat) (hk : k ≤ n) : d.Row W A k (xs.take k) := by
  refine ⟨by rw [List.length_take, h.1]; omega, by have := h.2.1; omega, fun h0 => ?_⟩
  obtain ⟨ad, e, hc⟩ := h.2.2 (by omega)
  refine ⟨ad, e, fun j p hj => hc j p ?_⟩
  rw [List.getElem?_take] at hj
  split at hj
  · exact hj
  · cases hj
set_option maxHeartbeats 4000000 in
set_option maxRecDepth 100000 in
theorem failCl (x : DFail) (fn pc : Int) (g1 : Nat) (W : World) (q0 : W.cell? ⟨g1, 0, none⟩ = some (.int .i64 fn)) (q1 : W.cell? ⟨g1, 1, none⟩ = some (.int .i64 pc)) :
    Calls Tryz.prog 255 #[.agg #[.int .i64 x.fn, .int .i64 x.pc, .int .i64 x.kind, .int .i64 x.count], .pointer (some ⟨g1, 0, none⟩)] W fun e w' => e = .returned (.bool (decide (x.fn = fn) && decide (x.pc = pc))) ∧ Below W.heap.size W w' := by
  have hS := (St.start W).made (.cells #[.int .i64 x.fn, .int .i64 x.pc, .int .i64 x.kind, .int .i64 x.count] 217 (0, 0))
  have u0 := kept hS.bel q0
  have u1 := kept hS.bel q1
  clear q0 q1
  by_cases hf : x.fn = fn
  · have b1 : (x.fn == fn) = true := by simp [hf]
    by_cases hp : x.pc = pc
    · have b2 : (x.pc == pc) = true := by simp [hp]
      have E := Lib.hid (show (decide (x.fn = fn) && decide (x.pc = pc)) = true by rw [decide_eq_true hf, decide_eq_true hp]; rfl)
      clear hf hp
      go_enter Tryz.func255, Tryz.ntmps255
      go_wp2
      go_ret
      exact ⟨ret_bool E.out.symm, hS.bel⟩
    · have b2 : (x.pc == pc) = false := by simp [hp]
      have E := Lib.hid (show (decide (x.fn = fn) && decide (x.pc = pc)) = false by rw [decide_eq_false hp, Bool.and_false])
      clear hf hp
      go_enter Tryz.func255, Tryz.ntmps255
      go_wp2
      go_ret
      exact ⟨ret_bool E.out.symm, hS.bel⟩
  · have b1 : (x.fn == fn) = false := by simp [hf]
    have E := Lib.hid (show (decide (x.fn = fn) && decide (x.pc = pc)) = false by rw [decide_eq_false hf, Bool.false_and])
    clear hf
    go_enter Tryz.func255, Tryz.ntmps255
    go_wp2
    go_ret
    exact ⟨ret_bool E.out.symm, hS.bel⟩
set_option maxHeartbeats 1000000 in
theorem idxFa (A : Option Addr) (c : Nat) (l : List DFail) (p1 : Value) (p : DFail → Bool) (w : World) (hr : (kFail).Row w A l.length l) (hl : l.length ≤ 1048576) (hp : Asks Tryz.prog kFail agg1 255 [p1] p w l) :
    Calls Tryz.prog 328 #[.slice A l.length c, .func (.func 255) #[] #[p1]] w (IsIdx p l w) := by
  go_enter Tryz.func328, Tryz.ntmps328
  go_wp2
  go_loopw [8] (fun i wr => ∃ k : Nat, k ≤ l.length ∧ i = .int .i64 k ∧ Hid (∀ j x, l[j]? = some x → j < k → p x = false) ∧ Below w.heap.size w wr) (fun i _ => l.length - (intOf i).toNat)
  case atStart => exact ⟨0, by omega, rfl, (fun j x _ h => by omega), Below.refl _ _⟩
  case round =>
    obtain ⟨k, hk, rfl, ho, hb⟩ := hrel
    by_cases hlt : k < l.length
    · obtain ⟨x, hx⟩ := get_exU l k hlt
      obtain ⟨ad, rfl, q0, q1, q2, q3⟩ := kFail_at (hr.below hb) k x hx; have C := hp x (List.mem_of_getElem? hx) wr hb [.int .i64 x.fn, .int .i64 x.pc, .int .i64 x.kind, .int .i64 x.count] (kFail_K.2 rfl); simp only [agg1] at C
      cases hq : p x
      · have HN := Lib.hid (not_step ho.out hx hq)
        rw [hq] at C
        clear hx hq
        go_wp2_with fail
        refine C.mono ?_
        rintro e w' ⟨rfl, hb2⟩
        go_wp2
        go_roundw
        case rel => exact ⟨k + 1, by omega, by go_num, HN, bl9⟩
        case measure => simp [intOf]; omega
      · have HE := Lib.hid (any_yes (p := p) hx hq)
        rw [hq] at C
        clear hx hq
        go_wp2_with fail
        refine C.mono ?_
        rintro e w' ⟨rfl, hb2⟩
        go_wp2
        go_ret
        exact ⟨_, rfl, by rw [HE.out]; simp, bl9⟩
    · obtain rfl : k = l.length := by omega
      have HE := Lib.hid (any_no (p := p) (fun j x h h2 => ho.out j x h h2))
      go_wp2
      go_ret
      exact ⟨_, rfl, by rw [HE.out]; simp, hb⟩
theorem hasFa (A : Option Addr) (c : Nat) (l : List DFail) (p1 : Value) (p : DFail → Bool) (w : World) (hr : (kFail).Row w A l.length l) (hl : l.length ≤ 1048576) (hp : Asks Tryz.prog kFail agg1 255 [p1] p w l) :
    Calls Tryz.prog 254 #[.slice A l.length c, .func (.func 255) #[] #[p1]] w fun e w' => e = .returned (.bool (l.any p)) ∧ Below w.heap.size w w' := by
  go_enter Tryz.func254, Tryz.ntmps254
  go_wp2_with fail
  refine (idxFa A c l _ p _ hr hl hp).mono ?_
  rintro e w' ⟨r, rfl, he, hb⟩
  have HE := Lib.hid he
  clear he
  go_wp2
  go_ret
  exact ⟨ret_bool HE.out, bl9⟩
theorem sum_rng {l : List DFunc} {fs : List DFail} : ∀ k : Nat, k ≤ fs.length → (List.range k).all (failAt l fs) = true → 0 ≤ sumF (fs.take k) ∧ sumF (fs.take k) ≤ 1000000 * k := by
  intro k
  induction k with
  | zero => intro _ _; simp [sumF]
  | succ k ih =>
    intro hk h
    rw [range_all, Bool.and_eq_true] at h
    have hx := List.getElem?_eq_getElem (show k < fs.length by omega)
    have h1 := ih (by omega) h.1
    have h2 := h.2
    rw [failAt_of hx, Bool.and_eq_true] at h2
    have h3 := h2.1
    unfold failB at h3
    rw [sumF_snoc hx]
    split at h3
    · cases h3
    · rw [Bool.and_eq_true] at h3
      have := btw_true.1 h3.1
      omega
set_option maxHeartbeats 16000000 in
set_option maxRecDepth 100000 in
theorem failsI (A B A0 A1 A3 A10 A11 A12 : Option Addr) (c0 d0 e0 e1 e3 e10 e11 e12 : Nat) (t : List ByteArray) (l : List DFunc) (ti : DTier) (w : World) (h : HasMod A B t l w) (hl12 : l.length ≤ 12) (hc12 : ti.fails.length ≤ e12) (r12 : kFail.Row w A12 ti.fails.length ti.fails) (hm : ti.fails.length ≤ 1048576) :
    Calls Tryz.prog 152 #[.agg #[.slice A t.length c0, .slice B l.length d0], .agg #[.slice A0 ti.vm.frames.length e0, .slice A1 ti.vm.heap.length e1, .int .i64 ti.vm.made, .slice A3 ti.vm.out.length e3, .int .i64 ti.vm.status, .int .i64 ti.vm.trap, .int .i64 ti.vm.value.k, .int .i64 ti.vm.value.n, .string ti.vm.value.s, .int .i64 ti.vm.steps, .slice A10 ti.sites.length e10, .slice A11 ti.codes.length e11, .slice A12 ti.fails.length e12, .int .i64 ti.guards, .int .i64 ti.entered]] w fun e w' => e = .returned (.bool (failsB l ti.fails ti.guards)) ∧ Below w.heap.size w w' := by
  have hS := ((St.start w).made (.cells #[.slice A t.length c0, .slice B l.length d0] 36 (0, 0))).madeAt (.cells #[.slice A0 ti.vm.frames.length e0, .slice A1 ti.vm.heap.length e1, .int .i64 ti.vm.made, .slice A3 ti.vm.out.length e3, .int .i64 ti.vm.status, .int .i64 ti.vm.trap, .int .i64 ti.vm.value.k, .int .i64 ti.vm.value.n, .string ti.vm.value.s, .int .i64 ti.vm.steps, .slice A10 ti.sites.length e10, .slice A11 ti.codes.length e11, .slice A12 ti.fails.length e12, .int .i64 ti.guards, .int .i64 ti.entered] 72 (0, 0)) (w.heap.size + 1) (by simp)
  go_enter Tryz.func152, Tryz.ntmps152
  go_wp2
  go_loopw [5, 13] (fun s i wr => ∃ k : Nat, k ≤ ti.fails.length ∧ s = .int .i64 (sumF (ti.fails.take k)) ∧ i = .int .i64 k ∧ Hid ((List.range k).all (failAt l ti.fails) = true) ∧ St w [Res.box (w.heap.size + 1) (.cells #[.slice A0 ti.vm.frames.length e0, .slice A1 ti.vm.heap.length e1, .int .i64 ti.vm.made, .slice A3 ti.vm.out.length e3, .int .i64 ti.vm.status, .int .i64 ti.vm.trap, .int .i64 ti.vm.value.k, .int .i64 ti.vm.value.n, .string ti.vm.value.s, .int .i64 ti.vm.steps, .slice A10 ti.sites.length e10, .slice A11 ti.codes.length e11, .slice A12 ti.fails.length e12, .int .i64 ti.guards, .int .i64 ti.entered] 72 (0, 0)), Res.box w.heap.size (.cells #[.slice A t.length c0, .slice B l.length d0] 36 (0, 0))] wr) (fun _ i _ => ti.fails.length - (intOf i).toNat)
  case atStart => exact ⟨0, by omega, rfl, rfl, Lib.hid rfl, hS⟩
  case round =>
    clear hS
    obtain ⟨k, hk, rfl, rfl, hb, hS⟩ := hrel
    have hsr := sum_rng k hk hb.out
    have x_t := hS.cell 0 rfl
    by_cases hlt : k < ti.fails.length
    rotate_left
    · obtain rfl : k = ti.fails.length := by omega
      rw [List.take_length] at hsr ⊢
      have E := Lib.hid (show failsB l ti.fails ti.guards = (decide (ti.fails.length ≤ 150) && decide (ti.guards = sumF ti.fails)) by unfold failsB; rw [hb.out]; rfl)
      have hbel := hS.bel
      go_wp2
      all_goals (go_ret; refine ⟨ret_bool ?_, hbel⟩; rw [E.out, Bool.eq_iff_iff]; simp; omega)
    obtain ⟨f, hf⟩ := get_exU ti.fails k hlt
    obtain ⟨ad, rfl, q0', q1', q2', q3'⟩ := kFail_at r12 k f hf
    have HA := Lib.hid (failAt_of (l := l) hf)
    have HSUM := Lib.hid (sumF_snoc hf)
    have HNO := Lib.hid (fun h : failAt l ti.fails k = false => show failsB l ti.fails ti.guards = false by unfold failsB; rw [range_no hlt h, Bool.false_and])
    have q0 := kept hS.bel q0'
    have q1 := kept hS.bel q1'
    have q2 := kept hS.bel q2'
    have q3 := kept hS.bel q3'
    obtain ⟨fn, pc, kind, count⟩ := f
    dsimp only at q0 q1 q2 q3 HA HSUM
    obtain ⟨g7, hg7⟩ : ∃ g7, wr.heap.size = g7 := ⟨_, rfl⟩
    have hT := hS.madeAt (.cells #[.int .i64 fn, .int .i64 pc, .int .i64 kind, .int .i64 count] 217 (0, 0)) g7 hg7
    have x_m := hS.cell 1 rfl
    clear q0' q1' q2' q3' hf
    go_upto_region 5 with fail
    clear x_t x_m q0 q1 q2 q3 hS hg7
    have x_f := hT.cell 0 rfl
    have x_t := hT.cell 1 rfl
    have x_m := hT.cell 2 rfl
    cases ho : insO l fn pc with
    | none =>
      have E := Lib.hid (HNO.out (by rw [HA.out]; unfold failB; rw [ho, Bool.false_and]))
      have HO := Lib.hid ho
      clear ho
      go_wp2_with fail
      refine (insAtI A B c0 d0 t l fn pc _ (h.below hT.bel) HO.out).mono ?_
      rintro e w5 ⟨rfl, hb5⟩
      replace hT := hT.step hb5
      clear x_f x_t x_m hb5
      have x_f := hT.cell 0 rfl
      have hbel := hT.bel
      go_wp2
      go_ret
      exact ⟨ret_bool E.out.symm, bl_alloc hbel _⟩
    | some x =>
      have HO := Lib.hid ho
      have HFB : failB l ⟨fn, pc, kind, count⟩ = (btw count 1 1000000 && failX x.op kind) := by unfold failB; rw [ho]
      clear ho
      have hlk : (ti.fails.take k).length = k := by rw [List.length_take]; omega
      have hke : k ≤ e12 := by omega
      have hke2 : (k : Int) ≤ e12 := by omega
      have HRK := Lib.hid (row_cutK r12 k (by omega))
      have CH : ∀ W, Below w.heap.size w W → W.cell? ⟨g7, 0, none⟩ = some (.int .i64 fn) → W.cell? ⟨g7, 1, none⟩ = some (.int .i64 pc) → Calls Tryz.prog 254 #[.slice (some ad) k e12, .func (.func 255) #[] #[.pointer (some ⟨g7, 0, none⟩)]] W fun e w' => e = .returned (.bool ((ti.fails.take k).any (fun q => sameP q ⟨fn, pc, kind, count⟩))) ∧ Below W.heap.size W w' := by
        intro W hbW z0 z1
        have := hasFa (some ad) e12 (ti.fails.take k) (.pointer (some ⟨g7, 0, none⟩)) (fun q => sameP q ⟨fn, pc, kind, count⟩) W (by rw [hlk]; exact HRK.out.below hbW) (by omega) (fun q hq W' hb' cs hK => by
          obtain rfl := kFail_K.1 hK
          exact failCl q fn pc g7 W' (kept hb' z0) (kept hb' z1))
        rwa [hlk] at this
      cases hc : btw count 1 1000000
      · have E := Lib.hid (HNO.out (by rw [HA.out, HFB, hc, Bool.false_and, Bool.false_and]))
        have HC := Lib.hid hc
        clear hc HFB CH hlk
        go_wp2_with fail
        refine (insAtI A B c0 d0 t l fn pc _ (h.below hT.bel) HO.out).mono ?_
        rintro e w5 ⟨rfl, hb5⟩
        replace hT := (hT.step hb5).made (.cells #[.int .i64 x.op, .int .i64 x.a] 305 (0, 0))
        clear x_f x_t x_m hb5
        have x_f := hT.cell 1 rfl
        have x_t := hT.cell 2 rfl
        have x_i := hT.cell 0 rfl
        have hbel := hT.bel
        go_wp2_with (go_at_call 153; (with_reducible refine (inRange _ HC.out).mono ?_); rintro e w' ⟨rfl, rfl⟩)
        go_ret
        exact ⟨ret_bool E.out.symm, hbel⟩
      rw [hc, Bool.true_and] at HFB
      have hcr := btw_true.1 hc
      have HC := Lib.hid hc
      clear hc
      by_cases k1 : kind = 1
      · subst k1
        have HFX := Lib.hid (HFB.trans (show _ = isAr x.op by unfold failX; simp))
        clear HFB hlk
        cases har : isAr x.op
        · have E := Lib.hid (HNO.out (by rw [HA.out, HFX.out, har, Bool.false_and]))
          have HR := Lib.hid har
          clear har CH
          go_wp2_with fail
          refine (insAtI A B c0 d0 t l fn pc _ (h.below hT.bel) HO.out).mono ?_
          rintro e w5 ⟨rfl, hb5⟩
          replace hT := (hT.step hb5).made (.cells #[.int .i64 x.op, .int .i64 x.a] 305 (0, 0))
          clear x_f x_t x_m hb5
          have x_f := hT.cell 1 rfl
          have x_t := hT.cell 2 rfl
          have x_i := hT.cell 0 rfl
          have hbel := hT.bel
          go_wp2_with (first | (go_at_call 153; (with_reducible refine (inRange _ HC.out).mono ?_); rintro e w' ⟨rfl, rfl⟩) | (go_at_call 253; refine (isArith x.op x.a _ HR.out).mono ?_; rintro e w6 ⟨rfl, hb6⟩; replace hT := hT.step hb6; clear x_f x_t x_i hb6; have x_f := hT.cell 1 rfl; have x_t := hT.cell 2 rfl; have x_i := hT.cell 0 rfl))
          go_ret
          exact ⟨ret_bool E.out.symm, hT.bel⟩
        · have HN0 := Lib.hid (show failAt l ti.fails k = !((ti.fails.take k).any (fun q => sameP q ⟨fn, pc, 1, count⟩)) by rw [HA.out, HFX.out, har, Bool.true_and])
          have HR := Lib.hid har
          clear har
          go_wp2_with fail
          refine (insAtI A B c0 d0 t l fn pc _ (h.below hT.bel) HO.out).mono ?_
          rintro e w5 ⟨rfl, hb5⟩
          replace hT := (hT.step hb5).made (.cells #[.int .i64 x.op, .int .i64 x.a] 305 (0, 0))
          clear x_f x_t x_m hb5
          have x_f := hT.cell 1 rfl
          have x_t := hT.cell 2 rfl
          have x_i := hT.cell 0 rfl
          have hbel := hT.bel
          go_wp2_with (first | (go_at_call 153; (with_reducible refine (inRange _ HC.out).mono ?_); rintro e w' ⟨rfl, rfl⟩) | (go_at_call 253; refine (isArith x.op x.a _ HR.out).mono ?_; rintro e w6 ⟨rfl, hb6⟩; replace hT := hT.step hb6; clear x_f x_t x_i hb6; have x_f := hT.cell 1 rfl; have x_t := hT.cell 2 rfl; have x_i := hT.cell 0 rfl))
          refine (CH _ hT.bel (hT.cell 1 rfl 0) (hT.cell 1 rfl 1)).mono ?_
          rintro e w7 ⟨rfl, hb7⟩
          replace hT := hT.step hb7
          clear x_f x_t x_i hb7 CH
          have x_f := hT.cell 1 rfl
          cases hany : (ti.fails.take k).any (fun q => sameP q ⟨fn, pc, 1, count⟩)
          · have HN := Lib.hid (show (List.range (k + 1)).all (failAt l ti.fails) = true by rw [range_all, hb.out, HN0.out, hany]; rfl)
            clear hany
            go_wp2
            go_roundw
            case rel => exact ⟨k + 1, by omega, by rw [HSUM.out], by go_num, HN, hT.drop.drop⟩
            case measure => simp [intOf]; omega
          · have E := Lib.hid (HNO.out (by rw [HN0.out, hany]; rfl))
            clear hany
            go_wp2
            go_ret
            exact ⟨ret_bool E.out.symm, hT.bel⟩
      have b1 : (kind == 1) = false := by simp [k1]
      by_cases k2 : kind = 2
      · subst k2
        have HFX := Lib.hid (HFB.trans (show _ = decide (x.op = 23) by unfold failX; simp))
        clear HFB hlk k1
        by_cases hop : x.op = 23
        · have HN0 := Lib.hid (show failAt l ti.fails k = !((ti.fails.take k).any (fun q => sameP q ⟨fn, pc, 2, count⟩)) by rw [HA.out, HFX.out, decide_eq_true hop, Bool.true_and])
          have b3 : (x.op == 23) = true := by simp [hop]
          clear hop
          go_wp2_with fail
          refine (insAtI A B c0 d0 t l fn pc _ (h.below hT.bel) HO.out).mono ?_
          rintro e w5 ⟨rfl, hb5⟩
          replace hT := (hT.step hb5).made (.cells #[.int .i64 x.op, .int .i64 x.a] 305 (0, 0))
          clear x_f x_t x_m hb5
          have x_f := hT.cell 1 rfl
          have x_t := hT.cell 2 rfl
          have x_i := hT.cell 0 rfl
          have hbel := hT.bel
          go_wp2_with (go_at_call 153; (with_reducible refine (inRange _ HC.out).mono ?_); rintro e w' ⟨rfl, rfl⟩)
          refine (CH _ hT.bel (hT.cell 1 rfl 0) (hT.cell 1 rfl 1)).mono ?_
          rintro e w7 ⟨rfl, hb7⟩
          replace hT := hT.step hb7
          clear x_f x_t x_i hb7 CH
          have x_f := hT.cell 1 rfl
          cases hany : (ti.fails.take k).any (fun q => sameP q ⟨fn, pc, 2, count⟩)
          · have HN := Lib.hid (show (List.range (k + 1)).all (failAt l ti.fails) = true by rw [range_all, hb.out, HN0.out, hany]; rfl)
            clear hany
            go_wp2
            go_roundw
            case rel => exact ⟨k + 1, by omega, by rw [HSUM.out], by go_num, HN, hT.drop.drop⟩
            case measure => simp [intOf]; omega
          · have E := Lib.hid (HNO.out (by rw [HN0.out, hany]; rfl))
            clear hany
            go_wp2
            go_ret
            exact ⟨ret_bool E.out.symm, hT.bel⟩
        · have E := Lib.hid (HNO.out (by rw [HA.out, HFX.out, decide_eq_false hop, Bool.false_and]))
          have b3 : (x.op == 23) = false := by simp [hop]
          clear hop CH
          go_wp2_with fail
          refine (insAtI A B c0 d0 t l fn pc _ (h.below hT.bel) HO.out).mono ?_
          rintro e w5 ⟨rfl, hb5⟩
          replace hT := (hT.step hb5).made (.cells #[.int .i64 x.op, .int .i64 x.a] 305 (0, 0))
          clear x_f x_t x_m hb5
          have x_f := hT.cell 1 rfl
          have x_t := hT.cell 2 rfl
          have x_i := hT.cell 0 rfl
          have hbel := hT.bel
          go_wp2_with (go_at_call 153; (with_reducible refine (inRange _ HC.out).mono ?_); rintro e w' ⟨rfl, rfl⟩)
          go_ret
          exact ⟨ret_bool E.out.symm, hbel⟩
      have b2 : (kind == 2) = false := by simp [k2]
      have E := Lib.hid (HNO.out (by rw [HA.out, HFB, show failX x.op kind = false by unfold failX; simp [k1, k2], Bool.false_and]))
      clear HFB hlk k1 k2 CH
      go_wp2_with fail
      refine (insAtI A B c0 d0 t l fn pc _ (h.below hT.bel) HO.out).mono ?_
      rintro e w5 ⟨rfl, hb5⟩
      replace hT := (hT.step hb5).made (.cells #[.int .i64 x.op, .int .i64 x.a] 305 (0, 0))
      clear x_f x_t x_m hb5
      have x_f := hT.cell 1 rfl
      have x_t := hT.cell 2 rfl
      have x_i := hT.cell 0 rfl
      have hbel := hT.bel
      go_wp2_with (go_at_call 153; (with_reducible refine (inRange _ HC.out).mono ?_); rintro e w' ⟨rfl, rfl⟩)
      go_ret
      exact ⟨ret_bool E.out.symm, hbel⟩
end Go.Proofs.YthinhlcfpaaldaaGreat.Dat

/- Whether values and frames are as they must be, in the reference. -/
import Derived.Test.YthinhlcfpaaldaaGreatVmP
import Derived.Test.YthinhlcfpaaldaaGreatK2
import Derived.Test.YthinhlcfpaaldaaGreatK4
namespace Go.Proofs.YthinhlcfpaaldaaGreat.Dat
open Go Go.RowKit Go.Proofs.YthinhlcfpaaldaaGreat.Mem
set_option linter.unusedVariables false
set_option linter.unusedSimpArgs false
theorem all_no {α : Type} {p : α → Bool} {l : List α} {k : Nat} {x : α} (hx : l[k]? = some x) (h : p x = false) : l.all p = false := by
  rw [List.all_eq_false]
  exact ⟨x, List.mem_of_getElem? hx, by simp [h]⟩
set_option maxHeartbeats 2000000 in
set_option maxRecDepth 100000 in
theorem vals3 (A B D : Option Addr) (c d e0 nt nl nr : Nat) (vs : List DValue) (w : World) (hr : kValue.Row w D vs.length vs) (hs : ∀ z ∈ vs, z.s.size ≤ maxLen) (hl : nl ≤ 1048576) (hn : nr ≤ 1048576) (hv : vs.length ≤ 4194304) :
    Calls Tryz.prog 184 #[.agg #[.slice A nt c, .slice B nl d], .slice D vs.length e0, .int .i64 nr] w fun e w' => e = .returned (.bool (vs.all (valB nl nr))) ∧ Below w.heap.size w w' := by
  have hS := (St.start w).made (.cells #[.slice A nt c, .slice B nl d] 36 (0, 0))
  go_enter Tryz.func184, Tryz.ntmps184
  go_wp2
  go_loopw [7] (fun i wr => ∃ k : Nat, k ≤ vs.length ∧ i = .int .i64 k ∧ Hid ((vs.take k).all (valB nl nr) = true) ∧ St w [Res.box w.heap.size (.cells #[.slice A nt c, .slice B nl d] 36 (0, 0))] wr) (fun i _ => vs.length - (intOf i).toNat)
  case atStart => exact ⟨0, by omega, rfl, Lib.hid (by simp), hS⟩
  case round =>
    clear hS
    obtain ⟨k, hk, rfl, hb, hS⟩ := hrel
    by_cases hlt : k < vs.length
    rotate_left
    · obtain rfl : k = vs.length := by omega
      have E := Lib.hid (show vs.all (valB nl nr) = true by have := hb.out; rwa [List.take_length] at this)
      go_wp2
      go_ret
      exact ⟨ret_bool E.out.symm, hS.bel⟩
    obtain ⟨z, hz⟩ := get_exU vs k hlt
    have hzs := hs z (List.mem_of_getElem? hz)
    obtain ⟨ad, rfl, q0, q1, q2⟩ := kValue_at (hr.below hS.bel) k z hz
    have hA := all_snoc (valB nl nr) vs k z hz
    have hSd := hS.drew
    have x0 := hS.cell 0 rfl
    cases hv0 : valB nl nr z
    · have E := Lib.hid (all_no (p := valB nl nr) hz hv0)
      have HV := Lib.hid hv0
      clear hv0 hA hz
      go_wp2
      clear x0
      refine wp_region_held_drew (S := (fun w' => w'.cell? ⟨w.heap.size, 0, none⟩ = some (.slice A nt c) ∧ w'.cell? ⟨w.heap.size, 1, none⟩ = some (.slice B nl d) ∧ w'.cell? (ad.add (k * 3)) = some (.int .i64 z.k) ∧ w'.cell? ⟨(ad.add (k * 3)).block, (ad.add (k * 3)).off + 1, none⟩ = some (.int .i64 z.n) ∧ w'.cell? ⟨(ad.add (k * 3)).block, (ad.add (k * 3)).off + 2, none⟩ = some (.string z.s))) (by kernel_rfl) (⟨hSd.cell 0 rfl 0, hSd.cell 0 rfl 1, q0, q1, q2⟩) (fun hHeld => ?_)
      clear q0 q1 q2
      (iterate 6 (first | refine rQ1 ?_ | refine rQ2 ?_); try simp only [pP])
      refine regC 6 rfl (by kernel_rfl) (by rfl) (fun Kq hKq => ?_)
      go_simp
      (with_reducible refine (val3 nl nr A B c d nt nl z _ hzs (by omega) (by omega) (by omega) (by omega) rfl).mono ?_)
      rintro e w2 ⟨rfl, hb2⟩; rw [HV.out]; have hS2 := hSd.step hb2
      try go_wp2_with fail
      refine hKq.out _ _ (⟨hS2.cell 0 rfl 0, hS2.cell 0 rfl 1, kept hb2 hHeld.2.2.1, kept hb2 hHeld.2.2.2.1, kept hb2 hHeld.2.2.2.2⟩) (fun hHeld => ?_)
      clear hKq Kq
      (try simp only [pP])
      (first | refine rQ1 ?_ | refine rQ2 ?_); (try simp only [pP])
      refine wpAnyH_done (by kernel_rfl) ?_ _
      clear hHeld
      go_wp2
      go_ret
      exact ⟨ret_bool E.out.symm, hS2.bel⟩
    · have HN := Lib.hid (show (vs.take (k + 1)).all (valB nl nr) = true by rw [hA, hb.out, hv0]; rfl)
      have HV := Lib.hid hv0
      clear hv0 hA hz
      go_wp2
      clear x0
      refine wp_region_held_drew (S := (fun w' => w'.cell? ⟨w.heap.size, 0, none⟩ = some (.slice A nt c) ∧ w'.cell? ⟨w.heap.size, 1, none⟩ = some (.slice B nl d) ∧ w'.cell? (ad.add (k * 3)) = some (.int .i64 z.k) ∧ w'.cell? ⟨(ad.add (k * 3)).block, (ad.add (k * 3)).off + 1, none⟩ = some (.int .i64 z.n) ∧ w'.cell? ⟨(ad.add (k * 3)).block, (ad.add (k * 3)).off + 2, none⟩ = some (.string z.s))) (by kernel_rfl) (⟨hSd.cell 0 rfl 0, hSd.cell 0 rfl 1, q0, q1, q2⟩) (fun hHeld => ?_)
      clear q0 q1 q2
      (iterate 6 (first | refine rQ1 ?_ | refine rQ2 ?_); try simp only [pP])
      refine regC 6 rfl (by kernel_rfl) (by rfl) (fun Kq hKq => ?_)
      go_simp
      (with_reducible refine (val3 nl nr A B c d nt nl z _ hzs (by omega) (by omega) (by omega) (by omega) rfl).mono ?_)
      rintro e w2 ⟨rfl, hb2⟩; rw [HV.out]; have hS2 := hSd.step hb2
      try go_wp2_with fail
      refine hKq.out _ _ (⟨hS2.cell 0 rfl 0, hS2.cell 0 rfl 1, kept hb2 hHeld.2.2.1, kept hb2 hHeld.2.2.2.1, kept hb2 hHeld.2.2.2.2⟩) (fun hHeld => ?_)
      clear hKq Kq
      (try simp only [pP])
      (first | refine rQ1 ?_ | refine rQ2 ?_); (try simp only [pP])
      refine wpAnyH_done (by kernel_rfl) ?_ _
      clear hHeld
      go_wp2
      go_roundw
      case rel => exact ⟨k + 1, by omega, by go_num, HN, hS2⟩
      case measure => simp [intOf]; omega
theorem frmF3_high {y : DFunc} {d : List Int} {pc : Int} {nl ns : Nat} {last : Bool} (h : at0 d pc < 0) : frmF y d pc nl ns last = false := by
  have h2 : ¬ (0 ≤ at0 d pc) := by omega
  unfold frmF
  rw [decide_eq_false h2, Bool.false_and, Bool.and_false, Bool.and_false]
/-- A frame with its values. -/
def frm3B (l : List DFunc) (f : DFrame) (nr : Nat) (top : Bool) : Bool := frmB l f.fn f.pc f.locals.length f.stack.length top && (f.locals.all (valB l.length nr) && f.stack.all (valB l.length nr))
theorem frm3_no {l : List DFunc} {f : DFrame} {nr : Nat} {top : Bool} (h : frmB l f.fn f.pc f.locals.length f.stack.length top = false) : frm3B l f nr top = false := by unfold frm3B; rw [h, Bool.false_and]
set_option maxHeartbeats 16000000 in
set_option maxRecDepth 100000 in
theorem frame3 (A B L0 L1 : Option Addr) (c d k0 k1 nr : Nat) (t : List ByteArray) (l : List DFunc) (f : DFrame) (top : Bool) (w : World) (h : HasMod A B t l w) (hfit : ModFit t l) (rl : kValue.Row w L0 f.locals.length f.locals) (rs : kValue.Row w L1 f.stack.length f.stack) (hM : MFrame f) (hn0 : nr ≤ 1048576) :
    Calls Tryz.prog 186 #[.agg #[.slice A t.length c, .slice B l.length d], .agg #[.int .i64 f.fn, .int .i64 f.pc, .slice L0 f.locals.length k0, .slice L1 f.stack.length k1], .int .i64 nr, .bool top] w fun e w' => e = .returned (.bool (frm3B l f nr top)) ∧ Below w.heap.size w w' := by
  have hm := hfit.n12
  have hm' : l.length ≤ 1048576 := by omega
  have hmx : ∀ z : DValue, MValue z → z.s.size ≤ maxLen := fun z h => Nat.le_trans h (by unfold maxLen; omega)
  have hnl := hM.1.1
  have hns := hM.2.1
  have hvl : ∀ z ∈ f.locals, z.s.size ≤ maxLen := fun z hz => hmx z (hM.1.2 z hz)
  have hvs : ∀ z ∈ f.stack, z.s.size ≤ maxLen := fun z hz => hmx z (hM.2.2 z hz)
  obtain ⟨fn, pc, locs, stk⟩ := f
  simp only at hnl hns hvl hvs rl rs ⊢
  clear hM
  have hS00 := ((St.start w).made (.cells #[.slice A t.length c, .slice B l.length d] 36 (0, 0))).madeAt (.cells #[.int .i64 fn, .int .i64 pc, .slice L0 locs.length k0, .slice L1 stk.length k1] 145 (0, 0)) (w.heap.size + 1) (by simp)
  have eq1 : IntKind.i64.wrap ((l.length : Int) - 1) = (l.length : Int) - 1 := IntWalk.i64_in _ (by omega)
  cases hF : btw fn 0 ((l.length : Int) - 1)
  · have E := Lib.hid (frm3_no (l := l) (f := ⟨fn, pc, locs, stk⟩) (nr := nr) (frmB_no hF pc locs.length stk.length top))
    have HF := Lib.hid hF
    clear hF
    go_enter Tryz.func186, Tryz.ntmps186
    go_wp2_with (go_at_call 121; (with_reducible refine (between _ HF.out).mono ?_); rintro e w' ⟨rfl, rfl⟩)
    go_ret
    exact ⟨ret_bool E.out.symm, bl9⟩
  have hF2 := btw_true.1 hF
  obtain ⟨k, rfl⟩ : ∃ k : Nat, fn = k := ⟨fn.toNat, by omega⟩
  obtain ⟨y, hy⟩ := get_exU l k (by omega)
  have hym := List.mem_of_getElem? hy
  have hc120 := hfit.c120 y hym
  have hyl := hfit.loc y hym
  have EB := Lib.hid (fun (top : Bool) => frmB_at hy pc locs.length stk.length top)
  obtain ⟨adB, A2, c2, rfl, q0', q1', q2', hq, hr2⟩ := kFunc_at h.hr k y hy
  have hH := hfit.hgt hym
  obtain ⟨dd, hdd⟩ : ∃ dd, depthsL l y.code = dd := ⟨_, rfl⟩
  have HDD := Lib.hid hdd
  rw [hdd] at hH
  have q0 := kept hS00.bel q0'
  have q1 := kept hS00.bel q1'
  have q2 := kept hS00.bel q2'
  have HF := Lib.hid hF
  have HY := Lib.hid hy
  have k0' : (0 : Int) ≤ (k : Int) := by omega
  have k1' : (k : Int) < l.length := by omega
  have k2' : k < l.length := by omega
  have eq2 : IntKind.i64.wrap ((y.code.length : Int) - 1) = (y.code.length : Int) - 1 := IntWalk.i64_in _ (by omega)
  have hS := hS00.madeAt (.cells #[.int .i64 y.params, .int .i64 y.locals, .slice A2 y.code.length c2] 197 (0, 0)) (w.heap.size + 1 + 1) (by simp)
  clear hF hF2 hdd q0' q1' q2' hy hS00
  by_cases hL : (locs.length : Int) = y.locals
  rotate_left
  · have E := Lib.hid (frm3_no (l := l) (f := ⟨(k : Int), pc, locs, stk⟩) (nr := nr) ((EB.out top).trans (by unfold frmF; rw [decide_eq_false hL, Bool.false_and])))
    have hL2 : ((locs.length : Int) == y.locals) = false := by simpa using hL
    have hL3 : ((locs.length : Int) != y.locals) = true := by simpa using hL
    clear hL
    go_enter Tryz.func186, Tryz.ntmps186
    go_wp2_with (go_at_call 121; (with_reducible refine (between _ HF.out).mono ?_); rintro e w' ⟨rfl, rfl⟩)
    refine (depths03 A (some adB) c d t l k y _ (h.hr.below hS.bel) hfit HY.out).mono ?_
    intro e w1 hn
    obtain ⟨v1, F1, rfl, hS1⟩ := hS.newRow hn
    obtain ⟨A3, c3, rfl, hc3, hr3⟩ := hS1.row 0 rfl
    rw [HDD.out] at hS1 hc3 hr3 ⊢
    rw [hH.1] at hr3 hc3 ⊢
    clear hn
    have x0 := hS1.cell 1 rfl
    have x1 := hS1.cell 2 rfl
    have x2 := hS1.cell 3 rfl
    go_wp2
    go_ret
    exact ⟨ret_bool E.out.symm, hS1.bel⟩
  have hL2 : ((locs.length : Int) == y.locals) = true := by simpa using hL
  have hL3 : ((locs.length : Int) != y.locals) = false := by simpa using hL
  cases hP : btw pc 0 ((y.code.length : Int) - 1)
  · have E := Lib.hid (frm3_no (l := l) (f := ⟨(k : Int), pc, locs, stk⟩) (nr := nr) ((EB.out top).trans (by unfold frmF; rw [hP, Bool.false_and, Bool.and_false])))
    have HP := Lib.hid hP
    clear hL hP
    go_enter Tryz.func186, Tryz.ntmps186
    go_wp2_with (go_at_call 121; (with_reducible refine (between _ HF.out).mono ?_); rintro e w' ⟨rfl, rfl⟩)
    refine (depths03 A (some adB) c d t l k y _ (h.hr.below hS.bel) hfit HY.out).mono ?_
    intro e w1 hn
    obtain ⟨v1, F1, rfl, hS1⟩ := hS.newRow hn
    obtain ⟨A3, c3, rfl, hc3, hr3⟩ := hS1.row 0 rfl
    rw [HDD.out] at hS1 hc3 hr3 ⊢
    rw [hH.1] at hr3 hc3 ⊢
    clear hn
    have x0 := hS1.cell 1 rfl
    have x1 := hS1.cell 2 rfl
    have x2 := hS1.cell 3 rfl
    go_wp2_with (go_at_call 121; (with_reducible refine (between _ HP.out).mono ?_); rintro e w' ⟨rfl, rfl⟩)
    go_ret
    exact ⟨ret_bool E.out.symm, hS1.bel⟩
  have hP2 := btw_true.1 hP
  obtain ⟨j, rfl⟩ : ∃ j : Nat, pc = j := ⟨pc.toNat, by omega⟩
  have j0 : (0 : Int) ≤ (j : Int) := by omega
  have j1 : (j : Int) < y.code.length := by omega
  have j2 : j < y.code.length := by omega
  have hat := hH.at_ j
  have HP := Lib.hid hP
  have E0 := fun h3 => (EB.out top).trans (show _ = frmL y dd (j : Int) stk.length top by unfold frmF; rw [HDD.out, decide_eq_true hL, hP, decide_eq_true h3]; rfl)
  obtain ⟨z, hz⟩ : ∃ z, at0 dd j = z := ⟨_, rfl⟩
  have hE1 := fun h3 => (EB.out top).trans (frmF3_high (y := y) (d := depthsL l y.code) (pc := (j : Int)) (nl := locs.length) (ns := stk.length) (last := top) h3)
  rw [HDD.out] at hE1
  rw [hz] at hat E0 hE1
  have HZ := Lib.hid hz
  clear hP hz hL
  by_cases hz0 : z < 0
  · have E := Lib.hid (frm3_no (l := l) (f := ⟨(k : Int), (j : Int), locs, stk⟩) (nr := nr) (hE1 hz0))
    clear E0 hE1
    go_enter Tryz.func186, Tryz.ntmps186
    go_wp2_with (go_at_call 121; (with_reducible refine (between _ HF.out).mono ?_); rintro e w' ⟨rfl, rfl⟩)
    refine (depths03 A (some adB) c d t l k y _ (h.hr.below hS.bel) hfit HY.out).mono ?_
    intro e w1 hn
    obtain ⟨v1, F1, rfl, hS1⟩ := hS.newRow hn
    obtain ⟨A3, c3, rfl, hc3, hr3⟩ := hS1.row 0 rfl
    rw [HDD.out] at hS1 hc3 hr3 ⊢
    rw [hH.1] at hr3 hc3 ⊢
    clear hn
    have x0 := hS1.cell 1 rfl
    have x1 := hS1.cell 2 rfl
    have x2 := hS1.cell 3 rfl
    obtain ⟨ad3, rfl, u0⟩ := hr3.one j _ (at0_get (by rw [hH.1]; exact j2))
    rw [HZ.out] at u0
    go_wp2_with (go_at_call 121; (with_reducible refine (between _ HP.out).mono ?_); rintro e w' ⟨rfl, rfl⟩)
    go_ret
    exact ⟨ret_bool E.out.symm, hS1.bel⟩
  have E1 := E0 (by omega)
  have z0 : 0 ≤ z := by omega
  clear E0 hE1 hz0
  cases hvb : locs.all (valB l.length nr)
  · have E := Lib.hid (show frm3B l ⟨(k : Int), (j : Int), locs, stk⟩ nr top = false by unfold frm3B; rw [hvb, Bool.false_and, Bool.and_false])
    have HV := Lib.hid hvb
    clear E1 hvb
    go_enter Tryz.func186, Tryz.ntmps186
    go_wp2_with (go_at_call 121; (with_reducible refine (between _ HF.out).mono ?_); rintro e w' ⟨rfl, rfl⟩)
    refine (depths03 A (some adB) c d t l k y _ (h.hr.below hS.bel) hfit HY.out).mono ?_
    intro e w1 hn
    obtain ⟨v1, F1, rfl, hS1⟩ := hS.newRow hn
    obtain ⟨A3, c3, rfl, hc3, hr3⟩ := hS1.row 0 rfl
    rw [HDD.out] at hS1 hc3 hr3 ⊢
    rw [hH.1] at hr3 hc3 ⊢
    clear hn
    have x0 := hS1.cell 1 rfl
    have x1 := hS1.cell 2 rfl
    have x2 := hS1.cell 3 rfl
    obtain ⟨ad3, rfl, u0⟩ := hr3.one j _ (at0_get (by rw [hH.1]; exact j2))
    rw [HZ.out] at u0
    go_wp2_with (go_at_call 121; (with_reducible refine (between _ HP.out).mono ?_); rintro e w' ⟨rfl, rfl⟩)
    refine (vals3 A (some adB) L0 c d k0 t.length l.length nr locs _ (rl.below hS1.bel) hvl hm' hn0 (by omega)).mono ?_
    rintro e w3 ⟨rfl, hb3⟩
    rw [HV.out]
    have hS3 := hS1.step hb3
    go_wp2
    go_ret
    exact ⟨ret_bool E.out.symm, hS3.bel⟩
  cases hvc : stk.all (valB l.length nr)
  · have E := Lib.hid (show frm3B l ⟨(k : Int), (j : Int), locs, stk⟩ nr top = false by unfold frm3B; rw [hvc, Bool.and_false, Bool.and_false])
    have HV := Lib.hid hvb
    have HW := Lib.hid hvc
    clear E1 hvb hvc
    go_enter Tryz.func186, Tryz.ntmps186
    go_wp2_with (go_at_call 121; (with_reducible refine (between _ HF.out).mono ?_); rintro e w' ⟨rfl, rfl⟩)
    refine (depths03 A (some adB) c d t l k y _ (h.hr.below hS.bel) hfit HY.out).mono ?_
    intro e w1 hn
    obtain ⟨v1, F1, rfl, hS1⟩ := hS.newRow hn
    obtain ⟨A3, c3, rfl, hc3, hr3⟩ := hS1.row 0 rfl
    rw [HDD.out] at hS1 hc3 hr3 ⊢
    rw [hH.1] at hr3 hc3 ⊢
    clear hn
    have x0 := hS1.cell 1 rfl
    have x1 := hS1.cell 2 rfl
    have x2 := hS1.cell 3 rfl
    obtain ⟨ad3, rfl, u0⟩ := hr3.one j _ (at0_get (by rw [hH.1]; exact j2))
    rw [HZ.out] at u0
    go_wp2_with (go_at_call 121; (with_reducible refine (between _ HP.out).mono ?_); rintro e w' ⟨rfl, rfl⟩)
    refine (vals3 A (some adB) L0 c d k0 t.length l.length nr locs _ (rl.below hS1.bel) hvl hm' hn0 (by omega)).mono ?_
    rintro e w3 ⟨rfl, hb3⟩
    rw [HV.out]
    have hS3 := hS1.step hb3
    clear x0 x1 x2 u0
    have x1 := hS3.cell 2 rfl
    have x2 := hS3.cell 3 rfl
    go_wp2_with fail
    refine (vals3 A (some adB) L1 c d k1 t.length l.length nr stk _ (rs.below hS3.bel) hvs hm' hn0 (by omega)).mono ?_
    rintro e w4 ⟨rfl, hb4⟩
    rw [HW.out]
    have hS4 := hS3.step hb4
    go_wp2
    go_ret
    exact ⟨ret_bool E.out.symm, hS4.bel⟩
  have EV := Lib.hid (show frm3B l ⟨(k : Int), (j : Int), locs, stk⟩ nr top = frmL y dd (j : Int) stk.length top by unfold frm3B; rw [hvb, hvc, E1, Bool.and_true, Bool.and_true])
  have HV := Lib.hid hvb
  have HW := Lib.hid hvc
  clear E1 hvb hvc
  go_enter Tryz.func186, Tryz.ntmps186
  go_wp2_with (go_at_call 121; (with_reducible refine (between _ HF.out).mono ?_); rintro e w' ⟨rfl, rfl⟩)
  refine (depths03 A (some adB) c d t l k y _ (h.hr.below hS.bel) hfit HY.out).mono ?_
  intro e w1 hn
  obtain ⟨v1, F1, rfl, hS1⟩ := hS.newRow hn
  obtain ⟨A3, c3, rfl, hc3, hr3⟩ := hS1.row 0 rfl
  rw [HDD.out] at hS1 hc3 hr3 ⊢
  rw [hH.1] at hr3 hc3 ⊢
  clear hn
  have x0 := hS1.cell 1 rfl
  have x1 := hS1.cell 2 rfl
  have x2 := hS1.cell 3 rfl
  obtain ⟨ad3, rfl, u0⟩ := hr3.one j _ (at0_get (by rw [hH.1]; exact j2))
  rw [HZ.out] at u0
  go_wp2_with (go_at_call 121; (with_reducible refine (between _ HP.out).mono ?_); rintro e w' ⟨rfl, rfl⟩)
  refine (vals3 A (some adB) L0 c d k0 t.length l.length nr locs _ (rl.below hS1.bel) hvl hm' hn0 (by omega)).mono ?_
  rintro e w3 ⟨rfl, hb3⟩
  rw [HV.out]
  have hS3 := hS1.step hb3
  clear x0 x1 x2 u0
  have x1 := hS3.cell 2 rfl
  have x2 := hS3.cell 3 rfl
  go_wp2_with fail
  refine (vals3 A (some adB) L1 c d k1 t.length l.length nr stk _ (rs.below hS3.bel) hvs hm' hn0 (by omega)).mono ?_
  rintro e w4 ⟨rfl, hb4⟩
  rw [HW.out]
  have hS4 := hS3.step hb4
  clear x1 x2 hS1 hS3
  have x0 := hS4.cell 1 rfl
  have x1 := hS4.cell 2 rfl
  have x2 := hS4.cell 3 rfl
  cases top
  rotate_left
  · have E := Lib.hid (EV.out.trans (show frmL y dd (j : Int) stk.length true = decide ((stk.length : Int) = z) by unfold frmL; rw [if_pos rfl, HZ.out]))
    go_wp2
    have hSd := hS4.drew
    obtain ⟨ad9, e9, u9⟩ := (St.rowA hSd 0 rfl).one j _ (at0_get (by rw [hH.1]; exact j2))
    cases e9
    rw [HZ.out] at u9
    refine wp_region_held_drew (S := (fun w' => w'.cell? ⟨w.heap.size + 1, 1, none⟩ = some (.int .i64 (j : Int)) ∧ w'.cell? ⟨w.heap.size + 1, 3, none⟩ = some (.slice L1 stk.length k1) ∧ w'.cell? (ad3.add j) = some (.int .i64 z))) (by kernel_rfl) (⟨hSd.cell 2 rfl 1, hSd.cell 2 rfl 3, u9⟩) (fun hHeld => ?_)
    (iterate 10 (first | refine rQ1 ?_ | refine rQ2 ?_); try simp only [pP])
    refine wpAnyH_done (by kernel_rfl) ?_ _
    clear hHeld
    go_wp2
    go_ret
    exact ⟨ret_bool (by rw [E.out, Bool.eq_iff_iff]; simp), hSd.bel⟩
  rcases Nat.eq_zero_or_pos j with h0 | h0
  · have E := Lib.hid (EV.out.trans (show frmL y dd (j : Int) stk.length false = false by unfold frmL; rw [if_neg (by simp), decide_eq_false (by omega), Bool.false_and]))
    have m0 : (j : Int) < 1 := by omega
    go_wp2
    go_ret
    exact ⟨ret_bool E.out.symm, hS4.bel⟩
  obtain ⟨i, rfl⟩ : ∃ i, j = i + 1 := ⟨j - 1, by omega⟩
  obtain ⟨x, hx⟩ := get_exU y.code i (by omega)
  have e1 : ((i + 1 : Nat) : Int) - 1 = (i : Int) := by omega
  have E2 : frmL y dd ((i + 1 : Nat) : Int) stk.length false = (decide (0 ≤ at0 dd i) && (isCal x.op && decide ((stk.length : Int) = z - 1))) := by
    unfold frmL
    rw [if_neg (by simp), decide_eq_true (by omega), Bool.true_and, HZ.out, e1, opAt_at hx]
  obtain ⟨R, hR⟩ : ∃ R, frm3B l ⟨(k : Int), ((i + 1 : Nat) : Int), locs, stk⟩ nr false = R := ⟨_, rfl⟩
  replace E2 := hR.symm.trans (EV.out.trans E2)
  have HR := Lib.hid hR
  clear hR
  obtain ⟨_, e3, v0⟩ := (St.rowA hS4 0 rfl).one i _ (at0_get (by rw [hH.1]; omega))
  cases e3
  have hai := hH.at_ i
  obtain ⟨m, hj⟩ : ∃ m, i + 1 = m := ⟨_, rfl⟩
  have i0 : (0 : Int) ≤ (i : Int) := by omega
  have i1 : (i : Int) < y.code.length := by omega
  have i2 : i < y.code.length := by omega
  obtain ⟨s, hs⟩ : ∃ s, at0 dd i = s := ⟨_, rfl⟩
  rw [hs] at v0 hai E2
  clear EV
  rw [hj] at HP x1 hS4 HZ j0 j1 j2 e1 ⊢
  have m0 : ¬ ((m : Int) < 1) := by omega
  have ew : IntKind.i64.wrap ((m : Int) - 1) = (i : Int) := by rw [e1]; exact IntWalk.i64_in _ (by omega)
  have HS := Lib.hid hs
  clear hs
  by_cases hs0 : s < 0
  · have E := Lib.hid (E2.trans (by rw [decide_eq_false (show ¬ 0 ≤ s by omega), Bool.false_and]))
    clear E2 hx h0
    go_wp2
    go_ret
    exact ⟨ret_bool (HR.out.trans E.out).symm, hS4.bel⟩
  have E3 := E2.trans (show _ = (isCal x.op && decide ((stk.length : Int) = z - 1)) by rw [decide_eq_true (show 0 ≤ s by omega), Bool.true_and])
  have s0 : 0 ≤ s := by omega
  obtain ⟨adC, rfl, r0', r1'⟩ := kIns_at (hr2.below hS4.bel) i x hx
  have ez : IntKind.i64.wrap (z - 1) = z - 1 := IntWalk.i64_in _ (by omega)
  have hSd := hS4.drew
  obtain ⟨ad9, e9, u9⟩ := (St.rowA hSd 0 rfl).one m _ (at0_get (by rw [hH.1]; exact j2))
  cases e9
  rw [HZ.out] at u9
  clear E2 hs0 hx r1' h0
  cases hc : isCal x.op
  · have E := Lib.hid (E3.trans (by rw [hc, Bool.false_and]))
    have c3 : (x.op == 23) = false := by unfold isCal at hc; simp at hc; simp; omega
    have c4 : (x.op == 24) = false := by unfold isCal at hc; simp at hc; simp; omega
    clear E3 hc
    go_wp2
    refine wp_region_held_drew (S := (fun w' => w'.cell? ⟨w.heap.size + 1, 1, none⟩ = some (.int .i64 (m : Int)) ∧ w'.cell? ⟨w.heap.size + 1, 3, none⟩ = some (.slice L1 stk.length k1) ∧ w'.cell? (ad3.add m) = some (.int .i64 z))) (by kernel_rfl) (⟨hSd.cell 2 rfl 1, hSd.cell 2 rfl 3, u9⟩) (fun hHeld => ?_)
    (iterate 19 (first | refine rQ1 ?_ | refine rQ2 ?_); try simp only [pP])
    refine wpAnyH_done (by kernel_rfl) ?_ _
    clear hHeld
    go_wp2
    go_ret
    exact ⟨ret_bool (HR.out.trans E.out).symm, hSd.bel⟩
  have E := Lib.hid (E3.trans (show _ = decide ((stk.length : Int) = z - 1) by rw [hc, Bool.true_and]))
  obtain ⟨op, a⟩ := x
  have hc' : op = 23 ∨ op = 24 := by unfold isCal at hc; simp at hc; exact hc
  clear E3 hc
  rcases hc' with rfl | rfl
  · go_wp2
    refine wp_region_held_drew (S := (fun w' => w'.cell? ⟨w.heap.size + 1, 1, none⟩ = some (.int .i64 (m : Int)) ∧ w'.cell? ⟨w.heap.size + 1, 3, none⟩ = some (.slice L1 stk.length k1) ∧ w'.cell? (ad3.add m) = some (.int .i64 z))) (by kernel_rfl) (⟨hSd.cell 2 rfl 1, hSd.cell 2 rfl 3, u9⟩) (fun hHeld => ?_)
    (iterate 19 (first | refine rQ1 ?_ | refine rQ2 ?_); try simp only [pP])
    refine wpAnyH_done (by kernel_rfl) ?_ _
    clear hHeld
    go_wp2
    go_ret
    exact ⟨ret_bool (by rw [HR.out, E.out, Bool.eq_iff_iff]; simp), hSd.bel⟩
  · go_wp2
    refine wp_region_held_drew (S := (fun w' => w'.cell? ⟨w.heap.size + 1, 1, none⟩ = some (.int .i64 (m : Int)) ∧ w'.cell? ⟨w.heap.size + 1, 3, none⟩ = some (.slice L1 stk.length k1) ∧ w'.cell? (ad3.add m) = some (.int .i64 z))) (by kernel_rfl) (⟨hSd.cell 2 rfl 1, hSd.cell 2 rfl 3, u9⟩) (fun hHeld => ?_)
    (iterate 19 (first | refine rQ1 ?_ | refine rQ2 ?_); try simp only [pP])
    refine wpAnyH_done (by kernel_rfl) ?_ _
    clear hHeld
    go_wp2
    go_ret
    exact ⟨ret_bool (by rw [HR.out, E.out, Bool.eq_iff_iff]; simp), hSd.bel⟩
end Go.Proofs.YthinhlcfpaaldaaGreat.Dat

/- Whether code is as it must be, in the reference; FastOk. -/
import Derived.Test.YthinhlcfpaaldaaGreatFlI
import Derived.Test.YthinhlcfpaaldaaGreatFlL
import Derived.Test.YthinhlcfpaaldaaGreatFkR
import Derived.Test.YthinhlcfpaaldaaGreatM5
namespace Go.Proofs.YthinhlcfpaaldaaGreat.Mem
open Go Go.RowKit
/-- More is known from here on. -/
theorem regMono {P : Program} {ops : Array Oper} {Q : Exit → Act → World → Prop} {md : Region.Mode} {S S' : World → Prop} (hSS : ∀ w, S' w → S w) : ∀ (fuel : Nat) (listed : Array Bool) (a : Act) (w : World), wpAnyH P md ops Q S' fuel listed a w → wpAnyH P md ops Q S fuel listed a w
  | 0, _, _, _, h => h
  | fuel + 1, _, _, _, h => ⟨h.1, fun i hi => wpOp_mono (fun a' w' h' => ⟨hSS _ h'.1, regMono hSS fuel _ a' w' h'.2⟩) (h.2 i hi)⟩
end Go.Proofs.YthinhlcfpaaldaaGreat.Mem
namespace Go.Proofs.YthinhlcfpaaldaaGreat.Dat
open Go Go.RowKit Go.Proofs.YthinhlcfpaaldaaGreat.Mem
set_option linter.unusedVariables false
set_option linter.unusedSimpArgs false
theorem finK {w0 W : World} {L : List Res} {A B A4 A5 : Option Addr} {c0 d0 c4 c5 : Nat} {t : List ByteArray} {l : List DFunc} {c : DFast} {g : Nat} {x y : Bool} (h : St w0 (kbox A B A4 A5 c0 d0 c4 c5 t l c g x :: L) W) (e : x = y) : St w0 (kbox A B A4 A5 c0 d0 c4 c5 t l c g y :: L) W := e ▸ h
theorem any_snoc {α : Type} (p : α → Bool) (l : List α) (k : Nat) (x : α) (hx : l[k]? = some x) : (l.take (k + 1)).any p = ((l.take k).any p || p x) := by
  rw [List.take_add_one, hx, List.any_append]
  simp
set_option maxHeartbeats 16000000 in
set_option maxRecDepth 100000 in
theorem ok10 (A B A4 A5 : Option Addr) (c0 d0 c4 c5 : Nat) (t : List ByteArray) (l : List DFunc) (c : DFast) (w : World) (h : HasMod A B t l w) (hgd : isGoodB t l = true) (r4 : kFOp.Row w A4 c.ops.length c.ops) (r5 : kExit.Row w A5 c.exits.length c.exits) (hms : msFast c ≤ 1048576) :
    Calls Tryz.prog 128 #[.agg #[.slice A t.length c0, .slice B l.length d0], .agg #[.int .i64 c.fn, .int .i64 c.entry, .int .i64 c.vals, .int .i64 c.nums, .slice A4 c.ops.length c4, .slice A5 c.exits.length c5]] w fun e w' => e = .returned (.bool (fastB l c)) ∧ Below w.heap.size w w' := by
  have hfit := modFit (isGood_mod hgd)
  have hm := hfit.n12
  have hM := MFast_of hms
  have hno : c.ops.length ≤ 1048576 := hM.1.1
  have hne : c.exits.length ≤ 1048576 := hM.2.1
  have eq1 : IntKind.i64.wrap ((l.length : Int) - 1) = (l.length : Int) - 1 := IntWalk.i64_in _ (by omega)
  cases hF : btw c.fn 0 ((l.length : Int) - 1)
  · have hS := (((St.start w).made (.cells #[.slice A t.length c0, .slice B l.length d0] 36 (0, 0))).madeAt (.cells #[.int .i64 c.fn, .int .i64 c.entry, .int .i64 c.vals, .int .i64 c.nums, .slice A4 c.ops.length c4, .slice A5 c.exits.length c5] 41 (0, 0)) (w.heap.size + 1) (by simp))
    have E := Lib.hid (fast_no (show fastHeadB l c = false by unfold fastHeadB; rw [funAt_no hF]))
    have HF := Lib.hid hF
    clear hF
    go_enter Tryz.func128, Tryz.ntmps128
    go_wp2_with (go_at_call 121; (with_reducible refine (between _ HF.out).mono ?_); rintro e w' ⟨rfl, rfl⟩)
    go_ret
    exact ⟨ret_bool E.out.symm, hS.bel⟩
  have hF2 := btw_true.1 hF
  obtain ⟨fn, entry, vals, nums, ops, exits⟩ := c
  dsimp only at *
  obtain ⟨fk, rfl⟩ : ∃ fk : Nat, fn = fk := ⟨fn.toNat, by omega⟩
  obtain ⟨y, hy⟩ := get_exU l fk (by omega)
  have hym := List.mem_of_getElem? hy
  have hyl := hfit.loc y hym
  have hyp := hfit.par y hym
  have hH := hfit.hgt hym
  have hen := fun e (he : e ∈ entriesL l y.code) => entry_fit hgd hym he
  have hc120 := hfit.c120 y hym
  have hEl : (entriesL l y.code).length ≤ 1048576 := by have := entriesL_len l y.code; omega
  have CE : ∀ W, HasMod A B t l W → Calls Tryz.prog 208 #[.agg #[.slice A t.length c0, .slice B l.length d0], .int .i64 fk] W (NewRow (Knd.int .i64) 3 (entriesL l y.code) W) := fun W hW => entries03 A B c0 d0 t l fk y W hW.hr hgd hy
  have CD : ∀ W, HasMod A B t l W → Calls Tryz.prog 209 #[.agg #[.slice A t.length c0, .slice B l.length d0], .int .i64 fk] W (NewRow (Knd.int .i64) 3 (depthsL l y.code) W) := fun W hW => depths03 A B c0 d0 t l fk y W hW.hr hfit hy
  have hhd : fastHeadB l ⟨(fk : Int), entry, vals, nums, ops, exits⟩ = ((entriesL l y.code).any (fun x => decide (x = entry)) && (btw vals (y.locals + at0 (depthsL l y.code) entry) 400 && btw nums 0 400)) := by
    unfold fastHeadB
    rw [funAt_of (k := fk) rfl hy]
    show ((entriesL l y.code).contains entry && _) = _
    rw [has_any]
  obtain ⟨EL, hEL⟩ : ∃ EL, entriesL l y.code = EL := ⟨_, rfl⟩
  rw [hEL] at hhd hEl
  simp only [hEL] at hen CE
  have HF := Lib.hid hF
  have k0 : (0 : Int) ≤ (fk : Int) := by omega
  have k1 : (fk : Int) < l.length := by omega
  have k2 : fk < l.length := by omega
  obtain ⟨adB, A2, c2, rfl, _, q1', _, _, _⟩ := kFunc_at h.hr fk y hy
  have HY := Lib.hid hy
  have hS := (((St.start w).made (.cells #[.slice A t.length c0, .slice (some adB) l.length d0] 36 (0, 0))).madeAt (.cells #[.int .i64 (fk : Int), .int .i64 entry, .int .i64 vals, .int .i64 nums, .slice A4 ops.length c4, .slice A5 exits.length c5] 41 (0, 0)) (w.heap.size + 1) (by simp))
  clear hF hF2 hEL hy
  go_enter Tryz.func128, Tryz.ntmps128
  go_wp2_with (go_at_call 121; (with_reducible refine (between _ HF.out).mono ?_); rintro e w' ⟨rfl, rfl⟩)
  refine (CE _ (h.below hS.bel)).mono ?_
  intro e w2 hn
  obtain ⟨v, F, rfl, hS2⟩ := hS.newRow hn
  obtain ⟨A9, c9, rfl, _, _⟩ := hS2.row 0 rfl
  clear hn hS CE
  go_wp2
  go_loopw [5, 7] (fun b v wr => ∃ k : Nat, k ≤ EL.length ∧ b = .bool ((EL.take k).any (fun x => decide (x = entry))) ∧ v = .int .i64 k ∧ St w [Res.own (Knd.int .i64) 3 (.slice A9 EL.length c9) EL F, Res.box (w.heap.size + 1) (.cells #[.int .i64 (fk : Int), .int .i64 entry, .int .i64 vals, .int .i64 nums, .slice A4 ops.length c4, .slice A5 exits.length c5] 41 (0, 0)), Res.box w.heap.size (.cells #[.slice A t.length c0, .slice (some adB) l.length d0] 36 (0, 0))] wr) (fun _ v _ => EL.length - (intOf v).toNat)
  case atStart => exact ⟨0, by omega, rfl, rfl, hS2⟩
  case round =>
    clear hS2
    obtain ⟨k, hk, rfl, rfl, hS⟩ := hrel
    by_cases hlt : k < EL.length
    · obtain ⟨x, hx⟩ := get_exU EL k hlt
      obtain ⟨ad9, rfl, x0⟩ := hS.cellR 0 rfl k x hx
      have HA := Lib.hid (any_snoc (fun x => decide (x = entry)) EL k x hx)
      have HX9 := Lib.hid hx
      cases hp : (EL.take k).any (fun x => decide (x = entry))
      · have HP := Lib.hid hp
        clear hp hx x0
        go_wp2
        have hSd := hS.drew
        refine wp_region_held_drew (S := (fun (w' : World) => w'.cell? ⟨w.heap.size + 1, 1, none⟩ = some (.int .i64 entry) ∧ w'.cell? (ad9.add k) = some (.int .i64 x))) (by kernel_rfl) (⟨hSd.cell 1 rfl 1, (by obtain ⟨ad8, e8, x8⟩ := hSd.cellR 0 rfl k x HX9.out; cases e8; exact x8)⟩) (fun hHeld => ?_)
        (iterate 11 (first | refine rQ1 ?_ | refine rQ2 ?_); try simp only [pP])
        refine wpAnyH_done (by kernel_rfl) ?_ _
        clear hHeld
        go_wp2
        go_roundw
        case rel => exact ⟨k + 1, by omega, by rw [HA.out, HP.out, Bool.false_or]; first | rfl | (congr 1; rw [Bool.eq_iff_iff]; simp), by go_num, hSd⟩
        case measure => simp [intOf]; omega
      · have HP := Lib.hid hp
        clear hp hx x0
        go_wp2
        have hSd := hS.drew
        refine wp_region_held_drew (S := (fun (w' : World) => w'.cell? ⟨w.heap.size + 1, 1, none⟩ = some (.int .i64 entry))) (by kernel_rfl) (hSd.cell 1 rfl 1) (fun hHeld => ?_)
        (iterate 2 (first | refine rQ1 ?_ | refine rQ2 ?_); try simp only [pP])
        refine regS (fun _ _ _ d h => by cases d <;> exact h) [2, 3, 4, 5, 6, 7, 8] _ _ _ rfl (by kernel_rfl) (by assumption) ?_
        simp only [skipL, List.getElem?_cons_zero, List.getElem?_cons_succ, Option.bind_some, pP]
        (iterate 2 (first | refine rQ1 ?_ | refine rQ2 ?_); try simp only [pP])
        refine wpAnyH_done (by kernel_rfl) ?_ _
        clear hHeld
        go_wp2
        go_roundw
        case rel => exact ⟨k + 1, by omega, by rw [HA.out, HP.out, Bool.true_or], by go_num, hSd⟩
        case measure => simp [intOf]; omega
    obtain rfl : k = EL.length := by omega
    rw [List.take_length]
    replace hS := hS.drop
    have x_f := hS.cell 0 rfl
    clear hlt hk
    cases hA : EL.any (fun x => decide (x = entry))
    · have E := Lib.hid (fast_no (hhd.trans (by rw [hA, Bool.false_and])))
      clear hA hhd hen x_f
      go_wp2
      have hSd := hS.drew
      refine wp_region_held_drew (S := (fun (w' : World) => w'.cell? ⟨w.heap.size, 0, none⟩ = some (.slice A t.length c0) ∧ w'.cell? ⟨w.heap.size, 1, none⟩ = some (.slice (some adB) l.length d0) ∧ w'.cell? ⟨w.heap.size + 1, 0, none⟩ = some (.int .i64 (fk : Int)) ∧ w'.cell? ⟨w.heap.size + 1, 1, none⟩ = some (.int .i64 entry) ∧ w'.cell? ⟨w.heap.size + 1, 2, none⟩ = some (.int .i64 vals) ∧ w'.cell? ⟨w.heap.size + 1, 3, none⟩ = some (.int .i64 nums) ∧ w'.cell? ⟨w.heap.size + 1, 4, none⟩ = some (.slice A4 ops.length c4) ∧ w'.cell? ⟨w.heap.size + 1, 5, none⟩ = some (.slice A5 exits.length c5) ∧ w'.cell? ⟨(adB.add (fk * 3)).block, (adB.add (fk * 3)).off + 1, none⟩ = some (.int .i64 y.locals))) (by kernel_rfl) (⟨hSd.cell 1 rfl 0, hSd.cell 1 rfl 1, hSd.cell 0 rfl 0, hSd.cell 0 rfl 1, hSd.cell 0 rfl 2, hSd.cell 0 rfl 3, hSd.cell 0 rfl 4, hSd.cell 0 rfl 5, kept hSd.bel q1'⟩) (fun hHeld => ?_)
      (iterate 3 (first | refine rQ1 ?_ | refine rQ2 ?_); try simp only [pP])
      refine regS (fun _ _ _ d h => by cases d <;> exact h) [3, 4, 5, 6, 7, 8, 9, 10, 11, 12, 13, 14, 15, 16, 17, 18, 19, 20, 21, 22] _ _ _ rfl (by kernel_rfl) (by assumption) ?_
      simp only [skipL, List.getElem?_cons_zero, List.getElem?_cons_succ, Option.bind_some, pP]
      (iterate 2 (first | refine rQ1 ?_ | refine rQ2 ?_); try simp only [pP])
      refine regS (fun _ _ _ d h => by cases d <;> exact h) [25, 26, 27, 28] _ _ _ rfl (by kernel_rfl) (by assumption) ?_
      simp only [skipL, List.getElem?_cons_zero, List.getElem?_cons_succ, Option.bind_some, pP]
      (iterate 2 (first | refine rQ1 ?_ | refine rQ2 ?_); try simp only [pP])
      refine regS (fun _ _ _ d h => by cases d <;> exact h) [31, 32, 33, 34, 35] _ _ _ rfl (by kernel_rfl) (by assumption) ?_
      simp only [skipL, List.getElem?_cons_zero, List.getElem?_cons_succ, Option.bind_some, pP]
      (iterate 2 (first | refine rQ1 ?_ | refine rQ2 ?_); try simp only [pP])
      refine regS (fun _ _ _ d h => by cases d <;> exact h) [38, 39, 40, 41] _ _ _ rfl (by kernel_rfl) (by assumption) ?_
      simp only [skipL, List.getElem?_cons_zero, List.getElem?_cons_succ, Option.bind_some, pP]
      (first | refine rQ1 ?_ | refine rQ2 ?_); (try simp only [pP])
      refine wpAnyH_done (by kernel_rfl) ?_ _
      clear hHeld
      go_wp2
      go_ret
      exact ⟨ret_bool E.out.symm, hSd.bel⟩
    rw [hA, Bool.true_and] at hhd
    obtain ⟨x0, hx0, ex0⟩ := List.any_eq_true.1 hA
    obtain rfl := of_decide_eq_true ex0
    obtain ⟨he0, he1, he2⟩ := hen _ hx0
    obtain ⟨ek, rfl⟩ : ∃ ek : Nat, x0 = ek := ⟨x0.toNat, by omega⟩
    have hde := at0_get (d := depthsL l y.code) (k := ek) (by rw [hH.1]; omega)
    have hdr := hH.at_ (ek : Int)
    have hdl := hH.1
    obtain ⟨hg, hhg⟩ : ∃ hg, at0 (depthsL l y.code) (ek : Int) = hg := ⟨_, rfl⟩
    obtain ⟨DL, hDL⟩ : ∃ DL, depthsL l y.code = DL := ⟨_, rfl⟩
    rw [hhg] at hhd he2 hdr hde
    rw [hDL] at hde hdl
    simp only [hDL] at CD
    have j0 : (0 : Int) ≤ (ek : Int) := by omega
    have j2 : ek < DL.length := by omega
    have j1 : (ek : Int) < DL.length := by omega
    have HDE := Lib.hid hde
    have HDL := Lib.hid hdl
    clear hA hx0 ex0 hen hde hH hhg hDL hdl
    have ewr : IntKind.i64.wrap (y.locals + hg) = y.locals + hg := IntWalk.i64_in _ (by omega)
    go_wp2
    have hSd := hS.drew
    clear x_f hS
    cases hV : btw vals (y.locals + hg) 400
    · have E := Lib.hid (fast_no (hhd.trans (by rw [hV, Bool.false_and])))
      have HV := Lib.hid hV
      clear hV hhd
      refine wp_region_held_drew (S := (fun (w' : World) => w'.cell? ⟨w.heap.size, 0, none⟩ = some (.slice A t.length c0) ∧ w'.cell? ⟨w.heap.size, 1, none⟩ = some (.slice (some adB) l.length d0) ∧ w'.cell? ⟨w.heap.size + 1, 0, none⟩ = some (.int .i64 (fk : Int)) ∧ w'.cell? ⟨w.heap.size + 1, 1, none⟩ = some (.int .i64 (ek : Int)) ∧ w'.cell? ⟨w.heap.size + 1, 2, none⟩ = some (.int .i64 vals) ∧ w'.cell? ⟨w.heap.size + 1, 3, none⟩ = some (.int .i64 nums) ∧ w'.cell? ⟨w.heap.size + 1, 4, none⟩ = some (.slice A4 ops.length c4) ∧ w'.cell? ⟨w.heap.size + 1, 5, none⟩ = some (.slice A5 exits.length c5) ∧ w'.cell? ⟨(adB.add (fk * 3)).block, (adB.add (fk * 3)).off + 1, none⟩ = some (.int .i64 y.locals))) (by kernel_rfl) (⟨hSd.cell 1 rfl 0, hSd.cell 1 rfl 1, hSd.cell 0 rfl 0, hSd.cell 0 rfl 1, hSd.cell 0 rfl 2, hSd.cell 0 rfl 3, hSd.cell 0 rfl 4, hSd.cell 0 rfl 5, kept hSd.bel q1'⟩) (fun hHeld => ?_)
      (iterate 15 (first | refine rQ1 ?_ | refine rQ2 ?_); try simp only [pP]); (first | refine rW 16 ?_ | refine rV 16 ?_); (try simp only [pP]); (first | refine rW 17 ?_ | refine rV 17 ?_); (try simp only [pP])
      refine regC 15 rfl (by kernel_rfl) (by rfl) (fun Kq hKq => ?_)
      go_simp
      (with_reducible refine (CD _ (h.below hSd.bel)).mono ?_)
      intro e w4 hn; obtain ⟨v, F, rfl, hS2⟩ := hSd.newRow hn; obtain ⟨A8, c8, rfl, _, _⟩ := hS2.row 0 rfl; obtain ⟨adN, rfl, xN⟩ := hS2.cellR 0 rfl ek hg HDE.out; clear hn
      try go_wp2_with fail
      refine hKq.out _ _ (⟨hS2.cell 2 rfl 0, hS2.cell 2 rfl 1, hS2.cell 1 rfl 0, hS2.cell 1 rfl 1, hS2.cell 1 rfl 2, hS2.cell 1 rfl 3, hS2.cell 1 rfl 4, hS2.cell 1 rfl 5, kept hS2.bel q1'⟩) (fun hHeld => ?_)
      clear hKq Kq
      (try simp only [pP])
      refine regMono (S' := (fun (w' : World) => w'.cell? ⟨w.heap.size, 0, none⟩ = some (.slice A t.length c0) ∧ w'.cell? ⟨w.heap.size, 1, none⟩ = some (.slice (some adB) l.length d0) ∧ w'.cell? ⟨w.heap.size + 1, 0, none⟩ = some (.int .i64 (fk : Int)) ∧ w'.cell? ⟨w.heap.size + 1, 1, none⟩ = some (.int .i64 (ek : Int)) ∧ w'.cell? ⟨w.heap.size + 1, 2, none⟩ = some (.int .i64 vals) ∧ w'.cell? ⟨w.heap.size + 1, 3, none⟩ = some (.int .i64 nums) ∧ w'.cell? ⟨w.heap.size + 1, 4, none⟩ = some (.slice A4 ops.length c4) ∧ w'.cell? ⟨w.heap.size + 1, 5, none⟩ = some (.slice A5 exits.length c5) ∧ w'.cell? ⟨(adB.add (fk * 3)).block, (adB.add (fk * 3)).off + 1, none⟩ = some (.int .i64 y.locals) ∧ w'.cell? (adN.add ek) = some (.int .i64 hg))) (fun _ h => ⟨h.1, h.2.1, h.2.2.1, h.2.2.2.1, h.2.2.2.2.1, h.2.2.2.2.2.1, h.2.2.2.2.2.2.1, h.2.2.2.2.2.2.2.1, h.2.2.2.2.2.2.2.2.1⟩) _ _ _ _ ?_
      clear hHeld
      have hHeld : (fun (w' : World) => w'.cell? ⟨w.heap.size, 0, none⟩ = some (.slice A t.length c0) ∧ w'.cell? ⟨w.heap.size, 1, none⟩ = some (.slice (some adB) l.length d0) ∧ w'.cell? ⟨w.heap.size + 1, 0, none⟩ = some (.int .i64 (fk : Int)) ∧ w'.cell? ⟨w.heap.size + 1, 1, none⟩ = some (.int .i64 (ek : Int)) ∧ w'.cell? ⟨w.heap.size + 1, 2, none⟩ = some (.int .i64 vals) ∧ w'.cell? ⟨w.heap.size + 1, 3, none⟩ = some (.int .i64 nums) ∧ w'.cell? ⟨w.heap.size + 1, 4, none⟩ = some (.slice A4 ops.length c4) ∧ w'.cell? ⟨w.heap.size + 1, 5, none⟩ = some (.slice A5 exits.length c5) ∧ w'.cell? ⟨(adB.add (fk * 3)).block, (adB.add (fk * 3)).off + 1, none⟩ = some (.int .i64 y.locals) ∧ w'.cell? (adN.add ek) = some (.int .i64 hg)) _ := ⟨hS2.cell 2 rfl 0, hS2.cell 2 rfl 1, hS2.cell 1 rfl 0, hS2.cell 1 rfl 1, hS2.cell 1 rfl 2, hS2.cell 1 rfl 3, hS2.cell 1 rfl 4, hS2.cell 1 rfl 5, kept hS2.bel q1', xN⟩
      (iterate 3 (first | refine rQ1 ?_ | refine rQ2 ?_); try simp only [pP])
      refine regC 21 rfl (by kernel_rfl) (by rfl) (fun Kq hKq => ?_)
      go_simp
      (with_reducible refine (between _ HV.out).mono ?_)
      rintro e w5 ⟨rfl, rfl⟩
      try go_wp2_with fail
      refine hKq.out _ _ (hHeld) (fun hHeld => ?_)
      clear hKq Kq
      (try simp only [pP])
      (iterate 3 (first | refine rQ1 ?_ | refine rQ2 ?_); try simp only [pP])
      refine regS (fun _ _ _ d h => by cases d <;> exact h) [25, 26, 27, 28] _ _ _ rfl (by kernel_rfl) (by assumption) ?_
      simp only [skipL, List.getElem?_cons_zero, List.getElem?_cons_succ, Option.bind_some, pP]
      (iterate 2 (first | refine rQ1 ?_ | refine rQ2 ?_); try simp only [pP])
      refine regS (fun _ _ _ d h => by cases d <;> exact h) [31, 32, 33, 34, 35] _ _ _ rfl (by kernel_rfl) (by assumption) ?_
      simp only [skipL, List.getElem?_cons_zero, List.getElem?_cons_succ, Option.bind_some, pP]
      (iterate 2 (first | refine rQ1 ?_ | refine rQ2 ?_); try simp only [pP])
      refine regS (fun _ _ _ d h => by cases d <;> exact h) [38, 39, 40, 41] _ _ _ rfl (by kernel_rfl) (by assumption) ?_
      simp only [skipL, List.getElem?_cons_zero, List.getElem?_cons_succ, Option.bind_some, pP]
      (first | refine rQ1 ?_ | refine rQ2 ?_); (try simp only [pP])
      refine wpAnyH_done (by kernel_rfl) ?_ _
      clear hHeld
      go_wp2
      go_ret
      exact ⟨ret_bool E.out.symm, hS2.bel⟩
    rw [hV, Bool.true_and] at hhd
    have hV2 := btw_true.1 hV
    have HV := Lib.hid hV
    clear hV
    cases hN : btw nums 0 400
    · have E := Lib.hid (fast_no (hhd.trans hN))
      have HN := Lib.hid hN
      clear hN hhd
      refine wp_region_held_drew (S := (fun (w' : World) => w'.cell? ⟨w.heap.size, 0, none⟩ = some (.slice A t.length c0) ∧ w'.cell? ⟨w.heap.size, 1, none⟩ = some (.slice (some adB) l.length d0) ∧ w'.cell? ⟨w.heap.size + 1, 0, none⟩ = some (.int .i64 (fk : Int)) ∧ w'.cell? ⟨w.heap.size + 1, 1, none⟩ = some (.int .i64 (ek : Int)) ∧ w'.cell? ⟨w.heap.size + 1, 2, none⟩ = some (.int .i64 vals) ∧ w'.cell? ⟨w.heap.size + 1, 3, none⟩ = some (.int .i64 nums) ∧ w'.cell? ⟨w.heap.size + 1, 4, none⟩ = some (.slice A4 ops.length c4) ∧ w'.cell? ⟨w.heap.size + 1, 5, none⟩ = some (.slice A5 exits.length c5) ∧ w'.cell? ⟨(adB.add (fk * 3)).block, (adB.add (fk * 3)).off + 1, none⟩ = some (.int .i64 y.locals))) (by kernel_rfl) (⟨hSd.cell 1 rfl 0, hSd.cell 1 rfl 1, hSd.cell 0 rfl 0, hSd.cell 0 rfl 1, hSd.cell 0 rfl 2, hSd.cell 0 rfl 3, hSd.cell 0 rfl 4, hSd.cell 0 rfl 5, kept hSd.bel q1'⟩) (fun hHeld => ?_)
      (iterate 15 (first | refine rQ1 ?_ | refine rQ2 ?_); try simp only [pP]); (first | refine rW 16 ?_ | refine rV 16 ?_); (try simp only [pP]); (first | refine rW 17 ?_ | refine rV 17 ?_); (try simp only [pP])
      refine regC 15 rfl (by kernel_rfl) (by rfl) (fun Kq hKq => ?_)
      go_simp
      (with_reducible refine (CD _ (h.below hSd.bel)).mono ?_)
      intro e w4 hn; obtain ⟨v, F, rfl, hS2⟩ := hSd.newRow hn; obtain ⟨A8, c8, rfl, _, _⟩ := hS2.row 0 rfl; obtain ⟨adN, rfl, xN⟩ := hS2.cellR 0 rfl ek hg HDE.out; clear hn
      try go_wp2_with fail
      refine hKq.out _ _ (⟨hS2.cell 2 rfl 0, hS2.cell 2 rfl 1, hS2.cell 1 rfl 0, hS2.cell 1 rfl 1, hS2.cell 1 rfl 2, hS2.cell 1 rfl 3, hS2.cell 1 rfl 4, hS2.cell 1 rfl 5, kept hS2.bel q1'⟩) (fun hHeld => ?_)
      clear hKq Kq
      (try simp only [pP])
      refine regMono (S' := (fun (w' : World) => w'.cell? ⟨w.heap.size, 0, none⟩ = some (.slice A t.length c0) ∧ w'.cell? ⟨w.heap.size, 1, none⟩ = some (.slice (some adB) l.length d0) ∧ w'.cell? ⟨w.heap.size + 1, 0, none⟩ = some (.int .i64 (fk : Int)) ∧ w'.cell? ⟨w.heap.size + 1, 1, none⟩ = some (.int .i64 (ek : Int)) ∧ w'.cell? ⟨w.heap.size + 1, 2, none⟩ = some (.int .i64 vals) ∧ w'.cell? ⟨w.heap.size + 1, 3, none⟩ = some (.int .i64 nums) ∧ w'.cell? ⟨w.heap.size + 1, 4, none⟩ = some (.slice A4 ops.length c4) ∧ w'.cell? ⟨w.heap.size + 1, 5, none⟩ = some (.slice A5 exits.length c5) ∧ w'.cell? ⟨(adB.add (fk * 3)).block, (adB.add (fk * 3)).off + 1, none⟩ = some (.int .i64 y.locals) ∧ w'.cell? (adN.add ek) = some (.int .i64 hg))) (fun _ h => ⟨h.1, h.2.1, h.2.2.1, h.2.2.2.1, h.2.2.2.2.1, h.2.2.2.2.2.1, h.2.2.2.2.2.2.1, h.2.2.2.2.2.2.2.1, h.2.2.2.2.2.2.2.2.1⟩) _ _ _ _ ?_
      clear hHeld
      have hHeld : (fun (w' : World) => w'.cell? ⟨w.heap.size, 0, none⟩ = some (.slice A t.length c0) ∧ w'.cell? ⟨w.heap.size, 1, none⟩ = some (.slice (some adB) l.length d0) ∧ w'.cell? ⟨w.heap.size + 1, 0, none⟩ = some (.int .i64 (fk : Int)) ∧ w'.cell? ⟨w.heap.size + 1, 1, none⟩ = some (.int .i64 (ek : Int)) ∧ w'.cell? ⟨w.heap.size + 1, 2, none⟩ = some (.int .i64 vals) ∧ w'.cell? ⟨w.heap.size + 1, 3, none⟩ = some (.int .i64 nums) ∧ w'.cell? ⟨w.heap.size + 1, 4, none⟩ = some (.slice A4 ops.length c4) ∧ w'.cell? ⟨w.heap.size + 1, 5, none⟩ = some (.slice A5 exits.length c5) ∧ w'.cell? ⟨(adB.add (fk * 3)).block, (adB.add (fk * 3)).off + 1, none⟩ = some (.int .i64 y.locals) ∧ w'.cell? (adN.add ek) = some (.int .i64 hg)) _ := ⟨hS2.cell 2 rfl 0, hS2.cell 2 rfl 1, hS2.cell 1 rfl 0, hS2.cell 1 rfl 1, hS2.cell 1 rfl 2, hS2.cell 1 rfl 3, hS2.cell 1 rfl 4, hS2.cell 1 rfl 5, kept hS2.bel q1', xN⟩
      (iterate 3 (first | refine rQ1 ?_ | refine rQ2 ?_); try simp only [pP])
      refine regC 21 rfl (by kernel_rfl) (by rfl) (fun Kq hKq => ?_)
      go_simp
      (with_reducible refine (between _ HV.out).mono ?_)
      rintro e w5 ⟨rfl, rfl⟩
      try go_wp2_with fail
      refine hKq.out _ _ (hHeld) (fun hHeld => ?_)
      clear hKq Kq
      (try simp only [pP])
      (iterate 3 (first | refine rQ1 ?_ | refine rQ2 ?_); try simp only [pP])
      (iterate 2 (first | refine rQ1 ?_ | refine rQ2 ?_); try simp only [pP])
      refine regC 27 rfl (by kernel_rfl) (by rfl) (fun Kq hKq => ?_)
      go_simp
      (with_reducible refine (between _ HN.out).mono ?_)
      rintro e w5 ⟨rfl, rfl⟩
      try go_wp2_with fail
      refine hKq.out _ _ (hHeld) (fun hHeld => ?_)
      clear hKq Kq
      (try simp only [pP])
      (iterate 3 (first | refine rQ1 ?_ | refine rQ2 ?_); try simp only [pP])
      refine regS (fun _ _ _ d h => by cases d <;> exact h) [31, 32, 33, 34, 35] _ _ _ rfl (by kernel_rfl) (by assumption) ?_
      simp only [skipL, List.getElem?_cons_zero, List.getElem?_cons_succ, Option.bind_some, pP]
      (iterate 2 (first | refine rQ1 ?_ | refine rQ2 ?_); try simp only [pP])
      refine regS (fun _ _ _ d h => by cases d <;> exact h) [38, 39, 40, 41] _ _ _ rfl (by kernel_rfl) (by assumption) ?_
      simp only [skipL, List.getElem?_cons_zero, List.getElem?_cons_succ, Option.bind_some, pP]
      (first | refine rQ1 ?_ | refine rQ2 ?_); (try simp only [pP])
      refine wpAnyH_done (by kernel_rfl) ?_ _
      clear hHeld
      go_wp2
      go_ret
      exact ⟨ret_bool E.out.symm, hS2.bel⟩
    have E1 := Lib.hid (show fastB l ⟨(fk : Int), (ek : Int), vals, nums, ops, exits⟩ = ((btw (ops.length : Int) 1 1500 && decide (exits.length ≤ 1500)) && ((List.range ops.length).all (opAtB l ⟨(fk : Int), (ek : Int), vals, nums, ops, exits⟩) && (lastB ⟨(fk : Int), (ek : Int), vals, nums, ops, exits⟩ && exits.all (exitB l ⟨(fk : Int), (ek : Int), vals, nums, ops, exits⟩)))) by unfold fastB; rw [hhd.trans hN]; rfl)
    have hN2 := btw_true.1 hN
    have HN := Lib.hid hN
    clear hN hhd
    cases hO : btw (ops.length : Int) 1 1500
    · have E := Lib.hid (E1.out.trans (by rw [hO, Bool.false_and, Bool.false_and]))
      have HO := Lib.hid hO
      clear hO
      refine wp_region_held_drew (S := (fun (w' : World) => w'.cell? ⟨w.heap.size, 0, none⟩ = some (.slice A t.length c0) ∧ w'.cell? ⟨w.heap.size, 1, none⟩ = some (.slice (some adB) l.length d0) ∧ w'.cell? ⟨w.heap.size + 1, 0, none⟩ = some (.int .i64 (fk : Int)) ∧ w'.cell? ⟨w.heap.size + 1, 1, none⟩ = some (.int .i64 (ek : Int)) ∧ w'.cell? ⟨w.heap.size + 1, 2, none⟩ = some (.int .i64 vals) ∧ w'.cell? ⟨w.heap.size + 1, 3, none⟩ = some (.int .i64 nums) ∧ w'.cell? ⟨w.heap.size + 1, 4, none⟩ = some (.slice A4 ops.length c4) ∧ w'.cell? ⟨w.heap.size + 1, 5, none⟩ = some (.slice A5 exits.length c5) ∧ w'.cell? ⟨(adB.add (fk * 3)).block, (adB.add (fk * 3)).off + 1, none⟩ = some (.int .i64 y.locals))) (by kernel_rfl) (⟨hSd.cell 1 rfl 0, hSd.cell 1 rfl 1, hSd.cell 0 rfl 0, hSd.cell 0 rfl 1, hSd.cell 0 rfl 2, hSd.cell 0 rfl 3, hSd.cell 0 rfl 4, hSd.cell 0 rfl 5, kept hSd.bel q1'⟩) (fun hHeld => ?_)
      (iterate 15 (first | refine rQ1 ?_ | refine rQ2 ?_); try simp only [pP]); (first | refine rW 16 ?_ | refine rV 16 ?_); (try simp only [pP]); (first | refine rW 17 ?_ | refine rV 17 ?_); (try simp only [pP])
      refine regC 15 rfl (by kernel_rfl) (by rfl) (fun Kq hKq => ?_)
      go_simp
      (with_reducible refine (CD _ (h.below hSd.bel)).mono ?_)
      intro e w4 hn; obtain ⟨v, F, rfl, hS2⟩ := hSd.newRow hn; obtain ⟨A8, c8, rfl, _, _⟩ := hS2.row 0 rfl; obtain ⟨adN, rfl, xN⟩ := hS2.cellR 0 rfl ek hg HDE.out; clear hn
      try go_wp2_with fail
      refine hKq.out _ _ (⟨hS2.cell 2 rfl 0, hS2.cell 2 rfl 1, hS2.cell 1 rfl 0, hS2.cell 1 rfl 1, hS2.cell 1 rfl 2, hS2.cell 1 rfl 3, hS2.cell 1 rfl 4, hS2.cell 1 rfl 5, kept hS2.bel q1'⟩) (fun hHeld => ?_)
      clear hKq Kq
      (try simp only [pP])
      refine regMono (S' := (fun (w' : World) => w'.cell? ⟨w.heap.size, 0, none⟩ = some (.slice A t.length c0) ∧ w'.cell? ⟨w.heap.size, 1, none⟩ = some (.slice (some adB) l.length d0) ∧ w'.cell? ⟨w.heap.size + 1, 0, none⟩ = some (.int .i64 (fk : Int)) ∧ w'.cell? ⟨w.heap.size + 1, 1, none⟩ = some (.int .i64 (ek : Int)) ∧ w'.cell? ⟨w.heap.size + 1, 2, none⟩ = some (.int .i64 vals) ∧ w'.cell? ⟨w.heap.size + 1, 3, none⟩ = some (.int .i64 nums) ∧ w'.cell? ⟨w.heap.size + 1, 4, none⟩ = some (.slice A4 ops.length c4) ∧ w'.cell? ⟨w.heap.size + 1, 5, none⟩ = some (.slice A5 exits.length c5) ∧ w'.cell? ⟨(adB.add (fk * 3)).block, (adB.add (fk * 3)).off + 1, none⟩ = some (.int .i64 y.locals) ∧ w'.cell? (adN.add ek) = some (.int .i64 hg))) (fun _ h => ⟨h.1, h.2.1, h.2.2.1, h.2.2.2.1, h.2.2.2.2.1, h.2.2.2.2.2.1, h.2.2.2.2.2.2.1, h.2.2.2.2.2.2.2.1, h.2.2.2.2.2.2.2.2.1⟩) _ _ _ _ ?_
      clear hHeld
      have hHeld : (fun (w' : World) => w'.cell? ⟨w.heap.size, 0, none⟩ = some (.slice A t.length c0) ∧ w'.cell? ⟨w.heap.size, 1, none⟩ = some (.slice (some adB) l.length d0) ∧ w'.cell? ⟨w.heap.size + 1, 0, none⟩ = some (.int .i64 (fk : Int)) ∧ w'.cell? ⟨w.heap.size + 1, 1, none⟩ = some (.int .i64 (ek : Int)) ∧ w'.cell? ⟨w.heap.size + 1, 2, none⟩ = some (.int .i64 vals) ∧ w'.cell? ⟨w.heap.size + 1, 3, none⟩ = some (.int .i64 nums) ∧ w'.cell? ⟨w.heap.size + 1, 4, none⟩ = some (.slice A4 ops.length c4) ∧ w'.cell? ⟨w.heap.size + 1, 5, none⟩ = some (.slice A5 exits.length c5) ∧ w'.cell? ⟨(adB.add (fk * 3)).block, (adB.add (fk * 3)).off + 1, none⟩ = some (.int .i64 y.locals) ∧ w'.cell? (adN.add ek) = some (.int .i64 hg)) _ := ⟨hS2.cell 2 rfl 0, hS2.cell 2 rfl 1, hS2.cell 1 rfl 0, hS2.cell 1 rfl 1, hS2.cell 1 rfl 2, hS2.cell 1 rfl 3, hS2.cell 1 rfl 4, hS2.cell 1 rfl 5, kept hS2.bel q1', xN⟩
      (iterate 3 (first | refine rQ1 ?_ | refine rQ2 ?_); try simp only [pP])
      refine regC 21 rfl (by kernel_rfl) (by rfl) (fun Kq hKq => ?_)
      go_simp
      (with_reducible refine (between _ HV.out).mono ?_)
      rintro e w5 ⟨rfl, rfl⟩
      try go_wp2_with fail
      refine hKq.out _ _ (hHeld) (fun hHeld => ?_)
      clear hKq Kq
      (try simp only [pP])
      (iterate 3 (first | refine rQ1 ?_ | refine rQ2 ?_); try simp only [pP])
      (iterate 2 (first | refine rQ1 ?_ | refine rQ2 ?_); try simp only [pP])
      refine regC 27 rfl (by kernel_rfl) (by rfl) (fun Kq hKq => ?_)
      go_simp
      (with_reducible refine (between _ HN.out).mono ?_)
      rintro e w5 ⟨rfl, rfl⟩
      try go_wp2_with fail
      refine hKq.out _ _ (hHeld) (fun hHeld => ?_)
      clear hKq Kq
      (try simp only [pP])
      (iterate 3 (first | refine rQ1 ?_ | refine rQ2 ?_); try simp only [pP])
      (iterate 3 (first | refine rQ1 ?_ | refine rQ2 ?_); try simp only [pP])
      refine regC 34 rfl (by kernel_rfl) (by rfl) (fun Kq hKq => ?_)
      go_simp
      (with_reducible refine (between _ HO.out).mono ?_)
      rintro e w5 ⟨rfl, rfl⟩
      try go_wp2_with fail
      refine hKq.out _ _ (hHeld) (fun hHeld => ?_)
      clear hKq Kq
      (try simp only [pP])
      (iterate 3 (first | refine rQ1 ?_ | refine rQ2 ?_); try simp only [pP])
      refine regS (fun _ _ _ d h => by cases d <;> exact h) [38, 39, 40, 41] _ _ _ rfl (by kernel_rfl) (by assumption) ?_
      simp only [skipL, List.getElem?_cons_zero, List.getElem?_cons_succ, Option.bind_some, pP]
      (first | refine rQ1 ?_ | refine rQ2 ?_); (try simp only [pP])
      refine wpAnyH_done (by kernel_rfl) ?_ _
      clear hHeld
      go_wp2
      go_ret
      exact ⟨ret_bool E.out.symm, hS2.bel⟩
    have hO2 := btw_true.1 hO
    have HO := Lib.hid hO
    by_cases h15 : exits.length ≤ 1500
    rotate_left
    · have E := Lib.hid (E1.out.trans (by rw [decide_eq_false h15, Bool.and_false, Bool.false_and]))
      have h16 : 1500 < exits.length := by omega
      clear hO h15
      refine wp_region_held_drew (S := (fun (w' : World) => w'.cell? ⟨w.heap.size, 0, none⟩ = some (.slice A t.length c0) ∧ w'.cell? ⟨w.heap.size, 1, none⟩ = some (.slice (some adB) l.length d0) ∧ w'.cell? ⟨w.heap.size + 1, 0, none⟩ = some (.int .i64 (fk : Int)) ∧ w'.cell? ⟨w.heap.size + 1, 1, none⟩ = some (.int .i64 (ek : Int)) ∧ w'.cell? ⟨w.heap.size + 1, 2, none⟩ = some (.int .i64 vals) ∧ w'.cell? ⟨w.heap.size + 1, 3, none⟩ = some (.int .i64 nums) ∧ w'.cell? ⟨w.heap.size + 1, 4, none⟩ = some (.slice A4 ops.length c4) ∧ w'.cell? ⟨w.heap.size + 1, 5, none⟩ = some (.slice A5 exits.length c5) ∧ w'.cell? ⟨(adB.add (fk * 3)).block, (adB.add (fk * 3)).off + 1, none⟩ = some (.int .i64 y.locals))) (by kernel_rfl) (⟨hSd.cell 1 rfl 0, hSd.cell 1 rfl 1, hSd.cell 0 rfl 0, hSd.cell 0 rfl 1, hSd.cell 0 rfl 2, hSd.cell 0 rfl 3, hSd.cell 0 rfl 4, hSd.cell 0 rfl 5, kept hSd.bel q1'⟩) (fun hHeld => ?_)
      (iterate 15 (first | refine rQ1 ?_ | refine rQ2 ?_); try simp only [pP]); (first | refine rW 16 ?_ | refine rV 16 ?_); (try simp only [pP]); (first | refine rW 17 ?_ | refine rV 17 ?_); (try simp only [pP])
      refine regC 15 rfl (by kernel_rfl) (by rfl) (fun Kq hKq => ?_)
      go_simp
      (with_reducible refine (CD _ (h.below hSd.bel)).mono ?_)
      intro e w4 hn; obtain ⟨v, F, rfl, hS2⟩ := hSd.newRow hn; obtain ⟨A8, c8, rfl, _, _⟩ := hS2.row 0 rfl; obtain ⟨adN, rfl, xN⟩ := hS2.cellR 0 rfl ek hg HDE.out; clear hn
      try go_wp2_with fail
      refine hKq.out _ _ (⟨hS2.cell 2 rfl 0, hS2.cell 2 rfl 1, hS2.cell 1 rfl 0, hS2.cell 1 rfl 1, hS2.cell 1 rfl 2, hS2.cell 1 rfl 3, hS2.cell 1 rfl 4, hS2.cell 1 rfl 5, kept hS2.bel q1'⟩) (fun hHeld => ?_)
      clear hKq Kq
      (try simp only [pP])
      refine regMono (S' := (fun (w' : World) => w'.cell? ⟨w.heap.size, 0, none⟩ = some (.slice A t.length c0) ∧ w'.cell? ⟨w.heap.size, 1, none⟩ = some (.slice (some adB) l.length d0) ∧ w'.cell? ⟨w.heap.size + 1, 0, none⟩ = some (.int .i64 (fk : Int)) ∧ w'.cell? ⟨w.heap.size + 1, 1, none⟩ = some (.int .i64 (ek : Int)) ∧ w'.cell? ⟨w.heap.size + 1, 2, none⟩ = some (.int .i64 vals) ∧ w'.cell? ⟨w.heap.size + 1, 3, none⟩ = some (.int .i64 nums) ∧ w'.cell? ⟨w.heap.size + 1, 4, none⟩ = some (.slice A4 ops.length c4) ∧ w'.cell? ⟨w.heap.size + 1, 5, none⟩ = some (.slice A5 exits.length c5) ∧ w'.cell? ⟨(adB.add (fk * 3)).block, (adB.add (fk * 3)).off + 1, none⟩ = some (.int .i64 y.locals) ∧ w'.cell? (adN.add ek) = some (.int .i64 hg))) (fun _ h => ⟨h.1, h.2.1, h.2.2.1, h.2.2.2.1, h.2.2.2.2.1, h.2.2.2.2.2.1, h.2.2.2.2.2.2.1, h.2.2.2.2.2.2.2.1, h.2.2.2.2.2.2.2.2.1⟩) _ _ _ _ ?_
      clear hHeld
      have hHeld : (fun (w' : World) => w'.cell? ⟨w.heap.size, 0, none⟩ = some (.slice A t.length c0) ∧ w'.cell? ⟨w.heap.size, 1, none⟩ = some (.slice (some adB) l.length d0) ∧ w'.cell? ⟨w.heap.size + 1, 0, none⟩ = some (.int .i64 (fk : Int)) ∧ w'.cell? ⟨w.heap.size + 1, 1, none⟩ = some (.int .i64 (ek : Int)) ∧ w'.cell? ⟨w.heap.size + 1, 2, none⟩ = some (.int .i64 vals) ∧ w'.cell? ⟨w.heap.size + 1, 3, none⟩ = some (.int .i64 nums) ∧ w'.cell? ⟨w.heap.size + 1, 4, none⟩ = some (.slice A4 ops.length c4) ∧ w'.cell? ⟨w.heap.size + 1, 5, none⟩ = some (.slice A5 exits.length c5) ∧ w'.cell? ⟨(adB.add (fk * 3)).block, (adB.add (fk * 3)).off + 1, none⟩ = some (.int .i64 y.locals) ∧ w'.cell? (adN.add ek) = some (.int .i64 hg)) _ := ⟨hS2.cell 2 rfl 0, hS2.cell 2 rfl 1, hS2.cell 1 rfl 0, hS2.cell 1 rfl 1, hS2.cell 1 rfl 2, hS2.cell 1 rfl 3, hS2.cell 1 rfl 4, hS2.cell 1 rfl 5, kept hS2.bel q1', xN⟩
      (iterate 3 (first | refine rQ1 ?_ | refine rQ2 ?_); try simp only [pP])
      refine regC 21 rfl (by kernel_rfl) (by rfl) (fun Kq hKq => ?_)
      go_simp
      (with_reducible refine (between _ HV.out).mono ?_)
      rintro e w5 ⟨rfl, rfl⟩
      try go_wp2_with fail
      refine hKq.out _ _ (hHeld) (fun hHeld => ?_)
      clear hKq Kq
      (try simp only [pP])
      (iterate 3 (first | refine rQ1 ?_ | refine rQ2 ?_); try simp only [pP])
      (iterate 2 (first | refine rQ1 ?_ | refine rQ2 ?_); try simp only [pP])
      refine regC 27 rfl (by kernel_rfl) (by rfl) (fun Kq hKq => ?_)
      go_simp
      (with_reducible refine (between _ HN.out).mono ?_)
      rintro e w5 ⟨rfl, rfl⟩
      try go_wp2_with fail
      refine hKq.out _ _ (hHeld) (fun hHeld => ?_)
      clear hKq Kq
      (try simp only [pP])
      (iterate 3 (first | refine rQ1 ?_ | refine rQ2 ?_); try simp only [pP])
      (iterate 3 (first | refine rQ1 ?_ | refine rQ2 ?_); try simp only [pP])
      refine regC 34 rfl (by kernel_rfl) (by rfl) (fun Kq hKq => ?_)
      go_simp
      (with_reducible refine (between _ HO.out).mono ?_)
      rintro e w5 ⟨rfl, rfl⟩
      try go_wp2_with fail
      refine hKq.out _ _ (hHeld) (fun hHeld => ?_)
      clear hKq Kq
      (try simp only [pP])
      (iterate 3 (first | refine rQ1 ?_ | refine rQ2 ?_); try simp only [pP])
      (iterate 5 (first | refine rQ1 ?_ | refine rQ2 ?_); try simp only [pP])
      refine wpAnyH_done (by kernel_rfl) ?_ _
      clear hHeld
      go_wp2
      go_ret
      exact ⟨ret_bool E.out.symm, hS2.bel⟩
    have E2 := Lib.hid (E1.out.trans (show _ = ((List.range ops.length).all (opAtB l ⟨(fk : Int), (ek : Int), vals, nums, ops, exits⟩) && (lastB ⟨(fk : Int), (ek : Int), vals, nums, ops, exits⟩ && exits.all (exitB l ⟨(fk : Int), (ek : Int), vals, nums, ops, exits⟩))) by rw [hO, decide_eq_true h15]; rfl))
    clear hO E1
    have h6a : ((1500 : Int) < (exits.length : Int)) = False := eq_false (by omega)
    have h6b : (1500 < exits.length) = False := eq_false (by omega)
    refine wp_region_held_drew (S := (fun (w' : World) => w'.cell? ⟨w.heap.size, 0, none⟩ = some (.slice A t.length c0) ∧ w'.cell? ⟨w.heap.size, 1, none⟩ = some (.slice (some adB) l.length d0) ∧ w'.cell? ⟨w.heap.size + 1, 0, none⟩ = some (.int .i64 (fk : Int)) ∧ w'.cell? ⟨w.heap.size + 1, 1, none⟩ = some (.int .i64 (ek : Int)) ∧ w'.cell? ⟨w.heap.size + 1, 2, none⟩ = some (.int .i64 vals) ∧ w'.cell? ⟨w.heap.size + 1, 3, none⟩ = some (.int .i64 nums) ∧ w'.cell? ⟨w.heap.size + 1, 4, none⟩ = some (.slice A4 ops.length c4) ∧ w'.cell? ⟨w.heap.size + 1, 5, none⟩ = some (.slice A5 exits.length c5) ∧ w'.cell? ⟨(adB.add (fk * 3)).block, (adB.add (fk * 3)).off + 1, none⟩ = some (.int .i64 y.locals))) (by kernel_rfl) (⟨hSd.cell 1 rfl 0, hSd.cell 1 rfl 1, hSd.cell 0 rfl 0, hSd.cell 0 rfl 1, hSd.cell 0 rfl 2, hSd.cell 0 rfl 3, hSd.cell 0 rfl 4, hSd.cell 0 rfl 5, kept hSd.bel q1'⟩) (fun hHeld => ?_)
    (iterate 15 (first | refine rQ1 ?_ | refine rQ2 ?_); try simp only [pP]); (first | refine rW 16 ?_ | refine rV 16 ?_); (try simp only [pP]); (first | refine rW 17 ?_ | refine rV 17 ?_); (try simp only [pP])
    refine regC 15 rfl (by kernel_rfl) (by rfl) (fun Kq hKq => ?_)
    go_simp
    (with_reducible refine (CD _ (h.below hSd.bel)).mono ?_)
    intro e w4 hn; obtain ⟨v, F, rfl, hS2⟩ := hSd.newRow hn; obtain ⟨A8, c8, rfl, _, _⟩ := hS2.row 0 rfl; obtain ⟨adN, rfl, xN⟩ := hS2.cellR 0 rfl ek hg HDE.out; clear hn
    try go_wp2_with fail
    refine hKq.out _ _ (⟨hS2.cell 2 rfl 0, hS2.cell 2 rfl 1, hS2.cell 1 rfl 0, hS2.cell 1 rfl 1, hS2.cell 1 rfl 2, hS2.cell 1 rfl 3, hS2.cell 1 rfl 4, hS2.cell 1 rfl 5, kept hS2.bel q1'⟩) (fun hHeld => ?_)
    clear hKq Kq
    (try simp only [pP])
    refine regMono (S' := (fun (w' : World) => w'.cell? ⟨w.heap.size, 0, none⟩ = some (.slice A t.length c0) ∧ w'.cell? ⟨w.heap.size, 1, none⟩ = some (.slice (some adB) l.length d0) ∧ w'.cell? ⟨w.heap.size + 1, 0, none⟩ = some (.int .i64 (fk : Int)) ∧ w'.cell? ⟨w.heap.size + 1, 1, none⟩ = some (.int .i64 (ek : Int)) ∧ w'.cell? ⟨w.heap.size + 1, 2, none⟩ = some (.int .i64 vals) ∧ w'.cell? ⟨w.heap.size + 1, 3, none⟩ = some (.int .i64 nums) ∧ w'.cell? ⟨w.heap.size + 1, 4, none⟩ = some (.slice A4 ops.length c4) ∧ w'.cell? ⟨w.heap.size + 1, 5, none⟩ = some (.slice A5 exits.length c5) ∧ w'.cell? ⟨(adB.add (fk * 3)).block, (adB.add (fk * 3)).off + 1, none⟩ = some (.int .i64 y.locals) ∧ w'.cell? (adN.add ek) = some (.int .i64 hg))) (fun _ h => ⟨h.1, h.2.1, h.2.2.1, h.2.2.2.1, h.2.2.2.2.1, h.2.2.2.2.2.1, h.2.2.2.2.2.2.1, h.2.2.2.2.2.2.2.1, h.2.2.2.2.2.2.2.2.1⟩) _ _ _ _ ?_
    clear hHeld
    have hHeld : (fun (w' : World) => w'.cell? ⟨w.heap.size, 0, none⟩ = some (.slice A t.length c0) ∧ w'.cell? ⟨w.heap.size, 1, none⟩ = some (.slice (some adB) l.length d0) ∧ w'.cell? ⟨w.heap.size + 1, 0, none⟩ = some (.int .i64 (fk : Int)) ∧ w'.cell? ⟨w.heap.size + 1, 1, none⟩ = some (.int .i64 (ek : Int)) ∧ w'.cell? ⟨w.heap.size + 1, 2, none⟩ = some (.int .i64 vals) ∧ w'.cell? ⟨w.heap.size + 1, 3, none⟩ = some (.int .i64 nums) ∧ w'.cell? ⟨w.heap.size + 1, 4, none⟩ = some (.slice A4 ops.length c4) ∧ w'.cell? ⟨w.heap.size + 1, 5, none⟩ = some (.slice A5 exits.length c5) ∧ w'.cell? ⟨(adB.add (fk * 3)).block, (adB.add (fk * 3)).off + 1, none⟩ = some (.int .i64 y.locals) ∧ w'.cell? (adN.add ek) = some (.int .i64 hg)) _ := ⟨hS2.cell 2 rfl 0, hS2.cell 2 rfl 1, hS2.cell 1 rfl 0, hS2.cell 1 rfl 1, hS2.cell 1 rfl 2, hS2.cell 1 rfl 3, hS2.cell 1 rfl 4, hS2.cell 1 rfl 5, kept hS2.bel q1', xN⟩
    (iterate 3 (first | refine rQ1 ?_ | refine rQ2 ?_); try simp only [pP])
    refine regC 21 rfl (by kernel_rfl) (by rfl) (fun Kq hKq => ?_)
    go_simp
    (with_reducible refine (between _ HV.out).mono ?_)
    rintro e w5 ⟨rfl, rfl⟩
    try go_wp2_with fail
    refine hKq.out _ _ (hHeld) (fun hHeld => ?_)
    clear hKq Kq
    (try simp only [pP])
    (iterate 3 (first | refine rQ1 ?_ | refine rQ2 ?_); try simp only [pP])
    (iterate 2 (first | refine rQ1 ?_ | refine rQ2 ?_); try simp only [pP])
    refine regC 27 rfl (by kernel_rfl) (by rfl) (fun Kq hKq => ?_)
    go_simp
    (with_reducible refine (between _ HN.out).mono ?_)
    rintro e w5 ⟨rfl, rfl⟩
    try go_wp2_with fail
    refine hKq.out _ _ (hHeld) (fun hHeld => ?_)
    clear hKq Kq
    (try simp only [pP])
    (iterate 3 (first | refine rQ1 ?_ | refine rQ2 ?_); try simp only [pP])
    (iterate 3 (first | refine rQ1 ?_ | refine rQ2 ?_); try simp only [pP])
    refine regC 34 rfl (by kernel_rfl) (by rfl) (fun Kq hKq => ?_)
    go_simp
    (with_reducible refine (between _ HO.out).mono ?_)
    rintro e w5 ⟨rfl, rfl⟩
    try go_wp2_with fail
    refine hKq.out _ _ (hHeld) (fun hHeld => ?_)
    clear hKq Kq
    (try simp only [pP])
    (iterate 3 (first | refine rQ1 ?_ | refine rQ2 ?_); try simp only [pP])
    (iterate 5 (first | refine rQ1 ?_ | refine rQ2 ?_); try simp only [pP])
    refine wpAnyH_done (by kernel_rfl) ?_ _
    clear hHeld CD hSd xN h6a h6b
    have hS := hS2.drop
    clear hS2
    have x_f := hS.cell 0 rfl
    have x_m := hS.cell 1 rfl
    obtain ⟨gk, hgk⟩ : ∃ gk, w4.heap.size = gk := ⟨_, rfl⟩
    have hT := hS.madeAt (.cells #[.slice A t.length c0, .slice (some adB) l.length d0, .int .i64 (fk : Int), .int .i64 (ek : Int), .int .i64 vals, .int .i64 nums, .slice A4 ops.length c4, .slice A5 exits.length c5, .bool false] 285 (0, 0)) gk hgk
    replace hT : St w [kbox A (some adB) A4 A5 c0 d0 c4 c5 t l ⟨(fk : Int), (ek : Int), vals, nums, ops, exits⟩ gk false, Res.box (w.heap.size + 1) (.cells #[.int .i64 (fk : Int), .int .i64 (ek : Int), .int .i64 vals, .int .i64 nums, .slice A4 ops.length c4, .slice A5 exits.length c5] 41 (0, 0)), Res.box w.heap.size (.cells #[.slice A t.length c0, .slice (some adB) l.length d0] 36 (0, 0))] _ := hT
    go_wp2
    clear x_f x_m hS hgk
    go_loopw [9] (fun v wr => ∃ k : Nat, k ≤ ops.length ∧ v = .int .i64 k ∧ St w [kbox A (some adB) A4 A5 c0 d0 c4 c5 t l ⟨(fk : Int), (ek : Int), vals, nums, ops, exits⟩ gk (!((List.range k).all (opAtB l ⟨(fk : Int), (ek : Int), vals, nums, ops, exits⟩))), Res.box (w.heap.size + 1) (.cells #[.int .i64 (fk : Int), .int .i64 (ek : Int), .int .i64 vals, .int .i64 nums, .slice A4 ops.length c4, .slice A5 exits.length c5] 41 (0, 0)), Res.box w.heap.size (.cells #[.slice A t.length c0, .slice (some adB) l.length d0] 36 (0, 0))] wr) (fun v _ => ops.length - (intOf v).toNat)
    case atStart => exact ⟨0, by omega, rfl, hT⟩
    case round =>
      clear hT
      obtain ⟨k, hk, rfl, hS⟩ := hrel
      have x_f := hS.cell 1 rfl
      by_cases hlt : k < ops.length
      · obtain ⟨o, ho⟩ := get_exU ops k hlt
        have hos := ms_op hms (List.mem_of_getElem? ho)
        have HA := Lib.hid (opAtB_of (l := l) (c := ⟨(fk : Int), (ek : Int), vals, nums, ops, exits⟩) ho)
        obtain ⟨op, od, oa, ob, ox, of_, op_, ⟨vk, vn, vs⟩⟩ := o
        have HO9 := Lib.hid ho
        clear ho
        go_wp2_with fail
        refine (op10 A (some adB) A4 A5 c0 d0 c4 c5 t l ⟨(fk : Int), (ek : Int), vals, nums, ops, exits⟩ hS 0 rfl k op od oa ob ox of_ op_ vk vn vs hm h (by show 0 ≤ vals; omega) (by show vals ≤ 400; omega) (by show 0 ≤ nums; omega) (by show nums ≤ 400; omega) (by show ops.length ≤ 1500; omega) (by show exits.length ≤ 1500; omega) r4 HO9.out hos).mono ?_
        rintro e w5 ⟨rfl, hS5⟩
        clear x_f
        go_wp2
        go_roundw
        case rel =>
          refine ⟨k + 1, by omega, by go_num, finK hS5 ?_⟩
          rw [range_all, HA.out, Bool.not_and]
        case measure => simp [intOf]; omega
      obtain rfl : k = ops.length := by omega
      obtain ⟨b1, hb1⟩ : ∃ b1, (List.range ops.length).all (opAtB l ⟨(fk : Int), (ek : Int), vals, nums, ops, exits⟩) = b1 := ⟨_, rfl⟩
      rw [hb1] at hS
      have E3 := Lib.hid (E2.out.trans (show _ = (b1 && (lastB ⟨(fk : Int), (ek : Int), vals, nums, ops, exits⟩ && exits.all (exitB l ⟨(fk : Int), (ek : Int), vals, nums, ops, exits⟩))) by rw [hb1]))
      clear E2 hb1 hlt hk
      go_wp2
      clear x_f
      go_loopw [10] (fun v wr => ∃ k : Nat, k ≤ exits.length ∧ v = .int .i64 k ∧ St w [kbox A (some adB) A4 A5 c0 d0 c4 c5 t l ⟨(fk : Int), (ek : Int), vals, nums, ops, exits⟩ gk (!b1 || !((exits.take k).all (exitB l ⟨(fk : Int), (ek : Int), vals, nums, ops, exits⟩))), Res.box (w.heap.size + 1) (.cells #[.int .i64 (fk : Int), .int .i64 (ek : Int), .int .i64 vals, .int .i64 nums, .slice A4 ops.length c4, .slice A5 exits.length c5] 41 (0, 0)), Res.box w.heap.size (.cells #[.slice A t.length c0, .slice (some adB) l.length d0] 36 (0, 0))] wr) (fun v _ => exits.length - (intOf v).toNat)
      case atStart => exact ⟨0, by omega, rfl, finK hS (by simp)⟩
      case round =>
        clear hS
        obtain ⟨k, hk, rfl, hS⟩ := hrel
        have x_f := hS.cell 1 rfl
        by_cases hlt : k < exits.length
        · obtain ⟨x, hx⟩ := get_exU exits k hlt
          have hxs := ms_exit hms (List.mem_of_getElem? hx)
          obtain ⟨adX, AF, AR, cf, cr, rfl, u0', u1', u2', u3', u4', u5', u6', _, rF, _, rR⟩ := kExit_at r5 k x hx
          have u0 := kept hS.bel u0'
          have u1 := kept hS.bel u1'
          have u2 := kept hS.bel u2'
          have u3 := kept hS.bel u3'
          have u4 := kept hS.bel u4'
          have u5 := kept hS.bel u5'
          have u6 := kept hS.bel u6'
          have HA := Lib.hid (all_snoc (exitB l ⟨(fk : Int), (ek : Int), vals, nums, ops, exits⟩) exits k x hx)
          clear hx
          go_wp2_with fail
          refine (leave10 A (some adB) A4 (some adX) AF AR c0 d0 c4 c5 cf cr t l ⟨(fk : Int), (ek : Int), vals, nums, ops, exits⟩ hS 0 rfl x h hfit rF rR hxs (by show 0 ≤ vals; omega) (by show vals ≤ 400; omega) (by show 0 ≤ nums; omega) (by show nums ≤ 400; omega)).mono ?_
          rintro e w5 ⟨rfl, hS5⟩
          clear x_f u0 u1 u2 u3 u4 u5 u6
          go_wp2
          go_roundw
          case rel =>
            refine ⟨k + 1, by omega, by go_num, finK hS5 ?_⟩
            rw [HA.out, Bool.not_and, Bool.or_assoc]
          case measure => simp [intOf]; omega
        obtain rfl : k = exits.length := by omega
        rw [List.take_length] at hS
        obtain ⟨o, ho⟩ := get_exU ops (ops.length - 1) (by omega)
        have E4 := Lib.hid (E3.out.trans (show _ = (b1 && ((decide (o.op = 23) || (decide (o.op = 26) || decide (o.op = 27))) && exits.all (exitB l ⟨(fk : Int), (ek : Int), vals, nums, ops, exits⟩))) by unfold lastB; rw [ho]))
        obtain ⟨ad, rfl, u0', _⟩ := kFOp_at r4 (ops.length - 1) o ho
        have u0 := kept hS.bel u0'
        have eL : IntKind.i64.wrap ((ops.length : Int) - 1) = (ops.length : Int) - 1 := IntWalk.i64_in _ (by omega)
        have eN : ((ops.length : Int) - 1).toNat = ops.length - 1 := by omega
        have l0 : (0 : Int) ≤ (ops.length : Int) - 1 := by omega
        have l1 : (ops.length : Int) - 1 < ops.length := by omega
        have l2 : ops.length - 1 < ops.length := by omega
        obtain ⟨bx, hbx⟩ : ∃ bx, exits.all (exitB l ⟨(fk : Int), (ek : Int), vals, nums, ops, exits⟩) = bx := ⟨_, rfl⟩
        rw [hbx] at hS
        have E5 := Lib.hid (E4.out.trans (by rw [hbx]))
        obtain ⟨oop, hoop⟩ : ∃ oop, o.op = oop := ⟨_, rfl⟩
        rw [hoop] at u0
        have E6 := Lib.hid (E5.out.trans (by rw [hoop]))
        clear E3 E4 E5 hbx hoop ho u0' hlt hk
        cases b1
        · have x_k := hS.cell 0 rfl
          have E := Lib.hid (E6.out.trans (show _ = false by simp))
          clear E6
          go_wp2
          go_ret
          exact ⟨ret_bool E.out.symm, hS.bel⟩
        cases bx
        · have x_k := hS.cell 0 rfl
          have E := Lib.hid (E6.out.trans (show _ = false by simp))
          clear E6
          go_wp2
          go_ret
          exact ⟨ret_bool E.out.symm, hS.bel⟩
        have x_k := hS.cell 0 rfl
        by_cases o23 : oop = 23 ∨ oop = 26 ∨ oop = 27
        · have E := Lib.hid (E6.out.trans (show _ = true by rcases o23 with e | e | e <;> simp [e]))
          clear E6
          rcases o23 with rfl | rfl | rfl
          all_goals (go_wp2; go_ret; exact ⟨ret_bool E.out.symm, hS.bel⟩)
        · have E := Lib.hid (E6.out.trans (show _ = false by rw [decide_eq_false (fun e => o23 (.inl e)), decide_eq_false (fun e => o23 (.inr (.inl e))), decide_eq_false (fun e => o23 (.inr (.inr e)))]; rfl))
          have b23 : (oop == 23) = false := by simp; omega
          have b26 : (oop == 26) = false := by simp; omega
          have b27 : (oop == 27) = false := by simp; omega
          clear E6 o23
          go_wp2
          go_ret
          exact ⟨ret_bool E.out.symm, hS.bel⟩
set_option maxHeartbeats 4000000 in
set_option maxRecDepth 100000 in
theorem fastOkI (A B A4 A5 : Option Addr) (c0 d0 c4 c5 : Nat) (t : List ByteArray) (l : List DFunc) (c : DFast) (w : World) (h : HasMod A B t l w) (r4 : kFOp.Row w A4 c.ops.length c.ops) (r5 : kExit.Row w A5 c.exits.length c.exits) (hM : MFast c) (hms : msFast c ≤ 1048576) {r : Bool} (hr : fastOkB t l c = r) :
    Calls Tryz.prog 64 #[.agg #[.slice A t.length c0, .slice B l.length d0], .agg #[.int .i64 c.fn, .int .i64 c.entry, .int .i64 c.vals, .int .i64 c.nums, .slice A4 c.ops.length c4, .slice A5 c.exits.length c5]] w fun e w' => e = .returned (.bool r) ∧ Below w.heap.size w w' := by
  subst hr
  have hS := (((St.start w).made (.cells #[.slice A t.length c0, .slice B l.length d0] 36 (0, 0))).madeAt (.cells #[.int .i64 c.fn, .int .i64 c.entry, .int .i64 c.vals, .int .i64 c.nums, .slice A4 c.ops.length c4, .slice A5 c.exits.length c5] 41 (0, 0)) (w.heap.size + 1) (by simp)).drew
  cases hg : isGoodB t l
  · have E := Lib.hid (show fastOkB t l c = false by unfold fastOkB; rw [hg]; rfl)
    have HG := Lib.hid hg
    clear hg
    go_enter Tryz.func64, Tryz.ntmps64
    go_wp2
    refine wp_region_held_drew (S := (fun (w' : World) => w'.cell? ⟨w.heap.size, 0, none⟩ = some (.slice A t.length c0) ∧ w'.cell? ⟨w.heap.size, 1, none⟩ = some (.slice B l.length d0) ∧ w'.cell? ⟨w.heap.size + 1, 0, none⟩ = some (.int .i64 c.fn) ∧ w'.cell? ⟨w.heap.size + 1, 1, none⟩ = some (.int .i64 c.entry) ∧ w'.cell? ⟨w.heap.size + 1, 2, none⟩ = some (.int .i64 c.vals) ∧ w'.cell? ⟨w.heap.size + 1, 3, none⟩ = some (.int .i64 c.nums) ∧ w'.cell? ⟨w.heap.size + 1, 4, none⟩ = some (.slice A4 c.ops.length c4) ∧ w'.cell? ⟨w.heap.size + 1, 5, none⟩ = some (.slice A5 c.exits.length c5))) (by kernel_rfl) (⟨hS.cell 1 rfl 0, hS.cell 1 rfl 1, hS.cell 0 rfl 0, hS.cell 0 rfl 1, hS.cell 0 rfl 2, hS.cell 0 rfl 3, hS.cell 0 rfl 4, hS.cell 0 rfl 5⟩) (fun hHeld => ?_)
    (first | refine rQ1 ?_ | refine rQ2 ?_); (try simp only [pP])
    refine regC 1 rfl (by kernel_rfl) (by rfl) (fun Kq hKq => ?_)
    go_simp
    (with_reducible refine (isGoodI A B c0 d0 t l _ (h.below hS.bel) HG.out).mono ?_)
    rintro e w1 ⟨rfl, hb⟩; have hS1 := hS.step hb; clear hb
    try go_wp2_with fail
    refine hKq.out _ _ (⟨hS1.cell 1 rfl 0, hS1.cell 1 rfl 1, hS1.cell 0 rfl 0, hS1.cell 0 rfl 1, hS1.cell 0 rfl 2, hS1.cell 0 rfl 3, hS1.cell 0 rfl 4, hS1.cell 0 rfl 5⟩) (fun hHeld => ?_)
    clear hKq Kq
    (try simp only [pP])
    (first | refine rQ1 ?_ | refine rQ2 ?_); (try simp only [pP])
    refine regS (fun _ _ _ d h => by cases d <;> exact h) [3, 4, 5, 6, 7] _ _ _ rfl (by kernel_rfl) (by assumption) ?_
    simp only [skipL, List.getElem?_cons_zero, List.getElem?_cons_succ, Option.bind_some, pP]
    (iterate 2 (first | refine rQ1 ?_ | refine rQ2 ?_); try simp only [pP])
    refine wpAnyH_done (by kernel_rfl) ?_ _
    clear hHeld
    go_wp2
    go_ret
    exact ⟨ret_bool E.out.symm, hS1.bel⟩
  · have E := Lib.hid (show fastOkB t l c = fastB l c by unfold fastOkB; rw [hg]; rfl)
    have hfit := Lib.hid (modFit (isGood_mod hg))
    have HG := Lib.hid hg
    clear hg
    go_enter Tryz.func64, Tryz.ntmps64
    go_wp2
    refine wp_region_held_drew (S := (fun (w' : World) => w'.cell? ⟨w.heap.size, 0, none⟩ = some (.slice A t.length c0) ∧ w'.cell? ⟨w.heap.size, 1, none⟩ = some (.slice B l.length d0) ∧ w'.cell? ⟨w.heap.size + 1, 0, none⟩ = some (.int .i64 c.fn) ∧ w'.cell? ⟨w.heap.size + 1, 1, none⟩ = some (.int .i64 c.entry) ∧ w'.cell? ⟨w.heap.size + 1, 2, none⟩ = some (.int .i64 c.vals) ∧ w'.cell? ⟨w.heap.size + 1, 3, none⟩ = some (.int .i64 c.nums) ∧ w'.cell? ⟨w.heap.size + 1, 4, none⟩ = some (.slice A4 c.ops.length c4) ∧ w'.cell? ⟨w.heap.size + 1, 5, none⟩ = some (.slice A5 c.exits.length c5))) (by kernel_rfl) (⟨hS.cell 1 rfl 0, hS.cell 1 rfl 1, hS.cell 0 rfl 0, hS.cell 0 rfl 1, hS.cell 0 rfl 2, hS.cell 0 rfl 3, hS.cell 0 rfl 4, hS.cell 0 rfl 5⟩) (fun hHeld => ?_)
    (first | refine rQ1 ?_ | refine rQ2 ?_); (try simp only [pP])
    refine regC 1 rfl (by kernel_rfl) (by rfl) (fun Kq hKq => ?_)
    go_simp
    (with_reducible refine (isGoodI A B c0 d0 t l _ (h.below hS.bel) HG.out).mono ?_)
    rintro e w1 ⟨rfl, hb⟩; have hS1 := hS.step hb; clear hb
    try go_wp2_with fail
    refine hKq.out _ _ (⟨hS1.cell 1 rfl 0, hS1.cell 1 rfl 1, hS1.cell 0 rfl 0, hS1.cell 0 rfl 1, hS1.cell 0 rfl 2, hS1.cell 0 rfl 3, hS1.cell 0 rfl 4, hS1.cell 0 rfl 5⟩) (fun hHeld => ?_)
    clear hKq Kq
    (try simp only [pP])
    (iterate 3 (first | refine rQ1 ?_ | refine rQ2 ?_); try simp only [pP]); (first | refine rW 6 ?_ | refine rV 6 ?_); (try simp only [pP])
    refine regC 5 rfl (by kernel_rfl) (by rfl) (fun Kq hKq => ?_)
    go_simp
    (with_reducible refine (heightsI A B c0 d0 t l _ (h.below hS1.bel).hr hfit.out).mono ?_)
    intro e w2 hn; obtain ⟨v2, F2, rfl, hS2⟩ := hS1.newRow hn; obtain ⟨D, e0, rfl, _, hD⟩ := hS2.row 0 rfl; rw [highsL_len] at hD; clear hn
    try go_wp2_with fail
    refine hKq.out _ _ (⟨hS2.cell 2 rfl 0, hS2.cell 2 rfl 1, hS2.cell 1 rfl 0, hS2.cell 1 rfl 1, hS2.cell 1 rfl 2, hS2.cell 1 rfl 3, hS2.cell 1 rfl 4, hS2.cell 1 rfl 5⟩) (fun hHeld => ?_)
    clear hKq Kq
    (try simp only [pP])
    rw [highsL_len]
    refine regC 7 rfl (by kernel_rfl) (by rfl) (fun Kq hKq => ?_)
    go_simp
    (with_reducible refine (fastI A B A4 A5 D c0 d0 c4 c5 e0 t l c _ (h.below hS2.bel) HG.out hD (r4.below hS2.bel) (r5.below hS2.bel) hms).mono ?_)
    rintro e w3 ⟨rfl, hb⟩; have hS3 := hS2.step hb; clear hb
    try go_wp2_with fail
    refine hKq.out _ _ (⟨hS3.cell 2 rfl 0, hS3.cell 2 rfl 1, hS3.cell 1 rfl 0, hS3.cell 1 rfl 1, hS3.cell 1 rfl 2, hS3.cell 1 rfl 3, hS3.cell 1 rfl 4, hS3.cell 1 rfl 5⟩) (fun hHeld => ?_)
    clear hKq Kq
    (try simp only [pP])
    (iterate 2 (first | refine rQ1 ?_ | refine rQ2 ?_); try simp only [pP])
    refine wpAnyH_done (by kernel_rfl) ?_ _
    clear hHeld
    go_wp2
    go_ret
    exact ⟨ret_bool E.out.symm, hS3.bel⟩
set_option maxHeartbeats 4000000 in
set_option maxRecDepth 100000 in
theorem fastOk3 (A B A4 A5 : Option Addr) (c0 d0 c4 c5 : Nat) (t : List ByteArray) (l : List DFunc) (c : DFast) (w : World) (h : HasMod A B t l w) (r4 : kFOp.Row w A4 c.ops.length c.ops) (r5 : kExit.Row w A5 c.exits.length c.exits) (hM : MFast c) (hms : msFast c ≤ 1048576) {r : Bool} (hr : fastOkB t l c = r) :
    Calls Tryz.prog 58 #[.agg #[.slice A t.length c0, .slice B l.length d0], .agg #[.int .i64 c.fn, .int .i64 c.entry, .int .i64 c.vals, .int .i64 c.nums, .slice A4 c.ops.length c4, .slice A5 c.exits.length c5]] w fun e w' => e = .returned (.bool r) ∧ Below w.heap.size w w' := by
  subst hr
  have hS := (((St.start w).made (.cells #[.slice A t.length c0, .slice B l.length d0] 36 (0, 0))).madeAt (.cells #[.int .i64 c.fn, .int .i64 c.entry, .int .i64 c.vals, .int .i64 c.nums, .slice A4 c.ops.length c4, .slice A5 c.exits.length c5] 41 (0, 0)) (w.heap.size + 1) (by simp))
  cases hg : isGoodB t l
  · have E := Lib.hid (show fastOkB t l c = false by unfold fastOkB; rw [hg]; rfl)
    have HG := Lib.hid hg
    clear hg
    go_enter Tryz.func58, Tryz.ntmps58
    go_wp2_with fail
    refine (good03 A B c0 d0 t l _ (h.below hS.bel) HG.out).mono ?_
    rintro e w1 ⟨rfl, hb⟩
    go_wp2
    go_ret
    exact ⟨ret_bool E.out.symm, (hS.step hb).bel⟩
  · have E := Lib.hid (show fastOkB t l c = fastB l c by unfold fastOkB; rw [hg]; rfl)
    have HG := Lib.hid hg
    clear hg
    go_enter Tryz.func58, Tryz.ntmps58
    go_wp2_with fail
    refine (good03 A B c0 d0 t l _ (h.below hS.bel) HG.out).mono ?_
    rintro e w1 ⟨rfl, hb⟩
    replace hS := hS.step hb
    have x0 := hS.cell 0 rfl
    have x1 := hS.cell 1 rfl
    go_wp2_with fail
    refine (ok10 A B A4 A5 c0 d0 c4 c5 t l c _ (h.below hS.bel) HG.out (r4.below hS.bel) (r5.below hS.bel) hms).mono ?_
    rintro e w2 ⟨rfl, hb2⟩
    go_wp2
    go_ret
    exact ⟨ret_bool E.out.symm, (hS.step hb2).bel⟩
end Go.Proofs.YthinhlcfpaaldaaGreat.Dat

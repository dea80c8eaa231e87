/- Verify in the reference. -/
import Derived.Test.YteoibjacgnmnpaaDep3
import Derived.Test.YteoibjacgnmnpaaVer
namespace Go.Proofs.Yteoibjacgnmnpaa.Dat
open Go Go.RowKit Go.Proofs.Yteoibjacgnmnpaa.Mem
set_option linter.unusedVariables false
set_option linter.unusedSimpArgs false
theorem modOk01' (A B : Option Addr) (c d : Nat) (t : List ByteArray) (l : List DFunc) (w : World) (ht : Knd.str.Row w A t.length t) (hr : kFunc.Row w B l.length l) (htm : t.length ≤ 1048576) (hm : l.length ≤ 1048576) (htv : ∀ x ∈ t, x.size ≤ maxLen) (hv : ∀ x ∈ l, x.code.length ≤ 1048576 ∧ -9223372036854775808 ≤ x.locals ∧ x.locals ≤ 9223372036854775807) {b : Bool} (hb : modB t l = b) :
    Calls Try.prog 125 #[.agg #[.slice A t.length c, .slice B l.length d]] w fun e w' => e = .returned (.bool b) ∧ Below w.heap.size w w' := hb ▸ modOk01 A B c d t l w ht hr htm hm htv hv
theorem insT_no {l : List DFunc} {d : List Int} {x : DIns} {pc : Nat} {h : Int} (hh : at0 d pc = h) (h0 : 0 ≤ h) (k : h < (uses l x.op x.a).1 ∨ 16 < leftOf l x h) : insT l d x pc = 2 := by
  unfold insT canB
  rw [hh, if_neg (by omega)]
  have e : (decide ((uses l x.op x.a).1 ≤ h) && decide (leftOf l x h ≤ 16)) = false := by
    rcases k with k | k
    · rw [decide_eq_false (by omega), Bool.false_and]
    · rw [decide_eq_false (p := leftOf l x h ≤ 16) (by omega), Bool.and_false]
  rw [e]
  rfl
theorem insT_go {l : List DFunc} {d : List Int} {x : DIns} {pc : Nat} {h : Int} (hh : at0 d pc = h) (h0 : 0 ≤ h) (k1 : (uses l x.op x.a).1 ≤ h) (k2 : leftOf l x h ≤ 16) : insT l d x pc = if (nexts x pc).any (fun q => decide (q = (d.length : Int))) then 3 else if (nexts x pc).any (fun q => decide (at0 d q ≠ leftOf l x h)) then 4 else 0 := by
  unfold insT canB
  rw [hh, if_neg (by omega), decide_eq_true k1, decide_eq_true k2]
  rfl
set_option maxHeartbeats 4000000 in
set_option maxRecDepth 100000 in
theorem ver03 (A B : Option Addr) (c d : Nat) (t : List ByteArray) (l : List DFunc) (w : World) (ht : Knd.str.Row w A t.length t) (hr : kFunc.Row w B l.length l) (htm : t.length ≤ 1048576) (hm : l.length ≤ 1048576) (htv : ∀ x ∈ t, x.size ≤ maxLen) (hv : ∀ x ∈ l, x.code.length ≤ 1048576 ∧ -9223372036854775808 ≤ x.locals ∧ x.locals ≤ 9223372036854775807) :
    Calls Try.prog 139 #[.agg #[.slice A t.length c, .slice B l.length d]] w fun e w' => e = .returned (trV (verL t l)) ∧ Below w.heap.size w w' := by
  cases hb : modB t l
  · have e : verL t l = (1, 0, 0) := by unfold verL; rw [hb]; rfl
    rw [e]
    have HB := Lib.hid hb
    clear e hb
    go_enter Try.func139, Try.ntmps139
    go_wp2_with fail
    refine (modOk01' A B c d t l _ (ht.below (by repeat (first | exact Below.refl _ _ | assumption | (refine bl_set ?_ (by dsimp only; omega) _) | refine bl_alloc ?_ _ | refine bl_drewN ?_ _ | refine bl_drew ?_ | refine bl_step ?_ (by assumption)))) (hr.below (by repeat (first | exact Below.refl _ _ | assumption | (refine bl_set ?_ (by dsimp only; omega) _) | refine bl_alloc ?_ _ | refine bl_drewN ?_ _ | refine bl_drew ?_ | refine bl_step ?_ (by assumption)))) htm hm htv hv HB.out).mono ?_
    rintro e w1 ⟨rfl, hb1⟩
    obtain ⟨hc, hf⟩ := bcell hb1
    have hz := hb1.size
    simp at hz
    have y0 : w.heap.size + 1 < w1.heap.size := by omega
    go_wp2
    refine bodyPost_ret (v := .agg #[.int .i64 1, .int .i64 0, .int .i64 0]) (by simp [results, Try.results139, go_sem, true_and, *]) rfl ⟨rfl, (by repeat (first | exact Below.refl _ _ | assumption | (refine bl_set ?_ (by dsimp only; omega) _) | refine bl_alloc ?_ _ | refine bl_drewN ?_ _ | refine bl_drew ?_ | refine bl_step ?_ (by assumption)))⟩
  have hfit := modFit hb
  obtain ⟨R, hR⟩ : ∃ R, funcsT l l 0 = R := ⟨_, rfl⟩
  have e : verL t l = R := by unfold verL; rw [hb, hR]; rfl
  rw [e]
  have HB := Lib.hid hb
  have HR := Lib.hid hR
  have n12 := hfit.n12
  clear e hb hR
  have hS0 := ((St.start w).made (.cells #[.slice A t.length c, .slice B l.length d] 34 (0, 0))).madeAt (.cells #[.int .i64 0, .int .i64 0, .int .i64 0] 162 (0, 0)) (w.heap.size + 1) (by simp)
  go_enter Try.func139, Try.ntmps139
  go_wp2_with fail
  refine (modOk01' A B c d t l _ (ht.below hS0.bel) (hr.below hS0.bel) htm hm htv hv HB.out).mono ?_
  rintro e w1 ⟨rfl, hb1⟩
  have hS := hS0.step hb1
  have x0 := hS.cell 1 rfl
  clear hS0 hb1
  go_wp2
  go_loopw [3] (fun i wr => ∃ k : Nat, k ≤ l.length ∧ i = .int .i64 k ∧ Hid (funcsT l (l.drop k) k = R) ∧ St w [Res.box (w.heap.size + 1) (.cells #[.int .i64 0, .int .i64 0, .int .i64 0] 162 (0, 0)), Res.box w.heap.size (.cells #[.slice A t.length c, .slice B l.length d] 34 (0, 0))] wr) (fun i _ => l.length - (intOf i).toNat)
  case atStart => exact ⟨0, by omega, rfl, HR, hS⟩
  case round =>
    clear hS x0
    obtain ⟨k, hk, rfl, hT, hS⟩ := hrel
    have x0 := hS.cell 1 rfl
    have z0 := hS.cell 0 rfl
    have zf := hS.free 0 rfl
    by_cases hlt : k < l.length
    · obtain ⟨y, hy⟩ := get_exU l k hlt
      have HT := Lib.hid ((funcsT_at hy).symm.trans hT.out)
      have hym := List.mem_of_getElem? hy
      have n1 := hfit.c1 y hym
      have n120 := hfit.c120 y hym
      have hH := hfit.hgt hym
      obtain ⟨ad, A2, c2, rfl, _, _, q2', hq, hr2⟩ := kFunc_at hr k y hy
      have q2 := kept hS.bel q2'
      have HY := Lib.hid hy
      clear hT hy
      go_wp2_with fail
      refine (depths03 A (some ad) c d t l k y _ (hr.below hS.bel) hfit HY.out).mono ?_
      intro e w2 hn
      obtain ⟨v, F, rfl, hS1⟩ := hS.newRow hn
      obtain ⟨D, hD⟩ : ∃ D, depthsL l y.code = D := ⟨_, rfl⟩
      rw [hD] at hS1 hH HT
      obtain ⟨g, cg, hv', hgF⟩ := own_form (hS1.get 0 rfl) (by rw [hH.1]; omega)
      rw [hH.1] at hv'
      subst hv'
      clear hn hS x0 z0 zf hD q2
      go_wp2
      go_loopw [6] (fun i wr => ∃ pc : Nat, pc ≤ y.code.length ∧ i = .int .i64 pc ∧ Hid (codeT l D (y.code.drop pc) pc = codeT l D y.code 0) ∧ St w [Res.own (Knd.int .i64) 3 (.slice (some ⟨g, 0, none⟩) y.code.length cg) D F, Res.box (w.heap.size + 1) (.cells #[.int .i64 0, .int .i64 0, .int .i64 0] 162 (0, 0)), Res.box w.heap.size (.cells #[.slice A t.length c, .slice (some ad) l.length d] 34 (0, 0))] wr) (fun i _ => y.code.length - (intOf i).toNat)
      case atStart => exact ⟨0, by omega, rfl, rfl, hS1⟩
      case round =>
        clear hS1
        obtain ⟨pc, hpc, rfl, hQ, hS⟩ := hrel
        by_cases hlt2 : pc < y.code.length
        · obtain ⟨x, hx⟩ := get_exU y.code pc hlt2
          have HQ := Lib.hid ((codeT_at hx).symm.trans hQ.out)
          have hxf := hfit.fit hym (List.mem_of_getElem? hx)
          obtain ⟨ad2, rfl, r0, r1⟩ := kIns_at (hr2.below hS.bel) pc x hx
          have hlen : pc < D.length := by rw [hH.1]; exact hlt2
          have u0 := hS.cell1 0 rfl pc _ (at0_get hlen)
          have hat := hH.at_ pc
          obtain ⟨h, hh⟩ : ∃ h, at0 D pc = h := ⟨_, rfl⟩
          rw [hh] at u0 hat
          have Hh := Lib.hid hh
          clear hx hQ hlen hh
          by_cases h0 : h < 0
          · have e : Hid (insT l D x pc = 0) := Lib.hid (by unfold insT; rw [if_pos (by rw [Hh.out]; exact h0)])
            go_wp2
            go_roundw
            case rel => exact ⟨pc + 1, by omega, by go_num, Lib.hid (by have := HQ.out; rwa [e.out, if_neg (by simp)] at this), hS⟩
            case measure => simp [intOf]; omega
          have h0' : 0 ≤ h := by omega
          have hu := uses_fit l x.op x.a hfit.par
          have C := uses03 A (some ad) c d t l x.op x.a
          have hK1 := fun k => Lib.hid (insT_no (l := l) (d := D) (x := x) (pc := pc) (h := h) Hh.out h0' k)
          have hK2 := fun k1 k2 => Lib.hid (insT_go (l := l) (d := D) (x := x) (pc := pc) (h := h) Hh.out h0' k1 k2)
          have hL0 : leftOf l x h = h - (uses l x.op x.a).1 + (uses l x.op x.a).2 := rfl
          rw [hL0] at hK1 hK2
          clear hL0
          generalize (uses l x.op x.a).1 = pops at hu C hK1 hK2
          generalize (uses l x.op x.a).2 = pus at hu C hK1 hK2
          obtain ⟨v1, v2, v3, v4⟩ := hu
          have hS0 := hS
          go_wp2
          go_region_held3 (fun w' => w'.cell? ⟨w.heap.size, 0, none⟩ = some (.slice A t.length c) ∧ w'.cell? ⟨w.heap.size, 1, none⟩ = some (.slice (some ad) l.length d) ∧ w'.cell? (ad2.add (pc * 2)) = some (.int .i64 x.op) ∧ w'.cell? ⟨(ad2.add (pc * 2)).block, (ad2.add (pc * 2)).off + 1, none⟩ = some (.int .i64 x.a)) ((refine ⟨?_, ?_, ?_, ?_⟩ <;> first | exact hS0.cell 2 rfl 0 | exact hS0.cell 2 rfl 1 | exact r0 | exact r1)) (first | (go_at_call 153; refine (C _ (hr.below hS0.drew.bel) (by omega)).mono ?_; rintro e w' ⟨rfl, hb2⟩; have u0 := kept hb2 u0; have r0 := kept hb2 r0; have r1 := kept hb2 r1; have hS0 := hS0.drew.step hb2))
          clear hS
          by_cases k0 : h < pops ∨ 16 < h - pops + pus
          · have hins := hK1 k0
            have z0 := hS0.cell 1 rfl
            have zf := hS0.free 1 rfl
            have hW := hS0.bel
            clear hK1 hK2
            by_cases k1 : h < pops
            · have eR : R = (2, (k : Int), (pc : Int)) := by rw [← HT.out, ← HQ.out, if_pos (by rw [hins.out]; decide), hins.out]
              subst eR
              clear HT HQ HR
              go_wp2
              refine bodyPost_ret (v := .agg #[.int .i64 2, .int .i64 k, .int .i64 pc]) (by simp [results, Try.results139, go_sem, true_and, *]) rfl ⟨rfl, (by repeat (first | exact Below.refl _ _ | assumption | (refine bl_set ?_ (by dsimp only; omega) _) | refine bl_alloc ?_ _ | refine bl_drewN ?_ _ | refine bl_drew ?_ | refine bl_step ?_ (by assumption)))⟩
            · have k2 : 16 < h - pops + pus := by omega
              have k1' : pops ≤ h := by omega
              have eR : R = (2, (k : Int), (pc : Int)) := by rw [← HT.out, ← HQ.out, if_pos (by rw [hins.out]; decide), hins.out]
              subst eR
              clear HT HQ HR
              go_wp2
              refine bodyPost_ret (v := .agg #[.int .i64 2, .int .i64 k, .int .i64 pc]) (by simp [results, Try.results139, go_sem, true_and, *]) rfl ⟨rfl, (by repeat (first | exact Below.refl _ _ | assumption | (refine bl_set ?_ (by dsimp only; omega) _) | refine bl_alloc ?_ _ | refine bl_drewN ?_ _ | refine bl_drew ?_ | refine bl_step ?_ (by assumption)))⟩
          have k1' : pops ≤ h := by omega
          have k2' : h - pops + pus ≤ 16 := by omega
          have hI0 := hK2 k1' k2'
          clear hK1 hK2 k0
          obtain ⟨left, hl⟩ : ∃ left, h - pops + pus = left := ⟨_, rfl⟩
          have HLE := Lib.hid hl
          have hl0 : 0 ≤ left := by omega
          have hl1 : left ≤ 16 := by omega
          clear hl
          go_wp2_with fail
          refine (next03 x pc _ (by omega)).mono ?_
          intro e w4 hn
          obtain ⟨v2, F2, rfl, hS1⟩ := hS0.newRow hn
          obtain ⟨A3, c3, rfl, _, _⟩ := hS1.row 0 rfl
          clear hn hS0 u0 r0 r1
          have HNF := Lib.hid (nexts_fit hxf hlt2)
          have hnl : (nexts x pc).length ≤ 2 := by unfold nexts; split <;> (try split) <;> (try split) <;> simp
          obtain ⟨ns, hns⟩ : ∃ ns, nexts x pc = ns := ⟨_, rfl⟩
          rw [hns] at hS1 HNF hI0 hnl
          rw [hns]
          rw [HLE.out, hH.1] at hI0
          rw [HLE.out]
          clear hns
          go_wp2
          go_loopw [11] (fun i wr => ∃ j : Nat, j ≤ ns.length ∧ i = .int .i64 j ∧ Hid (∀ q z, ns[q]? = some z → q < j → decide (z = (y.code.length : Int)) = false) ∧ St w [Res.own (Knd.int .i64) 3 (.slice A3 ns.length c3) ns F2, Res.own (Knd.int .i64) 3 (.slice (some ⟨g, 0, none⟩) y.code.length cg) D F, Res.box (w.heap.size + 1) (.cells #[.int .i64 0, .int .i64 0, .int .i64 0] 162 (0, 0)), Res.box w.heap.size (.cells #[.slice A t.length c, .slice (some ad) l.length d] 34 (0, 0))] wr) (fun i _ => ns.length - (intOf i).toNat)
          case atStart => exact ⟨0, by omega, rfl, (fun q z _ h => by omega), hS1⟩
          case round =>
            clear hS1
            obtain ⟨j, hj, rfl, hP, hS⟩ := hrel
            by_cases hlt3 : j < ns.length
            · obtain ⟨z, hz⟩ := get_exU ns j hlt3
              obtain ⟨hz0, hz1⟩ := HNF.out z (List.mem_of_getElem? hz)
              obtain ⟨ad3, rfl, p0⟩ := hS.cellR 0 rfl j z hz
              by_cases hzn : z = (y.code.length : Int)
              · have hany := any_yes (p := fun z => decide (z = (y.code.length : Int))) hz (decide_eq_true hzn)
                have hins := Lib.hid (show insT l D x pc = 3 by rw [hI0.out, hany]; rfl)
                have z0 := hS.cell 2 rfl
                have zf := hS.free 2 rfl
                have hW := hS.bel
                have hge : (y.code.length : Int) ≤ z := by omega
                clear hany hz hzn
                have eR : R = (3, (k : Int), (pc : Int)) := by rw [← HT.out, ← HQ.out, if_pos (by rw [hins.out]; decide), hins.out]
                subst eR
                clear HT HQ HR
                go_wp2
                refine bodyPost_ret (v := .agg #[.int .i64 3, .int .i64 k, .int .i64 pc]) (by simp [results, Try.results139, go_sem, true_and, *]) rfl ⟨rfl, (by repeat (first | exact Below.refl _ _ | assumption | (refine bl_set ?_ (by dsimp only; omega) _) | refine bl_alloc ?_ _ | refine bl_drewN ?_ _ | refine bl_drew ?_ | refine bl_step ?_ (by assumption)))⟩
              · have HN := Lib.hid (not_step (p := fun z => decide (z = (y.code.length : Int))) hP.out hz (decide_eq_false hzn))
                have hge : z < (y.code.length : Int) := by omega
                clear hz hzn
                go_wp2
                go_roundw
                case rel => exact ⟨j + 1, by omega, by go_num, HN, hS⟩
                case measure => simp [intOf]; omega
            obtain rfl : j = ns.length := by omega
            have hany := any_no (p := fun z => decide (z = (y.code.length : Int))) (fun q z h h2 => hP.out q z h h2)
            have hI1 := Lib.hid (show insT l D x pc = if ns.any (fun q => decide (at0 D q ≠ left)) then 4 else 0 by rw [hI0.out, hany]; rfl)
            have HNE : Hid (∀ z ∈ ns, z ≠ (y.code.length : Int)) := Lib.hid (fun z hz e => by
              have := List.any_eq_false.1 hany z hz
              simp [e] at this)
            clear hany hP
            go_wp2
            go_loopw [12] (fun i wr => ∃ j : Nat, j ≤ ns.length ∧ i = .int .i64 j ∧ Hid (∀ q z, ns[q]? = some z → q < j → decide (at0 D z ≠ left) = false) ∧ St w [Res.own (Knd.int .i64) 3 (.slice A3 ns.length c3) ns F2, Res.own (Knd.int .i64) 3 (.slice (some ⟨g, 0, none⟩) y.code.length cg) D F, Res.box (w.heap.size + 1) (.cells #[.int .i64 0, .int .i64 0, .int .i64 0] 162 (0, 0)), Res.box w.heap.size (.cells #[.slice A t.length c, .slice (some ad) l.length d] 34 (0, 0))] wr) (fun i _ => ns.length - (intOf i).toNat)
            case atStart => exact ⟨0, by omega, rfl, (fun q z _ h => by omega), hS⟩
            case round =>
              clear hS
              obtain ⟨j, hj, rfl, hP, hS⟩ := hrel
              by_cases hlt3 : j < ns.length
              · obtain ⟨z, hz⟩ := get_exU ns j hlt3
                obtain ⟨hz0, hz1⟩ := HNF.out z (List.mem_of_getElem? hz)
                have hz2 := HNE.out z (List.mem_of_getElem? hz)
                obtain ⟨ad3, rfl, p0⟩ := hS.cellR 0 rfl j z hz
                obtain ⟨m, rfl⟩ : ∃ m : Nat, z = m := ⟨z.toNat, by omega⟩
                have hml : m < D.length := by rw [hH.1]; omega
                have hmn : m < y.code.length := by omega
                have u1 := hS.cell1 1 rfl m _ (at0_get hml)
                by_cases hzn : at0 D m = left
                · have HN := Lib.hid (not_step (p := fun z => decide (at0 D z ≠ left)) hP.out hz (by simp [hzn]))
                  rw [hzn] at u1
                  clear hz hzn hml hz2
                  go_wp2
                  go_roundw
                  case rel => exact ⟨j + 1, by omega, by go_num, HN, hS⟩
                  case measure => simp [intOf]; omega
                · have hany := any_yes (p := fun z => decide (at0 D z ≠ left)) hz (by simp [hzn])
                  have hins := Lib.hid (show insT l D x pc = 4 by rw [hI1.out, hany]; rfl)
                  have z0 := hS.cell 2 rfl
                  have zf := hS.free 2 rfl
                  have hW := hS.bel
                  generalize at0 D m = u at u1 hzn
                  have hne : (u != left) = true := by simpa using hzn
                  clear hany hz hml hz2 hzn
                  have eR : R = (4, (k : Int), (pc : Int)) := by rw [← HT.out, ← HQ.out, if_pos (by rw [hins.out]; decide), hins.out]
                  subst eR
                  clear HT HQ HR
                  go_wp2
                  refine bodyPost_ret (v := .agg #[.int .i64 4, .int .i64 k, .int .i64 pc]) (by simp [results, Try.results139, go_sem, true_and, *]) rfl ⟨rfl, (by repeat (first | exact Below.refl _ _ | assumption | (refine bl_set ?_ (by dsimp only; omega) _) | refine bl_alloc ?_ _ | refine bl_drewN ?_ _ | refine bl_drew ?_ | refine bl_step ?_ (by assumption)))⟩
              obtain rfl : j = ns.length := by omega
              have hany := any_no (p := fun z => decide (at0 D z ≠ left)) (fun q z h h2 => hP.out q z h h2)
              have e0 := Lib.hid (show insT l D x pc = 0 by rw [hI1.out, hany]; rfl)
              clear hany hP
              go_wp2
              go_roundw
              case rel => exact ⟨pc + 1, by omega, by go_num, Lib.hid (by have := HQ.out; rwa [e0.out, if_neg (by simp)] at this), hS.drop⟩
              case measure => simp [intOf]; omega
        · obtain rfl : pc = y.code.length := by omega
          have hQ2 : Hid (codeT l D y.code 0 = none) := Lib.hid (by have := hQ.out; rw [List.drop_length] at this; exact this.symm)
          have HT2 : Hid (funcsT l (l.drop (k + 1)) (k + 1) = R) := Lib.hid (by have := HT.out; rw [hQ2.out] at this; exact this)
          go_wp2
          go_roundw
          case rel => exact ⟨k + 1, by omega, by go_num, HT2, hS.drop⟩
          case measure => simp [intOf]; omega
    · obtain rfl : k = l.length := by omega
      have eR : (0, 0, 0) = R := by have := hT.out; rwa [List.drop_length] at this
      subst eR
      have hW := hS.bel
      clear hT HR
      go_wp2
      refine bodyPost_ret (v := .agg #[.int .i64 0, .int .i64 0, .int .i64 0]) (by simp [results, Try.results139, go_sem, true_and, *]) rfl ⟨rfl, (by repeat (first | exact Below.refl _ _ | assumption | (refine bl_set ?_ (by dsimp only; omega) _) | refine bl_alloc ?_ _ | refine bl_drewN ?_ _ | refine bl_drew ?_ | refine bl_step ?_ (by assumption)))⟩
end Go.Proofs.Yteoibjacgnmnpaa.Dat

/- The heights of a function, in the program and in the reference. -/
import Derived.Test.YteoibjacgnmnpaaSt1
import Derived.Test.YteoibjacgnmnpaaUses
import Derived.Test.YteoibjacgnmnpaaEq
namespace Go.Proofs.Yteoibjacgnmnpaa.Dat
open Go Go.RowKit Go.Proofs.Yteoibjacgnmnpaa.Mem
set_option linter.unusedVariables false
set_option linter.unusedSimpArgs false
theorem leavesI (A B : Option Addr) (c d : Nat) (t : List ByteArray) (l : List DFunc) (x : DIns) (h : Int) (w : World) (hr : kFunc.Row w B l.length l) (hm : l.length ≤ 1048576) (hp : ∀ y ∈ l, 0 ≤ y.params ∧ y.params ≤ 6) (h1 : -1 ≤ h) (h2 : h ≤ 16) :
    Calls Try.prog 156 #[.agg #[.slice A t.length c, .slice B l.length d], .agg #[.int .i64 x.op, .int .i64 x.a], .int .i64 h] w fun e w' => e = .returned (.tuple #[.int .i64 (leftOf l x h), .bool (canB l x h)]) ∧ Below w.heap.size w w' := by
  have hu := uses_fit l x.op x.a hp
  have C := usesI A B c d t l x.op x.a
  unfold canB leftOf
  generalize (uses l x.op x.a).1 = a at hu C ⊢
  generalize (uses l x.op x.a).2 = b at hu C ⊢
  obtain ⟨u1, u2, u3, u4⟩ := hu
  by_cases ha : a ≤ h
  · rw [decide_eq_true ha, Bool.true_and]
    by_cases hb : h - a + b ≤ 16
    · rw [decide_eq_true hb]
      go_enter Try.func156, Try.ntmps156
      go_wp2_with fail
      refine (C _ (hr.below (by repeat (first | exact Below.refl _ _ | assumption | (refine bl_set ?_ (by dsimp only; omega) _) | refine bl_alloc ?_ _ | refine bl_drewN ?_ _ | refine bl_drew ?_ | refine bl_step ?_ (by assumption)))) hm).mono ?_
      rintro e w' ⟨rfl, hb⟩
      go_wp2
      go_ret2
      exact ⟨rfl, (by repeat (first | exact Below.refl _ _ | assumption | (refine bl_set ?_ (by dsimp only; omega) _) | refine bl_alloc ?_ _ | refine bl_drewN ?_ _ | refine bl_drew ?_ | refine bl_step ?_ (by assumption)))⟩
    · rw [decide_eq_false hb]
      have hb' : decide (h - a + b ≤ 16) = false := decide_eq_false hb
      go_enter Try.func156, Try.ntmps156
      go_wp2_with fail
      refine (C _ (hr.below (by repeat (first | exact Below.refl _ _ | assumption | (refine bl_set ?_ (by dsimp only; omega) _) | refine bl_alloc ?_ _ | refine bl_drewN ?_ _ | refine bl_drew ?_ | refine bl_step ?_ (by assumption)))) hm).mono ?_
      rintro e w' ⟨rfl, hb⟩
      go_wp2
      go_ret2
      exact ⟨rfl, (by repeat (first | exact Below.refl _ _ | assumption | (refine bl_set ?_ (by dsimp only; omega) _) | refine bl_alloc ?_ _ | refine bl_drewN ?_ _ | refine bl_drew ?_ | refine bl_step ?_ (by assumption)))⟩
  · rw [decide_eq_false ha, Bool.false_and]
    have ha' : h < a := by omega
    go_enter Try.func156, Try.ntmps156
    go_wp2_with fail
    refine (C _ (hr.below (by repeat (first | exact Below.refl _ _ | assumption | (refine bl_set ?_ (by dsimp only; omega) _) | refine bl_alloc ?_ _ | refine bl_drewN ?_ _ | refine bl_drew ?_ | refine bl_step ?_ (by assumption)))) hm).mono ?_
    rintro e w' ⟨rfl, hb⟩
    go_wp2
    go_ret2
    exact ⟨rfl, (by repeat (first | exact Below.refl _ _ | assumption | (refine bl_set ?_ (by dsimp only; omega) _) | refine bl_alloc ?_ _ | refine bl_drewN ?_ _ | refine bl_drew ?_ | refine bl_step ?_ (by assumption)))⟩
/-- A round of the inner loop. -/
theorem puts_at {n : Nat} {left : Int} {ns : List Int} {j : Nat} {to : Int} (hj : ns[j]? = some to) (s : List Int × Bool) : (ns.drop j).foldl (put1 n left) s = (ns.drop (j + 1)).foldl (put1 n left) (put1 n left s to) := by
  obtain ⟨hk, e⟩ := List.getElem?_eq_some_iff.1 hj
  rw [List.drop_eq_getElem_cons hk, e]
  rfl
theorem at0_nat (d : List Int) (k : Nat) : at0 d k = d.getD k 0 := by simp [at0]
theorem at0_get {d : List Int} {k : Nat} (h : k < d.length) : d[k]? = some (at0 d k) := by
  rw [at0_nat, List.getD_eq_getElem?_getD, List.getElem?_eq_getElem h]
  rfl
theorem put1_yes {n m : Nat} {left : Int} {s : List Int × Bool} (h1 : m < n) (h2 : at0 s.1 m < 0) : put1 n left s m = (s.1.set m left, true) := by
  unfold put1
  rw [if_pos ⟨by omega, h2⟩, Int.toNat_natCast]
theorem put1_no {n m : Nat} {left : Int} {s : List Int × Bool} (h : ¬ (m < n ∧ at0 s.1 m < 0)) : put1 n left s m = s := by
  unfold put1
  rw [if_neg (by omega)]
set_option maxHeartbeats 4000000 in
set_option maxRecDepth 100000 in
theorem depthsI (A B : Option Addr) (c d : Nat) (t : List ByteArray) (l : List DFunc) (f : Nat) (y : DFunc) (w : World) (hr : kFunc.Row w B l.length l) (hfit : ModFit t l) (hy : l[f]? = some y) :
    Calls Try.prog 101 #[.agg #[.slice A t.length c, .slice B l.length d], .int .i64 f] w (NewRow (Knd.int .i64) 3 (depthsL l y.code) w) := by
  have hm := hfit.n12
  have hym := List.mem_of_getElem? hy
  have n1 := hfit.c1 y hym
  have n120 := hfit.c120 y hym
  obtain ⟨ad, A2, c2, rfl, _, _, q2', hq, hr2⟩ := kFunc_at hr f y hy
  have q2 := kept (bl_alloc (Below.refl _ _) (.cells #[.slice A t.length c, .slice (some ad) l.length d] 34 (0, 0))) q2'
  have hfl : f < l.length := (List.getElem?_eq_some_iff.1 hy).1
  have HY := Lib.hid hy
  clear hy q2'
  obtain ⟨R, hR⟩ : ∃ R, depthsL l y.code = R := ⟨_, rfl⟩
  rw [hR]
  have HR := Lib.hid hR
  clear hR
  go_enter Try.func101, Try.ntmps101
  go_wp2_with fail
  refine (repeat1 _ (-1) y.code.length _ ?_ (by omega) (by omega)).mono ?_
  · first | (simp; done) | (go_simp; done) | skip
  intro e w1 hn
  obtain ⟨v, F, rfl, hS⟩ := ((((St.start w).made (.cells #[.slice A t.length c, .slice (some ad) l.length d] 34 (0, 0))).step (Below.refl _ _)).step ((Below.refl _ _).alloc (Nat.le_refl _) _)).newRow hn
  clear hn q2
  obtain ⟨g, cg, hv, hgF⟩ := own_form (hS.get 0 rfl) (by simp; omega)
  rw [List.length_replicate] at hv
  subst hv
  have u0 := hS.cell1 0 rfl 0 (-1) (by rw [List.getElem?_replicate, if_pos (by omega)])
  have f0 := hS.free1 0 rfl 0
  have hS2 := hS.put1 0 rfl 0 (by simp; omega) (0 : Int)
  have HS2 := Lib.hid hS2
  clear hS hS2
  go_wp2
  go_loopg [7] (y.code.length + 1) (fun k more wr => ∃ (s : List Int) (b : Bool), more = .bool b ∧ Hgt y.code.length s ∧ Hid (if b then fixD l y.code k s = R ∧ negs s < k else s = R) ∧ St w [Res.own (Knd.int .i64) 3 (.slice (some ⟨g, 0, none⟩) y.code.length cg) s F, Res.box w.heap.size (.cells #[.slice A t.length c, .slice (some ad) l.length d] 34 (0, 0))] wr)
  case atStart => exact ⟨initD y.code.length, true, rfl, Hgt.init _, Lib.hid (by rw [if_pos rfl]; exact ⟨HR.out, by have := negs_le (initD y.code.length); have := (Hgt.init y.code.length).1; omega⟩), HS2.out⟩
  case round =>
    clear HS2 u0 f0
    obtain ⟨s, b, rfl, hH, hI, hS⟩ := hrel
    cases b
    · have e : s = R := by simpa using hI.out
      subst e
      go_wp2
      go_ret
      exact hS.outRow 0 rfl
    have hI0 := hI.out
    rw [if_pos rfl] at hI0
    obtain ⟨hI1, hI2⟩ := hI0
    obtain ⟨k, rfl⟩ : ∃ k, gk = k + 1 := ⟨gk - 1, by omega⟩
    obtain ⟨Q, hQ⟩ : ∃ Q, sweepD l y.code.length y.code 0 (s, false) = Q := ⟨_, rfl⟩
    have hSw := sweepD_fit (l := l) (n := y.code.length) hfit.par y.code 0 (s, false) (fun x hx => hfit.fit hym hx) (by omega) hH
    have HQ := Lib.hid hQ
    have HI := Lib.hid (show fixD l y.code (k + 1) s = R from hI1)
    have HW := Lib.hid hSw
    have HN := Lib.hid hI2
    clear hI hI1 hI2 hQ hSw
    go_wp2
    go_loopw [7, 29] (fun more i wr => ∃ (pc : Nat) (s' : List Int) (b' : Bool), pc ≤ y.code.length ∧ more = .bool b' ∧ i = .int .i64 pc ∧ Hgt y.code.length s' ∧ Hid (sweepD l y.code.length (y.code.drop pc) pc (s', b') = Q) ∧ St w [Res.own (Knd.int .i64) 3 (.slice (some ⟨g, 0, none⟩) y.code.length cg) s' F, Res.box w.heap.size (.cells #[.slice A t.length c, .slice (some ad) l.length d] 34 (0, 0))] wr) (fun _ i _ => y.code.length - (intOf i).toNat)
    case atStart => exact ⟨0, s, false, by omega, rfl, rfl, hH, HQ, hS⟩
    case round =>
      clear hS hH
      obtain ⟨pc, s', b', hpc, rfl, rfl, hH, hQ, hS⟩ := hrel
      by_cases hlt : pc < y.code.length
      · obtain ⟨x, hx⟩ := get_exU y.code pc hlt
        obtain ⟨ad2, rfl, r0, r1⟩ := kIns_at (hr2.below hS.bel) pc x hx
        have hQ2 := Lib.hid ((sweepD_at hx (s', b')).symm.trans hQ.out)
        have hxf := hfit.fit hym (List.mem_of_getElem? hx)
        have HX := Lib.hid hx
        have hlen : pc < s'.length := by rw [hH.1]; exact hlt
        have u0 := hS.cell1 0 rfl pc _ (at0_get hlen)
        have gl : g < wr.heap.size := hS.lts 0 rfl g hgF
        have hat := hH.at_ pc
        obtain ⟨h, hh⟩ : ∃ h, at0 s' pc = h := ⟨_, rfl⟩
        rw [hh] at u0 hat
        have Hh := Lib.hid hh
        clear hx hQ hlen hh
        by_cases h0 : h < 0
        · have hstep := Lib.hid (show stepD l y.code.length x pc (s', b') = (s', b') by unfold stepD; rw [if_pos (by rw [Hh.out]; exact h0)])
          go_wp2
          go_roundw
          case rel => exact ⟨pc + 1, s', b', by omega, rfl, by go_num, hH, Lib.hid (by rw [← hQ2.out, hstep.out]), hS.step ((Below.refl _ _).alloc (Nat.le_refl _) _)⟩
          case measure => simp [intOf]; omega
        · have h0' : 0 ≤ h := by omega
          generalize hg9 : wr.heap.size = g9 at *
          go_wp2
          have hS0 := hS.madeAt (.cells #[.int .i64 x.op, .int .i64 x.a] 100 (0, 0)) g9 hg9
          have ug : (wr.alloc (.cells #[.int .i64 x.op, .int .i64 x.a] 100 (0, 0))).cell? ⟨g, pc, none⟩ = some (.int .i64 h) := kept (bl_alloc (Below.refl _ _) _) u0
          generalize wr.alloc (.cells #[.int .i64 x.op, .int .i64 x.a] 100 (0, 0)) = W at *
          clear u0 r0 r1
          go_region_held3 (fun w' => w'.cell? ⟨w.heap.size, 0, none⟩ = some (.slice A t.length c) ∧ w'.cell? ⟨w.heap.size, 1, none⟩ = some (.slice (some ad) l.length d) ∧ w'.cell? ⟨g9, 0, none⟩ = some (.int .i64 x.op) ∧ w'.cell? ⟨g9, 1, none⟩ = some (.int .i64 x.a) ∧ w'.cell? ⟨g, pc, none⟩ = some (.int .i64 h)) ((refine ⟨?_, ?_, ?_, ?_, ?_⟩ <;> first | exact hS0.cell 2 rfl 0 | exact hS0.cell 2 rfl 1 | exact hS0.cell 0 rfl 0 | exact hS0.cell 0 rfl 1 | exact ug)) (first | (go_at_call 156; refine (leavesI _ _ _ _ _ l x h _ (hr.below hS0.drew.bel) (by omega) hfit.par (by omega) (by omega)).mono ?_; rintro e w' ⟨rfl, hb2⟩; have ug := kept hb2 ug; have hS0 := hS0.drew.step hb2))
          obtain ⟨left, hl⟩ : ∃ left, leftOf l x h = left := ⟨_, rfl⟩
          obtain ⟨ok, ho⟩ : ∃ ok, canB l x h = ok := ⟨_, rfl⟩
          have HL := Lib.hid (show ok = true → 0 ≤ left ∧ left ≤ 16 from fun e => hl ▸ canB_left hfit.par (ho.trans e))
          have hQ3 := Lib.hid (show stepD l y.code.length x pc (s', b') = if ok then (nexts x pc).foldl (put1 y.code.length left) (s', b') else (s', b') by unfold stepD; rw [if_neg (by rw [Hh.out]; omega), Hh.out, ho, hl])
          rw [hl, ho]
          clear hl ho
          go_wp2_with fail
          refine (followsI x pc _ (by omega)).mono ?_
          intro e w4 hn
          obtain ⟨v2, F2, rfl, hS1⟩ := hS0.newRow hn
          obtain ⟨A3, c3, rfl, _, _⟩ := hS1.row 0 rfl
          clear hn hS0 hS ug
          have hnf := nexts_fit hxf hlt
          have HNF := Lib.hid hnf
          have hnl : (nexts x pc).length ≤ 2 := by unfold nexts; split <;> (try split) <;> (try split) <;> simp
          clear hnf
          obtain ⟨ns, hns⟩ : ∃ ns, nexts x pc = ns := ⟨_, rfl⟩
          rw [hns] at hS1 HNF hQ3 hnl
          rw [hns]
          clear hns
          go_wp2
          go_loopw [7, 53] (fun more i wr => ∃ (j : Nat) (s2 : List Int) (b2 : Bool), j ≤ ns.length ∧ more = .bool b2 ∧ i = .int .i64 j ∧ Hgt y.code.length s2 ∧ Hid ((if ok then (ns.drop j).foldl (put1 y.code.length left) (s2, b2) else (s2, b2)) = stepD l y.code.length x pc (s', b')) ∧ St w [Res.own (Knd.int .i64) 3 (.slice A3 ns.length c3) ns F2, Res.box g9 (.cells #[.int .i64 x.op, .int .i64 x.a] 100 (0, 0)), Res.own (Knd.int .i64) 3 (.slice (some ⟨g, 0, none⟩) y.code.length cg) s2 F, Res.box w.heap.size (.cells #[.slice A t.length c, .slice (some ad) l.length d] 34 (0, 0))] wr) (fun _ i _ => ns.length - (intOf i).toNat)
          case atStart => exact ⟨0, s', b', by omega, rfl, rfl, hH, Lib.hid hQ3.out.symm, hS1⟩
          case round =>
            clear hS1 hH
            obtain ⟨j, s2, b2, hj, rfl, rfl, hH, hP, hS⟩ := hrel
            by_cases hlt2 : j < ns.length
            · obtain ⟨to, hto⟩ := get_exU ns j hlt2
              obtain ⟨hto0, hto1⟩ := HNF.out to (List.mem_of_getElem? hto)
              obtain ⟨ad3, rfl, p0⟩ := hS.cellR 0 rfl j to hto
              obtain ⟨m, rfl⟩ : ∃ m : Nat, to = m := ⟨to.toNat, by omega⟩
              have HT := Lib.hid hto
              clear hto
              cases ok
              · have hP2 : Hid ((s2, b2) = stepD l y.code.length x pc (s', b')) := Lib.hid (by have := hP.out; rwa [if_neg (by simp)] at this)
                go_wp2
                go_roundw
                case rel => exact ⟨j + 1, s2, b2, by omega, rfl, by go_num, hH, Lib.hid (by rw [if_neg (by simp)]; exact hP2.out), hS⟩
                case measure => simp [intOf]; omega
              · obtain ⟨hl0, hl1⟩ := HL.out rfl
                have hP0 := hP.out
                rw [if_pos rfl, puts_at HT.out] at hP0
                by_cases hm1 : m < y.code.length
                · have hml : m < s2.length := by rw [hH.1]; exact hm1
                  have u1 := hS.cell1 2 rfl m _ (at0_get hml)
                  have f1 := hS.free1 2 rfl m
                  have hu := hH.at_ m
                  obtain ⟨u, hu1⟩ : ∃ u, at0 s2 m = u := ⟨_, rfl⟩
                  rw [hu1] at u1 hu
                  by_cases hu0 : u < 0
                  · rw [put1_yes hm1 (by rw [hu1]; exact hu0)] at hP0
                    have hS3 := Lib.hid (hS.put1 2 rfl m hml left)
                    have hP3 := Lib.hid hP0
                    clear hP0 hP hu1 hml hS
                    go_wp2
                    go_roundw
                    case rel => exact ⟨j + 1, s2.set m left, true, by omega, rfl, by go_num, hH.set m (by omega), Lib.hid (by first | exact hP3.out | (rw [if_pos rfl]; exact hP3.out)), hS3.out⟩
                    case measure => simp [intOf]; omega
                  · rw [put1_no (by rw [hu1]; omega)] at hP0
                    have hP3 := Lib.hid hP0
                    have hu0' : 0 ≤ u := by omega
                    clear hP0 hP hu1 hml
                    go_wp2
                    go_roundw
                    case rel => exact ⟨j + 1, s2, b2, by omega, rfl, by go_num, hH, Lib.hid (by first | exact hP3.out | (rw [if_pos rfl]; exact hP3.out)), hS⟩
                    case measure => simp [intOf]; omega
                · rw [put1_no (by omega)] at hP0
                  have hP3 := Lib.hid hP0
                  have hm1' : decide (m < y.code.length) = false := decide_eq_false hm1
                  clear hP0 hP
                  go_wp2
                  go_roundw
                  case rel => exact ⟨j + 1, s2, b2, by omega, rfl, by go_num, hH, Lib.hid (by first | exact hP3.out | (rw [if_pos rfl]; exact hP3.out)), hS⟩
                  case measure => simp [intOf]; omega
            · obtain rfl : j = ns.length := by omega
              have hP2 : Hid ((s2, b2) = stepD l y.code.length x pc (s', b')) := Lib.hid (by have := hP.out; rw [List.drop_length] at this; simpa using this)
              go_wp2
              go_roundw
              case rel => exact ⟨pc + 1, s2, b2, by omega, rfl, by go_num, hH, Lib.hid (by rw [← hQ2.out, hP2.out]), hS.drop.drop⟩
              case measure => simp [intOf]; omega
      · obtain rfl : pc = y.code.length := by omega
        have hQ2 : (s', b') = Q := by have := hQ.out; rwa [List.drop_length] at this
        have hI1 := HI.out
        unfold fixD at hI1
        rw [HQ.out, ← hQ2] at hI1
        have hF := HW.out.2
        rw [HQ.out, ← hQ2] at hF
        have hN := HN.out
        have hI2 : Hid (if b' then fixD l y.code k s' = R ∧ negs s' < k else s' = R) := Lib.hid (by
          cases b'
          · simpa using hI1
          · rcases hF.2 with h3 | h3
            · simp at h3
            · exact ⟨by simpa using hI1, by have := h3.2; simp only at this; omega⟩)
        clear hQ2 hI1 hF hN
        go_wp2
        go_roundg k
        case rel => exact ⟨s', b', rfl, hH, hI2, hS⟩
        case measure => omega
end Go.Proofs.Yteoibjacgnmnpaa.Dat

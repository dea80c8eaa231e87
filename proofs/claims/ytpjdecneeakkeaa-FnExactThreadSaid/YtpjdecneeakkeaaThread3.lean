/- Thread, in the reference. -/
import Derived.Test.YtpjdecneeakkeaaThreadP
namespace Go.Proofs.Ytpjdecneeakkeaa.Dat
open Go Go.RowKit Go.Proofs.Ytpjdecneeakkeaa.Mem
set_option linter.unusedVariables false
set_option linter.unusedSimpArgs false
set_option maxHeartbeats 16000000 in
set_option maxRecDepth 100000 in
theorem thread03 (A B : Option Addr) (c d : Nat) (t : List ByteArray) (l : List DFunc) (w : World) (h : HasMod A B t l w) {X : List ByteArray} {Y : List DFunc} (hX : threadT t l = X) (hY : threadF t l = Y) :
    Calls Try.prog 32 #[.agg #[.slice A t.length c, .slice B l.length d]] w (NewMod X Y w) := by
  have hlm := h.hm
  have htm := h.htm
  have hS := ((St.start w).made (.cells #[.slice A t.length c, .slice B l.length d] 34 (0, 0))).madeAt (.cells #[.slice none 0 0, .slice none 0 0] 34 (0, 0)) (w.heap.size + 1) (by simp)
  cases hg : isGoodB t l
  · obtain rfl : X = [] := by rw [← hX]; unfold threadT; rw [hg]; rfl
    obtain rfl : Y = [] := by rw [← hY]; unfold threadF; rw [hg]; rfl
    have HG := Lib.hid hg
    clear hg hX hY
    go_enter Try.func32, Try.ntmps32
    go_wp2_with fail
    refine (good03 A B c d t l _ (h.below hS.bel) HG.out).mono ?_
    rintro e w1 ⟨rfl, hb⟩
    replace hS := hS.step hb
    have x0 := hS.cell 0 rfl
    have f0 := hS.free 0 rfl
    go_wp2
    have hS2 := (hS.set 0 rfl 0 (.slice none 0 0)).set 0 rfl 1 (.slice none 0 0)
    have y0 := hS2.cell 0 rfl 0
    have y1 := hS2.cell 0 rfl 1
    refine bodyPost_ret (v := .agg #[.slice none 0 0, .slice none 0 0]) (by simp [results, Try.results32, go_sem, *]) rfl ?_
    exact ⟨_, _, [], [], rfl, ((hS2.drop.drop).nil_ kFunc 122).nil_ Knd.str 9⟩
  obtain rfl : X = t := by rw [← hX]; unfold threadT; rw [hg]; rfl
  obtain rfl : Y = l.map thF := by rw [← hY]; unfold threadF; rw [hg]; rfl
  have HG := Lib.hid hg
  have HF := Lib.hid (modFit (isGood_mod hg))
  have hl1 := HF.out.n1
  clear hg hX hY
  go_enter Try.func32, Try.ntmps32
  go_wp2_with fail
  refine (good03 A B c d X l _ (h.below hS.bel) HG.out).mono ?_
  rintro e w1 ⟨rfl, hb⟩
  replace hS := hS.step hb
  clear hb
  have x1 := hS.cell 1 rfl
  go_wp2_with fail
  refine (copy03 A B c d X l _ (h.below hS.bel)).mono ?_
  rintro e w2 ⟨v, u, F, G, rfl, hN⟩
  obtain ⟨A1, c1, rfl, _, _⟩ := hN.row 0 rfl
  obtain ⟨gF, dF, rfl, _⟩ := own_form (hN.own_ 1 rfl) (by omega)
  have hS1 := hS.join hN
  obtain ⟨g3, hg3⟩ : ∃ g3, w2.heap.size = g3 := ⟨_, rfl⟩
  have hz1 := hS1.blt 2 rfl
  have hz2 := hS1.blt 3 rfl
  rw [hg3] at hz1 hz2
  have hS2 := hS1.madeAt (.cells #[.slice A1 X.length c1, .slice (some ⟨gF, 0, none⟩) l.length dF] 34 (0, 0)) g3 hg3
  clear hS hN x1 hS1
  go_wp2
  go_loopw [4] (fun i wr => ∃ (k : Nat) (G : List Nat), k ≤ l.length ∧ i = .int .i64 k ∧ St w [Res.own kFunc 122 (.slice (some ⟨gF, 0, none⟩) l.length dF) ((l.take k).map thF ++ l.drop k) G, Res.box g3 (.cells #[.slice A1 X.length c1, .slice (some ⟨gF, 0, none⟩) l.length dF] 34 (0, 0)), Res.own Knd.str 9 (.slice A1 X.length c1) X F, Res.box (w.heap.size + 1) (.cells #[.slice none 0 0, .slice none 0 0] 34 (0, 0)), Res.box w.heap.size (.cells #[.slice A X.length c, .slice B l.length d] 34 (0, 0))] wr) (fun i _ => l.length - (intOf i).toNat)
  case atStart => exact ⟨0, G, by omega, rfl, hS2.front 2 rfl⟩
  case round =>
    clear hS2 hg3 hz1 hz2
    obtain ⟨k, G, hk, rfl, hS⟩ := hrel
    have x3 := hS.cell 1 rfl
    by_cases hlt : k < l.length
    · obtain ⟨x, hx⟩ := get_exU l k hlt
      have hxl := List.mem_of_getElem? hx
      have hc1 := HF.out.c1 x hxl
      have hc120 := HF.out.c120 x hxl
      have HJ := Lib.hid (jok_of HF.out hxl)
      have HM := Lib.hid (map_step hx)
      have hcl : ((l.take k).map thF ++ l.drop k).length = l.length := by simp; omega
      obtain ⟨g', c', vj, Fj, F', hv, q0, q1, q2, hG, hS3⟩ := St.openF hS (map_get hx)
      rw [hcl] at hv
      cases hv
      obtain ⟨gc, cc, rfl, _⟩ := own_form (hS3.own_ 0 rfl) (by omega)
      have HGp := Lib.hid hG
      clear hx hS hG hcl
      go_wp2
      go_loopw [6] (fun i wr => ∃ j : Nat, j ≤ x.code.length ∧ i = .int .i64 j ∧ St w [Res.own kIns 125 (.slice (some ⟨gc, 0, none⟩) x.code.length cc) (thrTo x.code j) Fj, Res.hole (.slice (some ⟨gF, 0, none⟩) l.length dF) (.slice (some ⟨gc, 0, none⟩) x.code.length cc) ((l.take k).map thF ++ l.drop k) k x Fj F' G, Res.box g3 (.cells #[.slice A1 X.length c1, .slice (some ⟨gF, 0, none⟩) l.length dF] 34 (0, 0)), Res.own Knd.str 9 (.slice A1 X.length c1) X F, Res.box (w.heap.size + 1) (.cells #[.slice none 0 0, .slice none 0 0] 34 (0, 0)), Res.box w.heap.size (.cells #[.slice A X.length c, .slice B l.length d] 34 (0, 0))] wr) (fun i _ => x.code.length - (intOf i).toNat)
      case atStart => exact ⟨0, by omega, rfl, hS3⟩
      case round =>
        clear hS3 q0 q1 q2 x3
        obtain ⟨j, hj, rfl, hS⟩ := hrel
        by_cases hjl : j < x.code.length
        · have hlenC : (thrTo x.code j).length = x.code.length := thrTo_len _ _
          have HJC := Lib.hid (thrTo_ok HJ.out j (by omega))
          have HT := Lib.hid (show thrTo x.code (j + 1) = thr (thrTo x.code j) j 120 from rfl)
          obtain ⟨C, hC⟩ : ∃ C, thrTo x.code j = C := ⟨_, rfl⟩
          rw [hC] at hS hlenC HJC HT
          clear hC
          obtain ⟨y, hy⟩ : ∃ y, C[j]? = some y := ⟨C[j]'(by omega), List.getElem?_eq_getElem _⟩
          obtain ⟨s0, s1, _⟩ := St.insAt hS 0 rfl j y hy
          have ey := insOf_get hy
          cases hjm : isJmp y.op
          · have HR := Lib.hid (show thrTo x.code (j + 1) = C by rw [HT.out]; exact thr_no (by unfold jc; rw [ey, hjm]; rfl) _)
            obtain ⟨n1, n2, n3⟩ := jmp_no hjm
            have m1 : (y.op == 17) = false := by simpa using n1
            have m2 : (y.op == 18) = false := by simpa using n2
            have m3 : (y.op == 19) = false := by simpa using n3
            have m4 : (y.op != 17) = true := by simpa using n1
            have m5 : (y.op != 18) = true := by simpa using n2
            have m6 : (y.op != 19) = true := by simpa using n3
            clear n1 n2 n3 hjm hy ey HT
            go_wp2
            go_roundw
            case rel => exact ⟨j + 1, by omega, by go_num, by rw [HR.out]; exact hS⟩
            case measure => simp [intOf]; omega
          · obtain ⟨R, hR⟩ : ∃ R, thr C j 120 = R := ⟨_, rfl⟩
            have HR := Lib.hid (show thrTo x.code (j + 1) = R by rw [HT.out, hR])
            have HJ0 := Lib.hid (show isJmp (insOf C j).op = true by rw [ey]; exact hjm)
            have HR0 := Lib.hid hR
            clear hR HT ey hy
            obtain ⟨yo, ya⟩ := y
            dsimp only at hjm s0 s1
            rcases jmp_yes hjm with rfl | rfl | rfl <;> (
              clear hjm
              go_wp2
              go_loopw [7] (fun i wr => ∃ (q : Nat) (C : List DIns), q ≤ 120 ∧ i = .int .i64 q ∧ C.length = x.code.length ∧ Hid (thr C j (120 - q) = R) ∧ Hid (JOk C) ∧ Hid (isJmp (insOf C j).op = true) ∧ St w [Res.own kIns 125 (.slice (some ⟨gc, 0, none⟩) x.code.length cc) C Fj, Res.hole (.slice (some ⟨gF, 0, none⟩) l.length dF) (.slice (some ⟨gc, 0, none⟩) x.code.length cc) ((l.take k).map thF ++ l.drop k) k x Fj F' G, Res.box g3 (.cells #[.slice A1 X.length c1, .slice (some ⟨gF, 0, none⟩) l.length dF] 34 (0, 0)), Res.own Knd.str 9 (.slice A1 X.length c1) X F, Res.box (w.heap.size + 1) (.cells #[.slice none 0 0, .slice none 0 0] 34 (0, 0)), Res.box w.heap.size (.cells #[.slice A X.length c, .slice B l.length d] 34 (0, 0))] wr) (fun i _ => 120 - (intOf i).toNat)
              case atStart => exact ⟨0, C, by omega, rfl, hlenC, HR0, HJC, HJ0, hS⟩
              case round =>
                clear hS s0 s1 HJC HR0 HJ0 hlenC
                obtain ⟨q, D, hq, rfl, hlen, HRD, HJD, HJJ, hS⟩ := hrel
                by_cases hq2 : q < 120
                · obtain ⟨z, hz⟩ : ∃ z, D[j]? = some z := ⟨D[j]'(by omega), List.getElem?_eq_getElem _⟩
                  have ez := insOf_get hz
                  obtain ⟨r0, r1, rf⟩ := St.insAt hS 0 rfl j z hz
                  obtain ⟨z1, z2⟩ := HJD.out z (List.mem_of_getElem? hz) (by rw [← ez]; exact HJJ.out)
                  obtain ⟨m, hm⟩ : ∃ m : Nat, z.a = m := ⟨z.a.toNat, by omega⟩
                  obtain ⟨v, hv⟩ : ∃ v, D[m]? = some v := ⟨D[m]'(by omega), List.getElem?_eq_getElem _⟩
                  have ev := insOf_get hv
                  obtain ⟨t0, t1, _⟩ := St.insAt hS 0 rfl m v hv
                  have hml : m < x.code.length := by omega
                  rw [hm] at r1
                  by_cases hv17 : v.op = 17
                  · have e17 : (v.op == 17) = true := by simpa using hv17
                    have hjc : jc D j = true := by unfold jc; rw [HJJ.out, ez, hm, Int.toNat_natCast, ev, hv17]; rfl
                    have HR2 := Lib.hid (show thr (stp D j) j (120 - (q + 1)) = R by rw [← HRD.out, show 120 - q = (120 - (q + 1)) + 1 by omega, thr_yes hjc])
                    have HST := Lib.hid (show stp D j = D.set j ⟨z.op, v.a⟩ by unfold stp; rw [ez, hm, Int.toNat_natCast, ev])
                    have HJ2 := Lib.hid (HJD.out.stp (by omega) hjc)
                    have HJ3 := Lib.hid (show isJmp (insOf (stp D j) j).op = true by rw [HST.out, insOf_set (by omega)]; rw [← ez]; exact HJJ.out)
                    have hS2 := St.insSetA hS 0 rfl j z hz v.a
                    have HL2 := Lib.hid (show (stp D j).length = x.code.length by rw [stp_len]; exact hlen)
                    clear hjc ez ev hz hv z1 z2 hm hv17
                    go_wp2
                    go_roundw
                    case rel => exact ⟨q + 1, stp D j, by omega, by go_num, HL2.out, HR2, HJ2, HJ3, by rw [HST.out]; exact hS2⟩
                    case measure => simp [intOf]; omega
                  · have e17 : (v.op == 17) = false := by simpa using hv17
                    have HR2 := Lib.hid (show D = R by rw [← HRD.out]; exact (thr_no (by unfold jc; rw [ez, hm, Int.toNat_natCast, ev, decide_eq_false hv17, Bool.and_false]) _).symm)
                    clear ez ev hz hv z1 z2 hm hv17
                    go_wp2
                    go_roundw
                    case rel => exact ⟨j + 1, by omega, by go_num, by rw [HR.out, ← HR2.out]; exact hS⟩
                    case measure => simp [intOf]; omega
                · obtain rfl : q = 120 := by omega
                  have HR2 := Lib.hid (show D = R from HRD.out)
                  go_wp2
                  go_roundw
                  case rel => exact ⟨j + 1, by omega, by go_num, by rw [HR.out, ← HR2.out]; exact hS⟩
                  case measure => simp [intOf]; omega)
        · obtain rfl : j = x.code.length := by omega
          go_wp2
          go_roundw
          case rel => exact ⟨k + 1, G, by omega, by go_num, by have h9 := St.closeF hS HGp.out; have h8 : ((l.take k).map thF ++ l.drop k).set k ⟨x.params, x.locals, thrTo x.code x.code.length⟩ = _ := HM.out; rw [h8] at h9; exact h9⟩
          case measure => simp [intOf]; omega
    · obtain rfl : k = l.length := by omega
      have e9 : (l.take l.length).map thF ++ l.drop l.length = l.map thF := by simp
      rw [e9] at hS
      have x0 := hS.cell 3 rfl
      have f0 := hS.free 3 rfl
      go_wp2
      have hS2 := (hS.set 3 rfl 0 (.slice A1 X.length c1)).set 3 rfl 1 (.slice (some ⟨gF, 0, none⟩) l.length dF)
      have y0 := hS2.cell 3 rfl 0
      have y1 := hS2.cell 3 rfl 1
      refine bodyPost_ret (v := .agg #[.slice A1 X.length c1, .slice (some ⟨gF, 0, none⟩) l.length dF]) (by simp [results, Try.results32, go_sem, *]) rfl ?_
      exact ⟨_, _, _, _, rfl, (hS2.front 2 rfl).pick2 0 rfl⟩
end Go.Proofs.Ytpjdecneeakkeaa.Dat

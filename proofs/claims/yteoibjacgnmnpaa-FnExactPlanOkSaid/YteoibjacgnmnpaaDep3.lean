/- The heights of a function in the reference. -/
import Derived.Test.YteoibjacgnmnpaaDep
import Derived.Test.YteoibjacgnmnpaaNxt
namespace Go.Proofs.Yteoibjacgnmnpaa.Dat
open Go Go.RowKit Go.Proofs.Yteoibjacgnmnpaa.Mem
set_option linter.unusedVariables false
set_option linter.unusedSimpArgs false
theorem stepD_skip {l : List DFunc} {n : Nat} {x : DIns} {pc : Nat} {s : List Int × Bool} {h : Int} (hh : at0 s.1 pc = h) (hu : 0 ≤ (uses l x.op x.a).1) (k : h < (uses l x.op x.a).1 ∨ 16 < leftOf l x h) : stepD l n x pc s = s := by
  unfold stepD canB
  rw [hh]
  by_cases h0 : h < 0
  · rw [if_pos h0]
  · rw [if_neg h0]
    have e : (decide ((uses l x.op x.a).1 ≤ h) && decide (leftOf l x h ≤ 16)) = false := by
      rcases k with k | k
      · rw [decide_eq_false (by omega), Bool.false_and]
      · rw [decide_eq_false (p := leftOf l x h ≤ 16) (by omega), Bool.and_false]
    rw [e]
    rfl
theorem stepD_go {l : List DFunc} {n : Nat} {x : DIns} {pc : Nat} {s : List Int × Bool} {h : Int} (hh : at0 s.1 pc = h) (hu : 0 ≤ (uses l x.op x.a).1) (k1 : (uses l x.op x.a).1 ≤ h) (k2 : leftOf l x h ≤ 16) : stepD l n x pc s = (nexts x pc).foldl (put1 n (leftOf l x h)) s := by
  unfold stepD canB
  rw [hh, if_neg (by omega), decide_eq_true k1, decide_eq_true k2]
  rfl
set_option maxHeartbeats 4000000 in
set_option maxRecDepth 100000 in
theorem depths03 (A B : Option Addr) (c d : Nat) (t : List ByteArray) (l : List DFunc) (f : Nat) (y : DFunc) (w : World) (hr : kFunc.Row w B l.length l) (hfit : ModFit t l) (hy : l[f]? = some y) :
    Calls Try.prog 99 #[.agg #[.slice A t.length c, .slice B l.length d], .int .i64 f] w (NewRow (Knd.int .i64) 3 (depthsL l y.code) w) := by
  have hm := hfit.n12
  have hym := List.mem_of_getElem? hy
  have n1 := hfit.c1 y hym
  have n120 := hfit.c120 y hym
  obtain ⟨ad, A2, c2, rfl, _, _, q2', hq, hr2⟩ := kFunc_at hr f y hy
  have q2 := kept (bl_alloc (Below.refl _ _) (.cells #[.slice A t.length c, .slice (some ad) l.length d] 34 (0, 0))) q2'
  have hfl : f < l.length := (List.getElem?_eq_some_iff.1 hy).1
  have HY := Lib.hid hy
  clear hy q2'
  obtain ⟨R, hR⟩ : ∃ R, depthsL l y.code = R := ⟨_, rfl⟩
  rw [hR]
  have HR := Lib.hid hR
  clear hR
  have hS0 := ((St.start w).made (.cells #[.slice A t.length c, .slice (some ad) l.length d] 34 (0, 0))).litAt (enc := Value.int .i64) (h1 := fun _ => rfl) (e := 3) [] #[] rfl (w.heap.size + 1) (by simp) 0 rfl (by simp)
  go_enter Try.func99, Try.ntmps99
  go_wp2
  clear q2
  go_loopw [6, 7] (fun v i wr => ∃ (k : Nat) (F : List Nat), k ≤ y.code.length ∧ i = .int .i64 k ∧ St w [Res.own (Knd.int .i64) 3 v (List.replicate k (-1)) F, Res.box w.heap.size (.cells #[.slice A t.length c, .slice (some ad) l.length d] 34 (0, 0))] wr) (fun _ i _ => y.code.length - (intOf i).toNat)
  case atStart => exact ⟨0, [w.heap.size + 1], by omega, rfl, hS0⟩
  case round =>
    clear hS0
    obtain ⟨k, F, hk, rfl, hS⟩ := hrel
    by_cases hlt : k < y.code.length
    · go_wp2_with (at_builtin; refine Knd.wp_app1 rfl _ _ _ rfl 3 Try.underlying124 (.int .i64 0) 8 infoInt rfl rfl ((hS.al _).own_ 0 rfl) _ _ _ _ _ (blkAt _ _ (by simp)) rfl (by (try simp [maxLen]); (try omega)) (by (try simp); (try omega)) ?_; rintro gq cq wq hO hB hg; have hSq := (hS.al _).app1 0 rfl hO hB hg; clear hO hB hg hS; have hS := hSq; clear hSq)
      go_roundw
      case rel => exact ⟨k + 1, _, by omega, by go_num, by rw [List.replicate_succ']; simpa [Knd.int] using hS⟩
      case measure => simp [intOf]; omega
    obtain rfl : k = y.code.length := by omega
    obtain ⟨g, cg, hv, hgF⟩ := own_form (hS.get 0 rfl) (by simp; omega)
    rw [List.length_replicate] at hv
    subst hv
    have u0 := hS.cell1 0 rfl 0 (-1) (by rw [List.getElem?_replicate, if_pos (by omega)])
    have f0 := hS.free1 0 rfl 0
    have hS2 := hS.put1 0 rfl 0 (by simp; omega) (0 : Int)
    have HS2 := Lib.hid hS2
    clear hS hS2
    go_wp2
    go_loopg [8] (y.code.length + 1) (fun k more wr => ∃ (s : List Int) (b : Bool), more = .bool b ∧ Hgt y.code.length s ∧ Hid (if b then fixD l y.code k s = R ∧ negs s < k else s = R) ∧ St w [Res.own (Knd.int .i64) 3 (.slice (some ⟨g, 0, none⟩) y.code.length cg) s F, Res.box w.heap.size (.cells #[.slice A t.length c, .slice (some ad) l.length d] 34 (0, 0))] wr)
    case atStart => exact ⟨initD y.code.length, true, rfl, Hgt.init _, Lib.hid (by rw [if_pos rfl]; exact ⟨HR.out, by have := negs_le (initD y.code.length); have := (Hgt.init y.code.length).1; omega⟩), HS2.out⟩
    case round =>
      clear HS2 u0 f0
      obtain ⟨s, b, rfl, hH, hI, hS⟩ := hrel
      cases b
      · have e : s = R := by simpa using hI.out
        subst e
        go_wp2
        go_ret
        exact hS.outRow 0 rfl
      have hI0 := hI.out
      rw [if_pos rfl] at hI0
      obtain ⟨hI1, hI2⟩ := hI0
      obtain ⟨k, rfl⟩ : ∃ k, gk = k + 1 := ⟨gk - 1, by omega⟩
      obtain ⟨Q, hQ⟩ : ∃ Q, sweepD l y.code.length y.code 0 (s, false) = Q := ⟨_, rfl⟩
      have hSw := sweepD_fit (l := l) (n := y.code.length) hfit.par y.code 0 (s, false) (fun x hx => hfit.fit hym hx) (by omega) hH
      have HQ := Lib.hid hQ
      have HI := Lib.hid (show fixD l y.code (k + 1) s = R from hI1)
      have HW := Lib.hid hSw
      have HN := Lib.hid hI2
      clear hI hI1 hI2 hQ hSw
      go_wp2
      go_loopw [8, 9] (fun more i wr => ∃ (pc : Nat) (s' : List Int) (b' : Bool), pc ≤ y.code.length ∧ more = .bool b' ∧ i = .int .i64 pc ∧ Hgt y.code.length s' ∧ Hid (sweepD l y.code.length (y.code.drop pc) pc (s', b') = Q) ∧ St w [Res.own (Knd.int .i64) 3 (.slice (some ⟨g, 0, none⟩) y.code.length cg) s' F, Res.box w.heap.size (.cells #[.slice A t.length c, .slice (some ad) l.length d] 34 (0, 0))] wr) (fun _ i _ => y.code.length - (intOf i).toNat)
      case atStart => exact ⟨0, s, false, by omega, rfl, rfl, hH, HQ, hS⟩
      case round =>
        clear hS hH
        obtain ⟨pc, s', b', hpc, rfl, rfl, hH, hQ, hS⟩ := hrel
        by_cases hlt : pc < y.code.length
        · obtain ⟨x, hx⟩ := get_exU y.code pc hlt
          obtain ⟨ad2, rfl, r0, r1⟩ := kIns_at (hr2.below hS.bel) pc x hx
          have hQ2 := Lib.hid ((sweepD_at hx (s', b')).symm.trans hQ.out)
          have hxf := hfit.fit hym (List.mem_of_getElem? hx)
          have hlen : pc < s'.length := by rw [hH.1]; exact hlt
          have u0 := hS.cell1 0 rfl pc _ (at0_get hlen)
          have hat := hH.at_ pc
          obtain ⟨h, hh⟩ : ∃ h, at0 s' pc = h := ⟨_, rfl⟩
          rw [hh] at u0 hat
          have Hh := Lib.hid hh
          clear hx hQ hlen hh
          have hu := uses_fit l x.op x.a hfit.par
          have C := uses03 A (some ad) c d t l x.op x.a
          have hK1 := fun k => Lib.hid (stepD_skip (n := y.code.length) (pc := pc) (s := (s', b')) (x := x) (h := h) Hh.out hu.1 k)
          have hK2 := fun k1 k2 => Lib.hid (stepD_go (n := y.code.length) (pc := pc) (s := (s', b')) (x := x) (h := h) Hh.out hu.1 k1 k2)
          have hL0 : leftOf l x h = h - (uses l x.op x.a).1 + (uses l x.op x.a).2 := rfl
          rw [hL0] at hK1 hK2
          clear hL0
          generalize (uses l x.op x.a).1 = pops at hu C hK1 hK2
          generalize (uses l x.op x.a).2 = pus at hu C hK1 hK2
          obtain ⟨v1, v2, v3, v4⟩ := hu
          have hS0 := hS
          go_wp2
          go_region_held3 (fun w' => w'.cell? ⟨w.heap.size, 0, none⟩ = some (.slice A t.length c) ∧ w'.cell? ⟨w.heap.size, 1, none⟩ = some (.slice (some ad) l.length d) ∧ w'.cell? (ad2.add (pc * 2)) = some (.int .i64 x.op) ∧ w'.cell? ⟨(ad2.add (pc * 2)).block, (ad2.add (pc * 2)).off + 1, none⟩ = some (.int .i64 x.a)) ((refine ⟨?_, ?_, ?_, ?_⟩ <;> first | exact hS0.cell 1 rfl 0 | exact hS0.cell 1 rfl 1 | exact r0 | exact r1)) (first | (go_at_call 153; refine (C _ (hr.below hS0.drew.bel) (by omega)).mono ?_; rintro e w' ⟨rfl, hb2⟩; have u0 := kept hb2 u0; have r0 := kept hb2 r0; have r1 := kept hb2 r1; have hS0 := hS0.drew.step hb2))
          clear hS
          by_cases k0 : h < pops ∨ 16 < h - pops + pus
          · have HST := hK1 k0
            clear hK1 hK2
            by_cases k1 : h < pops
            · go_wp2
              go_roundw
              case rel => exact ⟨pc + 1, s', b', by omega, rfl, by go_num, hH, Lib.hid (by rw [← hQ2.out, HST.out]), hS0⟩
              case measure => simp [intOf]; omega
            · have k2 : 16 < h - pops + pus := by omega
              have k1' : pops ≤ h := by omega
              go_wp2
              go_roundw
              case rel => exact ⟨pc + 1, s', b', by omega, rfl, by go_num, hH, Lib.hid (by rw [← hQ2.out, HST.out]), hS0⟩
              case measure => simp [intOf]; omega
          · have k1' : pops ≤ h := by omega
            have k2' : h - pops + pus ≤ 16 := by omega
            have hQ3 := hK2 k1' k2'
            clear hK1 hK2 k0
            obtain ⟨left, hl⟩ : ∃ left, h - pops + pus = left := ⟨_, rfl⟩
            have HLE := Lib.hid hl
            have hl0 : 0 ≤ left := by omega
            have hl1 : left ≤ 16 := by omega
            clear hl
            go_wp2_with fail
            refine (next03 x pc _ (by omega)).mono ?_
            intro e w4 hn
            obtain ⟨v2, F2, rfl, hS1⟩ := hS0.newRow hn
            obtain ⟨A3, c3, rfl, _, _⟩ := hS1.row 0 rfl
            clear hn hS0 u0 r0 r1
            have HNF := Lib.hid (nexts_fit hxf hlt)
            have hnl : (nexts x pc).length ≤ 2 := by unfold nexts; split <;> (try split) <;> (try split) <;> simp
            obtain ⟨ns, hns⟩ : ∃ ns, nexts x pc = ns := ⟨_, rfl⟩
            rw [hns] at hS1 HNF hQ3 hnl
            rw [hns]
            rw [HLE.out] at hQ3 ⊢
            clear hns
            go_wp2
            go_loopw [8, 14] (fun more i wr => ∃ (j : Nat) (s2 : List Int) (b2 : Bool), j ≤ ns.length ∧ more = .bool b2 ∧ i = .int .i64 j ∧ Hgt y.code.length s2 ∧ Hid ((ns.drop j).foldl (put1 y.code.length left) (s2, b2) = stepD l y.code.length x pc (s', b')) ∧ St w [Res.own (Knd.int .i64) 3 (.slice A3 ns.length c3) ns F2, Res.own (Knd.int .i64) 3 (.slice (some ⟨g, 0, none⟩) y.code.length cg) s2 F, Res.box w.heap.size (.cells #[.slice A t.length c, .slice (some ad) l.length d] 34 (0, 0))] wr) (fun _ i _ => ns.length - (intOf i).toNat)
            case atStart => exact ⟨0, s', b', by omega, rfl, rfl, hH, Lib.hid hQ3.out.symm, hS1⟩
            case round =>
              clear hS1 hH
              obtain ⟨j, s2, b2, hj, rfl, rfl, hH, hP, hS⟩ := hrel
              by_cases hlt2 : j < ns.length
              · obtain ⟨to, hto⟩ := get_exU ns j hlt2
                obtain ⟨hto0, hto1⟩ := HNF.out to (List.mem_of_getElem? hto)
                obtain ⟨ad3, rfl, p0⟩ := hS.cellR 0 rfl j to hto
                obtain ⟨m, rfl⟩ : ∃ m : Nat, to = m := ⟨to.toNat, by omega⟩
                have HT := Lib.hid hto
                clear hto
                have hP0 := hP.out
                rw [puts_at HT.out] at hP0
                by_cases hm1 : m < y.code.length
                · have hml : m < s2.length := by rw [hH.1]; exact hm1
                  have u1 := hS.cell1 1 rfl m _ (at0_get hml)
                  have f1 := hS.free1 1 rfl m
                  have hu := hH.at_ m
                  obtain ⟨u, hu1⟩ : ∃ u, at0 s2 m = u := ⟨_, rfl⟩
                  rw [hu1] at u1 hu
                  by_cases hu0 : u < 0
                  · rw [put1_yes hm1 (by rw [hu1]; exact hu0)] at hP0
                    have hS3 := Lib.hid (hS.put1 1 rfl m hml left)
                    have hP3 := Lib.hid hP0
                    clear hP0 hP hu1 hml hS
                    go_wp2
                    go_roundw
                    case rel => exact ⟨j + 1, s2.set m left, true, by omega, rfl, by go_num, hH.set m (by omega), hP3, hS3.out⟩
                    case measure => simp [intOf]; omega
                  · rw [put1_no (by rw [hu1]; omega)] at hP0
                    have hP3 := Lib.hid hP0
                    have hu0' : 0 ≤ u := by omega
                    clear hP0 hP hu1 hml
                    go_wp2
                    go_roundw
                    case rel => exact ⟨j + 1, s2, b2, by omega, rfl, by go_num, hH, hP3, hS⟩
                    case measure => simp [intOf]; omega
                · rw [put1_no (by omega)] at hP0
                  have hP3 := Lib.hid hP0
                  have hm1' : decide (m < y.code.length) = false := decide_eq_false hm1
                  clear hP0 hP
                  go_wp2
                  go_roundw
                  case rel => exact ⟨j + 1, s2, b2, by omega, rfl, by go_num, hH, hP3, hS⟩
                  case measure => simp [intOf]; omega
              · obtain rfl : j = ns.length := by omega
                have hP2 : Hid ((s2, b2) = stepD l y.code.length x pc (s', b')) := Lib.hid (by have := hP.out; rw [List.drop_length] at this; simpa using this)
                go_wp2
                go_roundw
                case rel => exact ⟨pc + 1, s2, b2, by omega, rfl, by go_num, hH, Lib.hid (by rw [← hQ2.out, hP2.out]), hS.drop⟩
                case measure => simp [intOf]; omega
        · obtain rfl : pc = y.code.length := by omega
          have hQ2 : (s', b') = Q := by have := hQ.out; rwa [List.drop_length] at this
          have hI1 := HI.out
          unfold fixD at hI1
          rw [HQ.out, ← hQ2] at hI1
          have hF := HW.out.2
          rw [HQ.out, ← hQ2] at hF
          have hN := HN.out
          have hI2 : Hid (if b' then fixD l y.code k s' = R ∧ negs s' < k else s' = R) := Lib.hid (by
            cases b'
            · simpa using hI1
            · rcases hF.2 with h3 | h3
              · simp at h3
              · exact ⟨by simpa using hI1, by have := h3.2; simp only at this; omega⟩)
          clear hQ2 hI1 hF hN
          go_wp2
          go_roundg k
          case rel => exact ⟨s', b', rfl, hH, hI2, hS⟩
          case measure => omega
end Go.Proofs.Yteoibjacgnmnpaa.Dat

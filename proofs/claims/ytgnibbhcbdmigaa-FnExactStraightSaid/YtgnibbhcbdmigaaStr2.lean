/- Straight, in the program and in the reference. -/
import Derived.Test.YtgnibbhcbdmigaaStr
namespace Go.Proofs.Ytgnibbhcbdmigaa.Dat
open Go Go.RowKit Go.Proofs.Ytgnibbhcbdmigaa.Mem
set_option linter.unusedVariables false
set_option linter.unusedSimpArgs false
theorem isJumpI (op a : Int) (w : World) {r : Bool} (h : isJmp op = r) : Calls Try.prog 98 #[.agg #[.int .i64 op, .int .i64 a]] w fun e w' => e = .returned (.bool r) ∧ Below w.heap.size w w' := by
  have H := Lib.hid h
  clear h
  go_enter Try.func98, Try.ntmps98
  go_wp2_with fail
  refine (inRange _ H.out).mono ?_
  rintro e w' ⟨rfl, rfl⟩
  go_wp2
  go_ret
  exact ⟨rfl, (by repeat (first | exact Below.refl _ _ | assumption | (refine bl_set ?_ (by dsimp only; omega) _) | refine bl_alloc ?_ _ | refine bl_drewN ?_ _ | refine bl_drew ?_ | refine bl_step ?_ (by assumption)))⟩
def isFuncB (t : List ByteArray) (l : List DFunc) (f : Int) : Bool := btw f 0 ((l.length : Int) - 1) && isGoodB t l
set_option maxHeartbeats 4000000 in
set_option maxRecDepth 100000 in
theorem isFuncI (A B : Option Addr) (c d : Nat) (t : List ByteArray) (l : List DFunc) (f : Int) (w : World) (h : HasMod A B t l w) {r : Bool} (hg : isFuncB t l f = r) :
    Calls Try.prog 78 #[.agg #[.slice A t.length c, .slice B l.length d], .int .i64 f] w fun e w' => e = .returned (.bool r) ∧ Below w.heap.size w w' := by
  have hm := h.hm
  unfold isFuncB at hg
  cases hf : btw f 0 ((l.length : Int) - 1)
  · rw [hf, Bool.false_and] at hg
    subst hg
    have HF := Lib.hid hf
    clear hf
    go_enter Try.func78, Try.ntmps78
    go_wp2_with fail
    refine (isPlace _ HF.out (by omega) (by omega)).mono ?_
    rintro e w' ⟨rfl, rfl⟩
    go_wp2
    go_ret
    exact ⟨rfl, (by repeat (first | exact Below.refl _ _ | assumption | (refine bl_set ?_ (by dsimp only; omega) _) | refine bl_alloc ?_ _ | refine bl_drewN ?_ _ | refine bl_drew ?_ | refine bl_step ?_ (by assumption)))⟩
  rw [hf, Bool.true_and] at hg
  have HF := Lib.hid hf
  have HG := Lib.hid hg
  clear hf hg
  go_enter Try.func78, Try.ntmps78
  go_wp2_with fail
  refine (isPlace _ HF.out (by omega) (by omega)).mono ?_
  rintro e w' ⟨rfl, rfl⟩
  go_wp2_with fail
  refine (isGoodI A B c d t l _ (h.below (by repeat (first | exact Below.refl _ _ | assumption | (refine bl_set ?_ (by dsimp only; omega) _) | refine bl_alloc ?_ _ | refine bl_drewN ?_ _ | refine bl_drew ?_ | refine bl_step ?_ (by assumption)))) HG.out).mono ?_
  rintro e w' ⟨rfl, hb⟩
  go_wp2
  go_ret
  exact ⟨rfl, (by repeat (first | exact Below.refl _ _ | assumption | (refine bl_set ?_ (by dsimp only; omega) _) | refine bl_alloc ?_ _ | refine bl_drewN ?_ _ | refine bl_drew ?_ | refine bl_step ?_ (by assumption)))⟩
set_option maxHeartbeats 4000000 in
set_option maxRecDepth 100000 in
theorem is08 (A B : Option Addr) (c d : Nat) (t : List ByteArray) (l : List DFunc) (f : Int) (w : World) (h : HasMod A B t l w) {r : Bool} (hg : isFuncB t l f = r) :
    Calls Try.prog 76 #[.agg #[.slice A t.length c, .slice B l.length d], .int .i64 f] w fun e w' => e = .returned (.bool r) ∧ Below w.heap.size w w' := by
  have hm := h.hm
  unfold isFuncB at hg
  rw [Bool.and_comm] at hg
  have hS0 := (St.start w).made (.cells #[.slice A t.length c, .slice B l.length d] 32 (0, 0))
  cases hf : isGoodB t l
  · rw [hf, Bool.false_and] at hg
    subst hg
    have HF := Lib.hid hf
    clear hf
    go_enter Try.func76, Try.ntmps76
    go_wp2_with fail
    refine (good03 A B c d t l _ (h.below hS0.bel) HF.out).mono ?_
    rintro e w' ⟨rfl, hb⟩
    go_wp2
    go_ret
    exact ⟨rfl, (by repeat (first | exact Below.refl _ _ | assumption | (refine bl_set ?_ (by dsimp only; omega) _) | refine bl_alloc ?_ _ | refine bl_drewN ?_ _ | refine bl_drew ?_ | refine bl_step ?_ (by assumption)))⟩
  rw [hf, Bool.true_and] at hg
  have HF := Lib.hid hf
  have HG := Lib.hid hg
  clear hf hg
  go_enter Try.func76, Try.ntmps76
  go_wp2_with fail
  refine (good03 A B c d t l _ (h.below hS0.bel) HF.out).mono ?_
  rintro e w' ⟨rfl, hb⟩
  have hS := hS0.step hb
  have x0 := hS.cell 0 rfl
  have hW := hS.bel
  clear hS0 hb
  go_wp2_with fail
  refine (between _ HG.out).mono ?_
  rintro e w' ⟨rfl, rfl⟩
  go_wp2
  go_ret
  exact ⟨rfl, (by repeat (first | exact Below.refl _ _ | assumption | (refine bl_set ?_ (by dsimp only; omega) _) | refine bl_alloc ?_ _ | refine bl_drewN ?_ _ | refine bl_drew ?_ | refine bl_step ?_ (by assumption)))⟩
set_option maxHeartbeats 4000000 in
set_option maxRecDepth 100000 in
theorem straightI (A B : Option Addr) (c d : Nat) (t : List ByteArray) (l : List DFunc) (f : Nat) (y : DFunc) (w : World) (h : HasMod A B t l w) (hgd : isGoodB t l = true) (hy : l[f]? = some y) :
    Calls Try.prog 79 #[.agg #[.slice A t.length c, .slice B l.length d], .int .i64 f] w fun e w' => e = .returned (.bool (straightB l y.code)) ∧ Below w.heap.size w w' := by
  have hr := h.hr
  have hfit := modFit (isGood_mod hgd)
  have hm := hfit.n12
  have hym := List.mem_of_getElem? hy
  have n1 := hfit.c1 y hym
  have n120 := hfit.c120 y hym
  have hH := hfit.hgt hym
  obtain ⟨ad, A2, c2, rfl, _, _, q2', hq, hr2⟩ := kFunc_at hr f y hy
  have hfl : f < l.length := (List.getElem?_eq_some_iff.1 hy).1
  have HY := Lib.hid hy
  clear hy
  obtain ⟨R, hR⟩ : ∃ R, straightB l y.code = R := ⟨_, rfl⟩
  rw [hR]
  unfold straightB at hR
  have HR := Lib.hid hR
  clear hR
  have hS0 := (St.start w).made (.cells #[.slice A t.length c, .slice (some ad) l.length d] 32 (0, 0))
  go_enter Try.func79, Try.ntmps79
  go_wp2_with fail
  refine (depthsI A (some ad) c d t l f y _ (hr.below hS0.bel) hfit HY.out).mono ?_
  intro e w2 hn
  obtain ⟨v, F, rfl, hS1⟩ := hS0.newRow hn
  obtain ⟨g, cg, hv', hgF⟩ := own_form (hS1.get 0 rfl) (by rw [hH.1]; omega)
  rw [hH.1] at hv'
  subst hv'
  have q2 := kept hS1.bel q2'
  have x0 := hS1.cell 1 rfl
  clear hn hS0
  go_wp2
  obtain ⟨R0, hR0⟩ : ∃ R0, noJmp (depthsL l y.code) y.code 0 = R0 := ⟨_, rfl⟩
  have HR0 := Lib.hid hR0
  have HR2 := Lib.hid (show (R0 && decide ((y.code.length : Int) ≤ 24)) = R by rw [← hR0]; exact HR.out)
  clear hR0 HR
  go_loopw [18] (fun i wr => ∃ (pc : Nat), pc ≤ y.code.length ∧ i = .int .i64 pc ∧ Hid (noJmp (depthsL l y.code) (y.code.drop pc) pc = R0) ∧ St w [Res.own (Knd.int .i64) 3 (.slice (some ⟨g, 0, none⟩) y.code.length cg) (depthsL l y.code) F, Res.box w.heap.size (.cells #[.slice A t.length c, .slice (some ad) l.length d] 32 (0, 0))] wr) (fun i _ => y.code.length - (intOf i).toNat)
  case atStart => exact ⟨0, by omega, rfl, HR0, hS1⟩
  case round =>
    clear hS1 q2 x0
    obtain ⟨pc, hpc, rfl, hQ, hS⟩ := hrel
    by_cases hlt : pc < y.code.length
    · obtain ⟨x, hx⟩ := get_exU y.code pc hlt
      have HQ : Hid ((!(decide (0 ≤ at0 (depthsL l y.code) pc) && isJmp x.op) && noJmp (depthsL l y.code) (y.code.drop (pc + 1)) (pc + 1)) = R0) := Lib.hid (by
        obtain ⟨hk, e⟩ := List.getElem?_eq_some_iff.1 hx
        have := hQ.out
        rw [List.drop_eq_getElem_cons hk, e] at this
        exact this)
      obtain ⟨ad2, rfl, r0, r1⟩ := kIns_at (hr2.below hS.bel) pc x hx
      have hlen : pc < (depthsL l y.code).length := by rw [hH.1]; exact hlt
      have u0 := hS.cell1 0 rfl pc _ (at0_get hlen)
      obtain ⟨h, hh⟩ : ∃ h, at0 (depthsL l y.code) pc = h := ⟨_, rfl⟩
      rw [hh] at u0 HQ
      have gl : g < wr.heap.size := hS.lts 0 rfl g hgF
      clear hx hQ hlen hh
      by_cases h0 : h < 0
      · have HQ2 := Lib.hid (show noJmp (depthsL l y.code) (y.code.drop (pc + 1)) (pc + 1) = R0 by have := HQ.out; rwa [decide_eq_false (by omega), Bool.false_and, Bool.not_false, Bool.true_and] at this)
        go_wp2
        go_roundw
        case rel => exact ⟨pc + 1, by omega, by go_num, HQ2, hS.al _⟩
        case measure => simp [intOf]; omega
      have h0' : 0 ≤ h := by omega
      cases hj : isJmp x.op
      · have HQ2 := Lib.hid (show noJmp (depthsL l y.code) (y.code.drop (pc + 1)) (pc + 1) = R0 by have := HQ.out; rwa [hj, Bool.and_false, Bool.not_false, Bool.true_and] at this)
        have HJ := Lib.hid hj
        clear hj
        go_wp2_with fail
        refine (isJumpI _ _ _ HJ.out).mono ?_
        rintro e w' ⟨rfl, hb⟩
        go_wp2
        go_roundw
        case rel => exact ⟨pc + 1, by omega, by go_num, HQ2, (hS.al _).step hb⟩
        case measure => simp [intOf]; omega
      · have eR : R0 = false := by have := HQ.out; rw [hj, decide_eq_true h0'] at this; simpa using this.symm
        have eR2 : R = false := by rw [← HR2.out, eR]; rfl
        subst eR2
        have HJ := Lib.hid hj
        have hW := hS.bel
        clear hj eR HR2
        go_wp2_with fail
        refine (isJumpI _ _ _ HJ.out).mono ?_
        rintro e w' ⟨rfl, hb⟩
        go_wp2
        go_ret
        exact ⟨rfl, ((hS.al _).step hb).bel⟩
    · obtain rfl : pc = y.code.length := by omega
      have eR : R0 = true := by have := hQ.out; rw [List.drop_length] at this; exact this.symm
      have HR3 := Lib.hid (show decide ((y.code.length : Int) ≤ 24) = R by rw [← HR2.out, eR]; rfl)
      have hW := hS.bel
      clear hQ eR HR2
      go_wp2
      go_ret
      exact ⟨ret_bool HR3.out, hW⟩
set_option maxHeartbeats 4000000 in
set_option maxRecDepth 100000 in
theorem straight03 (A B : Option Addr) (c d : Nat) (t : List ByteArray) (l : List DFunc) (f : Nat) (y : DFunc) (w : World) (h : HasMod A B t l w) (hgd : isGoodB t l = true) (hy : l[f]? = some y) :
    Calls Try.prog 77 #[.agg #[.slice A t.length c, .slice B l.length d], .int .i64 f] w fun e w' => e = .returned (.bool (straightB l y.code)) ∧ Below w.heap.size w w' := by
  have hr := h.hr
  have hfit := modFit (isGood_mod hgd)
  have hm := hfit.n12
  have hym := List.mem_of_getElem? hy
  have n1 := hfit.c1 y hym
  have n120 := hfit.c120 y hym
  obtain ⟨ad, A2, c2, rfl, _, _, q2', hq, hr2⟩ := kFunc_at hr f y hy
  have hfl : f < l.length := (List.getElem?_eq_some_iff.1 hy).1
  have HY := Lib.hid hy
  have eS := straight_eq (l := l) (c := y.code) (fun x hx => hfit.fit hym hx) n1
  obtain ⟨R, hR⟩ : ∃ R, straightB l y.code = R := ⟨_, rfl⟩
  rw [hR]
  unfold straightB at hR
  rw [eS] at hR
  clear hy eS
  have hS0 := (St.start w).made (.cells #[.slice A t.length c, .slice (some ad) l.length d] 32 (0, 0))
  by_cases hL : (leadersL l y.code).length = 1
  rotate_left
  · rw [decide_eq_false hL, Bool.false_and, Bool.false_and] at hR
    subst hR
    have hL2 : (((leadersL l y.code).length : Int) == 1) = false := by simp; omega
    have HL2 := Lib.hid hL2
    generalize hn : leadersL l y.code = LL at HL2
    have HN := Lib.hid hn
    have C := leaders03 A (some ad) c d t l f y
    rw [hn] at C
    clear hL hL2 hn
    go_enter Try.func77, Try.ntmps77
    go_wp2_with fail
    refine (C _ (hr.below hS0.bel) hgd HY.out).mono ?_
    intro e w2 hn
    obtain ⟨v, F, rfl, hS⟩ := hS0.newRow hn
    obtain ⟨A3, c3, rfl, _, _⟩ := hS.row 0 rfl
    have hL2 := HL2.out
    go_wp2
    go_ret
    exact ⟨rfl, hS.bel⟩
  rw [decide_eq_true hL, Bool.true_and] at hR
  have C := leaders03 A (some ad) c d t l f y
  have C2 := heads03 A (some ad) c d t l f y
  generalize leadersL l y.code = LL at C hL
  obtain ⟨z0, rfl⟩ := List.length_eq_one_iff.1 hL
  clear hL
  by_cases hH : (headsL l y.code).length = 0
  rotate_left
  · rw [decide_eq_false hH, Bool.false_and] at hR
    subst hR
    generalize headsL l y.code = HH at C2 hH
    have hH2 : ((HH.length : Int) == 0) = false := by rw [beq_eq_false_iff_ne]; omega
    have HL2 := Lib.hid hH2
    clear hH hH2
    go_enter Try.func77, Try.ntmps77
    go_wp2_with fail
    refine (C _ (hr.below hS0.bel) hgd HY.out).mono ?_
    intro e w2 hn
    obtain ⟨v, F, rfl, hS⟩ := hS0.newRow hn
    obtain ⟨A3, c3, rfl, _, _⟩ := hS.row 0 rfl
    have x0 := hS.cell 1 rfl
    clear hS0 hn
    go_wp2_with fail
    refine (C2 _ (hr.below hS.bel) hgd HY.out).mono ?_
    intro e w3 hn
    obtain ⟨v, F, rfl, hS3⟩ := hS.newRow hn
    obtain ⟨A4, c4, rfl, _, _⟩ := hS3.row 0 rfl
    clear hS hn x0
    have hL2 := HL2.out
    go_wp2
    go_ret
    exact ⟨rfl, hS3.bel⟩
  rw [decide_eq_true hH, Bool.true_and] at hR
  have HR := Lib.hid hR
  obtain hH0 := List.eq_nil_of_length_eq_zero hH
  rw [hH0] at C2
  clear hH hH0 hR
  go_enter Try.func77, Try.ntmps77
  go_wp2_with fail
  refine (C _ (hr.below hS0.bel) hgd HY.out).mono ?_
  intro e w2 hn
  obtain ⟨v, F, rfl, hS⟩ := hS0.newRow hn
  obtain ⟨A3, c3, rfl, _, _⟩ := hS.row 0 rfl
  have x0 := hS.cell 1 rfl
  clear hS0 hn
  go_wp2_with fail
  refine (C2 _ (hr.below hS.bel) hgd HY.out).mono ?_
  intro e w3 hn
  obtain ⟨v, F, rfl, hS3⟩ := hS.newRow hn
  obtain ⟨A4, c4, rfl, _, _⟩ := hS3.row 0 rfl
  have x0 := hS3.cell 2 rfl
  have q2 := kept hS3.bel q2'
  clear hS hn
  go_wp2
  go_ret
  exact ⟨ret_bool HR.out, hS3.bel⟩
/-- Straight, whole. -/
def strB (t : List ByteArray) (l : List DFunc) (f : Int) : Bool := isFuncB t l f && straightB l (l.getD f.toNat zFunc).code
set_option maxHeartbeats 4000000 in
set_option maxRecDepth 100000 in
theorem strI (A B : Option Addr) (c d : Nat) (t : List ByteArray) (l : List DFunc) (f : Int) (w : World) (h : HasMod A B t l w) :
    Calls Try.prog 37 #[.agg #[.slice A t.length c, .slice B l.length d], .int .i64 f] w fun e w' => e = .returned (.bool (strB t l f)) ∧ Below w.heap.size w w' := by
  have hS0 := (St.start w).made (.cells #[.slice A t.length c, .slice B l.length d] 32 (0, 0))
  unfold strB
  cases hg : isFuncB t l f
  · rw [Bool.false_and]
    have HG := Lib.hid hg
    clear hg
    go_enter Try.func37, Try.ntmps37
    go_wp2_with fail
    refine (isFuncI A B c d t l f _ (h.below hS0.bel) HG.out).mono ?_
    rintro e w' ⟨rfl, hb⟩
    go_wp2
    go_ret
    exact ⟨rfl, (by repeat (first | exact Below.refl _ _ | assumption | (refine bl_set ?_ (by dsimp only; omega) _) | refine bl_alloc ?_ _ | refine bl_drewN ?_ _ | refine bl_drew ?_ | refine bl_step ?_ (by assumption)))⟩
  have hg2 := hg
  unfold isFuncB at hg2
  rw [Bool.and_eq_true, btw_true] at hg2
  obtain ⟨⟨h1, h2⟩, h3⟩ := hg2
  obtain ⟨k, rfl⟩ : ∃ k : Nat, f = k := ⟨f.toNat, by omega⟩
  obtain ⟨y, hy⟩ := get_exU l k (by omega)
  have e : (l.getD (Int.toNat (k : Int)) zFunc).code = y.code := by rw [Int.toNat_natCast, List.getD_eq_getElem?_getD, hy]; rfl
  rw [e, Bool.true_and]
  have HG := Lib.hid hg
  have HY := Lib.hid hy
  clear hg e hy
  go_enter Try.func37, Try.ntmps37
  go_wp2_with fail
  refine (isFuncI A B c d t l k _ (h.below hS0.bel) HG.out).mono ?_
  rintro e w' ⟨rfl, hb⟩
  have hS := hS0.step hb
  have x0 := hS.cell 0 rfl
  clear hS0 hb
  go_wp2_with fail
  refine (straightI A B c d t l k y _ (h.below hS.bel) h3 HY.out).mono ?_
  rintro e w3 ⟨rfl, hb3⟩
  have hW := (hS.step hb3).bel
  go_wp2
  go_ret
  exact ⟨rfl, hW⟩
set_option maxHeartbeats 4000000 in
set_option maxRecDepth 100000 in
theorem str03 (A B : Option Addr) (c d : Nat) (t : List ByteArray) (l : List DFunc) (f : Int) (w : World) (h : HasMod A B t l w) :
    Calls Try.prog 36 #[.agg #[.slice A t.length c, .slice B l.length d], .int .i64 f] w fun e w' => e = .returned (.bool (strB t l f)) ∧ Below w.heap.size w w' := by
  have hS0 := (St.start w).made (.cells #[.slice A t.length c, .slice B l.length d] 32 (0, 0))
  unfold strB
  cases hg : isFuncB t l f
  · rw [Bool.false_and]
    have HG := Lib.hid hg
    clear hg
    go_enter Try.func36, Try.ntmps36
    go_wp2_with fail
    refine (is08 A B c d t l f _ (h.below hS0.bel) HG.out).mono ?_
    rintro e w' ⟨rfl, hb⟩
    go_wp2
    go_ret
    exact ⟨rfl, (by repeat (first | exact Below.refl _ _ | assumption | (refine bl_set ?_ (by dsimp only; omega) _) | refine bl_alloc ?_ _ | refine bl_drewN ?_ _ | refine bl_drew ?_ | refine bl_step ?_ (by assumption)))⟩
  have hg2 := hg
  unfold isFuncB at hg2
  rw [Bool.and_eq_true, btw_true] at hg2
  obtain ⟨⟨h1, h2⟩, h3⟩ := hg2
  obtain ⟨k, rfl⟩ : ∃ k : Nat, f = k := ⟨f.toNat, by omega⟩
  obtain ⟨y, hy⟩ := get_exU l k (by omega)
  have e : (l.getD (Int.toNat (k : Int)) zFunc).code = y.code := by rw [Int.toNat_natCast, List.getD_eq_getElem?_getD, hy]; rfl
  rw [e, Bool.true_and]
  have HG := Lib.hid hg
  have HY := Lib.hid hy
  clear hg e hy
  go_enter Try.func36, Try.ntmps36
  go_wp2_with fail
  refine (is08 A B c d t l k _ (h.below hS0.bel) HG.out).mono ?_
  rintro e w' ⟨rfl, hb⟩
  have hS := hS0.step hb
  have x0 := hS.cell 0 rfl
  clear hS0 hb
  go_wp2_with fail
  refine (straight03 A B c d t l k y _ (h.below hS.bel) h3 HY.out).mono ?_
  rintro e w3 ⟨rfl, hb3⟩
  have hW := (hS.step hb3).bel
  go_wp2
  go_ret
  exact ⟨rfl, hW⟩
end Go.Proofs.Ytgnibbhcbdmigaa.Dat

/- Leaders and heads in the program. -/
import Derived.Test.YtibfajlmecbhiaaStr2
import Derived.Test.YtibfajlmecbhiaaAscP
import Derived.Test.YtibfajlmecbhiaaAsc3
namespace Go.Proofs.Ytibfajlmecbhiaa.Dat
open Go Go.RowKit Go.Proofs.Ytibfajlmecbhiaa.Mem
set_option linter.unusedVariables false
set_option linter.unusedSimpArgs false
theorem ints_own {W : World} {A : Option Addr} {n c e : Nat} {xs : List Int} {F : List Nat} (h : (Knd.int .i64).Own e W (.slice A n c) xs F) : Ints W.heap.size W (.slice A xs.length c) xs := by
  have hn := own_len h
  subst hn
  rcases xs with _ | ⟨x, xs⟩
  · obtain ⟨inner, Fs, ho, hr, rfl⟩ := h
    rcases ho.2 with ⟨e1, hz⟩ | ⟨g, cap, cur, e1, _, hg, _⟩
    · cases e1
      exact .inl ⟨rfl, rfl⟩
    · cases e1
      exact .inr ⟨g, 0, _, rfl, (Array.getElem?_eq_some_iff.1 hg).1, fun j hj => absurd hj (by simp)⟩
  · obtain ⟨g, c', e1, hgF⟩ := own_form h (by simp)
    cases e1
    refine .inr ⟨g, 0, _, rfl, h.lt g hgF, fun j hj => ?_⟩
    rw [Nat.zero_add]
    obtain ⟨y, hy⟩ := get_exU (x :: xs) j hj
    rw [hy]
    exact Knd.Own.cell1 h j y hy
theorem lead_next {t : List ByteArray} {l : List DFunc} (hgd : isGoodB t l = true) {y : DFunc} (hym : y ∈ l) : ∀ (j : Nat) (x : DIns), y.code[j]? = some x → 0 ≤ at0 (depthsL l y.code) j → isJmp x.op = true → x.op ≠ 17 → j + 1 < y.code.length := by
  intro j x hx h0 hj h17
  have hgo := (good_ins hgd hym hx h0).2
  have hjl := (List.getElem?_eq_some_iff.1 hx).1
  rw [isJmp, btw_true] at hj
  rw [nexts_18 x j (by omega)] at hgo
  have h4 := (hgo ((j : Int) + 1) List.mem_cons_self).1
  omega
theorem leadO_skip {x : DIns} {pc : Nat} {h : Int} (hs : h < 0 ∨ isJmp x.op = false) : leadO x pc h = [] := by unfold leadO; rw [if_pos hs]
theorem leadO_17 {x : DIns} {pc : Nat} {h : Int} (h0 : 0 ≤ h) (hj : isJmp x.op = true) (h17 : x.op = 17) : leadO x pc h = [x.a] := by
  unfold leadO
  rw [if_neg (by rw [hj]; simp; omega), if_pos h17]
theorem leadO_18 {x : DIns} {pc : Nat} {h : Int} (h0 : 0 ≤ h) (hj : isJmp x.op = true) (h17 : x.op ≠ 17) : leadO x pc h = [x.a, (pc : Int) + 1] := by
  unfold leadO
  rw [if_neg (by rw [hj]; simp; omega), if_neg h17]
set_option maxHeartbeats 4000000 in
set_option maxRecDepth 100000 in
theorem leadersI (A B : Option Addr) (c d : Nat) (t : List ByteArray) (l : List DFunc) (f : Nat) (y : DFunc) (w : World) (hr : kFunc.Row w B l.length l) (hgd : isGoodB t l = true) (hy : l[f]? = some y) :
    Calls Try.prog 26 #[.agg #[.slice A t.length c, .slice B l.length d], .int .i64 f] w (NewRow (Knd.int .i64) 3 (leadersL l y.code) w) := by
  have hfit := modFit (isGood_mod hgd)
  have hm := hfit.n12
  have hym := List.mem_of_getElem? hy
  have n1 := hfit.c1 y hym
  have n120 := hfit.c120 y hym
  have hH := hfit.hgt hym
  obtain ⟨ad, A2, c2, rfl, _, _, q2', hq, hr2⟩ := kFunc_at hr f y hy
  have hfl : f < l.length := (List.getElem?_eq_some_iff.1 hy).1
  have HY := Lib.hid hy
  have hAsc := leads_asc (l := l) (c := y.code) (fun x hx => hfit.fit hym hx) n1 (lead_next hgd hym)
  obtain ⟨Q, hQ⟩ : ∃ Q, (0 :: leadR (depthsL l y.code) y.code 0) = Q := ⟨_, rfl⟩
  have HQ0 : Hid ([(0 : Int)] ++ leadR (depthsL l y.code) (y.code.drop 0) 0 = Q) := Lib.hid hQ
  rw [hQ] at hAsc
  rw [← hAsc]
  clear hy hAsc hQ
  have hS00 := (St.start w).made (.cells #[.slice A t.length c, .slice (some ad) l.length d] 31 (0, 0))
  have hS0 := hS00.litAt (enc := Value.int .i64) (h1 := fun _ => rfl) (e := 3) [0] #[.int .i64 0] rfl (w.heap.size + 1) (by simp) 1 rfl (by simp)
  clear hS00
  go_enter Try.func26, Try.ntmps26
  go_wp2_with fail
  refine (depthsI A (some ad) c d t l f y _ (hr.below hS0.bel) hfit HY.out).mono ?_
  intro e w2 hn
  obtain ⟨v, F, rfl, hS1⟩ := hS0.newRow hn
  obtain ⟨g, cg, hv', hgF⟩ := own_form (hS1.get 0 rfl) (by rw [hH.1]; omega)
  rw [hH.1] at hv'
  subst hv'
  have q2 := kept hS1.bel q2'
  have x0 := hS1.cell 2 rfl
  clear hn hS0
  go_wp2
  go_loopw [20, 5] (fun i o wr => ∃ (pc : Nat) (acc : List Int) (Fo : List Nat), pc ≤ y.code.length ∧ i = .int .i64 pc ∧ Hid (acc ++ leadR (depthsL l y.code) (y.code.drop pc) pc = Q) ∧ acc.length ≤ 1 + 2 * pc ∧ St w [Res.own (Knd.int .i64) 3 (.slice (some ⟨g, 0, none⟩) y.code.length cg) (depthsL l y.code) F, Res.own (Knd.int .i64) 3 o acc Fo] wr) (fun i _ _ => y.code.length - (intOf i).toNat)
  case atStart => exact ⟨0, _, _, by omega, rfl, HQ0, by simp, (hS1.perm (List.Perm.trans (List.Perm.cons _ (List.Perm.swap _ _ _)) (List.Perm.swap _ _ _))).drop⟩
  case round =>
    clear hS1 q2 x0
    obtain ⟨pc, acc, Fo, hpc, rfl, hQ, hal, hS⟩ := hrel
    by_cases hlt : pc < y.code.length
    · obtain ⟨x, hx⟩ := get_exU y.code pc hlt
      have HQ : Hid (acc ++ (leadO x pc (at0 (depthsL l y.code) pc) ++ leadR (depthsL l y.code) (y.code.drop (pc + 1)) (pc + 1)) = Q) := Lib.hid (by
        obtain ⟨hk, e⟩ := List.getElem?_eq_some_iff.1 hx
        have := hQ.out
        rw [List.drop_eq_getElem_cons hk, e] at this
        exact this)
      obtain ⟨ad2, rfl, r0, r1⟩ := kIns_at (hr2.below hS.bel) pc x hx
      have hlen : pc < (depthsL l y.code).length := by rw [hH.1]; exact hlt
      have u0 := hS.cell1 0 rfl pc _ (at0_get hlen)
      obtain ⟨h, hh⟩ : ∃ h, at0 (depthsL l y.code) pc = h := ⟨_, rfl⟩
      rw [hh] at u0 HQ
      have gl : g < wr.heap.size := hS.lts 0 rfl g hgF
      have hacc : acc.length ≤ 1000 := by omega
      clear hx hQ hlen hh
      by_cases h0 : h < 0
      · have HQ2 := Lib.hid (show acc ++ leadR (depthsL l y.code) (y.code.drop (pc + 1)) (pc + 1) = Q by have := HQ.out; rwa [leadO_skip (.inl h0), List.nil_append] at this)
        go_wp2
        go_roundw
        case rel => exact ⟨pc + 1, acc, Fo, by omega, by go_num, HQ2, by omega, hS.al _⟩
        case measure => simp [intOf]; omega
      have h0' : 0 ≤ h := by omega
      have hS1 := hS.made (.cells #[.int .i64 x.op, .int .i64 x.a] 57 (0, 0))
      cases hj : isJmp x.op
      · have HQ2 := Lib.hid (show acc ++ leadR (depthsL l y.code) (y.code.drop (pc + 1)) (pc + 1) = Q by have := HQ.out; rwa [leadO_skip (.inr hj), List.nil_append] at this)
        have HJ := Lib.hid hj
        clear hj
        go_wp2_with fail
        refine (isJumpI _ _ _ HJ.out).mono ?_
        rintro e w' ⟨rfl, hb⟩
        go_wp2
        go_roundw
        case rel => exact ⟨pc + 1, acc, Fo, by omega, by go_num, HQ2, by omega, (hS.al _).step hb⟩
        case measure => simp [intOf]; omega
      have HJ := Lib.hid hj
      by_cases h17 : x.op = 17
      · have HQ2 := Lib.hid (show (acc ++ [x.a]) ++ leadR (depthsL l y.code) (y.code.drop (pc + 1)) (pc + 1) = Q by have := HQ.out; rwa [leadO_17 h0' hj h17, ← List.append_assoc] at this)
        have e17 : (x.op != 17) = false := by simp [h17]
        clear hj HQ h17
        go_wp2_with fail
        refine (isJumpI _ _ _ HJ.out).mono ?_
        rintro e w' ⟨rfl, hb⟩
        replace hS := hS1.step hb
        clear hb hS1 u0
        have x8 := hS.cell 0 rfl
        go_wp2_with (at_builtin; refine Knd.wp_app1 rfl _ _ _ rfl 3 Try.underlying27 (.int .i64 0) 8 infoInt rfl rfl ((hS.al _).own_ 2 rfl) _ _ _ _ _ (blkAt _ _ (by simp)) rfl (by (try simp [maxLen]); (try omega)) (by (try simp); (try omega)) ?_; rintro gq cq wq hO hB hg; have hSq := (hS.al _).app1 2 rfl hO hB hg; clear hO hB hg hS; have hS := hSq; clear hSq; have x9 := hS.cell 0 rfl)
        go_roundw
        case rel => exact ⟨pc + 1, _, _, by omega, by go_num, HQ2, by simp; omega, hS.drop⟩
        case measure => simp [intOf]; omega
      · have HQ2 := Lib.hid (show (acc ++ [x.a]) ++ [(pc : Int) + 1] ++ leadR (depthsL l y.code) (y.code.drop (pc + 1)) (pc + 1) = Q by have := HQ.out; rw [leadO_18 h0' hj h17] at this; simpa using this)
        have e17 : (x.op != 17) = true := by simp [h17]
        clear hj HQ h17
        go_wp2_with fail
        refine (isJumpI _ _ _ HJ.out).mono ?_
        rintro e w' ⟨rfl, hb⟩
        replace hS := hS1.step hb
        clear hb hS1 u0
        have x8 := hS.cell 0 rfl
        go_wp2_with (at_builtin; refine Knd.wp_app1 rfl _ _ _ rfl 3 Try.underlying27 (.int .i64 0) 8 infoInt rfl rfl ((hS.al _).own_ 2 rfl) _ _ _ _ _ (blkAt _ _ (by simp)) rfl (by (try simp [maxLen]); (try omega)) (by (try simp); (try omega)) ?_; rintro gq cq wq hO hB hg; have hSq := (hS.al _).app1 2 rfl hO hB hg; clear hO hB hg hS; have hS := hSq; clear hSq; have x9 := hS.cell 0 rfl)
        go_wp2_with (at_builtin; refine Knd.wp_app1 rfl _ _ _ rfl 3 Try.underlying27 (.int .i64 0) 8 infoInt rfl rfl ((hS.al _).own_ 2 rfl) _ _ _ _ _ (blkAt _ _ (by simp)) rfl (by (try simp [maxLen]); (try omega)) (by (try simp); (try omega)) ?_; rintro gq cq wq hO hB hg; have hSq := (hS.al _).app1 2 rfl hO hB hg; clear hO hB hg hS; have hS := hSq; clear hSq; have x10 := hS.cell 0 rfl)
        go_roundw
        case rel => exact ⟨pc + 1, _, _, by omega, by go_num, HQ2, by simp; omega, by have h9 := hS.drop; rw [List.length_append] at h9; exact h9⟩
        case measure => simp [intOf]; omega
    · obtain rfl : pc = y.code.length := by omega
      have eA : acc = Q := by have := hQ.out; rw [List.drop_length] at this; simpa [leadR] using this
      subst eA
      clear hQ HQ0
      obtain ⟨A3, c3, rfl, _, _⟩ := hS.row 1 rfl
      have hI := ints_own (hS.own_ 1 rfl)
      have C := ascI acc A3 c3 (by omega) _ hI
      clear hI
      go_wp2_with fail
      refine C.mono ?_
      intro e w3 hn
      obtain ⟨v, F3, rfl, hS3⟩ := hS.newRow hn
      clear hn
      go_wp2
      go_ret
      exact hS3.outRow 0 rfl
end Go.Proofs.Ytibfajlmecbhiaa.Dat

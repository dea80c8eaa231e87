/- Heads and entries in the program; entries in the reference. -/
import Derived.Test.YtibfajlmecbhiaaLead
import Derived.Laws.AppendOwnNone
namespace Go.Proofs.Ytibfajlmecbhiaa.Dat
open Go Go.RowKit Go.Proofs.Ytibfajlmecbhiaa.Mem
set_option linter.unusedVariables false
set_option linter.unusedSimpArgs false
theorem headO_lo {x : DIns} {pc : Nat} {h : Int} (hs : h < 0) : headO x pc h = [] := by unfold headO; rw [if_neg (by omega)]
theorem headO_no {x : DIns} {pc : Nat} {h : Int} (hs : isJmp x.op = false) : headO x pc h = [] := by unfold headO; rw [if_neg (by simp [hs])]
theorem headO_far {x : DIns} {pc : Nat} {h : Int} (hs : ¬ x.a ≤ pc) : headO x pc h = [] := by unfold headO; rw [if_neg (fun e => hs e.2.2)]
theorem headO_yes {x : DIns} {pc : Nat} {h : Int} (h0 : 0 ≤ h) (hj : isJmp x.op = true) (hle : x.a ≤ pc) : headO x pc h = [x.a] := by unfold headO; rw [if_pos ⟨h0, hj, hle⟩]
set_option maxHeartbeats 4000000 in
set_option maxRecDepth 100000 in
theorem headsI (A B : Option Addr) (c d : Nat) (t : List ByteArray) (l : List DFunc) (f : Nat) (y : DFunc) (w : World) (hr : kFunc.Row w B l.length l) (hgd : isGoodB t l = true) (hy : l[f]? = some y) :
    Calls Try.prog 32 #[.agg #[.slice A t.length c, .slice B l.length d], .int .i64 f] w (NewRow (Knd.int .i64) 3 (headsL l y.code) w) := by
  have hfit := modFit (isGood_mod hgd)
  have hm := hfit.n12
  have hym := List.mem_of_getElem? hy
  have n1 := hfit.c1 y hym
  have n120 := hfit.c120 y hym
  have hH := hfit.hgt hym
  obtain ⟨ad, A2, c2, rfl, _, _, q2', hq, hr2⟩ := kFunc_at hr f y hy
  have hfl : f < l.length := (List.getElem?_eq_some_iff.1 hy).1
  have HY := Lib.hid hy
  have hAsc := heads_asc (l := l) (c := y.code) (fun x hx => hfit.fit hym hx)
  obtain ⟨Q, hQ⟩ : ∃ Q, (headR (depthsL l y.code) y.code 0) = Q := ⟨_, rfl⟩
  have HQ0 : Hid (([] : List Int) ++ headR (depthsL l y.code) (y.code.drop 0) 0 = Q) := Lib.hid hQ
  rw [hQ] at hAsc
  rw [← hAsc]
  clear hy hAsc hQ
  have hS00 := (St.start w).made (.cells #[.slice A t.length c, .slice (some ad) l.length d] 31 (0, 0))
  have hS0 := hS00.litAt (enc := Value.int .i64) (h1 := fun _ => rfl) (e := 3) [] #[] rfl (w.heap.size + 1) (by simp) 0 rfl (by simp)
  clear hS00
  go_enter Try.func32, Try.ntmps32
  go_wp2_with fail
  refine (depthsI A (some ad) c d t l f y _ (hr.below hS0.bel) hfit HY.out).mono ?_
  intro e w2 hn
  obtain ⟨v, F, rfl, hS1⟩ := hS0.newRow hn
  obtain ⟨g, cg, hv', hgF⟩ := own_form (hS1.get 0 rfl) (by rw [hH.1]; omega)
  rw [hH.1] at hv'
  subst hv'
  have q2 := kept hS1.bel q2'
  have x0 := hS1.cell 2 rfl
  clear hn hS0
  go_wp2
  go_loopw [20, 5] (fun i o wr => ∃ (pc : Nat) (acc : List Int) (Fo : List Nat), pc ≤ y.code.length ∧ i = .int .i64 pc ∧ Hid (acc ++ headR (depthsL l y.code) (y.code.drop pc) pc = Q) ∧ acc.length ≤ pc ∧ St w [Res.own (Knd.int .i64) 3 (.slice (some ⟨g, 0, none⟩) y.code.length cg) (depthsL l y.code) F, Res.own (Knd.int .i64) 3 o acc Fo] wr) (fun i _ _ => y.code.length - (intOf i).toNat)
  case atStart => exact ⟨0, _, _, by omega, rfl, HQ0, by simp, (hS1.perm (List.Perm.trans (List.Perm.cons _ (List.Perm.swap _ _ _)) (List.Perm.swap _ _ _))).drop⟩
  case round =>
    clear hS1 q2 x0
    obtain ⟨pc, acc, Fo, hpc, rfl, hQ, hal, hS⟩ := hrel
    by_cases hlt : pc < y.code.length
    · obtain ⟨x, hx⟩ := get_exU y.code pc hlt
      have HQ : Hid (acc ++ (headO x pc (at0 (depthsL l y.code) pc) ++ headR (depthsL l y.code) (y.code.drop (pc + 1)) (pc + 1)) = Q) := Lib.hid (by
        obtain ⟨hk, e⟩ := List.getElem?_eq_some_iff.1 hx
        have := hQ.out
        rw [List.drop_eq_getElem_cons hk, e] at this
        exact this)
      obtain ⟨ad2, rfl, r0, r1⟩ := kIns_at (hr2.below hS.bel) pc x hx
      have hlen : pc < (depthsL l y.code).length := by rw [hH.1]; exact hlt
      have u0 := hS.cell1 0 rfl pc _ (at0_get hlen)
      obtain ⟨h, hh⟩ : ∃ h, at0 (depthsL l y.code) pc = h := ⟨_, rfl⟩
      rw [hh] at u0 HQ
      have gl : g < wr.heap.size := hS.lts 0 rfl g hgF
      have hacc : acc.length ≤ 1000 := by omega
      clear hx hQ hlen hh
      by_cases h0 : h < 0
      · have HQ2 := Lib.hid (show acc ++ headR (depthsL l y.code) (y.code.drop (pc + 1)) (pc + 1) = Q by have := HQ.out; rwa [headO_lo h0, List.nil_append] at this)
        go_wp2
        go_roundw
        case rel => exact ⟨pc + 1, acc, Fo, by omega, by go_num, HQ2, by omega, hS.al _⟩
        case measure => simp [intOf]; omega
      have h0' : 0 ≤ h := by omega
      have hS1 := hS.made (.cells #[.int .i64 x.op, .int .i64 x.a] 57 (0, 0))
      cases hj : isJmp x.op
      · have HQ2 := Lib.hid (show acc ++ headR (depthsL l y.code) (y.code.drop (pc + 1)) (pc + 1) = Q by have := HQ.out; rwa [headO_no hj, List.nil_append] at this)
        have HJ := Lib.hid hj
        clear hj
        go_wp2_with fail
        refine (isJumpI _ _ _ HJ.out).mono ?_
        rintro e w' ⟨rfl, hb⟩
        go_wp2
        go_roundw
        case rel => exact ⟨pc + 1, acc, Fo, by omega, by go_num, HQ2, by omega, (hS.al _).step hb⟩
        case measure => simp [intOf]; omega
      have HJ := Lib.hid hj
      by_cases hle : x.a ≤ pc
      · have HQ2 := Lib.hid (show (acc ++ [x.a]) ++ headR (depthsL l y.code) (y.code.drop (pc + 1)) (pc + 1) = Q by have := HQ.out; rwa [headO_yes h0' hj hle, ← List.append_assoc] at this)
        clear hj HQ
        go_wp2_with fail
        refine (isJumpI _ _ _ HJ.out).mono ?_
        rintro e w' ⟨rfl, hb⟩
        replace hS := hS1.step hb
        clear hb hS1 u0
        have x8 := hS.cell 0 rfl
        go_wp2_with (at_builtin; refine Knd.wp_app1 rfl _ _ _ rfl 3 Try.underlying27 (.int .i64 0) 8 infoInt rfl rfl ((hS.al _).own_ 2 rfl) _ _ _ _ _ (blkAt _ _ (by simp)) rfl (by (try simp [maxLen]); (try omega)) (by (try simp); (try omega)) ?_; rintro gq cq wq hO hB hg; have hSq := (hS.al _).app1 2 rfl hO hB hg; clear hO hB hg hS; have hS := hSq; clear hSq; have x9 := hS.cell 0 rfl)
        go_roundw
        case rel => exact ⟨pc + 1, _, _, by omega, by go_num, HQ2, by simp; omega, hS.drop⟩
        case measure => simp [intOf]; omega
      · have HQ2 := Lib.hid (show acc ++ headR (depthsL l y.code) (y.code.drop (pc + 1)) (pc + 1) = Q by have := HQ.out; rwa [headO_far hle, List.nil_append] at this)
        clear hj HQ
        go_wp2_with fail
        refine (isJumpI _ _ _ HJ.out).mono ?_
        rintro e w' ⟨rfl, hb⟩
        replace hS := hS1.step hb
        clear hb hS1 u0
        have x8 := hS.cell 0 rfl
        go_wp2
        go_roundw
        case rel => exact ⟨pc + 1, acc, Fo, by omega, by go_num, HQ2, by omega, hS.drop⟩
        case measure => simp [intOf]; omega
    · obtain rfl : pc = y.code.length := by omega
      have eA : acc = Q := by have := hQ.out; rw [List.drop_length] at this; simpa [headR] using this
      subst eA
      clear hQ HQ0
      obtain ⟨A3, c3, rfl, _, _⟩ := hS.row 1 rfl
      have hI := ints_own (hS.own_ 1 rfl)
      have C := ascI acc A3 c3 (by omega) _ hI
      clear hI
      go_wp2_with fail
      refine C.mono ?_
      intro e w3 hn
      obtain ⟨v, F3, rfl, hS3⟩ := hS.newRow hn
      clear hn
      go_wp2
      go_ret
      exact hS3.outRow 0 rfl
end Go.Proofs.Ytibfajlmecbhiaa.Dat

/- The reference's look at an exit. -/
import Derived.Test.YthinhlcfpaaldaaGreatM5
import Derived.Test.YthinhlcfpaaldaaGreatK6
import Derived.Deep.DeepCutAuto
namespace Go.Proofs.YthinhlcfpaaldaaGreat.Dat
open Go Go.RowKit Go.Proofs.YthinhlcfpaaldaaGreat.Mem
set_option linter.unusedVariables false
set_option linter.unusedSimpArgs false
theorem exSpec_eq {l : List DFunc} {s : DSpec} {fs : List DExFrame} {rs : List DExRec} : exSpecB l ⟨2, s, fs, rs⟩ = specB l s := rfl
theorem exSpec_ne {l : List DFunc} {k : Int} {s : DSpec} {fs : List DExFrame} {rs : List DExRec} (h : ¬ k = 2) : exSpecB l ⟨k, s, fs, rs⟩ = nilSpB s := if_neg h
set_option maxHeartbeats 16000000 in
set_option maxRecDepth 100000 in
theorem leave10 {w0 W : World} {L : List Res} (A B A4 A5 AF AR : Option Addr) (c0 d0 c4 c5 cf cr : Nat) (t : List ByteArray) (l : List DFunc) (c : DFast) (hS0 : St w0 L W) (i : Nat) {g : Nat} {b : Bool} (hi : L[i]? = some (kbox A B A4 A5 c0 d0 c4 c5 t l c g b)) (x : DExit) (h : HasMod A B t l w0) (hfit : ModFit t l) (r5 : kExFrame.Row w0 AF x.frames.length x.frames) (r6 : kExRec.Row w0 AR x.recs.length x.recs) (hms : msExit x ≤ 1048576) (h1 : 0 ≤ c.vals) (h2 : c.vals ≤ 400) (h3 : 0 ≤ c.nums) (h4 : c.nums ≤ 400) :
    Calls Tryz.prog 211 #[.pointer (some ⟨g, 0, none⟩), .agg #[.int .i64 x.kind, .int .i64 x.spec.fn, .int .i64 x.spec.pc, .int .i64 x.spec.kind, .int .i64 x.spec.target, .slice AF x.frames.length cf, .slice AR x.recs.length cr]] W fun e w' => e = .returned (.tuple #[]) ∧ St w0 (L.set i (kbox A B A4 A5 c0 d0 c4 c5 t l c g (b || !(exitB l c x)))) w' := by
  rw [exit3]
  have hl12 := hfit.n12
  have hME := MExit_of hms
  have hil : i < L.length := (List.getElem?_eq_some_iff.1 hi).1
  have e0 : L.set i (kbox A B A4 A5 c0 d0 c4 c5 t l c g b) = L := by
    obtain ⟨_, e⟩ := List.getElem?_eq_some_iff.1 hi
    rw [← e, List.set_getElem_self]
  obtain ⟨kind, ⟨sfn, spc, skind, starg⟩, frames, recs⟩ := x
  dsimp only at *
  have hml : recs.length ≤ 1048576 := hME.2.1
  have hS : St w0 (Res.box W.heap.size (.cells #[.int .i64 kind, .int .i64 sfn, .int .i64 spc, .int .i64 skind, .int .i64 starg, .slice AF frames.length cf, .slice AR recs.length cr] 168 (0, 0)) :: L.set i (kbox A B A4 A5 c0 d0 c4 c5 t l c g b)) (W.alloc (.cells #[.int .i64 kind, .int .i64 sfn, .int .i64 spc, .int .i64 skind, .int .i64 starg, .slice AF frames.length cf, .slice AR recs.length cr] 168 (0, 0))) := by
    rw [e0]
    exact hS0.made _
  clear e0
  obtain ⟨x_k, f_k, z_k⟩ := kfactsX hil hS
  have x_o := hS.cell 0 rfl
  go_enter Tryz.func211, Tryz.ntmps211
  go_upto_if 16 with (first | (go_at_call 121; (with_reducible refine (between (r := btw kind 1 4) _ rfl).mono ?_); rintro e w' ⟨rfl, rfl⟩) | (go_at_call 280; (with_reducible refine (needX hil hS _).mono ?_); rintro e w9 ⟨rfl, hS9⟩; replace hS := hS9; clear hS9 x_k f_k z_k x_o; obtain ⟨x_k, f_k, z_k⟩ := kfactsX hil hS; have x_o := hS.cell 0 rfl))
  go_cut [] (fun wx => St w0 (Res.box W.heap.size (.cells #[.int .i64 kind, .int .i64 sfn, .int .i64 spc, .int .i64 skind, .int .i64 starg, .slice AF frames.length cf, .slice AR recs.length cr] 168 (0, 0)) :: L.set i (kbox A B A4 A5 c0 d0 c4 c5 t l c g ((b || !(btw kind 1 4)) || !(exSpecB l ⟨kind, ⟨sfn, spc, skind, starg⟩, frames, recs⟩)))) wx)
  case first =>
    by_cases k2 : kind = 2
    · subst k2
      clear x_k f_k z_k x_o
      go_wp2
      have hSd := hS.drew
      refine wp_region_held_drew (S := (fun w' => w'.cell? ⟨g, 0, none⟩ = some (.slice A t.length c0) ∧ w'.cell? ⟨g, 1, none⟩ = some (.slice B l.length d0) ∧ w'.cell? ⟨W.heap.size, 1, none⟩ = some (.int .i64 sfn) ∧ w'.cell? ⟨W.heap.size, 2, none⟩ = some (.int .i64 spc) ∧ w'.cell? ⟨W.heap.size, 3, none⟩ = some (.int .i64 skind) ∧ w'.cell? ⟨W.heap.size, 4, none⟩ = some (.int .i64 starg))) (by kernel_rfl) (⟨(kfactsX hil hSd).1 0, (kfactsX hil hSd).1 1, hSd.cell 0 rfl 1, hSd.cell 0 rfl 2, hSd.cell 0 rfl 3, hSd.cell 0 rfl 4⟩) (fun hHeld => ?_)
      (iterate 7 (first | refine rQ1 ?_ | refine rQ2 ?_); try simp only [pP])
      refine regC 7 rfl (by kernel_rfl) (by rfl) (fun Kq hKq => ?_)
      go_simp
      (with_reducible refine (spec9 A B c0 d0 t l ⟨sfn, spc, skind, starg⟩ _ (h.below hSd.bel) rfl).mono ?_)
      rintro e w2 ⟨rfl, hb2⟩; have hS2 := hSd.step hb2
      try go_wp2_with fail
      refine hKq.out _ _ (⟨(kfactsX hil hS2).1 0, (kfactsX hil hS2).1 1, hS2.cell 0 rfl 1, hS2.cell 0 rfl 2, hS2.cell 0 rfl 3, hS2.cell 0 rfl 4⟩) (fun hHeld => ?_)
      clear hKq Kq
      (try simp only [pP])
      refine regC 8 rfl (by kernel_rfl) (by rfl) (fun Kq hKq => ?_)
      go_simp
      (with_reducible refine (needX hil hS2 _).mono ?_)
      rintro e w3 ⟨rfl, hS3⟩
      try go_wp2_with fail
      refine hKq.out _ _ (⟨(kfactsX hil hS3).1 0, (kfactsX hil hS3).1 1, hS3.cell 0 rfl 1, hS3.cell 0 rfl 2, hS3.cell 0 rfl 3, hS3.cell 0 rfl 4⟩) (fun hHeld => ?_)
      clear hKq Kq
      (try simp only [pP])
      refine wpAnyH_done (by kernel_rfl) ?_ _
      clear hHeld
      go_wp2_with fail
      go_meet
      exact finP [Res.box W.heap.size (.cells #[.int .i64 2, .int .i64 sfn, .int .i64 spc, .int .i64 skind, .int .i64 starg, .slice AF frames.length cf, .slice AR recs.length cr] 168 (0, 0))] hS3 (by rw [exSpec_eq])
    have k3 : (kind == 2) = false := by simp [k2]
    have ES : ∀ s : DSpec, exSpecB l ⟨kind, s, frames, recs⟩ = nilSpB s := fun s => exSpec_ne k2
    clear k2
    by_cases z0 : sfn = 0
    rotate_left
    · have m0 : (sfn == 0) = false := by simp [z0]
      have HE := Lib.hid (show exSpecB l ⟨kind, ⟨sfn, spc, skind, starg⟩, frames, recs⟩ = false by rw [ES]; simp [nilSpB, z0])
      clear z0 ES
      go_wp2_with (go_at_call 280; (with_reducible refine (needX hil hS _).mono ?_); rintro e w9 ⟨rfl, hS9⟩; replace hS := hS9; clear hS9 x_k f_k z_k x_o; obtain ⟨x_k, f_k, z_k⟩ := kfactsX hil hS; have x_o := hS.cell 0 rfl)
      go_meet
      exact finP [Res.box W.heap.size (.cells #[.int .i64 kind, .int .i64 sfn, .int .i64 spc, .int .i64 skind, .int .i64 starg, .slice AF frames.length cf, .slice AR recs.length cr] 168 (0, 0))] hS (by rw [HE.out])
    subst z0
    by_cases z1 : spc = 0
    rotate_left
    · have m0 : (spc == 0) = false := by simp [z1]
      have HE := Lib.hid (show exSpecB l ⟨kind, ⟨0, spc, skind, starg⟩, frames, recs⟩ = false by rw [ES]; simp [nilSpB, z1])
      clear z1 ES
      go_wp2_with (go_at_call 280; (with_reducible refine (needX hil hS _).mono ?_); rintro e w9 ⟨rfl, hS9⟩; replace hS := hS9; clear hS9 x_k f_k z_k x_o; obtain ⟨x_k, f_k, z_k⟩ := kfactsX hil hS; have x_o := hS.cell 0 rfl)
      go_meet
      exact finP [Res.box W.heap.size (.cells #[.int .i64 kind, .int .i64 0, .int .i64 spc, .int .i64 skind, .int .i64 starg, .slice AF frames.length cf, .slice AR recs.length cr] 168 (0, 0))] hS (by rw [HE.out])
    subst z1
    by_cases z2 : skind = 0
    rotate_left
    · have m0 : (skind == 0) = false := by simp [z2]
      have HE := Lib.hid (show exSpecB l ⟨kind, ⟨0, 0, skind, starg⟩, frames, recs⟩ = false by rw [ES]; simp [nilSpB, z2])
      clear z2 ES
      go_wp2_with (go_at_call 280; (with_reducible refine (needX hil hS _).mono ?_); rintro e w9 ⟨rfl, hS9⟩; replace hS := hS9; clear hS9 x_k f_k z_k x_o; obtain ⟨x_k, f_k, z_k⟩ := kfactsX hil hS; have x_o := hS.cell 0 rfl)
      go_meet
      exact finP [Res.box W.heap.size (.cells #[.int .i64 kind, .int .i64 0, .int .i64 0, .int .i64 skind, .int .i64 starg, .slice AF frames.length cf, .slice AR recs.length cr] 168 (0, 0))] hS (by rw [HE.out])
    subst z2
    by_cases z3 : starg = 0
    rotate_left
    · have m0 : (starg == 0) = false := by simp [z3]
      have HE := Lib.hid (show exSpecB l ⟨kind, ⟨0, 0, 0, starg⟩, frames, recs⟩ = false by rw [ES]; simp [nilSpB, z3])
      clear z3 ES
      go_wp2_with (go_at_call 280; (with_reducible refine (needX hil hS _).mono ?_); rintro e w9 ⟨rfl, hS9⟩; replace hS := hS9; clear hS9 x_k f_k z_k x_o; obtain ⟨x_k, f_k, z_k⟩ := kfactsX hil hS; have x_o := hS.cell 0 rfl)
      go_meet
      exact finP [Res.box W.heap.size (.cells #[.int .i64 kind, .int .i64 0, .int .i64 0, .int .i64 0, .int .i64 starg, .slice AF frames.length cf, .slice AR recs.length cr] 168 (0, 0))] hS (by rw [HE.out])
    subst z3
    have HE := Lib.hid (show exSpecB l ⟨kind, ⟨0, 0, 0, 0⟩, frames, recs⟩ = true by rw [ES]; rfl)
    clear ES
    go_wp2_with (go_at_call 280; (with_reducible refine (needX hil hS _).mono ?_); rintro e w9 ⟨rfl, hS9⟩; replace hS := hS9; clear hS9 x_k f_k z_k x_o; obtain ⟨x_k, f_k, z_k⟩ := kfactsX hil hS; have x_o := hS.cell 0 rfl)
    go_meet
    exact finP [Res.box W.heap.size (.cells #[.int .i64 kind, .int .i64 0, .int .i64 0, .int .i64 0, .int .i64 0, .slice AF frames.length cf, .slice AR recs.length cr] 168 (0, 0))] hS (by rw [HE.out])
  case rest =>
    clear hS x_k f_k z_k x_o
    have hS := hcut
    clear hcut
    obtain ⟨b1, hb1⟩ : ∃ b1, ((b || !(btw kind 1 4)) || !(exSpecB l ⟨kind, ⟨sfn, spc, skind, starg⟩, frames, recs⟩)) = b1 := ⟨_, rfl⟩
    rw [hb1] at hS
    have HB1 := Lib.hid hb1
    clear hb1
    have x_o := hS.cell 0 rfl
    go_wp2
    have hSd := hS.drew
    cases hn : btw (frames.length : Int) 1 4
    · have E := Lib.hid (show exit3B l c ⟨kind, ⟨sfn, spc, skind, starg⟩, frames, recs⟩ = false by unfold exit3B exHeadB; rw [hn]; simp)
      have HN := Lib.hid hn
      have HS := Lib.hid (badX hil hSd)
      clear hn x_o
      refine wp_region_held_drew (S := (fun w' => w'.cell? ⟨W.heap.size, 5, none⟩ = some (.slice AF frames.length cf) ∧ w'.cell? ⟨W.heap.size, 6, none⟩ = some (.slice AR recs.length cr) ∧ w'.cell? ⟨g, 2, none⟩ = some (.int .i64 c.fn))) (by kernel_rfl) (⟨hSd.cell 0 rfl 5, hSd.cell 0 rfl 6, (kfactsX hil hSd).1 2⟩) (fun hHeld => ?_)
      (first | refine rQ1 ?_ | refine rQ2 ?_); (try simp only [pP])
      refine regC 1 rfl (by kernel_rfl) (by rfl) (fun Kq hKq => ?_)
      go_simp
      (with_reducible refine (between _ HN.out).mono ?_)
      rintro e w3 ⟨rfl, rfl⟩
      try go_wp2_with fail
      refine hKq.out _ _ (hHeld) (fun hHeld => ?_)
      clear hKq Kq
      (try simp only [pP])
      (iterate 2 (first | refine rQ1 ?_ | refine rQ2 ?_); try simp only [pP])
      refine regS (fun _ _ _ d h => by cases d <;> exact h) [4, 5, 6, 7] _ _ _ rfl (by kernel_rfl) (by assumption) ?_
      simp only [skipL, List.getElem?_cons_zero, List.getElem?_cons_succ, Option.bind_some, pP]
      (iterate 2 (first | refine rQ1 ?_ | refine rQ2 ?_); try simp only [pP])
      refine regS (fun _ _ _ d h => by cases d <;> exact h) [10, 11, 12, 13, 14, 15, 16, 17, 18, 19, 20] _ _ _ rfl (by kernel_rfl) (by assumption) ?_
      simp only [skipL, List.getElem?_cons_zero, List.getElem?_cons_succ, Option.bind_some, pP]
      (first | refine rQ1 ?_ | refine rQ2 ?_); (try simp only [pP])
      refine wpAnyH_done (by kernel_rfl) ?_ _
      clear hHeld
      obtain ⟨x_k, f_k, z_k⟩ := kfactsX hil hSd
      go_wp2
      refine bodyPost_ret (results_none rfl _ _ _) rfl ?_
      refine ⟨rfl, ?_⟩
      rw [E.out, Bool.not_false, Bool.or_true]
      exact HS.out
    have HN := Lib.hid hn
    have hn3 := btw_true.1 hn
    obtain ⟨y, hy⟩ := get_exU frames 0 (by omega)
    obtain ⟨ad, _, _, _, _, rfl, q0, _⟩ := kExFrame_at r5 0 y hy
    rw [Nat.zero_mul, show ad.add 0 = ad from by cases ad; rfl] at q0
    have n0 : 0 < frames.length := by omega
    by_cases h60 : recs.length ≤ 60
    rotate_left
    · have E := Lib.hid (show exit3B l c ⟨kind, ⟨sfn, spc, skind, starg⟩, frames, recs⟩ = false by unfold exit3B exHeadB; simp [h60])
      have h6a : ((60 : Int) < (recs.length : Int)) = True := eq_true (by omega)
      have h6b : (60 < recs.length) = True := eq_true (by omega)
      have HS := Lib.hid (badX hil hSd)
      clear hn h60 x_o hn3
      refine wp_region_held_drew (S := (fun w' => w'.cell? ⟨W.heap.size, 5, none⟩ = some (.slice (some ad) frames.length cf) ∧ w'.cell? ⟨W.heap.size, 6, none⟩ = some (.slice AR recs.length cr) ∧ w'.cell? ⟨g, 2, none⟩ = some (.int .i64 c.fn))) (by kernel_rfl) (⟨hSd.cell 0 rfl 5, hSd.cell 0 rfl 6, (kfactsX hil hSd).1 2⟩) (fun hHeld => ?_)
      (first | refine rQ1 ?_ | refine rQ2 ?_); (try simp only [pP])
      refine regC 1 rfl (by kernel_rfl) (by rfl) (fun Kq hKq => ?_)
      go_simp
      (with_reducible refine (between _ HN.out).mono ?_)
      rintro e w3 ⟨rfl, rfl⟩
      try go_wp2_with fail
      refine hKq.out _ _ (hHeld) (fun hHeld => ?_)
      clear hKq Kq
      (try simp only [pP])
      (iterate 8 (first | refine rQ1 ?_ | refine rQ2 ?_); try simp only [pP])
      refine regS (fun _ _ _ d h => by cases d <;> exact h) [10, 11, 12, 13, 14, 15, 16, 17, 18, 19, 20] _ _ _ rfl (by kernel_rfl) (by assumption) ?_
      simp only [skipL, List.getElem?_cons_zero, List.getElem?_cons_succ, Option.bind_some, pP]
      (first | refine rQ1 ?_ | refine rQ2 ?_); (try simp only [pP])
      refine wpAnyH_done (by kernel_rfl) ?_ _
      clear hHeld
      obtain ⟨x_k, f_k, z_k⟩ := kfactsX hil hSd
      go_wp2
      refine bodyPost_ret (results_none rfl _ _ _) rfl ?_
      refine ⟨rfl, ?_⟩
      rw [E.out, Bool.not_false, Bool.or_true]
      exact HS.out
    have h6a : ((60 : Int) < (recs.length : Int)) = False := eq_false (by omega)
    have h6b : (60 < recs.length) = False := eq_false (by omega)
    by_cases hc : y.fn = c.fn
    rotate_left
    · have E := Lib.hid (show exit3B l c ⟨kind, ⟨sfn, spc, skind, starg⟩, frames, recs⟩ = false by unfold exit3B exHeadB; rw [hy]; simp [hc])
      have hc2 : (y.fn != c.fn) = true := by simp [hc]
      have HS := Lib.hid (badX hil hSd)
      clear hn x_o hn3 hc hy
      refine wp_region_held_drew (S := (fun w' => w'.cell? ⟨W.heap.size, 5, none⟩ = some (.slice (some ad) frames.length cf) ∧ w'.cell? ⟨W.heap.size, 6, none⟩ = some (.slice AR recs.length cr) ∧ w'.cell? ⟨g, 2, none⟩ = some (.int .i64 c.fn) ∧ w'.cell? ad = some (.int .i64 y.fn))) (by kernel_rfl) (⟨hSd.cell 0 rfl 5, hSd.cell 0 rfl 6, (kfactsX hil hSd).1 2, kept hSd.bel q0⟩) (fun hHeld => ?_)
      (first | refine rQ1 ?_ | refine rQ2 ?_); (try simp only [pP])
      refine regC 1 rfl (by kernel_rfl) (by rfl) (fun Kq hKq => ?_)
      go_simp
      (with_reducible refine (between _ HN.out).mono ?_)
      rintro e w3 ⟨rfl, rfl⟩
      try go_wp2_with fail
      refine hKq.out _ _ (hHeld) (fun hHeld => ?_)
      clear hKq Kq
      (try simp only [pP])
      (iterate 20 (first | refine rQ1 ?_ | refine rQ2 ?_); try simp only [pP])
      refine wpAnyH_done (by kernel_rfl) ?_ _
      clear hHeld
      obtain ⟨x_k, f_k, z_k⟩ := kfactsX hil hSd
      go_wp2
      refine bodyPost_ret (results_none rfl _ _ _) rfl ?_
      refine ⟨rfl, ?_⟩
      rw [E.out, Bool.not_false, Bool.or_true]
      exact HS.out
    have hc2 : (y.fn != c.fn) = false := by simp [hc]
    have HD0 := Lib.hid (show exHeadB c ⟨kind, ⟨sfn, spc, skind, starg⟩, frames, recs⟩ = btw kind 1 4 by unfold exHeadB; rw [hn, hy]; simp [hc, h60])
    clear hn x_o hc hy
    refine wp_region_held_drew (S := (fun w' => w'.cell? ⟨W.heap.size, 5, none⟩ = some (.slice (some ad) frames.length cf) ∧ w'.cell? ⟨W.heap.size, 6, none⟩ = some (.slice AR recs.length cr) ∧ w'.cell? ⟨g, 2, none⟩ = some (.int .i64 c.fn) ∧ w'.cell? ad = some (.int .i64 y.fn))) (by kernel_rfl) (⟨hSd.cell 0 rfl 5, hSd.cell 0 rfl 6, (kfactsX hil hSd).1 2, kept hSd.bel q0⟩) (fun hHeld => ?_)
    (first | refine rQ1 ?_ | refine rQ2 ?_); (try simp only [pP])
    refine regC 1 rfl (by kernel_rfl) (by rfl) (fun Kq hKq => ?_)
    go_simp
    (with_reducible refine (between _ HN.out).mono ?_)
    rintro e w3 ⟨rfl, rfl⟩
    try go_wp2_with fail
    refine hKq.out _ _ (hHeld) (fun hHeld => ?_)
    clear hKq Kq
    (try simp only [pP])
    (iterate 20 (first | refine rQ1 ?_ | refine rQ2 ?_); try simp only [pP])
    refine wpAnyH_done (by kernel_rfl) ?_ _
    clear hHeld hc2 hS q0 h6a h6b
    go_wp2
    go_loopw [5] (fun v wr => ∃ k : Nat, k ≤ frames.length ∧ v = .int .i64 k ∧ St w0 (Res.box W.heap.size (.cells #[.int .i64 kind, .int .i64 sfn, .int .i64 spc, .int .i64 skind, .int .i64 starg, .slice (some ad) frames.length cf, .slice AR recs.length cr] 168 (0, 0)) :: L.set i (kbox A B A4 A5 c0 d0 c4 c5 t l c g (b1 || !((List.range k).all (exFr3 l c recs.length frames))))) wr) (fun v _ => frames.length - (intOf v).toNat)
    case atStart => exact ⟨0, by omega, rfl, finP [Res.box W.heap.size (.cells #[.int .i64 kind, .int .i64 sfn, .int .i64 spc, .int .i64 skind, .int .i64 starg, .slice (some ad) frames.length cf, .slice AR recs.length cr] 168 (0, 0))] hSd (by simp)⟩
    case round =>
      clear hSd
      obtain ⟨k, hk, rfl, hS⟩ := hrel
      by_cases hlt : k < frames.length
      · obtain ⟨z, hz⟩ := get_exU frames k hlt
        obtain ⟨ad9, A2, A3, c2, c3, had, q0, q1, q2, q3, _, rr2, _, rr3⟩ := kExFrame_at r5 k z hz
        obtain rfl := Option.some.inj had
        have p0 := kept hS.bel q0
        have p1 := kept hS.bel q1
        have p2 := kept hS.bel q2
        have p3 := kept hS.bel q3
        have hMz := hME.1.2 z (List.mem_of_getElem? hz)
        have hz2 : z.locals.length ≤ 1048576 := hMz.1.1
        have hz3 : z.stack.length ≤ 1048576 := hMz.2.1
        have hv2 : ∀ s ∈ z.locals, s.v.s.size ≤ maxLen := fun s hs => Nat.le_trans (hMz.1.2 s hs) (by unfold maxLen; omega)
        have hv3 : ∀ s ∈ z.stack, s.v.s.size ≤ maxLen := fun s hs => Nat.le_trans (hMz.2.2 s hs) (by unfold maxLen; omega)
        obtain ⟨b2, hb2⟩ : ∃ b2, (b1 || !((List.range k).all (exFr3 l c recs.length frames))) = b2 := ⟨_, rfl⟩
        rw [hb2] at hS
        have HB2 := Lib.hid hb2
        have HZ := Lib.hid (exFr3_of (l := l) (c := c) (nr := recs.length) hz)
        obtain ⟨g8, hg8⟩ : ∃ g8, wr.heap.size = g8 := ⟨_, rfl⟩
        have hT := hS.madeAt (.cells #[.int .i64 z.fn, .int .i64 z.pc, .slice A2 z.locals.length c2, .slice A3 z.stack.length c3] 171 (0, 0)) g8 hg8
        obtain ⟨x_k, f_k, z_k⟩ := kfactsX hil hS
        have x_o := hS.cell 0 rfl
        clear q0 q1 q2 q3 hz hb2 hMz
        go_upto_region 12 with fail
        clear x_k f_k z_k x_o p0 p1 p2 p3 hS
        obtain ⟨x_k, f_k, z_k⟩ := kfactsP [Res.box g8 (.cells #[.int .i64 z.fn, .int .i64 z.pc, .slice A2 z.locals.length c2, .slice A3 z.stack.length c3] 171 (0, 0)), Res.box W.heap.size (.cells #[.int .i64 kind, .int .i64 sfn, .int .i64 spc, .int .i64 skind, .int .i64 starg, .slice (some ad) frames.length cf, .slice AR recs.length cr] 168 (0, 0))] A B A4 A5 c0 d0 c4 c5 t l c hil hT
        have x_o := hT.cell 1 rfl
        have x_f := hT.cell 0 rfl
        go_wp2_with fail
        refine (srcsP [Res.box g8 (.cells #[.int .i64 z.fn, .int .i64 z.pc, .slice A2 z.locals.length c2, .slice A3 z.stack.length c3] 171 (0, 0)), Res.box W.heap.size (.cells #[.int .i64 kind, .int .i64 sfn, .int .i64 spc, .int .i64 skind, .int .i64 starg, .slice (some ad) frames.length cf, .slice AR recs.length cr] 168 (0, 0))] A B A4 A5 c0 d0 c4 c5 t l c hil hT A2 c2 z.locals recs.length rr2 hv2 (by omega) hl12 h1 h2 h3 h4).mono ?_
        rintro e w5 ⟨rfl, hT2⟩
        clear x_k f_k z_k x_o x_f hT
        obtain ⟨x_k, f_k, z_k⟩ := kfactsP [Res.box g8 (.cells #[.int .i64 z.fn, .int .i64 z.pc, .slice A2 z.locals.length c2, .slice A3 z.stack.length c3] 171 (0, 0)), Res.box W.heap.size (.cells #[.int .i64 kind, .int .i64 sfn, .int .i64 spc, .int .i64 skind, .int .i64 starg, .slice (some ad) frames.length cf, .slice AR recs.length cr] 168 (0, 0))] A B A4 A5 c0 d0 c4 c5 t l c hil hT2
        have x_o := hT2.cell 1 rfl
        have x_f := hT2.cell 0 rfl
        go_wp2_with fail
        refine (srcsP [Res.box g8 (.cells #[.int .i64 z.fn, .int .i64 z.pc, .slice A2 z.locals.length c2, .slice A3 z.stack.length c3] 171 (0, 0)), Res.box W.heap.size (.cells #[.int .i64 kind, .int .i64 sfn, .int .i64 spc, .int .i64 skind, .int .i64 starg, .slice (some ad) frames.length cf, .slice AR recs.length cr] 168 (0, 0))] A B A4 A5 c0 d0 c4 c5 t l c hil hT2 A3 c3 z.stack recs.length rr3 hv3 (by omega) hl12 h1 h2 h3 h4).mono ?_
        rintro e w6 ⟨rfl, hT⟩
        clear x_k f_k z_k x_o x_f hT2
        obtain ⟨b3, hb3⟩ : ∃ b3, ((b2 || !(srcsB l c recs.length z.locals)) || !(srcsB l c recs.length z.stack)) = b3 := ⟨_, rfl⟩
        replace hT := finP [Res.box g8 (.cells #[.int .i64 z.fn, .int .i64 z.pc, .slice A2 z.locals.length c2, .slice A3 z.stack.length c3] 171 (0, 0)), Res.box W.heap.size (.cells #[.int .i64 kind, .int .i64 sfn, .int .i64 spc, .int .i64 skind, .int .i64 starg, .slice (some ad) frames.length cf, .slice AR recs.length cr] 168 (0, 0))] hT hb3
        have HB3 := Lib.hid hb3
        clear hb3 hg8
        go_upto_region 14 with fail
        go_cut [7] (fun s7 wx => ∃ (g7 ga gb : Nat), s7 = .pointer (some ⟨g7, 0, none⟩) ∧ St w0 (Res.box g7 (.cells #[.int .i64 z.fn, .int .i64 z.pc, .slice (some ⟨ga, 0, none⟩) z.locals.length z.locals.length, .slice (some ⟨gb, 0, none⟩) z.stack.length z.stack.length] 145 (0, 0)) :: Res.own kValue 65 (.slice (some ⟨ga, 0, none⟩) z.locals.length z.locals.length) (List.replicate z.locals.length zValue) [ga] :: Res.own kValue 65 (.slice (some ⟨gb, 0, none⟩) z.stack.length z.stack.length) (List.replicate z.stack.length zValue) [gb] :: Res.box g8 (.cells #[.int .i64 z.fn, .int .i64 z.pc, .slice A2 z.locals.length c2, .slice A3 z.stack.length c3] 171 (0, 0)) :: Res.box W.heap.size (.cells #[.int .i64 kind, .int .i64 sfn, .int .i64 spc, .int .i64 skind, .int .i64 starg, .slice (some ad) frames.length cf, .slice AR recs.length cr] 168 (0, 0)) :: L.set i (kbox A B A4 A5 c0 d0 c4 c5 t l c g b3)) wx)
        case first =>
          replace hT := hT.drew
          refine wp_region_held_drew (S := (fun w' => w'.cell? ⟨g8, 0, none⟩ = some (.int .i64 z.fn) ∧ w'.cell? ⟨g8, 1, none⟩ = some (.int .i64 z.pc) ∧ w'.cell? ⟨g8, 2, none⟩ = some (.slice A2 z.locals.length c2) ∧ w'.cell? ⟨g8, 3, none⟩ = some (.slice A3 z.stack.length c3))) (by kernel_rfl) (⟨hT.cell 0 rfl 0, hT.cell 0 rfl 1, hT.cell 0 rfl 2, hT.cell 0 rfl 3⟩) (fun hHeld => ?_)
          (iterate 7 (first | refine rQ1 ?_ | refine rQ2 ?_); try simp only [pP]); (first | refine rW 8 ?_ | refine rV 8 ?_); (try simp only [pP]); (first | refine rW 9 ?_ | refine rV 9 ?_); (try simp only [pP]); (first | refine rW 10 ?_ | refine rV 10 ?_); (try simp only [pP])
          refine regC3 7 11 13 rfl rfl rfl (by kernel_rfl) (by rfl) (by rfl) (by rfl) (fun Kq hKq => ?_) (fun Kq hKq => ?_) (fun Kq hKq => ?_)
          · refine Knd.opMade kValue _ _ _ rfl z.locals.length rfl rfl 65 Tryz.underlying143 (.agg #[.int .i64 0, .int .i64 0, .string (⟨#[]⟩ : ByteArray)]) 32 infoValue rfl (by decide) (by omega) zValue zValue_O (by omega) ?_
            rintro ga w27 hg7 ho hb
            replace hT := hT.madeK ho hg7 hb
            clear ho hb hg7
            refine hKq.out _ _ ⟨hT.cell 1 rfl 0, hT.cell 1 rfl 1, hT.cell 1 rfl 2, hT.cell 1 rfl 3⟩ (fun hHeld => ?_)
            clear hKq Kq
            try simp only [Act.put, List.setIfInBounds_toArray, List.set_cons_zero, List.set_cons_succ]
            refine regC2 11 13 rfl rfl (by kernel_rfl) (by rfl) (by rfl) (fun Kq hKq => ?_) (fun Kq hKq => ?_)
            · refine Knd.opMade kValue _ _ _ rfl z.stack.length rfl rfl 65 Tryz.underlying143 (.agg #[.int .i64 0, .int .i64 0, .string (⟨#[]⟩ : ByteArray)]) 32 infoValue rfl (by decide) (by omega) zValue zValue_O (by omega) ?_
              rintro gb w31 hg11 ho hb
              replace hT := hT.madeK ho hg11 hb
              clear ho hb hg11
              refine hKq.out _ _ ⟨hT.cell 2 rfl 0, hT.cell 2 rfl 1, hT.cell 2 rfl 2, hT.cell 2 rfl 3⟩ (fun hHeld => ?_)
              clear hKq Kq
              try simp only [Act.put, List.setIfInBounds_toArray, List.set_cons_zero, List.set_cons_succ]
              (first | refine rW 12 ?_ | refine rV 12 ?_); (try simp only [pP])
              refine regC 13 rfl (by kernel_rfl) (by rfl) (fun Kq hKq => ?_)
              go_simp
              have hT0 := hT
              replace hT := hT.made (.cells #[.int .i64 0, .int .i64 0, .slice none 0 0, .slice none 0 0] 145 (0, 0))
              refine hKq.out _ _ ⟨hT.cell 3 rfl 0, hT.cell 3 rfl 1, hT.cell 3 rfl 2, hT.cell 3 rfl 3⟩ (fun hHeld => ?_)
              clear hKq Kq
              try simp only [Act.put, List.setIfInBounds_toArray, List.set_cons_zero, List.set_cons_succ]
              have xz := hT.cell 0 rfl
              have fz := hT.free 0 rfl
              have zz := hT.blt 0 rfl
              refine regC 14 rfl (by kernel_rfl) (by rfl) (fun Kq hKq => ?_)
              go_simp
              replace hT := hT0.made (.cells #[.int .i64 z.fn, .int .i64 z.pc, .slice (some ⟨ga, 0, none⟩) z.locals.length z.locals.length, .slice (some ⟨gb, 0, none⟩) z.stack.length z.stack.length] 145 (0, 0))
              refine hKq.out _ _ ⟨hT.cell 3 rfl 0, hT.cell 3 rfl 1, hT.cell 3 rfl 2, hT.cell 3 rfl 3⟩ (fun hHeld => ?_)
              clear hKq Kq hHeld xz fz zz hT0
              refine wpAnyH_done (by kernel_rfl) ?_ _
              go_wp2_with fail
              go_meet
              exact ⟨_, ga, gb, rfl, hT.perm ((List.Perm.swap _ _ _).cons _)⟩
            · go_simp
              have hT0 := hT
              replace hT := hT.made (.cells #[.int .i64 0, .int .i64 0, .slice none 0 0, .slice none 0 0] 145 (0, 0))
              refine hKq.out _ _ ⟨hT.cell 2 rfl 0, hT.cell 2 rfl 1, hT.cell 2 rfl 2, hT.cell 2 rfl 3⟩ (fun hHeld => ?_)
              clear hKq Kq
              try simp only [Act.put, List.setIfInBounds_toArray, List.set_cons_zero, List.set_cons_succ]
              refine regC 11 rfl (by kernel_rfl) (by rfl) (fun Kq hKq => ?_)
              refine Knd.opMade kValue _ _ _ rfl z.stack.length rfl rfl 65 Tryz.underlying143 (.agg #[.int .i64 0, .int .i64 0, .string (⟨#[]⟩ : ByteArray)]) 32 infoValue rfl (by decide) (by omega) zValue zValue_O (by omega) ?_
              rintro gb w31 hg11 ho hb
              replace hT := hT.madeK ho hg11 hb
              clear ho hb hg11
              refine hKq.out _ _ ⟨hT.cell 3 rfl 0, hT.cell 3 rfl 1, hT.cell 3 rfl 2, hT.cell 3 rfl 3⟩ (fun hHeld => ?_)
              clear hKq Kq
              try simp only [Act.put, List.setIfInBounds_toArray, List.set_cons_zero, List.set_cons_succ]
              (first | refine rW 12 ?_ | refine rV 12 ?_); (try simp only [pP])
              have xz := hT.cell 1 rfl
              have fz := hT.free 1 rfl
              have zz := hT.blt 1 rfl
              refine regC 14 rfl (by kernel_rfl) (by rfl) (fun Kq hKq => ?_)
              go_simp
              replace hT := (((hT.set 1 rfl 0 (.int .i64 z.fn)).set 1 rfl 1 (.int .i64 z.pc)).set 1 rfl 2 (.slice (some ⟨ga, 0, none⟩) z.locals.length z.locals.length)).set 1 rfl 3 (.slice (some ⟨gb, 0, none⟩) z.stack.length z.stack.length)
              refine hKq.out _ _ ⟨hT.cell 3 rfl 0, hT.cell 3 rfl 1, hT.cell 3 rfl 2, hT.cell 3 rfl 3⟩ (fun hHeld => ?_)
              clear hKq Kq hHeld xz fz zz hT0
              refine wpAnyH_done (by kernel_rfl) ?_ _
              go_wp2_with fail
              go_meet
              exact ⟨_, ga, gb, rfl, hT.perm ((List.Perm.swap _ _ _).trans ((List.Perm.swap _ _ _).cons _))⟩
          · refine Knd.opMade kValue _ _ _ rfl z.stack.length rfl rfl 65 Tryz.underlying143 (.agg #[.int .i64 0, .int .i64 0, .string (⟨#[]⟩ : ByteArray)]) 32 infoValue rfl (by decide) (by omega) zValue zValue_O (by omega) ?_
            rintro gb w31 hg11 ho hb
            replace hT := hT.madeK ho hg11 hb
            clear ho hb hg11
            refine hKq.out _ _ ⟨hT.cell 1 rfl 0, hT.cell 1 rfl 1, hT.cell 1 rfl 2, hT.cell 1 rfl 3⟩ (fun hHeld => ?_)
            clear hKq Kq
            try simp only [Act.put, List.setIfInBounds_toArray, List.set_cons_zero, List.set_cons_succ]
            refine regC2 7 13 rfl rfl (by kernel_rfl) (by rfl) (by rfl) (fun Kq hKq => ?_) (fun Kq hKq => ?_)
            · refine Knd.opMade kValue _ _ _ rfl z.locals.length rfl rfl 65 Tryz.underlying143 (.agg #[.int .i64 0, .int .i64 0, .string (⟨#[]⟩ : ByteArray)]) 32 infoValue rfl (by decide) (by omega) zValue zValue_O (by omega) ?_
              rintro ga w27 hg7 ho hb
              replace hT := hT.madeK ho hg7 hb
              clear ho hb hg7
              refine hKq.out _ _ ⟨hT.cell 2 rfl 0, hT.cell 2 rfl 1, hT.cell 2 rfl 2, hT.cell 2 rfl 3⟩ (fun hHeld => ?_)
              clear hKq Kq
              try simp only [Act.put, List.setIfInBounds_toArray, List.set_cons_zero, List.set_cons_succ]
              (first | refine rW 12 ?_ | refine rV 12 ?_); (try simp only [pP])
              refine regC 13 rfl (by kernel_rfl) (by rfl) (fun Kq hKq => ?_)
              go_simp
              have hT0 := hT
              replace hT := hT.made (.cells #[.int .i64 0, .int .i64 0, .slice none 0 0, .slice none 0 0] 145 (0, 0))
              refine hKq.out _ _ ⟨hT.cell 3 rfl 0, hT.cell 3 rfl 1, hT.cell 3 rfl 2, hT.cell 3 rfl 3⟩ (fun hHeld => ?_)
              clear hKq Kq
              try simp only [Act.put, List.setIfInBounds_toArray, List.set_cons_zero, List.set_cons_succ]
              have xz := hT.cell 0 rfl
              have fz := hT.free 0 rfl
              have zz := hT.blt 0 rfl
              refine regC 14 rfl (by kernel_rfl) (by rfl) (fun Kq hKq => ?_)
              go_simp
              replace hT := hT0.made (.cells #[.int .i64 z.fn, .int .i64 z.pc, .slice (some ⟨ga, 0, none⟩) z.locals.length z.locals.length, .slice (some ⟨gb, 0, none⟩) z.stack.length z.stack.length] 145 (0, 0))
              refine hKq.out _ _ ⟨hT.cell 3 rfl 0, hT.cell 3 rfl 1, hT.cell 3 rfl 2, hT.cell 3 rfl 3⟩ (fun hHeld => ?_)
              clear hKq Kq hHeld xz fz zz hT0
              refine wpAnyH_done (by kernel_rfl) ?_ _
              go_wp2_with fail
              go_meet
              exact ⟨_, ga, gb, rfl, hT.perm (List.Perm.refl _)⟩
            · go_simp
              have hT0 := hT
              replace hT := hT.made (.cells #[.int .i64 0, .int .i64 0, .slice none 0 0, .slice none 0 0] 145 (0, 0))
              refine hKq.out _ _ ⟨hT.cell 2 rfl 0, hT.cell 2 rfl 1, hT.cell 2 rfl 2, hT.cell 2 rfl 3⟩ (fun hHeld => ?_)
              clear hKq Kq
              try simp only [Act.put, List.setIfInBounds_toArray, List.set_cons_zero, List.set_cons_succ]
              refine regC 7 rfl (by kernel_rfl) (by rfl) (fun Kq hKq => ?_)
              refine Knd.opMade kValue _ _ _ rfl z.locals.length rfl rfl 65 Tryz.underlying143 (.agg #[.int .i64 0, .int .i64 0, .string (⟨#[]⟩ : ByteArray)]) 32 infoValue rfl (by decide) (by omega) zValue zValue_O (by omega) ?_
              rintro ga w27 hg7 ho hb
              replace hT := hT.madeK ho hg7 hb
              clear ho hb hg7
              refine hKq.out _ _ ⟨hT.cell 3 rfl 0, hT.cell 3 rfl 1, hT.cell 3 rfl 2, hT.cell 3 rfl 3⟩ (fun hHeld => ?_)
              clear hKq Kq
              try simp only [Act.put, List.setIfInBounds_toArray, List.set_cons_zero, List.set_cons_succ]
              (first | refine rW 12 ?_ | refine rV 12 ?_); (try simp only [pP])
              have xz := hT.cell 1 rfl
              have fz := hT.free 1 rfl
              have zz := hT.blt 1 rfl
              refine regC 14 rfl (by kernel_rfl) (by rfl) (fun Kq hKq => ?_)
              go_simp
              replace hT := (((hT.set 1 rfl 0 (.int .i64 z.fn)).set 1 rfl 1 (.int .i64 z.pc)).set 1 rfl 2 (.slice (some ⟨ga, 0, none⟩) z.locals.length z.locals.length)).set 1 rfl 3 (.slice (some ⟨gb, 0, none⟩) z.stack.length z.stack.length)
              refine hKq.out _ _ ⟨hT.cell 3 rfl 0, hT.cell 3 rfl 1, hT.cell 3 rfl 2, hT.cell 3 rfl 3⟩ (fun hHeld => ?_)
              clear hKq Kq hHeld xz fz zz hT0
              refine wpAnyH_done (by kernel_rfl) ?_ _
              go_wp2_with fail
              go_meet
              exact ⟨_, ga, gb, rfl, hT.perm (List.Perm.swap _ _ _)⟩
          · obtain ⟨g7, hg7⟩ : ∃ g7, w6.heap.size = g7 := ⟨_, rfl⟩
            go_simp
            have hT0 := hT
            replace hT := hT.madeAt (.cells #[.int .i64 0, .int .i64 0, .slice none 0 0, .slice none 0 0] 145 (0, 0)) g7 hg7
            clear hg7
            refine hKq.out _ _ ⟨hT.cell 1 rfl 0, hT.cell 1 rfl 1, hT.cell 1 rfl 2, hT.cell 1 rfl 3⟩ (fun hHeld => ?_)
            clear hKq Kq
            try simp only [Act.put, List.setIfInBounds_toArray, List.set_cons_zero, List.set_cons_succ]
            refine regC2 7 11 rfl rfl (by kernel_rfl) (by rfl) (by rfl) (fun Kq hKq => ?_) (fun Kq hKq => ?_)
            · refine Knd.opMade kValue _ _ _ rfl z.locals.length rfl rfl 65 Tryz.underlying143 (.agg #[.int .i64 0, .int .i64 0, .string (⟨#[]⟩ : ByteArray)]) 32 infoValue rfl (by decide) (by omega) zValue zValue_O (by omega) ?_
              rintro ga w27 hg7 ho hb
              replace hT := hT.madeK ho hg7 hb
              clear ho hb hg7
              refine hKq.out _ _ ⟨hT.cell 2 rfl 0, hT.cell 2 rfl 1, hT.cell 2 rfl 2, hT.cell 2 rfl 3⟩ (fun hHeld => ?_)
              clear hKq Kq
              try simp only [Act.put, List.setIfInBounds_toArray, List.set_cons_zero, List.set_cons_succ]
              refine regC 11 rfl (by kernel_rfl) (by rfl) (fun Kq hKq => ?_)
              refine Knd.opMade kValue _ _ _ rfl z.stack.length rfl rfl 65 Tryz.underlying143 (.agg #[.int .i64 0, .int .i64 0, .string (⟨#[]⟩ : ByteArray)]) 32 infoValue rfl (by decide) (by omega) zValue zValue_O (by omega) ?_
              rintro gb w31 hg11 ho hb
              replace hT := hT.madeK ho hg11 hb
              clear ho hb hg11
              refine hKq.out _ _ ⟨hT.cell 3 rfl 0, hT.cell 3 rfl 1, hT.cell 3 rfl 2, hT.cell 3 rfl 3⟩ (fun hHeld => ?_)
              clear hKq Kq
              try simp only [Act.put, List.setIfInBounds_toArray, List.set_cons_zero, List.set_cons_succ]
              (first | refine rW 12 ?_ | refine rV 12 ?_); (try simp only [pP])
              have xz := hT.cell 2 rfl
              have fz := hT.free 2 rfl
              have zz := hT.blt 2 rfl
              refine regC 14 rfl (by kernel_rfl) (by rfl) (fun Kq hKq => ?_)
              go_simp
              replace hT := (((hT.set 2 rfl 0 (.int .i64 z.fn)).set 2 rfl 1 (.int .i64 z.pc)).set 2 rfl 2 (.slice (some ⟨ga, 0, none⟩) z.locals.length z.locals.length)).set 2 rfl 3 (.slice (some ⟨gb, 0, none⟩) z.stack.length z.stack.length)
              refine hKq.out _ _ ⟨hT.cell 3 rfl 0, hT.cell 3 rfl 1, hT.cell 3 rfl 2, hT.cell 3 rfl 3⟩ (fun hHeld => ?_)
              clear hKq Kq hHeld xz fz zz hT0
              refine wpAnyH_done (by kernel_rfl) ?_ _
              go_wp2_with fail
              go_meet
              exact ⟨_, ga, gb, rfl, hT.perm (((List.Perm.swap _ _ _).trans ((List.Perm.swap _ _ _).cons _)).trans (List.Perm.swap _ _ _))⟩
            · refine Knd.opMade kValue _ _ _ rfl z.stack.length rfl rfl 65 Tryz.underlying143 (.agg #[.int .i64 0, .int .i64 0, .string (⟨#[]⟩ : ByteArray)]) 32 infoValue rfl (by decide) (by omega) zValue zValue_O (by omega) ?_
              rintro gb w31 hg11 ho hb
              replace hT := hT.madeK ho hg11 hb
              clear ho hb hg11
              refine hKq.out _ _ ⟨hT.cell 2 rfl 0, hT.cell 2 rfl 1, hT.cell 2 rfl 2, hT.cell 2 rfl 3⟩ (fun hHeld => ?_)
              clear hKq Kq
              try simp only [Act.put, List.setIfInBounds_toArray, List.set_cons_zero, List.set_cons_succ]
              refine regC 7 rfl (by kernel_rfl) (by rfl) (fun Kq hKq => ?_)
              refine Knd.opMade kValue _ _ _ rfl z.locals.length rfl rfl 65 Tryz.underlying143 (.agg #[.int .i64 0, .int .i64 0, .string (⟨#[]⟩ : ByteArray)]) 32 infoValue rfl (by decide) (by omega) zValue zValue_O (by omega) ?_
              rintro ga w27 hg7 ho hb
              replace hT := hT.madeK ho hg7 hb
              clear ho hb hg7
              refine hKq.out _ _ ⟨hT.cell 3 rfl 0, hT.cell 3 rfl 1, hT.cell 3 rfl 2, hT.cell 3 rfl 3⟩ (fun hHeld => ?_)
              clear hKq Kq
              try simp only [Act.put, List.setIfInBounds_toArray, List.set_cons_zero, List.set_cons_succ]
              (first | refine rW 12 ?_ | refine rV 12 ?_); (try simp only [pP])
              have xz := hT.cell 2 rfl
              have fz := hT.free 2 rfl
              have zz := hT.blt 2 rfl
              refine regC 14 rfl (by kernel_rfl) (by rfl) (fun Kq hKq => ?_)
              go_simp
              replace hT := (((hT.set 2 rfl 0 (.int .i64 z.fn)).set 2 rfl 1 (.int .i64 z.pc)).set 2 rfl 2 (.slice (some ⟨ga, 0, none⟩) z.locals.length z.locals.length)).set 2 rfl 3 (.slice (some ⟨gb, 0, none⟩) z.stack.length z.stack.length)
              refine hKq.out _ _ ⟨hT.cell 3 rfl 0, hT.cell 3 rfl 1, hT.cell 3 rfl 2, hT.cell 3 rfl 3⟩ (fun hHeld => ?_)
              clear hKq Kq hHeld xz fz zz hT0
              refine wpAnyH_done (by kernel_rfl) ?_ _
              go_wp2_with fail
              go_meet
              exact ⟨_, ga, gb, rfl, hT.perm (((List.Perm.swap _ _ _).cons _).trans (List.Perm.swap _ _ _))⟩
        case rest =>
          clear hT
          obtain ⟨g7, ga, gb, rfl, hT⟩ := hcut
          have ew : IntKind.i64.wrap ((frames.length : Int) - 1) = (frames.length : Int) - 1 := IntWalk.i64_in _ (by omega)
          have CF : ∀ (top : Bool) W', HasMod A B t l W' → kValue.Row W' (some ⟨ga, 0, none⟩) (List.replicate z.locals.length zValue).length (List.replicate z.locals.length zValue) → kValue.Row W' (some ⟨gb, 0, none⟩) (List.replicate z.stack.length zValue).length (List.replicate z.stack.length zValue) → Calls Tryz.prog 186 #[.agg #[.slice A t.length c0, .slice B l.length d0], .agg #[.int .i64 z.fn, .int .i64 z.pc, .slice (some ⟨ga, 0, none⟩) z.locals.length z.locals.length, .slice (some ⟨gb, 0, none⟩) z.stack.length z.stack.length], .int .i64 0, .bool top] W' fun e w' => e = .returned (.bool (frmB l z.fn z.pc z.locals.length z.stack.length top)) ∧ Below W'.heap.size W' w' := by
            intro top W' hW' ra rb
            have := frame3 A B (some ⟨ga, 0, none⟩) (some ⟨gb, 0, none⟩) c0 d0 z.locals.length z.stack.length 0 t l ⟨z.fn, z.pc, List.replicate z.locals.length zValue, List.replicate z.stack.length zValue⟩ top W' hW' hfit ra rb (nil_M _ _ _ _ hz2 hz3) (by omega)
            rw [frm3_nil] at this
            simp only [List.length_replicate] at this
            exact this
          replace hT := hT.drew
          go_wp2
          refine wp_region_held_drew (S := (fun w' => w'.cell? ⟨g, 0, none⟩ = some (.slice A t.length c0) ∧ w'.cell? ⟨g, 1, none⟩ = some (.slice B l.length d0) ∧ w'.cell? ⟨g7, 0, none⟩ = some (.int .i64 z.fn) ∧ w'.cell? ⟨g7, 1, none⟩ = some (.int .i64 z.pc) ∧ w'.cell? ⟨g7, 2, none⟩ = some (.slice (some ⟨ga, 0, none⟩) z.locals.length z.locals.length) ∧ w'.cell? ⟨g7, 3, none⟩ = some (.slice (some ⟨gb, 0, none⟩) z.stack.length z.stack.length))) (by kernel_rfl) (⟨(kfactsP [Res.box g7 (.cells #[.int .i64 z.fn, .int .i64 z.pc, .slice (some ⟨ga, 0, none⟩) z.locals.length z.locals.length, .slice (some ⟨gb, 0, none⟩) z.stack.length z.stack.length] 145 (0, 0)), Res.own kValue 65 (.slice (some ⟨ga, 0, none⟩) z.locals.length z.locals.length) (List.replicate z.locals.length zValue) [ga], Res.own kValue 65 (.slice (some ⟨gb, 0, none⟩) z.stack.length z.stack.length) (List.replicate z.stack.length zValue) [gb], Res.box g8 (.cells #[.int .i64 z.fn, .int .i64 z.pc, .slice A2 z.locals.length c2, .slice A3 z.stack.length c3] 171 (0, 0)), Res.box W.heap.size (.cells #[.int .i64 kind, .int .i64 sfn, .int .i64 spc, .int .i64 skind, .int .i64 starg, .slice (some ad) frames.length cf, .slice AR recs.length cr] 168 (0, 0))] A B A4 A5 c0 d0 c4 c5 t l c hil hT).1 0, (kfactsP [Res.box g7 (.cells #[.int .i64 z.fn, .int .i64 z.pc, .slice (some ⟨ga, 0, none⟩) z.locals.length z.locals.length, .slice (some ⟨gb, 0, none⟩) z.stack.length z.stack.length] 145 (0, 0)), Res.own kValue 65 (.slice (some ⟨ga, 0, none⟩) z.locals.length z.locals.length) (List.replicate z.locals.length zValue) [ga], Res.own kValue 65 (.slice (some ⟨gb, 0, none⟩) z.stack.length z.stack.length) (List.replicate z.stack.length zValue) [gb], Res.box g8 (.cells #[.int .i64 z.fn, .int .i64 z.pc, .slice A2 z.locals.length c2, .slice A3 z.stack.length c3] 171 (0, 0)), Res.box W.heap.size (.cells #[.int .i64 kind, .int .i64 sfn, .int .i64 spc, .int .i64 skind, .int .i64 starg, .slice (some ad) frames.length cf, .slice AR recs.length cr] 168 (0, 0))] A B A4 A5 c0 d0 c4 c5 t l c hil hT).1 1, hT.cell 0 rfl 0, hT.cell 0 rfl 1, hT.cell 0 rfl 2, hT.cell 0 rfl 3⟩) (fun hHeld => ?_)
          (iterate 10 (first | refine rQ1 ?_ | refine rQ2 ?_); try simp only [pP])
          refine regC 10 rfl (by kernel_rfl) (by rfl) (fun Kq hKq => ?_)
          go_simp
          (with_reducible refine (CF _ _ (h.below hT.bel) (St.rowA hT 1 rfl) (St.rowA hT 2 rfl)).mono ?_)
          rintro e w7 ⟨rfl, hb7⟩; have hT7 := hT.step hb7
          try go_wp2_with fail
          refine hKq.out _ _ (⟨(kfactsP [Res.box g7 (.cells #[.int .i64 z.fn, .int .i64 z.pc, .slice (some ⟨ga, 0, none⟩) z.locals.length z.locals.length, .slice (some ⟨gb, 0, none⟩) z.stack.length z.stack.length] 145 (0, 0)), Res.own kValue 65 (.slice (some ⟨ga, 0, none⟩) z.locals.length z.locals.length) (List.replicate z.locals.length zValue) [ga], Res.own kValue 65 (.slice (some ⟨gb, 0, none⟩) z.stack.length z.stack.length) (List.replicate z.stack.length zValue) [gb], Res.box g8 (.cells #[.int .i64 z.fn, .int .i64 z.pc, .slice A2 z.locals.length c2, .slice A3 z.stack.length c3] 171 (0, 0)), Res.box W.heap.size (.cells #[.int .i64 kind, .int .i64 sfn, .int .i64 spc, .int .i64 skind, .int .i64 starg, .slice (some ad) frames.length cf, .slice AR recs.length cr] 168 (0, 0))] A B A4 A5 c0 d0 c4 c5 t l c hil hT7).1 0, (kfactsP [Res.box g7 (.cells #[.int .i64 z.fn, .int .i64 z.pc, .slice (some ⟨ga, 0, none⟩) z.locals.length z.locals.length, .slice (some ⟨gb, 0, none⟩) z.stack.length z.stack.length] 145 (0, 0)), Res.own kValue 65 (.slice (some ⟨ga, 0, none⟩) z.locals.length z.locals.length) (List.replicate z.locals.length zValue) [ga], Res.own kValue 65 (.slice (some ⟨gb, 0, none⟩) z.stack.length z.stack.length) (List.replicate z.stack.length zValue) [gb], Res.box g8 (.cells #[.int .i64 z.fn, .int .i64 z.pc, .slice A2 z.locals.length c2, .slice A3 z.stack.length c3] 171 (0, 0)), Res.box W.heap.size (.cells #[.int .i64 kind, .int .i64 sfn, .int .i64 spc, .int .i64 skind, .int .i64 starg, .slice (some ad) frames.length cf, .slice AR recs.length cr] 168 (0, 0))] A B A4 A5 c0 d0 c4 c5 t l c hil hT7).1 1, hT7.cell 0 rfl 0, hT7.cell 0 rfl 1, hT7.cell 0 rfl 2, hT7.cell 0 rfl 3⟩) (fun hHeld => ?_)
          clear hKq Kq
          (try simp only [pP])
          refine regC 11 rfl (by kernel_rfl) (by rfl) (fun Kq hKq => ?_)
          go_simp
          (with_reducible refine (needP [Res.box g7 (.cells #[.int .i64 z.fn, .int .i64 z.pc, .slice (some ⟨ga, 0, none⟩) z.locals.length z.locals.length, .slice (some ⟨gb, 0, none⟩) z.stack.length z.stack.length] 145 (0, 0)), Res.own kValue 65 (.slice (some ⟨ga, 0, none⟩) z.locals.length z.locals.length) (List.replicate z.locals.length zValue) [ga], Res.own kValue 65 (.slice (some ⟨gb, 0, none⟩) z.stack.length z.stack.length) (List.replicate z.stack.length zValue) [gb], Res.box g8 (.cells #[.int .i64 z.fn, .int .i64 z.pc, .slice A2 z.locals.length c2, .slice A3 z.stack.length c3] 171 (0, 0)), Res.box W.heap.size (.cells #[.int .i64 kind, .int .i64 sfn, .int .i64 spc, .int .i64 skind, .int .i64 starg, .slice (some ad) frames.length cf, .slice AR recs.length cr] 168 (0, 0))] A B A4 A5 c0 d0 c4 c5 t l c hil hT7 _).mono ?_)
          rintro e w8 ⟨rfl, hT8⟩
          try go_wp2_with fail
          refine hKq.out _ _ (⟨(kfactsP [Res.box g7 (.cells #[.int .i64 z.fn, .int .i64 z.pc, .slice (some ⟨ga, 0, none⟩) z.locals.length z.locals.length, .slice (some ⟨gb, 0, none⟩) z.stack.length z.stack.length] 145 (0, 0)), Res.own kValue 65 (.slice (some ⟨ga, 0, none⟩) z.locals.length z.locals.length) (List.replicate z.locals.length zValue) [ga], Res.own kValue 65 (.slice (some ⟨gb, 0, none⟩) z.stack.length z.stack.length) (List.replicate z.stack.length zValue) [gb], Res.box g8 (.cells #[.int .i64 z.fn, .int .i64 z.pc, .slice A2 z.locals.length c2, .slice A3 z.stack.length c3] 171 (0, 0)), Res.box W.heap.size (.cells #[.int .i64 kind, .int .i64 sfn, .int .i64 spc, .int .i64 skind, .int .i64 starg, .slice (some ad) frames.length cf, .slice AR recs.length cr] 168 (0, 0))] A B A4 A5 c0 d0 c4 c5 t l c hil hT8).1 0, (kfactsP [Res.box g7 (.cells #[.int .i64 z.fn, .int .i64 z.pc, .slice (some ⟨ga, 0, none⟩) z.locals.length z.locals.length, .slice (some ⟨gb, 0, none⟩) z.stack.length z.stack.length] 145 (0, 0)), Res.own kValue 65 (.slice (some ⟨ga, 0, none⟩) z.locals.length z.locals.length) (List.replicate z.locals.length zValue) [ga], Res.own kValue 65 (.slice (some ⟨gb, 0, none⟩) z.stack.length z.stack.length) (List.replicate z.stack.length zValue) [gb], Res.box g8 (.cells #[.int .i64 z.fn, .int .i64 z.pc, .slice A2 z.locals.length c2, .slice A3 z.stack.length c3] 171 (0, 0)), Res.box W.heap.size (.cells #[.int .i64 kind, .int .i64 sfn, .int .i64 spc, .int .i64 skind, .int .i64 starg, .slice (some ad) frames.length cf, .slice AR recs.length cr] 168 (0, 0))] A B A4 A5 c0 d0 c4 c5 t l c hil hT8).1 1, hT8.cell 0 rfl 0, hT8.cell 0 rfl 1, hT8.cell 0 rfl 2, hT8.cell 0 rfl 3⟩) (fun hHeld => ?_)
          clear hKq Kq
          (try simp only [pP])
          refine wpAnyH_done (by kernel_rfl) ?_ _
          clear hHeld CF
          go_wp2
          go_roundw
          case rel =>
            have hT9 : St w0 (Res.box W.heap.size (.cells #[.int .i64 kind, .int .i64 sfn, .int .i64 spc, .int .i64 skind, .int .i64 starg, .slice (some ad) frames.length cf, .slice AR recs.length cr] 168 (0, 0)) :: L.set i (kbox A B A4 A5 c0 d0 c4 c5 t l c g (b3 || !(frmB l z.fn z.pc z.locals.length z.stack.length ((k : Int) == (frames.length : Int) - 1))))) w8 := hT8.drop.drop.drop.drop
            refine ⟨k + 1, by omega, by go_num, finP [Res.box W.heap.size (.cells #[.int .i64 kind, .int .i64 sfn, .int .i64 spc, .int .i64 skind, .int .i64 starg, .slice (some ad) frames.length cf, .slice AR recs.length cr] 168 (0, 0))] hT9 ?_⟩
            rw [range_all, HZ.out, ← HB3.out, ← HB2.out, show ((k : Int) == (frames.length : Int) - 1) = decide (k + 1 = frames.length) by rw [Bool.eq_iff_iff]; simp; omega]
            have key : ∀ b p q r u : Bool, ((((b || !p) || !q) || !r) || !u) = (b || !(p && ((q && r) && u))) := by decide
            exact key _ _ _ _ _
          case measure => simp [intOf]; omega
      obtain rfl : k = frames.length := by omega
      obtain ⟨b2, hb2⟩ : ∃ b2, (b1 || !((List.range frames.length).all (exFr3 l c recs.length frames))) = b2 := ⟨_, rfl⟩
      rw [hb2] at hS
      have HB2 := Lib.hid hb2
      have x_o := hS.cell 0 rfl
      clear hb2 hlt hk
      go_wp2
      clear x_o
      go_loopw [8] (fun v wr => ∃ k : Nat, k ≤ recs.length ∧ v = .int .i64 k ∧ St w0 (Res.box W.heap.size (.cells #[.int .i64 kind, .int .i64 sfn, .int .i64 spc, .int .i64 skind, .int .i64 starg, .slice (some ad) frames.length cf, .slice AR recs.length cr] 168 (0, 0)) :: L.set i (kbox A B A4 A5 c0 d0 c4 c5 t l c g (b2 || !((recs.take k).all (exRec3 l c recs.length))))) wr) (fun v _ => recs.length - (intOf v).toNat)
      case atStart => exact ⟨0, by omega, rfl, finP [Res.box W.heap.size (.cells #[.int .i64 kind, .int .i64 sfn, .int .i64 spc, .int .i64 skind, .int .i64 starg, .slice (some ad) frames.length cf, .slice AR recs.length cr] 168 (0, 0))] hS (by simp)⟩
      case round =>
        clear hS
        obtain ⟨k, hk, rfl, hS⟩ := hrel
        by_cases hlt : k < recs.length
        · obtain ⟨q, hq⟩ := get_exU recs k hlt
          obtain ⟨adR, A7, c7, rfl, q0, _, rr7⟩ := kExRec_at r6 k q hq
          rw [Nat.mul_one] at q0
          have hMq := hME.2.2 q (List.mem_of_getElem? hq)
          have hq2 : q.fields.length ≤ 1048576 := hMq.1
          have hv7 : ∀ s ∈ q.fields, s.v.s.size ≤ maxLen := fun s hs => Nat.le_trans (hMq.2 s hs) (by unfold maxLen; omega)
          obtain ⟨b3, hb3⟩ : ∃ b3, (b2 || !((recs.take k).all (exRec3 l c recs.length))) = b3 := ⟨_, rfl⟩
          rw [hb3] at hS
          have HB3 := Lib.hid hb3
          have HA := Lib.hid (all_snoc (exRec3 l c recs.length) recs k q hq)
          obtain ⟨x_k, f_k, z_k⟩ := kfactsX hil hS
          have x_o := hS.cell 0 rfl
          have p0 := kept hS.bel q0
          clear hb3 hq hMq
          go_wp2_with (go_at_call 280; (with_reducible refine (needX hil hS _).mono ?_); rintro e w9 ⟨rfl, hS9⟩; clear x_k f_k z_k x_o p0)
          replace hS9 := hS9.drew
          have p0 := kept hS9.bel q0
          refine wp_region_held_drew (S := (fun w' => w'.cell? ⟨W.heap.size, 6, none⟩ = some (.slice (some adR) recs.length cr) ∧ w'.cell? (adR.add k) = some (.slice A7 q.fields.length c7))) (by kernel_rfl) (⟨hS9.cell 0 rfl 6, p0⟩) (fun hHeld => ?_)
          clear p0
          (iterate 10 (first | refine rQ1 ?_ | refine rQ2 ?_); try simp only [pP])
          refine regC 10 rfl (by kernel_rfl) (by rfl) (fun Kq hKq => ?_)
          go_simp
          (with_reducible refine (srcsP [Res.box W.heap.size (.cells #[.int .i64 kind, .int .i64 sfn, .int .i64 spc, .int .i64 skind, .int .i64 starg, .slice (some ad) frames.length cf, .slice (some adR) recs.length cr] 168 (0, 0))] A B A4 A5 c0 d0 c4 c5 t l c hil hS9 A7 c7 q.fields recs.length rr7 hv7 (by omega) hl12 h1 h2 h3 h4).mono ?_)
          rintro e w8 ⟨rfl, hT8⟩
          try go_wp2_with fail
          refine hKq.out _ _ (⟨hT8.cell 0 rfl 6, kept hT8.bel q0⟩) (fun hHeld => ?_)
          clear hKq Kq
          (try simp only [pP])
          refine wpAnyH_done (by kernel_rfl) ?_ _
          clear hHeld
          go_wp2
          go_roundw
          case rel =>
            refine ⟨k + 1, by omega, by go_num, finP [Res.box W.heap.size (.cells #[.int .i64 kind, .int .i64 sfn, .int .i64 spc, .int .i64 skind, .int .i64 starg, .slice (some ad) frames.length cf, .slice (some adR) recs.length cr] 168 (0, 0))] hT8 ?_⟩
            rw [HA.out, ← HB3.out]
            unfold exRec3
            rw [show decide ((q.fields.length : Int) ≤ 6) = decide (q.fields.length ≤ 6) by rw [Bool.eq_iff_iff]; simp; omega]
            have key : ∀ b p q r : Bool, (((b || !p) || !q) || !r) = (b || !(p && (q && r))) := by decide
            exact key _ _ _ _
          case measure => simp [intOf]; omega
        obtain rfl : k = recs.length := by omega
        have x_o := hS.cell 0 rfl
        go_wp2
        go_end0
        refine ⟨rfl, finX hS.drop ?_⟩
        rw [List.take_length, ← HB2.out, ← HB1.out]
        unfold exit3B
        rw [HD0.out]
        have key : ∀ b p q r u : Bool, ((((b || !p) || !q) || !r) || !u) = (b || !(p && (q && (r && u)))) := by decide
        exact key _ _ _ _ _
end Go.Proofs.YthinhlcfpaaldaaGreat.Dat

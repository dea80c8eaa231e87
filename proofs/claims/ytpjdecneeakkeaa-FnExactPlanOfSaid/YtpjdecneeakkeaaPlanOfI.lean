/- impl.PlanOf, walked. -/
import Derived.Test.YtpjdecneeakkeaaPlanOfP
namespace Go.Proofs.Ytpjdecneeakkeaa.Dat
open Go Go.RowKit Go.Proofs.Ytpjdecneeakkeaa.Mem
set_option linter.unusedVariables false
set_option linter.unusedSimpArgs false
set_option maxHeartbeats 8000000 in
set_option maxRecDepth 100000 in
theorem planOfI (A B D E : Option Addr) (c d e0 e1 : Nat) (t : List ByteArray) (l : List DFunc) (sites : List DSite) (black : List DSpec) (lay : Int) (bare : Bool) (w : World) (h : HasMod A B t l w) (hr : kSite.Row w D sites.length sites) (hp : sites.length ≤ 1048576) (hrb : kSpec.Row w E black.length black) (hbl : black.length ≤ 1048576) {X : DPlan} (hX : planOfV t l sites black lay bare = X) :
    Calls Try.prog 51 #[.agg #[.slice A t.length c, .slice B l.length d], .slice D sites.length e0, .slice E black.length e1, .int .i64 lay, .bool bare] w (fun en w' => ∃ (v0 : Value) (F0 : List Nat), en = .returned (.agg #[v0, .int .i64 X.lay, .bool X.bare]) ∧ St w [Res.own kSpec 167 v0 X.specs F0] w') := by
  have hS := ((St.start w).made (.cells #[.slice A t.length c, .slice B l.length d] 34 (0, 0))).madeAt (.cells #[.slice none 0 0, .int .i64 0, .bool false] 70 (0, 0)) (w.heap.size + 1) (by simp)
  cases hpr : profOkB t l sites
  · obtain rfl : X = ⟨[], 0, false⟩ := by rw [← hX]; unfold planOfV; rw [if_neg (by rw [hpr]; simp)]
    have HP := Lib.hid hpr
    clear hpr hX
    go_enter Try.func51, Try.ntmps51
    go_wp2_with fail
    refine (profOkI' A B D c d e0 t l sites _ (h.below hS.bel) (hr.below hS.bel) hp HP.out).mono ?_
    rintro e w1 ⟨rfl, hb⟩
    replace hS := hS.step hb
    have x0 := hS.cell 0 rfl
    have f0 := hS.free 0 rfl
    go_wp2
    have hS2 := ((hS.set 0 rfl 0 (.slice none 0 0)).set 0 rfl 1 (.int .i64 0)).set 0 rfl 2 (.bool false)
    have y0 := hS2.cell 0 rfl 0
    have y1 := hS2.cell 0 rfl 1
    have y2 := hS2.cell 0 rfl 2
    refine bodyPost_ret (v := .agg #[.slice none 0 0, .int .i64 0, .bool false]) (by simp [results, Try.results51, go_sem, *]) rfl ?_
    exact ⟨_, [], rfl, (hS2.drop.drop).new (r := Res.own kSpec 167 (.slice none 0 0) [] []) (Below.refl _ _) (Knd.Own.nil _ _ _) (by simp [Res.own]) (by simp [Res.own])⟩
  cases hla : btw lay 0 3
  · obtain rfl : X = ⟨[], 0, false⟩ := by rw [← hX]; unfold planOfV; rw [if_neg (by rw [hla]; simp)]
    have HP := Lib.hid hpr
    have HL := Lib.hid hla
    clear hpr hX hla
    go_enter Try.func51, Try.ntmps51
    go_wp2_with fail
    refine (profOkI' A B D c d e0 t l sites _ (h.below hS.bel) (hr.below hS.bel) hp HP.out).mono ?_
    rintro e w1 ⟨rfl, hb⟩
    replace hS := hS.step hb
    have x0 := hS.cell 0 rfl
    have f0 := hS.free 0 rfl
    go_wp2_with fail
    refine (inRange (r := false) _ HL.out).mono ?_
    rintro e w' ⟨rfl, rfl⟩
    go_wp2
    have hS2 := ((hS.set 0 rfl 0 (.slice none 0 0)).set 0 rfl 1 (.int .i64 0)).set 0 rfl 2 (.bool false)
    have y0 := hS2.cell 0 rfl 0
    have y1 := hS2.cell 0 rfl 1
    have y2 := hS2.cell 0 rfl 2
    refine bodyPost_ret (v := .agg #[.slice none 0 0, .int .i64 0, .bool false]) (by simp [results, Try.results51, go_sem, *]) rfl ?_
    exact ⟨_, [], rfl, (hS2.drop.drop).new (r := Res.own kSpec 167 (.slice none 0 0) [] []) (Below.refl _ _) (Knd.Own.nil _ _ _) (by simp [Res.own]) (by simp [Res.own])⟩
  have hprof := profOk_prof hpr
  obtain rfl : X = ⟨planS l sites black, lay, bare⟩ := by rw [← hX]; unfold planOfV; rw [if_pos ⟨hpr, hla⟩]
  have HP := Lib.hid hpr
  have HL := Lib.hid hla
  have HF := Lib.hid hprof
  clear hpr hX hla hprof
  go_enter Try.func51, Try.ntmps51
  go_wp2_with fail
  refine (profOkI' A B D c d e0 t l sites _ (h.below hS.bel) (hr.below hS.bel) hp HP.out).mono ?_
  rintro e w1 ⟨rfl, hb⟩
  replace hS := hS.step hb
  clear hb
  have x0 := hS.cell 0 rfl
  go_wp2_with fail
  refine (inRange (r := true) _ HL.out).mono ?_
  rintro e w' ⟨rfl, rfl⟩
  clear x0
  have hS0 := (hS.made (.cells #[.slice none 0 0, .int .i64 lay, .bool bare] 70 (0, 0))).new (r := Res.own kSpec 167 (.slice none 0 0) [] []) (Below.refl _ _) (Knd.Own.nil _ _ _) (by simp [Res.own]) (by simp [Res.own])
  clear hS
  go_wp2
  go_loopw [31] (fun i wr => ∃ (k : Nat) (v : Value) (F : List Nat), k ≤ sites.length ∧ i = .int .i64 k ∧ St w [Res.own kSpec 167 v (planS l (sites.take k) black) F, Res.box w1.heap.size (.cells #[v, .int .i64 lay, .bool bare] 70 (0, 0)), Res.box (w.heap.size + 1) (.cells #[.slice none 0 0, .int .i64 0, .bool false] 70 (0, 0)), Res.box w.heap.size (.cells #[.slice A t.length c, .slice B l.length d] 34 (0, 0))] wr) (fun i _ => sites.length - (intOf i).toNat)
  case atStart => exact ⟨0, _, _, by omega, rfl, hS0⟩
  case round =>
    clear hS0
    obtain ⟨k, v, F, hk, rfl, hS⟩ := hrel
    by_cases hlt : k < sites.length
    rotate_left
    · obtain rfl : k = sites.length := by omega
      rw [List.take_length] at hS
      obtain ⟨Av, cv, rfl, _, _⟩ := hS.row 0 rfl
      have x1 := hS.cell 1 rfl
      have x2 := hS.cell 2 rfl
      have f0 := hS.free 2 rfl
      go_wp2
      have hS2 := ((hS.set 2 rfl 0 (.slice Av (planS l sites black).length cv)).set 2 rfl 1 (.int .i64 lay)).set 2 rfl 2 (.bool bare)
      have y0 := hS2.cell 2 rfl 0
      have y1 := hS2.cell 2 rfl 1
      have y2 := hS2.cell 2 rfl 2
      refine bodyPost_ret (v := .agg #[.slice Av (planS l sites black).length cv, .int .i64 lay, .bool bare]) (by simp [results, Try.results51, go_sem, *]) rfl ?_
      exact ⟨_, _, rfl, hS2.only 0 rfl⟩
    obtain ⟨q, hq⟩ := get_exU sites k hlt
    have hsb := prof_site HF.out hq
    obtain ⟨ad, rfl, q0, q1, q2, q3⟩ := kSite_at (hr.below hS.bel) k q hq
    obtain ⟨kk, jj, y, x, e1, e2, hy, hx, hsx, hkd⟩ := site_at hsb
    have HN := Lib.hid (planS_step (l := l) (black := black) hq)
    obtain ⟨qf, qp, qs, qt⟩ := q
    dsimp only at e1 e2 q0 q1 q2 q3
    subst e1 e2
    obtain ⟨ad1, A2, c2, rfl, f0, f1, f2, hyl, hr2⟩ := kFunc_at (h.hr.below hS.bel) kk y hy
    obtain ⟨ad2, rfl, r0, r1⟩ := kIns_at hr2 jj x hx
    have hkl := (List.getElem?_eq_some_iff.1 hy).1
    have hjl := (List.getElem?_eq_some_iff.1 hx).1
    have hyc := (h.hv y (List.mem_of_getElem? hy)).1
    have hlm := h.hm
    have HK := Lib.hid hkd
    have HSX := Lib.hid hsx
    have hS1 := ((hS.made (.cells #[.int .i64 kk, .int .i64 jj, .int .i64 qs, .int .i64 qt] 163 (0, 0))).madeAt (.cells #[.int .i64 kk, .int .i64 jj, .int .i64 1, .int .i64 qt] 167 (0, 0)) (wr.heap.size + 1) (by simp)).drew
    have r0' := kept (bl_step (bl_alloc (bl_alloc (Below.refl _ _) (.cells #[.int .i64 kk, .int .i64 jj, .int .i64 qs, .int .i64 qt] 163 (0, 0))) (.cells #[.int .i64 kk, .int .i64 jj, .int .i64 1, .int .i64 qt] 167 (0, 0))) (Below.refl _ _).drew) r0
    have f2' := kept (bl_step (bl_alloc (bl_alloc (Below.refl _ _) (.cells #[.int .i64 kk, .int .i64 jj, .int .i64 qs, .int .i64 qt] 163 (0, 0))) (.cells #[.int .i64 kk, .int .i64 jj, .int .i64 1, .int .i64 qt] 167 (0, 0))) (Below.refl _ _).drew) f2
    clear hq hsb hkd hsx hy hx r0 r1 f0 f1 f2
    have x0 := hS.cell 3 rfl
    clear x0
    go_wp2
    clear q0 q1 q2 q3
    refine wp_region_held_drew (S := (fun w' => w'.cell? ⟨w.heap.size, 1, none⟩ = some (.slice (some ad1) l.length d) ∧ w'.cell? ⟨wr.heap.size, 0, none⟩ = some (.int .i64 kk) ∧ w'.cell? ⟨wr.heap.size, 1, none⟩ = some (.int .i64 jj) ∧ w'.cell? ⟨(ad1.add (kk * 3)).block, (ad1.add (kk * 3)).off + 2, none⟩ = some (.slice (some ad2) y.code.length c2) ∧ w'.cell? (ad2.add (jj * 2)) = some (.int .i64 x.op))) (by kernel_rfl) (⟨hS1.cell 5 rfl 1, hS1.cell 1 rfl 0, hS1.cell 1 rfl 1, f2', r0'⟩) (fun hHeld => ?_)
    first | (refine regW 0 (v := ?_) rfl (by rfl) (by kernel_rfl) (fun _ _ _ h => h) ?_ (by assumption) ?_; rotate_left; focus (intro w9 hSw; (try dsimp only at hSw); go_simp; (try with_reducible rfl); done)) | refine regU 0 rfl (by rfl) (by kernel_rfl) (fun _ _ _ h => h) (by assumption) ?_ | refine regN 0 rfl (by rfl) (by kernel_rfl) (by assumption) ?_
    try simp only [Act.put, List.setIfInBounds_toArray, List.set_cons_zero, List.set_cons_succ]
    first | (refine regW 1 (v := ?_) rfl (by rfl) (by kernel_rfl) (fun _ _ _ h => h) ?_ (by assumption) ?_; rotate_left; focus (intro w9 hSw; (try dsimp only at hSw); go_simp; (try with_reducible rfl); done)) | refine regU 1 rfl (by rfl) (by kernel_rfl) (fun _ _ _ h => h) (by assumption) ?_ | refine regN 1 rfl (by rfl) (by kernel_rfl) (by assumption) ?_
    try simp only [Act.put, List.setIfInBounds_toArray, List.set_cons_zero, List.set_cons_succ]
    first | (refine regW 2 (v := ?_) rfl (by rfl) (by kernel_rfl) (fun _ _ _ h => h) ?_ (by assumption) ?_; rotate_left; focus (intro w9 hSw; (try dsimp only at hSw); go_simp; (try with_reducible rfl); done)) | refine regU 2 rfl (by rfl) (by kernel_rfl) (fun _ _ _ h => h) (by assumption) ?_ | refine regN 2 rfl (by rfl) (by kernel_rfl) (by assumption) ?_
    try simp only [Act.put, List.setIfInBounds_toArray, List.set_cons_zero, List.set_cons_succ]
    first | (refine regW 3 (v := ?_) rfl (by rfl) (by kernel_rfl) (fun _ _ _ h => h) ?_ (by assumption) ?_; rotate_left; focus (intro w9 hSw; (try dsimp only at hSw); go_simp; (try with_reducible rfl); done)) | refine regU 3 rfl (by rfl) (by kernel_rfl) (fun _ _ _ h => h) (by assumption) ?_ | refine regN 3 rfl (by rfl) (by kernel_rfl) (by assumption) ?_
    try simp only [Act.put, List.setIfInBounds_toArray, List.set_cons_zero, List.set_cons_succ]
    first | (refine regW 4 (v := ?_) rfl (by rfl) (by kernel_rfl) (fun _ _ _ h => h) ?_ (by assumption) ?_; rotate_left; focus (intro w9 hSw; (try dsimp only at hSw); go_simp; (try with_reducible rfl); done)) | refine regU 4 rfl (by rfl) (by kernel_rfl) (fun _ _ _ h => h) (by assumption) ?_ | refine regN 4 rfl (by rfl) (by kernel_rfl) (by assumption) ?_
    try simp only [Act.put, List.setIfInBounds_toArray, List.set_cons_zero, List.set_cons_succ]
    first | (refine regW 5 (v := ?_) rfl (by rfl) (by kernel_rfl) (fun _ _ _ h => h) ?_ (by assumption) ?_; rotate_left; focus (intro w9 hSw; (try dsimp only at hSw); go_simp; (try with_reducible rfl); done)) | refine regU 5 rfl (by rfl) (by kernel_rfl) (fun _ _ _ h => h) (by assumption) ?_ | refine regN 5 rfl (by rfl) (by kernel_rfl) (by assumption) ?_
    try simp only [Act.put, List.setIfInBounds_toArray, List.set_cons_zero, List.set_cons_succ]
    first | (refine regW 6 (v := ?_) rfl (by rfl) (by kernel_rfl) (fun _ _ _ h => h) ?_ (by assumption) ?_; rotate_left; focus (intro w9 hSw; (try dsimp only at hSw); go_simp; (try with_reducible rfl); done)) | refine regU 6 rfl (by rfl) (by kernel_rfl) (fun _ _ _ h => h) (by assumption) ?_ | refine regN 6 rfl (by rfl) (by kernel_rfl) (by assumption) ?_
    try simp only [Act.put, List.setIfInBounds_toArray, List.set_cons_zero, List.set_cons_succ]
    first | (refine regW 7 (v := ?_) rfl (by rfl) (by kernel_rfl) (fun _ _ _ h => h) ?_ (by assumption) ?_; rotate_left; focus (intro w9 hSw; (try dsimp only at hSw); go_simp; (try with_reducible rfl); done)) | refine regU 7 rfl (by rfl) (by kernel_rfl) (fun _ _ _ h => h) (by assumption) ?_ | refine regN 7 rfl (by rfl) (by kernel_rfl) (by assumption) ?_
    try simp only [Act.put, List.setIfInBounds_toArray, List.set_cons_zero, List.set_cons_succ]
    first | (refine regW 8 (v := ?_) rfl (by rfl) (by kernel_rfl) (fun _ _ _ h => h) ?_ (by assumption) ?_; rotate_left; focus (intro w9 hSw; (try dsimp only at hSw); go_simp; (try with_reducible rfl); done)) | refine regU 8 rfl (by rfl) (by kernel_rfl) (fun _ _ _ h => h) (by assumption) ?_ | refine regN 8 rfl (by rfl) (by kernel_rfl) (by assumption) ?_
    try simp only [Act.put, List.setIfInBounds_toArray, List.set_cons_zero, List.set_cons_succ]
    first | (refine regW 9 (v := ?_) rfl (by rfl) (by kernel_rfl) (fun _ _ _ h => h) ?_ (by assumption) ?_; rotate_left; focus (intro w9 hSw; (try dsimp only at hSw); go_simp; (try with_reducible rfl); done)) | refine regU 9 rfl (by rfl) (by kernel_rfl) (fun _ _ _ h => h) (by assumption) ?_ | refine regN 9 rfl (by rfl) (by kernel_rfl) (by assumption) ?_
    try simp only [Act.put, List.setIfInBounds_toArray, List.set_cons_zero, List.set_cons_succ]
    first | (refine regW 10 (v := ?_) rfl (by rfl) (by kernel_rfl) (fun _ _ _ h => h) ?_ (by assumption) ?_; rotate_left; focus (intro w9 hSw; (try dsimp only at hSw); go_simp; (try with_reducible rfl); done)) | refine regU 10 rfl (by rfl) (by kernel_rfl) (fun _ _ _ h => h) (by assumption) ?_ | refine regN 10 rfl (by rfl) (by kernel_rfl) (by assumption) ?_
    try simp only [Act.put, List.setIfInBounds_toArray, List.set_cons_zero, List.set_cons_succ]
    first | (refine regW 11 (v := ?_) rfl (by rfl) (by kernel_rfl) (fun _ _ _ h => h) ?_ (by assumption) ?_; rotate_left; focus (intro w9 hSw; (try dsimp only at hSw); go_simp; (try with_reducible rfl); done)) | refine regU 11 rfl (by rfl) (by kernel_rfl) (fun _ _ _ h => h) (by assumption) ?_ | refine regN 11 rfl (by rfl) (by kernel_rfl) (by assumption) ?_
    try simp only [Act.put, List.setIfInBounds_toArray, List.set_cons_zero, List.set_cons_succ]
    first | (refine regW 12 (v := ?_) rfl (by rfl) (by kernel_rfl) (fun _ _ _ h => h) ?_ (by assumption) ?_; rotate_left; focus (intro w9 hSw; (try dsimp only at hSw); go_simp; (try with_reducible rfl); done)) | refine regU 12 rfl (by rfl) (by kernel_rfl) (fun _ _ _ h => h) (by assumption) ?_ | refine regN 12 rfl (by rfl) (by kernel_rfl) (by assumption) ?_
    try simp only [Act.put, List.setIfInBounds_toArray, List.set_cons_zero, List.set_cons_succ]
    refine wpAnyH_done (by kernel_rfl) ?_ _
    clear hHeld
    obtain ⟨Av, cv, rfl, _, _⟩ := hS1.row 2 rfl
    by_cases h23 : x.op = 23
    · skip
      have HK2 : kindOf l ⟨kk, jj, qs, qt⟩ = 2 := HK.out.trans (by rw [if_pos h23])
      have hS2 := ((hS.made (.cells #[.int .i64 kk, .int .i64 jj, .int .i64 qs, .int .i64 qt] 163 (0, 0))).madeAt (.cells #[.int .i64 kk, .int .i64 jj, .int .i64 2, .int .i64 qt] 167 (0, 0)) (wr.heap.size + 1) (by simp)).drew
      have HA := Lib.hid (show Asks Try.prog kSpec agg1 135 [.pointer (some ⟨wr.heap.size + 1, 0, none⟩)] (fun b => eqSp b kk jj 2) _ black from fun x hx W hb cs hK => by
        obtain rfl := kSpec_K.1 hK
        exact planCl x kk jj 2 qt (wr.heap.size + 1) W ((hS2.step hb).cell 0 rfl 0) ((hS2.step hb).cell 0 rfl 1) ((hS2.step hb).cell 0 rfl 2) rfl)
      have HT := Lib.hid (show takeB l black ⟨kk, jj, qs, qt⟩ = (decide (qs = 1) && (!(black.any fun b => eqSp b kk jj 2) && specB l ⟨kk, jj, 2, qt⟩)) by unfold takeB blackB specOf; rw [HK2])
      have HV := Lib.hid (show specOf l ⟨kk, jj, qs, qt⟩ = ⟨kk, jj, 2, qt⟩ by unfold specOf; rw [HK2])
      clear HK2 hS hS1 r0' f2'
      go_wp2_with fail
      refine (hasSpec E e1 black _ (fun b => eqSp b kk jj 2) _ (hrb.below hS2.bel) hbl HA.out).mono ?_
      rintro e w4 ⟨rfl, hb4⟩
      replace hS2 := hS2.step hb4
      clear hb4 HA
      have x_m := hS2.cell 5 rfl
      have x_s := hS2.cell 1 rfl
      have x_p := hS2.cell 0 rfl
      have x_b := hS2.cell 3 rfl
      have f_b := hS2.free 3 rfl
      cases hbk : black.any fun b => eqSp b kk jj 2
      · cases hsp : specB l ⟨kk, jj, 2, qt⟩
        · have HE := Lib.hid (show takeL l black ⟨kk, jj, qs, qt⟩ = [] by unfold takeL; rw [HT.out, hbk, hsp]; simp)
          have HS := Lib.hid hsp
          clear hsp HT
          by_cases hq1 : qs = 1
          · go_wp2_with fail
            refine (specI' A (some ad1) c d t l kk jj 2 qt _ (h.below hS2.bel) HS.out).mono ?_
            rintro e w5 ⟨rfl, hb5⟩
            go_wp2
            go_roundw
            case rel => exact ⟨k + 1, _, F, by omega, by go_num, by rw [HN.out, HE.out, List.append_nil]; exact (hS2.step hb5).drop.drop⟩
            case measure => simp [intOf]; omega
          · go_wp2
            go_roundw
            case rel => exact ⟨k + 1, _, F, by omega, by go_num, by rw [HN.out, HE.out, List.append_nil]; exact hS2.drop.drop⟩
            case measure => simp [intOf]; omega
        · by_cases hq1 : qs = 1
          · have HE := Lib.hid (show takeL l black ⟨kk, jj, qs, qt⟩ = [⟨kk, jj, 2, qt⟩] by unfold takeL; rw [HT.out, hbk, hsp, HV.out]; simp [hq1])
            have HS := Lib.hid hsp
            clear hsp HT
            go_wp2_with fail
            refine (specI' A (some ad1) c d t l kk jj 2 qt _ (h.below hS2.bel) HS.out).mono ?_
            rintro e w5 ⟨rfl, hb5⟩
            replace hS2 := hS2.step hb5
            clear hb5 x_m x_s x_p x_b f_b
            have x_p := hS2.cell 0 rfl
            have x_b := hS2.cell 3 rfl
            have hlen := planS_len l black (sites.take k)
            have hlk : (sites.take k).length ≤ k := by rw [List.length_take]; omega
            go_wp2_with (at_builtin; refine Knd.wp_appE kSpec rfl _ _ _ rfl 167 Try.underlying68 (.agg #[.int .i64 0, .int .i64 0, .int .i64 0, .int .i64 0]) 32 infoSpec rfl (by decide) rfl ((hS2.al _).own_ 2 rfl) _ _ _ _ ⟨kk, jj, 2, qt⟩ (blkAt _ _ (by simp)) rfl (kSpec_Oi.2 ⟨rfl, rfl⟩) (by have := hS2.nodup 2 rfl; simpa [Res.own] using this) (by (try simp [maxLen]); (try omega)) (by (try simp); (try omega)) ?_; rintro gq cq wq Fq hO hB hnd hF; have hS3 := (hS2.al _).appK 2 rfl hO hB hnd hF; clear hO hB hF hS2; have x_b := hS3.cell 3 rfl; have f_b := hS3.free 3 rfl)
            go_roundw
            case rel => exact ⟨k + 1, _, Fq, by omega, by go_num, by rw [HN.out, HE.out]; have h9 := ((hS3.set 3 rfl 0 (.slice (some ⟨gq, 0, none⟩) ((planS l (sites.take k) black).length + 1) cq)).drop).drop; exact h9⟩
            case measure => simp [intOf]; omega
          · have HE := Lib.hid (show takeL l black ⟨kk, jj, qs, qt⟩ = [] by unfold takeL; rw [HT.out]; simp [hq1])
            clear hsp HT
            go_wp2
            go_roundw
            case rel => exact ⟨k + 1, _, F, by omega, by go_num, by rw [HN.out, HE.out, List.append_nil]; exact hS2.drop.drop⟩
            case measure => simp [intOf]; omega
      · have HE := Lib.hid (show takeL l black ⟨kk, jj, qs, qt⟩ = [] by unfold takeL; rw [HT.out, hbk]; simp)
        clear HT
        by_cases hq1 : qs = 1
        · go_wp2
          go_roundw
          case rel => exact ⟨k + 1, _, F, by omega, by go_num, by rw [HN.out, HE.out, List.append_nil]; exact hS2.drop.drop⟩
          case measure => simp [intOf]; omega
        · go_wp2
          go_roundw
          case rel => exact ⟨k + 1, _, F, by omega, by go_num, by rw [HN.out, HE.out, List.append_nil]; exact hS2.drop.drop⟩
          case measure => simp [intOf]; omega
    · skip
      have HK2 : kindOf l ⟨kk, jj, qs, qt⟩ = 1 := HK.out.trans (by rw [if_neg h23])
      have hS2 := ((hS.made (.cells #[.int .i64 kk, .int .i64 jj, .int .i64 qs, .int .i64 qt] 163 (0, 0))).madeAt (.cells #[.int .i64 kk, .int .i64 jj, .int .i64 1, .int .i64 qt] 167 (0, 0)) (wr.heap.size + 1) (by simp)).drew
      have HA := Lib.hid (show Asks Try.prog kSpec agg1 135 [.pointer (some ⟨wr.heap.size + 1, 0, none⟩)] (fun b => eqSp b kk jj 1) _ black from fun x hx W hb cs hK => by
        obtain rfl := kSpec_K.1 hK
        exact planCl x kk jj 1 qt (wr.heap.size + 1) W ((hS2.step hb).cell 0 rfl 0) ((hS2.step hb).cell 0 rfl 1) ((hS2.step hb).cell 0 rfl 2) rfl)
      have HT := Lib.hid (show takeB l black ⟨kk, jj, qs, qt⟩ = (decide (qs = 1) && (!(black.any fun b => eqSp b kk jj 1) && specB l ⟨kk, jj, 1, qt⟩)) by unfold takeB blackB specOf; rw [HK2])
      have HV := Lib.hid (show specOf l ⟨kk, jj, qs, qt⟩ = ⟨kk, jj, 1, qt⟩ by unfold specOf; rw [HK2])
      clear HK2 hS hS1 r0' f2'
      go_wp2_with fail
      refine (hasSpec E e1 black _ (fun b => eqSp b kk jj 1) _ (hrb.below hS2.bel) hbl HA.out).mono ?_
      rintro e w4 ⟨rfl, hb4⟩
      replace hS2 := hS2.step hb4
      clear hb4 HA
      have x_m := hS2.cell 5 rfl
      have x_s := hS2.cell 1 rfl
      have x_p := hS2.cell 0 rfl
      have x_b := hS2.cell 3 rfl
      have f_b := hS2.free 3 rfl
      cases hbk : black.any fun b => eqSp b kk jj 1
      · cases hsp : specB l ⟨kk, jj, 1, qt⟩
        · have HE := Lib.hid (show takeL l black ⟨kk, jj, qs, qt⟩ = [] by unfold takeL; rw [HT.out, hbk, hsp]; simp)
          have HS := Lib.hid hsp
          clear hsp HT
          by_cases hq1 : qs = 1
          · go_wp2_with fail
            refine (specI' A (some ad1) c d t l kk jj 1 qt _ (h.below hS2.bel) HS.out).mono ?_
            rintro e w5 ⟨rfl, hb5⟩
            go_wp2
            go_roundw
            case rel => exact ⟨k + 1, _, F, by omega, by go_num, by rw [HN.out, HE.out, List.append_nil]; exact (hS2.step hb5).drop.drop⟩
            case measure => simp [intOf]; omega
          · go_wp2
            go_roundw
            case rel => exact ⟨k + 1, _, F, by omega, by go_num, by rw [HN.out, HE.out, List.append_nil]; exact hS2.drop.drop⟩
            case measure => simp [intOf]; omega
        · by_cases hq1 : qs = 1
          · have HE := Lib.hid (show takeL l black ⟨kk, jj, qs, qt⟩ = [⟨kk, jj, 1, qt⟩] by unfold takeL; rw [HT.out, hbk, hsp, HV.out]; simp [hq1])
            have HS := Lib.hid hsp
            clear hsp HT
            go_wp2_with fail
            refine (specI' A (some ad1) c d t l kk jj 1 qt _ (h.below hS2.bel) HS.out).mono ?_
            rintro e w5 ⟨rfl, hb5⟩
            replace hS2 := hS2.step hb5
            clear hb5 x_m x_s x_p x_b f_b
            have x_p := hS2.cell 0 rfl
            have x_b := hS2.cell 3 rfl
            have hlen := planS_len l black (sites.take k)
            have hlk : (sites.take k).length ≤ k := by rw [List.length_take]; omega
            go_wp2_with (at_builtin; refine Knd.wp_appE kSpec rfl _ _ _ rfl 167 Try.underlying68 (.agg #[.int .i64 0, .int .i64 0, .int .i64 0, .int .i64 0]) 32 infoSpec rfl (by decide) rfl ((hS2.al _).own_ 2 rfl) _ _ _ _ ⟨kk, jj, 1, qt⟩ (blkAt _ _ (by simp)) rfl (kSpec_Oi.2 ⟨rfl, rfl⟩) (by have := hS2.nodup 2 rfl; simpa [Res.own] using this) (by (try simp [maxLen]); (try omega)) (by (try simp); (try omega)) ?_; rintro gq cq wq Fq hO hB hnd hF; have hS3 := (hS2.al _).appK 2 rfl hO hB hnd hF; clear hO hB hF hS2; have x_b := hS3.cell 3 rfl; have f_b := hS3.free 3 rfl)
            go_roundw
            case rel => exact ⟨k + 1, _, Fq, by omega, by go_num, by rw [HN.out, HE.out]; have h9 := ((hS3.set 3 rfl 0 (.slice (some ⟨gq, 0, none⟩) ((planS l (sites.take k) black).length + 1) cq)).drop).drop; exact h9⟩
            case measure => simp [intOf]; omega
          · have HE := Lib.hid (show takeL l black ⟨kk, jj, qs, qt⟩ = [] by unfold takeL; rw [HT.out]; simp [hq1])
            clear hsp HT
            go_wp2
            go_roundw
            case rel => exact ⟨k + 1, _, F, by omega, by go_num, by rw [HN.out, HE.out, List.append_nil]; exact hS2.drop.drop⟩
            case measure => simp [intOf]; omega
      · have HE := Lib.hid (show takeL l black ⟨kk, jj, qs, qt⟩ = [] by unfold takeL; rw [HT.out, hbk]; simp)
        clear HT
        by_cases hq1 : qs = 1
        · go_wp2
          go_roundw
          case rel => exact ⟨k + 1, _, F, by omega, by go_num, by rw [HN.out, HE.out, List.append_nil]; exact hS2.drop.drop⟩
          case measure => simp [intOf]; omega
        · go_wp2
          go_roundw
          case rel => exact ⟨k + 1, _, F, by omega, by go_num, by rw [HN.out, HE.out, List.append_nil]; exact hS2.drop.drop⟩
          case measure => simp [intOf]; omega
end Go.Proofs.Ytpjdecneeakkeaa.Dat

/- spec.PlanOf, walked. -/
import Derived.Test.YtpjdecneeakkeaaPlanOfP
namespace Go.Proofs.Ytpjdecneeakkeaa.Dat
open Go Go.RowKit Go.Proofs.Ytpjdecneeakkeaa.Mem
set_option linter.unusedVariables false
set_option linter.unusedSimpArgs false
/-- Whether a guess is left out, up to place k of the black list. -/
def noTo (no : Bool) (black : List DSpec) (k : Nat) (f p kd : Int) : Bool := no || (black.take k).any fun b => eqSp b f p kd
theorem noTo_step {no : Bool} {black : List DSpec} {k : Nat} {b : DSpec} {f p kd : Int} (h : black[k]? = some b) : noTo no black (k + 1) f p kd = (noTo no black k f p kd || eqSp b f p kd) := by
  unfold noTo
  rw [List.take_add_one, h, List.any_append, Bool.or_assoc]
  simp
set_option maxHeartbeats 8000000 in
set_option maxRecDepth 100000 in
theorem l09Plan (A B D E : Option Addr) (c d e0 e1 : Nat) (t : List ByteArray) (l : List DFunc) (sites : List DSite) (black : List DSpec) (lay : Int) (bare : Bool) (w : World) (h : HasMod A B t l w) (hr : kSite.Row w D sites.length sites) (hp : sites.length ≤ 1048576) (hrb : kSpec.Row w E black.length black) (hbl : black.length ≤ 1048576) (hprof : profB l sites = true) :
    Calls Try.prog 129 #[.agg #[.slice A t.length c, .slice B l.length d], .slice D sites.length e0, .slice E black.length e1, .int .i64 lay, .bool bare] w (fun en w' => ∃ (v0 : Value) (F0 : List Nat), en = .returned (.agg #[v0, .int .i64 lay, .bool bare]) ∧ St w [Res.own kSpec 167 v0 (planS l sites black) F0] w') := by
  have hS := ((St.start w).made (.cells #[.slice A t.length c, .slice B l.length d] 34 (0, 0))).madeAt (.cells #[.slice none 0 0, .int .i64 0, .bool false] 70 (0, 0)) (w.heap.size + 1) (by simp)
  have hS0 := (hS.madeAt (.cells #[.slice none 0 0, .int .i64 lay, .bool bare] 70 (0, 0)) (w.heap.size + 1 + 1) (by simp)).new (r := Res.own kSpec 167 (.slice none 0 0) [] []) (Below.refl _ _) (Knd.Own.nil _ _ _) (by simp [Res.own]) (by simp [Res.own])
  have HF := Lib.hid hprof
  clear hS hprof
  go_enter Try.func129, Try.ntmps129
  go_wp2
  go_loopw [12] (fun i wr => ∃ (k : Nat) (v : Value) (F : List Nat), k ≤ sites.length ∧ i = .int .i64 k ∧ St w [Res.own kSpec 167 v (planS l (sites.take k) black) F, Res.box (w.heap.size + 1 + 1) (.cells #[v, .int .i64 lay, .bool bare] 70 (0, 0)), Res.box (w.heap.size + 1) (.cells #[.slice none 0 0, .int .i64 0, .bool false] 70 (0, 0)), Res.box w.heap.size (.cells #[.slice A t.length c, .slice B l.length d] 34 (0, 0))] wr) (fun i _ => sites.length - (intOf i).toNat)
  case atStart => exact ⟨0, _, _, by omega, rfl, hS0⟩
  case round =>
    clear hS0
    obtain ⟨k, v, F, hk, rfl, hS⟩ := hrel
    by_cases hlt : k < sites.length
    rotate_left
    · obtain rfl : k = sites.length := by omega
      rw [List.take_length] at hS
      obtain ⟨Av, cv, rfl, _, _⟩ := hS.row 0 rfl
      have x1 := hS.cell 1 rfl
      have x2 := hS.cell 2 rfl
      have f0 := hS.free 2 rfl
      go_wp2
      have hS2 := ((hS.set 2 rfl 0 (.slice Av (planS l sites black).length cv)).set 2 rfl 1 (.int .i64 lay)).set 2 rfl 2 (.bool bare)
      have y0 := hS2.cell 2 rfl 0
      have y1 := hS2.cell 2 rfl 1
      have y2 := hS2.cell 2 rfl 2
      refine bodyPost_ret (v := .agg #[.slice Av (planS l sites black).length cv, .int .i64 lay, .bool bare]) (by simp [results, Try.results129, go_sem, *]) rfl ?_
      exact ⟨_, _, rfl, hS2.only 0 rfl⟩
    obtain ⟨q, hq⟩ := get_exU sites k hlt
    have hsb := prof_site HF.out hq
    obtain ⟨ad, rfl, q0, q1, q2, q3⟩ := kSite_at (hr.below hS.bel) k q hq
    obtain ⟨kk, jj, y, x, e1, e2, hy, hx, hsx, hkd⟩ := site_at hsb
    have HN := Lib.hid (planS_step (l := l) (black := black) hq)
    obtain ⟨qf, qp, qs, qt⟩ := q
    dsimp only at e1 e2 q0 q1 q2 q3
    subst e1 e2
    obtain ⟨ad1, A2, c2, rfl, f0, f1, f2, hyl, hr2⟩ := kFunc_at (h.hr.below hS.bel) kk y hy
    obtain ⟨ad2, rfl, r0, r1⟩ := kIns_at hr2 jj x hx
    have hkl := (List.getElem?_eq_some_iff.1 hy).1
    have hjl := (List.getElem?_eq_some_iff.1 hx).1
    have hyc := (h.hv y (List.mem_of_getElem? hy)).1
    have hlm := h.hm
    have HK := Lib.hid hkd
    have HSX := Lib.hid hsx
    clear hq hsb hkd hsx hy hx f0 f1 r1
    go_wp2
    refine wp_region_held_drew (S := (fun w' => w'.cell? (ad.add (k * 4)) = some (.int .i64 kk) ∧ w'.cell? ⟨(ad.add (k * 4)).block, (ad.add (k * 4)).off + 1, none⟩ = some (.int .i64 jj))) (by kernel_rfl) (⟨q0, q1⟩) (fun hHeld => ?_)
    first | (refine regW 0 (v := ?_) rfl (by rfl) (by kernel_rfl) (fun _ _ _ h => h) ?_ (by assumption) ?_; rotate_left; focus (intro w9 hSw; (try dsimp only at hSw); go_simp; (try with_reducible rfl); done)) | refine regU 0 rfl (by rfl) (by kernel_rfl) (fun _ _ _ h => h) (by assumption) ?_ | refine regN 0 rfl (by rfl) (by kernel_rfl) (by assumption) ?_
    try simp only [Act.put, List.setIfInBounds_toArray, List.set_cons_zero, List.set_cons_succ]
    first | (refine regW 1 (v := ?_) rfl (by rfl) (by kernel_rfl) (fun _ _ _ h => h) ?_ (by assumption) ?_; rotate_left; focus (intro w9 hSw; (try dsimp only at hSw); go_simp; (try with_reducible rfl); done)) | refine regU 1 rfl (by rfl) (by kernel_rfl) (fun _ _ _ h => h) (by assumption) ?_ | refine regN 1 rfl (by rfl) (by kernel_rfl) (by assumption) ?_
    try simp only [Act.put, List.setIfInBounds_toArray, List.set_cons_zero, List.set_cons_succ]
    first | (refine regW 2 (v := ?_) rfl (by rfl) (by kernel_rfl) (fun _ _ _ h => h) ?_ (by assumption) ?_; rotate_left; focus (intro w9 hSw; (try dsimp only at hSw); go_simp; (try with_reducible rfl); done)) | refine regU 2 rfl (by rfl) (by kernel_rfl) (fun _ _ _ h => h) (by assumption) ?_ | refine regN 2 rfl (by rfl) (by kernel_rfl) (by assumption) ?_
    try simp only [Act.put, List.setIfInBounds_toArray, List.set_cons_zero, List.set_cons_succ]
    first | (refine regW 3 (v := ?_) rfl (by rfl) (by kernel_rfl) (fun _ _ _ h => h) ?_ (by assumption) ?_; rotate_left; focus (intro w9 hSw; (try dsimp only at hSw); go_simp; (try with_reducible rfl); done)) | refine regU 3 rfl (by rfl) (by kernel_rfl) (fun _ _ _ h => h) (by assumption) ?_ | refine regN 3 rfl (by rfl) (by kernel_rfl) (by assumption) ?_
    try simp only [Act.put, List.setIfInBounds_toArray, List.set_cons_zero, List.set_cons_succ]
    first | (refine regW 4 (v := ?_) rfl (by rfl) (by kernel_rfl) (fun _ _ _ h => h) ?_ (by assumption) ?_; rotate_left; focus (intro w9 hSw; (try dsimp only at hSw); go_simp; (try with_reducible rfl); done)) | refine regU 4 rfl (by rfl) (by kernel_rfl) (fun _ _ _ h => h) (by assumption) ?_ | refine regN 4 rfl (by rfl) (by kernel_rfl) (by assumption) ?_
    try simp only [Act.put, List.setIfInBounds_toArray, List.set_cons_zero, List.set_cons_succ]
    first | (refine regW 5 (v := ?_) rfl (by rfl) (by kernel_rfl) (fun _ _ _ h => h) ?_ (by assumption) ?_; rotate_left; focus (intro w9 hSw; (try dsimp only at hSw); go_simp; (try with_reducible rfl); done)) | refine regU 5 rfl (by rfl) (by kernel_rfl) (fun _ _ _ h => h) (by assumption) ?_ | refine regN 5 rfl (by rfl) (by kernel_rfl) (by assumption) ?_
    try simp only [Act.put, List.setIfInBounds_toArray, List.set_cons_zero, List.set_cons_succ]
    first | (refine regW 6 (v := ?_) rfl (by rfl) (by kernel_rfl) (fun _ _ _ h => h) ?_ (by assumption) ?_; rotate_left; focus (intro w9 hSw; (try dsimp only at hSw); go_simp; (try with_reducible rfl); done)) | refine regU 6 rfl (by rfl) (by kernel_rfl) (fun _ _ _ h => h) (by assumption) ?_ | refine regN 6 rfl (by rfl) (by kernel_rfl) (by assumption) ?_
    try simp only [Act.put, List.setIfInBounds_toArray, List.set_cons_zero, List.set_cons_succ]
    first | (refine regW 7 (v := ?_) rfl (by rfl) (by kernel_rfl) (fun _ _ _ h => h) ?_ (by assumption) ?_; rotate_left; focus (intro w9 hSw; (try dsimp only at hSw); go_simp; (try with_reducible rfl); done)) | refine regU 7 rfl (by rfl) (by kernel_rfl) (fun _ _ _ h => h) (by assumption) ?_ | refine regN 7 rfl (by rfl) (by kernel_rfl) (by assumption) ?_
    try simp only [Act.put, List.setIfInBounds_toArray, List.set_cons_zero, List.set_cons_succ]
    first | (refine regW 8 (v := ?_) rfl (by rfl) (by kernel_rfl) (fun _ _ _ h => h) ?_ (by assumption) ?_; rotate_left; focus (intro w9 hSw; (try dsimp only at hSw); go_simp; (try with_reducible rfl); done)) | refine regU 8 rfl (by rfl) (by kernel_rfl) (fun _ _ _ h => h) (by assumption) ?_ | refine regN 8 rfl (by rfl) (by kernel_rfl) (by assumption) ?_
    try simp only [Act.put, List.setIfInBounds_toArray, List.set_cons_zero, List.set_cons_succ]
    first | (refine regW 9 (v := ?_) rfl (by rfl) (by kernel_rfl) (fun _ _ _ h => h) ?_ (by assumption) ?_; rotate_left; focus (intro w9 hSw; (try dsimp only at hSw); go_simp; (try with_reducible rfl); done)) | refine regU 9 rfl (by rfl) (by kernel_rfl) (fun _ _ _ h => h) (by assumption) ?_ | refine regN 9 rfl (by rfl) (by kernel_rfl) (by assumption) ?_
    try simp only [Act.put, List.setIfInBounds_toArray, List.set_cons_zero, List.set_cons_succ]
    first | (refine regW 10 (v := ?_) rfl (by rfl) (by kernel_rfl) (fun _ _ _ h => h) ?_ (by assumption) ?_; rotate_left; focus (intro w9 hSw; (try dsimp only at hSw); go_simp; (try with_reducible rfl); done)) | refine regU 10 rfl (by rfl) (by kernel_rfl) (fun _ _ _ h => h) (by assumption) ?_ | refine regN 10 rfl (by rfl) (by kernel_rfl) (by assumption) ?_
    try simp only [Act.put, List.setIfInBounds_toArray, List.set_cons_zero, List.set_cons_succ]
    refine regC 11 rfl (by kernel_rfl) (by rfl) (fun Kq hKq => ?_)
    go_simp
    refine hKq.out _ _ (⟨old1 q0 _, old1 q1 _⟩) (fun hHeld => ?_)
    clear hKq Kq
    (try simp only [Act.put, List.setIfInBounds_toArray, List.set_cons_zero, List.set_cons_succ])
    refine regC 12 rfl (by kernel_rfl) (by rfl) (fun Kq hKq => ?_)
    go_simp
    refine hKq.out _ _ (⟨old1 q0 _, old1 q1 _⟩) (fun hHeld => ?_)
    clear hKq Kq
    (try simp only [Act.put, List.setIfInBounds_toArray, List.set_cons_zero, List.set_cons_succ])
    refine wpAnyH_done (by kernel_rfl) ?_ _
    clear hHeld
    have hS1 := (hS.made (.cells #[.int .i64 kk, .int .i64 jj, .int .i64 1, .int .i64 0] 167 (0, 0))).drew
    have r0' := old1 r0 (.cells #[.int .i64 kk, .int .i64 jj, .int .i64 1, .int .i64 0] 167 (0, 0))
    have f2' := old1 f2 (.cells #[.int .i64 kk, .int .i64 jj, .int .i64 1, .int .i64 0] 167 (0, 0))
    have q3' := old1 q3 (.cells #[.int .i64 kk, .int .i64 jj, .int .i64 2, .int .i64 0] 167 (0, 0))
    have q2' := old1 q2 (.cells #[.int .i64 kk, .int .i64 jj, .int .i64 2, .int .i64 qt] 167 (0, 0))
    have q2'' := old1 q2 (.cells #[.int .i64 kk, .int .i64 jj, .int .i64 1, .int .i64 0] 167 (0, 0))
    obtain ⟨Av, cv, rfl, _, _⟩ := hS1.row 1 rfl
    clear q0 q1 r0 f2
    go_wp2
    refine wp_region_held_drew (S := (fun w' => w'.cell? ⟨w.heap.size, 1, none⟩ = some (.slice (some ad1) l.length d) ∧ w'.cell? ⟨wr.heap.size, 0, none⟩ = some (.int .i64 kk) ∧ w'.cell? ⟨wr.heap.size, 1, none⟩ = some (.int .i64 jj) ∧ w'.cell? ⟨(ad1.add (kk * 3)).block, (ad1.add (kk * 3)).off + 2, none⟩ = some (.slice (some ad2) y.code.length c2) ∧ w'.cell? (ad2.add (jj * 2)) = some (.int .i64 x.op))) (by kernel_rfl) (⟨hS1.cell 4 rfl 1, hS1.cell 0 rfl 0, hS1.cell 0 rfl 1, f2', r0'⟩) (fun hHeld => ?_)
    first | (refine regW 0 (v := ?_) rfl (by rfl) (by kernel_rfl) (fun _ _ _ h => h) ?_ (by assumption) ?_; rotate_left; focus (intro w9 hSw; (try dsimp only at hSw); go_simp; (try with_reducible rfl); done)) | refine regU 0 rfl (by rfl) (by kernel_rfl) (fun _ _ _ h => h) (by assumption) ?_ | refine regN 0 rfl (by rfl) (by kernel_rfl) (by assumption) ?_
    try simp only [Act.put, List.setIfInBounds_toArray, List.set_cons_zero, List.set_cons_succ]
    first | (refine regW 1 (v := ?_) rfl (by rfl) (by kernel_rfl) (fun _ _ _ h => h) ?_ (by assumption) ?_; rotate_left; focus (intro w9 hSw; (try dsimp only at hSw); go_simp; (try with_reducible rfl); done)) | refine regU 1 rfl (by rfl) (by kernel_rfl) (fun _ _ _ h => h) (by assumption) ?_ | refine regN 1 rfl (by rfl) (by kernel_rfl) (by assumption) ?_
    try simp only [Act.put, List.setIfInBounds_toArray, List.set_cons_zero, List.set_cons_succ]
    first | (refine regW 2 (v := ?_) rfl (by rfl) (by kernel_rfl) (fun _ _ _ h => h) ?_ (by assumption) ?_; rotate_left; focus (intro w9 hSw; (try dsimp only at hSw); go_simp; (try with_reducible rfl); done)) | refine regU 2 rfl (by rfl) (by kernel_rfl) (fun _ _ _ h => h) (by assumption) ?_ | refine regN 2 rfl (by rfl) (by kernel_rfl) (by assumption) ?_
    try simp only [Act.put, List.setIfInBounds_toArray, List.set_cons_zero, List.set_cons_succ]
    first | (refine regW 3 (v := ?_) rfl (by rfl) (by kernel_rfl) (fun _ _ _ h => h) ?_ (by assumption) ?_; rotate_left; focus (intro w9 hSw; (try dsimp only at hSw); go_simp; (try with_reducible rfl); done)) | refine regU 3 rfl (by rfl) (by kernel_rfl) (fun _ _ _ h => h) (by assumption) ?_ | refine regN 3 rfl (by rfl) (by kernel_rfl) (by assumption) ?_
    try simp only [Act.put, List.setIfInBounds_toArray, List.set_cons_zero, List.set_cons_succ]
    first | (refine regW 4 (v := ?_) rfl (by rfl) (by kernel_rfl) (fun _ _ _ h => h) ?_ (by assumption) ?_; rotate_left; focus (intro w9 hSw; (try dsimp only at hSw); go_simp; (try with_reducible rfl); done)) | refine regU 4 rfl (by rfl) (by kernel_rfl) (fun _ _ _ h => h) (by assumption) ?_ | refine regN 4 rfl (by rfl) (by kernel_rfl) (by assumption) ?_
    try simp only [Act.put, List.setIfInBounds_toArray, List.set_cons_zero, List.set_cons_succ]
    first | (refine regW 5 (v := ?_) rfl (by rfl) (by kernel_rfl) (fun _ _ _ h => h) ?_ (by assumption) ?_; rotate_left; focus (intro w9 hSw; (try dsimp only at hSw); go_simp; (try with_reducible rfl); done)) | refine regU 5 rfl (by rfl) (by kernel_rfl) (fun _ _ _ h => h) (by assumption) ?_ | refine regN 5 rfl (by rfl) (by kernel_rfl) (by assumption) ?_
    try simp only [Act.put, List.setIfInBounds_toArray, List.set_cons_zero, List.set_cons_succ]
    first | (refine regW 6 (v := ?_) rfl (by rfl) (by kernel_rfl) (fun _ _ _ h => h) ?_ (by assumption) ?_; rotate_left; focus (intro w9 hSw; (try dsimp only at hSw); go_simp; (try with_reducible rfl); done)) | refine regU 6 rfl (by rfl) (by kernel_rfl) (fun _ _ _ h => h) (by assumption) ?_ | refine regN 6 rfl (by rfl) (by kernel_rfl) (by assumption) ?_
    try simp only [Act.put, List.setIfInBounds_toArray, List.set_cons_zero, List.set_cons_succ]
    first | (refine regW 7 (v := ?_) rfl (by rfl) (by kernel_rfl) (fun _ _ _ h => h) ?_ (by assumption) ?_; rotate_left; focus (intro w9 hSw; (try dsimp only at hSw); go_simp; (try with_reducible rfl); done)) | refine regU 7 rfl (by rfl) (by kernel_rfl) (fun _ _ _ h => h) (by assumption) ?_ | refine regN 7 rfl (by rfl) (by kernel_rfl) (by assumption) ?_
    try simp only [Act.put, List.setIfInBounds_toArray, List.set_cons_zero, List.set_cons_succ]
    first | (refine regW 8 (v := ?_) rfl (by rfl) (by kernel_rfl) (fun _ _ _ h => h) ?_ (by assumption) ?_; rotate_left; focus (intro w9 hSw; (try dsimp only at hSw); go_simp; (try with_reducible rfl); done)) | refine regU 8 rfl (by rfl) (by kernel_rfl) (fun _ _ _ h => h) (by assumption) ?_ | refine regN 8 rfl (by rfl) (by kernel_rfl) (by assumption) ?_
    try simp only [Act.put, List.setIfInBounds_toArray, List.set_cons_zero, List.set_cons_succ]
    first | (refine regW 9 (v := ?_) rfl (by rfl) (by kernel_rfl) (fun _ _ _ h => h) ?_ (by assumption) ?_; rotate_left; focus (intro w9 hSw; (try dsimp only at hSw); go_simp; (try with_reducible rfl); done)) | refine regU 9 rfl (by rfl) (by kernel_rfl) (fun _ _ _ h => h) (by assumption) ?_ | refine regN 9 rfl (by rfl) (by kernel_rfl) (by assumption) ?_
    try simp only [Act.put, List.setIfInBounds_toArray, List.set_cons_zero, List.set_cons_succ]
    first | (refine regW 10 (v := ?_) rfl (by rfl) (by kernel_rfl) (fun _ _ _ h => h) ?_ (by assumption) ?_; rotate_left; focus (intro w9 hSw; (try dsimp only at hSw); go_simp; (try with_reducible rfl); done)) | refine regU 10 rfl (by rfl) (by kernel_rfl) (fun _ _ _ h => h) (by assumption) ?_ | refine regN 10 rfl (by rfl) (by kernel_rfl) (by assumption) ?_
    try simp only [Act.put, List.setIfInBounds_toArray, List.set_cons_zero, List.set_cons_succ]
    first | (refine regW 11 (v := ?_) rfl (by rfl) (by kernel_rfl) (fun _ _ _ h => h) ?_ (by assumption) ?_; rotate_left; focus (intro w9 hSw; (try dsimp only at hSw); go_simp; (try with_reducible rfl); done)) | refine regU 11 rfl (by rfl) (by kernel_rfl) (fun _ _ _ h => h) (by assumption) ?_ | refine regN 11 rfl (by rfl) (by kernel_rfl) (by assumption) ?_
    try simp only [Act.put, List.setIfInBounds_toArray, List.set_cons_zero, List.set_cons_succ]
    first | (refine regW 12 (v := ?_) rfl (by rfl) (by kernel_rfl) (fun _ _ _ h => h) ?_ (by assumption) ?_; rotate_left; focus (intro w9 hSw; (try dsimp only at hSw); go_simp; (try with_reducible rfl); done)) | refine regU 12 rfl (by rfl) (by kernel_rfl) (fun _ _ _ h => h) (by assumption) ?_ | refine regN 12 rfl (by rfl) (by kernel_rfl) (by assumption) ?_
    try simp only [Act.put, List.setIfInBounds_toArray, List.set_cons_zero, List.set_cons_succ]
    refine wpAnyH_done (by kernel_rfl) ?_ _
    clear hHeld
    by_cases h23 : x.op = 23
    · skip
      have HK2 := Lib.hid (show kindOf l ⟨kk, jj, qs, qt⟩ = 2 from HK.out.trans (by rw [if_pos h23]))
      have HV := Lib.hid (show specOf l ⟨kk, jj, qs, qt⟩ = ⟨kk, jj, 2, qt⟩ by unfold specOf; rw [HK2.out])
      have hS2 := ((hS.made (.cells #[.int .i64 kk, .int .i64 jj, .int .i64 2, .int .i64 qt] 167 (0, 0))).drew).drew
      obtain ⟨g0, hg0⟩ : ∃ g, wr.heap.size = g := ⟨_, rfl⟩
      have HG := Lib.hid hg0
      rw [hg0] at hS2
      have x_m := hS2.cell 4 rfl
      have x_s := hS2.cell 0 rfl
      rw [← hg0] at x_s
      by_cases hq1 : qs = 1
      · obtain ⟨bq, hsp⟩ : ∃ b, specB l ⟨kk, jj, 2, qt⟩ = b := ⟨_, rfl⟩
        have HS := Lib.hid hsp
        have HNO := Lib.hid (show (decide (qs = 1) && (!(black.any fun b => eqSp b kk jj 2) && specB l ⟨kk, jj, 2, qt⟩)) = !((!bq) || (black.any fun b => eqSp b kk jj 2)) by rw [hsp, hq1]; cases bq <;> cases (black.any fun b => eqSp b kk jj 2) <;> rfl)
        clear hsp
        go_wp2_with fail
        refine (spec9' A (some ad1) c d t l kk jj 2 qt _ (h.below hS2.bel) HS.out).mono ?_
        rintro e w5 ⟨rfl, hb5⟩
        replace hS2 := hS2.step hb5
        clear hb5 x_m x_s hS hS1 r0' f2' q2' q2'' q3' q2 q3
        rw [HG.out]
        clear hg0
        go_wp2
        go_loopw [14, 15] (fun no i wr => ∃ j : Nat, j ≤ black.length ∧ i = .int .i64 j ∧ (∃ b : Bool, no = .bool b ∧ Hid (noTo (!bq) black j kk jj 2 = b)) ∧ St w [Res.box g0 (.cells #[.int .i64 kk, .int .i64 jj, .int .i64 2, .int .i64 qt] 167 (0, 0)), Res.own kSpec 167 (.slice Av (planS l (sites.take k) black).length cv) (planS l (sites.take k) black) F, Res.box (w.heap.size + 1 + 1) (.cells #[.slice Av (planS l (sites.take k) black).length cv, .int .i64 lay, .bool bare] 70 (0, 0)), Res.box (w.heap.size + 1) (.cells #[.slice none 0 0, .int .i64 0, .bool false] 70 (0, 0)), Res.box w.heap.size (.cells #[.slice A t.length c, .slice (some ad1) l.length d] 34 (0, 0))] wr) (fun _ i _ => black.length - (intOf i).toNat)
        case atStart => exact ⟨0, by omega, rfl, ⟨_, rfl, Lib.hid (by simp [noTo])⟩, hS2⟩
        case round =>
          clear hS2
          obtain ⟨j, hj, rfl, ⟨nb, rfl, hno⟩, hS3⟩ := hrel
          by_cases hlt2 : j < black.length
          · obtain ⟨b, hb⟩ := get_exU black j hlt2
            obtain ⟨ade, rfl, b0, b1, b2, b3⟩ := kSpec_at (hrb.below hS3.bel) j b hb
            have HB := Lib.hid (noTo_step (no := (!bq)) (f := kk) (p := jj) (kd := 2) hb)
            obtain ⟨bf, bp, bk, bt⟩ := b
            dsimp only at b0 b1 b2 b3
            clear hb b3
            cases nb
            · by_cases c1 : bf = kk
              · subst c1
                by_cases c2 : bp = jj
                · subst c2
                  go_wp2
                  refine wp_region_held_drew (S := (fun w' => w'.cell? ⟨g0, 0, none⟩ = some (.int .i64 kk) ∧ w'.cell? ⟨g0, 1, none⟩ = some (.int .i64 jj) ∧ w'.cell? ⟨g0, 2, none⟩ = some (.int .i64 2) ∧ w'.cell? (ade.add (j * 4)) = some (.int .i64 kk) ∧ w'.cell? ⟨(ade.add (j * 4)).block, (ade.add (j * 4)).off + 1, none⟩ = some (.int .i64 jj) ∧ w'.cell? ⟨(ade.add (j * 4)).block, (ade.add (j * 4)).off + 2, none⟩ = some (.int .i64 bk))) (by kernel_rfl) (⟨hS3.cell 0 rfl 0, hS3.cell 0 rfl 1, hS3.cell 0 rfl 2, b0, b1, b2⟩) (fun hHeld => ?_)
                  first | (refine regW 0 (v := ?_) rfl (by rfl) (by kernel_rfl) (fun _ _ _ h => h) ?_ (by assumption) ?_; rotate_left; focus (intro w9 hSw; (try dsimp only at hSw); go_simp; (try with_reducible rfl); done)) | refine regU 0 rfl (by rfl) (by kernel_rfl) (fun _ _ _ h => h) (by assumption) ?_ | refine regN 0 rfl (by rfl) (by kernel_rfl) (by assumption) ?_
                  try simp only [Act.put, List.setIfInBounds_toArray, List.set_cons_zero, List.set_cons_succ]
                  first | (refine regW 1 (v := ?_) rfl (by rfl) (by kernel_rfl) (fun _ _ _ h => h) ?_ (by assumption) ?_; rotate_left; focus (intro w9 hSw; (try dsimp only at hSw); go_simp; (try with_reducible rfl); done)) | refine regU 1 rfl (by rfl) (by kernel_rfl) (fun _ _ _ h => h) (by assumption) ?_ | refine regN 1 rfl (by rfl) (by kernel_rfl) (by assumption) ?_
                  try simp only [Act.put, List.setIfInBounds_toArray, List.set_cons_zero, List.set_cons_succ]
                  first | (refine regW 2 (v := ?_) rfl (by rfl) (by kernel_rfl) (fun _ _ _ h => h) ?_ (by assumption) ?_; rotate_left; focus (intro w9 hSw; (try dsimp only at hSw); go_simp; (try with_reducible rfl); done)) | refine regU 2 rfl (by rfl) (by kernel_rfl) (fun _ _ _ h => h) (by assumption) ?_ | refine regN 2 rfl (by rfl) (by kernel_rfl) (by assumption) ?_
                  try simp only [Act.put, List.setIfInBounds_toArray, List.set_cons_zero, List.set_cons_succ]
                  first | (refine regW 3 (v := ?_) rfl (by rfl) (by kernel_rfl) (fun _ _ _ h => h) ?_ (by assumption) ?_; rotate_left; focus (intro w9 hSw; (try dsimp only at hSw); go_simp; (try with_reducible rfl); done)) | refine regU 3 rfl (by rfl) (by kernel_rfl) (fun _ _ _ h => h) (by assumption) ?_ | refine regN 3 rfl (by rfl) (by kernel_rfl) (by assumption) ?_
                  try simp only [Act.put, List.setIfInBounds_toArray, List.set_cons_zero, List.set_cons_succ]
                  first | (refine regW 4 (v := ?_) rfl (by rfl) (by kernel_rfl) (fun _ _ _ h => h) ?_ (by assumption) ?_; rotate_left; focus (intro w9 hSw; (try dsimp only at hSw); go_simp; (try with_reducible rfl); done)) | refine regU 4 rfl (by rfl) (by kernel_rfl) (fun _ _ _ h => h) (by assumption) ?_ | refine regN 4 rfl (by rfl) (by kernel_rfl) (by assumption) ?_
                  try simp only [Act.put, List.setIfInBounds_toArray, List.set_cons_zero, List.set_cons_succ]
                  first | (refine regW 5 (v := ?_) rfl (by rfl) (by kernel_rfl) (fun _ _ _ h => h) ?_ (by assumption) ?_; rotate_left; focus (intro w9 hSw; (try dsimp only at hSw); go_simp; (try with_reducible rfl); done)) | refine regU 5 rfl (by rfl) (by kernel_rfl) (fun _ _ _ h => h) (by assumption) ?_ | refine regN 5 rfl (by rfl) (by kernel_rfl) (by assumption) ?_
                  try simp only [Act.put, List.setIfInBounds_toArray, List.set_cons_zero, List.set_cons_succ]
                  first | (refine regW 6 (v := ?_) rfl (by rfl) (by kernel_rfl) (fun _ _ _ h => h) ?_ (by assumption) ?_; rotate_left; focus (intro w9 hSw; (try dsimp only at hSw); go_simp; (try with_reducible rfl); done)) | refine regU 6 rfl (by rfl) (by kernel_rfl) (fun _ _ _ h => h) (by assumption) ?_ | refine regN 6 rfl (by rfl) (by kernel_rfl) (by assumption) ?_
                  try simp only [Act.put, List.setIfInBounds_toArray, List.set_cons_zero, List.set_cons_succ]
                  first | (refine regW 7 (v := ?_) rfl (by rfl) (by kernel_rfl) (fun _ _ _ h => h) ?_ (by assumption) ?_; rotate_left; focus (intro w9 hSw; (try dsimp only at hSw); go_simp; (try with_reducible rfl); done)) | refine regU 7 rfl (by rfl) (by kernel_rfl) (fun _ _ _ h => h) (by assumption) ?_ | refine regN 7 rfl (by rfl) (by kernel_rfl) (by assumption) ?_
                  try simp only [Act.put, List.setIfInBounds_toArray, List.set_cons_zero, List.set_cons_succ]
                  first | (refine regW 8 (v := ?_) rfl (by rfl) (by kernel_rfl) (fun _ _ _ h => h) ?_ (by assumption) ?_; rotate_left; focus (intro w9 hSw; (try dsimp only at hSw); go_simp; (try with_reducible rfl); done)) | refine regU 8 rfl (by rfl) (by kernel_rfl) (fun _ _ _ h => h) (by assumption) ?_ | refine regN 8 rfl (by rfl) (by kernel_rfl) (by assumption) ?_
                  try simp only [Act.put, List.setIfInBounds_toArray, List.set_cons_zero, List.set_cons_succ]
                  first | (refine regW 9 (v := ?_) rfl (by rfl) (by kernel_rfl) (fun _ _ _ h => h) ?_ (by assumption) ?_; rotate_left; focus (intro w9 hSw; (try dsimp only at hSw); go_simp; (try with_reducible rfl); done)) | refine regU 9 rfl (by rfl) (by kernel_rfl) (fun _ _ _ h => h) (by assumption) ?_ | refine regN 9 rfl (by rfl) (by kernel_rfl) (by assumption) ?_
                  try simp only [Act.put, List.setIfInBounds_toArray, List.set_cons_zero, List.set_cons_succ]
                  first | (refine regW 10 (v := ?_) rfl (by rfl) (by kernel_rfl) (fun _ _ _ h => h) ?_ (by assumption) ?_; rotate_left; focus (intro w9 hSw; (try dsimp only at hSw); go_simp; (try with_reducible rfl); done)) | refine regU 10 rfl (by rfl) (by kernel_rfl) (fun _ _ _ h => h) (by assumption) ?_ | refine regN 10 rfl (by rfl) (by kernel_rfl) (by assumption) ?_
                  try simp only [Act.put, List.setIfInBounds_toArray, List.set_cons_zero, List.set_cons_succ]
                  first | (refine regW 11 (v := ?_) rfl (by rfl) (by kernel_rfl) (fun _ _ _ h => h) ?_ (by assumption) ?_; rotate_left; focus (intro w9 hSw; (try dsimp only at hSw); go_simp; (try with_reducible rfl); done)) | refine regU 11 rfl (by rfl) (by kernel_rfl) (fun _ _ _ h => h) (by assumption) ?_ | refine regN 11 rfl (by rfl) (by kernel_rfl) (by assumption) ?_
                  try simp only [Act.put, List.setIfInBounds_toArray, List.set_cons_zero, List.set_cons_succ]
                  first | (refine regW 12 (v := ?_) rfl (by rfl) (by kernel_rfl) (fun _ _ _ h => h) ?_ (by assumption) ?_; rotate_left; focus (intro w9 hSw; (try dsimp only at hSw); go_simp; (try with_reducible rfl); done)) | refine regU 12 rfl (by rfl) (by kernel_rfl) (fun _ _ _ h => h) (by assumption) ?_ | refine regN 12 rfl (by rfl) (by kernel_rfl) (by assumption) ?_
                  try simp only [Act.put, List.setIfInBounds_toArray, List.set_cons_zero, List.set_cons_succ]
                  first | (refine regW 13 (v := ?_) rfl (by rfl) (by kernel_rfl) (fun _ _ _ h => h) ?_ (by assumption) ?_; rotate_left; focus (intro w9 hSw; (try dsimp only at hSw); go_simp; (try with_reducible rfl); done)) | refine regU 13 rfl (by rfl) (by kernel_rfl) (fun _ _ _ h => h) (by assumption) ?_ | refine regN 13 rfl (by rfl) (by kernel_rfl) (by assumption) ?_
                  try simp only [Act.put, List.setIfInBounds_toArray, List.set_cons_zero, List.set_cons_succ]
                  first | (refine regW 14 (v := ?_) rfl (by rfl) (by kernel_rfl) (fun _ _ _ h => h) ?_ (by assumption) ?_; rotate_left; focus (intro w9 hSw; (try dsimp only at hSw); go_simp; (try with_reducible rfl); done)) | refine regU 14 rfl (by rfl) (by kernel_rfl) (fun _ _ _ h => h) (by assumption) ?_ | refine regN 14 rfl (by rfl) (by kernel_rfl) (by assumption) ?_
                  try simp only [Act.put, List.setIfInBounds_toArray, List.set_cons_zero, List.set_cons_succ]
                  first | (refine regW 15 (v := ?_) rfl (by rfl) (by kernel_rfl) (fun _ _ _ h => h) ?_ (by assumption) ?_; rotate_left; focus (intro w9 hSw; (try dsimp only at hSw); go_simp; (try with_reducible rfl); done)) | refine regU 15 rfl (by rfl) (by kernel_rfl) (fun _ _ _ h => h) (by assumption) ?_ | refine regN 15 rfl (by rfl) (by kernel_rfl) (by assumption) ?_
                  try simp only [Act.put, List.setIfInBounds_toArray, List.set_cons_zero, List.set_cons_succ]
                  first | (refine regW 16 (v := ?_) rfl (by rfl) (by kernel_rfl) (fun _ _ _ h => h) ?_ (by assumption) ?_; rotate_left; focus (intro w9 hSw; (try dsimp only at hSw); go_simp; (try with_reducible rfl); done)) | refine regU 16 rfl (by rfl) (by kernel_rfl) (fun _ _ _ h => h) (by assumption) ?_ | refine regN 16 rfl (by rfl) (by kernel_rfl) (by assumption) ?_
                  try simp only [Act.put, List.setIfInBounds_toArray, List.set_cons_zero, List.set_cons_succ]
                  first | (refine regW 17 (v := ?_) rfl (by rfl) (by kernel_rfl) (fun _ _ _ h => h) ?_ (by assumption) ?_; rotate_left; focus (intro w9 hSw; (try dsimp only at hSw); go_simp; (try with_reducible rfl); done)) | refine regU 17 rfl (by rfl) (by kernel_rfl) (fun _ _ _ h => h) (by assumption) ?_ | refine regN 17 rfl (by rfl) (by kernel_rfl) (by assumption) ?_
                  try simp only [Act.put, List.setIfInBounds_toArray, List.set_cons_zero, List.set_cons_succ]
                  first | (refine regW 18 (v := ?_) rfl (by rfl) (by kernel_rfl) (fun _ _ _ h => h) ?_ (by assumption) ?_; rotate_left; focus (intro w9 hSw; (try dsimp only at hSw); go_simp; (try with_reducible rfl); done)) | refine regU 18 rfl (by rfl) (by kernel_rfl) (fun _ _ _ h => h) (by assumption) ?_ | refine regN 18 rfl (by rfl) (by kernel_rfl) (by assumption) ?_
                  try simp only [Act.put, List.setIfInBounds_toArray, List.set_cons_zero, List.set_cons_succ]
                  first | (refine regW 19 (v := ?_) rfl (by rfl) (by kernel_rfl) (fun _ _ _ h => h) ?_ (by assumption) ?_; rotate_left; focus (intro w9 hSw; (try dsimp only at hSw); go_simp; (try with_reducible rfl); done)) | refine regU 19 rfl (by rfl) (by kernel_rfl) (fun _ _ _ h => h) (by assumption) ?_ | refine regN 19 rfl (by rfl) (by kernel_rfl) (by assumption) ?_
                  try simp only [Act.put, List.setIfInBounds_toArray, List.set_cons_zero, List.set_cons_succ]
                  first | (refine regW 20 (v := ?_) rfl (by rfl) (by kernel_rfl) (fun _ _ _ h => h) ?_ (by assumption) ?_; rotate_left; focus (intro w9 hSw; (try dsimp only at hSw); go_simp; (try with_reducible rfl); done)) | refine regU 20 rfl (by rfl) (by kernel_rfl) (fun _ _ _ h => h) (by assumption) ?_ | refine regN 20 rfl (by rfl) (by kernel_rfl) (by assumption) ?_
                  try simp only [Act.put, List.setIfInBounds_toArray, List.set_cons_zero, List.set_cons_succ]
                  first | (refine regW 21 (v := ?_) rfl (by rfl) (by kernel_rfl) (fun _ _ _ h => h) ?_ (by assumption) ?_; rotate_left; focus (intro w9 hSw; (try dsimp only at hSw); go_simp; (try with_reducible rfl); done)) | refine regU 21 rfl (by rfl) (by kernel_rfl) (fun _ _ _ h => h) (by assumption) ?_ | refine regN 21 rfl (by rfl) (by kernel_rfl) (by assumption) ?_
                  try simp only [Act.put, List.setIfInBounds_toArray, List.set_cons_zero, List.set_cons_succ]
                  first | (refine regW 22 (v := ?_) rfl (by rfl) (by kernel_rfl) (fun _ _ _ h => h) ?_ (by assumption) ?_; rotate_left; focus (intro w9 hSw; (try dsimp only at hSw); go_simp; (try with_reducible rfl); done)) | refine regU 22 rfl (by rfl) (by kernel_rfl) (fun _ _ _ h => h) (by assumption) ?_ | refine regN 22 rfl (by rfl) (by kernel_rfl) (by assumption) ?_
                  try simp only [Act.put, List.setIfInBounds_toArray, List.set_cons_zero, List.set_cons_succ]
                  first | (refine regW 23 (v := ?_) rfl (by rfl) (by kernel_rfl) (fun _ _ _ h => h) ?_ (by assumption) ?_; rotate_left; focus (intro w9 hSw; (try dsimp only at hSw); go_simp; (try with_reducible rfl); done)) | refine regU 23 rfl (by rfl) (by kernel_rfl) (fun _ _ _ h => h) (by assumption) ?_ | refine regN 23 rfl (by rfl) (by kernel_rfl) (by assumption) ?_
                  try simp only [Act.put, List.setIfInBounds_toArray, List.set_cons_zero, List.set_cons_succ]
                  first | (refine regW 24 (v := ?_) rfl (by rfl) (by kernel_rfl) (fun _ _ _ h => h) ?_ (by assumption) ?_; rotate_left; focus (intro w9 hSw; (try dsimp only at hSw); go_simp; (try with_reducible rfl); done)) | refine regU 24 rfl (by rfl) (by kernel_rfl) (fun _ _ _ h => h) (by assumption) ?_ | refine regN 24 rfl (by rfl) (by kernel_rfl) (by assumption) ?_
                  try simp only [Act.put, List.setIfInBounds_toArray, List.set_cons_zero, List.set_cons_succ]
                  first | (refine regW 25 (v := ?_) rfl (by rfl) (by kernel_rfl) (fun _ _ _ h => h) ?_ (by assumption) ?_; rotate_left; focus (intro w9 hSw; (try dsimp only at hSw); go_simp; (try with_reducible rfl); done)) | refine regU 25 rfl (by rfl) (by kernel_rfl) (fun _ _ _ h => h) (by assumption) ?_ | refine regN 25 rfl (by rfl) (by kernel_rfl) (by assumption) ?_
                  try simp only [Act.put, List.setIfInBounds_toArray, List.set_cons_zero, List.set_cons_succ]
                  first | (refine regW 26 (v := ?_) rfl (by rfl) (by kernel_rfl) (fun _ _ _ h => h) ?_ (by assumption) ?_; rotate_left; focus (intro w9 hSw; (try dsimp only at hSw); go_simp; (try with_reducible rfl); done)) | refine regU 26 rfl (by rfl) (by kernel_rfl) (fun _ _ _ h => h) (by assumption) ?_ | refine regN 26 rfl (by rfl) (by kernel_rfl) (by assumption) ?_
                  try simp only [Act.put, List.setIfInBounds_toArray, List.set_cons_zero, List.set_cons_succ]
                  first | (refine regW 27 (v := ?_) rfl (by rfl) (by kernel_rfl) (fun _ _ _ h => h) ?_ (by assumption) ?_; rotate_left; focus (intro w9 hSw; (try dsimp only at hSw); go_simp; (try with_reducible rfl); done)) | refine regU 27 rfl (by rfl) (by kernel_rfl) (fun _ _ _ h => h) (by assumption) ?_ | refine regN 27 rfl (by rfl) (by kernel_rfl) (by assumption) ?_
                  try simp only [Act.put, List.setIfInBounds_toArray, List.set_cons_zero, List.set_cons_succ]
                  first | (refine regW 28 (v := ?_) rfl (by rfl) (by kernel_rfl) (fun _ _ _ h => h) ?_ (by assumption) ?_; rotate_left; focus (intro w9 hSw; (try dsimp only at hSw); go_simp; (try with_reducible rfl); done)) | refine regU 28 rfl (by rfl) (by kernel_rfl) (fun _ _ _ h => h) (by assumption) ?_ | refine regN 28 rfl (by rfl) (by kernel_rfl) (by assumption) ?_
                  try simp only [Act.put, List.setIfInBounds_toArray, List.set_cons_zero, List.set_cons_succ]
                  first | (refine regW 29 (v := ?_) rfl (by rfl) (by kernel_rfl) (fun _ _ _ h => h) ?_ (by assumption) ?_; rotate_left; focus (intro w9 hSw; (try dsimp only at hSw); go_simp; (try with_reducible rfl); done)) | refine regU 29 rfl (by rfl) (by kernel_rfl) (fun _ _ _ h => h) (by assumption) ?_ | refine regN 29 rfl (by rfl) (by kernel_rfl) (by assumption) ?_
                  try simp only [Act.put, List.setIfInBounds_toArray, List.set_cons_zero, List.set_cons_succ]
                  first | (refine regW 30 (v := ?_) rfl (by rfl) (by kernel_rfl) (fun _ _ _ h => h) ?_ (by assumption) ?_; rotate_left; focus (intro w9 hSw; (try dsimp only at hSw); go_simp; (try with_reducible rfl); done)) | refine regU 30 rfl (by rfl) (by kernel_rfl) (fun _ _ _ h => h) (by assumption) ?_ | refine regN 30 rfl (by rfl) (by kernel_rfl) (by assumption) ?_
                  try simp only [Act.put, List.setIfInBounds_toArray, List.set_cons_zero, List.set_cons_succ]
                  first | (refine regW 31 (v := ?_) rfl (by rfl) (by kernel_rfl) (fun _ _ _ h => h) ?_ (by assumption) ?_; rotate_left; focus (intro w9 hSw; (try dsimp only at hSw); go_simp; (try with_reducible rfl); done)) | refine regU 31 rfl (by rfl) (by kernel_rfl) (fun _ _ _ h => h) (by assumption) ?_ | refine regN 31 rfl (by rfl) (by kernel_rfl) (by assumption) ?_
                  try simp only [Act.put, List.setIfInBounds_toArray, List.set_cons_zero, List.set_cons_succ]
                  refine wpAnyH_done (by kernel_rfl) ?_ _
                  clear hHeld
                  go_wp2
                  go_roundw
                  case rel => exact ⟨j + 1, by omega, by go_num, ⟨_, rfl, Lib.hid (by rw [HB.out, hno.out]; simp [eqSp] <;> rfl)⟩, hS3.drew⟩
                  case measure => simp [intOf]; omega
                · have d2 : (bp == (jj : Int)) = false := by simp [c2]
                  go_wp2
                  refine wp_region_held_drew (S := (fun w' => w'.cell? ⟨g0, 0, none⟩ = some (.int .i64 kk) ∧ w'.cell? ⟨g0, 1, none⟩ = some (.int .i64 jj) ∧ w'.cell? ⟨g0, 2, none⟩ = some (.int .i64 2) ∧ w'.cell? (ade.add (j * 4)) = some (.int .i64 kk) ∧ w'.cell? ⟨(ade.add (j * 4)).block, (ade.add (j * 4)).off + 1, none⟩ = some (.int .i64 bp) ∧ w'.cell? ⟨(ade.add (j * 4)).block, (ade.add (j * 4)).off + 2, none⟩ = some (.int .i64 bk))) (by kernel_rfl) (⟨hS3.cell 0 rfl 0, hS3.cell 0 rfl 1, hS3.cell 0 rfl 2, b0, b1, b2⟩) (fun hHeld => ?_)
                  first | (refine regW 0 (v := ?_) rfl (by rfl) (by kernel_rfl) (fun _ _ _ h => h) ?_ (by assumption) ?_; rotate_left; focus (intro w9 hSw; (try dsimp only at hSw); go_simp; (try with_reducible rfl); done)) | refine regU 0 rfl (by rfl) (by kernel_rfl) (fun _ _ _ h => h) (by assumption) ?_ | refine regN 0 rfl (by rfl) (by kernel_rfl) (by assumption) ?_
                  try simp only [Act.put, List.setIfInBounds_toArray, List.set_cons_zero, List.set_cons_succ]
                  first | (refine regW 1 (v := ?_) rfl (by rfl) (by kernel_rfl) (fun _ _ _ h => h) ?_ (by assumption) ?_; rotate_left; focus (intro w9 hSw; (try dsimp only at hSw); go_simp; (try with_reducible rfl); done)) | refine regU 1 rfl (by rfl) (by kernel_rfl) (fun _ _ _ h => h) (by assumption) ?_ | refine regN 1 rfl (by rfl) (by kernel_rfl) (by assumption) ?_
                  try simp only [Act.put, List.setIfInBounds_toArray, List.set_cons_zero, List.set_cons_succ]
                  first | (refine regW 2 (v := ?_) rfl (by rfl) (by kernel_rfl) (fun _ _ _ h => h) ?_ (by assumption) ?_; rotate_left; focus (intro w9 hSw; (try dsimp only at hSw); go_simp; (try with_reducible rfl); done)) | refine regU 2 rfl (by rfl) (by kernel_rfl) (fun _ _ _ h => h) (by assumption) ?_ | refine regN 2 rfl (by rfl) (by kernel_rfl) (by assumption) ?_
                  try simp only [Act.put, List.setIfInBounds_toArray, List.set_cons_zero, List.set_cons_succ]
                  first | (refine regW 3 (v := ?_) rfl (by rfl) (by kernel_rfl) (fun _ _ _ h => h) ?_ (by assumption) ?_; rotate_left; focus (intro w9 hSw; (try dsimp only at hSw); go_simp; (try with_reducible rfl); done)) | refine regU 3 rfl (by rfl) (by kernel_rfl) (fun _ _ _ h => h) (by assumption) ?_ | refine regN 3 rfl (by rfl) (by kernel_rfl) (by assumption) ?_
                  try simp only [Act.put, List.setIfInBounds_toArray, List.set_cons_zero, List.set_cons_succ]
                  first | (refine regW 4 (v := ?_) rfl (by rfl) (by kernel_rfl) (fun _ _ _ h => h) ?_ (by assumption) ?_; rotate_left; focus (intro w9 hSw; (try dsimp only at hSw); go_simp; (try with_reducible rfl); done)) | refine regU 4 rfl (by rfl) (by kernel_rfl) (fun _ _ _ h => h) (by assumption) ?_ | refine regN 4 rfl (by rfl) (by kernel_rfl) (by assumption) ?_
                  try simp only [Act.put, List.setIfInBounds_toArray, List.set_cons_zero, List.set_cons_succ]
                  first | (refine regW 5 (v := ?_) rfl (by rfl) (by kernel_rfl) (fun _ _ _ h => h) ?_ (by assumption) ?_; rotate_left; focus (intro w9 hSw; (try dsimp only at hSw); go_simp; (try with_reducible rfl); done)) | refine regU 5 rfl (by rfl) (by kernel_rfl) (fun _ _ _ h => h) (by assumption) ?_ | refine regN 5 rfl (by rfl) (by kernel_rfl) (by assumption) ?_
                  try simp only [Act.put, List.setIfInBounds_toArray, List.set_cons_zero, List.set_cons_succ]
                  first | (refine regW 6 (v := ?_) rfl (by rfl) (by kernel_rfl) (fun _ _ _ h => h) ?_ (by assumption) ?_; rotate_left; focus (intro w9 hSw; (try dsimp only at hSw); go_simp; (try with_reducible rfl); done)) | refine regU 6 rfl (by rfl) (by kernel_rfl) (fun _ _ _ h => h) (by assumption) ?_ | refine regN 6 rfl (by rfl) (by kernel_rfl) (by assumption) ?_
                  try simp only [Act.put, List.setIfInBounds_toArray, List.set_cons_zero, List.set_cons_succ]
                  first | (refine regW 7 (v := ?_) rfl (by rfl) (by kernel_rfl) (fun _ _ _ h => h) ?_ (by assumption) ?_; rotate_left; focus (intro w9 hSw; (try dsimp only at hSw); go_simp; (try with_reducible rfl); done)) | refine regU 7 rfl (by rfl) (by kernel_rfl) (fun _ _ _ h => h) (by assumption) ?_ | refine regN 7 rfl (by rfl) (by kernel_rfl) (by assumption) ?_
                  try simp only [Act.put, List.setIfInBounds_toArray, List.set_cons_zero, List.set_cons_succ]
                  first | (refine regW 8 (v := ?_) rfl (by rfl) (by kernel_rfl) (fun _ _ _ h => h) ?_ (by assumption) ?_; rotate_left; focus (intro w9 hSw; (try dsimp only at hSw); go_simp; (try with_reducible rfl); done)) | refine regU 8 rfl (by rfl) (by kernel_rfl) (fun _ _ _ h => h) (by assumption) ?_ | refine regN 8 rfl (by rfl) (by kernel_rfl) (by assumption) ?_
                  try simp only [Act.put, List.setIfInBounds_toArray, List.set_cons_zero, List.set_cons_succ]
                  first | (refine regW 9 (v := ?_) rfl (by rfl) (by kernel_rfl) (fun _ _ _ h => h) ?_ (by assumption) ?_; rotate_left; focus (intro w9 hSw; (try dsimp only at hSw); go_simp; (try with_reducible rfl); done)) | refine regU 9 rfl (by rfl) (by kernel_rfl) (fun _ _ _ h => h) (by assumption) ?_ | refine regN 9 rfl (by rfl) (by kernel_rfl) (by assumption) ?_
                  try simp only [Act.put, List.setIfInBounds_toArray, List.set_cons_zero, List.set_cons_succ]
                  first | (refine regW 10 (v := ?_) rfl (by rfl) (by kernel_rfl) (fun _ _ _ h => h) ?_ (by assumption) ?_; rotate_left; focus (intro w9 hSw; (try dsimp only at hSw); go_simp; (try with_reducible rfl); done)) | refine regU 10 rfl (by rfl) (by kernel_rfl) (fun _ _ _ h => h) (by assumption) ?_ | refine regN 10 rfl (by rfl) (by kernel_rfl) (by assumption) ?_
                  try simp only [Act.put, List.setIfInBounds_toArray, List.set_cons_zero, List.set_cons_succ]
                  first | (refine regW 11 (v := ?_) rfl (by rfl) (by kernel_rfl) (fun _ _ _ h => h) ?_ (by assumption) ?_; rotate_left; focus (intro w9 hSw; (try dsimp only at hSw); go_simp; (try with_reducible rfl); done)) | refine regU 11 rfl (by rfl) (by kernel_rfl) (fun _ _ _ h => h) (by assumption) ?_ | refine regN 11 rfl (by rfl) (by kernel_rfl) (by assumption) ?_
                  try simp only [Act.put, List.setIfInBounds_toArray, List.set_cons_zero, List.set_cons_succ]
                  first | (refine regW 12 (v := ?_) rfl (by rfl) (by kernel_rfl) (fun _ _ _ h => h) ?_ (by assumption) ?_; rotate_left; focus (intro w9 hSw; (try dsimp only at hSw); go_simp; (try with_reducible rfl); done)) | refine regU 12 rfl (by rfl) (by kernel_rfl) (fun _ _ _ h => h) (by assumption) ?_ | refine regN 12 rfl (by rfl) (by kernel_rfl) (by assumption) ?_
                  try simp only [Act.put, List.setIfInBounds_toArray, List.set_cons_zero, List.set_cons_succ]
                  first | (refine regW 13 (v := ?_) rfl (by rfl) (by kernel_rfl) (fun _ _ _ h => h) ?_ (by assumption) ?_; rotate_left; focus (intro w9 hSw; (try dsimp only at hSw); go_simp; (try with_reducible rfl); done)) | refine regU 13 rfl (by rfl) (by kernel_rfl) (fun _ _ _ h => h) (by assumption) ?_ | refine regN 13 rfl (by rfl) (by kernel_rfl) (by assumption) ?_
                  try simp only [Act.put, List.setIfInBounds_toArray, List.set_cons_zero, List.set_cons_succ]
                  first | (refine regW 14 (v := ?_) rfl (by rfl) (by kernel_rfl) (fun _ _ _ h => h) ?_ (by assumption) ?_; rotate_left; focus (intro w9 hSw; (try dsimp only at hSw); go_simp; (try with_reducible rfl); done)) | refine regU 14 rfl (by rfl) (by kernel_rfl) (fun _ _ _ h => h) (by assumption) ?_ | refine regN 14 rfl (by rfl) (by kernel_rfl) (by assumption) ?_
                  try simp only [Act.put, List.setIfInBounds_toArray, List.set_cons_zero, List.set_cons_succ]
                  first | (refine regW 15 (v := ?_) rfl (by rfl) (by kernel_rfl) (fun _ _ _ h => h) ?_ (by assumption) ?_; rotate_left; focus (intro w9 hSw; (try dsimp only at hSw); go_simp; (try with_reducible rfl); done)) | refine regU 15 rfl (by rfl) (by kernel_rfl) (fun _ _ _ h => h) (by assumption) ?_ | refine regN 15 rfl (by rfl) (by kernel_rfl) (by assumption) ?_
                  try simp only [Act.put, List.setIfInBounds_toArray, List.set_cons_zero, List.set_cons_succ]
                  first | (refine regW 16 (v := ?_) rfl (by rfl) (by kernel_rfl) (fun _ _ _ h => h) ?_ (by assumption) ?_; rotate_left; focus (intro w9 hSw; (try dsimp only at hSw); go_simp; (try with_reducible rfl); done)) | refine regU 16 rfl (by rfl) (by kernel_rfl) (fun _ _ _ h => h) (by assumption) ?_ | refine regN 16 rfl (by rfl) (by kernel_rfl) (by assumption) ?_
                  try simp only [Act.put, List.setIfInBounds_toArray, List.set_cons_zero, List.set_cons_succ]
                  first | (refine regW 17 (v := ?_) rfl (by rfl) (by kernel_rfl) (fun _ _ _ h => h) ?_ (by assumption) ?_; rotate_left; focus (intro w9 hSw; (try dsimp only at hSw); go_simp; (try with_reducible rfl); done)) | refine regU 17 rfl (by rfl) (by kernel_rfl) (fun _ _ _ h => h) (by assumption) ?_ | refine regN 17 rfl (by rfl) (by kernel_rfl) (by assumption) ?_
                  try simp only [Act.put, List.setIfInBounds_toArray, List.set_cons_zero, List.set_cons_succ]
                  first | (refine regW 18 (v := ?_) rfl (by rfl) (by kernel_rfl) (fun _ _ _ h => h) ?_ (by assumption) ?_; rotate_left; focus (intro w9 hSw; (try dsimp only at hSw); go_simp; (try with_reducible rfl); done)) | refine regU 18 rfl (by rfl) (by kernel_rfl) (fun _ _ _ h => h) (by assumption) ?_ | refine regN 18 rfl (by rfl) (by kernel_rfl) (by assumption) ?_
                  try simp only [Act.put, List.setIfInBounds_toArray, List.set_cons_zero, List.set_cons_succ]
                  first | (refine regW 19 (v := ?_) rfl (by rfl) (by kernel_rfl) (fun _ _ _ h => h) ?_ (by assumption) ?_; rotate_left; focus (intro w9 hSw; (try dsimp only at hSw); go_simp; (try with_reducible rfl); done)) | refine regU 19 rfl (by rfl) (by kernel_rfl) (fun _ _ _ h => h) (by assumption) ?_ | refine regN 19 rfl (by rfl) (by kernel_rfl) (by assumption) ?_
                  try simp only [Act.put, List.setIfInBounds_toArray, List.set_cons_zero, List.set_cons_succ]
                  first | (refine regW 20 (v := ?_) rfl (by rfl) (by kernel_rfl) (fun _ _ _ h => h) ?_ (by assumption) ?_; rotate_left; focus (intro w9 hSw; (try dsimp only at hSw); go_simp; (try with_reducible rfl); done)) | refine regU 20 rfl (by rfl) (by kernel_rfl) (fun _ _ _ h => h) (by assumption) ?_ | refine regN 20 rfl (by rfl) (by kernel_rfl) (by assumption) ?_
                  try simp only [Act.put, List.setIfInBounds_toArray, List.set_cons_zero, List.set_cons_succ]
                  refine regS (fun _ _ _ d h => by cases d <;> exact h) [21, 22, 23, 24, 25, 26, 27, 28] _ _ _ rfl (by kernel_rfl) (by assumption) ?_
                  simp only [skipL, List.getElem?_cons_zero, List.getElem?_cons_succ, Option.bind_some, Act.put, List.setIfInBounds_toArray, List.set_cons_zero, List.set_cons_succ]
                  first | (refine regW 29 (v := ?_) rfl (by rfl) (by kernel_rfl) (fun _ _ _ h => h) ?_ (by assumption) ?_; rotate_left; focus (intro w9 hSw; (try dsimp only at hSw); go_simp; (try with_reducible rfl); done)) | refine regU 29 rfl (by rfl) (by kernel_rfl) (fun _ _ _ h => h) (by assumption) ?_ | refine regN 29 rfl (by rfl) (by kernel_rfl) (by assumption) ?_
                  try simp only [Act.put, List.setIfInBounds_toArray, List.set_cons_zero, List.set_cons_succ]
                  first | (refine regW 30 (v := ?_) rfl (by rfl) (by kernel_rfl) (fun _ _ _ h => h) ?_ (by assumption) ?_; rotate_left; focus (intro w9 hSw; (try dsimp only at hSw); go_simp; (try with_reducible rfl); done)) | refine regU 30 rfl (by rfl) (by kernel_rfl) (fun _ _ _ h => h) (by assumption) ?_ | refine regN 30 rfl (by rfl) (by kernel_rfl) (by assumption) ?_
                  try simp only [Act.put, List.setIfInBounds_toArray, List.set_cons_zero, List.set_cons_succ]
                  first | (refine regW 31 (v := ?_) rfl (by rfl) (by kernel_rfl) (fun _ _ _ h => h) ?_ (by assumption) ?_; rotate_left; focus (intro w9 hSw; (try dsimp only at hSw); go_simp; (try with_reducible rfl); done)) | refine regU 31 rfl (by rfl) (by kernel_rfl) (fun _ _ _ h => h) (by assumption) ?_ | refine regN 31 rfl (by rfl) (by kernel_rfl) (by assumption) ?_
                  try simp only [Act.put, List.setIfInBounds_toArray, List.set_cons_zero, List.set_cons_succ]
                  refine wpAnyH_done (by kernel_rfl) ?_ _
                  clear hHeld
                  go_wp2
                  go_roundw
                  case rel => exact ⟨j + 1, by omega, by go_num, ⟨_, rfl, Lib.hid (by rw [HB.out, hno.out]; simp [eqSp, c2])⟩, hS3.drew⟩
                  case measure => simp [intOf]; omega
              · have d1 : (bf == (kk : Int)) = false := by simp [c1]
                go_wp2
                refine wp_region_held_drew (S := (fun w' => w'.cell? ⟨g0, 0, none⟩ = some (.int .i64 kk) ∧ w'.cell? ⟨g0, 1, none⟩ = some (.int .i64 jj) ∧ w'.cell? ⟨g0, 2, none⟩ = some (.int .i64 2) ∧ w'.cell? (ade.add (j * 4)) = some (.int .i64 bf) ∧ w'.cell? ⟨(ade.add (j * 4)).block, (ade.add (j * 4)).off + 1, none⟩ = some (.int .i64 bp) ∧ w'.cell? ⟨(ade.add (j * 4)).block, (ade.add (j * 4)).off + 2, none⟩ = some (.int .i64 bk))) (by kernel_rfl) (⟨hS3.cell 0 rfl 0, hS3.cell 0 rfl 1, hS3.cell 0 rfl 2, b0, b1, b2⟩) (fun hHeld => ?_)
                first | (refine regW 0 (v := ?_) rfl (by rfl) (by kernel_rfl) (fun _ _ _ h => h) ?_ (by assumption) ?_; rotate_left; focus (intro w9 hSw; (try dsimp only at hSw); go_simp; (try with_reducible rfl); done)) | refine regU 0 rfl (by rfl) (by kernel_rfl) (fun _ _ _ h => h) (by assumption) ?_ | refine regN 0 rfl (by rfl) (by kernel_rfl) (by assumption) ?_
                try simp only [Act.put, List.setIfInBounds_toArray, List.set_cons_zero, List.set_cons_succ]
                first | (refine regW 1 (v := ?_) rfl (by rfl) (by kernel_rfl) (fun _ _ _ h => h) ?_ (by assumption) ?_; rotate_left; focus (intro w9 hSw; (try dsimp only at hSw); go_simp; (try with_reducible rfl); done)) | refine regU 1 rfl (by rfl) (by kernel_rfl) (fun _ _ _ h => h) (by assumption) ?_ | refine regN 1 rfl (by rfl) (by kernel_rfl) (by assumption) ?_
                try simp only [Act.put, List.setIfInBounds_toArray, List.set_cons_zero, List.set_cons_succ]
                first | (refine regW 2 (v := ?_) rfl (by rfl) (by kernel_rfl) (fun _ _ _ h => h) ?_ (by assumption) ?_; rotate_left; focus (intro w9 hSw; (try dsimp only at hSw); go_simp; (try with_reducible rfl); done)) | refine regU 2 rfl (by rfl) (by kernel_rfl) (fun _ _ _ h => h) (by assumption) ?_ | refine regN 2 rfl (by rfl) (by kernel_rfl) (by assumption) ?_
                try simp only [Act.put, List.setIfInBounds_toArray, List.set_cons_zero, List.set_cons_succ]
                first | (refine regW 3 (v := ?_) rfl (by rfl) (by kernel_rfl) (fun _ _ _ h => h) ?_ (by assumption) ?_; rotate_left; focus (intro w9 hSw; (try dsimp only at hSw); go_simp; (try with_reducible rfl); done)) | refine regU 3 rfl (by rfl) (by kernel_rfl) (fun _ _ _ h => h) (by assumption) ?_ | refine regN 3 rfl (by rfl) (by kernel_rfl) (by assumption) ?_
                try simp only [Act.put, List.setIfInBounds_toArray, List.set_cons_zero, List.set_cons_succ]
                first | (refine regW 4 (v := ?_) rfl (by rfl) (by kernel_rfl) (fun _ _ _ h => h) ?_ (by assumption) ?_; rotate_left; focus (intro w9 hSw; (try dsimp only at hSw); go_simp; (try with_reducible rfl); done)) | refine regU 4 rfl (by rfl) (by kernel_rfl) (fun _ _ _ h => h) (by assumption) ?_ | refine regN 4 rfl (by rfl) (by kernel_rfl) (by assumption) ?_
                try simp only [Act.put, List.setIfInBounds_toArray, List.set_cons_zero, List.set_cons_succ]
                first | (refine regW 5 (v := ?_) rfl (by rfl) (by kernel_rfl) (fun _ _ _ h => h) ?_ (by assumption) ?_; rotate_left; focus (intro w9 hSw; (try dsimp only at hSw); go_simp; (try with_reducible rfl); done)) | refine regU 5 rfl (by rfl) (by kernel_rfl) (fun _ _ _ h => h) (by assumption) ?_ | refine regN 5 rfl (by rfl) (by kernel_rfl) (by assumption) ?_
                try simp only [Act.put, List.setIfInBounds_toArray, List.set_cons_zero, List.set_cons_succ]
                first | (refine regW 6 (v := ?_) rfl (by rfl) (by kernel_rfl) (fun _ _ _ h => h) ?_ (by assumption) ?_; rotate_left; focus (intro w9 hSw; (try dsimp only at hSw); go_simp; (try with_reducible rfl); done)) | refine regU 6 rfl (by rfl) (by kernel_rfl) (fun _ _ _ h => h) (by assumption) ?_ | refine regN 6 rfl (by rfl) (by kernel_rfl) (by assumption) ?_
                try simp only [Act.put, List.setIfInBounds_toArray, List.set_cons_zero, List.set_cons_succ]
                first | (refine regW 7 (v := ?_) rfl (by rfl) (by kernel_rfl) (fun _ _ _ h => h) ?_ (by assumption) ?_; rotate_left; focus (intro w9 hSw; (try dsimp only at hSw); go_simp; (try with_reducible rfl); done)) | refine regU 7 rfl (by rfl) (by kernel_rfl) (fun _ _ _ h => h) (by assumption) ?_ | refine regN 7 rfl (by rfl) (by kernel_rfl) (by assumption) ?_
                try simp only [Act.put, List.setIfInBounds_toArray, List.set_cons_zero, List.set_cons_succ]
                first | (refine regW 8 (v := ?_) rfl (by rfl) (by kernel_rfl) (fun _ _ _ h => h) ?_ (by assumption) ?_; rotate_left; focus (intro w9 hSw; (try dsimp only at hSw); go_simp; (try with_reducible rfl); done)) | refine regU 8 rfl (by rfl) (by kernel_rfl) (fun _ _ _ h => h) (by assumption) ?_ | refine regN 8 rfl (by rfl) (by kernel_rfl) (by assumption) ?_
                try simp only [Act.put, List.setIfInBounds_toArray, List.set_cons_zero, List.set_cons_succ]
                first | (refine regW 9 (v := ?_) rfl (by rfl) (by kernel_rfl) (fun _ _ _ h => h) ?_ (by assumption) ?_; rotate_left; focus (intro w9 hSw; (try dsimp only at hSw); go_simp; (try with_reducible rfl); done)) | refine regU 9 rfl (by rfl) (by kernel_rfl) (fun _ _ _ h => h) (by assumption) ?_ | refine regN 9 rfl (by rfl) (by kernel_rfl) (by assumption) ?_
                try simp only [Act.put, List.setIfInBounds_toArray, List.set_cons_zero, List.set_cons_succ]
                first | (refine regW 10 (v := ?_) rfl (by rfl) (by kernel_rfl) (fun _ _ _ h => h) ?_ (by assumption) ?_; rotate_left; focus (intro w9 hSw; (try dsimp only at hSw); go_simp; (try with_reducible rfl); done)) | refine regU 10 rfl (by rfl) (by kernel_rfl) (fun _ _ _ h => h) (by assumption) ?_ | refine regN 10 rfl (by rfl) (by kernel_rfl) (by assumption) ?_
                try simp only [Act.put, List.setIfInBounds_toArray, List.set_cons_zero, List.set_cons_succ]
                refine regS (fun _ _ _ d h => by cases d <;> exact h) [11, 12, 13, 14, 15, 16, 17, 18] _ _ _ rfl (by kernel_rfl) (by assumption) ?_
                simp only [skipL, List.getElem?_cons_zero, List.getElem?_cons_succ, Option.bind_some, Act.put, List.setIfInBounds_toArray, List.set_cons_zero, List.set_cons_succ]
                first | (refine regW 19 (v := ?_) rfl (by rfl) (by kernel_rfl) (fun _ _ _ h => h) ?_ (by assumption) ?_; rotate_left; focus (intro w9 hSw; (try dsimp only at hSw); go_simp; (try with_reducible rfl); done)) | refine regU 19 rfl (by rfl) (by kernel_rfl) (fun _ _ _ h => h) (by assumption) ?_ | refine regN 19 rfl (by rfl) (by kernel_rfl) (by assumption) ?_
                try simp only [Act.put, List.setIfInBounds_toArray, List.set_cons_zero, List.set_cons_succ]
                first | (refine regW 20 (v := ?_) rfl (by rfl) (by kernel_rfl) (fun _ _ _ h => h) ?_ (by assumption) ?_; rotate_left; focus (intro w9 hSw; (try dsimp only at hSw); go_simp; (try with_reducible rfl); done)) | refine regU 20 rfl (by rfl) (by kernel_rfl) (fun _ _ _ h => h) (by assumption) ?_ | refine regN 20 rfl (by rfl) (by kernel_rfl) (by assumption) ?_
                try simp only [Act.put, List.setIfInBounds_toArray, List.set_cons_zero, List.set_cons_succ]
                refine regS (fun _ _ _ d h => by cases d <;> exact h) [21, 22, 23, 24, 25, 26, 27, 28] _ _ _ rfl (by kernel_rfl) (by assumption) ?_
                simp only [skipL, List.getElem?_cons_zero, List.getElem?_cons_succ, Option.bind_some, Act.put, List.setIfInBounds_toArray, List.set_cons_zero, List.set_cons_succ]
                first | (refine regW 29 (v := ?_) rfl (by rfl) (by kernel_rfl) (fun _ _ _ h => h) ?_ (by assumption) ?_; rotate_left; focus (intro w9 hSw; (try dsimp only at hSw); go_simp; (try with_reducible rfl); done)) | refine regU 29 rfl (by rfl) (by kernel_rfl) (fun _ _ _ h => h) (by assumption) ?_ | refine regN 29 rfl (by rfl) (by kernel_rfl) (by assumption) ?_
                try simp only [Act.put, List.setIfInBounds_toArray, List.set_cons_zero, List.set_cons_succ]
                first | (refine regW 30 (v := ?_) rfl (by rfl) (by kernel_rfl) (fun _ _ _ h => h) ?_ (by assumption) ?_; rotate_left; focus (intro w9 hSw; (try dsimp only at hSw); go_simp; (try with_reducible rfl); done)) | refine regU 30 rfl (by rfl) (by kernel_rfl) (fun _ _ _ h => h) (by assumption) ?_ | refine regN 30 rfl (by rfl) (by kernel_rfl) (by assumption) ?_
                try simp only [Act.put, List.setIfInBounds_toArray, List.set_cons_zero, List.set_cons_succ]
                first | (refine regW 31 (v := ?_) rfl (by rfl) (by kernel_rfl) (fun _ _ _ h => h) ?_ (by assumption) ?_; rotate_left; focus (intro w9 hSw; (try dsimp only at hSw); go_simp; (try with_reducible rfl); done)) | refine regU 31 rfl (by rfl) (by kernel_rfl) (fun _ _ _ h => h) (by assumption) ?_ | refine regN 31 rfl (by rfl) (by kernel_rfl) (by assumption) ?_
                try simp only [Act.put, List.setIfInBounds_toArray, List.set_cons_zero, List.set_cons_succ]
                refine wpAnyH_done (by kernel_rfl) ?_ _
                clear hHeld
                go_wp2
                go_roundw
                case rel => exact ⟨j + 1, by omega, by go_num, ⟨_, rfl, Lib.hid (by rw [HB.out, hno.out]; simp [eqSp, c1])⟩, hS3.drew⟩
                case measure => simp [intOf]; omega
            · go_wp2
              refine wp_region_held_drew (S := (fun w' => w'.cell? ⟨g0, 0, none⟩ = some (.int .i64 kk) ∧ w'.cell? ⟨g0, 1, none⟩ = some (.int .i64 jj) ∧ w'.cell? ⟨g0, 2, none⟩ = some (.int .i64 2) ∧ w'.cell? (ade.add (j * 4)) = some (.int .i64 bf) ∧ w'.cell? ⟨(ade.add (j * 4)).block, (ade.add (j * 4)).off + 1, none⟩ = some (.int .i64 bp) ∧ w'.cell? ⟨(ade.add (j * 4)).block, (ade.add (j * 4)).off + 2, none⟩ = some (.int .i64 bk))) (by kernel_rfl) (⟨hS3.cell 0 rfl 0, hS3.cell 0 rfl 1, hS3.cell 0 rfl 2, b0, b1, b2⟩) (fun hHeld => ?_)
              first | (refine regW 0 (v := ?_) rfl (by rfl) (by kernel_rfl) (fun _ _ _ h => h) ?_ (by assumption) ?_; rotate_left; focus (intro w9 hSw; (try dsimp only at hSw); go_simp; (try with_reducible rfl); done)) | refine regU 0 rfl (by rfl) (by kernel_rfl) (fun _ _ _ h => h) (by assumption) ?_ | refine regN 0 rfl (by rfl) (by kernel_rfl) (by assumption) ?_
              try simp only [Act.put, List.setIfInBounds_toArray, List.set_cons_zero, List.set_cons_succ]
              first | (refine regW 1 (v := ?_) rfl (by rfl) (by kernel_rfl) (fun _ _ _ h => h) ?_ (by assumption) ?_; rotate_left; focus (intro w9 hSw; (try dsimp only at hSw); go_simp; (try with_reducible rfl); done)) | refine regU 1 rfl (by rfl) (by kernel_rfl) (fun _ _ _ h => h) (by assumption) ?_ | refine regN 1 rfl (by rfl) (by kernel_rfl) (by assumption) ?_
              try simp only [Act.put, List.setIfInBounds_toArray, List.set_cons_zero, List.set_cons_succ]
              refine regS (fun _ _ _ d h => by cases d <;> exact h) [2, 3, 4, 5, 6, 7, 8, 9, 10, 11, 12, 13, 14, 15, 16, 17, 18, 19, 20, 21, 22, 23, 24, 25, 26, 27, 28, 29] _ _ _ rfl (by kernel_rfl) (by assumption) ?_
              simp only [skipL, List.getElem?_cons_zero, List.getElem?_cons_succ, Option.bind_some, Act.put, List.setIfInBounds_toArray, List.set_cons_zero, List.set_cons_succ]
              first | (refine regW 30 (v := ?_) rfl (by rfl) (by kernel_rfl) (fun _ _ _ h => h) ?_ (by assumption) ?_; rotate_left; focus (intro w9 hSw; (try dsimp only at hSw); go_simp; (try with_reducible rfl); done)) | refine regU 30 rfl (by rfl) (by kernel_rfl) (fun _ _ _ h => h) (by assumption) ?_ | refine regN 30 rfl (by rfl) (by kernel_rfl) (by assumption) ?_
              try simp only [Act.put, List.setIfInBounds_toArray, List.set_cons_zero, List.set_cons_succ]
              first | (refine regW 31 (v := ?_) rfl (by rfl) (by kernel_rfl) (fun _ _ _ h => h) ?_ (by assumption) ?_; rotate_left; focus (intro w9 hSw; (try dsimp only at hSw); go_simp; (try with_reducible rfl); done)) | refine regU 31 rfl (by rfl) (by kernel_rfl) (fun _ _ _ h => h) (by assumption) ?_ | refine regN 31 rfl (by rfl) (by kernel_rfl) (by assumption) ?_
              try simp only [Act.put, List.setIfInBounds_toArray, List.set_cons_zero, List.set_cons_succ]
              refine wpAnyH_done (by kernel_rfl) ?_ _
              clear hHeld
              go_wp2
              go_roundw
              case rel => exact ⟨j + 1, by omega, by go_num, ⟨_, rfl, Lib.hid (by rw [HB.out, hno.out]; simp)⟩, hS3.drew⟩
              case measure => simp [intOf]; omega
          · obtain rfl : j = black.length := by omega
            have x_p := hS3.cell 0 rfl
            have x_b := hS3.cell 2 rfl
            have f_b := hS3.free 2 rfl
            have HT := Lib.hid (show takeB l black ⟨kk, jj, qs, qt⟩ = !(noTo (!bq) black black.length kk jj 2) by unfold takeB blackB; rw [HK2.out, HV.out]; unfold noTo; rw [List.take_length]; exact HNO.out)
            cases nb
            · have HE := Lib.hid (show takeL l black ⟨kk, jj, qs, qt⟩ = [⟨kk, jj, 2, qt⟩] by unfold takeL; rw [HT.out, hno.out, HV.out]; simp)
              have hlen := planS_len l black (sites.take k)
              have hlk : (sites.take k).length ≤ k := by rw [List.length_take]; omega
              go_wp2_with (at_builtin; refine Knd.wp_appE kSpec rfl _ _ _ rfl 167 Try.underlying68 (.agg #[.int .i64 0, .int .i64 0, .int .i64 0, .int .i64 0]) 32 infoSpec rfl (by decide) rfl ((hS3.al _).own_ 1 rfl) _ _ _ _ ⟨kk, jj, 2, qt⟩ (blkAt _ _ (by simp)) rfl (kSpec_Oi.2 ⟨rfl, rfl⟩) (by have := hS3.nodup 1 rfl; simpa [Res.own] using this) (by (try simp [maxLen]); (try omega)) (by (try simp); (try omega)) ?_; rintro gq cq wq Fq hO hB hnd hF; have hS4 := (hS3.al _).appK 1 rfl hO hB hnd hF; clear hO hB hF hS3; have x_b := hS4.cell 2 rfl; have f_b := hS4.free 2 rfl)
              go_roundw
              case rel => exact ⟨k + 1, _, Fq, by omega, by go_num, by rw [HN.out, HE.out]; have h9 := (hS4.set 2 rfl 0 (.slice (some ⟨gq, 0, none⟩) ((planS l (sites.take k) black).length + 1) cq)).drop; exact h9⟩
              case measure => simp [intOf]; omega
            · have HE := Lib.hid (show takeL l black ⟨kk, jj, qs, qt⟩ = [] by unfold takeL; rw [HT.out, hno.out]; simp)
              go_wp2
              go_roundw
              case rel => exact ⟨k + 1, _, F, by omega, by go_num, by rw [HN.out, HE.out, List.append_nil]; exact hS3.drop⟩
              case measure => simp [intOf]; omega
      · have HNO := Lib.hid (show (decide (qs = 1) && (!(black.any fun b => eqSp b kk jj 2) && specB l ⟨kk, jj, 2, qt⟩)) = !(true || (black.any fun b => eqSp b kk jj 2)) by simp [hq1])
        go_wp2
        clear x_m
        have q_s := q2
        try rw [HG.out]
        clear x_s hS hS1 r0' f2' q3'
        go_loopw [14, 15] (fun no i wr => ∃ j : Nat, j ≤ black.length ∧ i = .int .i64 j ∧ (∃ b : Bool, no = .bool b ∧ Hid (noTo true black j kk jj 2 = b)) ∧ St w [Res.box g0 (.cells #[.int .i64 kk, .int .i64 jj, .int .i64 2, .int .i64 qt] 167 (0, 0)), Res.own kSpec 167 (.slice Av (planS l (sites.take k) black).length cv) (planS l (sites.take k) black) F, Res.box (w.heap.size + 1 + 1) (.cells #[.slice Av (planS l (sites.take k) black).length cv, .int .i64 lay, .bool bare] 70 (0, 0)), Res.box (w.heap.size + 1) (.cells #[.slice none 0 0, .int .i64 0, .bool false] 70 (0, 0)), Res.box w.heap.size (.cells #[.slice A t.length c, .slice (some ad1) l.length d] 34 (0, 0))] wr) (fun _ i _ => black.length - (intOf i).toNat)
        case atStart => exact ⟨0, by omega, rfl, ⟨_, rfl, Lib.hid (by simp [noTo])⟩, hS2⟩
        case round =>
          clear hS2
          obtain ⟨j, hj, rfl, ⟨nb, rfl, hno⟩, hS3⟩ := hrel
          by_cases hlt2 : j < black.length
          · obtain ⟨b, hb⟩ := get_exU black j hlt2
            obtain ⟨ade, rfl, b0, b1, b2, b3⟩ := kSpec_at (hrb.below hS3.bel) j b hb
            have HB := Lib.hid (noTo_step (no := true) (f := kk) (p := jj) (kd := 2) hb)
            obtain ⟨bf, bp, bk, bt⟩ := b
            dsimp only at b0 b1 b2 b3
            clear hb b3
            cases nb
            · by_cases c1 : bf = kk
              · subst c1
                by_cases c2 : bp = jj
                · subst c2
                  go_wp2
                  refine wp_region_held_drew (S := (fun w' => w'.cell? ⟨g0, 0, none⟩ = some (.int .i64 kk) ∧ w'.cell? ⟨g0, 1, none⟩ = some (.int .i64 jj) ∧ w'.cell? ⟨g0, 2, none⟩ = some (.int .i64 2) ∧ w'.cell? (ade.add (j * 4)) = some (.int .i64 kk) ∧ w'.cell? ⟨(ade.add (j * 4)).block, (ade.add (j * 4)).off + 1, none⟩ = some (.int .i64 jj) ∧ w'.cell? ⟨(ade.add (j * 4)).block, (ade.add (j * 4)).off + 2, none⟩ = some (.int .i64 bk))) (by kernel_rfl) (⟨hS3.cell 0 rfl 0, hS3.cell 0 rfl 1, hS3.cell 0 rfl 2, b0, b1, b2⟩) (fun hHeld => ?_)
                  first | (refine regW 0 (v := ?_) rfl (by rfl) (by kernel_rfl) (fun _ _ _ h => h) ?_ (by assumption) ?_; rotate_left; focus (intro w9 hSw; (try dsimp only at hSw); go_simp; (try with_reducible rfl); done)) | refine regU 0 rfl (by rfl) (by kernel_rfl) (fun _ _ _ h => h) (by assumption) ?_ | refine regN 0 rfl (by rfl) (by kernel_rfl) (by assumption) ?_
                  try simp only [Act.put, List.setIfInBounds_toArray, List.set_cons_zero, List.set_cons_succ]
                  first | (refine regW 1 (v := ?_) rfl (by rfl) (by kernel_rfl) (fun _ _ _ h => h) ?_ (by assumption) ?_; rotate_left; focus (intro w9 hSw; (try dsimp only at hSw); go_simp; (try with_reducible rfl); done)) | refine regU 1 rfl (by rfl) (by kernel_rfl) (fun _ _ _ h => h) (by assumption) ?_ | refine regN 1 rfl (by rfl) (by kernel_rfl) (by assumption) ?_
                  try simp only [Act.put, List.setIfInBounds_toArray, List.set_cons_zero, List.set_cons_succ]
                  first | (refine regW 2 (v := ?_) rfl (by rfl) (by kernel_rfl) (fun _ _ _ h => h) ?_ (by assumption) ?_; rotate_left; focus (intro w9 hSw; (try dsimp only at hSw); go_simp; (try with_reducible rfl); done)) | refine regU 2 rfl (by rfl) (by kernel_rfl) (fun _ _ _ h => h) (by assumption) ?_ | refine regN 2 rfl (by rfl) (by kernel_rfl) (by assumption) ?_
                  try simp only [Act.put, List.setIfInBounds_toArray, List.set_cons_zero, List.set_cons_succ]
                  first | (refine regW 3 (v := ?_) rfl (by rfl) (by kernel_rfl) (fun _ _ _ h => h) ?_ (by assumption) ?_; rotate_left; focus (intro w9 hSw; (try dsimp only at hSw); go_simp; (try with_reducible rfl); done)) | refine regU 3 rfl (by rfl) (by kernel_rfl) (fun _ _ _ h => h) (by assumption) ?_ | refine regN 3 rfl (by rfl) (by kernel_rfl) (by assumption) ?_
                  try simp only [Act.put, List.setIfInBounds_toArray, List.set_cons_zero, List.set_cons_succ]
                  first | (refine regW 4 (v := ?_) rfl (by rfl) (by kernel_rfl) (fun _ _ _ h => h) ?_ (by assumption) ?_; rotate_left; focus (intro w9 hSw; (try dsimp only at hSw); go_simp; (try with_reducible rfl); done)) | refine regU 4 rfl (by rfl) (by kernel_rfl) (fun _ _ _ h => h) (by assumption) ?_ | refine regN 4 rfl (by rfl) (by kernel_rfl) (by assumption) ?_
                  try simp only [Act.put, List.setIfInBounds_toArray, List.set_cons_zero, List.set_cons_succ]
                  first | (refine regW 5 (v := ?_) rfl (by rfl) (by kernel_rfl) (fun _ _ _ h => h) ?_ (by assumption) ?_; rotate_left; focus (intro w9 hSw; (try dsimp only at hSw); go_simp; (try with_reducible rfl); done)) | refine regU 5 rfl (by rfl) (by kernel_rfl) (fun _ _ _ h => h) (by assumption) ?_ | refine regN 5 rfl (by rfl) (by kernel_rfl) (by assumption) ?_
                  try simp only [Act.put, List.setIfInBounds_toArray, List.set_cons_zero, List.set_cons_succ]
                  first | (refine regW 6 (v := ?_) rfl (by rfl) (by kernel_rfl) (fun _ _ _ h => h) ?_ (by assumption) ?_; rotate_left; focus (intro w9 hSw; (try dsimp only at hSw); go_simp; (try with_reducible rfl); done)) | refine regU 6 rfl (by rfl) (by kernel_rfl) (fun _ _ _ h => h) (by assumption) ?_ | refine regN 6 rfl (by rfl) (by kernel_rfl) (by assumption) ?_
                  try simp only [Act.put, List.setIfInBounds_toArray, List.set_cons_zero, List.set_cons_succ]
                  first | (refine regW 7 (v := ?_) rfl (by rfl) (by kernel_rfl) (fun _ _ _ h => h) ?_ (by assumption) ?_; rotate_left; focus (intro w9 hSw; (try dsimp only at hSw); go_simp; (try with_reducible rfl); done)) | refine regU 7 rfl (by rfl) (by kernel_rfl) (fun _ _ _ h => h) (by assumption) ?_ | refine regN 7 rfl (by rfl) (by kernel_rfl) (by assumption) ?_
                  try simp only [Act.put, List.setIfInBounds_toArray, List.set_cons_zero, List.set_cons_succ]
                  first | (refine regW 8 (v := ?_) rfl (by rfl) (by kernel_rfl) (fun _ _ _ h => h) ?_ (by assumption) ?_; rotate_left; focus (intro w9 hSw; (try dsimp only at hSw); go_simp; (try with_reducible rfl); done)) | refine regU 8 rfl (by rfl) (by kernel_rfl) (fun _ _ _ h => h) (by assumption) ?_ | refine regN 8 rfl (by rfl) (by kernel_rfl) (by assumption) ?_
                  try simp only [Act.put, List.setIfInBounds_toArray, List.set_cons_zero, List.set_cons_succ]
                  first | (refine regW 9 (v := ?_) rfl (by rfl) (by kernel_rfl) (fun _ _ _ h => h) ?_ (by assumption) ?_; rotate_left; focus (intro w9 hSw; (try dsimp only at hSw); go_simp; (try with_reducible rfl); done)) | refine regU 9 rfl (by rfl) (by kernel_rfl) (fun _ _ _ h => h) (by assumption) ?_ | refine regN 9 rfl (by rfl) (by kernel_rfl) (by assumption) ?_
                  try simp only [Act.put, List.setIfInBounds_toArray, List.set_cons_zero, List.set_cons_succ]
                  first | (refine regW 10 (v := ?_) rfl (by rfl) (by kernel_rfl) (fun _ _ _ h => h) ?_ (by assumption) ?_; rotate_left; focus (intro w9 hSw; (try dsimp only at hSw); go_simp; (try with_reducible rfl); done)) | refine regU 10 rfl (by rfl) (by kernel_rfl) (fun _ _ _ h => h) (by assumption) ?_ | refine regN 10 rfl (by rfl) (by kernel_rfl) (by assumption) ?_
                  try simp only [Act.put, List.setIfInBounds_toArray, List.set_cons_zero, List.set_cons_succ]
                  first | (refine regW 11 (v := ?_) rfl (by rfl) (by kernel_rfl) (fun _ _ _ h => h) ?_ (by assumption) ?_; rotate_left; focus (intro w9 hSw; (try dsimp only at hSw); go_simp; (try with_reducible rfl); done)) | refine regU 11 rfl (by rfl) (by kernel_rfl) (fun _ _ _ h => h) (by assumption) ?_ | refine regN 11 rfl (by rfl) (by kernel_rfl) (by assumption) ?_
                  try simp only [Act.put, List.setIfInBounds_toArray, List.set_cons_zero, List.set_cons_succ]
                  first | (refine regW 12 (v := ?_) rfl (by rfl) (by kernel_rfl) (fun _ _ _ h => h) ?_ (by assumption) ?_; rotate_left; focus (intro w9 hSw; (try dsimp only at hSw); go_simp; (try with_reducible rfl); done)) | refine regU 12 rfl (by rfl) (by kernel_rfl) (fun _ _ _ h => h) (by assumption) ?_ | refine regN 12 rfl (by rfl) (by kernel_rfl) (by assumption) ?_
                  try simp only [Act.put, List.setIfInBounds_toArray, List.set_cons_zero, List.set_cons_succ]
                  first | (refine regW 13 (v := ?_) rfl (by rfl) (by kernel_rfl) (fun _ _ _ h => h) ?_ (by assumption) ?_; rotate_left; focus (intro w9 hSw; (try dsimp only at hSw); go_simp; (try with_reducible rfl); done)) | refine regU 13 rfl (by rfl) (by kernel_rfl) (fun _ _ _ h => h) (by assumption) ?_ | refine regN 13 rfl (by rfl) (by kernel_rfl) (by assumption) ?_
                  try simp only [Act.put, List.setIfInBounds_toArray, List.set_cons_zero, List.set_cons_succ]
                  first | (refine regW 14 (v := ?_) rfl (by rfl) (by kernel_rfl) (fun _ _ _ h => h) ?_ (by assumption) ?_; rotate_left; focus (intro w9 hSw; (try dsimp only at hSw); go_simp; (try with_reducible rfl); done)) | refine regU 14 rfl (by rfl) (by kernel_rfl) (fun _ _ _ h => h) (by assumption) ?_ | refine regN 14 rfl (by rfl) (by kernel_rfl) (by assumption) ?_
                  try simp only [Act.put, List.setIfInBounds_toArray, List.set_cons_zero, List.set_cons_succ]
                  first | (refine regW 15 (v := ?_) rfl (by rfl) (by kernel_rfl) (fun _ _ _ h => h) ?_ (by assumption) ?_; rotate_left; focus (intro w9 hSw; (try dsimp only at hSw); go_simp; (try with_reducible rfl); done)) | refine regU 15 rfl (by rfl) (by kernel_rfl) (fun _ _ _ h => h) (by assumption) ?_ | refine regN 15 rfl (by rfl) (by kernel_rfl) (by assumption) ?_
                  try simp only [Act.put, List.setIfInBounds_toArray, List.set_cons_zero, List.set_cons_succ]
                  first | (refine regW 16 (v := ?_) rfl (by rfl) (by kernel_rfl) (fun _ _ _ h => h) ?_ (by assumption) ?_; rotate_left; focus (intro w9 hSw; (try dsimp only at hSw); go_simp; (try with_reducible rfl); done)) | refine regU 16 rfl (by rfl) (by kernel_rfl) (fun _ _ _ h => h) (by assumption) ?_ | refine regN 16 rfl (by rfl) (by kernel_rfl) (by assumption) ?_
                  try simp only [Act.put, List.setIfInBounds_toArray, List.set_cons_zero, List.set_cons_succ]
                  first | (refine regW 17 (v := ?_) rfl (by rfl) (by kernel_rfl) (fun _ _ _ h => h) ?_ (by assumption) ?_; rotate_left; focus (intro w9 hSw; (try dsimp only at hSw); go_simp; (try with_reducible rfl); done)) | refine regU 17 rfl (by rfl) (by kernel_rfl) (fun _ _ _ h => h) (by assumption) ?_ | refine regN 17 rfl (by rfl) (by kernel_rfl) (by assumption) ?_
                  try simp only [Act.put, List.setIfInBounds_toArray, List.set_cons_zero, List.set_cons_succ]
                  first | (refine regW 18 (v := ?_) rfl (by rfl) (by kernel_rfl) (fun _ _ _ h => h) ?_ (by assumption) ?_; rotate_left; focus (intro w9 hSw; (try dsimp only at hSw); go_simp; (try with_reducible rfl); done)) | refine regU 18 rfl (by rfl) (by kernel_rfl) (fun _ _ _ h => h) (by assumption) ?_ | refine regN 18 rfl (by rfl) (by kernel_rfl) (by assumption) ?_
                  try simp only [Act.put, List.setIfInBounds_toArray, List.set_cons_zero, List.set_cons_succ]
                  first | (refine regW 19 (v := ?_) rfl (by rfl) (by kernel_rfl) (fun _ _ _ h => h) ?_ (by assumption) ?_; rotate_left; focus (intro w9 hSw; (try dsimp only at hSw); go_simp; (try with_reducible rfl); done)) | refine regU 19 rfl (by rfl) (by kernel_rfl) (fun _ _ _ h => h) (by assumption) ?_ | refine regN 19 rfl (by rfl) (by kernel_rfl) (by assumption) ?_
                  try simp only [Act.put, List.setIfInBounds_toArray, List.set_cons_zero, List.set_cons_succ]
                  first | (refine regW 20 (v := ?_) rfl (by rfl) (by kernel_rfl) (fun _ _ _ h => h) ?_ (by assumption) ?_; rotate_left; focus (intro w9 hSw; (try dsimp only at hSw); go_simp; (try with_reducible rfl); done)) | refine regU 20 rfl (by rfl) (by kernel_rfl) (fun _ _ _ h => h) (by assumption) ?_ | refine regN 20 rfl (by rfl) (by kernel_rfl) (by assumption) ?_
                  try simp only [Act.put, List.setIfInBounds_toArray, List.set_cons_zero, List.set_cons_succ]
                  first | (refine regW 21 (v := ?_) rfl (by rfl) (by kernel_rfl) (fun _ _ _ h => h) ?_ (by assumption) ?_; rotate_left; focus (intro w9 hSw; (try dsimp only at hSw); go_simp; (try with_reducible rfl); done)) | refine regU 21 rfl (by rfl) (by kernel_rfl) (fun _ _ _ h => h) (by assumption) ?_ | refine regN 21 rfl (by rfl) (by kernel_rfl) (by assumption) ?_
                  try simp only [Act.put, List.setIfInBounds_toArray, List.set_cons_zero, List.set_cons_succ]
                  first | (refine regW 22 (v := ?_) rfl (by rfl) (by kernel_rfl) (fun _ _ _ h => h) ?_ (by assumption) ?_; rotate_left; focus (intro w9 hSw; (try dsimp only at hSw); go_simp; (try with_reducible rfl); done)) | refine regU 22 rfl (by rfl) (by kernel_rfl) (fun _ _ _ h => h) (by assumption) ?_ | refine regN 22 rfl (by rfl) (by kernel_rfl) (by assumption) ?_
                  try simp only [Act.put, List.setIfInBounds_toArray, List.set_cons_zero, List.set_cons_succ]
                  first | (refine regW 23 (v := ?_) rfl (by rfl) (by kernel_rfl) (fun _ _ _ h => h) ?_ (by assumption) ?_; rotate_left; focus (intro w9 hSw; (try dsimp only at hSw); go_simp; (try with_reducible rfl); done)) | refine regU 23 rfl (by rfl) (by kernel_rfl) (fun _ _ _ h => h) (by assumption) ?_ | refine regN 23 rfl (by rfl) (by kernel_rfl) (by assumption) ?_
                  try simp only [Act.put, List.setIfInBounds_toArray, List.set_cons_zero, List.set_cons_succ]
                  first | (refine regW 24 (v := ?_) rfl (by rfl) (by kernel_rfl) (fun _ _ _ h => h) ?_ (by assumption) ?_; rotate_left; focus (intro w9 hSw; (try dsimp only at hSw); go_simp; (try with_reducible rfl); done)) | refine regU 24 rfl (by rfl) (by kernel_rfl) (fun _ _ _ h => h) (by assumption) ?_ | refine regN 24 rfl (by rfl) (by kernel_rfl) (by assumption) ?_
                  try simp only [Act.put, List.setIfInBounds_toArray, List.set_cons_zero, List.set_cons_succ]
                  first | (refine regW 25 (v := ?_) rfl (by rfl) (by kernel_rfl) (fun _ _ _ h => h) ?_ (by assumption) ?_; rotate_left; focus (intro w9 hSw; (try dsimp only at hSw); go_simp; (try with_reducible rfl); done)) | refine regU 25 rfl (by rfl) (by kernel_rfl) (fun _ _ _ h => h) (by assumption) ?_ | refine regN 25 rfl (by rfl) (by kernel_rfl) (by assumption) ?_
                  try simp only [Act.put, List.setIfInBounds_toArray, List.set_cons_zero, List.set_cons_succ]
                  first | (refine regW 26 (v := ?_) rfl (by rfl) (by kernel_rfl) (fun _ _ _ h => h) ?_ (by assumption) ?_; rotate_left; focus (intro w9 hSw; (try dsimp only at hSw); go_simp; (try with_reducible rfl); done)) | refine regU 26 rfl (by rfl) (by kernel_rfl) (fun _ _ _ h => h) (by assumption) ?_ | refine regN 26 rfl (by rfl) (by kernel_rfl) (by assumption) ?_
                  try simp only [Act.put, List.setIfInBounds_toArray, List.set_cons_zero, List.set_cons_succ]
                  first | (refine regW 27 (v := ?_) rfl (by rfl) (by kernel_rfl) (fun _ _ _ h => h) ?_ (by assumption) ?_; rotate_left; focus (intro w9 hSw; (try dsimp only at hSw); go_simp; (try with_reducible rfl); done)) | refine regU 27 rfl (by rfl) (by kernel_rfl) (fun _ _ _ h => h) (by assumption) ?_ | refine regN 27 rfl (by rfl) (by kernel_rfl) (by assumption) ?_
                  try simp only [Act.put, List.setIfInBounds_toArray, List.set_cons_zero, List.set_cons_succ]
                  first | (refine regW 28 (v := ?_) rfl (by rfl) (by kernel_rfl) (fun _ _ _ h => h) ?_ (by assumption) ?_; rotate_left; focus (intro w9 hSw; (try dsimp only at hSw); go_simp; (try with_reducible rfl); done)) | refine regU 28 rfl (by rfl) (by kernel_rfl) (fun _ _ _ h => h) (by assumption) ?_ | refine regN 28 rfl (by rfl) (by kernel_rfl) (by assumption) ?_
                  try simp only [Act.put, List.setIfInBounds_toArray, List.set_cons_zero, List.set_cons_succ]
                  first | (refine regW 29 (v := ?_) rfl (by rfl) (by kernel_rfl) (fun _ _ _ h => h) ?_ (by assumption) ?_; rotate_left; focus (intro w9 hSw; (try dsimp only at hSw); go_simp; (try with_reducible rfl); done)) | refine regU 29 rfl (by rfl) (by kernel_rfl) (fun _ _ _ h => h) (by assumption) ?_ | refine regN 29 rfl (by rfl) (by kernel_rfl) (by assumption) ?_
                  try simp only [Act.put, List.setIfInBounds_toArray, List.set_cons_zero, List.set_cons_succ]
                  first | (refine regW 30 (v := ?_) rfl (by rfl) (by kernel_rfl) (fun _ _ _ h => h) ?_ (by assumption) ?_; rotate_left; focus (intro w9 hSw; (try dsimp only at hSw); go_simp; (try with_reducible rfl); done)) | refine regU 30 rfl (by rfl) (by kernel_rfl) (fun _ _ _ h => h) (by assumption) ?_ | refine regN 30 rfl (by rfl) (by kernel_rfl) (by assumption) ?_
                  try simp only [Act.put, List.setIfInBounds_toArray, List.set_cons_zero, List.set_cons_succ]
                  first | (refine regW 31 (v := ?_) rfl (by rfl) (by kernel_rfl) (fun _ _ _ h => h) ?_ (by assumption) ?_; rotate_left; focus (intro w9 hSw; (try dsimp only at hSw); go_simp; (try with_reducible rfl); done)) | refine regU 31 rfl (by rfl) (by kernel_rfl) (fun _ _ _ h => h) (by assumption) ?_ | refine regN 31 rfl (by rfl) (by kernel_rfl) (by assumption) ?_
                  try simp only [Act.put, List.setIfInBounds_toArray, List.set_cons_zero, List.set_cons_succ]
                  refine wpAnyH_done (by kernel_rfl) ?_ _
                  clear hHeld
                  go_wp2
                  go_roundw
                  case rel => exact ⟨j + 1, by omega, by go_num, ⟨_, rfl, Lib.hid (by rw [HB.out, hno.out]; simp [eqSp] <;> rfl)⟩, hS3.drew⟩
                  case measure => simp [intOf]; omega
                · have d2 : (bp == (jj : Int)) = false := by simp [c2]
                  go_wp2
                  refine wp_region_held_drew (S := (fun w' => w'.cell? ⟨g0, 0, none⟩ = some (.int .i64 kk) ∧ w'.cell? ⟨g0, 1, none⟩ = some (.int .i64 jj) ∧ w'.cell? ⟨g0, 2, none⟩ = some (.int .i64 2) ∧ w'.cell? (ade.add (j * 4)) = some (.int .i64 kk) ∧ w'.cell? ⟨(ade.add (j * 4)).block, (ade.add (j * 4)).off + 1, none⟩ = some (.int .i64 bp) ∧ w'.cell? ⟨(ade.add (j * 4)).block, (ade.add (j * 4)).off + 2, none⟩ = some (.int .i64 bk))) (by kernel_rfl) (⟨hS3.cell 0 rfl 0, hS3.cell 0 rfl 1, hS3.cell 0 rfl 2, b0, b1, b2⟩) (fun hHeld => ?_)
                  first | (refine regW 0 (v := ?_) rfl (by rfl) (by kernel_rfl) (fun _ _ _ h => h) ?_ (by assumption) ?_; rotate_left; focus (intro w9 hSw; (try dsimp only at hSw); go_simp; (try with_reducible rfl); done)) | refine regU 0 rfl (by rfl) (by kernel_rfl) (fun _ _ _ h => h) (by assumption) ?_ | refine regN 0 rfl (by rfl) (by kernel_rfl) (by assumption) ?_
                  try simp only [Act.put, List.setIfInBounds_toArray, List.set_cons_zero, List.set_cons_succ]
                  first | (refine regW 1 (v := ?_) rfl (by rfl) (by kernel_rfl) (fun _ _ _ h => h) ?_ (by assumption) ?_; rotate_left; focus (intro w9 hSw; (try dsimp only at hSw); go_simp; (try with_reducible rfl); done)) | refine regU 1 rfl (by rfl) (by kernel_rfl) (fun _ _ _ h => h) (by assumption) ?_ | refine regN 1 rfl (by rfl) (by kernel_rfl) (by assumption) ?_
                  try simp only [Act.put, List.setIfInBounds_toArray, List.set_cons_zero, List.set_cons_succ]
                  first | (refine regW 2 (v := ?_) rfl (by rfl) (by kernel_rfl) (fun _ _ _ h => h) ?_ (by assumption) ?_; rotate_left; focus (intro w9 hSw; (try dsimp only at hSw); go_simp; (try with_reducible rfl); done)) | refine regU 2 rfl (by rfl) (by kernel_rfl) (fun _ _ _ h => h) (by assumption) ?_ | refine regN 2 rfl (by rfl) (by kernel_rfl) (by assumption) ?_
                  try simp only [Act.put, List.setIfInBounds_toArray, List.set_cons_zero, List.set_cons_succ]
                  first | (refine regW 3 (v := ?_) rfl (by rfl) (by kernel_rfl) (fun _ _ _ h => h) ?_ (by assumption) ?_; rotate_left; focus (intro w9 hSw; (try dsimp only at hSw); go_simp; (try with_reducible rfl); done)) | refine regU 3 rfl (by rfl) (by kernel_rfl) (fun _ _ _ h => h) (by assumption) ?_ | refine regN 3 rfl (by rfl) (by kernel_rfl) (by assumption) ?_
                  try simp only [Act.put, List.setIfInBounds_toArray, List.set_cons_zero, List.set_cons_succ]
                  first | (refine regW 4 (v := ?_) rfl (by rfl) (by kernel_rfl) (fun _ _ _ h => h) ?_ (by assumption) ?_; rotate_left; focus (intro w9 hSw; (try dsimp only at hSw); go_simp; (try with_reducible rfl); done)) | refine regU 4 rfl (by rfl) (by kernel_rfl) (fun _ _ _ h => h) (by assumption) ?_ | refine regN 4 rfl (by rfl) (by kernel_rfl) (by assumption) ?_
                  try simp only [Act.put, List.setIfInBounds_toArray, List.set_cons_zero, List.set_cons_succ]
                  first | (refine regW 5 (v := ?_) rfl (by rfl) (by kernel_rfl) (fun _ _ _ h => h) ?_ (by assumption) ?_; rotate_left; focus (intro w9 hSw; (try dsimp only at hSw); go_simp; (try with_reducible rfl); done)) | refine regU 5 rfl (by rfl) (by kernel_rfl) (fun _ _ _ h => h) (by assumption) ?_ | refine regN 5 rfl (by rfl) (by kernel_rfl) (by assumption) ?_
                  try simp only [Act.put, List.setIfInBounds_toArray, List.set_cons_zero, List.set_cons_succ]
                  first | (refine regW 6 (v := ?_) rfl (by rfl) (by kernel_rfl) (fun _ _ _ h => h) ?_ (by assumption) ?_; rotate_left; focus (intro w9 hSw; (try dsimp only at hSw); go_simp; (try with_reducible rfl); done)) | refine regU 6 rfl (by rfl) (by kernel_rfl) (fun _ _ _ h => h) (by assumption) ?_ | refine regN 6 rfl (by rfl) (by kernel_rfl) (by assumption) ?_
                  try simp only [Act.put, List.setIfInBounds_toArray, List.set_cons_zero, List.set_cons_succ]
                  first | (refine regW 7 (v := ?_) rfl (by rfl) (by kernel_rfl) (fun _ _ _ h => h) ?_ (by assumption) ?_; rotate_left; focus (intro w9 hSw; (try dsimp only at hSw); go_simp; (try with_reducible rfl); done)) | refine regU 7 rfl (by rfl) (by kernel_rfl) (fun _ _ _ h => h) (by assumption) ?_ | refine regN 7 rfl (by rfl) (by kernel_rfl) (by assumption) ?_
                  try simp only [Act.put, List.setIfInBounds_toArray, List.set_cons_zero, List.set_cons_succ]
                  first | (refine regW 8 (v := ?_) rfl (by rfl) (by kernel_rfl) (fun _ _ _ h => h) ?_ (by assumption) ?_; rotate_left; focus (intro w9 hSw; (try dsimp only at hSw); go_simp; (try with_reducible rfl); done)) | refine regU 8 rfl (by rfl) (by kernel_rfl) (fun _ _ _ h => h) (by assumption) ?_ | refine regN 8 rfl (by rfl) (by kernel_rfl) (by assumption) ?_
                  try simp only [Act.put, List.setIfInBounds_toArray, List.set_cons_zero, List.set_cons_succ]
                  first | (refine regW 9 (v := ?_) rfl (by rfl) (by kernel_rfl) (fun _ _ _ h => h) ?_ (by assumption) ?_; rotate_left; focus (intro w9 hSw; (try dsimp only at hSw); go_simp; (try with_reducible rfl); done)) | refine regU 9 rfl (by rfl) (by kernel_rfl) (fun _ _ _ h => h) (by assumption) ?_ | refine regN 9 rfl (by rfl) (by kernel_rfl) (by assumption) ?_
                  try simp only [Act.put, List.setIfInBounds_toArray, List.set_cons_zero, List.set_cons_succ]
                  first | (refine regW 10 (v := ?_) rfl (by rfl) (by kernel_rfl) (fun _ _ _ h => h) ?_ (by assumption) ?_; rotate_left; focus (intro w9 hSw; (try dsimp only at hSw); go_simp; (try with_reducible rfl); done)) | refine regU 10 rfl (by rfl) (by kernel_rfl) (fun _ _ _ h => h) (by assumption) ?_ | refine regN 10 rfl (by rfl) (by kernel_rfl) (by assumption) ?_
                  try simp only [Act.put, List.setIfInBounds_toArray, List.set_cons_zero, List.set_cons_succ]
                  first | (refine regW 11 (v := ?_) rfl (by rfl) (by kernel_rfl) (fun _ _ _ h => h) ?_ (by assumption) ?_; rotate_left; focus (intro w9 hSw; (try dsimp only at hSw); go_simp; (try with_reducible rfl); done)) | refine regU 11 rfl (by rfl) (by kernel_rfl) (fun _ _ _ h => h) (by assumption) ?_ | refine regN 11 rfl (by rfl) (by kernel_rfl) (by assumption) ?_
                  try simp only [Act.put, List.setIfInBounds_toArray, List.set_cons_zero, List.set_cons_succ]
                  first | (refine regW 12 (v := ?_) rfl (by rfl) (by kernel_rfl) (fun _ _ _ h => h) ?_ (by assumption) ?_; rotate_left; focus (intro w9 hSw; (try dsimp only at hSw); go_simp; (try with_reducible rfl); done)) | refine regU 12 rfl (by rfl) (by kernel_rfl) (fun _ _ _ h => h) (by assumption) ?_ | refine regN 12 rfl (by rfl) (by kernel_rfl) (by assumption) ?_
                  try simp only [Act.put, List.setIfInBounds_toArray, List.set_cons_zero, List.set_cons_succ]
                  first | (refine regW 13 (v := ?_) rfl (by rfl) (by kernel_rfl) (fun _ _ _ h => h) ?_ (by assumption) ?_; rotate_left; focus (intro w9 hSw; (try dsimp only at hSw); go_simp; (try with_reducible rfl); done)) | refine regU 13 rfl (by rfl) (by kernel_rfl) (fun _ _ _ h => h) (by assumption) ?_ | refine regN 13 rfl (by rfl) (by kernel_rfl) (by assumption) ?_
                  try simp only [Act.put, List.setIfInBounds_toArray, List.set_cons_zero, List.set_cons_succ]
                  first | (refine regW 14 (v := ?_) rfl (by rfl) (by kernel_rfl) (fun _ _ _ h => h) ?_ (by assumption) ?_; rotate_left; focus (intro w9 hSw; (try dsimp only at hSw); go_simp; (try with_reducible rfl); done)) | refine regU 14 rfl (by rfl) (by kernel_rfl) (fun _ _ _ h => h) (by assumption) ?_ | refine regN 14 rfl (by rfl) (by kernel_rfl) (by assumption) ?_
                  try simp only [Act.put, List.setIfInBounds_toArray, List.set_cons_zero, List.set_cons_succ]
                  first | (refine regW 15 (v := ?_) rfl (by rfl) (by kernel_rfl) (fun _ _ _ h => h) ?_ (by assumption) ?_; rotate_left; focus (intro w9 hSw; (try dsimp only at hSw); go_simp; (try with_reducible rfl); done)) | refine regU 15 rfl (by rfl) (by kernel_rfl) (fun _ _ _ h => h) (by assumption) ?_ | refine regN 15 rfl (by rfl) (by kernel_rfl) (by assumption) ?_
                  try simp only [Act.put, List.setIfInBounds_toArray, List.set_cons_zero, List.set_cons_succ]
                  first | (refine regW 16 (v := ?_) rfl (by rfl) (by kernel_rfl) (fun _ _ _ h => h) ?_ (by assumption) ?_; rotate_left; focus (intro w9 hSw; (try dsimp only at hSw); go_simp; (try with_reducible rfl); done)) | refine regU 16 rfl (by rfl) (by kernel_rfl) (fun _ _ _ h => h) (by assumption) ?_ | refine regN 16 rfl (by rfl) (by kernel_rfl) (by assumption) ?_
                  try simp only [Act.put, List.setIfInBounds_toArray, List.set_cons_zero, List.set_cons_succ]
                  first | (refine regW 17 (v := ?_) rfl (by rfl) (by kernel_rfl) (fun _ _ _ h => h) ?_ (by assumption) ?_; rotate_left; focus (intro w9 hSw; (try dsimp only at hSw); go_simp; (try with_reducible rfl); done)) | refine regU 17 rfl (by rfl) (by kernel_rfl) (fun _ _ _ h => h) (by assumption) ?_ | refine regN 17 rfl (by rfl) (by kernel_rfl) (by assumption) ?_
                  try simp only [Act.put, List.setIfInBounds_toArray, List.set_cons_zero, List.set_cons_succ]
                  first | (refine regW 18 (v := ?_) rfl (by rfl) (by kernel_rfl) (fun _ _ _ h => h) ?_ (by assumption) ?_; rotate_left; focus (intro w9 hSw; (try dsimp only at hSw); go_simp; (try with_reducible rfl); done)) | refine regU 18 rfl (by rfl) (by kernel_rfl) (fun _ _ _ h => h) (by assumption) ?_ | refine regN 18 rfl (by rfl) (by kernel_rfl) (by assumption) ?_
                  try simp only [Act.put, List.setIfInBounds_toArray, List.set_cons_zero, List.set_cons_succ]
                  first | (refine regW 19 (v := ?_) rfl (by rfl) (by kernel_rfl) (fun _ _ _ h => h) ?_ (by assumption) ?_; rotate_left; focus (intro w9 hSw; (try dsimp only at hSw); go_simp; (try with_reducible rfl); done)) | refine regU 19 rfl (by rfl) (by kernel_rfl) (fun _ _ _ h => h) (by assumption) ?_ | refine regN 19 rfl (by rfl) (by kernel_rfl) (by assumption) ?_
                  try simp only [Act.put, List.setIfInBounds_toArray, List.set_cons_zero, List.set_cons_succ]
                  first | (refine regW 20 (v := ?_) rfl (by rfl) (by kernel_rfl) (fun _ _ _ h => h) ?_ (by assumption) ?_; rotate_left; focus (intro w9 hSw; (try dsimp only at hSw); go_simp; (try with_reducible rfl); done)) | refine regU 20 rfl (by rfl) (by kernel_rfl) (fun _ _ _ h => h) (by assumption) ?_ | refine regN 20 rfl (by rfl) (by kernel_rfl) (by assumption) ?_
                  try simp only [Act.put, List.setIfInBounds_toArray, List.set_cons_zero, List.set_cons_succ]
                  refine regS (fun _ _ _ d h => by cases d <;> exact h) [21, 22, 23, 24, 25, 26, 27, 28] _ _ _ rfl (by kernel_rfl) (by assumption) ?_
                  simp only [skipL, List.getElem?_cons_zero, List.getElem?_cons_succ, Option.bind_some, Act.put, List.setIfInBounds_toArray, List.set_cons_zero, List.set_cons_succ]
                  first | (refine regW 29 (v := ?_) rfl (by rfl) (by kernel_rfl) (fun _ _ _ h => h) ?_ (by assumption) ?_; rotate_left; focus (intro w9 hSw; (try dsimp only at hSw); go_simp; (try with_reducible rfl); done)) | refine regU 29 rfl (by rfl) (by kernel_rfl) (fun _ _ _ h => h) (by assumption) ?_ | refine regN 29 rfl (by rfl) (by kernel_rfl) (by assumption) ?_
                  try simp only [Act.put, List.setIfInBounds_toArray, List.set_cons_zero, List.set_cons_succ]
                  first | (refine regW 30 (v := ?_) rfl (by rfl) (by kernel_rfl) (fun _ _ _ h => h) ?_ (by assumption) ?_; rotate_left; focus (intro w9 hSw; (try dsimp only at hSw); go_simp; (try with_reducible rfl); done)) | refine regU 30 rfl (by rfl) (by kernel_rfl) (fun _ _ _ h => h) (by assumption) ?_ | refine regN 30 rfl (by rfl) (by kernel_rfl) (by assumption) ?_
                  try simp only [Act.put, List.setIfInBounds_toArray, List.set_cons_zero, List.set_cons_succ]
                  first | (refine regW 31 (v := ?_) rfl (by rfl) (by kernel_rfl) (fun _ _ _ h => h) ?_ (by assumption) ?_; rotate_left; focus (intro w9 hSw; (try dsimp only at hSw); go_simp; (try with_reducible rfl); done)) | refine regU 31 rfl (by rfl) (by kernel_rfl) (fun _ _ _ h => h) (by assumption) ?_ | refine regN 31 rfl (by rfl) (by kernel_rfl) (by assumption) ?_
                  try simp only [Act.put, List.setIfInBounds_toArray, List.set_cons_zero, List.set_cons_succ]
                  refine wpAnyH_done (by kernel_rfl) ?_ _
                  clear hHeld
                  go_wp2
                  go_roundw
                  case rel => exact ⟨j + 1, by omega, by go_num, ⟨_, rfl, Lib.hid (by rw [HB.out, hno.out]; simp [eqSp, c2])⟩, hS3.drew⟩
                  case measure => simp [intOf]; omega
              · have d1 : (bf == (kk : Int)) = false := by simp [c1]
                go_wp2
                refine wp_region_held_drew (S := (fun w' => w'.cell? ⟨g0, 0, none⟩ = some (.int .i64 kk) ∧ w'.cell? ⟨g0, 1, none⟩ = some (.int .i64 jj) ∧ w'.cell? ⟨g0, 2, none⟩ = some (.int .i64 2) ∧ w'.cell? (ade.add (j * 4)) = some (.int .i64 bf) ∧ w'.cell? ⟨(ade.add (j * 4)).block, (ade.add (j * 4)).off + 1, none⟩ = some (.int .i64 bp) ∧ w'.cell? ⟨(ade.add (j * 4)).block, (ade.add (j * 4)).off + 2, none⟩ = some (.int .i64 bk))) (by kernel_rfl) (⟨hS3.cell 0 rfl 0, hS3.cell 0 rfl 1, hS3.cell 0 rfl 2, b0, b1, b2⟩) (fun hHeld => ?_)
                first | (refine regW 0 (v := ?_) rfl (by rfl) (by kernel_rfl) (fun _ _ _ h => h) ?_ (by assumption) ?_; rotate_left; focus (intro w9 hSw; (try dsimp only at hSw); go_simp; (try with_reducible rfl); done)) | refine regU 0 rfl (by rfl) (by kernel_rfl) (fun _ _ _ h => h) (by assumption) ?_ | refine regN 0 rfl (by rfl) (by kernel_rfl) (by assumption) ?_
                try simp only [Act.put, List.setIfInBounds_toArray, List.set_cons_zero, List.set_cons_succ]
                first | (refine regW 1 (v := ?_) rfl (by rfl) (by kernel_rfl) (fun _ _ _ h => h) ?_ (by assumption) ?_; rotate_left; focus (intro w9 hSw; (try dsimp only at hSw); go_simp; (try with_reducible rfl); done)) | refine regU 1 rfl (by rfl) (by kernel_rfl) (fun _ _ _ h => h) (by assumption) ?_ | refine regN 1 rfl (by rfl) (by kernel_rfl) (by assumption) ?_
                try simp only [Act.put, List.setIfInBounds_toArray, List.set_cons_zero, List.set_cons_succ]
                first | (refine regW 2 (v := ?_) rfl (by rfl) (by kernel_rfl) (fun _ _ _ h => h) ?_ (by assumption) ?_; rotate_left; focus (intro w9 hSw; (try dsimp only at hSw); go_simp; (try with_reducible rfl); done)) | refine regU 2 rfl (by rfl) (by kernel_rfl) (fun _ _ _ h => h) (by assumption) ?_ | refine regN 2 rfl (by rfl) (by kernel_rfl) (by assumption) ?_
                try simp only [Act.put, List.setIfInBounds_toArray, List.set_cons_zero, List.set_cons_succ]
                first | (refine regW 3 (v := ?_) rfl (by rfl) (by kernel_rfl) (fun _ _ _ h => h) ?_ (by assumption) ?_; rotate_left; focus (intro w9 hSw; (try dsimp only at hSw); go_simp; (try with_reducible rfl); done)) | refine regU 3 rfl (by rfl) (by kernel_rfl) (fun _ _ _ h => h) (by assumption) ?_ | refine regN 3 rfl (by rfl) (by kernel_rfl) (by assumption) ?_
                try simp only [Act.put, List.setIfInBounds_toArray, List.set_cons_zero, List.set_cons_succ]
                first | (refine regW 4 (v := ?_) rfl (by rfl) (by kernel_rfl) (fun _ _ _ h => h) ?_ (by assumption) ?_; rotate_left; focus (intro w9 hSw; (try dsimp only at hSw); go_simp; (try with_reducible rfl); done)) | refine regU 4 rfl (by rfl) (by kernel_rfl) (fun _ _ _ h => h) (by assumption) ?_ | refine regN 4 rfl (by rfl) (by kernel_rfl) (by assumption) ?_
                try simp only [Act.put, List.setIfInBounds_toArray, List.set_cons_zero, List.set_cons_succ]
                first | (refine regW 5 (v := ?_) rfl (by rfl) (by kernel_rfl) (fun _ _ _ h => h) ?_ (by assumption) ?_; rotate_left; focus (intro w9 hSw; (try dsimp only at hSw); go_simp; (try with_reducible rfl); done)) | refine regU 5 rfl (by rfl) (by kernel_rfl) (fun _ _ _ h => h) (by assumption) ?_ | refine regN 5 rfl (by rfl) (by kernel_rfl) (by assumption) ?_
                try simp only [Act.put, List.setIfInBounds_toArray, List.set_cons_zero, List.set_cons_succ]
                first | (refine regW 6 (v := ?_) rfl (by rfl) (by kernel_rfl) (fun _ _ _ h => h) ?_ (by assumption) ?_; rotate_left; focus (intro w9 hSw; (try dsimp only at hSw); go_simp; (try with_reducible rfl); done)) | refine regU 6 rfl (by rfl) (by kernel_rfl) (fun _ _ _ h => h) (by assumption) ?_ | refine regN 6 rfl (by rfl) (by kernel_rfl) (by assumption) ?_
                try simp only [Act.put, List.setIfInBounds_toArray, List.set_cons_zero, List.set_cons_succ]
                first | (refine regW 7 (v := ?_) rfl (by rfl) (by kernel_rfl) (fun _ _ _ h => h) ?_ (by assumption) ?_; rotate_left; focus (intro w9 hSw; (try dsimp only at hSw); go_simp; (try with_reducible rfl); done)) | refine regU 7 rfl (by rfl) (by kernel_rfl) (fun _ _ _ h => h) (by assumption) ?_ | refine regN 7 rfl (by rfl) (by kernel_rfl) (by assumption) ?_
                try simp only [Act.put, List.setIfInBounds_toArray, List.set_cons_zero, List.set_cons_succ]
                first | (refine regW 8 (v := ?_) rfl (by rfl) (by kernel_rfl) (fun _ _ _ h => h) ?_ (by assumption) ?_; rotate_left; focus (intro w9 hSw; (try dsimp only at hSw); go_simp; (try with_reducible rfl); done)) | refine regU 8 rfl (by rfl) (by kernel_rfl) (fun _ _ _ h => h) (by assumption) ?_ | refine regN 8 rfl (by rfl) (by kernel_rfl) (by assumption) ?_
                try simp only [Act.put, List.setIfInBounds_toArray, List.set_cons_zero, List.set_cons_succ]
                first | (refine regW 9 (v := ?_) rfl (by rfl) (by kernel_rfl) (fun _ _ _ h => h) ?_ (by assumption) ?_; rotate_left; focus (intro w9 hSw; (try dsimp only at hSw); go_simp; (try with_reducible rfl); done)) | refine regU 9 rfl (by rfl) (by kernel_rfl) (fun _ _ _ h => h) (by assumption) ?_ | refine regN 9 rfl (by rfl) (by kernel_rfl) (by assumption) ?_
                try simp only [Act.put, List.setIfInBounds_toArray, List.set_cons_zero, List.set_cons_succ]
                first | (refine regW 10 (v := ?_) rfl (by rfl) (by kernel_rfl) (fun _ _ _ h => h) ?_ (by assumption) ?_; rotate_left; focus (intro w9 hSw; (try dsimp only at hSw); go_simp; (try with_reducible rfl); done)) | refine regU 10 rfl (by rfl) (by kernel_rfl) (fun _ _ _ h => h) (by assumption) ?_ | refine regN 10 rfl (by rfl) (by kernel_rfl) (by assumption) ?_
                try simp only [Act.put, List.setIfInBounds_toArray, List.set_cons_zero, List.set_cons_succ]
                refine regS (fun _ _ _ d h => by cases d <;> exact h) [11, 12, 13, 14, 15, 16, 17, 18] _ _ _ rfl (by kernel_rfl) (by assumption) ?_
                simp only [skipL, List.getElem?_cons_zero, List.getElem?_cons_succ, Option.bind_some, Act.put, List.setIfInBounds_toArray, List.set_cons_zero, List.set_cons_succ]
                first | (refine regW 19 (v := ?_) rfl (by rfl) (by kernel_rfl) (fun _ _ _ h => h) ?_ (by assumption) ?_; rotate_left; focus (intro w9 hSw; (try dsimp only at hSw); go_simp; (try with_reducible rfl); done)) | refine regU 19 rfl (by rfl) (by kernel_rfl) (fun _ _ _ h => h) (by assumption) ?_ | refine regN 19 rfl (by rfl) (by kernel_rfl) (by assumption) ?_
                try simp only [Act.put, List.setIfInBounds_toArray, List.set_cons_zero, List.set_cons_succ]
                first | (refine regW 20 (v := ?_) rfl (by rfl) (by kernel_rfl) (fun _ _ _ h => h) ?_ (by assumption) ?_; rotate_left; focus (intro w9 hSw; (try dsimp only at hSw); go_simp; (try with_reducible rfl); done)) | refine regU 20 rfl (by rfl) (by kernel_rfl) (fun _ _ _ h => h) (by assumption) ?_ | refine regN 20 rfl (by rfl) (by kernel_rfl) (by assumption) ?_
                try simp only [Act.put, List.setIfInBounds_toArray, List.set_cons_zero, List.set_cons_succ]
                refine regS (fun _ _ _ d h => by cases d <;> exact h) [21, 22, 23, 24, 25, 26, 27, 28] _ _ _ rfl (by kernel_rfl) (by assumption) ?_
                simp only [skipL, List.getElem?_cons_zero, List.getElem?_cons_succ, Option.bind_some, Act.put, List.setIfInBounds_toArray, List.set_cons_zero, List.set_cons_succ]
                first | (refine regW 29 (v := ?_) rfl (by rfl) (by kernel_rfl) (fun _ _ _ h => h) ?_ (by assumption) ?_; rotate_left; focus (intro w9 hSw; (try dsimp only at hSw); go_simp; (try with_reducible rfl); done)) | refine regU 29 rfl (by rfl) (by kernel_rfl) (fun _ _ _ h => h) (by assumption) ?_ | refine regN 29 rfl (by rfl) (by kernel_rfl) (by assumption) ?_
                try simp only [Act.put, List.setIfInBounds_toArray, List.set_cons_zero, List.set_cons_succ]
                first | (refine regW 30 (v := ?_) rfl (by rfl) (by kernel_rfl) (fun _ _ _ h => h) ?_ (by assumption) ?_; rotate_left; focus (intro w9 hSw; (try dsimp only at hSw); go_simp; (try with_reducible rfl); done)) | refine regU 30 rfl (by rfl) (by kernel_rfl) (fun _ _ _ h => h) (by assumption) ?_ | refine regN 30 rfl (by rfl) (by kernel_rfl) (by assumption) ?_
                try simp only [Act.put, List.setIfInBounds_toArray, List.set_cons_zero, List.set_cons_succ]
                first | (refine regW 31 (v := ?_) rfl (by rfl) (by kernel_rfl) (fun _ _ _ h => h) ?_ (by assumption) ?_; rotate_left; focus (intro w9 hSw; (try dsimp only at hSw); go_simp; (try with_reducible rfl); done)) | refine regU 31 rfl (by rfl) (by kernel_rfl) (fun _ _ _ h => h) (by assumption) ?_ | refine regN 31 rfl (by rfl) (by kernel_rfl) (by assumption) ?_
                try simp only [Act.put, List.setIfInBounds_toArray, List.set_cons_zero, List.set_cons_succ]
                refine wpAnyH_done (by kernel_rfl) ?_ _
                clear hHeld
                go_wp2
                go_roundw
                case rel => exact ⟨j + 1, by omega, by go_num, ⟨_, rfl, Lib.hid (by rw [HB.out, hno.out]; simp [eqSp, c1])⟩, hS3.drew⟩
                case measure => simp [intOf]; omega
            · go_wp2
              refine wp_region_held_drew (S := (fun w' => w'.cell? ⟨g0, 0, none⟩ = some (.int .i64 kk) ∧ w'.cell? ⟨g0, 1, none⟩ = some (.int .i64 jj) ∧ w'.cell? ⟨g0, 2, none⟩ = some (.int .i64 2) ∧ w'.cell? (ade.add (j * 4)) = some (.int .i64 bf) ∧ w'.cell? ⟨(ade.add (j * 4)).block, (ade.add (j * 4)).off + 1, none⟩ = some (.int .i64 bp) ∧ w'.cell? ⟨(ade.add (j * 4)).block, (ade.add (j * 4)).off + 2, none⟩ = some (.int .i64 bk))) (by kernel_rfl) (⟨hS3.cell 0 rfl 0, hS3.cell 0 rfl 1, hS3.cell 0 rfl 2, b0, b1, b2⟩) (fun hHeld => ?_)
              first | (refine regW 0 (v := ?_) rfl (by rfl) (by kernel_rfl) (fun _ _ _ h => h) ?_ (by assumption) ?_; rotate_left; focus (intro w9 hSw; (try dsimp only at hSw); go_simp; (try with_reducible rfl); done)) | refine regU 0 rfl (by rfl) (by kernel_rfl) (fun _ _ _ h => h) (by assumption) ?_ | refine regN 0 rfl (by rfl) (by kernel_rfl) (by assumption) ?_
              try simp only [Act.put, List.setIfInBounds_toArray, List.set_cons_zero, List.set_cons_succ]
              first | (refine regW 1 (v := ?_) rfl (by rfl) (by kernel_rfl) (fun _ _ _ h => h) ?_ (by assumption) ?_; rotate_left; focus (intro w9 hSw; (try dsimp only at hSw); go_simp; (try with_reducible rfl); done)) | refine regU 1 rfl (by rfl) (by kernel_rfl) (fun _ _ _ h => h) (by assumption) ?_ | refine regN 1 rfl (by rfl) (by kernel_rfl) (by assumption) ?_
              try simp only [Act.put, List.setIfInBounds_toArray, List.set_cons_zero, List.set_cons_succ]
              refine regS (fun _ _ _ d h => by cases d <;> exact h) [2, 3, 4, 5, 6, 7, 8, 9, 10, 11, 12, 13, 14, 15, 16, 17, 18, 19, 20, 21, 22, 23, 24, 25, 26, 27, 28, 29] _ _ _ rfl (by kernel_rfl) (by assumption) ?_
              simp only [skipL, List.getElem?_cons_zero, List.getElem?_cons_succ, Option.bind_some, Act.put, List.setIfInBounds_toArray, List.set_cons_zero, List.set_cons_succ]
              first | (refine regW 30 (v := ?_) rfl (by rfl) (by kernel_rfl) (fun _ _ _ h => h) ?_ (by assumption) ?_; rotate_left; focus (intro w9 hSw; (try dsimp only at hSw); go_simp; (try with_reducible rfl); done)) | refine regU 30 rfl (by rfl) (by kernel_rfl) (fun _ _ _ h => h) (by assumption) ?_ | refine regN 30 rfl (by rfl) (by kernel_rfl) (by assumption) ?_
              try simp only [Act.put, List.setIfInBounds_toArray, List.set_cons_zero, List.set_cons_succ]
              first | (refine regW 31 (v := ?_) rfl (by rfl) (by kernel_rfl) (fun _ _ _ h => h) ?_ (by assumption) ?_; rotate_left; focus (intro w9 hSw; (try dsimp only at hSw); go_simp; (try with_reducible rfl); done)) | refine regU 31 rfl (by rfl) (by kernel_rfl) (fun _ _ _ h => h) (by assumption) ?_ | refine regN 31 rfl (by rfl) (by kernel_rfl) (by assumption) ?_
              try simp only [Act.put, List.setIfInBounds_toArray, List.set_cons_zero, List.set_cons_succ]
              refine wpAnyH_done (by kernel_rfl) ?_ _
              clear hHeld
              go_wp2
              go_roundw
              case rel => exact ⟨j + 1, by omega, by go_num, ⟨_, rfl, Lib.hid (by rw [HB.out, hno.out]; simp)⟩, hS3.drew⟩
              case measure => simp [intOf]; omega
          · obtain rfl : j = black.length := by omega
            have x_p := hS3.cell 0 rfl
            have x_b := hS3.cell 2 rfl
            have f_b := hS3.free 2 rfl
            have HT := Lib.hid (show takeB l black ⟨kk, jj, qs, qt⟩ = !(noTo true black black.length kk jj 2) by unfold takeB blackB; rw [HK2.out, HV.out]; unfold noTo; rw [List.take_length]; exact HNO.out)
            cases nb
            · have HE := Lib.hid (show takeL l black ⟨kk, jj, qs, qt⟩ = [⟨kk, jj, 2, qt⟩] by unfold takeL; rw [HT.out, hno.out, HV.out]; simp)
              have hlen := planS_len l black (sites.take k)
              have hlk : (sites.take k).length ≤ k := by rw [List.length_take]; omega
              go_wp2_with (at_builtin; refine Knd.wp_appE kSpec rfl _ _ _ rfl 167 Try.underlying68 (.agg #[.int .i64 0, .int .i64 0, .int .i64 0, .int .i64 0]) 32 infoSpec rfl (by decide) rfl ((hS3.al _).own_ 1 rfl) _ _ _ _ ⟨kk, jj, 2, qt⟩ (blkAt _ _ (by simp)) rfl (kSpec_Oi.2 ⟨rfl, rfl⟩) (by have := hS3.nodup 1 rfl; simpa [Res.own] using this) (by (try simp [maxLen]); (try omega)) (by (try simp); (try omega)) ?_; rintro gq cq wq Fq hO hB hnd hF; have hS4 := (hS3.al _).appK 1 rfl hO hB hnd hF; clear hO hB hF hS3; have x_b := hS4.cell 2 rfl; have f_b := hS4.free 2 rfl)
              go_roundw
              case rel => exact ⟨k + 1, _, Fq, by omega, by go_num, by rw [HN.out, HE.out]; have h9 := (hS4.set 2 rfl 0 (.slice (some ⟨gq, 0, none⟩) ((planS l (sites.take k) black).length + 1) cq)).drop; exact h9⟩
              case measure => simp [intOf]; omega
            · have HE := Lib.hid (show takeL l black ⟨kk, jj, qs, qt⟩ = [] by unfold takeL; rw [HT.out, hno.out]; simp)
              go_wp2
              go_roundw
              case rel => exact ⟨k + 1, _, F, by omega, by go_num, by rw [HN.out, HE.out, List.append_nil]; exact hS3.drop⟩
              case measure => simp [intOf]; omega
    · have q00 := siteX_tgt HSX.out h23
      dsimp only at q00
      subst q00
      have HK2 := Lib.hid (show kindOf l ⟨kk, jj, qs, 0⟩ = 1 from HK.out.trans (by rw [if_neg h23]))
      have HV := Lib.hid (show specOf l ⟨kk, jj, qs, 0⟩ = ⟨kk, jj, 1, 0⟩ by unfold specOf; rw [HK2.out])
      have hS2 := ((hS.made (.cells #[.int .i64 kk, .int .i64 jj, .int .i64 1, .int .i64 0] 167 (0, 0))).drew).drew
      obtain ⟨g0, hg0⟩ : ∃ g, wr.heap.size = g := ⟨_, rfl⟩
      have HG := Lib.hid hg0
      rw [hg0] at hS2
      have x_m := hS2.cell 4 rfl
      have x_s := hS2.cell 0 rfl
      rw [← hg0] at x_s
      by_cases hq1 : qs = 1
      · obtain ⟨bq, hsp⟩ : ∃ b, specB l ⟨kk, jj, 1, 0⟩ = b := ⟨_, rfl⟩
        have HS := Lib.hid hsp
        have HNO := Lib.hid (show (decide (qs = 1) && (!(black.any fun b => eqSp b kk jj 1) && specB l ⟨kk, jj, 1, 0⟩)) = !((!bq) || (black.any fun b => eqSp b kk jj 1)) by rw [hsp, hq1]; cases bq <;> cases (black.any fun b => eqSp b kk jj 1) <;> rfl)
        clear hsp
        go_wp2_with fail
        refine (spec9' A (some ad1) c d t l kk jj 1 0 _ (h.below hS2.bel) HS.out).mono ?_
        rintro e w5 ⟨rfl, hb5⟩
        replace hS2 := hS2.step hb5
        clear hb5 x_m x_s hS hS1 r0' f2' q2' q2'' q3' q2 q3
        rw [HG.out]
        clear hg0
        go_wp2
        go_loopw [14, 15] (fun no i wr => ∃ j : Nat, j ≤ black.length ∧ i = .int .i64 j ∧ (∃ b : Bool, no = .bool b ∧ Hid (noTo (!bq) black j kk jj 1 = b)) ∧ St w [Res.box g0 (.cells #[.int .i64 kk, .int .i64 jj, .int .i64 1, .int .i64 0] 167 (0, 0)), Res.own kSpec 167 (.slice Av (planS l (sites.take k) black).length cv) (planS l (sites.take k) black) F, Res.box (w.heap.size + 1 + 1) (.cells #[.slice Av (planS l (sites.take k) black).length cv, .int .i64 lay, .bool bare] 70 (0, 0)), Res.box (w.heap.size + 1) (.cells #[.slice none 0 0, .int .i64 0, .bool false] 70 (0, 0)), Res.box w.heap.size (.cells #[.slice A t.length c, .slice (some ad1) l.length d] 34 (0, 0))] wr) (fun _ i _ => black.length - (intOf i).toNat)
        case atStart => exact ⟨0, by omega, rfl, ⟨_, rfl, Lib.hid (by simp [noTo])⟩, hS2⟩
        case round =>
          clear hS2
          obtain ⟨j, hj, rfl, ⟨nb, rfl, hno⟩, hS3⟩ := hrel
          by_cases hlt2 : j < black.length
          · obtain ⟨b, hb⟩ := get_exU black j hlt2
            obtain ⟨ade, rfl, b0, b1, b2, b3⟩ := kSpec_at (hrb.below hS3.bel) j b hb
            have HB := Lib.hid (noTo_step (no := (!bq)) (f := kk) (p := jj) (kd := 1) hb)
            obtain ⟨bf, bp, bk, bt⟩ := b
            dsimp only at b0 b1 b2 b3
            clear hb b3
            cases nb
            · by_cases c1 : bf = kk
              · subst c1
                by_cases c2 : bp = jj
                · subst c2
                  go_wp2
                  refine wp_region_held_drew (S := (fun w' => w'.cell? ⟨g0, 0, none⟩ = some (.int .i64 kk) ∧ w'.cell? ⟨g0, 1, none⟩ = some (.int .i64 jj) ∧ w'.cell? ⟨g0, 2, none⟩ = some (.int .i64 1) ∧ w'.cell? (ade.add (j * 4)) = some (.int .i64 kk) ∧ w'.cell? ⟨(ade.add (j * 4)).block, (ade.add (j * 4)).off + 1, none⟩ = some (.int .i64 jj) ∧ w'.cell? ⟨(ade.add (j * 4)).block, (ade.add (j * 4)).off + 2, none⟩ = some (.int .i64 bk))) (by kernel_rfl) (⟨hS3.cell 0 rfl 0, hS3.cell 0 rfl 1, hS3.cell 0 rfl 2, b0, b1, b2⟩) (fun hHeld => ?_)
                  first | (refine regW 0 (v := ?_) rfl (by rfl) (by kernel_rfl) (fun _ _ _ h => h) ?_ (by assumption) ?_; rotate_left; focus (intro w9 hSw; (try dsimp only at hSw); go_simp; (try with_reducible rfl); done)) | refine regU 0 rfl (by rfl) (by kernel_rfl) (fun _ _ _ h => h) (by assumption) ?_ | refine regN 0 rfl (by rfl) (by kernel_rfl) (by assumption) ?_
                  try simp only [Act.put, List.setIfInBounds_toArray, List.set_cons_zero, List.set_cons_succ]
                  first | (refine regW 1 (v := ?_) rfl (by rfl) (by kernel_rfl) (fun _ _ _ h => h) ?_ (by assumption) ?_; rotate_left; focus (intro w9 hSw; (try dsimp only at hSw); go_simp; (try with_reducible rfl); done)) | refine regU 1 rfl (by rfl) (by kernel_rfl) (fun _ _ _ h => h) (by assumption) ?_ | refine regN 1 rfl (by rfl) (by kernel_rfl) (by assumption) ?_
                  try simp only [Act.put, List.setIfInBounds_toArray, List.set_cons_zero, List.set_cons_succ]
                  first | (refine regW 2 (v := ?_) rfl (by rfl) (by kernel_rfl) (fun _ _ _ h => h) ?_ (by assumption) ?_; rotate_left; focus (intro w9 hSw; (try dsimp only at hSw); go_simp; (try with_reducible rfl); done)) | refine regU 2 rfl (by rfl) (by kernel_rfl) (fun _ _ _ h => h) (by assumption) ?_ | refine regN 2 rfl (by rfl) (by kernel_rfl) (by assumption) ?_
                  try simp only [Act.put, List.setIfInBounds_toArray, List.set_cons_zero, List.set_cons_succ]
                  first | (refine regW 3 (v := ?_) rfl (by rfl) (by kernel_rfl) (fun _ _ _ h => h) ?_ (by assumption) ?_; rotate_left; focus (intro w9 hSw; (try dsimp only at hSw); go_simp; (try with_reducible rfl); done)) | refine regU 3 rfl (by rfl) (by kernel_rfl) (fun _ _ _ h => h) (by assumption) ?_ | refine regN 3 rfl (by rfl) (by kernel_rfl) (by assumption) ?_
                  try simp only [Act.put, List.setIfInBounds_toArray, List.set_cons_zero, List.set_cons_succ]
                  first | (refine regW 4 (v := ?_) rfl (by rfl) (by kernel_rfl) (fun _ _ _ h => h) ?_ (by assumption) ?_; rotate_left; focus (intro w9 hSw; (try dsimp only at hSw); go_simp; (try with_reducible rfl); done)) | refine regU 4 rfl (by rfl) (by kernel_rfl) (fun _ _ _ h => h) (by assumption) ?_ | refine regN 4 rfl (by rfl) (by kernel_rfl) (by assumption) ?_
                  try simp only [Act.put, List.setIfInBounds_toArray, List.set_cons_zero, List.set_cons_succ]
                  first | (refine regW 5 (v := ?_) rfl (by rfl) (by kernel_rfl) (fun _ _ _ h => h) ?_ (by assumption) ?_; rotate_left; focus (intro w9 hSw; (try dsimp only at hSw); go_simp; (try with_reducible rfl); done)) | refine regU 5 rfl (by rfl) (by kernel_rfl) (fun _ _ _ h => h) (by assumption) ?_ | refine regN 5 rfl (by rfl) (by kernel_rfl) (by assumption) ?_
                  try simp only [Act.put, List.setIfInBounds_toArray, List.set_cons_zero, List.set_cons_succ]
                  first | (refine regW 6 (v := ?_) rfl (by rfl) (by kernel_rfl) (fun _ _ _ h => h) ?_ (by assumption) ?_; rotate_left; focus (intro w9 hSw; (try dsimp only at hSw); go_simp; (try with_reducible rfl); done)) | refine regU 6 rfl (by rfl) (by kernel_rfl) (fun _ _ _ h => h) (by assumption) ?_ | refine regN 6 rfl (by rfl) (by kernel_rfl) (by assumption) ?_
                  try simp only [Act.put, List.setIfInBounds_toArray, List.set_cons_zero, List.set_cons_succ]
                  first | (refine regW 7 (v := ?_) rfl (by rfl) (by kernel_rfl) (fun _ _ _ h => h) ?_ (by assumption) ?_; rotate_left; focus (intro w9 hSw; (try dsimp only at hSw); go_simp; (try with_reducible rfl); done)) | refine regU 7 rfl (by rfl) (by kernel_rfl) (fun _ _ _ h => h) (by assumption) ?_ | refine regN 7 rfl (by rfl) (by kernel_rfl) (by assumption) ?_
                  try simp only [Act.put, List.setIfInBounds_toArray, List.set_cons_zero, List.set_cons_succ]
                  first | (refine regW 8 (v := ?_) rfl (by rfl) (by kernel_rfl) (fun _ _ _ h => h) ?_ (by assumption) ?_; rotate_left; focus (intro w9 hSw; (try dsimp only at hSw); go_simp; (try with_reducible rfl); done)) | refine regU 8 rfl (by rfl) (by kernel_rfl) (fun _ _ _ h => h) (by assumption) ?_ | refine regN 8 rfl (by rfl) (by kernel_rfl) (by assumption) ?_
                  try simp only [Act.put, List.setIfInBounds_toArray, List.set_cons_zero, List.set_cons_succ]
                  first | (refine regW 9 (v := ?_) rfl (by rfl) (by kernel_rfl) (fun _ _ _ h => h) ?_ (by assumption) ?_; rotate_left; focus (intro w9 hSw; (try dsimp only at hSw); go_simp; (try with_reducible rfl); done)) | refine regU 9 rfl (by rfl) (by kernel_rfl) (fun _ _ _ h => h) (by assumption) ?_ | refine regN 9 rfl (by rfl) (by kernel_rfl) (by assumption) ?_
                  try simp only [Act.put, List.setIfInBounds_toArray, List.set_cons_zero, List.set_cons_succ]
                  first | (refine regW 10 (v := ?_) rfl (by rfl) (by kernel_rfl) (fun _ _ _ h => h) ?_ (by assumption) ?_; rotate_left; focus (intro w9 hSw; (try dsimp only at hSw); go_simp; (try with_reducible rfl); done)) | refine regU 10 rfl (by rfl) (by kernel_rfl) (fun _ _ _ h => h) (by assumption) ?_ | refine regN 10 rfl (by rfl) (by kernel_rfl) (by assumption) ?_
                  try simp only [Act.put, List.setIfInBounds_toArray, List.set_cons_zero, List.set_cons_succ]
                  first | (refine regW 11 (v := ?_) rfl (by rfl) (by kernel_rfl) (fun _ _ _ h => h) ?_ (by assumption) ?_; rotate_left; focus (intro w9 hSw; (try dsimp only at hSw); go_simp; (try with_reducible rfl); done)) | refine regU 11 rfl (by rfl) (by kernel_rfl) (fun _ _ _ h => h) (by assumption) ?_ | refine regN 11 rfl (by rfl) (by kernel_rfl) (by assumption) ?_
                  try simp only [Act.put, List.setIfInBounds_toArray, List.set_cons_zero, List.set_cons_succ]
                  first | (refine regW 12 (v := ?_) rfl (by rfl) (by kernel_rfl) (fun _ _ _ h => h) ?_ (by assumption) ?_; rotate_left; focus (intro w9 hSw; (try dsimp only at hSw); go_simp; (try with_reducible rfl); done)) | refine regU 12 rfl (by rfl) (by kernel_rfl) (fun _ _ _ h => h) (by assumption) ?_ | refine regN 12 rfl (by rfl) (by kernel_rfl) (by assumption) ?_
                  try simp only [Act.put, List.setIfInBounds_toArray, List.set_cons_zero, List.set_cons_succ]
                  first | (refine regW 13 (v := ?_) rfl (by rfl) (by kernel_rfl) (fun _ _ _ h => h) ?_ (by assumption) ?_; rotate_left; focus (intro w9 hSw; (try dsimp only at hSw); go_simp; (try with_reducible rfl); done)) | refine regU 13 rfl (by rfl) (by kernel_rfl) (fun _ _ _ h => h) (by assumption) ?_ | refine regN 13 rfl (by rfl) (by kernel_rfl) (by assumption) ?_
                  try simp only [Act.put, List.setIfInBounds_toArray, List.set_cons_zero, List.set_cons_succ]
                  first | (refine regW 14 (v := ?_) rfl (by rfl) (by kernel_rfl) (fun _ _ _ h => h) ?_ (by assumption) ?_; rotate_left; focus (intro w9 hSw; (try dsimp only at hSw); go_simp; (try with_reducible rfl); done)) | refine regU 14 rfl (by rfl) (by kernel_rfl) (fun _ _ _ h => h) (by assumption) ?_ | refine regN 14 rfl (by rfl) (by kernel_rfl) (by assumption) ?_
                  try simp only [Act.put, List.setIfInBounds_toArray, List.set_cons_zero, List.set_cons_succ]
                  first | (refine regW 15 (v := ?_) rfl (by rfl) (by kernel_rfl) (fun _ _ _ h => h) ?_ (by assumption) ?_; rotate_left; focus (intro w9 hSw; (try dsimp only at hSw); go_simp; (try with_reducible rfl); done)) | refine regU 15 rfl (by rfl) (by kernel_rfl) (fun _ _ _ h => h) (by assumption) ?_ | refine regN 15 rfl (by rfl) (by kernel_rfl) (by assumption) ?_
                  try simp only [Act.put, List.setIfInBounds_toArray, List.set_cons_zero, List.set_cons_succ]
                  first | (refine regW 16 (v := ?_) rfl (by rfl) (by kernel_rfl) (fun _ _ _ h => h) ?_ (by assumption) ?_; rotate_left; focus (intro w9 hSw; (try dsimp only at hSw); go_simp; (try with_reducible rfl); done)) | refine regU 16 rfl (by rfl) (by kernel_rfl) (fun _ _ _ h => h) (by assumption) ?_ | refine regN 16 rfl (by rfl) (by kernel_rfl) (by assumption) ?_
                  try simp only [Act.put, List.setIfInBounds_toArray, List.set_cons_zero, List.set_cons_succ]
                  first | (refine regW 17 (v := ?_) rfl (by rfl) (by kernel_rfl) (fun _ _ _ h => h) ?_ (by assumption) ?_; rotate_left; focus (intro w9 hSw; (try dsimp only at hSw); go_simp; (try with_reducible rfl); done)) | refine regU 17 rfl (by rfl) (by kernel_rfl) (fun _ _ _ h => h) (by assumption) ?_ | refine regN 17 rfl (by rfl) (by kernel_rfl) (by assumption) ?_
                  try simp only [Act.put, List.setIfInBounds_toArray, List.set_cons_zero, List.set_cons_succ]
                  first | (refine regW 18 (v := ?_) rfl (by rfl) (by kernel_rfl) (fun _ _ _ h => h) ?_ (by assumption) ?_; rotate_left; focus (intro w9 hSw; (try dsimp only at hSw); go_simp; (try with_reducible rfl); done)) | refine regU 18 rfl (by rfl) (by kernel_rfl) (fun _ _ _ h => h) (by assumption) ?_ | refine regN 18 rfl (by rfl) (by kernel_rfl) (by assumption) ?_
                  try simp only [Act.put, List.setIfInBounds_toArray, List.set_cons_zero, List.set_cons_succ]
                  first | (refine regW 19 (v := ?_) rfl (by rfl) (by kernel_rfl) (fun _ _ _ h => h) ?_ (by assumption) ?_; rotate_left; focus (intro w9 hSw; (try dsimp only at hSw); go_simp; (try with_reducible rfl); done)) | refine regU 19 rfl (by rfl) (by kernel_rfl) (fun _ _ _ h => h) (by assumption) ?_ | refine regN 19 rfl (by rfl) (by kernel_rfl) (by assumption) ?_
                  try simp only [Act.put, List.setIfInBounds_toArray, List.set_cons_zero, List.set_cons_succ]
                  first | (refine regW 20 (v := ?_) rfl (by rfl) (by kernel_rfl) (fun _ _ _ h => h) ?_ (by assumption) ?_; rotate_left; focus (intro w9 hSw; (try dsimp only at hSw); go_simp; (try with_reducible rfl); done)) | refine regU 20 rfl (by rfl) (by kernel_rfl) (fun _ _ _ h => h) (by assumption) ?_ | refine regN 20 rfl (by rfl) (by kernel_rfl) (by assumption) ?_
                  try simp only [Act.put, List.setIfInBounds_toArray, List.set_cons_zero, List.set_cons_succ]
                  first | (refine regW 21 (v := ?_) rfl (by rfl) (by kernel_rfl) (fun _ _ _ h => h) ?_ (by assumption) ?_; rotate_left; focus (intro w9 hSw; (try dsimp only at hSw); go_simp; (try with_reducible rfl); done)) | refine regU 21 rfl (by rfl) (by kernel_rfl) (fun _ _ _ h => h) (by assumption) ?_ | refine regN 21 rfl (by rfl) (by kernel_rfl) (by assumption) ?_
                  try simp only [Act.put, List.setIfInBounds_toArray, List.set_cons_zero, List.set_cons_succ]
                  first | (refine regW 22 (v := ?_) rfl (by rfl) (by kernel_rfl) (fun _ _ _ h => h) ?_ (by assumption) ?_; rotate_left; focus (intro w9 hSw; (try dsimp only at hSw); go_simp; (try with_reducible rfl); done)) | refine regU 22 rfl (by rfl) (by kernel_rfl) (fun _ _ _ h => h) (by assumption) ?_ | refine regN 22 rfl (by rfl) (by kernel_rfl) (by assumption) ?_
                  try simp only [Act.put, List.setIfInBounds_toArray, List.set_cons_zero, List.set_cons_succ]
                  first | (refine regW 23 (v := ?_) rfl (by rfl) (by kernel_rfl) (fun _ _ _ h => h) ?_ (by assumption) ?_; rotate_left; focus (intro w9 hSw; (try dsimp only at hSw); go_simp; (try with_reducible rfl); done)) | refine regU 23 rfl (by rfl) (by kernel_rfl) (fun _ _ _ h => h) (by assumption) ?_ | refine regN 23 rfl (by rfl) (by kernel_rfl) (by assumption) ?_
                  try simp only [Act.put, List.setIfInBounds_toArray, List.set_cons_zero, List.set_cons_succ]
                  first | (refine regW 24 (v := ?_) rfl (by rfl) (by kernel_rfl) (fun _ _ _ h => h) ?_ (by assumption) ?_; rotate_left; focus (intro w9 hSw; (try dsimp only at hSw); go_simp; (try with_reducible rfl); done)) | refine regU 24 rfl (by rfl) (by kernel_rfl) (fun _ _ _ h => h) (by assumption) ?_ | refine regN 24 rfl (by rfl) (by kernel_rfl) (by assumption) ?_
                  try simp only [Act.put, List.setIfInBounds_toArray, List.set_cons_zero, List.set_cons_succ]
                  first | (refine regW 25 (v := ?_) rfl (by rfl) (by kernel_rfl) (fun _ _ _ h => h) ?_ (by assumption) ?_; rotate_left; focus (intro w9 hSw; (try dsimp only at hSw); go_simp; (try with_reducible rfl); done)) | refine regU 25 rfl (by rfl) (by kernel_rfl) (fun _ _ _ h => h) (by assumption) ?_ | refine regN 25 rfl (by rfl) (by kernel_rfl) (by assumption) ?_
                  try simp only [Act.put, List.setIfInBounds_toArray, List.set_cons_zero, List.set_cons_succ]
                  first | (refine regW 26 (v := ?_) rfl (by rfl) (by kernel_rfl) (fun _ _ _ h => h) ?_ (by assumption) ?_; rotate_left; focus (intro w9 hSw; (try dsimp only at hSw); go_simp; (try with_reducible rfl); done)) | refine regU 26 rfl (by rfl) (by kernel_rfl) (fun _ _ _ h => h) (by assumption) ?_ | refine regN 26 rfl (by rfl) (by kernel_rfl) (by assumption) ?_
                  try simp only [Act.put, List.setIfInBounds_toArray, List.set_cons_zero, List.set_cons_succ]
                  first | (refine regW 27 (v := ?_) rfl (by rfl) (by kernel_rfl) (fun _ _ _ h => h) ?_ (by assumption) ?_; rotate_left; focus (intro w9 hSw; (try dsimp only at hSw); go_simp; (try with_reducible rfl); done)) | refine regU 27 rfl (by rfl) (by kernel_rfl) (fun _ _ _ h => h) (by assumption) ?_ | refine regN 27 rfl (by rfl) (by kernel_rfl) (by assumption) ?_
                  try simp only [Act.put, List.setIfInBounds_toArray, List.set_cons_zero, List.set_cons_succ]
                  first | (refine regW 28 (v := ?_) rfl (by rfl) (by kernel_rfl) (fun _ _ _ h => h) ?_ (by assumption) ?_; rotate_left; focus (intro w9 hSw; (try dsimp only at hSw); go_simp; (try with_reducible rfl); done)) | refine regU 28 rfl (by rfl) (by kernel_rfl) (fun _ _ _ h => h) (by assumption) ?_ | refine regN 28 rfl (by rfl) (by kernel_rfl) (by assumption) ?_
                  try simp only [Act.put, List.setIfInBounds_toArray, List.set_cons_zero, List.set_cons_succ]
                  first | (refine regW 29 (v := ?_) rfl (by rfl) (by kernel_rfl) (fun _ _ _ h => h) ?_ (by assumption) ?_; rotate_left; focus (intro w9 hSw; (try dsimp only at hSw); go_simp; (try with_reducible rfl); done)) | refine regU 29 rfl (by rfl) (by kernel_rfl) (fun _ _ _ h => h) (by assumption) ?_ | refine regN 29 rfl (by rfl) (by kernel_rfl) (by assumption) ?_
                  try simp only [Act.put, List.setIfInBounds_toArray, List.set_cons_zero, List.set_cons_succ]
                  first | (refine regW 30 (v := ?_) rfl (by rfl) (by kernel_rfl) (fun _ _ _ h => h) ?_ (by assumption) ?_; rotate_left; focus (intro w9 hSw; (try dsimp only at hSw); go_simp; (try with_reducible rfl); done)) | refine regU 30 rfl (by rfl) (by kernel_rfl) (fun _ _ _ h => h) (by assumption) ?_ | refine regN 30 rfl (by rfl) (by kernel_rfl) (by assumption) ?_
                  try simp only [Act.put, List.setIfInBounds_toArray, List.set_cons_zero, List.set_cons_succ]
                  first | (refine regW 31 (v := ?_) rfl (by rfl) (by kernel_rfl) (fun _ _ _ h => h) ?_ (by assumption) ?_; rotate_left; focus (intro w9 hSw; (try dsimp only at hSw); go_simp; (try with_reducible rfl); done)) | refine regU 31 rfl (by rfl) (by kernel_rfl) (fun _ _ _ h => h) (by assumption) ?_ | refine regN 31 rfl (by rfl) (by kernel_rfl) (by assumption) ?_
                  try simp only [Act.put, List.setIfInBounds_toArray, List.set_cons_zero, List.set_cons_succ]
                  refine wpAnyH_done (by kernel_rfl) ?_ _
                  clear hHeld
                  go_wp2
                  go_roundw
                  case rel => exact ⟨j + 1, by omega, by go_num, ⟨_, rfl, Lib.hid (by rw [HB.out, hno.out]; simp [eqSp] <;> rfl)⟩, hS3.drew⟩
                  case measure => simp [intOf]; omega
                · have d2 : (bp == (jj : Int)) = false := by simp [c2]
                  go_wp2
                  refine wp_region_held_drew (S := (fun w' => w'.cell? ⟨g0, 0, none⟩ = some (.int .i64 kk) ∧ w'.cell? ⟨g0, 1, none⟩ = some (.int .i64 jj) ∧ w'.cell? ⟨g0, 2, none⟩ = some (.int .i64 1) ∧ w'.cell? (ade.add (j * 4)) = some (.int .i64 kk) ∧ w'.cell? ⟨(ade.add (j * 4)).block, (ade.add (j * 4)).off + 1, none⟩ = some (.int .i64 bp) ∧ w'.cell? ⟨(ade.add (j * 4)).block, (ade.add (j * 4)).off + 2, none⟩ = some (.int .i64 bk))) (by kernel_rfl) (⟨hS3.cell 0 rfl 0, hS3.cell 0 rfl 1, hS3.cell 0 rfl 2, b0, b1, b2⟩) (fun hHeld => ?_)
                  first | (refine regW 0 (v := ?_) rfl (by rfl) (by kernel_rfl) (fun _ _ _ h => h) ?_ (by assumption) ?_; rotate_left; focus (intro w9 hSw; (try dsimp only at hSw); go_simp; (try with_reducible rfl); done)) | refine regU 0 rfl (by rfl) (by kernel_rfl) (fun _ _ _ h => h) (by assumption) ?_ | refine regN 0 rfl (by rfl) (by kernel_rfl) (by assumption) ?_
                  try simp only [Act.put, List.setIfInBounds_toArray, List.set_cons_zero, List.set_cons_succ]
                  first | (refine regW 1 (v := ?_) rfl (by rfl) (by kernel_rfl) (fun _ _ _ h => h) ?_ (by assumption) ?_; rotate_left; focus (intro w9 hSw; (try dsimp only at hSw); go_simp; (try with_reducible rfl); done)) | refine regU 1 rfl (by rfl) (by kernel_rfl) (fun _ _ _ h => h) (by assumption) ?_ | refine regN 1 rfl (by rfl) (by kernel_rfl) (by assumption) ?_
                  try simp only [Act.put, List.setIfInBounds_toArray, List.set_cons_zero, List.set_cons_succ]
                  first | (refine regW 2 (v := ?_) rfl (by rfl) (by kernel_rfl) (fun _ _ _ h => h) ?_ (by assumption) ?_; rotate_left; focus (intro w9 hSw; (try dsimp only at hSw); go_simp; (try with_reducible rfl); done)) | refine regU 2 rfl (by rfl) (by kernel_rfl) (fun _ _ _ h => h) (by assumption) ?_ | refine regN 2 rfl (by rfl) (by kernel_rfl) (by assumption) ?_
                  try simp only [Act.put, List.setIfInBounds_toArray, List.set_cons_zero, List.set_cons_succ]
                  first | (refine regW 3 (v := ?_) rfl (by rfl) (by kernel_rfl) (fun _ _ _ h => h) ?_ (by assumption) ?_; rotate_left; focus (intro w9 hSw; (try dsimp only at hSw); go_simp; (try with_reducible rfl); done)) | refine regU 3 rfl (by rfl) (by kernel_rfl) (fun _ _ _ h => h) (by assumption) ?_ | refine regN 3 rfl (by rfl) (by kernel_rfl) (by assumption) ?_
                  try simp only [Act.put, List.setIfInBounds_toArray, List.set_cons_zero, List.set_cons_succ]
                  first | (refine regW 4 (v := ?_) rfl (by rfl) (by kernel_rfl) (fun _ _ _ h => h) ?_ (by assumption) ?_; rotate_left; focus (intro w9 hSw; (try dsimp only at hSw); go_simp; (try with_reducible rfl); done)) | refine regU 4 rfl (by rfl) (by kernel_rfl) (fun _ _ _ h => h) (by assumption) ?_ | refine regN 4 rfl (by rfl) (by kernel_rfl) (by assumption) ?_
                  try simp only [Act.put, List.setIfInBounds_toArray, List.set_cons_zero, List.set_cons_succ]
                  first | (refine regW 5 (v := ?_) rfl (by rfl) (by kernel_rfl) (fun _ _ _ h => h) ?_ (by assumption) ?_; rotate_left; focus (intro w9 hSw; (try dsimp only at hSw); go_simp; (try with_reducible rfl); done)) | refine regU 5 rfl (by rfl) (by kernel_rfl) (fun _ _ _ h => h) (by assumption) ?_ | refine regN 5 rfl (by rfl) (by kernel_rfl) (by assumption) ?_
                  try simp only [Act.put, List.setIfInBounds_toArray, List.set_cons_zero, List.set_cons_succ]
                  first | (refine regW 6 (v := ?_) rfl (by rfl) (by kernel_rfl) (fun _ _ _ h => h) ?_ (by assumption) ?_; rotate_left; focus (intro w9 hSw; (try dsimp only at hSw); go_simp; (try with_reducible rfl); done)) | refine regU 6 rfl (by rfl) (by kernel_rfl) (fun _ _ _ h => h) (by assumption) ?_ | refine regN 6 rfl (by rfl) (by kernel_rfl) (by assumption) ?_
                  try simp only [Act.put, List.setIfInBounds_toArray, List.set_cons_zero, List.set_cons_succ]
                  first | (refine regW 7 (v := ?_) rfl (by rfl) (by kernel_rfl) (fun _ _ _ h => h) ?_ (by assumption) ?_; rotate_left; focus (intro w9 hSw; (try dsimp only at hSw); go_simp; (try with_reducible rfl); done)) | refine regU 7 rfl (by rfl) (by kernel_rfl) (fun _ _ _ h => h) (by assumption) ?_ | refine regN 7 rfl (by rfl) (by kernel_rfl) (by assumption) ?_
                  try simp only [Act.put, List.setIfInBounds_toArray, List.set_cons_zero, List.set_cons_succ]
                  first | (refine regW 8 (v := ?_) rfl (by rfl) (by kernel_rfl) (fun _ _ _ h => h) ?_ (by assumption) ?_; rotate_left; focus (intro w9 hSw; (try dsimp only at hSw); go_simp; (try with_reducible rfl); done)) | refine regU 8 rfl (by rfl) (by kernel_rfl) (fun _ _ _ h => h) (by assumption) ?_ | refine regN 8 rfl (by rfl) (by kernel_rfl) (by assumption) ?_
                  try simp only [Act.put, List.setIfInBounds_toArray, List.set_cons_zero, List.set_cons_succ]
                  first | (refine regW 9 (v := ?_) rfl (by rfl) (by kernel_rfl) (fun _ _ _ h => h) ?_ (by assumption) ?_; rotate_left; focus (intro w9 hSw; (try dsimp only at hSw); go_simp; (try with_reducible rfl); done)) | refine regU 9 rfl (by rfl) (by kernel_rfl) (fun _ _ _ h => h) (by assumption) ?_ | refine regN 9 rfl (by rfl) (by kernel_rfl) (by assumption) ?_
                  try simp only [Act.put, List.setIfInBounds_toArray, List.set_cons_zero, List.set_cons_succ]
                  first | (refine regW 10 (v := ?_) rfl (by rfl) (by kernel_rfl) (fun _ _ _ h => h) ?_ (by assumption) ?_; rotate_left; focus (intro w9 hSw; (try dsimp only at hSw); go_simp; (try with_reducible rfl); done)) | refine regU 10 rfl (by rfl) (by kernel_rfl) (fun _ _ _ h => h) (by assumption) ?_ | refine regN 10 rfl (by rfl) (by kernel_rfl) (by assumption) ?_
                  try simp only [Act.put, List.setIfInBounds_toArray, List.set_cons_zero, List.set_cons_succ]
                  first | (refine regW 11 (v := ?_) rfl (by rfl) (by kernel_rfl) (fun _ _ _ h => h) ?_ (by assumption) ?_; rotate_left; focus (intro w9 hSw; (try dsimp only at hSw); go_simp; (try with_reducible rfl); done)) | refine regU 11 rfl (by rfl) (by kernel_rfl) (fun _ _ _ h => h) (by assumption) ?_ | refine regN 11 rfl (by rfl) (by kernel_rfl) (by assumption) ?_
                  try simp only [Act.put, List.setIfInBounds_toArray, List.set_cons_zero, List.set_cons_succ]
                  first | (refine regW 12 (v := ?_) rfl (by rfl) (by kernel_rfl) (fun _ _ _ h => h) ?_ (by assumption) ?_; rotate_left; focus (intro w9 hSw; (try dsimp only at hSw); go_simp; (try with_reducible rfl); done)) | refine regU 12 rfl (by rfl) (by kernel_rfl) (fun _ _ _ h => h) (by assumption) ?_ | refine regN 12 rfl (by rfl) (by kernel_rfl) (by assumption) ?_
                  try simp only [Act.put, List.setIfInBounds_toArray, List.set_cons_zero, List.set_cons_succ]
                  first | (refine regW 13 (v := ?_) rfl (by rfl) (by kernel_rfl) (fun _ _ _ h => h) ?_ (by assumption) ?_; rotate_left; focus (intro w9 hSw; (try dsimp only at hSw); go_simp; (try with_reducible rfl); done)) | refine regU 13 rfl (by rfl) (by kernel_rfl) (fun _ _ _ h => h) (by assumption) ?_ | refine regN 13 rfl (by rfl) (by kernel_rfl) (by assumption) ?_
                  try simp only [Act.put, List.setIfInBounds_toArray, List.set_cons_zero, List.set_cons_succ]
                  first | (refine regW 14 (v := ?_) rfl (by rfl) (by kernel_rfl) (fun _ _ _ h => h) ?_ (by assumption) ?_; rotate_left; focus (intro w9 hSw; (try dsimp only at hSw); go_simp; (try with_reducible rfl); done)) | refine regU 14 rfl (by rfl) (by kernel_rfl) (fun _ _ _ h => h) (by assumption) ?_ | refine regN 14 rfl (by rfl) (by kernel_rfl) (by assumption) ?_
                  try simp only [Act.put, List.setIfInBounds_toArray, List.set_cons_zero, List.set_cons_succ]
                  first | (refine regW 15 (v := ?_) rfl (by rfl) (by kernel_rfl) (fun _ _ _ h => h) ?_ (by assumption) ?_; rotate_left; focus (intro w9 hSw; (try dsimp only at hSw); go_simp; (try with_reducible rfl); done)) | refine regU 15 rfl (by rfl) (by kernel_rfl) (fun _ _ _ h => h) (by assumption) ?_ | refine regN 15 rfl (by rfl) (by kernel_rfl) (by assumption) ?_
                  try simp only [Act.put, List.setIfInBounds_toArray, List.set_cons_zero, List.set_cons_succ]
                  first | (refine regW 16 (v := ?_) rfl (by rfl) (by kernel_rfl) (fun _ _ _ h => h) ?_ (by assumption) ?_; rotate_left; focus (intro w9 hSw; (try dsimp only at hSw); go_simp; (try with_reducible rfl); done)) | refine regU 16 rfl (by rfl) (by kernel_rfl) (fun _ _ _ h => h) (by assumption) ?_ | refine regN 16 rfl (by rfl) (by kernel_rfl) (by assumption) ?_
                  try simp only [Act.put, List.setIfInBounds_toArray, List.set_cons_zero, List.set_cons_succ]
                  first | (refine regW 17 (v := ?_) rfl (by rfl) (by kernel_rfl) (fun _ _ _ h => h) ?_ (by assumption) ?_; rotate_left; focus (intro w9 hSw; (try dsimp only at hSw); go_simp; (try with_reducible rfl); done)) | refine regU 17 rfl (by rfl) (by kernel_rfl) (fun _ _ _ h => h) (by assumption) ?_ | refine regN 17 rfl (by rfl) (by kernel_rfl) (by assumption) ?_
                  try simp only [Act.put, List.setIfInBounds_toArray, List.set_cons_zero, List.set_cons_succ]
                  first | (refine regW 18 (v := ?_) rfl (by rfl) (by kernel_rfl) (fun _ _ _ h => h) ?_ (by assumption) ?_; rotate_left; focus (intro w9 hSw; (try dsimp only at hSw); go_simp; (try with_reducible rfl); done)) | refine regU 18 rfl (by rfl) (by kernel_rfl) (fun _ _ _ h => h) (by assumption) ?_ | refine regN 18 rfl (by rfl) (by kernel_rfl) (by assumption) ?_
                  try simp only [Act.put, List.setIfInBounds_toArray, List.set_cons_zero, List.set_cons_succ]
                  first | (refine regW 19 (v := ?_) rfl (by rfl) (by kernel_rfl) (fun _ _ _ h => h) ?_ (by assumption) ?_; rotate_left; focus (intro w9 hSw; (try dsimp only at hSw); go_simp; (try with_reducible rfl); done)) | refine regU 19 rfl (by rfl) (by kernel_rfl) (fun _ _ _ h => h) (by assumption) ?_ | refine regN 19 rfl (by rfl) (by kernel_rfl) (by assumption) ?_
                  try simp only [Act.put, List.setIfInBounds_toArray, List.set_cons_zero, List.set_cons_succ]
                  first | (refine regW 20 (v := ?_) rfl (by rfl) (by kernel_rfl) (fun _ _ _ h => h) ?_ (by assumption) ?_; rotate_left; focus (intro w9 hSw; (try dsimp only at hSw); go_simp; (try with_reducible rfl); done)) | refine regU 20 rfl (by rfl) (by kernel_rfl) (fun _ _ _ h => h) (by assumption) ?_ | refine regN 20 rfl (by rfl) (by kernel_rfl) (by assumption) ?_
                  try simp only [Act.put, List.setIfInBounds_toArray, List.set_cons_zero, List.set_cons_succ]
                  refine regS (fun _ _ _ d h => by cases d <;> exact h) [21, 22, 23, 24, 25, 26, 27, 28] _ _ _ rfl (by kernel_rfl) (by assumption) ?_
                  simp only [skipL, List.getElem?_cons_zero, List.getElem?_cons_succ, Option.bind_some, Act.put, List.setIfInBounds_toArray, List.set_cons_zero, List.set_cons_succ]
                  first | (refine regW 29 (v := ?_) rfl (by rfl) (by kernel_rfl) (fun _ _ _ h => h) ?_ (by assumption) ?_; rotate_left; focus (intro w9 hSw; (try dsimp only at hSw); go_simp; (try with_reducible rfl); done)) | refine regU 29 rfl (by rfl) (by kernel_rfl) (fun _ _ _ h => h) (by assumption) ?_ | refine regN 29 rfl (by rfl) (by kernel_rfl) (by assumption) ?_
                  try simp only [Act.put, List.setIfInBounds_toArray, List.set_cons_zero, List.set_cons_succ]
                  first | (refine regW 30 (v := ?_) rfl (by rfl) (by kernel_rfl) (fun _ _ _ h => h) ?_ (by assumption) ?_; rotate_left; focus (intro w9 hSw; (try dsimp only at hSw); go_simp; (try with_reducible rfl); done)) | refine regU 30 rfl (by rfl) (by kernel_rfl) (fun _ _ _ h => h) (by assumption) ?_ | refine regN 30 rfl (by rfl) (by kernel_rfl) (by assumption) ?_
                  try simp only [Act.put, List.setIfInBounds_toArray, List.set_cons_zero, List.set_cons_succ]
                  first | (refine regW 31 (v := ?_) rfl (by rfl) (by kernel_rfl) (fun _ _ _ h => h) ?_ (by assumption) ?_; rotate_left; focus (intro w9 hSw; (try dsimp only at hSw); go_simp; (try with_reducible rfl); done)) | refine regU 31 rfl (by rfl) (by kernel_rfl) (fun _ _ _ h => h) (by assumption) ?_ | refine regN 31 rfl (by rfl) (by kernel_rfl) (by assumption) ?_
                  try simp only [Act.put, List.setIfInBounds_toArray, List.set_cons_zero, List.set_cons_succ]
                  refine wpAnyH_done (by kernel_rfl) ?_ _
                  clear hHeld
                  go_wp2
                  go_roundw
                  case rel => exact ⟨j + 1, by omega, by go_num, ⟨_, rfl, Lib.hid (by rw [HB.out, hno.out]; simp [eqSp, c2])⟩, hS3.drew⟩
                  case measure => simp [intOf]; omega
              · have d1 : (bf == (kk : Int)) = false := by simp [c1]
                go_wp2
                refine wp_region_held_drew (S := (fun w' => w'.cell? ⟨g0, 0, none⟩ = some (.int .i64 kk) ∧ w'.cell? ⟨g0, 1, none⟩ = some (.int .i64 jj) ∧ w'.cell? ⟨g0, 2, none⟩ = some (.int .i64 1) ∧ w'.cell? (ade.add (j * 4)) = some (.int .i64 bf) ∧ w'.cell? ⟨(ade.add (j * 4)).block, (ade.add (j * 4)).off + 1, none⟩ = some (.int .i64 bp) ∧ w'.cell? ⟨(ade.add (j * 4)).block, (ade.add (j * 4)).off + 2, none⟩ = some (.int .i64 bk))) (by kernel_rfl) (⟨hS3.cell 0 rfl 0, hS3.cell 0 rfl 1, hS3.cell 0 rfl 2, b0, b1, b2⟩) (fun hHeld => ?_)
                first | (refine regW 0 (v := ?_) rfl (by rfl) (by kernel_rfl) (fun _ _ _ h => h) ?_ (by assumption) ?_; rotate_left; focus (intro w9 hSw; (try dsimp only at hSw); go_simp; (try with_reducible rfl); done)) | refine regU 0 rfl (by rfl) (by kernel_rfl) (fun _ _ _ h => h) (by assumption) ?_ | refine regN 0 rfl (by rfl) (by kernel_rfl) (by assumption) ?_
                try simp only [Act.put, List.setIfInBounds_toArray, List.set_cons_zero, List.set_cons_succ]
                first | (refine regW 1 (v := ?_) rfl (by rfl) (by kernel_rfl) (fun _ _ _ h => h) ?_ (by assumption) ?_; rotate_left; focus (intro w9 hSw; (try dsimp only at hSw); go_simp; (try with_reducible rfl); done)) | refine regU 1 rfl (by rfl) (by kernel_rfl) (fun _ _ _ h => h) (by assumption) ?_ | refine regN 1 rfl (by rfl) (by kernel_rfl) (by assumption) ?_
                try simp only [Act.put, List.setIfInBounds_toArray, List.set_cons_zero, List.set_cons_succ]
                first | (refine regW 2 (v := ?_) rfl (by rfl) (by kernel_rfl) (fun _ _ _ h => h) ?_ (by assumption) ?_; rotate_left; focus (intro w9 hSw; (try dsimp only at hSw); go_simp; (try with_reducible rfl); done)) | refine regU 2 rfl (by rfl) (by kernel_rfl) (fun _ _ _ h => h) (by assumption) ?_ | refine regN 2 rfl (by rfl) (by kernel_rfl) (by assumption) ?_
                try simp only [Act.put, List.setIfInBounds_toArray, List.set_cons_zero, List.set_cons_succ]
                first | (refine regW 3 (v := ?_) rfl (by rfl) (by kernel_rfl) (fun _ _ _ h => h) ?_ (by assumption) ?_; rotate_left; focus (intro w9 hSw; (try dsimp only at hSw); go_simp; (try with_reducible rfl); done)) | refine regU 3 rfl (by rfl) (by kernel_rfl) (fun _ _ _ h => h) (by assumption) ?_ | refine regN 3 rfl (by rfl) (by kernel_rfl) (by assumption) ?_
                try simp only [Act.put, List.setIfInBounds_toArray, List.set_cons_zero, List.set_cons_succ]
                first | (refine regW 4 (v := ?_) rfl (by rfl) (by kernel_rfl) (fun _ _ _ h => h) ?_ (by assumption) ?_; rotate_left; focus (intro w9 hSw; (try dsimp only at hSw); go_simp; (try with_reducible rfl); done)) | refine regU 4 rfl (by rfl) (by kernel_rfl) (fun _ _ _ h => h) (by assumption) ?_ | refine regN 4 rfl (by rfl) (by kernel_rfl) (by assumption) ?_
                try simp only [Act.put, List.setIfInBounds_toArray, List.set_cons_zero, List.set_cons_succ]
                first | (refine regW 5 (v := ?_) rfl (by rfl) (by kernel_rfl) (fun _ _ _ h => h) ?_ (by assumption) ?_; rotate_left; focus (intro w9 hSw; (try dsimp only at hSw); go_simp; (try with_reducible rfl); done)) | refine regU 5 rfl (by rfl) (by kernel_rfl) (fun _ _ _ h => h) (by assumption) ?_ | refine regN 5 rfl (by rfl) (by kernel_rfl) (by assumption) ?_
                try simp only [Act.put, List.setIfInBounds_toArray, List.set_cons_zero, List.set_cons_succ]
                first | (refine regW 6 (v := ?_) rfl (by rfl) (by kernel_rfl) (fun _ _ _ h => h) ?_ (by assumption) ?_; rotate_left; focus (intro w9 hSw; (try dsimp only at hSw); go_simp; (try with_reducible rfl); done)) | refine regU 6 rfl (by rfl) (by kernel_rfl) (fun _ _ _ h => h) (by assumption) ?_ | refine regN 6 rfl (by rfl) (by kernel_rfl) (by assumption) ?_
                try simp only [Act.put, List.setIfInBounds_toArray, List.set_cons_zero, List.set_cons_succ]
                first | (refine regW 7 (v := ?_) rfl (by rfl) (by kernel_rfl) (fun _ _ _ h => h) ?_ (by assumption) ?_; rotate_left; focus (intro w9 hSw; (try dsimp only at hSw); go_simp; (try with_reducible rfl); done)) | refine regU 7 rfl (by rfl) (by kernel_rfl) (fun _ _ _ h => h) (by assumption) ?_ | refine regN 7 rfl (by rfl) (by kernel_rfl) (by assumption) ?_
                try simp only [Act.put, List.setIfInBounds_toArray, List.set_cons_zero, List.set_cons_succ]
                first | (refine regW 8 (v := ?_) rfl (by rfl) (by kernel_rfl) (fun _ _ _ h => h) ?_ (by assumption) ?_; rotate_left; focus (intro w9 hSw; (try dsimp only at hSw); go_simp; (try with_reducible rfl); done)) | refine regU 8 rfl (by rfl) (by kernel_rfl) (fun _ _ _ h => h) (by assumption) ?_ | refine regN 8 rfl (by rfl) (by kernel_rfl) (by assumption) ?_
                try simp only [Act.put, List.setIfInBounds_toArray, List.set_cons_zero, List.set_cons_succ]
                first | (refine regW 9 (v := ?_) rfl (by rfl) (by kernel_rfl) (fun _ _ _ h => h) ?_ (by assumption) ?_; rotate_left; focus (intro w9 hSw; (try dsimp only at hSw); go_simp; (try with_reducible rfl); done)) | refine regU 9 rfl (by rfl) (by kernel_rfl) (fun _ _ _ h => h) (by assumption) ?_ | refine regN 9 rfl (by rfl) (by kernel_rfl) (by assumption) ?_
                try simp only [Act.put, List.setIfInBounds_toArray, List.set_cons_zero, List.set_cons_succ]
                first | (refine regW 10 (v := ?_) rfl (by rfl) (by kernel_rfl) (fun _ _ _ h => h) ?_ (by assumption) ?_; rotate_left; focus (intro w9 hSw; (try dsimp only at hSw); go_simp; (try with_reducible rfl); done)) | refine regU 10 rfl (by rfl) (by kernel_rfl) (fun _ _ _ h => h) (by assumption) ?_ | refine regN 10 rfl (by rfl) (by kernel_rfl) (by assumption) ?_
                try simp only [Act.put, List.setIfInBounds_toArray, List.set_cons_zero, List.set_cons_succ]
                refine regS (fun _ _ _ d h => by cases d <;> exact h) [11, 12, 13, 14, 15, 16, 17, 18] _ _ _ rfl (by kernel_rfl) (by assumption) ?_
                simp only [skipL, List.getElem?_cons_zero, List.getElem?_cons_succ, Option.bind_some, Act.put, List.setIfInBounds_toArray, List.set_cons_zero, List.set_cons_succ]
                first | (refine regW 19 (v := ?_) rfl (by rfl) (by kernel_rfl) (fun _ _ _ h => h) ?_ (by assumption) ?_; rotate_left; focus (intro w9 hSw; (try dsimp only at hSw); go_simp; (try with_reducible rfl); done)) | refine regU 19 rfl (by rfl) (by kernel_rfl) (fun _ _ _ h => h) (by assumption) ?_ | refine regN 19 rfl (by rfl) (by kernel_rfl) (by assumption) ?_
                try simp only [Act.put, List.setIfInBounds_toArray, List.set_cons_zero, List.set_cons_succ]
                first | (refine regW 20 (v := ?_) rfl (by rfl) (by kernel_rfl) (fun _ _ _ h => h) ?_ (by assumption) ?_; rotate_left; focus (intro w9 hSw; (try dsimp only at hSw); go_simp; (try with_reducible rfl); done)) | refine regU 20 rfl (by rfl) (by kernel_rfl) (fun _ _ _ h => h) (by assumption) ?_ | refine regN 20 rfl (by rfl) (by kernel_rfl) (by assumption) ?_
                try simp only [Act.put, List.setIfInBounds_toArray, List.set_cons_zero, List.set_cons_succ]
                refine regS (fun _ _ _ d h => by cases d <;> exact h) [21, 22, 23, 24, 25, 26, 27, 28] _ _ _ rfl (by kernel_rfl) (by assumption) ?_
                simp only [skipL, List.getElem?_cons_zero, List.getElem?_cons_succ, Option.bind_some, Act.put, List.setIfInBounds_toArray, List.set_cons_zero, List.set_cons_succ]
                first | (refine regW 29 (v := ?_) rfl (by rfl) (by kernel_rfl) (fun _ _ _ h => h) ?_ (by assumption) ?_; rotate_left; focus (intro w9 hSw; (try dsimp only at hSw); go_simp; (try with_reducible rfl); done)) | refine regU 29 rfl (by rfl) (by kernel_rfl) (fun _ _ _ h => h) (by assumption) ?_ | refine regN 29 rfl (by rfl) (by kernel_rfl) (by assumption) ?_
                try simp only [Act.put, List.setIfInBounds_toArray, List.set_cons_zero, List.set_cons_succ]
                first | (refine regW 30 (v := ?_) rfl (by rfl) (by kernel_rfl) (fun _ _ _ h => h) ?_ (by assumption) ?_; rotate_left; focus (intro w9 hSw; (try dsimp only at hSw); go_simp; (try with_reducible rfl); done)) | refine regU 30 rfl (by rfl) (by kernel_rfl) (fun _ _ _ h => h) (by assumption) ?_ | refine regN 30 rfl (by rfl) (by kernel_rfl) (by assumption) ?_
                try simp only [Act.put, List.setIfInBounds_toArray, List.set_cons_zero, List.set_cons_succ]
                first | (refine regW 31 (v := ?_) rfl (by rfl) (by kernel_rfl) (fun _ _ _ h => h) ?_ (by assumption) ?_; rotate_left; focus (intro w9 hSw; (try dsimp only at hSw); go_simp; (try with_reducible rfl); done)) | refine regU 31 rfl (by rfl) (by kernel_rfl) (fun _ _ _ h => h) (by assumption) ?_ | refine regN 31 rfl (by rfl) (by kernel_rfl) (by assumption) ?_
                try simp only [Act.put, List.setIfInBounds_toArray, List.set_cons_zero, List.set_cons_succ]
                refine wpAnyH_done (by kernel_rfl) ?_ _
                clear hHeld
                go_wp2
                go_roundw
                case rel => exact ⟨j + 1, by omega, by go_num, ⟨_, rfl, Lib.hid (by rw [HB.out, hno.out]; simp [eqSp, c1])⟩, hS3.drew⟩
                case measure => simp [intOf]; omega
            · go_wp2
              refine wp_region_held_drew (S := (fun w' => w'.cell? ⟨g0, 0, none⟩ = some (.int .i64 kk) ∧ w'.cell? ⟨g0, 1, none⟩ = some (.int .i64 jj) ∧ w'.cell? ⟨g0, 2, none⟩ = some (.int .i64 1) ∧ w'.cell? (ade.add (j * 4)) = some (.int .i64 bf) ∧ w'.cell? ⟨(ade.add (j * 4)).block, (ade.add (j * 4)).off + 1, none⟩ = some (.int .i64 bp) ∧ w'.cell? ⟨(ade.add (j * 4)).block, (ade.add (j * 4)).off + 2, none⟩ = some (.int .i64 bk))) (by kernel_rfl) (⟨hS3.cell 0 rfl 0, hS3.cell 0 rfl 1, hS3.cell 0 rfl 2, b0, b1, b2⟩) (fun hHeld => ?_)
              first | (refine regW 0 (v := ?_) rfl (by rfl) (by kernel_rfl) (fun _ _ _ h => h) ?_ (by assumption) ?_; rotate_left; focus (intro w9 hSw; (try dsimp only at hSw); go_simp; (try with_reducible rfl); done)) | refine regU 0 rfl (by rfl) (by kernel_rfl) (fun _ _ _ h => h) (by assumption) ?_ | refine regN 0 rfl (by rfl) (by kernel_rfl) (by assumption) ?_
              try simp only [Act.put, List.setIfInBounds_toArray, List.set_cons_zero, List.set_cons_succ]
              first | (refine regW 1 (v := ?_) rfl (by rfl) (by kernel_rfl) (fun _ _ _ h => h) ?_ (by assumption) ?_; rotate_left; focus (intro w9 hSw; (try dsimp only at hSw); go_simp; (try with_reducible rfl); done)) | refine regU 1 rfl (by rfl) (by kernel_rfl) (fun _ _ _ h => h) (by assumption) ?_ | refine regN 1 rfl (by rfl) (by kernel_rfl) (by assumption) ?_
              try simp only [Act.put, List.setIfInBounds_toArray, List.set_cons_zero, List.set_cons_succ]
              refine regS (fun _ _ _ d h => by cases d <;> exact h) [2, 3, 4, 5, 6, 7, 8, 9, 10, 11, 12, 13, 14, 15, 16, 17, 18, 19, 20, 21, 22, 23, 24, 25, 26, 27, 28, 29] _ _ _ rfl (by kernel_rfl) (by assumption) ?_
              simp only [skipL, List.getElem?_cons_zero, List.getElem?_cons_succ, Option.bind_some, Act.put, List.setIfInBounds_toArray, List.set_cons_zero, List.set_cons_succ]
              first | (refine regW 30 (v := ?_) rfl (by rfl) (by kernel_rfl) (fun _ _ _ h => h) ?_ (by assumption) ?_; rotate_left; focus (intro w9 hSw; (try dsimp only at hSw); go_simp; (try with_reducible rfl); done)) | refine regU 30 rfl (by rfl) (by kernel_rfl) (fun _ _ _ h => h) (by assumption) ?_ | refine regN 30 rfl (by rfl) (by kernel_rfl) (by assumption) ?_
              try simp only [Act.put, List.setIfInBounds_toArray, List.set_cons_zero, List.set_cons_succ]
              first | (refine regW 31 (v := ?_) rfl (by rfl) (by kernel_rfl) (fun _ _ _ h => h) ?_ (by assumption) ?_; rotate_left; focus (intro w9 hSw; (try dsimp only at hSw); go_simp; (try with_reducible rfl); done)) | refine regU 31 rfl (by rfl) (by kernel_rfl) (fun _ _ _ h => h) (by assumption) ?_ | refine regN 31 rfl (by rfl) (by kernel_rfl) (by assumption) ?_
              try simp only [Act.put, List.setIfInBounds_toArray, List.set_cons_zero, List.set_cons_succ]
              refine wpAnyH_done (by kernel_rfl) ?_ _
              clear hHeld
              go_wp2
              go_roundw
              case rel => exact ⟨j + 1, by omega, by go_num, ⟨_, rfl, Lib.hid (by rw [HB.out, hno.out]; simp)⟩, hS3.drew⟩
              case measure => simp [intOf]; omega
          · obtain rfl : j = black.length := by omega
            have x_p := hS3.cell 0 rfl
            have x_b := hS3.cell 2 rfl
            have f_b := hS3.free 2 rfl
            have HT := Lib.hid (show takeB l black ⟨kk, jj, qs, 0⟩ = !(noTo (!bq) black black.length kk jj 1) by unfold takeB blackB; rw [HK2.out, HV.out]; unfold noTo; rw [List.take_length]; exact HNO.out)
            cases nb
            · have HE := Lib.hid (show takeL l black ⟨kk, jj, qs, 0⟩ = [⟨kk, jj, 1, 0⟩] by unfold takeL; rw [HT.out, hno.out, HV.out]; simp)
              have hlen := planS_len l black (sites.take k)
              have hlk : (sites.take k).length ≤ k := by rw [List.length_take]; omega
              go_wp2_with (at_builtin; refine Knd.wp_appE kSpec rfl _ _ _ rfl 167 Try.underlying68 (.agg #[.int .i64 0, .int .i64 0, .int .i64 0, .int .i64 0]) 32 infoSpec rfl (by decide) rfl ((hS3.al _).own_ 1 rfl) _ _ _ _ ⟨kk, jj, 1, 0⟩ (blkAt _ _ (by simp)) rfl (kSpec_Oi.2 ⟨rfl, rfl⟩) (by have := hS3.nodup 1 rfl; simpa [Res.own] using this) (by (try simp [maxLen]); (try omega)) (by (try simp); (try omega)) ?_; rintro gq cq wq Fq hO hB hnd hF; have hS4 := (hS3.al _).appK 1 rfl hO hB hnd hF; clear hO hB hF hS3; have x_b := hS4.cell 2 rfl; have f_b := hS4.free 2 rfl)
              go_roundw
              case rel => exact ⟨k + 1, _, Fq, by omega, by go_num, by rw [HN.out, HE.out]; have h9 := (hS4.set 2 rfl 0 (.slice (some ⟨gq, 0, none⟩) ((planS l (sites.take k) black).length + 1) cq)).drop; exact h9⟩
              case measure => simp [intOf]; omega
            · have HE := Lib.hid (show takeL l black ⟨kk, jj, qs, 0⟩ = [] by unfold takeL; rw [HT.out, hno.out]; simp)
              go_wp2
              go_roundw
              case rel => exact ⟨k + 1, _, F, by omega, by go_num, by rw [HN.out, HE.out, List.append_nil]; exact hS3.drop⟩
              case measure => simp [intOf]; omega
      · have HNO := Lib.hid (show (decide (qs = 1) && (!(black.any fun b => eqSp b kk jj 1) && specB l ⟨kk, jj, 1, 0⟩)) = !(true || (black.any fun b => eqSp b kk jj 1)) by simp [hq1])
        go_wp2
        clear x_m
        have q_s := q2
        try rw [HG.out]
        clear x_s hS hS1 r0' f2' q3'
        go_loopw [14, 15] (fun no i wr => ∃ j : Nat, j ≤ black.length ∧ i = .int .i64 j ∧ (∃ b : Bool, no = .bool b ∧ Hid (noTo true black j kk jj 1 = b)) ∧ St w [Res.box g0 (.cells #[.int .i64 kk, .int .i64 jj, .int .i64 1, .int .i64 0] 167 (0, 0)), Res.own kSpec 167 (.slice Av (planS l (sites.take k) black).length cv) (planS l (sites.take k) black) F, Res.box (w.heap.size + 1 + 1) (.cells #[.slice Av (planS l (sites.take k) black).length cv, .int .i64 lay, .bool bare] 70 (0, 0)), Res.box (w.heap.size + 1) (.cells #[.slice none 0 0, .int .i64 0, .bool false] 70 (0, 0)), Res.box w.heap.size (.cells #[.slice A t.length c, .slice (some ad1) l.length d] 34 (0, 0))] wr) (fun _ i _ => black.length - (intOf i).toNat)
        case atStart => exact ⟨0, by omega, rfl, ⟨_, rfl, Lib.hid (by simp [noTo])⟩, hS2⟩
        case round =>
          clear hS2
          obtain ⟨j, hj, rfl, ⟨nb, rfl, hno⟩, hS3⟩ := hrel
          by_cases hlt2 : j < black.length
          · obtain ⟨b, hb⟩ := get_exU black j hlt2
            obtain ⟨ade, rfl, b0, b1, b2, b3⟩ := kSpec_at (hrb.below hS3.bel) j b hb
            have HB := Lib.hid (noTo_step (no := true) (f := kk) (p := jj) (kd := 1) hb)
            obtain ⟨bf, bp, bk, bt⟩ := b
            dsimp only at b0 b1 b2 b3
            clear hb b3
            cases nb
            · by_cases c1 : bf = kk
              · subst c1
                by_cases c2 : bp = jj
                · subst c2
                  go_wp2
                  refine wp_region_held_drew (S := (fun w' => w'.cell? ⟨g0, 0, none⟩ = some (.int .i64 kk) ∧ w'.cell? ⟨g0, 1, none⟩ = some (.int .i64 jj) ∧ w'.cell? ⟨g0, 2, none⟩ = some (.int .i64 1) ∧ w'.cell? (ade.add (j * 4)) = some (.int .i64 kk) ∧ w'.cell? ⟨(ade.add (j * 4)).block, (ade.add (j * 4)).off + 1, none⟩ = some (.int .i64 jj) ∧ w'.cell? ⟨(ade.add (j * 4)).block, (ade.add (j * 4)).off + 2, none⟩ = some (.int .i64 bk))) (by kernel_rfl) (⟨hS3.cell 0 rfl 0, hS3.cell 0 rfl 1, hS3.cell 0 rfl 2, b0, b1, b2⟩) (fun hHeld => ?_)
                  first | (refine regW 0 (v := ?_) rfl (by rfl) (by kernel_rfl) (fun _ _ _ h => h) ?_ (by assumption) ?_; rotate_left; focus (intro w9 hSw; (try dsimp only at hSw); go_simp; (try with_reducible rfl); done)) | refine regU 0 rfl (by rfl) (by kernel_rfl) (fun _ _ _ h => h) (by assumption) ?_ | refine regN 0 rfl (by rfl) (by kernel_rfl) (by assumption) ?_
                  try simp only [Act.put, List.setIfInBounds_toArray, List.set_cons_zero, List.set_cons_succ]
                  first | (refine regW 1 (v := ?_) rfl (by rfl) (by kernel_rfl) (fun _ _ _ h => h) ?_ (by assumption) ?_; rotate_left; focus (intro w9 hSw; (try dsimp only at hSw); go_simp; (try with_reducible rfl); done)) | refine regU 1 rfl (by rfl) (by kernel_rfl) (fun _ _ _ h => h) (by assumption) ?_ | refine regN 1 rfl (by rfl) (by kernel_rfl) (by assumption) ?_
                  try simp only [Act.put, List.setIfInBounds_toArray, List.set_cons_zero, List.set_cons_succ]
                  first | (refine regW 2 (v := ?_) rfl (by rfl) (by kernel_rfl) (fun _ _ _ h => h) ?_ (by assumption) ?_; rotate_left; focus (intro w9 hSw; (try dsimp only at hSw); go_simp; (try with_reducible rfl); done)) | refine regU 2 rfl (by rfl) (by kernel_rfl) (fun _ _ _ h => h) (by assumption) ?_ | refine regN 2 rfl (by rfl) (by kernel_rfl) (by assumption) ?_
                  try simp only [Act.put, List.setIfInBounds_toArray, List.set_cons_zero, List.set_cons_succ]
                  first | (refine regW 3 (v := ?_) rfl (by rfl) (by kernel_rfl) (fun _ _ _ h => h) ?_ (by assumption) ?_; rotate_left; focus (intro w9 hSw; (try dsimp only at hSw); go_simp; (try with_reducible rfl); done)) | refine regU 3 rfl (by rfl) (by kernel_rfl) (fun _ _ _ h => h) (by assumption) ?_ | refine regN 3 rfl (by rfl) (by kernel_rfl) (by assumption) ?_
                  try simp only [Act.put, List.setIfInBounds_toArray, List.set_cons_zero, List.set_cons_succ]
                  first | (refine regW 4 (v := ?_) rfl (by rfl) (by kernel_rfl) (fun _ _ _ h => h) ?_ (by assumption) ?_; rotate_left; focus (intro w9 hSw; (try dsimp only at hSw); go_simp; (try with_reducible rfl); done)) | refine regU 4 rfl (by rfl) (by kernel_rfl) (fun _ _ _ h => h) (by assumption) ?_ | refine regN 4 rfl (by rfl) (by kernel_rfl) (by assumption) ?_
                  try simp only [Act.put, List.setIfInBounds_toArray, List.set_cons_zero, List.set_cons_succ]
                  first | (refine regW 5 (v := ?_) rfl (by rfl) (by kernel_rfl) (fun _ _ _ h => h) ?_ (by assumption) ?_; rotate_left; focus (intro w9 hSw; (try dsimp only at hSw); go_simp; (try with_reducible rfl); done)) | refine regU 5 rfl (by rfl) (by kernel_rfl) (fun _ _ _ h => h) (by assumption) ?_ | refine regN 5 rfl (by rfl) (by kernel_rfl) (by assumption) ?_
                  try simp only [Act.put, List.setIfInBounds_toArray, List.set_cons_zero, List.set_cons_succ]
                  first | (refine regW 6 (v := ?_) rfl (by rfl) (by kernel_rfl) (fun _ _ _ h => h) ?_ (by assumption) ?_; rotate_left; focus (intro w9 hSw; (try dsimp only at hSw); go_simp; (try with_reducible rfl); done)) | refine regU 6 rfl (by rfl) (by kernel_rfl) (fun _ _ _ h => h) (by assumption) ?_ | refine regN 6 rfl (by rfl) (by kernel_rfl) (by assumption) ?_
                  try simp only [Act.put, List.setIfInBounds_toArray, List.set_cons_zero, List.set_cons_succ]
                  first | (refine regW 7 (v := ?_) rfl (by rfl) (by kernel_rfl) (fun _ _ _ h => h) ?_ (by assumption) ?_; rotate_left; focus (intro w9 hSw; (try dsimp only at hSw); go_simp; (try with_reducible rfl); done)) | refine regU 7 rfl (by rfl) (by kernel_rfl) (fun _ _ _ h => h) (by assumption) ?_ | refine regN 7 rfl (by rfl) (by kernel_rfl) (by assumption) ?_
                  try simp only [Act.put, List.setIfInBounds_toArray, List.set_cons_zero, List.set_cons_succ]
                  first | (refine regW 8 (v := ?_) rfl (by rfl) (by kernel_rfl) (fun _ _ _ h => h) ?_ (by assumption) ?_; rotate_left; focus (intro w9 hSw; (try dsimp only at hSw); go_simp; (try with_reducible rfl); done)) | refine regU 8 rfl (by rfl) (by kernel_rfl) (fun _ _ _ h => h) (by assumption) ?_ | refine regN 8 rfl (by rfl) (by kernel_rfl) (by assumption) ?_
                  try simp only [Act.put, List.setIfInBounds_toArray, List.set_cons_zero, List.set_cons_succ]
                  first | (refine regW 9 (v := ?_) rfl (by rfl) (by kernel_rfl) (fun _ _ _ h => h) ?_ (by assumption) ?_; rotate_left; focus (intro w9 hSw; (try dsimp only at hSw); go_simp; (try with_reducible rfl); done)) | refine regU 9 rfl (by rfl) (by kernel_rfl) (fun _ _ _ h => h) (by assumption) ?_ | refine regN 9 rfl (by rfl) (by kernel_rfl) (by assumption) ?_
                  try simp only [Act.put, List.setIfInBounds_toArray, List.set_cons_zero, List.set_cons_succ]
                  first | (refine regW 10 (v := ?_) rfl (by rfl) (by kernel_rfl) (fun _ _ _ h => h) ?_ (by assumption) ?_; rotate_left; focus (intro w9 hSw; (try dsimp only at hSw); go_simp; (try with_reducible rfl); done)) | refine regU 10 rfl (by rfl) (by kernel_rfl) (fun _ _ _ h => h) (by assumption) ?_ | refine regN 10 rfl (by rfl) (by kernel_rfl) (by assumption) ?_
                  try simp only [Act.put, List.setIfInBounds_toArray, List.set_cons_zero, List.set_cons_succ]
                  first | (refine regW 11 (v := ?_) rfl (by rfl) (by kernel_rfl) (fun _ _ _ h => h) ?_ (by assumption) ?_; rotate_left; focus (intro w9 hSw; (try dsimp only at hSw); go_simp; (try with_reducible rfl); done)) | refine regU 11 rfl (by rfl) (by kernel_rfl) (fun _ _ _ h => h) (by assumption) ?_ | refine regN 11 rfl (by rfl) (by kernel_rfl) (by assumption) ?_
                  try simp only [Act.put, List.setIfInBounds_toArray, List.set_cons_zero, List.set_cons_succ]
                  first | (refine regW 12 (v := ?_) rfl (by rfl) (by kernel_rfl) (fun _ _ _ h => h) ?_ (by assumption) ?_; rotate_left; focus (intro w9 hSw; (try dsimp only at hSw); go_simp; (try with_reducible rfl); done)) | refine regU 12 rfl (by rfl) (by kernel_rfl) (fun _ _ _ h => h) (by assumption) ?_ | refine regN 12 rfl (by rfl) (by kernel_rfl) (by assumption) ?_
                  try simp only [Act.put, List.setIfInBounds_toArray, List.set_cons_zero, List.set_cons_succ]
                  first | (refine regW 13 (v := ?_) rfl (by rfl) (by kernel_rfl) (fun _ _ _ h => h) ?_ (by assumption) ?_; rotate_left; focus (intro w9 hSw; (try dsimp only at hSw); go_simp; (try with_reducible rfl); done)) | refine regU 13 rfl (by rfl) (by kernel_rfl) (fun _ _ _ h => h) (by assumption) ?_ | refine regN 13 rfl (by rfl) (by kernel_rfl) (by assumption) ?_
                  try simp only [Act.put, List.setIfInBounds_toArray, List.set_cons_zero, List.set_cons_succ]
                  first | (refine regW 14 (v := ?_) rfl (by rfl) (by kernel_rfl) (fun _ _ _ h => h) ?_ (by assumption) ?_; rotate_left; focus (intro w9 hSw; (try dsimp only at hSw); go_simp; (try with_reducible rfl); done)) | refine regU 14 rfl (by rfl) (by kernel_rfl) (fun _ _ _ h => h) (by assumption) ?_ | refine regN 14 rfl (by rfl) (by kernel_rfl) (by assumption) ?_
                  try simp only [Act.put, List.setIfInBounds_toArray, List.set_cons_zero, List.set_cons_succ]
                  first | (refine regW 15 (v := ?_) rfl (by rfl) (by kernel_rfl) (fun _ _ _ h => h) ?_ (by assumption) ?_; rotate_left; focus (intro w9 hSw; (try dsimp only at hSw); go_simp; (try with_reducible rfl); done)) | refine regU 15 rfl (by rfl) (by kernel_rfl) (fun _ _ _ h => h) (by assumption) ?_ | refine regN 15 rfl (by rfl) (by kernel_rfl) (by assumption) ?_
                  try simp only [Act.put, List.setIfInBounds_toArray, List.set_cons_zero, List.set_cons_succ]
                  first | (refine regW 16 (v := ?_) rfl (by rfl) (by kernel_rfl) (fun _ _ _ h => h) ?_ (by assumption) ?_; rotate_left; focus (intro w9 hSw; (try dsimp only at hSw); go_simp; (try with_reducible rfl); done)) | refine regU 16 rfl (by rfl) (by kernel_rfl) (fun _ _ _ h => h) (by assumption) ?_ | refine regN 16 rfl (by rfl) (by kernel_rfl) (by assumption) ?_
                  try simp only [Act.put, List.setIfInBounds_toArray, List.set_cons_zero, List.set_cons_succ]
                  first | (refine regW 17 (v := ?_) rfl (by rfl) (by kernel_rfl) (fun _ _ _ h => h) ?_ (by assumption) ?_; rotate_left; focus (intro w9 hSw; (try dsimp only at hSw); go_simp; (try with_reducible rfl); done)) | refine regU 17 rfl (by rfl) (by kernel_rfl) (fun _ _ _ h => h) (by assumption) ?_ | refine regN 17 rfl (by rfl) (by kernel_rfl) (by assumption) ?_
                  try simp only [Act.put, List.setIfInBounds_toArray, List.set_cons_zero, List.set_cons_succ]
                  first | (refine regW 18 (v := ?_) rfl (by rfl) (by kernel_rfl) (fun _ _ _ h => h) ?_ (by assumption) ?_; rotate_left; focus (intro w9 hSw; (try dsimp only at hSw); go_simp; (try with_reducible rfl); done)) | refine regU 18 rfl (by rfl) (by kernel_rfl) (fun _ _ _ h => h) (by assumption) ?_ | refine regN 18 rfl (by rfl) (by kernel_rfl) (by assumption) ?_
                  try simp only [Act.put, List.setIfInBounds_toArray, List.set_cons_zero, List.set_cons_succ]
                  first | (refine regW 19 (v := ?_) rfl (by rfl) (by kernel_rfl) (fun _ _ _ h => h) ?_ (by assumption) ?_; rotate_left; focus (intro w9 hSw; (try dsimp only at hSw); go_simp; (try with_reducible rfl); done)) | refine regU 19 rfl (by rfl) (by kernel_rfl) (fun _ _ _ h => h) (by assumption) ?_ | refine regN 19 rfl (by rfl) (by kernel_rfl) (by assumption) ?_
                  try simp only [Act.put, List.setIfInBounds_toArray, List.set_cons_zero, List.set_cons_succ]
                  first | (refine regW 20 (v := ?_) rfl (by rfl) (by kernel_rfl) (fun _ _ _ h => h) ?_ (by assumption) ?_; rotate_left; focus (intro w9 hSw; (try dsimp only at hSw); go_simp; (try with_reducible rfl); done)) | refine regU 20 rfl (by rfl) (by kernel_rfl) (fun _ _ _ h => h) (by assumption) ?_ | refine regN 20 rfl (by rfl) (by kernel_rfl) (by assumption) ?_
                  try simp only [Act.put, List.setIfInBounds_toArray, List.set_cons_zero, List.set_cons_succ]
                  first | (refine regW 21 (v := ?_) rfl (by rfl) (by kernel_rfl) (fun _ _ _ h => h) ?_ (by assumption) ?_; rotate_left; focus (intro w9 hSw; (try dsimp only at hSw); go_simp; (try with_reducible rfl); done)) | refine regU 21 rfl (by rfl) (by kernel_rfl) (fun _ _ _ h => h) (by assumption) ?_ | refine regN 21 rfl (by rfl) (by kernel_rfl) (by assumption) ?_
                  try simp only [Act.put, List.setIfInBounds_toArray, List.set_cons_zero, List.set_cons_succ]
                  first | (refine regW 22 (v := ?_) rfl (by rfl) (by kernel_rfl) (fun _ _ _ h => h) ?_ (by assumption) ?_; rotate_left; focus (intro w9 hSw; (try dsimp only at hSw); go_simp; (try with_reducible rfl); done)) | refine regU 22 rfl (by rfl) (by kernel_rfl) (fun _ _ _ h => h) (by assumption) ?_ | refine regN 22 rfl (by rfl) (by kernel_rfl) (by assumption) ?_
                  try simp only [Act.put, List.setIfInBounds_toArray, List.set_cons_zero, List.set_cons_succ]
                  first | (refine regW 23 (v := ?_) rfl (by rfl) (by kernel_rfl) (fun _ _ _ h => h) ?_ (by assumption) ?_; rotate_left; focus (intro w9 hSw; (try dsimp only at hSw); go_simp; (try with_reducible rfl); done)) | refine regU 23 rfl (by rfl) (by kernel_rfl) (fun _ _ _ h => h) (by assumption) ?_ | refine regN 23 rfl (by rfl) (by kernel_rfl) (by assumption) ?_
                  try simp only [Act.put, List.setIfInBounds_toArray, List.set_cons_zero, List.set_cons_succ]
                  first | (refine regW 24 (v := ?_) rfl (by rfl) (by kernel_rfl) (fun _ _ _ h => h) ?_ (by assumption) ?_; rotate_left; focus (intro w9 hSw; (try dsimp only at hSw); go_simp; (try with_reducible rfl); done)) | refine regU 24 rfl (by rfl) (by kernel_rfl) (fun _ _ _ h => h) (by assumption) ?_ | refine regN 24 rfl (by rfl) (by kernel_rfl) (by assumption) ?_
                  try simp only [Act.put, List.setIfInBounds_toArray, List.set_cons_zero, List.set_cons_succ]
                  first | (refine regW 25 (v := ?_) rfl (by rfl) (by kernel_rfl) (fun _ _ _ h => h) ?_ (by assumption) ?_; rotate_left; focus (intro w9 hSw; (try dsimp only at hSw); go_simp; (try with_reducible rfl); done)) | refine regU 25 rfl (by rfl) (by kernel_rfl) (fun _ _ _ h => h) (by assumption) ?_ | refine regN 25 rfl (by rfl) (by kernel_rfl) (by assumption) ?_
                  try simp only [Act.put, List.setIfInBounds_toArray, List.set_cons_zero, List.set_cons_succ]
                  first | (refine regW 26 (v := ?_) rfl (by rfl) (by kernel_rfl) (fun _ _ _ h => h) ?_ (by assumption) ?_; rotate_left; focus (intro w9 hSw; (try dsimp only at hSw); go_simp; (try with_reducible rfl); done)) | refine regU 26 rfl (by rfl) (by kernel_rfl) (fun _ _ _ h => h) (by assumption) ?_ | refine regN 26 rfl (by rfl) (by kernel_rfl) (by assumption) ?_
                  try simp only [Act.put, List.setIfInBounds_toArray, List.set_cons_zero, List.set_cons_succ]
                  first | (refine regW 27 (v := ?_) rfl (by rfl) (by kernel_rfl) (fun _ _ _ h => h) ?_ (by assumption) ?_; rotate_left; focus (intro w9 hSw; (try dsimp only at hSw); go_simp; (try with_reducible rfl); done)) | refine regU 27 rfl (by rfl) (by kernel_rfl) (fun _ _ _ h => h) (by assumption) ?_ | refine regN 27 rfl (by rfl) (by kernel_rfl) (by assumption) ?_
                  try simp only [Act.put, List.setIfInBounds_toArray, List.set_cons_zero, List.set_cons_succ]
                  first | (refine regW 28 (v := ?_) rfl (by rfl) (by kernel_rfl) (fun _ _ _ h => h) ?_ (by assumption) ?_; rotate_left; focus (intro w9 hSw; (try dsimp only at hSw); go_simp; (try with_reducible rfl); done)) | refine regU 28 rfl (by rfl) (by kernel_rfl) (fun _ _ _ h => h) (by assumption) ?_ | refine regN 28 rfl (by rfl) (by kernel_rfl) (by assumption) ?_
                  try simp only [Act.put, List.setIfInBounds_toArray, List.set_cons_zero, List.set_cons_succ]
                  first | (refine regW 29 (v := ?_) rfl (by rfl) (by kernel_rfl) (fun _ _ _ h => h) ?_ (by assumption) ?_; rotate_left; focus (intro w9 hSw; (try dsimp only at hSw); go_simp; (try with_reducible rfl); done)) | refine regU 29 rfl (by rfl) (by kernel_rfl) (fun _ _ _ h => h) (by assumption) ?_ | refine regN 29 rfl (by rfl) (by kernel_rfl) (by assumption) ?_
                  try simp only [Act.put, List.setIfInBounds_toArray, List.set_cons_zero, List.set_cons_succ]
                  first | (refine regW 30 (v := ?_) rfl (by rfl) (by kernel_rfl) (fun _ _ _ h => h) ?_ (by assumption) ?_; rotate_left; focus (intro w9 hSw; (try dsimp only at hSw); go_simp; (try with_reducible rfl); done)) | refine regU 30 rfl (by rfl) (by kernel_rfl) (fun _ _ _ h => h) (by assumption) ?_ | refine regN 30 rfl (by rfl) (by kernel_rfl) (by assumption) ?_
                  try simp only [Act.put, List.setIfInBounds_toArray, List.set_cons_zero, List.set_cons_succ]
                  first | (refine regW 31 (v := ?_) rfl (by rfl) (by kernel_rfl) (fun _ _ _ h => h) ?_ (by assumption) ?_; rotate_left; focus (intro w9 hSw; (try dsimp only at hSw); go_simp; (try with_reducible rfl); done)) | refine regU 31 rfl (by rfl) (by kernel_rfl) (fun _ _ _ h => h) (by assumption) ?_ | refine regN 31 rfl (by rfl) (by kernel_rfl) (by assumption) ?_
                  try simp only [Act.put, List.setIfInBounds_toArray, List.set_cons_zero, List.set_cons_succ]
                  refine wpAnyH_done (by kernel_rfl) ?_ _
                  clear hHeld
                  go_wp2
                  go_roundw
                  case rel => exact ⟨j + 1, by omega, by go_num, ⟨_, rfl, Lib.hid (by rw [HB.out, hno.out]; simp [eqSp] <;> rfl)⟩, hS3.drew⟩
                  case measure => simp [intOf]; omega
                · have d2 : (bp == (jj : Int)) = false := by simp [c2]
                  go_wp2
                  refine wp_region_held_drew (S := (fun w' => w'.cell? ⟨g0, 0, none⟩ = some (.int .i64 kk) ∧ w'.cell? ⟨g0, 1, none⟩ = some (.int .i64 jj) ∧ w'.cell? ⟨g0, 2, none⟩ = some (.int .i64 1) ∧ w'.cell? (ade.add (j * 4)) = some (.int .i64 kk) ∧ w'.cell? ⟨(ade.add (j * 4)).block, (ade.add (j * 4)).off + 1, none⟩ = some (.int .i64 bp) ∧ w'.cell? ⟨(ade.add (j * 4)).block, (ade.add (j * 4)).off + 2, none⟩ = some (.int .i64 bk))) (by kernel_rfl) (⟨hS3.cell 0 rfl 0, hS3.cell 0 rfl 1, hS3.cell 0 rfl 2, b0, b1, b2⟩) (fun hHeld => ?_)
                  first | (refine regW 0 (v := ?_) rfl (by rfl) (by kernel_rfl) (fun _ _ _ h => h) ?_ (by assumption) ?_; rotate_left; focus (intro w9 hSw; (try dsimp only at hSw); go_simp; (try with_reducible rfl); done)) | refine regU 0 rfl (by rfl) (by kernel_rfl) (fun _ _ _ h => h) (by assumption) ?_ | refine regN 0 rfl (by rfl) (by kernel_rfl) (by assumption) ?_
                  try simp only [Act.put, List.setIfInBounds_toArray, List.set_cons_zero, List.set_cons_succ]
                  first | (refine regW 1 (v := ?_) rfl (by rfl) (by kernel_rfl) (fun _ _ _ h => h) ?_ (by assumption) ?_; rotate_left; focus (intro w9 hSw; (try dsimp only at hSw); go_simp; (try with_reducible rfl); done)) | refine regU 1 rfl (by rfl) (by kernel_rfl) (fun _ _ _ h => h) (by assumption) ?_ | refine regN 1 rfl (by rfl) (by kernel_rfl) (by assumption) ?_
                  try simp only [Act.put, List.setIfInBounds_toArray, List.set_cons_zero, List.set_cons_succ]
                  first | (refine regW 2 (v := ?_) rfl (by rfl) (by kernel_rfl) (fun _ _ _ h => h) ?_ (by assumption) ?_; rotate_left; focus (intro w9 hSw; (try dsimp only at hSw); go_simp; (try with_reducible rfl); done)) | refine regU 2 rfl (by rfl) (by kernel_rfl) (fun _ _ _ h => h) (by assumption) ?_ | refine regN 2 rfl (by rfl) (by kernel_rfl) (by assumption) ?_
                  try simp only [Act.put, List.setIfInBounds_toArray, List.set_cons_zero, List.set_cons_succ]
                  first | (refine regW 3 (v := ?_) rfl (by rfl) (by kernel_rfl) (fun _ _ _ h => h) ?_ (by assumption) ?_; rotate_left; focus (intro w9 hSw; (try dsimp only at hSw); go_simp; (try with_reducible rfl); done)) | refine regU 3 rfl (by rfl) (by kernel_rfl) (fun _ _ _ h => h) (by assumption) ?_ | refine regN 3 rfl (by rfl) (by kernel_rfl) (by assumption) ?_
                  try simp only [Act.put, List.setIfInBounds_toArray, List.set_cons_zero, List.set_cons_succ]
                  first | (refine regW 4 (v := ?_) rfl (by rfl) (by kernel_rfl) (fun _ _ _ h => h) ?_ (by assumption) ?_; rotate_left; focus (intro w9 hSw; (try dsimp only at hSw); go_simp; (try with_reducible rfl); done)) | refine regU 4 rfl (by rfl) (by kernel_rfl) (fun _ _ _ h => h) (by assumption) ?_ | refine regN 4 rfl (by rfl) (by kernel_rfl) (by assumption) ?_
                  try simp only [Act.put, List.setIfInBounds_toArray, List.set_cons_zero, List.set_cons_succ]
                  first | (refine regW 5 (v := ?_) rfl (by rfl) (by kernel_rfl) (fun _ _ _ h => h) ?_ (by assumption) ?_; rotate_left; focus (intro w9 hSw; (try dsimp only at hSw); go_simp; (try with_reducible rfl); done)) | refine regU 5 rfl (by rfl) (by kernel_rfl) (fun _ _ _ h => h) (by assumption) ?_ | refine regN 5 rfl (by rfl) (by kernel_rfl) (by assumption) ?_
                  try simp only [Act.put, List.setIfInBounds_toArray, List.set_cons_zero, List.set_cons_succ]
                  first | (refine regW 6 (v := ?_) rfl (by rfl) (by kernel_rfl) (fun _ _ _ h => h) ?_ (by assumption) ?_; rotate_left; focus (intro w9 hSw; (try dsimp only at hSw); go_simp; (try with_reducible rfl); done)) | refine regU 6 rfl (by rfl) (by kernel_rfl) (fun _ _ _ h => h) (by assumption) ?_ | refine regN 6 rfl (by rfl) (by kernel_rfl) (by assumption) ?_
                  try simp only [Act.put, List.setIfInBounds_toArray, List.set_cons_zero, List.set_cons_succ]
                  first | (refine regW 7 (v := ?_) rfl (by rfl) (by kernel_rfl) (fun _ _ _ h => h) ?_ (by assumption) ?_; rotate_left; focus (intro w9 hSw; (try dsimp only at hSw); go_simp; (try with_reducible rfl); done)) | refine regU 7 rfl (by rfl) (by kernel_rfl) (fun _ _ _ h => h) (by assumption) ?_ | refine regN 7 rfl (by rfl) (by kernel_rfl) (by assumption) ?_
                  try simp only [Act.put, List.setIfInBounds_toArray, List.set_cons_zero, List.set_cons_succ]
                  first | (refine regW 8 (v := ?_) rfl (by rfl) (by kernel_rfl) (fun _ _ _ h => h) ?_ (by assumption) ?_; rotate_left; focus (intro w9 hSw; (try dsimp only at hSw); go_simp; (try with_reducible rfl); done)) | refine regU 8 rfl (by rfl) (by kernel_rfl) (fun _ _ _ h => h) (by assumption) ?_ | refine regN 8 rfl (by rfl) (by kernel_rfl) (by assumption) ?_
                  try simp only [Act.put, List.setIfInBounds_toArray, List.set_cons_zero, List.set_cons_succ]
                  first | (refine regW 9 (v := ?_) rfl (by rfl) (by kernel_rfl) (fun _ _ _ h => h) ?_ (by assumption) ?_; rotate_left; focus (intro w9 hSw; (try dsimp only at hSw); go_simp; (try with_reducible rfl); done)) | refine regU 9 rfl (by rfl) (by kernel_rfl) (fun _ _ _ h => h) (by assumption) ?_ | refine regN 9 rfl (by rfl) (by kernel_rfl) (by assumption) ?_
                  try simp only [Act.put, List.setIfInBounds_toArray, List.set_cons_zero, List.set_cons_succ]
                  first | (refine regW 10 (v := ?_) rfl (by rfl) (by kernel_rfl) (fun _ _ _ h => h) ?_ (by assumption) ?_; rotate_left; focus (intro w9 hSw; (try dsimp only at hSw); go_simp; (try with_reducible rfl); done)) | refine regU 10 rfl (by rfl) (by kernel_rfl) (fun _ _ _ h => h) (by assumption) ?_ | refine regN 10 rfl (by rfl) (by kernel_rfl) (by assumption) ?_
                  try simp only [Act.put, List.setIfInBounds_toArray, List.set_cons_zero, List.set_cons_succ]
                  first | (refine regW 11 (v := ?_) rfl (by rfl) (by kernel_rfl) (fun _ _ _ h => h) ?_ (by assumption) ?_; rotate_left; focus (intro w9 hSw; (try dsimp only at hSw); go_simp; (try with_reducible rfl); done)) | refine regU 11 rfl (by rfl) (by kernel_rfl) (fun _ _ _ h => h) (by assumption) ?_ | refine regN 11 rfl (by rfl) (by kernel_rfl) (by assumption) ?_
                  try simp only [Act.put, List.setIfInBounds_toArray, List.set_cons_zero, List.set_cons_succ]
                  first | (refine regW 12 (v := ?_) rfl (by rfl) (by kernel_rfl) (fun _ _ _ h => h) ?_ (by assumption) ?_; rotate_left; focus (intro w9 hSw; (try dsimp only at hSw); go_simp; (try with_reducible rfl); done)) | refine regU 12 rfl (by rfl) (by kernel_rfl) (fun _ _ _ h => h) (by assumption) ?_ | refine regN 12 rfl (by rfl) (by kernel_rfl) (by assumption) ?_
                  try simp only [Act.put, List.setIfInBounds_toArray, List.set_cons_zero, List.set_cons_succ]
                  first | (refine regW 13 (v := ?_) rfl (by rfl) (by kernel_rfl) (fun _ _ _ h => h) ?_ (by assumption) ?_; rotate_left; focus (intro w9 hSw; (try dsimp only at hSw); go_simp; (try with_reducible rfl); done)) | refine regU 13 rfl (by rfl) (by kernel_rfl) (fun _ _ _ h => h) (by assumption) ?_ | refine regN 13 rfl (by rfl) (by kernel_rfl) (by assumption) ?_
                  try simp only [Act.put, List.setIfInBounds_toArray, List.set_cons_zero, List.set_cons_succ]
                  first | (refine regW 14 (v := ?_) rfl (by rfl) (by kernel_rfl) (fun _ _ _ h => h) ?_ (by assumption) ?_; rotate_left; focus (intro w9 hSw; (try dsimp only at hSw); go_simp; (try with_reducible rfl); done)) | refine regU 14 rfl (by rfl) (by kernel_rfl) (fun _ _ _ h => h) (by assumption) ?_ | refine regN 14 rfl (by rfl) (by kernel_rfl) (by assumption) ?_
                  try simp only [Act.put, List.setIfInBounds_toArray, List.set_cons_zero, List.set_cons_succ]
                  first | (refine regW 15 (v := ?_) rfl (by rfl) (by kernel_rfl) (fun _ _ _ h => h) ?_ (by assumption) ?_; rotate_left; focus (intro w9 hSw; (try dsimp only at hSw); go_simp; (try with_reducible rfl); done)) | refine regU 15 rfl (by rfl) (by kernel_rfl) (fun _ _ _ h => h) (by assumption) ?_ | refine regN 15 rfl (by rfl) (by kernel_rfl) (by assumption) ?_
                  try simp only [Act.put, List.setIfInBounds_toArray, List.set_cons_zero, List.set_cons_succ]
                  first | (refine regW 16 (v := ?_) rfl (by rfl) (by kernel_rfl) (fun _ _ _ h => h) ?_ (by assumption) ?_; rotate_left; focus (intro w9 hSw; (try dsimp only at hSw); go_simp; (try with_reducible rfl); done)) | refine regU 16 rfl (by rfl) (by kernel_rfl) (fun _ _ _ h => h) (by assumption) ?_ | refine regN 16 rfl (by rfl) (by kernel_rfl) (by assumption) ?_
                  try simp only [Act.put, List.setIfInBounds_toArray, List.set_cons_zero, List.set_cons_succ]
                  first | (refine regW 17 (v := ?_) rfl (by rfl) (by kernel_rfl) (fun _ _ _ h => h) ?_ (by assumption) ?_; rotate_left; focus (intro w9 hSw; (try dsimp only at hSw); go_simp; (try with_reducible rfl); done)) | refine regU 17 rfl (by rfl) (by kernel_rfl) (fun _ _ _ h => h) (by assumption) ?_ | refine regN 17 rfl (by rfl) (by kernel_rfl) (by assumption) ?_
                  try simp only [Act.put, List.setIfInBounds_toArray, List.set_cons_zero, List.set_cons_succ]
                  first | (refine regW 18 (v := ?_) rfl (by rfl) (by kernel_rfl) (fun _ _ _ h => h) ?_ (by assumption) ?_; rotate_left; focus (intro w9 hSw; (try dsimp only at hSw); go_simp; (try with_reducible rfl); done)) | refine regU 18 rfl (by rfl) (by kernel_rfl) (fun _ _ _ h => h) (by assumption) ?_ | refine regN 18 rfl (by rfl) (by kernel_rfl) (by assumption) ?_
                  try simp only [Act.put, List.setIfInBounds_toArray, List.set_cons_zero, List.set_cons_succ]
                  first | (refine regW 19 (v := ?_) rfl (by rfl) (by kernel_rfl) (fun _ _ _ h => h) ?_ (by assumption) ?_; rotate_left; focus (intro w9 hSw; (try dsimp only at hSw); go_simp; (try with_reducible rfl); done)) | refine regU 19 rfl (by rfl) (by kernel_rfl) (fun _ _ _ h => h) (by assumption) ?_ | refine regN 19 rfl (by rfl) (by kernel_rfl) (by assumption) ?_
                  try simp only [Act.put, List.setIfInBounds_toArray, List.set_cons_zero, List.set_cons_succ]
                  first | (refine regW 20 (v := ?_) rfl (by rfl) (by kernel_rfl) (fun _ _ _ h => h) ?_ (by assumption) ?_; rotate_left; focus (intro w9 hSw; (try dsimp only at hSw); go_simp; (try with_reducible rfl); done)) | refine regU 20 rfl (by rfl) (by kernel_rfl) (fun _ _ _ h => h) (by assumption) ?_ | refine regN 20 rfl (by rfl) (by kernel_rfl) (by assumption) ?_
                  try simp only [Act.put, List.setIfInBounds_toArray, List.set_cons_zero, List.set_cons_succ]
                  refine regS (fun _ _ _ d h => by cases d <;> exact h) [21, 22, 23, 24, 25, 26, 27, 28] _ _ _ rfl (by kernel_rfl) (by assumption) ?_
                  simp only [skipL, List.getElem?_cons_zero, List.getElem?_cons_succ, Option.bind_some, Act.put, List.setIfInBounds_toArray, List.set_cons_zero, List.set_cons_succ]
                  first | (refine regW 29 (v := ?_) rfl (by rfl) (by kernel_rfl) (fun _ _ _ h => h) ?_ (by assumption) ?_; rotate_left; focus (intro w9 hSw; (try dsimp only at hSw); go_simp; (try with_reducible rfl); done)) | refine regU 29 rfl (by rfl) (by kernel_rfl) (fun _ _ _ h => h) (by assumption) ?_ | refine regN 29 rfl (by rfl) (by kernel_rfl) (by assumption) ?_
                  try simp only [Act.put, List.setIfInBounds_toArray, List.set_cons_zero, List.set_cons_succ]
                  first | (refine regW 30 (v := ?_) rfl (by rfl) (by kernel_rfl) (fun _ _ _ h => h) ?_ (by assumption) ?_; rotate_left; focus (intro w9 hSw; (try dsimp only at hSw); go_simp; (try with_reducible rfl); done)) | refine regU 30 rfl (by rfl) (by kernel_rfl) (fun _ _ _ h => h) (by assumption) ?_ | refine regN 30 rfl (by rfl) (by kernel_rfl) (by assumption) ?_
                  try simp only [Act.put, List.setIfInBounds_toArray, List.set_cons_zero, List.set_cons_succ]
                  first | (refine regW 31 (v := ?_) rfl (by rfl) (by kernel_rfl) (fun _ _ _ h => h) ?_ (by assumption) ?_; rotate_left; focus (intro w9 hSw; (try dsimp only at hSw); go_simp; (try with_reducible rfl); done)) | refine regU 31 rfl (by rfl) (by kernel_rfl) (fun _ _ _ h => h) (by assumption) ?_ | refine regN 31 rfl (by rfl) (by kernel_rfl) (by assumption) ?_
                  try simp only [Act.put, List.setIfInBounds_toArray, List.set_cons_zero, List.set_cons_succ]
                  refine wpAnyH_done (by kernel_rfl) ?_ _
                  clear hHeld
                  go_wp2
                  go_roundw
                  case rel => exact ⟨j + 1, by omega, by go_num, ⟨_, rfl, Lib.hid (by rw [HB.out, hno.out]; simp [eqSp, c2])⟩, hS3.drew⟩
                  case measure => simp [intOf]; omega
              · have d1 : (bf == (kk : Int)) = false := by simp [c1]
                go_wp2
                refine wp_region_held_drew (S := (fun w' => w'.cell? ⟨g0, 0, none⟩ = some (.int .i64 kk) ∧ w'.cell? ⟨g0, 1, none⟩ = some (.int .i64 jj) ∧ w'.cell? ⟨g0, 2, none⟩ = some (.int .i64 1) ∧ w'.cell? (ade.add (j * 4)) = some (.int .i64 bf) ∧ w'.cell? ⟨(ade.add (j * 4)).block, (ade.add (j * 4)).off + 1, none⟩ = some (.int .i64 bp) ∧ w'.cell? ⟨(ade.add (j * 4)).block, (ade.add (j * 4)).off + 2, none⟩ = some (.int .i64 bk))) (by kernel_rfl) (⟨hS3.cell 0 rfl 0, hS3.cell 0 rfl 1, hS3.cell 0 rfl 2, b0, b1, b2⟩) (fun hHeld => ?_)
                first | (refine regW 0 (v := ?_) rfl (by rfl) (by kernel_rfl) (fun _ _ _ h => h) ?_ (by assumption) ?_; rotate_left; focus (intro w9 hSw; (try dsimp only at hSw); go_simp; (try with_reducible rfl); done)) | refine regU 0 rfl (by rfl) (by kernel_rfl) (fun _ _ _ h => h) (by assumption) ?_ | refine regN 0 rfl (by rfl) (by kernel_rfl) (by assumption) ?_
                try simp only [Act.put, List.setIfInBounds_toArray, List.set_cons_zero, List.set_cons_succ]
                first | (refine regW 1 (v := ?_) rfl (by rfl) (by kernel_rfl) (fun _ _ _ h => h) ?_ (by assumption) ?_; rotate_left; focus (intro w9 hSw; (try dsimp only at hSw); go_simp; (try with_reducible rfl); done)) | refine regU 1 rfl (by rfl) (by kernel_rfl) (fun _ _ _ h => h) (by assumption) ?_ | refine regN 1 rfl (by rfl) (by kernel_rfl) (by assumption) ?_
                try simp only [Act.put, List.setIfInBounds_toArray, List.set_cons_zero, List.set_cons_succ]
                first | (refine regW 2 (v := ?_) rfl (by rfl) (by kernel_rfl) (fun _ _ _ h => h) ?_ (by assumption) ?_; rotate_left; focus (intro w9 hSw; (try dsimp only at hSw); go_simp; (try with_reducible rfl); done)) | refine regU 2 rfl (by rfl) (by kernel_rfl) (fun _ _ _ h => h) (by assumption) ?_ | refine regN 2 rfl (by rfl) (by kernel_rfl) (by assumption) ?_
                try simp only [Act.put, List.setIfInBounds_toArray, List.set_cons_zero, List.set_cons_succ]
                first | (refine regW 3 (v := ?_) rfl (by rfl) (by kernel_rfl) (fun _ _ _ h => h) ?_ (by assumption) ?_; rotate_left; focus (intro w9 hSw; (try dsimp only at hSw); go_simp; (try with_reducible rfl); done)) | refine regU 3 rfl (by rfl) (by kernel_rfl) (fun _ _ _ h => h) (by assumption) ?_ | refine regN 3 rfl (by rfl) (by kernel_rfl) (by assumption) ?_
                try simp only [Act.put, List.setIfInBounds_toArray, List.set_cons_zero, List.set_cons_succ]
                first | (refine regW 4 (v := ?_) rfl (by rfl) (by kernel_rfl) (fun _ _ _ h => h) ?_ (by assumption) ?_; rotate_left; focus (intro w9 hSw; (try dsimp only at hSw); go_simp; (try with_reducible rfl); done)) | refine regU 4 rfl (by rfl) (by kernel_rfl) (fun _ _ _ h => h) (by assumption) ?_ | refine regN 4 rfl (by rfl) (by kernel_rfl) (by assumption) ?_
                try simp only [Act.put, List.setIfInBounds_toArray, List.set_cons_zero, List.set_cons_succ]
                first | (refine regW 5 (v := ?_) rfl (by rfl) (by kernel_rfl) (fun _ _ _ h => h) ?_ (by assumption) ?_; rotate_left; focus (intro w9 hSw; (try dsimp only at hSw); go_simp; (try with_reducible rfl); done)) | refine regU 5 rfl (by rfl) (by kernel_rfl) (fun _ _ _ h => h) (by assumption) ?_ | refine regN 5 rfl (by rfl) (by kernel_rfl) (by assumption) ?_
                try simp only [Act.put, List.setIfInBounds_toArray, List.set_cons_zero, List.set_cons_succ]
                first | (refine regW 6 (v := ?_) rfl (by rfl) (by kernel_rfl) (fun _ _ _ h => h) ?_ (by assumption) ?_; rotate_left; focus (intro w9 hSw; (try dsimp only at hSw); go_simp; (try with_reducible rfl); done)) | refine regU 6 rfl (by rfl) (by kernel_rfl) (fun _ _ _ h => h) (by assumption) ?_ | refine regN 6 rfl (by rfl) (by kernel_rfl) (by assumption) ?_
                try simp only [Act.put, List.setIfInBounds_toArray, List.set_cons_zero, List.set_cons_succ]
                first | (refine regW 7 (v := ?_) rfl (by rfl) (by kernel_rfl) (fun _ _ _ h => h) ?_ (by assumption) ?_; rotate_left; focus (intro w9 hSw; (try dsimp only at hSw); go_simp; (try with_reducible rfl); done)) | refine regU 7 rfl (by rfl) (by kernel_rfl) (fun _ _ _ h => h) (by assumption) ?_ | refine regN 7 rfl (by rfl) (by kernel_rfl) (by assumption) ?_
                try simp only [Act.put, List.setIfInBounds_toArray, List.set_cons_zero, List.set_cons_succ]
                first | (refine regW 8 (v := ?_) rfl (by rfl) (by kernel_rfl) (fun _ _ _ h => h) ?_ (by assumption) ?_; rotate_left; focus (intro w9 hSw; (try dsimp only at hSw); go_simp; (try with_reducible rfl); done)) | refine regU 8 rfl (by rfl) (by kernel_rfl) (fun _ _ _ h => h) (by assumption) ?_ | refine regN 8 rfl (by rfl) (by kernel_rfl) (by assumption) ?_
                try simp only [Act.put, List.setIfInBounds_toArray, List.set_cons_zero, List.set_cons_succ]
                first | (refine regW 9 (v := ?_) rfl (by rfl) (by kernel_rfl) (fun _ _ _ h => h) ?_ (by assumption) ?_; rotate_left; focus (intro w9 hSw; (try dsimp only at hSw); go_simp; (try with_reducible rfl); done)) | refine regU 9 rfl (by rfl) (by kernel_rfl) (fun _ _ _ h => h) (by assumption) ?_ | refine regN 9 rfl (by rfl) (by kernel_rfl) (by assumption) ?_
                try simp only [Act.put, List.setIfInBounds_toArray, List.set_cons_zero, List.set_cons_succ]
                first | (refine regW 10 (v := ?_) rfl (by rfl) (by kernel_rfl) (fun _ _ _ h => h) ?_ (by assumption) ?_; rotate_left; focus (intro w9 hSw; (try dsimp only at hSw); go_simp; (try with_reducible rfl); done)) | refine regU 10 rfl (by rfl) (by kernel_rfl) (fun _ _ _ h => h) (by assumption) ?_ | refine regN 10 rfl (by rfl) (by kernel_rfl) (by assumption) ?_
                try simp only [Act.put, List.setIfInBounds_toArray, List.set_cons_zero, List.set_cons_succ]
                refine regS (fun _ _ _ d h => by cases d <;> exact h) [11, 12, 13, 14, 15, 16, 17, 18] _ _ _ rfl (by kernel_rfl) (by assumption) ?_
                simp only [skipL, List.getElem?_cons_zero, List.getElem?_cons_succ, Option.bind_some, Act.put, List.setIfInBounds_toArray, List.set_cons_zero, List.set_cons_succ]
                first | (refine regW 19 (v := ?_) rfl (by rfl) (by kernel_rfl) (fun _ _ _ h => h) ?_ (by assumption) ?_; rotate_left; focus (intro w9 hSw; (try dsimp only at hSw); go_simp; (try with_reducible rfl); done)) | refine regU 19 rfl (by rfl) (by kernel_rfl) (fun _ _ _ h => h) (by assumption) ?_ | refine regN 19 rfl (by rfl) (by kernel_rfl) (by assumption) ?_
                try simp only [Act.put, List.setIfInBounds_toArray, List.set_cons_zero, List.set_cons_succ]
                first | (refine regW 20 (v := ?_) rfl (by rfl) (by kernel_rfl) (fun _ _ _ h => h) ?_ (by assumption) ?_; rotate_left; focus (intro w9 hSw; (try dsimp only at hSw); go_simp; (try with_reducible rfl); done)) | refine regU 20 rfl (by rfl) (by kernel_rfl) (fun _ _ _ h => h) (by assumption) ?_ | refine regN 20 rfl (by rfl) (by kernel_rfl) (by assumption) ?_
                try simp only [Act.put, List.setIfInBounds_toArray, List.set_cons_zero, List.set_cons_succ]
                refine regS (fun _ _ _ d h => by cases d <;> exact h) [21, 22, 23, 24, 25, 26, 27, 28] _ _ _ rfl (by kernel_rfl) (by assumption) ?_
                simp only [skipL, List.getElem?_cons_zero, List.getElem?_cons_succ, Option.bind_some, Act.put, List.setIfInBounds_toArray, List.set_cons_zero, List.set_cons_succ]
                first | (refine regW 29 (v := ?_) rfl (by rfl) (by kernel_rfl) (fun _ _ _ h => h) ?_ (by assumption) ?_; rotate_left; focus (intro w9 hSw; (try dsimp only at hSw); go_simp; (try with_reducible rfl); done)) | refine regU 29 rfl (by rfl) (by kernel_rfl) (fun _ _ _ h => h) (by assumption) ?_ | refine regN 29 rfl (by rfl) (by kernel_rfl) (by assumption) ?_
                try simp only [Act.put, List.setIfInBounds_toArray, List.set_cons_zero, List.set_cons_succ]
                first | (refine regW 30 (v := ?_) rfl (by rfl) (by kernel_rfl) (fun _ _ _ h => h) ?_ (by assumption) ?_; rotate_left; focus (intro w9 hSw; (try dsimp only at hSw); go_simp; (try with_reducible rfl); done)) | refine regU 30 rfl (by rfl) (by kernel_rfl) (fun _ _ _ h => h) (by assumption) ?_ | refine regN 30 rfl (by rfl) (by kernel_rfl) (by assumption) ?_
                try simp only [Act.put, List.setIfInBounds_toArray, List.set_cons_zero, List.set_cons_succ]
                first | (refine regW 31 (v := ?_) rfl (by rfl) (by kernel_rfl) (fun _ _ _ h => h) ?_ (by assumption) ?_; rotate_left; focus (intro w9 hSw; (try dsimp only at hSw); go_simp; (try with_reducible rfl); done)) | refine regU 31 rfl (by rfl) (by kernel_rfl) (fun _ _ _ h => h) (by assumption) ?_ | refine regN 31 rfl (by rfl) (by kernel_rfl) (by assumption) ?_
                try simp only [Act.put, List.setIfInBounds_toArray, List.set_cons_zero, List.set_cons_succ]
                refine wpAnyH_done (by kernel_rfl) ?_ _
                clear hHeld
                go_wp2
                go_roundw
                case rel => exact ⟨j + 1, by omega, by go_num, ⟨_, rfl, Lib.hid (by rw [HB.out, hno.out]; simp [eqSp, c1])⟩, hS3.drew⟩
                case measure => simp [intOf]; omega
            · go_wp2
              refine wp_region_held_drew (S := (fun w' => w'.cell? ⟨g0, 0, none⟩ = some (.int .i64 kk) ∧ w'.cell? ⟨g0, 1, none⟩ = some (.int .i64 jj) ∧ w'.cell? ⟨g0, 2, none⟩ = some (.int .i64 1) ∧ w'.cell? (ade.add (j * 4)) = some (.int .i64 bf) ∧ w'.cell? ⟨(ade.add (j * 4)).block, (ade.add (j * 4)).off + 1, none⟩ = some (.int .i64 bp) ∧ w'.cell? ⟨(ade.add (j * 4)).block, (ade.add (j * 4)).off + 2, none⟩ = some (.int .i64 bk))) (by kernel_rfl) (⟨hS3.cell 0 rfl 0, hS3.cell 0 rfl 1, hS3.cell 0 rfl 2, b0, b1, b2⟩) (fun hHeld => ?_)
              first | (refine regW 0 (v := ?_) rfl (by rfl) (by kernel_rfl) (fun _ _ _ h => h) ?_ (by assumption) ?_; rotate_left; focus (intro w9 hSw; (try dsimp only at hSw); go_simp; (try with_reducible rfl); done)) | refine regU 0 rfl (by rfl) (by kernel_rfl) (fun _ _ _ h => h) (by assumption) ?_ | refine regN 0 rfl (by rfl) (by kernel_rfl) (by assumption) ?_
              try simp only [Act.put, List.setIfInBounds_toArray, List.set_cons_zero, List.set_cons_succ]
              first | (refine regW 1 (v := ?_) rfl (by rfl) (by kernel_rfl) (fun _ _ _ h => h) ?_ (by assumption) ?_; rotate_left; focus (intro w9 hSw; (try dsimp only at hSw); go_simp; (try with_reducible rfl); done)) | refine regU 1 rfl (by rfl) (by kernel_rfl) (fun _ _ _ h => h) (by assumption) ?_ | refine regN 1 rfl (by rfl) (by kernel_rfl) (by assumption) ?_
              try simp only [Act.put, List.setIfInBounds_toArray, List.set_cons_zero, List.set_cons_succ]
              refine regS (fun _ _ _ d h => by cases d <;> exact h) [2, 3, 4, 5, 6, 7, 8, 9, 10, 11, 12, 13, 14, 15, 16, 17, 18, 19, 20, 21, 22, 23, 24, 25, 26, 27, 28, 29] _ _ _ rfl (by kernel_rfl) (by assumption) ?_
              simp only [skipL, List.getElem?_cons_zero, List.getElem?_cons_succ, Option.bind_some, Act.put, List.setIfInBounds_toArray, List.set_cons_zero, List.set_cons_succ]
              first | (refine regW 30 (v := ?_) rfl (by rfl) (by kernel_rfl) (fun _ _ _ h => h) ?_ (by assumption) ?_; rotate_left; focus (intro w9 hSw; (try dsimp only at hSw); go_simp; (try with_reducible rfl); done)) | refine regU 30 rfl (by rfl) (by kernel_rfl) (fun _ _ _ h => h) (by assumption) ?_ | refine regN 30 rfl (by rfl) (by kernel_rfl) (by assumption) ?_
              try simp only [Act.put, List.setIfInBounds_toArray, List.set_cons_zero, List.set_cons_succ]
              first | (refine regW 31 (v := ?_) rfl (by rfl) (by kernel_rfl) (fun _ _ _ h => h) ?_ (by assumption) ?_; rotate_left; focus (intro w9 hSw; (try dsimp only at hSw); go_simp; (try with_reducible rfl); done)) | refine regU 31 rfl (by rfl) (by kernel_rfl) (fun _ _ _ h => h) (by assumption) ?_ | refine regN 31 rfl (by rfl) (by kernel_rfl) (by assumption) ?_
              try simp only [Act.put, List.setIfInBounds_toArray, List.set_cons_zero, List.set_cons_succ]
              refine wpAnyH_done (by kernel_rfl) ?_ _
              clear hHeld
              go_wp2
              go_roundw
              case rel => exact ⟨j + 1, by omega, by go_num, ⟨_, rfl, Lib.hid (by rw [HB.out, hno.out]; simp)⟩, hS3.drew⟩
              case measure => simp [intOf]; omega
          · obtain rfl : j = black.length := by omega
            have x_p := hS3.cell 0 rfl
            have x_b := hS3.cell 2 rfl
            have f_b := hS3.free 2 rfl
            have HT := Lib.hid (show takeB l black ⟨kk, jj, qs, 0⟩ = !(noTo true black black.length kk jj 1) by unfold takeB blackB; rw [HK2.out, HV.out]; unfold noTo; rw [List.take_length]; exact HNO.out)
            cases nb
            · have HE := Lib.hid (show takeL l black ⟨kk, jj, qs, 0⟩ = [⟨kk, jj, 1, 0⟩] by unfold takeL; rw [HT.out, hno.out, HV.out]; simp)
              have hlen := planS_len l black (sites.take k)
              have hlk : (sites.take k).length ≤ k := by rw [List.length_take]; omega
              go_wp2_with (at_builtin; refine Knd.wp_appE kSpec rfl _ _ _ rfl 167 Try.underlying68 (.agg #[.int .i64 0, .int .i64 0, .int .i64 0, .int .i64 0]) 32 infoSpec rfl (by decide) rfl ((hS3.al _).own_ 1 rfl) _ _ _ _ ⟨kk, jj, 1, 0⟩ (blkAt _ _ (by simp)) rfl (kSpec_Oi.2 ⟨rfl, rfl⟩) (by have := hS3.nodup 1 rfl; simpa [Res.own] using this) (by (try simp [maxLen]); (try omega)) (by (try simp); (try omega)) ?_; rintro gq cq wq Fq hO hB hnd hF; have hS4 := (hS3.al _).appK 1 rfl hO hB hnd hF; clear hO hB hF hS3; have x_b := hS4.cell 2 rfl; have f_b := hS4.free 2 rfl)
              go_roundw
              case rel => exact ⟨k + 1, _, Fq, by omega, by go_num, by rw [HN.out, HE.out]; have h9 := (hS4.set 2 rfl 0 (.slice (some ⟨gq, 0, none⟩) ((planS l (sites.take k) black).length + 1) cq)).drop; exact h9⟩
              case measure => simp [intOf]; omega
            · have HE := Lib.hid (show takeL l black ⟨kk, jj, qs, 0⟩ = [] by unfold takeL; rw [HT.out, hno.out]; simp)
              go_wp2
              go_roundw
              case rel => exact ⟨k + 1, _, F, by omega, by go_num, by rw [HN.out, HE.out, List.append_nil]; exact hS3.drop⟩
              case measure => simp [intOf]; omega
end Go.Proofs.Ytpjdecneeakkeaa.Dat

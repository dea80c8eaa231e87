/- ModuleOk, in the program and in the reference. -/
import Derived.Test.YteoibjacgnmnpaaIdx
namespace Go.Proofs.Yteoibjacgnmnpaa.Dat
open Go Go.RowKit Go.Proofs.Yteoibjacgnmnpaa.Mem
set_option linter.unusedVariables false
set_option linter.unusedSimpArgs false
def funcB (nt nf : Nat) (x : DFunc) : Bool := btw x.params 0 6 && btw x.locals x.params 12 && btw x.code.length 1 120 && x.code.all (fun y => insB nt nf x.locals x.code.length y.op y.a)
def modB (t : List ByteArray) (l : List DFunc) : Bool := btw l.length 1 12 && decide ((t.length : Int) ≤ 20) && t.all textB && l.all (funcB t.length l.length)
theorem all_any {α : Type} (p : α → Bool) (l : List α) : l.all p = !l.any (fun x => !p x) := by
  induction l with
  | nil => rfl
  | cons x l ih => simp [ih]
theorem modB_1 {t : List ByteArray} {l : List DFunc} (h : btw l.length 1 12 = false) : modB t l = false := by simp [modB, h]
theorem modB_2 {t : List ByteArray} {l : List DFunc} (h : ¬ (t.length : Int) ≤ 20) : modB t l = false := by simp only [modB, decide_eq_false h, Bool.and_false, Bool.false_and]
theorem modB_3 {t : List ByteArray} {l : List DFunc} (h : t.all textB = false) : modB t l = false := by simp [modB, h]
theorem modB_4 {t : List ByteArray} {l : List DFunc} (h1 : btw l.length 1 12 = true) (h2 : (t.length : Int) ≤ 20) (h3 : t.all textB = true) : modB t l = l.all (funcB t.length l.length) := by simp only [modB, h1, decide_eq_true h2, h3, Bool.and_true, Bool.true_and]
theorem all_bad {α : Type} {p : α → Bool} {l : List α} {k : Nat} {x : α} (h : l[k]? = some x) (hp : p x = false) : l.all p = false := by
  rw [List.all_eq_false]
  exact ⟨x, List.mem_of_getElem? h, by simp [hp]⟩
theorem all_good {α : Type} {p : α → Bool} {l : List α} (h : ∀ j x, l[j]? = some x → j < l.length → p x = true) : l.all p = true := by
  rw [List.all_eq_true]
  intro x hx
  obtain ⟨j, hj⟩ := List.mem_iff_getElem?.1 hx
  exact h j x hj (List.getElem?_eq_some_iff.1 hj).1
theorem yes_step {α : Type} {p : α → Bool} {l : List α} {k : Nat} {x : α} (h : ∀ j y, l[j]? = some y → j < k → p y = true) (hx : l[k]? = some x) (hp : p x = true) : ∀ j y, l[j]? = some y → j < k + 1 → p y = true := by
  intro j y hy hj
  rcases Nat.lt_succ_iff_lt_or_eq.1 hj with hj | rfl
  · exact h j y hy hj
  · rw [hx] at hy
    cases hy
    exact hp
set_option maxHeartbeats 4000000 in
theorem modOkI (A B : Option Addr) (c d : Nat) (t : List ByteArray) (l : List DFunc) (w : World) (ht : Knd.str.Row w A t.length t) (hr : kFunc.Row w B l.length l) (htm : t.length ≤ 1048576) (hm : l.length ≤ 1048576) (htv : ∀ x ∈ t, x.size ≤ maxLen) (hv : ∀ x ∈ l, x.code.length ≤ 1048576 ∧ -9223372036854775808 ≤ x.locals ∧ x.locals ≤ 9223372036854775807) :
    Calls Try.prog 72 #[.agg #[.slice A t.length c, .slice B l.length d]] w fun e w' => e = .returned (.bool (modB t l)) ∧ Below w.heap.size w w' := by
  cases hA : btw l.length 1 12
  · rw [modB_1 hA]
    have HA := Lib.hid hA
    clear hA
    go_enter Try.func72, Try.ntmps72
    go_wp2_with (go_at_call 127; refine (inRange _ HA.out).mono ?_; rintro e w' ⟨rfl, rfl⟩)
    go_ret
    exact ⟨rfl, (by repeat (first | exact Below.refl _ _ | assumption | (refine bl_set ?_ (by dsimp only; omega) _) | refine bl_alloc ?_ _ | refine bl_drewN ?_ _ | refine bl_drew ?_ | refine bl_step ?_ (by assumption)))⟩
  by_cases hB : (t.length : Int) ≤ 20
  rotate_left
  · rw [modB_2 hB]
    have HA := Lib.hid hA
    have hB2 : 20 < (t.length : Int) := by omega
    clear hA hB
    go_enter Try.func72, Try.ntmps72
    go_wp2_with (go_at_call 127; refine (inRange _ HA.out).mono ?_; rintro e w' ⟨rfl, rfl⟩)
    go_ret
    exact ⟨rfl, (by repeat (first | exact Below.refl _ _ | assumption | (refine bl_set ?_ (by dsimp only; omega) _) | refine bl_alloc ?_ _ | refine bl_drewN ?_ _ | refine bl_drew ?_ | refine bl_step ?_ (by assumption)))⟩
  have C1 := has1 A c t
  cases hC : t.all textB
  · rw [modB_3 hC]
    have HA := Lib.hid hA
    rw [all_any] at hC
    rw [show t.any (fun s => !textB s) = true by simpa using hC] at C1
    clear hA hC
    go_enter Try.func72, Try.ntmps72
    go_wp2_with fail
    refine (inRange _ HA.out).mono ?_
    rintro e w' ⟨rfl, rfl⟩
    go_wp2_with fail
    refine (C1 _ (ht.below (by repeat (first | exact Below.refl _ _ | assumption | (refine bl_set ?_ (by dsimp only; omega) _) | refine bl_alloc ?_ _ | refine bl_drewN ?_ _ | refine bl_drew ?_ | refine bl_step ?_ (by assumption)))) htm htv).mono ?_
    rintro e w' ⟨rfl, rfl⟩
    go_wp2
    go_ret
    exact ⟨rfl, (by repeat (first | exact Below.refl _ _ | assumption | (refine bl_set ?_ (by dsimp only; omega) _) | refine bl_alloc ?_ _ | refine bl_drewN ?_ _ | refine bl_drew ?_ | refine bl_step ?_ (by assumption)))⟩
  rw [modB_4 hA hB hC]
  have HA := Lib.hid hA
  rw [all_any] at hC
  rw [show t.any (fun s => !textB s) = false by simpa using hC] at C1
  clear hA hC
  go_enter Try.func72, Try.ntmps72
  go_wp2_with fail
  refine (inRange _ HA.out).mono ?_
  rintro e w' ⟨rfl, rfl⟩
  go_wp2_with fail
  refine (C1 _ (ht.below (by repeat (first | exact Below.refl _ _ | assumption | (refine bl_set ?_ (by dsimp only; omega) _) | refine bl_alloc ?_ _ | refine bl_drewN ?_ _ | refine bl_drew ?_ | refine bl_step ?_ (by assumption)))) htm htv).mono ?_
  rintro e w' ⟨rfl, rfl⟩
  go_wp2
  go_loopw [24] (fun i wr => ∃ k : Nat, k ≤ l.length ∧ i = .int .i64 k ∧ Hid (∀ j x, l[j]? = some x → j < k → funcB t.length l.length x = true) ∧ wr.heap[w.heap.size]? = some (.cells #[.slice A t.length c, .slice B l.length d] 34 (0, 0)) ∧ Below w.heap.size w wr) (fun i _ => l.length - (intOf i).toNat)
  case atStart => exact ⟨0, by omega, rfl, (fun j x _ h => by omega), blk_new _ _, (by repeat (first | exact Below.refl _ _ | assumption | (refine bl_set ?_ (by dsimp only; omega) _) | refine bl_alloc ?_ _ | refine bl_drewN ?_ _ | refine bl_drew ?_ | refine bl_step ?_ (by assumption)))⟩
  case round =>
    obtain ⟨k, hk, rfl, ho, hM, hb⟩ := hrel
    have m0 : wr.cell? ⟨w.heap.size, 0, none⟩ = some (.slice A t.length c) := blk_cell hM 0
    have m1 : wr.cell? ⟨w.heap.size, 1, none⟩ = some (.slice B l.length d) := blk_cell hM 1
    have ml := blk_lt hM
    by_cases hlt : k < l.length
    · obtain ⟨x, hx⟩ := get_exU l k hlt
      obtain ⟨hcl, hl1, hl2⟩ := hv x (List.mem_of_getElem? hx)
      obtain ⟨ad, A2, c2, rfl, q0, q1, q2, hq, hr2⟩ := kFunc_at (hr.below hb) k x hx
      have hq2 : (x.code.length : Int) ≤ 1048576 := by omega
      cases h1 : btw x.params 0 6
      · have HE := Lib.hid (all_bad (p := funcB t.length l.length) hx (by simp [funcB, h1]))
        have H1 := Lib.hid h1
        clear hx h1
        go_wp2_with fail
        refine (inRange _ H1.out).mono ?_
        rintro e w' ⟨rfl, rfl⟩
        go_wp2
        go_ret
        exact ⟨ret_bool HE.out.symm, (by repeat (first | exact Below.refl _ _ | assumption | (refine bl_set ?_ (by dsimp only; omega) _) | refine bl_alloc ?_ _ | refine bl_drewN ?_ _ | refine bl_drew ?_ | refine bl_step ?_ (by assumption)))⟩
      cases h2 : btw x.locals x.params 12
      · have HE := Lib.hid (all_bad (p := funcB t.length l.length) hx (by simp [funcB, h2]))
        have H1 := Lib.hid h1
        have H2 := Lib.hid h2
        clear hx h1 h2
        go_wp2_with fail
        refine (inRange _ H1.out).mono ?_
        rintro e w' ⟨rfl, rfl⟩
        go_wp2_with fail
        refine (inRange _ H2.out).mono ?_
        rintro e w' ⟨rfl, rfl⟩
        go_wp2
        go_ret
        exact ⟨ret_bool HE.out.symm, (by repeat (first | exact Below.refl _ _ | assumption | (refine bl_set ?_ (by dsimp only; omega) _) | refine bl_alloc ?_ _ | refine bl_drewN ?_ _ | refine bl_drew ?_ | refine bl_step ?_ (by assumption)))⟩
      cases h3 : btw x.code.length 1 120
      · have HE := Lib.hid (all_bad (p := funcB t.length l.length) hx (by simp [funcB, h3]))
        have H1 := Lib.hid h1
        have H2 := Lib.hid h2
        have H3 := Lib.hid h3
        clear hx h1 h2 h3
        go_wp2_with fail
        refine (inRange _ H1.out).mono ?_
        rintro e w' ⟨rfl, rfl⟩
        go_wp2_with fail
        refine (inRange _ H2.out).mono ?_
        rintro e w' ⟨rfl, rfl⟩
        go_wp2_with fail
        refine (inRange _ H3.out).mono ?_
        rintro e w' ⟨rfl, rfl⟩
        go_wp2
        go_ret
        exact ⟨ret_bool HE.out.symm, (by repeat (first | exact Below.refl _ _ | assumption | (refine bl_set ?_ (by dsimp only; omega) _) | refine bl_alloc ?_ _ | refine bl_drewN ?_ _ | refine bl_drew ?_ | refine bl_step ?_ (by assumption)))⟩
      have C2 := has2 A (some ad) A2 A2 c d c2 c2 t.length l.length x.code.length x.params x.locals x.code w.heap.size wr.heap.size
      cases h4 : x.code.all (fun y => insB t.length l.length x.locals x.code.length y.op y.a)
      · have HE := Lib.hid (all_bad (p := funcB t.length l.length) hx (by simp only [funcB, h4, Bool.and_false]))
        rw [all_any] at h4
        rw [show x.code.any (fun y => !insB t.length l.length x.locals x.code.length y.op y.a) = true by simpa using h4] at C2
        have H1 := Lib.hid h1
        have H2 := Lib.hid h2
        have H3 := Lib.hid h3
        clear hx h1 h2 h3 h4
        go_wp2_with fail
        refine (inRange _ H1.out).mono ?_
        rintro e w' ⟨rfl, rfl⟩
        go_wp2_with fail
        refine (inRange _ H2.out).mono ?_
        rintro e w' ⟨rfl, rfl⟩
        go_wp2_with fail
        refine (inRange _ H3.out).mono ?_
        rintro e w' ⟨rfl, rfl⟩
        go_wp2_with fail
        refine (C2 _ (hr2.below (by repeat (first | exact Below.refl _ _ | assumption | (refine bl_set ?_ (by dsimp only; omega) _) | refine bl_alloc ?_ _ | refine bl_drewN ?_ _ | refine bl_drew ?_ | refine bl_step ?_ (by assumption)))) hcl (by go_keep) (by go_keep) (by go_keep) (by go_keep) (by go_keep) hl1 hl2 htm hm hcl).mono ?_
        rintro e w' ⟨rfl, hb2⟩
        go_wp2
        go_ret
        exact ⟨ret_bool HE.out.symm, (by repeat (first | exact Below.refl _ _ | assumption | (refine bl_set ?_ (by dsimp only; omega) _) | refine bl_alloc ?_ _ | refine bl_drewN ?_ _ | refine bl_drew ?_ | refine bl_step ?_ (by assumption)))⟩
      · have HN := Lib.hid (yes_step ho.out hx (show funcB t.length l.length x = true by simp only [funcB, h1, h2, h3, h4, Bool.and_true]))
        rw [all_any] at h4
        rw [show x.code.any (fun y => !insB t.length l.length x.locals x.code.length y.op y.a) = false by simpa using h4] at C2
        have H1 := Lib.hid h1
        have H2 := Lib.hid h2
        have H3 := Lib.hid h3
        clear hx h1 h2 h3 h4
        go_wp2_with fail
        refine (inRange _ H1.out).mono ?_
        rintro e w' ⟨rfl, rfl⟩
        go_wp2_with fail
        refine (inRange _ H2.out).mono ?_
        rintro e w' ⟨rfl, rfl⟩
        go_wp2_with fail
        refine (inRange _ H3.out).mono ?_
        rintro e w' ⟨rfl, rfl⟩
        go_wp2_with fail
        refine (C2 _ (hr2.below (by repeat (first | exact Below.refl _ _ | assumption | (refine bl_set ?_ (by dsimp only; omega) _) | refine bl_alloc ?_ _ | refine bl_drewN ?_ _ | refine bl_drew ?_ | refine bl_step ?_ (by assumption)))) hcl (by go_keep) (by go_keep) (by go_keep) (by go_keep) (by go_keep) hl1 hl2 htm hm hcl).mono ?_
        rintro e w' ⟨rfl, hb2⟩
        have hM2 := blk_below (blk_alloc hM (.cells #[.int .i64 x.params, .int .i64 x.locals, .slice A2 x.code.length c2] 97 (0, 0))) (by simp; omega) hb2
        go_wp2
        go_roundw
        case rel => exact ⟨k + 1, by omega, by go_num, HN, hM2, (by repeat (first | exact Below.refl _ _ | assumption | (refine bl_set ?_ (by dsimp only; omega) _) | refine bl_alloc ?_ _ | refine bl_drewN ?_ _ | refine bl_drew ?_ | refine bl_step ?_ (by assumption)))⟩
        case measure => simp [intOf]; omega
    · obtain rfl : k = l.length := by omega
      have HE := Lib.hid (all_good (p := funcB t.length l.length) (fun j x h h2 => ho.out j x h h2))
      go_wp2
      go_ret
      exact ⟨ret_bool HE.out.symm, (by repeat (first | exact Below.refl _ _ | assumption | (refine bl_set ?_ (by dsimp only; omega) _) | refine bl_alloc ?_ _ | refine bl_drewN ?_ _ | refine bl_drew ?_ | refine bl_step ?_ (by assumption)))⟩
set_option maxHeartbeats 4000000 in
theorem modOk01 (A B : Option Addr) (c d : Nat) (t : List ByteArray) (l : List DFunc) (w : World) (ht : Knd.str.Row w A t.length t) (hr : kFunc.Row w B l.length l) (htm : t.length ≤ 1048576) (hm : l.length ≤ 1048576) (htv : ∀ x ∈ t, x.size ≤ maxLen) (hv : ∀ x ∈ l, x.code.length ≤ 1048576 ∧ -9223372036854775808 ≤ x.locals ∧ x.locals ≤ 9223372036854775807) :
    Calls Try.prog 125 #[.agg #[.slice A t.length c, .slice B l.length d]] w fun e w' => e = .returned (.bool (modB t l)) ∧ Below w.heap.size w w' := by
  cases hA : btw l.length 1 12
  · rw [modB_1 hA]
    have HA := Lib.hid hA
    clear hA
    go_enter Try.func125, Try.ntmps125
    go_wp2_with (go_at_call 124; refine (between _ HA.out).mono ?_; rintro e w' ⟨rfl, rfl⟩)
    go_ret
    exact ⟨rfl, (by repeat (first | exact Below.refl _ _ | assumption | (refine bl_set ?_ (by dsimp only; omega) _) | refine bl_alloc ?_ _ | refine bl_drewN ?_ _ | refine bl_drew ?_ | refine bl_step ?_ (by assumption)))⟩
  by_cases hB : (t.length : Int) ≤ 20
  rotate_left
  · rw [modB_2 hB]
    have HA := Lib.hid hA
    have hB2 : 20 < (t.length : Int) := by omega
    clear hA hB
    go_enter Try.func125, Try.ntmps125
    go_wp2_with (go_at_call 124; refine (between _ HA.out).mono ?_; rintro e w' ⟨rfl, rfl⟩)
    go_ret
    exact ⟨rfl, (by repeat (first | exact Below.refl _ _ | assumption | (refine bl_set ?_ (by dsimp only; omega) _) | refine bl_alloc ?_ _ | refine bl_drewN ?_ _ | refine bl_drew ?_ | refine bl_step ?_ (by assumption)))⟩
  have HA := Lib.hid hA
  have HB := Lib.hid hB
  clear hA
  go_enter Try.func125, Try.ntmps125
  go_wp2_with fail
  refine (between _ HA.out).mono ?_
  rintro e w' ⟨rfl, rfl⟩
  go_wp2
  go_loopw [3] (fun i wr => ∃ k : Nat, k ≤ t.length ∧ i = .int .i64 k ∧ Hid (∀ j x, t[j]? = some x → j < k → textB x = true) ∧ wr.heap[w.heap.size]? = some (.cells #[.slice A t.length c, .slice B l.length d] 34 (0, 0)) ∧ Below w.heap.size w wr) (fun i _ => t.length - (intOf i).toNat)
  case atStart => exact ⟨0, by omega, rfl, (fun j x _ h => by omega), blk_new _ _, (by repeat (first | exact Below.refl _ _ | assumption | (refine bl_set ?_ (by dsimp only; omega) _) | refine bl_alloc ?_ _ | refine bl_drewN ?_ _ | refine bl_drew ?_ | refine bl_step ?_ (by assumption)))⟩
  case round =>
    obtain ⟨k, hk, rfl, ho, hM, hb⟩ := hrel
    have m0 : wr.cell? ⟨w.heap.size, 0, none⟩ = some (.slice A t.length c) := blk_cell hM 0
    have m1 : wr.cell? ⟨w.heap.size, 1, none⟩ = some (.slice B l.length d) := blk_cell hM 1
    have ml := blk_lt hM
    by_cases hlt : k < t.length
    · obtain ⟨x, hx⟩ := get_exU t k hlt
      have hxm := htv x (List.mem_of_getElem? hx)
      obtain ⟨ad, cs, rfl, hK, q⟩ := (ht.below hb).get k x hx
      obtain rfl : cs = [.string x] := hK
      have q0 : wr.cell? (ad.add k) = some (.string x) := by have := q 0 _ rfl; simpa [Knd.str, Knd.scalar] using this
      clear q
      have C := text01 x wr hxm
      cases hp : textB x
      · have HE := Lib.hid (modB_3 (l := l) (all_bad hx hp))
        rw [hp] at C
        clear hx hp
        go_wp2_with fail
        refine C.mono ?_
        rintro e w' ⟨rfl, rfl⟩
        go_wp2
        go_ret
        exact ⟨ret_bool HE.out.symm, (by repeat (first | exact Below.refl _ _ | assumption | (refine bl_set ?_ (by dsimp only; omega) _) | refine bl_alloc ?_ _ | refine bl_drewN ?_ _ | refine bl_drew ?_ | refine bl_step ?_ (by assumption)))⟩
      · have HN := Lib.hid (yes_step ho.out hx hp)
        rw [hp] at C
        clear hx hp
        go_wp2_with fail
        refine C.mono ?_
        rintro e w' ⟨rfl, rfl⟩
        go_wp2
        go_roundw
        case rel => exact ⟨k + 1, by omega, by go_num, HN, hM, (by repeat (first | exact Below.refl _ _ | assumption | (refine bl_set ?_ (by dsimp only; omega) _) | refine bl_alloc ?_ _ | refine bl_drewN ?_ _ | refine bl_drew ?_ | refine bl_step ?_ (by assumption)))⟩
        case measure => simp [intOf]; omega
    · obtain rfl : k = t.length := by omega
      have HT := Lib.hid (modB_4 HA.out HB.out (all_good (p := textB) (fun j x h h2 => ho.out j x h h2)))
      clear ho
      go_wp2
      go_loopw [4] (fun i wr => ∃ k : Nat, k ≤ l.length ∧ i = .int .i64 k ∧ Hid (∀ j x, l[j]? = some x → j < k → funcB t.length l.length x = true) ∧ wr.heap[w.heap.size]? = some (.cells #[.slice A t.length c, .slice B l.length d] 34 (0, 0)) ∧ Below w.heap.size w wr) (fun i _ => l.length - (intOf i).toNat)
      case atStart => exact ⟨0, by omega, rfl, (fun j x _ h => by omega), hM, hb⟩
      case round =>
        clear hM hb m0 m1 ml
        obtain ⟨k, hk, rfl, ho, hM, hb⟩ := hrel
        have m0 : wr.cell? ⟨w.heap.size, 0, none⟩ = some (.slice A t.length c) := blk_cell hM 0
        have m1 : wr.cell? ⟨w.heap.size, 1, none⟩ = some (.slice B l.length d) := blk_cell hM 1
        have ml := blk_lt hM
        by_cases hlt : k < l.length
        · obtain ⟨x, hx⟩ := get_exU l k hlt
          obtain ⟨hcl, hl1, hl2⟩ := hv x (List.mem_of_getElem? hx)
          obtain ⟨ad, A2, c2, rfl, q0, q1, q2, hq, hr2⟩ := kFunc_at (hr.below hb) k x hx
          have hq2 : (x.code.length : Int) ≤ 1048576 := by omega
          cases h1 : btw x.params 0 6
          · have HE := Lib.hid (HT.out.trans (all_bad (p := funcB t.length l.length) hx (by simp [funcB, h1])))
            have H1 := Lib.hid h1
            clear hx h1
            go_wp2_with fail
            refine (between _ H1.out).mono ?_
            rintro e w' ⟨rfl, rfl⟩
            go_wp2
            go_ret
            exact ⟨ret_bool HE.out.symm, (by repeat (first | exact Below.refl _ _ | assumption | (refine bl_set ?_ (by dsimp only; omega) _) | refine bl_alloc ?_ _ | refine bl_drewN ?_ _ | refine bl_drew ?_ | refine bl_step ?_ (by assumption)))⟩
          cases h2 : btw x.locals x.params 12
          · have HE := Lib.hid (HT.out.trans (all_bad (p := funcB t.length l.length) hx (by simp [funcB, h2])))
            have H1 := Lib.hid h1
            have H2 := Lib.hid h2
            clear hx h1 h2
            go_wp2_with fail
            refine (between _ H1.out).mono ?_
            rintro e w' ⟨rfl, rfl⟩
            go_wp2_with fail
            refine (between _ H2.out).mono ?_
            rintro e w' ⟨rfl, rfl⟩
            go_wp2
            go_ret
            exact ⟨ret_bool HE.out.symm, (by repeat (first | exact Below.refl _ _ | assumption | (refine bl_set ?_ (by dsimp only; omega) _) | refine bl_alloc ?_ _ | refine bl_drewN ?_ _ | refine bl_drew ?_ | refine bl_step ?_ (by assumption)))⟩
          cases h3 : btw x.code.length 1 120
          · have HE := Lib.hid (HT.out.trans (all_bad (p := funcB t.length l.length) hx (by simp [funcB, h3])))
            have H1 := Lib.hid h1
            have H2 := Lib.hid h2
            have H3 := Lib.hid h3
            clear hx h1 h2 h3
            go_wp2_with fail
            refine (between _ H1.out).mono ?_
            rintro e w' ⟨rfl, rfl⟩
            go_wp2_with fail
            refine (between _ H2.out).mono ?_
            rintro e w' ⟨rfl, rfl⟩
            go_wp2_with fail
            refine (between _ H3.out).mono ?_
            rintro e w' ⟨rfl, rfl⟩
            go_wp2
            go_ret
            exact ⟨ret_bool HE.out.symm, (by repeat (first | exact Below.refl _ _ | assumption | (refine bl_set ?_ (by dsimp only; omega) _) | refine bl_alloc ?_ _ | refine bl_drewN ?_ _ | refine bl_drew ?_ | refine bl_step ?_ (by assumption)))⟩
          have HX := Lib.hid hx
          have H1 := Lib.hid h1
          have H2 := Lib.hid h2
          have H3 := Lib.hid h3
          have hgs : w.heap.size < wr.heap.size := ml
          have hrl := hr.2.1
          have hM2 := blk_alloc hM (.cells #[.int .i64 x.params, .int .i64 x.locals, .slice A2 x.code.length c2] 97 (0, 0))
          have hG2 := blk_new wr (.cells #[.int .i64 x.params, .int .i64 x.locals, .slice A2 x.code.length c2] 97 (0, 0))
          have hb2 : Below w.heap.size w (wr.alloc (.cells #[.int .i64 x.params, .int .i64 x.locals, .slice A2 x.code.length c2] 97 (0, 0))) := (by repeat (first | exact Below.refl _ _ | assumption | (refine bl_set ?_ (by dsimp only; omega) _) | refine bl_alloc ?_ _ | refine bl_drewN ?_ _ | refine bl_drew ?_ | refine bl_step ?_ (by assumption)))
          have hr3 := hr2.below ((Below.refl _ _).alloc (Nat.le_refl _) (.cells #[.int .i64 x.params, .int .i64 x.locals, .slice A2 x.code.length c2] 97 (0, 0)))
          clear hx h1 h2 h3
          go_wp2_with fail
          refine (between _ H1.out).mono ?_
          rintro e w' ⟨rfl, rfl⟩
          go_wp2_with fail
          refine (between _ H2.out).mono ?_
          rintro e w' ⟨rfl, rfl⟩
          go_wp2_with fail
          refine (between _ H3.out).mono ?_
          rintro e w' ⟨rfl, rfl⟩
          go_wp2
          generalize wr.alloc _ = w3 at hM2 hG2 hb2 hr3 ⊢
          generalize wr.heap.size = g2 at hG2 hgs ⊢
          go_loopw [6] (fun i wq => ∃ n : Nat, n ≤ x.code.length ∧ i = .int .i64 n ∧ Hid (∀ j y, x.code[j]? = some y → j < n → insB t.length l.length x.locals x.code.length y.op y.a = true) ∧ wq.heap[w.heap.size]? = some (.cells #[.slice A t.length c, .slice (some ad) l.length d] 34 (0, 0)) ∧ wq.heap[g2]? = some (.cells #[.int .i64 x.params, .int .i64 x.locals, .slice A2 x.code.length c2] 97 (0, 0)) ∧ kIns.Row wq A2 x.code.length x.code ∧ Below w.heap.size w wq) (fun i _ => x.code.length - (intOf i).toNat)
          case atStart => exact ⟨0, by omega, rfl, (fun j x _ h => by omega), hM2, hG2, hr3, hb2⟩
          case round =>
            clear hM2 hG2 hb2 hr3
            obtain ⟨n, hn, rfl, ho2, hM2, hG2, hr3, hb2⟩ := hrel
            have mm0 : wr.cell? ⟨w.heap.size, 0, none⟩ = some (.slice A t.length c) := blk_cell hM2 0
            have mm1 : wr.cell? ⟨w.heap.size, 1, none⟩ = some (.slice (some ad) l.length d) := blk_cell hM2 1
            have gg2 : wr.cell? ⟨g2, 2, none⟩ = some (.slice A2 x.code.length c2) := blk_cell hG2 2
            have ml2 := blk_lt hM2
            have gl2 := blk_lt hG2
            by_cases hlt2 : n < x.code.length
            · obtain ⟨y, hy⟩ := get_exU x.code n hlt2
              obtain ⟨ad2, rfl, r0, r1⟩ := kIns_at hr3 n y hy
              have C := insOk03 A (some ad) c d t l k y.op y.a
              rw [insAt_at HX.out] at C
              cases hp : insB t.length l.length x.locals x.code.length y.op y.a
              · have HE := Lib.hid (HT.out.trans (all_bad (p := funcB t.length l.length) HX.out (by simp only [funcB, all_bad (p := fun y : DIns => insB t.length l.length x.locals x.code.length y.op y.a) hy hp, Bool.and_false])))
                rw [hp] at C
                clear hy hp
                go_wp2
                go_region_held3 (fun w' => w'.cell? ⟨w.heap.size, 0, none⟩ = some (.slice A t.length c) ∧ w'.cell? ⟨w.heap.size, 1, none⟩ = some (.slice (some ad) l.length d) ∧ w'.cell? ⟨g2, 2, none⟩ = some (.slice (some ad2) x.code.length c2) ∧ w'.cell? (ad2.add (n * 2)) = some (.int .i64 y.op) ∧ w'.cell? ⟨(ad2.add (n * 2)).block, (ad2.add (n * 2)).off + 1, none⟩ = some (.int .i64 y.a) ∧ Below w.heap.size w w') ((refine ⟨?_, ?_, ?_, ?_, ?_, ?_⟩ <;> first | assumption | (go_keep; done) | (refine kept hb3 ?_; go_keep; done) | exact (by repeat (first | exact Below.refl _ _ | assumption | (refine bl_set ?_ (by dsimp only; omega) _) | refine bl_alloc ?_ _ | refine bl_drewN ?_ _ | refine bl_drew ?_ | refine bl_step ?_ (by assumption))))) (first | (go_at_call 168; refine (C _ (hr.below (by repeat (first | exact Below.refl _ _ | assumption | (refine bl_set ?_ (by dsimp only; omega) _) | refine bl_alloc ?_ _ | refine bl_drewN ?_ _ | refine bl_drew ?_ | refine bl_step ?_ (by assumption)))) htm hm hv).mono ?_; rintro e w' ⟨rfl, hb3⟩; have hb4 : Below wr.heap.size wr w' := (by repeat (first | exact Below.refl _ _ | assumption | (refine bl_set ?_ (by dsimp only; omega) _) | refine bl_alloc ?_ _ | refine bl_drewN ?_ _ | refine bl_drew ?_ | refine bl_step ?_ (by assumption)))))
                go_wp2
                go_ret
                exact ⟨ret_bool HE.out.symm, (by repeat (first | exact Below.refl _ _ | assumption | (refine bl_set ?_ (by dsimp only; omega) _) | refine bl_alloc ?_ _ | refine bl_drewN ?_ _ | refine bl_drew ?_ | refine bl_step ?_ (by assumption)))⟩
              · have HN := Lib.hid (yes_step (p := fun y : DIns => insB t.length l.length x.locals x.code.length y.op y.a) ho2.out hy hp)
                rw [hp] at C
                clear hy hp
                go_wp2
                go_region_held3 (fun w' => w'.cell? ⟨w.heap.size, 0, none⟩ = some (.slice A t.length c) ∧ w'.cell? ⟨w.heap.size, 1, none⟩ = some (.slice (some ad) l.length d) ∧ w'.cell? ⟨g2, 2, none⟩ = some (.slice (some ad2) x.code.length c2) ∧ w'.cell? (ad2.add (n * 2)) = some (.int .i64 y.op) ∧ w'.cell? ⟨(ad2.add (n * 2)).block, (ad2.add (n * 2)).off + 1, none⟩ = some (.int .i64 y.a) ∧ Below w.heap.size w w') ((refine ⟨?_, ?_, ?_, ?_, ?_, ?_⟩ <;> first | assumption | (go_keep; done) | (refine kept hb3 ?_; go_keep; done) | exact (by repeat (first | exact Below.refl _ _ | assumption | (refine bl_set ?_ (by dsimp only; omega) _) | refine bl_alloc ?_ _ | refine bl_drewN ?_ _ | refine bl_drew ?_ | refine bl_step ?_ (by assumption))))) (first | (go_at_call 168; refine (C _ (hr.below (by repeat (first | exact Below.refl _ _ | assumption | (refine bl_set ?_ (by dsimp only; omega) _) | refine bl_alloc ?_ _ | refine bl_drewN ?_ _ | refine bl_drew ?_ | refine bl_step ?_ (by assumption)))) htm hm hv).mono ?_; rintro e w' ⟨rfl, hb3⟩; have hb4 : Below wr.heap.size wr w' := (by repeat (first | exact Below.refl _ _ | assumption | (refine bl_set ?_ (by dsimp only; omega) _) | refine bl_alloc ?_ _ | refine bl_drewN ?_ _ | refine bl_drew ?_ | refine bl_step ?_ (by assumption)))))
                go_wp2
                go_roundw
                case rel => exact ⟨n + 1, by omega, by go_num, HN, blk_below hM2 ml2 hb4, blk_below hG2 gl2 hb4, hr3.below hb4, (by repeat (first | exact Below.refl _ _ | assumption | (refine bl_set ?_ (by dsimp only; omega) _) | refine bl_alloc ?_ _ | refine bl_drewN ?_ _ | refine bl_drew ?_ | refine bl_step ?_ (by assumption)))⟩
                case measure => simp [intOf]; omega
            · obtain rfl : n = x.code.length := by omega
              have HN := Lib.hid (yes_step ho.out HX.out (show funcB t.length l.length x = true by simp only [funcB, H1.out, H2.out, H3.out, all_good (p := fun y : DIns => insB t.length l.length x.locals x.code.length y.op y.a) (fun j x h h2 => ho2.out j x h h2), Bool.and_true]))
              go_wp2
              go_roundw
              case rel => exact ⟨k + 1, by omega, by go_num, HN, hM2, (by repeat (first | exact Below.refl _ _ | assumption | (refine bl_set ?_ (by dsimp only; omega) _) | refine bl_alloc ?_ _ | refine bl_drewN ?_ _ | refine bl_drew ?_ | refine bl_step ?_ (by assumption)))⟩
              case measure => simp [intOf]; omega
        · obtain rfl : k = l.length := by omega
          have HE := Lib.hid (HT.out.trans (all_good (p := funcB t.length l.length) (fun j x h h2 => ho.out j x h h2)))
          go_wp2
          go_ret
          exact ⟨ret_bool HE.out.symm, (by repeat (first | exact Below.refl _ _ | assumption | (refine bl_set ?_ (by dsimp only; omega) _) | refine bl_alloc ?_ _ | refine bl_drewN ?_ _ | refine bl_drew ?_ | refine bl_step ?_ (by assumption)))⟩
end Go.Proofs.Yteoibjacgnmnpaa.Dat

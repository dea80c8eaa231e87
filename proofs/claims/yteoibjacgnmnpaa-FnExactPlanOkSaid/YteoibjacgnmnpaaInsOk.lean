/- InsOk, in the program and in the reference. -/
import Derived.Test.YteoibjacgnmnpaaInsI
import Derived.Test.YteoibjacgnmnpaaEq
import Derived.Deep.RegionHeld3
import Derived.Deep.QuietTactic
namespace Go.Proofs.Yteoibjacgnmnpaa.Dat
open Go Go.RowKit Go.Proofs.Yteoibjacgnmnpaa.Mem
set_option linter.unusedVariables false
set_option linter.unusedSimpArgs false
/-- InsOk: of the function numbered f. -/
def insAt (nt : Nat) (l : List DFunc) (f op a : Int) : Bool := if 0 ≤ f ∧ f ≤ (l.length : Int) - 1 then insB nt l.length (l.getD f.toNat zFunc).locals (l.getD f.toNat zFunc).code.length op a else false
theorem insAt_no {nt : Nat} {l : List DFunc} {f op a : Int} (h : ¬ (0 ≤ f ∧ f ≤ (l.length : Int) - 1)) : insAt nt l f op a = false := by unfold insAt; rw [if_neg h]
theorem insAt_at {nt : Nat} {l : List DFunc} {k : Nat} {x : DFunc} {op a : Int} (hx : l[k]? = some x) : insAt nt l k op a = insB nt l.length x.locals x.code.length op a := by
  have hk : k < l.length := (List.getElem?_eq_some_iff.1 hx).1
  unfold insAt
  rw [if_pos (by omega)]
  simp [List.getD_eq_getElem?_getD, hx]
set_option maxHeartbeats 4000000 in
theorem insOk03 (A B : Option Addr) (c d : Nat) (t : List ByteArray) (l : List DFunc) (f op a : Int) (w : World) (hr : kFunc.Row w B l.length l) (htm : t.length ≤ 1048576) (hm : l.length ≤ 1048576) (hv : ∀ x ∈ l, x.code.length ≤ 1048576 ∧ -9223372036854775808 ≤ x.locals ∧ x.locals ≤ 9223372036854775807) : Calls Try.prog 168 #[.agg #[.slice A t.length c, .slice B l.length d], .int .i64 f, .agg #[.int .i64 op, .int .i64 a]] w fun e w' => e = .returned (.bool (insAt t.length l f op a)) ∧ Below w.heap.size w w' := by
  cases hf : btw f 0 ((l.length : Int) - 1)
  · rw [insAt_no (btw_false.1 hf)]
    have HF := Lib.hid hf
    clear hf
    go_enter Try.func168, Try.ntmps168
    go_wp2_with (go_at_call 124; refine (between _ HF.out).mono ?_; rintro e w' ⟨rfl, rfl⟩)
    go_ret
    exact ⟨rfl, (by repeat (first | exact Below.refl _ _ | assumption | (refine bl_set ?_ (by dsimp only; omega) _) | refine bl_alloc ?_ _ | refine bl_drewN ?_ _ | refine bl_drew ?_ | refine bl_step ?_ (by assumption)))⟩
  · obtain ⟨b1, b2⟩ := btw_true.1 hf
    obtain ⟨k, rfl⟩ := Int.eq_ofNat_of_zero_le b1
    obtain ⟨x, hx⟩ := get_exU l k (by omega)
    rw [insAt_at hx]
    obtain ⟨hl, hl1, hl2⟩ := hv x (List.mem_of_getElem? hx)
    obtain ⟨ad, A2, c2, rfl, q0, q1, q2, _, _⟩ := kFunc_at hr k x hx
    have h0 := World.block_lt_of_cell? w _ q0
    have bk : (k : Int) < l.length := by omega
    generalize h : insB t.length l.length x.locals x.code.length op a = r
    have HF := Lib.hid hf
    clear hx b1 b2 hf
    generalize x.locals = loc at h hl1 hl2 q1
    have hcase : (op = 1 ∨ op = 2 ∨ op = 3 ∨ op = 5 ∨ op = 20 ∨ op = 21 ∨ op = 22 ∨ op = 23 ∨ op = 24) ∨ (op = 17 ∨ op = 18 ∨ op = 19) ∨ (op = 6 ∨ op = 7) ∨ (op = 4 ∨ op = 8 ∨ op = 9 ∨ op = 10 ∨ op = 11 ∨ op = 12 ∨ op = 13 ∨ op = 14 ∨ op = 15 ∨ op = 16 ∨ op = 25 ∨ op = 26) ∨ (op < 1 ∨ 26 < op) := by omega
    rcases hcase with hc | hc | hc | hc | ho
    · rcases hc with rfl | rfl | rfl | rfl | rfl | rfl | rfl | rfl | rfl
      all_goals
        simp [insB] at h
        have H := Lib.hid h
        clear h
        go_enter Try.func168, Try.ntmps168
        go_wp2_with fail
        refine (between _ HF.out).mono ?_
        rintro e w' ⟨rfl, rfl⟩
        go_wp2_with (go_at_call 124; refine (between _ H.out).mono ?_; rintro e w' ⟨rfl, rfl⟩)
        go_ret
        exact ⟨rfl, (by repeat (first | exact Below.refl _ _ | assumption | (refine bl_set ?_ (by dsimp only; omega) _) | refine bl_alloc ?_ _ | refine bl_drewN ?_ _ | refine bl_drew ?_ | refine bl_step ?_ (by assumption)))⟩
    · rcases hc with rfl | rfl | rfl
      all_goals
        simp [insB] at h
        have H := Lib.hid h
        clear h
        go_enter Try.func168, Try.ntmps168
        go_wp2_with fail
        refine (between _ HF.out).mono ?_
        rintro e w' ⟨rfl, rfl⟩
        go_wp2
        go_quiet (exact Calls.quiet_of_same ((between _ H.out).mono (fun e w' h => ⟨h.1, h.2.symm⟩)))
        go_wp2
        go_ret
        exact ⟨rfl, (by repeat (first | exact Below.refl _ _ | assumption | (refine bl_set ?_ (by dsimp only; omega) _) | refine bl_alloc ?_ _ | refine bl_drewN ?_ _ | refine bl_drew ?_ | refine bl_step ?_ (by assumption)))⟩
    · rcases hc with rfl | rfl
      all_goals
        simp [insB] at h
        by_cases hmin : loc = -9223372036854775808
        · subst hmin
          rw [prev_least] at h
          have H := Lib.hid h
          clear h
          go_enter Try.func168, Try.ntmps168
          go_wp2_with fail
          refine (between _ HF.out).mono ?_
          rintro e w' ⟨rfl, rfl⟩
          go_wp2
          go_quiet (exact Calls.quiet_of_same ((between (r := r) (c := wrap64 (-9223372036854775809)) _ (by rw [least64]; exact H.out)).mono (fun e w' h => ⟨h.1, h.2.symm⟩)))
          go_wp2
          go_ret
          exact ⟨rfl, (by repeat (first | exact Below.refl _ _ | assumption | (refine bl_set ?_ (by dsimp only; omega) _) | refine bl_alloc ?_ _ | refine bl_drewN ?_ _ | refine bl_drew ?_ | refine bl_step ?_ (by assumption)))⟩
        · rw [prev_of hmin] at h
          have h3 : -9223372036854775807 ≤ loc := by omega
          have H := Lib.hid h
          clear h hmin
          go_enter Try.func168, Try.ntmps168
          go_wp2_with fail
          refine (between _ HF.out).mono ?_
          rintro e w' ⟨rfl, rfl⟩
          go_wp2
          go_quiet (exact Calls.quiet_of_same ((between _ H.out).mono (fun e w' h => ⟨h.1, h.2.symm⟩)))
          go_wp2
          go_ret
          exact ⟨rfl, (by repeat (first | exact Below.refl _ _ | assumption | (refine bl_set ?_ (by dsimp only; omega) _) | refine bl_alloc ?_ _ | refine bl_drewN ?_ _ | refine bl_drew ?_ | refine bl_step ?_ (by assumption)))⟩
    · rcases hc with rfl | rfl | rfl | rfl | rfl | rfl | rfl | rfl | rfl | rfl | rfl | rfl
      all_goals
        simp [insB, btw] at h
        by_cases ha : a = 0
        · subst ha
          subst h
          go_enter Try.func168, Try.ntmps168
          go_wp2_with fail
          refine (between _ HF.out).mono ?_
          rintro e w' ⟨rfl, rfl⟩
          go_wp2_with (go_at_call 124; refine (between (r := true) _ (by decide)).mono ?_; rintro e w' ⟨rfl, rfl⟩)
          go_ret
          exact ⟨rfl, (by repeat (first | exact Below.refl _ _ | assumption | (refine bl_set ?_ (by dsimp only; omega) _) | refine bl_alloc ?_ _ | refine bl_drewN ?_ _ | refine bl_drew ?_ | refine bl_step ?_ (by assumption)))⟩
        · have ha2 : (a == 0) = false := by simpa using ha
          simp [ha] at h
          subst h
          clear ha
          go_enter Try.func168, Try.ntmps168
          go_wp2_with fail
          refine (between _ HF.out).mono ?_
          rintro e w' ⟨rfl, rfl⟩
          go_wp2_with (go_at_call 124; refine (between (r := true) _ (by decide)).mono ?_; rintro e w' ⟨rfl, rfl⟩)
          go_ret
          exact ⟨rfl, (by repeat (first | exact Below.refl _ _ | assumption | (refine bl_set ?_ (by dsimp only; omega) _) | refine bl_alloc ?_ _ | refine bl_drewN ?_ _ | refine bl_drew ?_ | refine bl_step ?_ (by assumption)))⟩
    · obtain ⟨rfl, hb⟩ := insB_last h ho
      clear h
      have m1 : (op == 1) = false := by simp; omega
      have m2 : (op == 2) = false := by simp; omega
      have m3 : (op == 3) = false := by simp; omega
      have m4 : (op == 4) = false := by simp; omega
      have m5 : (op == 5) = false := by simp; omega
      have m6 : (op == 6) = false := by simp; omega
      have m7 : (op == 7) = false := by simp; omega
      have m8 : (op == 8) = false := by simp; omega
      have m9 : (op == 9) = false := by simp; omega
      have m10 : (op == 10) = false := by simp; omega
      have m11 : (op == 11) = false := by simp; omega
      have m12 : (op == 12) = false := by simp; omega
      have m13 : (op == 13) = false := by simp; omega
      have m14 : (op == 14) = false := by simp; omega
      have m15 : (op == 15) = false := by simp; omega
      have m16 : (op == 16) = false := by simp; omega
      have m17 : (op == 17) = false := by simp; omega
      have m18 : (op == 18) = false := by simp; omega
      have m19 : (op == 19) = false := by simp; omega
      have m20 : (op == 20) = false := by simp; omega
      have m21 : (op == 21) = false := by simp; omega
      have m22 : (op == 22) = false := by simp; omega
      have m23 : (op == 23) = false := by simp; omega
      have m24 : (op == 24) = false := by simp; omega
      have m25 : (op == 25) = false := by simp; omega
      have m26 : (op == 26) = false := by simp; omega
      clear ho
      go_enter Try.func168, Try.ntmps168
      go_wp2_with fail
      refine (between _ HF.out).mono ?_
      rintro e w' ⟨rfl, rfl⟩
      go_wp2_with (go_at_call 124; refine (between _ hb).mono ?_; rintro e w' ⟨rfl, rfl⟩)
      go_ret
      exact ⟨rfl, (by repeat (first | exact Below.refl _ _ | assumption | (refine bl_set ?_ (by dsimp only; omega) _) | refine bl_alloc ?_ _ | refine bl_drewN ?_ _ | refine bl_drew ?_ | refine bl_step ?_ (by assumption)))⟩
end Go.Proofs.Yteoibjacgnmnpaa.Dat

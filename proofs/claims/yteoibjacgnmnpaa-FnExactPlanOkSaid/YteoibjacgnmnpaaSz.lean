/- The laws' own measures of arguments. -/
import Derived.Test.YteoibjacgnmnpaaDat
import Derived.Deep.LoopGhost
import Derived.Lib.Hide
namespace Go.Proofs.Yteoibjacgnmnpaa.Dat
open Go Go.RowKit Go.Proofs.Yteoibjacgnmnpaa.Mem
set_option linter.unusedVariables false
set_option linter.unusedSimpArgs false
/-- What is left behind a size. -/
def lft (n : Nat) (left : Int) : Int := if (n : Int) ≤ left then left - n else -1
def sumOf {α : Type} (f : α → Nat) (l : List α) : Nat := l.length + (l.map f).sum
def szFunc (x : DFunc) : Nat := x.code.length
def szTexts (l : List ByteArray) : Nat := sumOf ByteArray.size l
def szFuncs (l : List DFunc) : Nat := sumOf szFunc l
theorem szInsS (A : Option Addr) (c : Nat) (l : List DIns) (left : Int) (w : World) (hm : l.length ≤ maxLen) (h0 : 0 ≤ left) (h1 : left ≤ 1048576) : Calls Try.prog 174 #[.slice A l.length c, .int .i64 left] w fun e w' => e = .returned (.int .i64 (lft l.length left)) ∧ w = w' := by
  unfold maxLen at hm
  by_cases h : (l.length : Int) ≤ left
  · have h2 : 0 ≤ left - (l.length : Int) := by omega
    go_enter Try.func174, Try.ntmps174
    go_wp2
    go_ret
    exact ⟨by simp [lft, h], rfl⟩
  · have h2 : left - (l.length : Int) < 0 := by omega
    go_enter Try.func174, Try.ntmps174
    go_wp2
    go_ret
    exact ⟨by simp [lft]; omega, rfl⟩
theorem szFunc_c (p q : Int) (A : Option Addr) (c : Nat) (l : List DIns) (left : Int) (w : World) (hm : l.length ≤ maxLen) (h0 : 0 ≤ left) (h1 : left ≤ 1048576) : Calls Try.prog 138 #[.agg #[.int .i64 p, .int .i64 q, .slice A l.length c], .int .i64 left] w fun e w' => e = .returned (.int .i64 (lft l.length left)) ∧ Below w.heap.size w w' := by
  by_cases h : (l.length : Int) ≤ left
  · have e : lft l.length left = left - l.length := by simp [lft, h]
    have h2 : 0 ≤ left - (l.length : Int) := by omega
    have C := szInsS A c l left
    rw [e] at C
    rw [e]
    clear e
    go_enter Try.func138, Try.ntmps138
    go_wp2_with fail
    refine (C _ hm h0 h1).mono ?_
    rintro e w' ⟨rfl, rfl⟩
    go_wp2
    go_ret
    exact ⟨rfl, (by repeat (first | exact Below.refl _ _ | assumption | (refine bl_set ?_ (by dsimp only; omega) _) | refine bl_alloc ?_ _ | refine bl_drewN ?_ _ | refine bl_drew ?_ | refine bl_step ?_ (by assumption)))⟩
  · have e : lft l.length left = -1 := by simp [lft]; omega
    have C := szInsS A c l left
    rw [e] at C
    rw [e]
    clear e
    go_enter Try.func138, Try.ntmps138
    go_wp2_with fail
    refine (C _ hm h0 h1).mono ?_
    rintro e w' ⟨rfl, rfl⟩
    go_wp2
    go_ret
    exact ⟨rfl, (by repeat (first | exact Below.refl _ _ | assumption | (refine bl_set ?_ (by dsimp only; omega) _) | refine bl_alloc ?_ _ | refine bl_drewN ?_ _ | refine bl_drew ?_ | refine bl_step ?_ (by assumption)))⟩
theorem sum_snoc {α : Type} (f : α → Nat) (l : List α) (k : Nat) (x : α) (hx : l[k]? = some x) : ((l.take (k + 1)).map f).sum = ((l.take k).map f).sum + f x := by
  have hk : k < l.length := (List.getElem?_eq_some_iff.1 hx).1
  have e : l[k] = x := (List.getElem?_eq_some_iff.1 hx).2
  rw [List.take_succ_eq_append_getElem hk, List.map_append, List.sum_append, e]
  simp
theorem sum_le {α : Type} (f : α → Nat) (l : List α) (k : Nat) : ((l.take k).map f).sum ≤ (l.map f).sum := by
  have : (l.map f).sum = ((l.take k).map f).sum + ((l.drop k).map f).sum := by
    rw [← List.sum_append, ← List.map_append, List.take_append_drop]
  omega
theorem get_ex {α : Type} (l : List α) (k : Nat) (h : k < l.length) : ∃ x, l[k]? = some x := ⟨l[k], List.getElem?_eq_getElem h⟩
set_option maxHeartbeats 1000000 in
theorem szFuncS (A : Option Addr) (c : Nat) (l : List DFunc) (left : Int) (w : World) (hr : kFunc.Row w A l.length l) (hm : l.length ≤ maxLen) (hv : ∀ x ∈ l, x.code.length ≤ maxLen) (h0 : 0 ≤ left) (h1 : left ≤ 1048576) : Calls Try.prog 82 #[.slice A l.length c, .int .i64 left] w fun e w' => e = .returned (.int .i64 (lft (szFuncs l) left)) ∧ Below w.heap.size w w' := by
  unfold maxLen at hm
  by_cases h : (l.length : Int) ≤ left
  · have h2 : 0 ≤ left - (l.length : Int) := by omega
    go_enter Try.func82, Try.ntmps82
    go_wp2
    go_loopw [1, 5] (fun u i wr => ∃ k s : Nat, k ≤ l.length ∧ i = .int .i64 k ∧ Hid (s = ((l.take k).map szFunc).sum) ∧ u = .int .i64 (left - l.length - s) ∧ 0 ≤ left - l.length - s ∧ Below w.heap.size w wr) (fun _ i _ => l.length - (intOf i).toNat)
    case atStart => exact ⟨0, 0, by omega, rfl, rfl, by simp, by simpa using h2, Below.refl _ _⟩
    case round =>
      obtain ⟨k, s, hk, rfl, hs, rfl, hp, hb⟩ := hrel
      by_cases hlt : k < l.length
      · obtain ⟨x, hx⟩ := get_ex l k hlt
        have hxm := hv x (List.mem_of_getElem? hx)
        have hsn := sum_snoc szFunc l k x hx
        have hle := sum_le szFunc l (k + 1)
        obtain ⟨ad, A2, c2, rfl, q0, q1, q2, hl2, hr2⟩ := kFunc_at (hr.below hb) k x hx
        have HX := Lib.hid hx
        clear hx
        by_cases hf : (szFunc x : Int) ≤ left - l.length - s
        · have HS : Hid (s + szFunc x = ((l.take (k + 1)).map szFunc).sum) := by rw [hsn, ← hs.out]; rfl
          have e : lft x.code.length (left - l.length - s) = left - l.length - ((s + szFunc x : Nat) : Int) := by simp only [szFunc] at hf ⊢; simp [lft, hf]; omega
          have C := szFunc_c x.params x.locals A2 c2 x.code (left - l.length - s)
          rw [e] at C
          have hp2 : 0 ≤ left - (l.length : Int) - ((s + szFunc x : Nat) : Int) := by omega
          clear hsn hle hf e
          generalize s + szFunc x = s2 at C HS hp2
          go_wp2_with fail
          refine (C _ hxm (by omega) (by omega)).mono ?_
          rintro e w' ⟨rfl, hb2⟩
          go_wp2
          go_roundw
          case rel => exact ⟨k + 1, s2, by omega, by go_num, HS, rfl, hp2, (by repeat (first | exact Below.refl _ _ | assumption | (refine bl_set ?_ (by dsimp only; omega) _) | refine bl_alloc ?_ _ | refine bl_drewN ?_ _ | refine bl_drew ?_ | refine bl_step ?_ (by assumption)))⟩
          case measure => simp [intOf]; omega
        · have e : lft x.code.length (left - l.length - s) = -1 := by simp only [szFunc] at hf; simp [lft]; omega
          have C := szFunc_c x.params x.locals A2 c2 x.code (left - l.length - s)
          rw [e] at C
          have hend : lft (szFuncs l) left = -1 := by
            have h3 := hs.out
            simp [lft, szFuncs, sumOf]
            omega
          have HE := Lib.hid hend
          clear hsn hle e hend
          go_wp2_with fail
          refine (C _ hxm (by omega) (by omega)).mono ?_
          rintro e w' ⟨rfl, hb2⟩
          go_wp2
          go_ret
          exact ⟨ret_int HE.out.symm, (by repeat (first | exact Below.refl _ _ | assumption | (refine bl_set ?_ (by dsimp only; omega) _) | refine bl_alloc ?_ _ | refine bl_drewN ?_ _ | refine bl_drew ?_ | refine bl_step ?_ (by assumption)))⟩
      · have hend : lft (szFuncs l) left = left - l.length - s := by
          have h3 := hs.out
          rw [List.take_of_length_le (by omega)] at h3
          simp only [lft, szFuncs, sumOf, ← h3]
          rw [if_pos (by omega)]
          omega
        have HE := Lib.hid hend
        clear hend
        go_wp2
        go_ret
        exact ⟨ret_int HE.out.symm, hb⟩
  · have h2 : left - (l.length : Int) < 0 := by omega
    go_enter Try.func82, Try.ntmps82
    go_wp2
    go_ret
    exact ⟨by simp [lft, szFuncs, sumOf]; omega, Below.refl _ _⟩
set_option maxHeartbeats 1000000 in
theorem szStringS (A : Option Addr) (c : Nat) (l : List ByteArray) (left : Int) (w : World) (hr : Knd.str.Row w A l.length l) (hm : l.length ≤ maxLen) (hv : ∀ x ∈ l, x.size ≤ maxLen) (h0 : 0 ≤ left) (h1 : left ≤ 1048576) : Calls Try.prog 81 #[.slice A l.length c, .int .i64 left] w fun e w' => e = .returned (.int .i64 (lft (szTexts l) left)) ∧ Below w.heap.size w w' := by
  unfold maxLen at hm
  by_cases h : (l.length : Int) ≤ left
  · have h2 : 0 ≤ left - (l.length : Int) := by omega
    go_enter Try.func81, Try.ntmps81
    go_wp2
    go_loopw [1, 5] (fun u i wr => ∃ k s : Nat, k ≤ l.length ∧ i = .int .i64 k ∧ Hid (s = ((l.take k).map ByteArray.size).sum) ∧ u = .int .i64 (left - l.length - s) ∧ 0 ≤ left - l.length - s ∧ Below w.heap.size w wr) (fun _ i _ => l.length - (intOf i).toNat)
    case atStart => exact ⟨0, 0, by omega, rfl, rfl, by simp, by simpa using h2, Below.refl _ _⟩
    case round =>
      obtain ⟨k, s, hk, rfl, hs, rfl, hp, hb⟩ := hrel
      by_cases hlt : k < l.length
      · obtain ⟨x, hx⟩ := get_ex l k hlt
        have hxm := hv x (List.mem_of_getElem? hx)
        unfold maxLen at hxm
        have hsn := sum_snoc ByteArray.size l k x hx
        have hle := sum_le ByteArray.size l (k + 1)
        obtain ⟨ad, cs, rfl, hK, q⟩ := (hr.below hb).get k x hx
        obtain rfl : cs = [.string x] := hK
        have q0 : wr.cell? (ad.add k) = some (.string x) := by have := q 0 _ rfl; simpa [Knd.str, Knd.scalar] using this
        clear q
        have HX := Lib.hid hx
        clear hx
        by_cases hf : (x.size : Int) ≤ left - l.length - s
        · have HS : Hid (s + x.size = ((l.take (k + 1)).map ByteArray.size).sum) := by rw [hsn, ← hs.out]; rfl
          have hp2 : 0 ≤ left - (l.length : Int) - (s : Int) - (x.size : Int) := by omega
          have e : left - (l.length : Int) - (s : Int) - (x.size : Int) = left - (l.length : Int) - ((s + x.size : Nat) : Int) := by omega
          have E := Lib.hid e
          clear hsn hle hf e
          go_wp2
          go_roundw
          case rel => exact ⟨k + 1, s + x.size, by omega, by go_num, HS, by rw [E.out], by have := E.out; omega, (by repeat (first | exact Below.refl _ _ | assumption | (refine bl_set ?_ (by dsimp only; omega) _) | refine bl_alloc ?_ _ | refine bl_drewN ?_ _ | refine bl_drew ?_ | refine bl_step ?_ (by assumption)))⟩
          case measure => simp [intOf]; omega
        · have hp2 : left - (l.length : Int) - (s : Int) - (x.size : Int) < 0 := by omega
          have hend : lft (szTexts l) left = -1 := by
            have h3 := hs.out
            simp [lft, szTexts, sumOf]
            omega
          have HE := Lib.hid hend
          clear hsn hle hf hend
          go_wp2
          go_ret
          exact ⟨ret_int HE.out.symm, (by repeat (first | exact Below.refl _ _ | assumption | (refine bl_set ?_ (by dsimp only; omega) _) | refine bl_alloc ?_ _ | refine bl_drewN ?_ _ | refine bl_drew ?_ | refine bl_step ?_ (by assumption)))⟩
      · have hend : lft (szTexts l) left = left - l.length - s := by
          have h3 := hs.out
          rw [List.take_of_length_le (by omega)] at h3
          simp only [lft, szTexts, sumOf, ← h3]
          rw [if_pos (by omega)]
          omega
        have HE := Lib.hid hend
        clear hend
        go_wp2
        go_ret
        exact ⟨ret_int HE.out.symm, hb⟩
  · have h2 : left - (l.length : Int) < 0 := by omega
    go_enter Try.func81, Try.ntmps81
    go_wp2
    go_ret
    exact ⟨by simp [lft, szTexts, sumOf]; omega, Below.refl _ _⟩
theorem lft_le {n : Nat} {left : Int} (h : (n : Int) ≤ left) : lft n left = left - n := by simp [lft, h]
theorem lft_gt {n : Nat} {left : Int} (h : left < (n : Int)) : lft n left = -1 := by simp [lft]; omega
/-- Of a module. -/
def szMod (t : List ByteArray) (l : List DFunc) : Nat := szTexts t + szFuncs l
theorem szModule (A B : Option Addr) (c d : Nat) (t : List ByteArray) (l : List DFunc) (left : Int) (w : World) (ht : Knd.str.Row w A t.length t) (hr : kFunc.Row w B l.length l) (htm : t.length ≤ maxLen) (hm : l.length ≤ maxLen) (htv : ∀ x ∈ t, x.size ≤ maxLen) (hv : ∀ x ∈ l, x.code.length ≤ maxLen) (h0 : 0 ≤ left) (h1 : left ≤ 1048576) :
    Calls Try.prog 29 #[.agg #[.slice A t.length c, .slice B l.length d], .int .i64 left] w fun e w' => e = .returned (.int .i64 (lft (szMod t l) left)) ∧ Below w.heap.size w w' := by
  by_cases h : (szTexts t : Int) ≤ left
  · have C := szStringS A c t left
    rw [lft_le h] at C
    have C2 := szFuncS B d l (left - szTexts t)
    have h2 : 0 ≤ left - (szTexts t : Int) := by omega
    by_cases h3 : (szFuncs l : Int) ≤ left - szTexts t
    · rw [lft_le h3] at C2
      have h4 : 0 ≤ left - (szTexts t : Int) - (szFuncs l : Int) := by omega
      have HE := Lib.hid (show left - (szTexts t : Int) - (szFuncs l : Int) = lft (szMod t l) left by unfold szMod; rw [lft_le (by omega)]; omega)
      go_enter Try.func29, Try.ntmps29
      go_wp2_with fail
      refine (C _ (ht.below (by repeat (first | exact Below.refl _ _ | assumption | (refine bl_set ?_ (by dsimp only; omega) _) | refine bl_alloc ?_ _ | refine bl_drewN ?_ _ | refine bl_drew ?_ | refine bl_step ?_ (by assumption)))) htm htv h0 h1).mono ?_
      rintro e w' ⟨rfl, hb⟩
      obtain ⟨hc, hf⟩ := bcell hb
      have hz := hb.size
      simp at hz
      have y0 : w.heap.size < w'.heap.size := by omega
      have hW : Below w.heap.size w w' := (by repeat (first | exact Below.refl _ _ | assumption | (refine bl_set ?_ (by dsimp only; omega) _) | refine bl_alloc ?_ _ | refine bl_drewN ?_ _ | refine bl_drew ?_ | refine bl_step ?_ (by assumption)))
      go_wp2_with fail
      refine (C2 _ (hr.below (by repeat (first | exact Below.refl _ _ | assumption | (refine bl_set ?_ (by dsimp only; omega) _) | refine bl_alloc ?_ _ | refine bl_drewN ?_ _ | refine bl_drew ?_ | refine bl_step ?_ (by assumption)))) hm hv (by omega) (by omega)).mono ?_
      rintro e w2 ⟨rfl, hb2⟩
      go_wp2
      go_ret
      exact ⟨ret_int HE.out, (by repeat (first | exact Below.refl _ _ | assumption | (refine bl_set ?_ (by dsimp only; omega) _) | refine bl_alloc ?_ _ | refine bl_drewN ?_ _ | refine bl_drew ?_ | refine bl_step ?_ (by assumption)))⟩
    · rw [lft_gt (by omega)] at C2
      have HE := Lib.hid (show -1 = lft (szMod t l) left by unfold szMod; rw [lft_gt (by omega)])
      go_enter Try.func29, Try.ntmps29
      go_wp2_with fail
      refine (C _ (ht.below (by repeat (first | exact Below.refl _ _ | assumption | (refine bl_set ?_ (by dsimp only; omega) _) | refine bl_alloc ?_ _ | refine bl_drewN ?_ _ | refine bl_drew ?_ | refine bl_step ?_ (by assumption)))) htm htv h0 h1).mono ?_
      rintro e w' ⟨rfl, hb⟩
      obtain ⟨hc, hf⟩ := bcell hb
      have hz := hb.size
      simp at hz
      have y0 : w.heap.size < w'.heap.size := by omega
      have hW : Below w.heap.size w w' := (by repeat (first | exact Below.refl _ _ | assumption | (refine bl_set ?_ (by dsimp only; omega) _) | refine bl_alloc ?_ _ | refine bl_drewN ?_ _ | refine bl_drew ?_ | refine bl_step ?_ (by assumption)))
      go_wp2_with fail
      refine (C2 _ (hr.below (by repeat (first | exact Below.refl _ _ | assumption | (refine bl_set ?_ (by dsimp only; omega) _) | refine bl_alloc ?_ _ | refine bl_drewN ?_ _ | refine bl_drew ?_ | refine bl_step ?_ (by assumption)))) hm hv (by omega) (by omega)).mono ?_
      rintro e w2 ⟨rfl, hb2⟩
      go_wp2
      go_ret
      exact ⟨ret_int HE.out, (by repeat (first | exact Below.refl _ _ | assumption | (refine bl_set ?_ (by dsimp only; omega) _) | refine bl_alloc ?_ _ | refine bl_drewN ?_ _ | refine bl_drew ?_ | refine bl_step ?_ (by assumption)))⟩
  · have C := szStringS A c t left
    rw [lft_gt (by omega)] at C
    have HE := Lib.hid (show -1 = lft (szMod t l) left by unfold szMod; rw [lft_gt (by omega)])
    go_enter Try.func29, Try.ntmps29
    go_wp2_with fail
    refine (C _ (ht.below (by repeat (first | exact Below.refl _ _ | assumption | (refine bl_set ?_ (by dsimp only; omega) _) | refine bl_alloc ?_ _ | refine bl_drewN ?_ _ | refine bl_drew ?_ | refine bl_step ?_ (by assumption)))) htm htv h0 h1).mono ?_
    rintro e w' ⟨rfl, hb⟩
    go_wp2
    go_ret
    exact ⟨ret_int HE.out, (by repeat (first | exact Below.refl _ _ | assumption | (refine bl_set ?_ (by dsimp only; omega) _) | refine bl_alloc ?_ _ | refine bl_drewN ?_ _ | refine bl_drew ?_ | refine bl_step ?_ (by assumption)))⟩
end Go.Proofs.Yteoibjacgnmnpaa.Dat

/- A text that a module may have: in the program and in the reference. -/
import Derived.Test.YteoibjacgnmnpaaRange
import Derived.Deep.LoopGhost
namespace Go.Proofs.Yteoibjacgnmnpaa.Dat
open Go Go.RowKit Go.Proofs.Yteoibjacgnmnpaa.Mem
set_option linter.unusedVariables false
set_option linter.unusedSimpArgs false
def okByte (b : UInt8) : Bool := !(decide (b.toNat < 32) || decide (126 < b.toNat) || decide (b.toNat = 34))
def textB (s : ByteArray) : Bool := decide (s.size ≤ 60) && s.data.toList.all okByte
theorem all_upto {s : ByteArray} (h : ∀ j (hj : j < s.size), okByte s[j] = true) : s.data.toList.all okByte = true := by
  rw [List.all_eq_true]
  intro x hx
  obtain ⟨j, hj, e⟩ := Array.mem_iff_getElem.1 (Array.mem_toList_iff.1 hx)
  have := h j hj
  rw [← e]
  exact this
theorem all_not {s : ByteArray} {j : Nat} (hj : j < s.size) (hb : okByte s[j] = false) : s.data.toList.all okByte = false := by
  rw [List.all_eq_false]
  exact ⟨s[j], Array.mem_toList_iff.2 (Array.mem_iff_getElem.2 ⟨j, hj, rfl⟩), by simp [hb]⟩
theorem ok_step {s : ByteArray} {k : Nat} (h : ∀ j (hj : j < s.size), j < k → okByte s[j] = true) (hk : k < s.size) (ho : okByte s[k] = true) : ∀ j (hj : j < s.size), j < k + 1 → okByte s[j] = true := by
  intro j hj hlt
  rcases Nat.lt_succ_iff_lt_or_eq.1 hlt with hlt | rfl
  · exact h j hj hlt
  · exact ho
theorem ok_true {b : UInt8} (h1 : 32 ≤ (b.toNat : Int)) (h2 : (b.toNat : Int) ≤ 126) (h3 : (b.toNat : Int) ≠ 34) : okByte b = true := by
  simp [okByte]
  omega
theorem ok_false {b : UInt8} (h : (b.toNat : Int) < 32 ∨ 126 < (b.toNat : Int) ∨ (b.toNat : Int) = 34) : okByte b = false := by
  simp [okByte]
  omega
theorem text_no {s : ByteArray} {k : Nat} (hk : k < s.size) (h : okByte s[k] = false) : textB s = false := by
  simp [textB, all_not hk h]
theorem text_all {s : ByteArray} (h : ∀ j (hj : j < s.size), j < s.size → okByte s[j] = true) : textB s = decide ((s.size : Int) ≤ 60) := by
  have e : (decide (s.size ≤ 60)) = decide ((s.size : Int) ≤ 60) := by
    apply decide_eq_decide.2
    omega
  rw [textB, all_upto (fun j hj => h j hj hj), Bool.and_true, e]
set_option maxHeartbeats 1000000 in
theorem textI (s : ByteArray) (w : World) (hm : s.size ≤ maxLen) : Calls Try.prog 130 #[.string s] w fun e w' => e = .returned (.bool (textB s)) ∧ w = w' := by
  unfold maxLen at hm
  go_enter Try.func130, Try.ntmps130
  go_wp2
  go_loopw [6] (fun i wr => ∃ k : Nat, k ≤ s.size ∧ i = .int .i64 k ∧ Hid (∀ j (hj : j < s.size), j < k → okByte s[j] = true) ∧ w = wr) (fun i _ => s.size - (intOf i).toNat)
  case atStart => exact ⟨0, by omega, rfl, (fun j hj h => by omega), rfl⟩
  case round =>
    obtain ⟨k, hk, rfl, ho, rfl⟩ := hrel
    by_cases hlt : k < s.size
    · by_cases h1 : ((s[k]).toNat : Int) < 32
      · have HE := Lib.hid (text_no hlt (ok_false (.inl h1)))
        go_wp2
        go_ret
        exact ⟨ret_bool HE.out.symm, rfl⟩
      · by_cases h2 : 126 < ((s[k]).toNat : Int)
        · have HE := Lib.hid (text_no hlt (ok_false (.inr (.inl h2))))
          go_wp2
          go_ret
          exact ⟨ret_bool HE.out.symm, rfl⟩
        · by_cases h3 : ((s[k]).toNat : Int) = 34
          · have HE := Lib.hid (text_no hlt (ok_false (.inr (.inr h3))))
            go_wp2
            go_ret
            exact ⟨ret_bool HE.out.symm, rfl⟩
          · have HN := Lib.hid (ok_step ho.out hlt (ok_true (by omega) (by omega) h3))
            have h4 : (((s[k]).toNat : Int) == 34) = false := by simpa using h3
            go_wp2
            go_roundw
            case rel => exact ⟨k + 1, by omega, by go_num, HN, trivial⟩
            case measure => simp [intOf]; omega
    · obtain rfl : k = s.size := by omega
      have HE := Lib.hid (text_all ho.out)
      go_wp2
      go_ret
      exact ⟨ret_bool HE.out.symm, rfl⟩
set_option maxHeartbeats 1000000 in
theorem text01 (s : ByteArray) (w : World) (hm : s.size ≤ maxLen) : Calls Try.prog 159 #[.string s] w fun e w' => e = .returned (.bool (textB s)) ∧ w = w' := by
  by_cases h60 : (s.size : Int) ≤ 60
  rotate_left
  · have HE := Lib.hid (show textB s = false by simp [textB]; intro h; omega)
    go_enter Try.func159, Try.ntmps159
    go_wp2
    go_ret
    exact ⟨ret_bool HE.out.symm, rfl⟩
  go_enter Try.func159, Try.ntmps159
  go_wp2
  go_loopw [3] (fun i wr => ∃ k : Nat, k ≤ s.size ∧ i = .int .i64 k ∧ Hid (∀ j (hj : j < s.size), j < k → okByte s[j] = true) ∧ w = wr) (fun i _ => s.size - (intOf i).toNat)
  case atStart => exact ⟨0, by omega, rfl, (fun j hj h => by omega), rfl⟩
  case round =>
    obtain ⟨k, hk, rfl, ho, rfl⟩ := hrel
    by_cases hlt : k < s.size
    · by_cases h1 : ((s[k]).toNat : Int) < 32
      · have HE := Lib.hid (text_no hlt (ok_false (.inl h1)))
        go_wp2
        go_ret
        exact ⟨ret_bool HE.out.symm, rfl⟩
      · by_cases h2 : 126 < ((s[k]).toNat : Int)
        · have HE := Lib.hid (text_no hlt (ok_false (.inr (.inl h2))))
          go_wp2
          go_ret
          exact ⟨ret_bool HE.out.symm, rfl⟩
        · by_cases h3 : ((s[k]).toNat : Int) = 34
          · have HE := Lib.hid (text_no hlt (ok_false (.inr (.inr h3))))
            go_wp2
            go_ret
            exact ⟨ret_bool HE.out.symm, rfl⟩
          · have HN := Lib.hid (ok_step ho.out hlt (ok_true (by omega) (by omega) h3))
            have h4 : (((s[k]).toNat : Int) == 34) = false := by simpa using h3
            go_wp2
            go_roundw
            case rel => exact ⟨k + 1, by omega, by go_num, HN, trivial⟩
            case measure => simp [intOf]; omega
    · obtain rfl : k = s.size := by omega
      have HE := Lib.hid (show textB s = true by rw [text_all ho.out]; simp [h60])
      go_wp2
      go_ret
      exact ⟨ret_bool HE.out.symm, rfl⟩
end Go.Proofs.Yteoibjacgnmnpaa.Dat

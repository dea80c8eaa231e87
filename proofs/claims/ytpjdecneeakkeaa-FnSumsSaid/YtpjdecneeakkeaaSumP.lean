/- Sums, plainly: both ways, and back. -/
import Derived.Test.YtpjdecneeakkeaaVal2
namespace Go.Proofs.Ytpjdecneeakkeaa.Val
open Go
set_option linter.unusedVariables false
set_option linter.unusedSimpArgs false
theorem arV_comm {f : Int → Int → Int} (hf : ∀ x y, f x y = f y x) (a b : V) : arV f a b = arV f b a := by
  unfold arV
  by_cases h1 : a.k = 1 <;> by_cases h2 : b.k = 1 <;> simp [h1, h2]
  rw [hf b.n a.n]
  by_cases c1 : isNumB a.n = true <;> by_cases c2 : isNumB b.n = true <;> simp [c1, c2]
theorem arT_comm {f : Int → Int → Int} (hf : ∀ x y, f x y = f y x) (a b : V) : arT f a b = arT f b a := by
  unfold arT
  by_cases h1 : a.k = 1 <;> by_cases h2 : b.k = 1 <;> simp [h1, h2]
  rw [hf b.n a.n]
  by_cases c1 : isNumB a.n = true <;> by_cases c2 : isNumB b.n = true <;> simp [c1, c2]
theorem mulV_comm (a b : V) : arV (· * ·) b a = arV (· * ·) a b := arV_comm (fun x y => Int.mul_comm x y) b a
theorem mulT_comm (a b : V) : arT (· * ·) b a = arT (· * ·) a b := arT_comm (fun x y => Int.mul_comm x y) b a
theorem addT_comm (a b : V) : addT b a = addT a b := by
  unfold addT
  rw [arT_comm (fun x y => Int.add_comm x y) b a, Nat.add_comm b.s.size a.s.size]
  by_cases h1 : a.k = 3 <;> by_cases h2 : b.k = 3 <;> simp [h1, h2]
theorem addV_comm {a b : V} (h : a.k = 1) : addV b a = addV a b := by
  unfold addV
  rw [arV_comm (fun x y => Int.add_comm x y) b a]
  simp [h]
theorem lessT_comm (a b : V) : lessT b a = lessT a b := by
  unfold lessT
  by_cases h1 : a.k = 1 <;> by_cases h2 : b.k = 1 <;> by_cases h3 : a.k = 3 <;> by_cases h4 : b.k = 3 <;> simp [h1, h2, h3, h4]
theorem sameV_comm (a b : V) : sameV b a = sameV a b := by
  unfold sameV
  congr 1
  apply decide_eq_decide.2
  constructor
  · rintro ⟨h1, h2, h3⟩
    exact ⟨h1.symm, h2.symm, h3.symm⟩
  · rintro ⟨h1, h2, h3⟩
    exact ⟨h1.symm, h2.symm, h3.symm⟩
/-- What a sum of numbers gives back. -/
theorem back {a b : V} (ha : a.k = 1) (hb : b.k = 1) (h : addT a b = 0) : arT (· - ·) (addV a b) b = 0 ∧ arV (· - ·) (addV a b) b = intV a.n := by
  unfold addT at h
  unfold addV
  simp only [ha, hb] at h ⊢
  have h0 : ¬ ((1 : Int) = 3 ∧ (1 : Int) = 3) := by decide
  rw [if_neg h0] at h ⊢
  unfold arT at h
  simp only [ha, hb, and_self, if_true] at h
  split at h
  · rename_i hc
    have e : arV (· + ·) a b = intV (a.n + b.n) := by
      unfold arV
      simp only [ha, hb, and_self, if_true]
      rw [if_pos hc]
    rw [e]
    have e2 : a.n + b.n - b.n = a.n := by omega
    constructor
    · unfold arT intV
      simp only [hb, and_self, if_true, e2]
      rw [if_pos ⟨hc.2.2, hc.2.1, hc.1⟩]
    · unfold arV
      simp only [intV, hb, and_self, if_true, e2]
      rw [if_pos ⟨hc.2.2, hc.2.1, hc.1⟩]
  · cases h
theorem bytes_tri : ∀ x y : List UInt8, b01 (Op.bytesLess x y) + b01 (Op.bytesLess y x) + b01 (decide (x = y)) = 1
  | [], [] => by simp [Op.bytesLess, b01]
  | [], _ :: _ => by simp [Op.bytesLess, b01]
  | _ :: _, [] => by simp [Op.bytesLess, b01]
  | a :: x, b :: y => by
    have ih := bytes_tri x y
    by_cases h : a = b
    · subst h
      have : ¬ a < a := UInt8.lt_irrefl a
      simpa [Op.bytesLess, this] using ih
    · by_cases h2 : a < b
      · have h3 : ¬ b < a := UInt8.lt_asymm h2
        simp [Op.bytesLess, h, h2, h3, Ne.symm h, b01]
      · have h3 : b < a := by
          have h4 : ¬ a.toNat < b.toNat := fun h9 => h2 (UInt8.lt_iff_toNat_lt.2 h9)
          have h5 : a.toNat ≠ b.toNat := fun h9 => h (UInt8.toNat_inj.1 h9)
          exact UInt8.lt_iff_toNat_lt.2 (by omega)
        simp [Op.bytesLess, h, h2, h3, Ne.symm h, b01]
theorem one_int {a b : V} (ha : a.k = 1) (hb : b.k = 1) (hs : a.s.toList = []) (hs' : b.s.toList = []) : (lessV a b).n + (lessV b a).n + (sameV a b).n = 1 := by
  have e1 : (lessV a b).n = b01 (decide (a.n < b.n)) := by simp [lessV, ha, hb, boolV]
  have e2 : (lessV b a).n = b01 (decide (b.n < a.n)) := by simp [lessV, ha, hb, boolV]
  have e3 : (sameV a b).n = b01 (decide (a.n = b.n)) := by simp [sameV, ha, hb, hs, hs', boolV]
  rw [e1, e2, e3]
  unfold b01
  by_cases h1 : a.n < b.n <;> by_cases h2 : b.n < a.n <;> by_cases h3 : a.n = b.n <;> simp [h1, h2, h3] <;> omega
theorem one_text {a b : V} (ha : a.k = 3) (hb : b.k = 3) (hn : a.n = 0) (hn' : b.n = 0) : (lessV a b).n + (lessV b a).n + (sameV a b).n = 1 := by
  have e1 : (lessV a b).n = b01 (Op.bytesLess a.s.toList b.s.toList) := by simp [lessV, ha, hb, boolV]
  have e2 : (lessV b a).n = b01 (Op.bytesLess b.s.toList a.s.toList) := by simp [lessV, ha, hb, boolV]
  have e3 : (sameV a b).n = b01 (decide (a.s.toList = b.s.toList)) := by simp [sameV, ha, hb, hn, hn', boolV]
  rw [e1, e2, e3]
  exact bytes_tri _ _
end Go.Proofs.Ytpjdecneeakkeaa.Val

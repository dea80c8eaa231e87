/- The laws' marks in bytes. -/
import Derived.Test.YteoibjacgnmnpaaApp
import Derived.Test.YteoibjacgnmnpaaProg
import Derived.WalkLawsBesides
import Derived.WalkSpells
import Derived.Deep.LoopGhost
import Derived.Lib.Hide
namespace Go.Proofs.Yteoibjacgnmnpaa.Mem
open Go Go.RowKit
namespace Knd
theorem OwnF.form {α : Type} {d : Knd α} {e : Nat} {w : World} {v : Value} {xs : List α} {Fs : List (List Nat)} (h : OwnF d e w v xs Fs) (hn : 0 < xs.length) : ∃ g c, v = .slice (some ⟨g, 0, none⟩) xs.length c := by
  obtain ⟨inner, ho, hr⟩ := h
  rcases ho.2 with ⟨_, h0⟩ | ⟨g, cap, cur, hv, _⟩
  · omega
  · exact ⟨g, cap, hv⟩
end Knd
end Go.Proofs.Yteoibjacgnmnpaa.Mem
namespace Go.Proofs.Yteoibjacgnmnpaa.Dat
open Go Go.RowKit Go.Proofs.Yteoibjacgnmnpaa.Mem
set_option linter.unusedVariables false
set_option linter.unusedSimpArgs false
def mkB (k : Int) : List Int → List Int
  | [] => []
  | _ :: bs => (k % 256) :: mkB (k + 1) bs
theorem mkB_len (k : Int) (bs : List Int) : (mkB k bs).length = bs.length := by
  induction bs generalizing k with
  | nil => rfl
  | cons b bs ih => simp [mkB, ih]
theorem mkB_get (k : Int) (bs : List Int) (j : Nat) (hj : j < bs.length) : (mkB k bs)[j]? = some ((k + j) % 256) := by
  induction bs generalizing k j with
  | nil => simp at hj
  | cons b bs ih =>
    cases j with
    | zero => simp [mkB]
    | succ j =>
      have := ih (k + 1) j (by simpa using hj)
      simp only [mkB, List.getElem?_cons_succ, this]
      congr 2
      omega
theorem set_upto {α : Type} (M l : List α) (j : Nat) (x : α) (hl : M.length = l.length) (hx : M[j]? = some x) : (M.take j ++ l.drop j).set j x = M.take (j + 1) ++ l.drop (j + 1) := by
  have hj : j < M.length := (List.getElem?_eq_some_iff.1 hx).1
  have e : M[j] = x := (List.getElem?_eq_some_iff.1 hx).2
  rw [List.set_append_right _ _ (by rw [List.length_take]; omega), List.length_take, Nat.min_eq_left (by omega), Nat.sub_self, List.drop_eq_getElem_cons (by omega), List.set_cons_zero, List.take_succ_eq_append_getElem hj, e]
  simp
set_option maxHeartbeats 1000000 in
theorem markB (v : Value) (bs : List Int) (k : Int) (F : List Nat) (w : World) (h : (Knd.int .u8).Own 5 w v bs F) (h1 : 0 ≤ k) (h2 : k ≤ 1099511627776) (h3 : bs.length ≤ 1099511627776) : Calls Try.prog 26 #[v, .int .i64 k] w fun e w' => e = .returned (.int .i64 (k + bs.length)) ∧ (Knd.int .u8).Own 5 w' v (mkB k bs) F ∧ But F w w' := by
  by_cases hn : 0 < bs.length
  · obtain ⟨Fs0, hF0, _⟩ := h.fs
    obtain ⟨g, c, rfl⟩ := hF0.form hn
    have hFg : F = [g] := Knd.flat_own h
    clear hF0
    go_enter Try.func26, Try.ntmps26
    go_wp2
    go_loopw [1, 5] (fun u i wr => ∃ j : Nat, j ≤ bs.length ∧ u = .int .i64 (k + j) ∧ i = .int .i64 j ∧ (Knd.int .u8).Own 5 wr (.slice (some ⟨g, 0, none⟩) bs.length c) ((mkB k bs).take j ++ bs.drop j) F ∧ But F w wr) (fun _ i _ => bs.length - (intOf i).toNat)
    case atStart => exact ⟨0, by omega, by simp, rfl, by simpa using h, But.refl _ _⟩
    case round =>
      obtain ⟨j, hj, rfl, rfl, ho, hB⟩ := hrel
      by_cases hlt : j < bs.length
      · have hx := mkB_get k bs j hlt
        have hs := set_upto (mkB k bs) bs j _ (mkB_len k bs) hx
        have hlen : ((mkB k bs).take j ++ bs.drop j).length = bs.length := by
          have := mkB_len k bs
          simp
          omega
        obtain ⟨Fs, hF, hFF⟩ := ho.fs
        obtain ⟨u0, s0⟩ := hF.cell j (by rw [hlen]; show _ < bs.length * 1; omega)
        have f0 := hF.free j
        have hp := hF.put j (by rw [hlen]; exact hlt) [.int .u8 ((k + j) % 256)] ((k + j) % 256) [] ⟨rfl, rfl⟩ (by simp) (by rw [Knd.flat_nil hF]; simp)
        rw [hs] at hp
        have hp2 := hp.own
        rw [Knd.flat_own hp2] at hp2
        have e : j * (Knd.int .u8).sz = j := Nat.mul_one j
        rw [e] at hp2
        have HP := Lib.hid hp2
        have hkj0 : 0 ≤ k + (j : Int) := by omega
        have hkj1 : k + (j : Int) ≤ 9999999999999 := by omega
        clear hs hlen hp hp2 hx e
        go_wp2
        go_roundw
        case rel =>
          refine ⟨j + 1, by omega, by simp; omega, by go_num, ?_, hB.set (by rw [hFg]; simp) _ _⟩
          rw [hFg]
          exact HP.out
        case measure => simp [intOf]; omega
      · obtain rfl : j = bs.length := by omega
        go_wp2
        go_ret
        refine ⟨rfl, ?_, hB⟩
        rw [List.drop_length, List.append_nil, List.take_of_length_le (by rw [mkB_len]; exact Nat.le_refl _)] at ho
        exact ho
  · have e : bs = [] := List.eq_nil_of_length_eq_zero (by omega)
    subst e
    obtain ⟨A, c, rfl, _, _⟩ := h.row
    go_enter Try.func26, Try.ntmps26
    go_wp2
    go_loopw [1, 5] (fun u i wr => u = .int .i64 k ∧ i = .int .i64 0 ∧ w = wr) (fun _ i _ => 0)
    case atStart => exact ⟨rfl, rfl, rfl⟩
    case round =>
      obtain ⟨rfl, rfl, rfl⟩ := hrel
      go_wp2
      go_ret
      exact ⟨by simp, h, But.refl _ _⟩
end Go.Proofs.Yteoibjacgnmnpaa.Dat

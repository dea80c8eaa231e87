/- The laws' copies and comparisons of bytes. -/
import Derived.Test.YtgnibbhcbdmigaaTo
import Derived.Test.YtgnibbhcbdmigaaEq
namespace Go.Proofs.Ytgnibbhcbdmigaa.Dat
open Go Go.RowKit Go.Proofs.Ytgnibbhcbdmigaa.Mem
set_option linter.unusedVariables false
set_option linter.unusedSimpArgs false
theorem infoByteT : (Try.prog.info? 5).map (fun i => (i.zero, i.size, i.bytes)) = some (some (.int .u8 0), 1, 1) := by kernel_rfl
set_option maxHeartbeats 1000000 in
theorem toByteS (A : Option Addr) (c : Nat) (l : List Int) (w : World) (hr : (Knd.int .u8).Row w A l.length l) (hm : l.length ≤ 1048576) : Calls Try.prog 25 #[.slice A l.length c] w (NewRow (Knd.int .u8) 5 l w) := by
  go_enter Try.func25, Try.ntmps25
  go_wp2_with (refine Knd.wp_made (Knd.int .u8) rfl _ _ _ rfl l.length rfl rfl 5 Try.underlying40 (.int .u8 0) 1 infoByteT rfl (by decide) (by omega) (0 : Int) (fun _ => ⟨rfl, rfl⟩) (by omega) ?_; rintro g w1 hg ho hb hz; have HG := Lib.hid hg; clear hg)
  have hg0 : w.heap.size ≤ g := Nat.le_of_eq HG.out.symm
  go_loopw [4] (fun i wr => ∃ k : Nat, k ≤ l.length ∧ i = .int .i64 k ∧ (Knd.int .u8).OwnF 5 wr (.slice (some ⟨g, 0, none⟩) l.length l.length) (l.take k ++ List.replicate (l.length - k) (0 : Int)) (List.replicate l.length []) ∧ Below w.heap.size w wr) (fun i _ => l.length - (intOf i).toNat)
  case atStart => exact ⟨0, by omega, rfl, by simpa using ho, hb⟩
  case round =>
    obtain ⟨k, hk, rfl, ho, hb⟩ := hrel
    by_cases hlt : k < l.length
    · obtain ⟨x, hx⟩ := get_exT l k hlt
      obtain ⟨ad, cs, rfl, hK, q⟩ := (hr.below hb).get k x hx
      obtain rfl : cs = [.int .u8 x] := hK
      have q0 : wr.cell? (ad.add k) = some (.int .u8 x) := by have := q 0 _ rfl; simpa [Knd.int, Knd.scalar] using this
      clear q
      have hp := part_set l (0 : Int) x k hx
      have hle : k < (l.take k ++ List.replicate (l.length - k) (0 : Int)).length := by simp; omega
      have hlen : (l.take k ++ List.replicate (l.length - k) (0 : Int)).length = l.length := by simp; omega
      obtain ⟨u0, s0⟩ := ho.cell k (by rw [hlen]; show _ < l.length * 1; omega)
      have f0 := ho.free k
      have HP := Lib.hid hp
      have HX := Lib.hid hx
      clear hp hx hlen
      go_wp2
      go_roundw
      case rel =>
        refine ⟨k + 1, by omega, by go_num, ?_, (by repeat (first | exact Below.refl _ _ | assumption | (refine bl_set ?_ (by dsimp only; omega) _) | refine bl_alloc ?_ _ | refine bl_drewN ?_ _ | refine bl_drew ?_ | refine bl_step ?_ (by assumption)))⟩
        have h1 := ho.put k hle [.int .u8 x] x [] ⟨rfl, rfl⟩ (by simp) (by rw [rep_flat]; simp)
        rw [HP.out, rep_set] at h1
        have e : k * (Knd.int .u8).sz = k := Nat.mul_one k
        rw [e] at h1
        exact h1
      case measure => simp [intOf]; omega
    · obtain rfl : k = l.length := by omega
      go_wp2
      go_ret
      have h1 := ho.own
      rw [List.take_length, Nat.sub_self, List.replicate_zero, List.append_nil, rep_flat] at h1
      exact ⟨_, _, rfl, h1, by simp [Value.ownBlock], by simp [Value.ownBlock]; rw [HG.out]; exact Nat.le_refl _, hb⟩
set_option maxHeartbeats 1000000 in
theorem eqByteS (A B : Option Addr) (c c' : Nat) (l : List Int) (w : World) (hr : (Knd.int .u8).Row w A l.length l) (hr' : (Knd.int .u8).Row w B l.length l) : Calls Try.prog 20 #[.slice A l.length c, .slice B l.length c'] w fun e w' => e = .returned (.bool true) ∧ Below w.heap.size w w' := by
  have hm := hr.2.1
  go_enter Try.func20, Try.ntmps20
  go_wp2
  go_loopw [5] (fun i wr => ∃ k : Nat, k ≤ l.length ∧ i = .int .i64 k ∧ Below w.heap.size w wr) (fun i _ => l.length - (intOf i).toNat)
  case atStart => exact ⟨0, by omega, rfl, Below.refl _ _⟩
  case round =>
    obtain ⟨k, hk, rfl, hb⟩ := hrel
    by_cases hlt : k < l.length
    · obtain ⟨x, hx⟩ := get_exE l k hlt
      obtain ⟨ad, cs, rfl, hK, q⟩ := (hr.below hb).get k x hx
      obtain ⟨ad', cs', rfl, hK', r⟩ := (hr'.below hb).get k x hx
      obtain rfl : cs = [.int .u8 x] := hK
      obtain rfl : cs' = [.int .u8 x] := hK'
      have q0 : wr.cell? (ad.add k) = some (.int .u8 x) := by have := q 0 _ rfl; simpa [Knd.int, Knd.scalar] using this
      have r0 : wr.cell? (ad'.add k) = some (.int .u8 x) := by have := r 0 _ rfl; simpa [Knd.int, Knd.scalar] using this
      clear hx q r
      go_wp2
      go_region_held3 (fun w' => w'.cell? (ad.add k) = some (.int .u8 x) ∧ w'.cell? (ad'.add k) = some (.int .u8 x) ∧ Below w.heap.size w w') ((refine ⟨?_, ?_, ?_⟩ <;> first | assumption | (go_keep; done) | exact (by repeat (first | exact Below.refl _ _ | assumption | (refine bl_set ?_ (by dsimp only; omega) _) | refine bl_alloc ?_ _ | refine bl_drewN ?_ _ | refine bl_drew ?_ | refine bl_step ?_ (by assumption))))) (first | fail)
      go_wp2
      go_roundw
      case rel => exact ⟨k + 1, by omega, by go_num, (by repeat (first | exact Below.refl _ _ | assumption | (refine bl_set ?_ (by dsimp only; omega) _) | refine bl_alloc ?_ _ | refine bl_drewN ?_ _ | refine bl_drew ?_ | refine bl_step ?_ (by assumption)))⟩
      case measure => simp [intOf]; omega
    · go_wp2
      go_ret
      exact ⟨rfl, hb⟩
end Go.Proofs.Ytgnibbhcbdmigaa.Dat

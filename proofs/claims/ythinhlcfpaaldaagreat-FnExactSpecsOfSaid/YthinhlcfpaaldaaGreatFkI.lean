/- What an op of code must be, in the program. -/
import Derived.Test.YthinhlcfpaaldaaGreatFkP
namespace Go.Proofs.YthinhlcfpaaldaaGreat.Dat
open Go Go.RowKit Go.Proofs.YthinhlcfpaaldaaGreat.Mem
set_option linter.unusedVariables false
set_option linter.unusedSimpArgs false
set_option maxHeartbeats 8000000 in
set_option maxRecDepth 100000 in
theorem shapeI (op : Int) (w : World) {o : Option (Int × Int × Int × Bool)} (ho : shp op = o) : Calls Tryz.prog 290 #[.int .i64 op] w fun e w' => e = .returned (.tuple #[.agg #[.int .i64 (o.getD (0, 0, 0, false)).1, .int .i64 (o.getD (0, 0, 0, false)).2.1, .int .i64 (o.getD (0, 0, 0, false)).2.2.1, .bool (o.getD (0, 0, 0, false)).2.2.2], .bool o.isSome]) ∧ Below w.heap.size w w' := by
  by_cases hb : btw op 1 29 = true
  · have hb2 := btw_true.1 hb
    have h29 : op = 1 ∨ op = 2 ∨ op = 3 ∨ op = 4 ∨ op = 5 ∨ op = 6 ∨ op = 7 ∨ op = 8 ∨ op = 9 ∨ op = 10 ∨ op = 11 ∨ op = 12 ∨ op = 13 ∨ op = 14 ∨ op = 15 ∨ op = 16 ∨ op = 17 ∨ op = 18 ∨ op = 19 ∨ op = 20 ∨ op = 21 ∨ op = 22 ∨ op = 23 ∨ op = 24 ∨ op = 25 ∨ op = 26 ∨ op = 27 ∨ op = 28 ∨ op = 29 := by omega
    clear hb hb2
    rcases h29 with rfl | rfl | rfl | rfl | rfl | rfl | rfl | rfl | rfl | rfl | rfl | rfl | rfl | rfl | rfl | rfl | rfl | rfl | rfl | rfl | rfl | rfl | rfl | rfl | rfl | rfl | rfl | rfl | rfl
    · obtain rfl : o = some (1, 0, 0, false) := ho.symm.trans rfl
      clear ho
      go_enter Tryz.func290, Tryz.ntmps290
      go_wp2
      exact bodyPost_ret (v := .tuple #[.agg #[.int .i64 1, .int .i64 0, .int .i64 0, .bool false], .bool true]) (by simp [results, Tryz.results290, go_sem, *]) rfl ⟨rfl, bl9⟩
    · obtain rfl : o = some (1, 1, 0, false) := ho.symm.trans rfl
      clear ho
      go_enter Tryz.func290, Tryz.ntmps290
      go_wp2
      exact bodyPost_ret (v := .tuple #[.agg #[.int .i64 1, .int .i64 1, .int .i64 0, .bool false], .bool true]) (by simp [results, Tryz.results290, go_sem, *]) rfl ⟨rfl, bl9⟩
    · obtain rfl : o = some (2, 0, 0, false) := ho.symm.trans rfl
      clear ho
      go_enter Tryz.func290, Tryz.ntmps290
      go_wp2
      exact bodyPost_ret (v := .tuple #[.agg #[.int .i64 2, .int .i64 0, .int .i64 0, .bool false], .bool true]) (by simp [results, Tryz.results290, go_sem, *]) rfl ⟨rfl, bl9⟩
    · obtain rfl : o = some (2, 2, 0, false) := ho.symm.trans rfl
      clear ho
      go_enter Tryz.func290, Tryz.ntmps290
      go_wp2
      exact bodyPost_ret (v := .tuple #[.agg #[.int .i64 2, .int .i64 2, .int .i64 0, .bool false], .bool true]) (by simp [results, Tryz.results290, go_sem, *]) rfl ⟨rfl, bl9⟩
    · obtain rfl : o = some (2, 1, 0, true) := ho.symm.trans rfl
      clear ho
      go_enter Tryz.func290, Tryz.ntmps290
      go_wp2
      exact bodyPost_ret (v := .tuple #[.agg #[.int .i64 2, .int .i64 1, .int .i64 0, .bool true], .bool true]) (by simp [results, Tryz.results290, go_sem, *]) rfl ⟨rfl, bl9⟩
    · obtain rfl : o = some (1, 2, 0, false) := ho.symm.trans rfl
      clear ho
      go_enter Tryz.func290, Tryz.ntmps290
      go_wp2
      exact bodyPost_ret (v := .tuple #[.agg #[.int .i64 1, .int .i64 2, .int .i64 0, .bool false], .bool true]) (by simp [results, Tryz.results290, go_sem, *]) rfl ⟨rfl, bl9⟩
    · obtain rfl : o = some (1, 1, 1, true) := ho.symm.trans rfl
      clear ho
      go_enter Tryz.func290, Tryz.ntmps290
      go_wp2
      exact bodyPost_ret (v := .tuple #[.agg #[.int .i64 1, .int .i64 1, .int .i64 1, .bool true], .bool true]) (by simp [results, Tryz.results290, go_sem, *]) rfl ⟨rfl, bl9⟩
    · obtain rfl : o = some (1, 1, 1, true) := ho.symm.trans rfl
      clear ho
      go_enter Tryz.func290, Tryz.ntmps290
      go_wp2
      exact bodyPost_ret (v := .tuple #[.agg #[.int .i64 1, .int .i64 1, .int .i64 1, .bool true], .bool true]) (by simp [results, Tryz.results290, go_sem, *]) rfl ⟨rfl, bl9⟩
    · obtain rfl : o = some (1, 1, 1, true) := ho.symm.trans rfl
      clear ho
      go_enter Tryz.func290, Tryz.ntmps290
      go_wp2
      exact bodyPost_ret (v := .tuple #[.agg #[.int .i64 1, .int .i64 1, .int .i64 1, .bool true], .bool true]) (by simp [results, Tryz.results290, go_sem, *]) rfl ⟨rfl, bl9⟩
    · obtain rfl : o = some (1, 1, 1, true) := ho.symm.trans rfl
      clear ho
      go_enter Tryz.func290, Tryz.ntmps290
      go_wp2
      exact bodyPost_ret (v := .tuple #[.agg #[.int .i64 1, .int .i64 1, .int .i64 1, .bool true], .bool true]) (by simp [results, Tryz.results290, go_sem, *]) rfl ⟨rfl, bl9⟩
    · obtain rfl : o = some (1, 1, 1, false) := ho.symm.trans rfl
      clear ho
      go_enter Tryz.func290, Tryz.ntmps290
      go_wp2
      exact bodyPost_ret (v := .tuple #[.agg #[.int .i64 1, .int .i64 1, .int .i64 1, .bool false], .bool true]) (by simp [results, Tryz.results290, go_sem, *]) rfl ⟨rfl, bl9⟩
    · obtain rfl : o = some (1, 1, 0, true) := ho.symm.trans rfl
      clear ho
      go_enter Tryz.func290, Tryz.ntmps290
      go_wp2
      exact bodyPost_ret (v := .tuple #[.agg #[.int .i64 1, .int .i64 1, .int .i64 0, .bool true], .bool true]) (by simp [results, Tryz.results290, go_sem, *]) rfl ⟨rfl, bl9⟩
    · obtain rfl : o = some (2, 2, 2, true) := ho.symm.trans rfl
      clear ho
      go_enter Tryz.func290, Tryz.ntmps290
      go_wp2
      exact bodyPost_ret (v := .tuple #[.agg #[.int .i64 2, .int .i64 2, .int .i64 2, .bool true], .bool true]) (by simp [results, Tryz.results290, go_sem, *]) rfl ⟨rfl, bl9⟩
    · obtain rfl : o = some (2, 2, 2, true) := ho.symm.trans rfl
      clear ho
      go_enter Tryz.func290, Tryz.ntmps290
      go_wp2
      exact bodyPost_ret (v := .tuple #[.agg #[.int .i64 2, .int .i64 2, .int .i64 2, .bool true], .bool true]) (by simp [results, Tryz.results290, go_sem, *]) rfl ⟨rfl, bl9⟩
    · obtain rfl : o = some (2, 2, 2, true) := ho.symm.trans rfl
      clear ho
      go_enter Tryz.func290, Tryz.ntmps290
      go_wp2
      exact bodyPost_ret (v := .tuple #[.agg #[.int .i64 2, .int .i64 2, .int .i64 2, .bool true], .bool true]) (by simp [results, Tryz.results290, go_sem, *]) rfl ⟨rfl, bl9⟩
    · obtain rfl : o = some (1, 2, 2, false) := ho.symm.trans rfl
      clear ho
      go_enter Tryz.func290, Tryz.ntmps290
      go_wp2
      exact bodyPost_ret (v := .tuple #[.agg #[.int .i64 1, .int .i64 2, .int .i64 2, .bool false], .bool true]) (by simp [results, Tryz.results290, go_sem, *]) rfl ⟨rfl, bl9⟩
    · obtain rfl : o = some (1, 4, 0, true) := ho.symm.trans rfl
      clear ho
      go_enter Tryz.func290, Tryz.ntmps290
      go_wp2
      exact bodyPost_ret (v := .tuple #[.agg #[.int .i64 1, .int .i64 4, .int .i64 0, .bool true], .bool true]) (by simp [results, Tryz.results290, go_sem, *]) rfl ⟨rfl, bl9⟩
    · obtain rfl : o = some (1, 1, 3, true) := ho.symm.trans rfl
      clear ho
      go_enter Tryz.func290, Tryz.ntmps290
      go_wp2
      exact bodyPost_ret (v := .tuple #[.agg #[.int .i64 1, .int .i64 1, .int .i64 3, .bool true], .bool true]) (by simp [results, Tryz.results290, go_sem, *]) rfl ⟨rfl, bl9⟩
    · obtain rfl : o = some (3, 1, 1, true) := ho.symm.trans rfl
      clear ho
      go_enter Tryz.func290, Tryz.ntmps290
      go_wp2
      exact bodyPost_ret (v := .tuple #[.agg #[.int .i64 3, .int .i64 1, .int .i64 1, .bool true], .bool true]) (by simp [results, Tryz.results290, go_sem, *]) rfl ⟨rfl, bl9⟩
    · obtain rfl : o = some (0, 0, 0, true) := ho.symm.trans rfl
      clear ho
      go_enter Tryz.func290, Tryz.ntmps290
      go_wp2
      exact bodyPost_ret (v := .tuple #[.agg #[.int .i64 0, .int .i64 0, .int .i64 0, .bool true], .bool true]) (by simp [results, Tryz.results290, go_sem, *]) rfl ⟨rfl, bl9⟩
    · obtain rfl : o = some (1, 4, 0, false) := ho.symm.trans rfl
      clear ho
      go_enter Tryz.func290, Tryz.ntmps290
      go_wp2
      exact bodyPost_ret (v := .tuple #[.agg #[.int .i64 1, .int .i64 4, .int .i64 0, .bool false], .bool true]) (by simp [results, Tryz.results290, go_sem, *]) rfl ⟨rfl, bl9⟩
    · obtain rfl : o = some (0, 1, 5, true) := ho.symm.trans rfl
      clear ho
      go_enter Tryz.func290, Tryz.ntmps290
      go_wp2
      exact bodyPost_ret (v := .tuple #[.agg #[.int .i64 0, .int .i64 1, .int .i64 5, .bool true], .bool true]) (by simp [results, Tryz.results290, go_sem, *]) rfl ⟨rfl, bl9⟩
    · obtain rfl : o = some (0, 6, 0, false) := ho.symm.trans rfl
      clear ho
      go_enter Tryz.func290, Tryz.ntmps290
      go_wp2
      exact bodyPost_ret (v := .tuple #[.agg #[.int .i64 0, .int .i64 6, .int .i64 0, .bool false], .bool true]) (by simp [results, Tryz.results290, go_sem, *]) rfl ⟨rfl, bl9⟩
    · obtain rfl : o = some (0, 1, 6, true) := ho.symm.trans rfl
      clear ho
      go_enter Tryz.func290, Tryz.ntmps290
      go_wp2
      exact bodyPost_ret (v := .tuple #[.agg #[.int .i64 0, .int .i64 1, .int .i64 6, .bool true], .bool true]) (by simp [results, Tryz.results290, go_sem, *]) rfl ⟨rfl, bl9⟩
    · obtain rfl : o = some (0, 0, 0, true) := ho.symm.trans rfl
      clear ho
      go_enter Tryz.func290, Tryz.ntmps290
      go_wp2
      exact bodyPost_ret (v := .tuple #[.agg #[.int .i64 0, .int .i64 0, .int .i64 0, .bool true], .bool true]) (by simp [results, Tryz.results290, go_sem, *]) rfl ⟨rfl, bl9⟩
    · obtain rfl : o = some (0, 0, 0, true) := ho.symm.trans rfl
      clear ho
      go_enter Tryz.func290, Tryz.ntmps290
      go_wp2
      exact bodyPost_ret (v := .tuple #[.agg #[.int .i64 0, .int .i64 0, .int .i64 0, .bool true], .bool true]) (by simp [results, Tryz.results290, go_sem, *]) rfl ⟨rfl, bl9⟩
    · obtain rfl : o = some (0, 1, 0, false) := ho.symm.trans rfl
      clear ho
      go_enter Tryz.func290, Tryz.ntmps290
      go_wp2
      exact bodyPost_ret (v := .tuple #[.agg #[.int .i64 0, .int .i64 1, .int .i64 0, .bool false], .bool true]) (by simp [results, Tryz.results290, go_sem, *]) rfl ⟨rfl, bl9⟩
    · obtain rfl : o = some (0, 1, 0, true) := ho.symm.trans rfl
      clear ho
      go_enter Tryz.func290, Tryz.ntmps290
      go_wp2
      exact bodyPost_ret (v := .tuple #[.agg #[.int .i64 0, .int .i64 1, .int .i64 0, .bool true], .bool true]) (by simp [results, Tryz.results290, go_sem, *]) rfl ⟨rfl, bl9⟩
    · obtain rfl : o = some (0, 7, 0, true) := ho.symm.trans rfl
      clear ho
      go_enter Tryz.func290, Tryz.ntmps290
      go_wp2
      exact bodyPost_ret (v := .tuple #[.agg #[.int .i64 0, .int .i64 7, .int .i64 0, .bool true], .bool true]) (by simp [results, Tryz.results290, go_sem, *]) rfl ⟨rfl, bl9⟩
  · have hn : ¬ (1 ≤ op ∧ op ≤ 29) := fun h => hb (btw_true.2 h)
    have m1 : (op == 1) = false := by simp; omega
    have m2 : (op == 2) = false := by simp; omega
    have m3 : (op == 3) = false := by simp; omega
    have m4 : (op == 4) = false := by simp; omega
    have m5 : (op == 5) = false := by simp; omega
    have m6 : (op == 6) = false := by simp; omega
    have m7 : (op == 7) = false := by simp; omega
    have m8 : (op == 8) = false := by simp; omega
    have m9 : (op == 9) = false := by simp; omega
    have m10 : (op == 10) = false := by simp; omega
    have m11 : (op == 11) = false := by simp; omega
    have m12 : (op == 12) = false := by simp; omega
    have m13 : (op == 13) = false := by simp; omega
    have m14 : (op == 14) = false := by simp; omega
    have m15 : (op == 15) = false := by simp; omega
    have m16 : (op == 16) = false := by simp; omega
    have m17 : (op == 17) = false := by simp; omega
    have m18 : (op == 18) = false := by simp; omega
    have m19 : (op == 19) = false := by simp; omega
    have m20 : (op == 20) = false := by simp; omega
    have m21 : (op == 21) = false := by simp; omega
    have m22 : (op == 22) = false := by simp; omega
    have m23 : (op == 23) = false := by simp; omega
    have m24 : (op == 24) = false := by simp; omega
    have m25 : (op == 25) = false := by simp; omega
    have m26 : (op == 26) = false := by simp; omega
    have m27 : (op == 27) = false := by simp; omega
    have m28 : (op == 28) = false := by simp; omega
    have m29 : (op == 29) = false := by simp; omega
    obtain rfl : o = none := by rw [← ho]; unfold shp; rw [if_neg hb]
    clear hb ho hn
    go_enter Tryz.func290, Tryz.ntmps290
    go_wp2
    exact bodyPost_ret (v := .tuple #[.agg #[.int .i64 0, .int .i64 0, .int .i64 0, .bool false], .bool false]) (by simp [results, Tryz.results290, go_sem, *]) rfl ⟨rfl, bl9⟩
set_option maxHeartbeats 8000000 in
set_option maxRecDepth 100000 in
theorem partI (A B A4 A5 : Option Addr) (c0 d0 c4 c5 : Nat) (t : List ByteArray) (l : List DFunc) (c : DFast) (n what : Int) (w : World) (hl : l.length ≤ 12) (h1 : 0 ≤ c.vals) (h2 : c.vals ≤ 400) (h3 : 0 ≤ c.nums) (h4 : c.nums ≤ 400) (h5 : c.ops.length ≤ 1500) :
    Calls Tryz.prog 291 #[.agg #[.int .i64 c.fn, .int .i64 c.entry, .int .i64 c.vals, .int .i64 c.nums, .slice A4 c.ops.length c4, .slice A5 c.exits.length c5], .agg #[.slice A t.length c0, .slice B l.length d0], .int .i64 n, .int .i64 what] w fun e w' => e = .returned (.bool (partB n what c.vals c.nums l.length c.ops.length)) ∧ Below w.heap.size w w' := by
  by_cases k1 : what = 1
  · subst k1
    go_enter Tryz.func291, Tryz.ntmps291
    go_wp2_with (go_at_call 122; (with_reducible refine (isPlace (r := btw n 0 (c.vals - 1)) _ rfl (by omega) (by omega)).mono ?_); rintro e w' ⟨rfl, rfl⟩)
    go_ret
    exact ⟨rfl, bl9⟩
  by_cases k2 : what = 2
  · subst k2
    clear k1
    go_enter Tryz.func291, Tryz.ntmps291
    go_wp2_with (go_at_call 122; (with_reducible refine (isPlace (r := btw n 0 (c.nums - 1)) _ rfl (by omega) (by omega)).mono ?_); rintro e w' ⟨rfl, rfl⟩)
    go_ret
    exact ⟨rfl, bl9⟩
  by_cases k3 : what = 3
  · subst k3
    clear k1 k2
    go_enter Tryz.func291, Tryz.ntmps291
    go_wp2_with (go_at_call 122; (with_reducible refine (isPlace (r := btw n 0 5) _ rfl (by omega) (by omega)).mono ?_); rintro e w' ⟨rfl, rfl⟩)
    go_ret
    exact ⟨rfl, bl9⟩
  by_cases k4 : what = 4
  · subst k4
    clear k1 k2 k3
    go_enter Tryz.func291, Tryz.ntmps291
    go_wp2_with (go_at_call 153; (with_reducible refine (inRange (r := btw n 0 6) _ rfl).mono ?_); rintro e w' ⟨rfl, rfl⟩)
    go_ret
    exact ⟨rfl, bl9⟩
  by_cases k5 : what = 5
  · subst k5
    clear k1 k2 k3 k4
    go_enter Tryz.func291, Tryz.ntmps291
    go_wp2_with (go_at_call 122; (with_reducible refine (isPlace (r := btw n 0 ((l.length : Int) - 1)) _ rfl (by omega) (by omega)).mono ?_); rintro e w' ⟨rfl, rfl⟩)
    go_ret
    exact ⟨rfl, bl9⟩
  by_cases k6 : what = 6
  · subst k6
    clear k1 k2 k3 k4 k5
    go_enter Tryz.func291, Tryz.ntmps291
    go_wp2_with (go_at_call 122; (with_reducible refine (isPlace (r := btw n 0 ((c.ops.length : Int) - 1)) _ rfl (by omega) (by omega)).mono ?_); rintro e w' ⟨rfl, rfl⟩)
    go_ret
    exact ⟨rfl, bl9⟩
  by_cases k7 : what = 7
  · subst k7
    clear k1 k2 k3 k4 k5 k6
    go_enter Tryz.func291, Tryz.ntmps291
    go_wp2_with (go_at_call 153; (with_reducible refine (inRange (r := btw n 1 3) _ rfl).mono ?_); rintro e w' ⟨rfl, rfl⟩)
    go_ret
    exact ⟨rfl, bl9⟩
  have m1 : (what == 1) = false := by simpa using k1
  have m2 : (what == 2) = false := by simpa using k2
  have m3 : (what == 3) = false := by simpa using k3
  have m4 : (what == 4) = false := by simpa using k4
  have m5 : (what == 5) = false := by simpa using k5
  have m6 : (what == 6) = false := by simpa using k6
  have m7 : (what == 7) = false := by simpa using k7
  have E := Lib.hid (show partB n what c.vals c.nums l.length c.ops.length = decide (n = 0) by unfold partB; rw [if_neg k1, if_neg k2, if_neg k3, if_neg k4, if_neg k5, if_neg k6, if_neg k7])
  clear k1 k2 k3 k4 k5 k6 k7
  go_enter Tryz.func291, Tryz.ntmps291
  go_wp2
  go_ret
  exact ⟨ret_bool (by rw [E.out, Bool.eq_iff_iff]; simp), bl9⟩
end Go.Proofs.YthinhlcfpaaldaaGreat.Dat

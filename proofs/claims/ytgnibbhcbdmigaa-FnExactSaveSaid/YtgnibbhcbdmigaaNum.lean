/- A number laid into bytes. -/
import Derived.Test.YtgnibbhcbdmigaaApp
import Derived.Test.YtgnibbhcbdmigaaProg
import Derived.WalkLawsBesides
import Derived.WalkSpells
import Derived.Deep.LoopGhost
import Derived.Lib.Hide
namespace Go.Proofs.Ytgnibbhcbdmigaa.Dat
open Go Go.RowKit Go.Proofs.Ytgnibbhcbdmigaa.Mem
set_option linter.unusedVariables false
set_option linter.unusedSimpArgs false
def varB (u : Nat) : List Int := if h : u < 128 then [(u : Int)] else ((u % 128 + 128 : Nat) : Int) :: varB (u / 128)
decreasing_by omega
theorem varB_lt {u : Nat} (h : u < 128) : varB u = [(u : Int)] := by rw [varB, dif_pos h]
theorem varB_ge {u : Nat} (h : ¬ u < 128) : varB u = ((u % 128 + 128 : Nat) : Int) :: varB (u / 128) := by rw [varB, dif_neg h]
/-- A number as it is laid. -/
def zig (n : Int) : Nat := if n < 0 then (-2 * n - 1).toNat else (2 * n).toNat
/-- A row of bytes that has grown. -/
def Grew (w : World) (F : List Nat) (bs : List Int) (en : Ending) (w' : World) : Prop := ∃ v F', en = .returned v ∧ (Knd.int .u8).Own 5 w' v bs F' ∧ But F w w' ∧ (∀ g ∈ F', g ∈ F ∨ w.heap.size ≤ g)
theorem infoByte : (Try.prog.info? 5).map (fun i => (i.zero, i.size, i.bytes)) = some (some (.int .u8 0), 1, 1) := by kernel_rfl
set_option maxHeartbeats 2000000 in
theorem putNum (v : Value) (bs : List Int) (n : Int) (F : List Nat) (w : World) (h : (Knd.int .u8).Own 5 w v bs F) (h1 : -1099511627776 ≤ n) (h2 : n ≤ 1099511627776) (h3 : bs.length ≤ 1099511627776) : Calls Try.prog 86 #[v, .int .i64 n] w (Grew w F (bs ++ varB (zig n))) := by
  generalize hR : bs ++ varB (zig n) = R
  have HR := Lib.hid hR
  clear hR
  by_cases h0 : n < 0
  · have HZ := Lib.hid (show (zig n : Int) = -2 * n - 1 by simp [zig, h0]; omega)
    have hz : zig n ≤ 2199023255552 := by have := HZ.out; omega
    go_enter Try.func86, Try.ntmps86
    go_wp2
    go_loopw [0, 5] (fun v' u wr => ∃ (bs' : List Int) (F' : List Nat) (m : Nat), u = .int .i64 m ∧ Hid (bs' ++ varB m = R) ∧ bs'.length + m ≤ bs.length + zig n ∧ (Knd.int .u8).Own 5 wr v' bs' F' ∧ But F w wr ∧ Hid (∀ g ∈ F', g ∈ F ∨ w.heap.size ≤ g)) (fun _ u _ => (intOf u).toNat)
    case atStart => exact ⟨bs, F, zig n, by first | exact congrArg (Value.int .i64) HZ.out.symm | (rw [HZ.out]; simp; omega), HR, Nat.le_refl _, h, But.refl _ _, (fun g hg => .inl hg)⟩
    case round =>
      obtain ⟨bs', F', m, rfl, he, hl, ho, hB0, hF'⟩ := hrel
      by_cases hm : m < 128
      · have HE := Lib.hid (varB_lt hm)
        have hm2 : (m : Int) < 128 := by omega
        have hm0 : 0 ≤ (m : Int) := by omega
        have hl2 : (bs'.length : Int) ≤ 9999999999999 := by omega
        clear hm hl
        generalize (m : Int) = mm at hm2 hm0 HE ⊢
        go_wp2_with (at_builtin; refine Knd.wp_app1 rfl _ _ _ rfl 5 Try.underlying40 (.int .u8 0) 1 infoByte rfl rfl (Knd.Own.below ho (bl_alloc (Below.refl _ _) _)) _ _ _ _ _ (blk_new _ _) rfl (by unfold maxLen; omega) (by omega) ?_; rintro g cap w' hO hB hg)
        go_ret
        refine ⟨_, [g], rfl, ?_, hB0.then (But.then (But.of_below (bl_alloc (Below.refl _ _) _)) hB (fun q hq => .inl hq)) hF'.out, fun q hq => ?_⟩
        · have e := he.out
          rw [HE.out] at e
          rw [← e]
          exact hO
        · rw [List.mem_singleton] at hq
          subst hq
          rcases hg with hg | hg
          · exact hF'.out _ hg
          · have := hB0.size
            simp at hg
            omega
      · have HE := Lib.hid (varB_ge hm)
        have hm2 : 128 ≤ (m : Int) := by omega
        go_wp2_with (at_builtin; refine Knd.wp_app1 rfl _ _ _ rfl 5 Try.underlying40 (.int .u8 0) 1 infoByte rfl rfl (Knd.Own.below ho (bl_alloc (Below.refl _ _) _)) _ _ _ _ _ (blk_new _ _) rfl (by unfold maxLen; omega) (by omega) ?_; rintro g cap w' hO hB hg)
        go_roundw
        case rel =>
          refine ⟨bs' ++ [((m % 128 + 128 : Nat) : Int)], [g], m / 128, by simp, ?_, ?_, ?_, hB0.then (But.then (But.of_below (bl_alloc (Below.refl _ _) _)) hB (fun q hq => .inl hq)) hF'.out, fun q hq => ?_⟩
          · have e := he.out
            rw [HE.out] at e
            refine Lib.hid ?_
            rw [← e, List.append_assoc]
            rfl
          · rw [List.length_append]
            simp only [List.length_singleton]
            omega
          · have e : (↑m % 128 + 128 : Int) = ((m % 128 + 128 : Nat) : Int) := by omega
            rw [e] at hO
            exact hO
          · rw [List.mem_singleton] at hq
            subst hq
            rcases hg with hg | hg
            · exact hF'.out _ hg
            · have := hB0.size
              simp at hg
              omega
        case measure => simp [intOf]; omega
  · have HZ := Lib.hid (show (zig n : Int) = 2 * n by simp [zig, h0]; omega)
    have hz : zig n ≤ 2199023255552 := by have := HZ.out; omega
    go_enter Try.func86, Try.ntmps86
    go_wp2
    go_loopw [0, 5] (fun v' u wr => ∃ (bs' : List Int) (F' : List Nat) (m : Nat), u = .int .i64 m ∧ Hid (bs' ++ varB m = R) ∧ bs'.length + m ≤ bs.length + zig n ∧ (Knd.int .u8).Own 5 wr v' bs' F' ∧ But F w wr ∧ Hid (∀ g ∈ F', g ∈ F ∨ w.heap.size ≤ g)) (fun _ u _ => (intOf u).toNat)
    case atStart => exact ⟨bs, F, zig n, by first | exact congrArg (Value.int .i64) HZ.out.symm | (rw [HZ.out]; simp; omega), HR, Nat.le_refl _, h, But.refl _ _, (fun g hg => .inl hg)⟩
    case round =>
      obtain ⟨bs', F', m, rfl, he, hl, ho, hB0, hF'⟩ := hrel
      by_cases hm : m < 128
      · have HE := Lib.hid (varB_lt hm)
        have hm2 : (m : Int) < 128 := by omega
        have hm0 : 0 ≤ (m : Int) := by omega
        have hl2 : (bs'.length : Int) ≤ 9999999999999 := by omega
        clear hm hl
        generalize (m : Int) = mm at hm2 hm0 HE ⊢
        go_wp2_with (at_builtin; refine Knd.wp_app1 rfl _ _ _ rfl 5 Try.underlying40 (.int .u8 0) 1 infoByte rfl rfl (Knd.Own.below ho (bl_alloc (Below.refl _ _) _)) _ _ _ _ _ (blk_new _ _) rfl (by unfold maxLen; omega) (by omega) ?_; rintro g cap w' hO hB hg)
        go_ret
        refine ⟨_, [g], rfl, ?_, hB0.then (But.then (But.of_below (bl_alloc (Below.refl _ _) _)) hB (fun q hq => .inl hq)) hF'.out, fun q hq => ?_⟩
        · have e := he.out
          rw [HE.out] at e
          rw [← e]
          exact hO
        · rw [List.mem_singleton] at hq
          subst hq
          rcases hg with hg | hg
          · exact hF'.out _ hg
          · have := hB0.size
            simp at hg
            omega
      · have HE := Lib.hid (varB_ge hm)
        have hm2 : 128 ≤ (m : Int) := by omega
        go_wp2_with (at_builtin; refine Knd.wp_app1 rfl _ _ _ rfl 5 Try.underlying40 (.int .u8 0) 1 infoByte rfl rfl (Knd.Own.below ho (bl_alloc (Below.refl _ _) _)) _ _ _ _ _ (blk_new _ _) rfl (by unfold maxLen; omega) (by omega) ?_; rintro g cap w' hO hB hg)
        go_roundw
        case rel =>
          refine ⟨bs' ++ [((m % 128 + 128 : Nat) : Int)], [g], m / 128, by simp, ?_, ?_, ?_, hB0.then (But.then (But.of_below (bl_alloc (Below.refl _ _) _)) hB (fun q hq => .inl hq)) hF'.out, fun q hq => ?_⟩
          · have e := he.out
            rw [HE.out] at e
            refine Lib.hid ?_
            rw [← e, List.append_assoc]
            rfl
          · rw [List.length_append]
            simp only [List.length_singleton]
            omega
          · have e : (↑m % 128 + 128 : Int) = ((m % 128 + 128 : Nat) : Int) := by omega
            rw [e] at hO
            exact hO
          · rw [List.mem_singleton] at hq
            subst hq
            rcases hg with hg | hg
            · exact hF'.out _ hg
            · have := hB0.size
              simp at hg
              omega
        case measure => simp [intOf]; omega
set_option maxHeartbeats 2000000 in
theorem num01 (v : Value) (bs : List Int) (n : Int) (F : List Nat) (w : World) (h : (Knd.int .u8).Own 5 w v bs F) (h1 : -1099511627776 ≤ n) (h2 : n ≤ 1099511627776) (h3 : bs.length ≤ 1099511627776) : Calls Try.prog 54 #[v, .int .i64 n] w (Grew w F (bs ++ varB (zig n))) := by
  generalize hR : bs ++ varB (zig n) = R
  have HR := Lib.hid hR
  clear hR
  by_cases h0 : n < 0
  · have HZ := Lib.hid (show (zig n : Int) = -2 * n - 1 by simp [zig, h0]; omega)
    have hz : zig n ≤ 2199023255552 := by have := HZ.out; omega
    go_enter Try.func54, Try.ntmps54
    go_wp2
    go_loopw [0, 5] (fun v' u wr => ∃ (bs' : List Int) (F' : List Nat) (m : Nat), u = .int .i64 m ∧ Hid (bs' ++ varB m = R) ∧ bs'.length + m ≤ bs.length + zig n ∧ (Knd.int .u8).Own 5 wr v' bs' F' ∧ But F w wr ∧ Hid (∀ g ∈ F', g ∈ F ∨ w.heap.size ≤ g)) (fun _ u _ => (intOf u).toNat)
    case atStart => exact ⟨bs, F, zig n, by first | exact congrArg (Value.int .i64) HZ.out.symm | (rw [HZ.out]; simp; omega), HR, Nat.le_refl _, h, But.refl _ _, (fun g hg => .inl hg)⟩
    case round =>
      obtain ⟨bs', F', m, rfl, he, hl, ho, hB0, hF'⟩ := hrel
      by_cases hm : m < 128
      · have HE := Lib.hid (varB_lt hm)
        have hm2 : (m : Int) < 128 := by omega
        have hm0 : 0 ≤ (m : Int) := by omega
        have hl2 : (bs'.length : Int) ≤ 9999999999999 := by omega
        clear hm hl
        generalize (m : Int) = mm at hm2 hm0 HE ⊢
        go_wp2_with (at_builtin; refine Knd.wp_app1 rfl _ _ _ rfl 5 Try.underlying40 (.int .u8 0) 1 infoByte rfl rfl (Knd.Own.below ho (bl_alloc (Below.refl _ _) _)) _ _ _ _ _ (blk_new _ _) rfl (by unfold maxLen; omega) (by omega) ?_; rintro g cap w' hO hB hg)
        go_ret
        refine ⟨_, [g], rfl, ?_, hB0.then (But.then (But.of_below (bl_alloc (Below.refl _ _) _)) hB (fun q hq => .inl hq)) hF'.out, fun q hq => ?_⟩
        · have e := he.out
          rw [HE.out] at e
          rw [← e]
          exact hO
        · rw [List.mem_singleton] at hq
          subst hq
          rcases hg with hg | hg
          · exact hF'.out _ hg
          · have := hB0.size
            simp at hg
            omega
      · have HE := Lib.hid (varB_ge hm)
        have hm2 : 128 ≤ (m : Int) := by omega
        go_wp2_with (at_builtin; refine Knd.wp_app1 rfl _ _ _ rfl 5 Try.underlying40 (.int .u8 0) 1 infoByte rfl rfl (Knd.Own.below ho (bl_alloc (Below.refl _ _) _)) _ _ _ _ _ (blk_new _ _) rfl (by unfold maxLen; omega) (by omega) ?_; rintro g cap w' hO hB hg)
        go_roundw
        case rel =>
          refine ⟨bs' ++ [((m % 128 + 128 : Nat) : Int)], [g], m / 128, by simp, ?_, ?_, ?_, hB0.then (But.then (But.of_below (bl_alloc (Below.refl _ _) _)) hB (fun q hq => .inl hq)) hF'.out, fun q hq => ?_⟩
          · have e := he.out
            rw [HE.out] at e
            refine Lib.hid ?_
            rw [← e, List.append_assoc]
            rfl
          · rw [List.length_append]
            simp only [List.length_singleton]
            omega
          · have e : (128 + ↑m % 128 : Int) = ((m % 128 + 128 : Nat) : Int) := by omega
            rw [e] at hO
            exact hO
          · rw [List.mem_singleton] at hq
            subst hq
            rcases hg with hg | hg
            · exact hF'.out _ hg
            · have := hB0.size
              simp at hg
              omega
        case measure => simp [intOf]; omega
  · have HZ := Lib.hid (show (zig n : Int) = 2 * n by simp [zig, h0]; omega)
    have hz : zig n ≤ 2199023255552 := by have := HZ.out; omega
    go_enter Try.func54, Try.ntmps54
    go_wp2
    go_loopw [0, 5] (fun v' u wr => ∃ (bs' : List Int) (F' : List Nat) (m : Nat), u = .int .i64 m ∧ Hid (bs' ++ varB m = R) ∧ bs'.length + m ≤ bs.length + zig n ∧ (Knd.int .u8).Own 5 wr v' bs' F' ∧ But F w wr ∧ Hid (∀ g ∈ F', g ∈ F ∨ w.heap.size ≤ g)) (fun _ u _ => (intOf u).toNat)
    case atStart => exact ⟨bs, F, zig n, by first | exact congrArg (Value.int .i64) HZ.out.symm | (rw [HZ.out]; simp; omega), HR, Nat.le_refl _, h, But.refl _ _, (fun g hg => .inl hg)⟩
    case round =>
      obtain ⟨bs', F', m, rfl, he, hl, ho, hB0, hF'⟩ := hrel
      by_cases hm : m < 128
      · have HE := Lib.hid (varB_lt hm)
        have hm2 : (m : Int) < 128 := by omega
        have hm0 : 0 ≤ (m : Int) := by omega
        have hl2 : (bs'.length : Int) ≤ 9999999999999 := by omega
        clear hm hl
        generalize (m : Int) = mm at hm2 hm0 HE ⊢
        go_wp2_with (at_builtin; refine Knd.wp_app1 rfl _ _ _ rfl 5 Try.underlying40 (.int .u8 0) 1 infoByte rfl rfl (Knd.Own.below ho (bl_alloc (Below.refl _ _) _)) _ _ _ _ _ (blk_new _ _) rfl (by unfold maxLen; omega) (by omega) ?_; rintro g cap w' hO hB hg)
        go_ret
        refine ⟨_, [g], rfl, ?_, hB0.then (But.then (But.of_below (bl_alloc (Below.refl _ _) _)) hB (fun q hq => .inl hq)) hF'.out, fun q hq => ?_⟩
        · have e := he.out
          rw [HE.out] at e
          rw [← e]
          exact hO
        · rw [List.mem_singleton] at hq
          subst hq
          rcases hg with hg | hg
          · exact hF'.out _ hg
          · have := hB0.size
            simp at hg
            omega
      · have HE := Lib.hid (varB_ge hm)
        have hm2 : 128 ≤ (m : Int) := by omega
        go_wp2_with (at_builtin; refine Knd.wp_app1 rfl _ _ _ rfl 5 Try.underlying40 (.int .u8 0) 1 infoByte rfl rfl (Knd.Own.below ho (bl_alloc (Below.refl _ _) _)) _ _ _ _ _ (blk_new _ _) rfl (by unfold maxLen; omega) (by omega) ?_; rintro g cap w' hO hB hg)
        go_roundw
        case rel =>
          refine ⟨bs' ++ [((m % 128 + 128 : Nat) : Int)], [g], m / 128, by simp, ?_, ?_, ?_, hB0.then (But.then (But.of_below (bl_alloc (Below.refl _ _) _)) hB (fun q hq => .inl hq)) hF'.out, fun q hq => ?_⟩
          · have e := he.out
            rw [HE.out] at e
            refine Lib.hid ?_
            rw [← e, List.append_assoc]
            rfl
          · rw [List.length_append]
            simp only [List.length_singleton]
            omega
          · have e : (128 + ↑m % 128 : Int) = ((m % 128 + 128 : Nat) : Int) := by omega
            rw [e] at hO
            exact hO
          · rw [List.mem_singleton] at hq
            subst hq
            rcases hg with hg | hg
            · exact hF'.out _ hg
            · have := hB0.size
              simp at hg
              omega
        case measure => simp [intOf]; omega
end Go.Proofs.Ytgnibbhcbdmigaa.Dat

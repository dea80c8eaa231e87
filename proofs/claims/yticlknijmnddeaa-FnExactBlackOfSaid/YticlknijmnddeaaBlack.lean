/- BlackOf, in the program and in the reference. -/
import Derived.Test.YticlknijmnddeaaGTier
import Derived.Test.YticlknijmnddeaaK4
import Derived.Test.YticlknijmnddeaaVmI
namespace Go.Proofs.Yticlknijmnddeaa.Dat
open Go Go.RowKit Go.Proofs.Yticlknijmnddeaa.Mem
set_option linter.unusedVariables false
set_option linter.unusedSimpArgs false
def blackL (fs : List DFail) : List DSpec := (fs.filter (fun f => decide (3 ≤ f.count))).map (fun f => ⟨f.fn, f.pc, f.kind, 0⟩)
theorem black_len (fs : List DFail) : (blackL fs).length ≤ fs.length := by
  unfold blackL
  rw [List.length_map]
  exact List.length_filter_le _ _
theorem black_snoc {fs : List DFail} {k : Nat} {f : DFail} (hf : fs[k]? = some f) : blackL (fs.take (k + 1)) = blackL (fs.take k) ++ (if 3 ≤ f.count then [⟨f.fn, f.pc, f.kind, 0⟩] else []) := by
  unfold blackL
  rw [List.take_add_one, hf, List.filter_append, List.map_append]
  congr 1
  by_cases h : 3 ≤ f.count
  · simp [h]
  · simp [h]
theorem black_small (x : DTier) (hM : MTier x) : (blackL x.fails).length ≤ 1048576 := Nat.le_trans (black_len _) hM.2.2.2
set_option maxHeartbeats 4000000 in
set_option maxRecDepth 100000 in
theorem blackI (A0 A1 A3 A10 A11 A12 : Option Addr) (c0 c1 c3 c10 c11 c12 : Nat) (x : DTier) (w : World) (r0 : kFrame.Row w A0 x.vm.frames.length x.vm.frames) (r1 : kRec.Row w A1 x.vm.heap.length x.vm.heap) (r3 : Knd.str.Row w A3 x.vm.out.length x.vm.out) (r10 : kSite.Row w A10 x.sites.length x.sites) (r11 : kFast.Row w A11 x.codes.length x.codes) (r12 : kFail.Row w A12 x.fails.length x.fails) (hM : MTier x) {X : List DSpec} (hX : blackL x.fails = X) :
    Calls Try.prog 35 #[.agg #[.slice A0 x.vm.frames.length c0, .slice A1 x.vm.heap.length c1, .int .i64 x.vm.made, .slice A3 x.vm.out.length c3, .int .i64 x.vm.status, .int .i64 x.vm.trap, .int .i64 x.vm.value.k, .int .i64 x.vm.value.n, .string x.vm.value.s, .int .i64 x.vm.steps, .slice A10 x.sites.length c10, .slice A11 x.codes.length c11, .slice A12 x.fails.length c12, .int .i64 x.guards, .int .i64 x.entered]] w (NewRow kSpec 142 X w) := by
  have hfl : x.fails.length ≤ 1048576 := hM.2.2.2
  have hS0 := ((St.start w).made (.cells #[.slice A0 x.vm.frames.length c0, .slice A1 x.vm.heap.length c1, .int .i64 x.vm.made, .slice A3 x.vm.out.length c3, .int .i64 x.vm.status, .int .i64 x.vm.trap, .int .i64 x.vm.value.k, .int .i64 x.vm.value.n, .string x.vm.value.s, .int .i64 x.vm.steps, .slice A10 x.sites.length c10, .slice A11 x.codes.length c11, .slice A12 x.fails.length c12, .int .i64 x.guards, .int .i64 x.entered] 76 (0, 0))).emptyV kSpec 142 (w.heap.size + 1) (by simp)
  have x_t := hS0.cell 1 rfl
  go_enter Try.func35, Try.ntmps35
  go_wp2
  go_loopw [3, 10] (fun v i wr => ∃ (k : Nat) (F : List Nat), k ≤ x.fails.length ∧ i = .int .i64 k ∧ St w [Res.own kSpec 142 v (blackL (x.fails.take k)) F, Res.box w.heap.size (.cells #[.slice A0 x.vm.frames.length c0, .slice A1 x.vm.heap.length c1, .int .i64 x.vm.made, .slice A3 x.vm.out.length c3, .int .i64 x.vm.status, .int .i64 x.vm.trap, .int .i64 x.vm.value.k, .int .i64 x.vm.value.n, .string x.vm.value.s, .int .i64 x.vm.steps, .slice A10 x.sites.length c10, .slice A11 x.codes.length c11, .slice A12 x.fails.length c12, .int .i64 x.guards, .int .i64 x.entered] 76 (0, 0))] wr) (fun _ i _ => x.fails.length - (intOf i).toNat)
  case atStart => exact ⟨0, _, by omega, rfl, hS0⟩
  case round =>
    clear hS0 x_t
    obtain ⟨k, F, hk, rfl, hS⟩ := hrel
    have x_t := hS.cell 1 rfl
    by_cases hlt : k < x.fails.length
    rotate_left
    · obtain rfl : k = x.fails.length := by omega
      rw [List.take_length, hX] at hS
      go_wp2
      go_ret
      exact hS.outRow 0 rfl
    obtain ⟨f, hf⟩ := get_exU x.fails k hlt
    obtain ⟨ad, rfl, q0, q1, q2, q3⟩ := kFail_at (r12.below hS.bel) k f hf
    have HT := Lib.hid (black_snoc hf)
    have hlk : (blackL (x.fails.take k)).length ≤ k := Nat.le_trans (black_len _) (by rw [List.length_take]; omega)
    obtain ⟨ys, hys⟩ : ∃ ys, blackL (x.fails.take k) = ys := ⟨_, rfl⟩
    rw [hys] at hS hlk
    have HY := Lib.hid hys
    obtain ⟨Av, cv, rfl, _, _⟩ := hS.row 0 rfl
    have hT := hS.made (.cells #[.int .i64 f.fn, .int .i64 f.pc, .int .i64 f.kind, .int .i64 f.count] 140 (0, 0))
    clear hf hys
    by_cases h3 : 3 ≤ f.count
    · rw [if_pos h3] at HT
      go_wp2_with (at_builtin; refine Knd.wp_appE kSpec rfl _ _ _ rfl 142 Try.underlying71 (.agg #[.int .i64 0, .int .i64 0, .int .i64 0, .int .i64 0]) 32 infoSpec rfl (by decide) rfl ((hT.al _).own_ 1 rfl) _ _ _ _ ⟨f.fn, f.pc, f.kind, 0⟩ (blkAt _ _ (by simp)) rfl (kSpec_Oi.2 ⟨rfl, rfl⟩) (by have := hT.nodup 1 rfl; simpa [Res.own] using this) (by (try simp [maxLen]); (try omega)) (by (try simp); (try omega)) ?_; rintro gq cq wq Fq hO hB hnd hF; have hS2 := (hT.al _).appK 1 rfl hO hB hnd hF; clear hO hB hF)
      go_roundw
      case rel => exact ⟨k + 1, Fq, by omega, by go_num, by rw [HT.out, HY.out]; exact hS2.drop⟩
      case measure => simp [intOf]; omega
    · rw [if_neg h3, List.append_nil] at HT
      go_wp2
      go_roundw
      case rel => exact ⟨k + 1, F, by omega, by go_num, by rw [HT.out, HY.out]; exact hT.drop⟩
      case measure => simp [intOf]; omega
set_option maxHeartbeats 4000000 in
set_option maxRecDepth 100000 in
theorem black3 (A0 A1 A3 A10 A11 A12 : Option Addr) (c0 c1 c3 c10 c11 c12 : Nat) (x : DTier) (w : World) (r0 : kFrame.Row w A0 x.vm.frames.length x.vm.frames) (r1 : kRec.Row w A1 x.vm.heap.length x.vm.heap) (r3 : Knd.str.Row w A3 x.vm.out.length x.vm.out) (r10 : kSite.Row w A10 x.sites.length x.sites) (r11 : kFast.Row w A11 x.codes.length x.codes) (r12 : kFail.Row w A12 x.fails.length x.fails) (hM : MTier x) {X : List DSpec} (hX : blackL x.fails = X) :
    Calls Try.prog 33 #[.agg #[.slice A0 x.vm.frames.length c0, .slice A1 x.vm.heap.length c1, .int .i64 x.vm.made, .slice A3 x.vm.out.length c3, .int .i64 x.vm.status, .int .i64 x.vm.trap, .int .i64 x.vm.value.k, .int .i64 x.vm.value.n, .string x.vm.value.s, .int .i64 x.vm.steps, .slice A10 x.sites.length c10, .slice A11 x.codes.length c11, .slice A12 x.fails.length c12, .int .i64 x.guards, .int .i64 x.entered]] w (NewRow kSpec 142 X w) := by
  have hfl : x.fails.length ≤ 1048576 := hM.2.2.2
  have hS0 := ((St.start w).made (.cells #[.slice A0 x.vm.frames.length c0, .slice A1 x.vm.heap.length c1, .int .i64 x.vm.made, .slice A3 x.vm.out.length c3, .int .i64 x.vm.status, .int .i64 x.vm.trap, .int .i64 x.vm.value.k, .int .i64 x.vm.value.n, .string x.vm.value.s, .int .i64 x.vm.steps, .slice A10 x.sites.length c10, .slice A11 x.codes.length c11, .slice A12 x.fails.length c12, .int .i64 x.guards, .int .i64 x.entered] 76 (0, 0))).emptyV kSpec 142 (w.heap.size + 1) (by simp)
  have x_t := hS0.cell 1 rfl
  go_enter Try.func33, Try.ntmps33
  go_wp2
  go_loopw [3, 4] (fun v i wr => ∃ (k : Nat) (F : List Nat), k ≤ x.fails.length ∧ i = .int .i64 k ∧ St w [Res.own kSpec 142 v (blackL (x.fails.take k)) F, Res.box w.heap.size (.cells #[.slice A0 x.vm.frames.length c0, .slice A1 x.vm.heap.length c1, .int .i64 x.vm.made, .slice A3 x.vm.out.length c3, .int .i64 x.vm.status, .int .i64 x.vm.trap, .int .i64 x.vm.value.k, .int .i64 x.vm.value.n, .string x.vm.value.s, .int .i64 x.vm.steps, .slice A10 x.sites.length c10, .slice A11 x.codes.length c11, .slice A12 x.fails.length c12, .int .i64 x.guards, .int .i64 x.entered] 76 (0, 0))] wr) (fun _ i _ => x.fails.length - (intOf i).toNat)
  case atStart => exact ⟨0, _, by omega, rfl, hS0⟩
  case round =>
    clear hS0 x_t
    obtain ⟨k, F, hk, rfl, hS⟩ := hrel
    have x_t := hS.cell 1 rfl
    by_cases hlt : k < x.fails.length
    rotate_left
    · obtain rfl : k = x.fails.length := by omega
      rw [List.take_length, hX] at hS
      go_wp2
      go_ret
      exact hS.outRow 0 rfl
    obtain ⟨f, hf⟩ := get_exU x.fails k hlt
    obtain ⟨ad, rfl, q0, q1, q2, q3⟩ := kFail_at (r12.below hS.bel) k f hf
    have HT := Lib.hid (black_snoc hf)
    have hlk : (blackL (x.fails.take k)).length ≤ k := Nat.le_trans (black_len _) (by rw [List.length_take]; omega)
    obtain ⟨ys, hys⟩ : ∃ ys, blackL (x.fails.take k) = ys := ⟨_, rfl⟩
    rw [hys] at hS hlk
    have HY := Lib.hid hys
    obtain ⟨Av, cv, rfl, _, _⟩ := hS.row 0 rfl
    have hT := hS.made (.cells #[.int .i64 f.fn, .int .i64 f.pc, .int .i64 f.kind, .int .i64 f.count] 140 (0, 0))
    clear hf hys
    by_cases h3 : 3 ≤ f.count
    · rw [if_pos h3] at HT
      go_wp2_with (at_builtin; refine Knd.wp_appE kSpec rfl _ _ _ rfl 142 Try.underlying71 (.agg #[.int .i64 0, .int .i64 0, .int .i64 0, .int .i64 0]) 32 infoSpec rfl (by decide) rfl ((hT.al _).own_ 1 rfl) _ _ _ _ ⟨f.fn, f.pc, f.kind, 0⟩ (blkAt _ _ (by simp)) rfl (kSpec_Oi.2 ⟨rfl, rfl⟩) (by have := hT.nodup 1 rfl; simpa [Res.own] using this) (by (try simp [maxLen]); (try omega)) (by (try simp); (try omega)) ?_; rintro gq cq wq Fq hO hB hnd hF; have hS2 := (hT.al _).appK 1 rfl hO hB hnd hF; clear hO hB hF)
      go_roundw
      case rel => exact ⟨k + 1, Fq, by omega, by go_num, by rw [HT.out, HY.out]; exact hS2.drop⟩
      case measure => simp [intOf]; omega
    · rw [if_neg h3, List.append_nil] at HT
      go_wp2
      go_roundw
      case rel => exact ⟨k + 1, F, by omega, by go_num, by rw [HT.out, HY.out]; exact hT.drop⟩
      case measure => simp [intOf]; omega
end Go.Proofs.Yticlknijmnddeaa.Dat

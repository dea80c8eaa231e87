/- What may follow an instruction, in the reference. -/
import Derived.Test.YteoibjacgnmnpaaSt1
namespace Go.Proofs.Yteoibjacgnmnpaa.Dat
open Go Go.RowKit Go.Proofs.Yteoibjacgnmnpaa.Mem
set_option linter.unusedVariables false
set_option linter.unusedSimpArgs false
set_option maxHeartbeats 1000000 in
theorem next03 (x : DIns) (pc : Nat) (w : World) (hp : pc ≤ 1048576) : Calls Try.prog 154 #[.agg #[.int .i64 x.op, .int .i64 x.a], .int .i64 pc] w (NewRow (Knd.int .i64) 3 (nexts x pc) w) := by
  obtain ⟨op, a⟩ := x
  have hS0 := ((St.start w).made (.cells #[.int .i64 op, .int .i64 a] 100 (0, 0))).litAt (enc := Value.int .i64) (h1 := fun _ => rfl) (e := 3) [] #[] rfl (w.heap.size + 1) (by simp) 0 rfl (by simp)
  by_cases h1 : op = 25
  · subst h1
    rw [nexts_25 _ _ rfl]
    go_enter Try.func154, Try.ntmps154
    go_wp2
    go_ret
    exact hS0.outRow 0 rfl
  by_cases h2 : op = 17
  · subst h2
    rw [nexts_17 _ _ rfl]
    go_enter Try.func154, Try.ntmps154
    have hS := hS0
    go_wp2_with (at_builtin; refine Knd.wp_app1 rfl _ _ _ rfl 3 Try.underlying124 (.int .i64 0) 8 infoInt rfl rfl ((hS.al _).own_ 0 rfl) _ _ _ _ _ (blkAt _ _ (by simp)) rfl (by (try simp [maxLen]); (try omega)) (by (try simp); (try omega)) ?_; rintro gq cq wq hO hB hg; have hSq := (hS.al _).app1 0 rfl hO hB hg; clear hO hB hg hS; have hS := hSq; clear hSq; have x0 := hS.cell 1 rfl)
    go_ret
    exact hS.outRow 0 rfl
  by_cases h3 : op = 18
  · subst h3
    rw [nexts_18 _ _ (.inl rfl)]
    go_enter Try.func154, Try.ntmps154
    have hS := hS0
    go_wp2_with (at_builtin; refine Knd.wp_app1 rfl _ _ _ rfl 3 Try.underlying124 (.int .i64 0) 8 infoInt rfl rfl ((hS.al _).own_ 0 rfl) _ _ _ _ _ (blkAt _ _ (by simp)) rfl (by (try simp [maxLen]); (try omega)) (by (try simp); (try omega)) ?_; rintro gq cq wq hO hB hg; have hSq := (hS.al _).app1 0 rfl hO hB hg; clear hO hB hg hS; have hS := hSq; clear hSq; have x0 := hS.cell 1 rfl)
    go_ret
    exact hS.outRow 0 rfl
  by_cases h4 : op = 19
  · subst h4
    rw [nexts_18 _ _ (.inr rfl)]
    go_enter Try.func154, Try.ntmps154
    have hS := hS0
    go_wp2_with (at_builtin; refine Knd.wp_app1 rfl _ _ _ rfl 3 Try.underlying124 (.int .i64 0) 8 infoInt rfl rfl ((hS.al _).own_ 0 rfl) _ _ _ _ _ (blkAt _ _ (by simp)) rfl (by (try simp [maxLen]); (try omega)) (by (try simp); (try omega)) ?_; rintro gq cq wq hO hB hg; have hSq := (hS.al _).app1 0 rfl hO hB hg; clear hO hB hg hS; have hS := hSq; clear hSq; have x0 := hS.cell 1 rfl)
    go_ret
    exact hS.outRow 0 rfl
  rw [nexts_o _ _ ⟨h1, h2, h3, h4⟩]
  have e17 : (op == 17) = false := by simpa using h2
  have f17 : (op != 17) = true := by simpa using h2
  have f25 : (op != 25) = true := by simpa using h1
  have e18 : (op == 18) = false := by simpa using h3
  have e19 : (op == 19) = false := by simpa using h4
  go_enter Try.func154, Try.ntmps154
  have hS := hS0
  go_wp2_with (at_builtin; refine Knd.wp_app1 rfl _ _ _ rfl 3 Try.underlying124 (.int .i64 0) 8 infoInt rfl rfl ((hS.al _).own_ 0 rfl) _ _ _ _ _ (blkAt _ _ (by simp)) rfl (by (try simp [maxLen]); (try omega)) (by (try simp); (try omega)) ?_; rintro gq cq wq hO hB hg; have hSq := (hS.al _).app1 0 rfl hO hB hg; clear hO hB hg hS; have hS := hSq; clear hSq; have x0 := hS.cell 1 rfl)
  go_ret
  exact hS.outRow 0 rfl
end Go.Proofs.Yteoibjacgnmnpaa.Dat

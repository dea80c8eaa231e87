/- What an op of code must be, in the program: opOk. -/
import Derived.Test.YthinhlcfpaaldaaGreatFkJ
namespace Go.Proofs.YthinhlcfpaaldaaGreat.Dat
open Go Go.RowKit Go.Proofs.YthinhlcfpaaldaaGreat.Mem
set_option linter.unusedVariables false
set_option linter.unusedSimpArgs false
theorem back_neg {ops : List DFOp} {k : Nat} {tz : Int} (h : tz < 0) : backB ops k tz = true := by unfold backB; rw [decide_eq_true h]; rfl
theorem back_far {ops : List DFOp} {k : Nat} {tz : Int} (h : (k : Int) < tz) : backB ops k tz = true := by unfold backB; rw [decide_eq_true h, Bool.true_or, Bool.or_true]
theorem back_at {ops : List DFOp} {k j : Nat} {q : DFOp} (h : j ≤ k) (hq : ops[j]? = some q) : backB ops k (j : Int) = decide (q.op = 25) := by
  unfold backB
  rw [decide_eq_false (by omega), decide_eq_false (by omega), Int.toNat_natCast, hq]
  rfl
set_option maxHeartbeats 16000000 in
set_option maxRecDepth 100000 in
theorem opI (A B A4 A5 : Option Addr) (c0 d0 c4 c5 : Nat) (t : List ByteArray) (l : List DFunc) (c : DFast) (k : Nat) (o : DFOp) (w : World) (h : HasMod A B t l w) (hl : l.length ≤ 12) (h1 : 0 ≤ c.vals) (h2 : c.vals ≤ 400) (h3 : 0 ≤ c.nums) (h4 : c.nums ≤ 400) (h5 : c.ops.length ≤ 1500) (h6 : c.exits.length ≤ 1500)
    (r4 : kFOp.Row w A4 c.ops.length c.ops) (ho : c.ops[k]? = some o) (hs : o.v.s.size ≤ maxLen) :
    Calls Tryz.prog 218 #[.agg #[.int .i64 c.fn, .int .i64 c.entry, .int .i64 c.vals, .int .i64 c.nums, .slice A4 c.ops.length c4, .slice A5 c.exits.length c5], .agg #[.slice A t.length c0, .slice B l.length d0], .int .i64 k] w fun e w' => e = .returned (.bool (opB l c k o)) ∧ Below w.heap.size w w' := by
  have hk : k < c.ops.length := (List.getElem?_eq_some_iff.1 ho).1
  obtain ⟨ad, rfl, q0, q1, q2, q3, q4, q5, q6, q7, q8, q9⟩ := kFOp_at r4 k o ho
  have hS := (((St.start w).made (.cells #[.int .i64 c.fn, .int .i64 c.entry, .int .i64 c.vals, .int .i64 c.nums, .slice (some ad) c.ops.length c4, .slice A5 c.exits.length c5] 41 (0, 0))).madeAt (.cells #[.slice A t.length c0, .slice B l.length d0] 36 (0, 0)) (w.heap.size + 1) (by simp)).madeAt (.cells #[.int .i64 o.op, .int .i64 o.d, .int .i64 o.a, .int .i64 o.b, .int .i64 o.x, .int .i64 o.f, .int .i64 o.p, .int .i64 o.v.k, .int .i64 o.v.n, .string o.v.s] 164 (0, 0)) (w.heap.size + 1 + 1) (by simp)
  have p0 := kept (bl_alloc (bl_alloc (Below.refl _ _) (.cells #[.int .i64 c.fn, .int .i64 c.entry, .int .i64 c.vals, .int .i64 c.nums, .slice (some ad) c.ops.length c4, .slice A5 c.exits.length c5] 41 (0, 0))) (.cells #[.slice A t.length c0, .slice B l.length d0] 36 (0, 0))) q0
  have p1 := kept (bl_alloc (bl_alloc (Below.refl _ _) (.cells #[.int .i64 c.fn, .int .i64 c.entry, .int .i64 c.vals, .int .i64 c.nums, .slice (some ad) c.ops.length c4, .slice A5 c.exits.length c5] 41 (0, 0))) (.cells #[.slice A t.length c0, .slice B l.length d0] 36 (0, 0))) q1
  have p2 := kept (bl_alloc (bl_alloc (Below.refl _ _) (.cells #[.int .i64 c.fn, .int .i64 c.entry, .int .i64 c.vals, .int .i64 c.nums, .slice (some ad) c.ops.length c4, .slice A5 c.exits.length c5] 41 (0, 0))) (.cells #[.slice A t.length c0, .slice B l.length d0] 36 (0, 0))) q2
  have p3 := kept (bl_alloc (bl_alloc (Below.refl _ _) (.cells #[.int .i64 c.fn, .int .i64 c.entry, .int .i64 c.vals, .int .i64 c.nums, .slice (some ad) c.ops.length c4, .slice A5 c.exits.length c5] 41 (0, 0))) (.cells #[.slice A t.length c0, .slice B l.length d0] 36 (0, 0))) q3
  have p4 := kept (bl_alloc (bl_alloc (Below.refl _ _) (.cells #[.int .i64 c.fn, .int .i64 c.entry, .int .i64 c.vals, .int .i64 c.nums, .slice (some ad) c.ops.length c4, .slice A5 c.exits.length c5] 41 (0, 0))) (.cells #[.slice A t.length c0, .slice B l.length d0] 36 (0, 0))) q4
  have p5 := kept (bl_alloc (bl_alloc (Below.refl _ _) (.cells #[.int .i64 c.fn, .int .i64 c.entry, .int .i64 c.vals, .int .i64 c.nums, .slice (some ad) c.ops.length c4, .slice A5 c.exits.length c5] 41 (0, 0))) (.cells #[.slice A t.length c0, .slice B l.length d0] 36 (0, 0))) q5
  have p6 := kept (bl_alloc (bl_alloc (Below.refl _ _) (.cells #[.int .i64 c.fn, .int .i64 c.entry, .int .i64 c.vals, .int .i64 c.nums, .slice (some ad) c.ops.length c4, .slice A5 c.exits.length c5] 41 (0, 0))) (.cells #[.slice A t.length c0, .slice B l.length d0] 36 (0, 0))) q6
  have p7 := kept (bl_alloc (bl_alloc (Below.refl _ _) (.cells #[.int .i64 c.fn, .int .i64 c.entry, .int .i64 c.vals, .int .i64 c.nums, .slice (some ad) c.ops.length c4, .slice A5 c.exits.length c5] 41 (0, 0))) (.cells #[.slice A t.length c0, .slice B l.length d0] 36 (0, 0))) q7
  have p8 := kept (bl_alloc (bl_alloc (Below.refl _ _) (.cells #[.int .i64 c.fn, .int .i64 c.entry, .int .i64 c.vals, .int .i64 c.nums, .slice (some ad) c.ops.length c4, .slice A5 c.exits.length c5] 41 (0, 0))) (.cells #[.slice A t.length c0, .slice B l.length d0] 36 (0, 0))) q8
  have p9 := kept (bl_alloc (bl_alloc (Below.refl _ _) (.cells #[.int .i64 c.fn, .int .i64 c.entry, .int .i64 c.vals, .int .i64 c.nums, .slice (some ad) c.ops.length c4, .slice A5 c.exits.length c5] 41 (0, 0))) (.cells #[.slice A t.length c0, .slice B l.length d0] 36 (0, 0))) q9
  clear q0 q1 q2 q3 q4 q5 q6 q7 q8 q9
  have x_f := hS.cell 2 rfl
  have x_m := hS.cell 1 rfl
  have x_o := hS.cell 0 rfl
  obtain ⟨sp, hsp⟩ : ∃ sp, shp o.op = sp := ⟨_, rfl⟩
  rcases sp with _ | ⟨sd, sa, sb, se⟩
  · have E := Lib.hid (show opB l c k o = false by unfold opB; rw [hsp])
    have C : ∀ W, Calls Tryz.prog 290 #[.int .i64 o.op] W (fun e w' => e = .returned (.tuple #[.agg #[.int .i64 0, .int .i64 0, .int .i64 0, .bool false], .bool false]) ∧ Below W.heap.size W w') := fun W => shapeI o.op W hsp
    have HC := Lib.hid C
    clear hsp C
    go_enter Tryz.func218, Tryz.ntmps218
    go_wp2_with fail
    refine (HC.out _).mono ?_
    rintro e w1 ⟨rfl, hb⟩
    replace hS := hS.step hb
    go_wp2
    go_ret
    exact ⟨ret_bool E.out.symm, bl_alloc hS.bel _⟩
  have E := Lib.hid (show opB l c k o = opS l c k o (sd, sa, sb, se) by unfold opB; rw [hsp])
  have C : ∀ W, Calls Tryz.prog 290 #[.int .i64 o.op] W (fun e w' => e = .returned (.tuple #[.agg #[.int .i64 sd, .int .i64 sa, .int .i64 sb, .bool se], .bool true]) ∧ Below W.heap.size W w') := fun W => shapeI o.op W hsp
  have HC := Lib.hid C
  clear hsp C
  by_cases hg : goB o < 0 ∨ (k : Int) < goB o
  · have HB := Lib.hid (show backB c.ops k (goB o) = true by rcases hg with hg | hg; exact back_neg hg; exact back_far hg)
    have hg2 : ¬ (0 ≤ goB o ∧ goB o ≤ (k : Int)) := by omega
    obtain ⟨tz, hto⟩ : ∃ tz, goB o = tz := ⟨_, rfl⟩
    have HTO := Lib.hid hto
    rw [hto] at HB hg hg2
    clear hto
    go_enter Tryz.func218, Tryz.ntmps218
    go_wp2_with fail
    refine (HC.out _).mono ?_
    rintro e w1 ⟨rfl, hb⟩
    replace hS := (hS.step hb).made (.cells #[.int .i64 sd, .int .i64 sa, .int .i64 sb, .bool se] 351 (0, 0))
    clear hb x_f x_m x_o
    have x_f := hS.cell 3 rfl
    have x_m := hS.cell 2 rfl
    have x_o := hS.cell 1 rfl
    have x_s := hS.cell 0 rfl
    go_wp2_with (first | (go_at_call 291; first | ((with_reducible refine (partI A B (some ad) A5 c0 d0 c4 c5 t l c o.d sd _ hl h1 h2 h3 h4 h5).mono ?_); rintro e w' ⟨rfl, hb⟩; replace hS := hS.step hb; clear hb x_f x_m x_o x_s; have x_f := hS.cell 3 rfl; have x_m := hS.cell 2 rfl; have x_o := hS.cell 1 rfl; have x_s := hS.cell 0 rfl) | ((with_reducible refine (partI A B (some ad) A5 c0 d0 c4 c5 t l c o.a sa _ hl h1 h2 h3 h4 h5).mono ?_); rintro e w' ⟨rfl, hb⟩; replace hS := hS.step hb; clear hb x_f x_m x_o x_s; have x_f := hS.cell 3 rfl; have x_m := hS.cell 2 rfl; have x_o := hS.cell 1 rfl; have x_s := hS.cell 0 rfl) | ((with_reducible refine (partI A B (some ad) A5 c0 d0 c4 c5 t l c o.b sb _ hl h1 h2 h3 h4 h5).mono ?_); rintro e w' ⟨rfl, hb⟩; replace hS := hS.step hb; clear hb x_f x_m x_o x_s; have x_f := hS.cell 3 rfl; have x_m := hS.cell 2 rfl; have x_o := hS.cell 1 rfl; have x_s := hS.cell 0 rfl)) | (go_at_call 292; refine (constI A B c0 d0 t l o _ hl hs).mono ?_; rintro e w' ⟨rfl, hb⟩; replace hS := hS.step hb; clear hb x_f x_m x_o x_s; have x_f := hS.cell 3 rfl; have x_m := hS.cell 2 rfl; have x_o := hS.cell 1 rfl; have x_s := hS.cell 0 rfl) | (go_at_call 122; (with_reducible refine (isPlace (r := btw o.x 0 ((c.exits.length : Int) - 1)) _ rfl (by omega) (by omega)).mono ?_); rintro e w' ⟨rfl, rfl⟩) | (go_at_call 293; refine (goesI o _).mono ?_; rintro e w' ⟨rfl, hb⟩; replace hS := hS.step hb; clear hb x_f x_m x_o x_s; have x_f := hS.cell 3 rfl; have x_m := hS.cell 2 rfl; have x_o := hS.cell 1 rfl; have x_s := hS.cell 0 rfl; rw [HTO.out]) | (go_at_call 252; refine (insAtI A B c0 d0 t l o.f o.p _ (h.below hS.bel) rfl).mono ?_; rintro e w' ⟨rfl, hb⟩; replace hS := hS.step hb; clear hb x_f x_m x_o x_s))
    all_goals first | (exfalso; omega) | (go_ret; refine ⟨ret_bool ?_, hS.bel⟩; rw [E.out]; unfold opS; have HT := HTO.out; have HB2 := HB.out; rw [Bool.eq_iff_iff]; simp_all)
  · obtain ⟨j, hj⟩ : ∃ j : Nat, goB o = j := ⟨(goB o).toNat, by omega⟩
    have hjk : j ≤ k := by omega
    obtain ⟨q, hq⟩ := get_exU c.ops j (by omega)
    obtain ⟨_, e9, u0, _, _, _, _, _, _, _, _, _⟩ := kFOp_at r4 j q hq
    cases e9
    have HB := Lib.hid (show backB c.ops k (goB o) = decide (q.op = 25) by rw [hj]; exact back_at hjk hq)
    have HJ := Lib.hid hj
    have j0 : (0 : Int) ≤ (j : Int) := by omega
    have j1 : (j : Int) < c.ops.length := by omega
    have j2 : j < c.ops.length := by omega
    have j3 : (j : Int) ≤ (k : Int) := by omega
    clear hg hj hq
    go_enter Tryz.func218, Tryz.ntmps218
    go_wp2_with fail
    refine (HC.out _).mono ?_
    rintro e w1 ⟨rfl, hb⟩
    replace hS := (hS.step hb).made (.cells #[.int .i64 sd, .int .i64 sa, .int .i64 sb, .bool se] 351 (0, 0))
    clear hb x_f x_m x_o
    have x_f := hS.cell 3 rfl
    have x_m := hS.cell 2 rfl
    have x_o := hS.cell 1 rfl
    have x_s := hS.cell 0 rfl
    go_wp2_with (first | (go_at_call 291; first | ((with_reducible refine (partI A B (some ad) A5 c0 d0 c4 c5 t l c o.d sd _ hl h1 h2 h3 h4 h5).mono ?_); rintro e w' ⟨rfl, hb⟩; replace hS := hS.step hb; clear hb x_f x_m x_o x_s; have x_f := hS.cell 3 rfl; have x_m := hS.cell 2 rfl; have x_o := hS.cell 1 rfl; have x_s := hS.cell 0 rfl) | ((with_reducible refine (partI A B (some ad) A5 c0 d0 c4 c5 t l c o.a sa _ hl h1 h2 h3 h4 h5).mono ?_); rintro e w' ⟨rfl, hb⟩; replace hS := hS.step hb; clear hb x_f x_m x_o x_s; have x_f := hS.cell 3 rfl; have x_m := hS.cell 2 rfl; have x_o := hS.cell 1 rfl; have x_s := hS.cell 0 rfl) | ((with_reducible refine (partI A B (some ad) A5 c0 d0 c4 c5 t l c o.b sb _ hl h1 h2 h3 h4 h5).mono ?_); rintro e w' ⟨rfl, hb⟩; replace hS := hS.step hb; clear hb x_f x_m x_o x_s; have x_f := hS.cell 3 rfl; have x_m := hS.cell 2 rfl; have x_o := hS.cell 1 rfl; have x_s := hS.cell 0 rfl)) | (go_at_call 292; refine (constI A B c0 d0 t l o _ hl hs).mono ?_; rintro e w' ⟨rfl, hb⟩; replace hS := hS.step hb; clear hb x_f x_m x_o x_s; have x_f := hS.cell 3 rfl; have x_m := hS.cell 2 rfl; have x_o := hS.cell 1 rfl; have x_s := hS.cell 0 rfl) | (go_at_call 122; (with_reducible refine (isPlace (r := btw o.x 0 ((c.exits.length : Int) - 1)) _ rfl (by omega) (by omega)).mono ?_); rintro e w' ⟨rfl, rfl⟩) | (go_at_call 293; refine (goesI o _).mono ?_; rintro e w' ⟨rfl, hb⟩; replace hS := hS.step hb; clear hb x_f x_m x_o x_s; have x_f := hS.cell 3 rfl; have x_m := hS.cell 2 rfl; have x_o := hS.cell 1 rfl; have x_s := hS.cell 0 rfl; rw [HJ.out]; have v0 := kept hS.bel u0) | (go_at_call 252; refine (insAtI A B c0 d0 t l o.f o.p _ (h.below hS.bel) rfl).mono ?_; rintro e w' ⟨rfl, hb⟩; replace hS := hS.step hb; clear hb x_f x_m x_o x_s))
    all_goals (go_ret; refine ⟨ret_bool ?_, hS.bel⟩; rw [E.out]; unfold opS; have HB2 := HB.out; rw [HB2, Bool.eq_iff_iff]; simp_all)
end Go.Proofs.YthinhlcfpaaldaaGreat.Dat

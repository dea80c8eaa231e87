/- A bundle: PlanI Plan9. -/
import Derived.Test.YthinhlcfpaaldaaGreatK5
import Derived.Test.YthinhlcfpaaldaaGreatK4
import Derived.IntWalk
/- Guesses and plans, whether they are ok for a module: in the program and in the reference. Written by a program (plangen.py). -/
namespace Go.Proofs.YthinhlcfpaaldaaGreat.Dat
open Go Go.RowKit Go.Proofs.YthinhlcfpaaldaaGreat.Mem
set_option linter.unusedVariables false
set_option linter.unusedSimpArgs false
def parOf (l : List DFunc) (f : Int) : Int := (l.getD f.toNat zFunc).params
/-- A guess at an instruction. -/
def specX (l : List DFunc) (x : DIns) (s : DSpec) : Bool := if s.kind = 1 then isAr x.op && decide (s.target = 0) else decide (s.kind = 2) && (decide (x.op = 23) && (btw s.target 0 ((l.length : Int) - 1) && decide (parOf l s.target = x.a)))
def specP (l : List DFunc) (s : DSpec) : Option DIns → Bool
  | none => false
  | some x => specX l x s
def specB (l : List DFunc) (s : DSpec) : Bool := specP l s (insO l s.fn s.pc)
theorem specB_of {l : List DFunc} {s : DSpec} {k j : Nat} {y : DFunc} {x : DIns} (hy : l[k]? = some y) (hx : y.code[j]? = some x) (h1 : s.fn = k) (h2 : s.pc = j) : specB l s = specX l x s := by
  unfold specB
  rw [h1, h2, insO_at hy hx]
  rfl
theorem specB_f {l : List DFunc} {s : DSpec} (h : btw s.fn 0 ((l.length : Int) - 1) = false) : specB l s = false := by
  unfold specB insO
  rw [h]
  rfl
theorem specB_p {l : List DFunc} {s : DSpec} {k : Nat} {y : DFunc} (hy : l[k]? = some y) (h1 : s.fn = k) (h : btw s.pc 0 ((y.code.length : Int) - 1) = false) : specB l s = false := by
  unfold specB insO
  rw [h1, Int.toNat_natCast, getD_some hy, h, Bool.and_false]
  rfl
theorem parOf_at {l : List DFunc} {k : Nat} {y : DFunc} (h : l[k]? = some y) : parOf l k = y.params := by unfold parOf; rw [Int.toNat_natCast, getD_some h]
set_option maxHeartbeats 8000000 in
set_option maxRecDepth 100000 in
theorem specI (A B : Option Addr) (c d : Nat) (t : List ByteArray) (l : List DFunc) (s : DSpec) (w : World) (h : HasMod A B t l w) {r : Bool} (hr : specB l s = r) :
    Calls Tryz.prog 295 #[.agg #[.slice A t.length c, .slice B l.length d], .agg #[.int .i64 s.fn, .int .i64 s.pc, .int .i64 s.kind, .int .i64 s.target]] w fun e w' => e = .returned (.bool r) ∧ Below w.heap.size w w' := by
  subst hr
  have hm := h.hm
  have hS := ((St.start w).made (.cells #[.slice A t.length c, .slice B l.length d] 36 (0, 0))).madeAt (.cells #[.int .i64 s.fn, .int .i64 s.pc, .int .i64 s.kind, .int .i64 s.target] 110 (0, 0)) (w.heap.size + 1) (by simp)
  obtain ⟨o, ho⟩ : ∃ o, insO l s.fn s.pc = o := ⟨_, rfl⟩
  have C := insAtI A B c d t l s.fn s.pc _ (h.below hS.bel) ho
  have e : specB l s = specP l s o := by unfold specB; rw [ho]
  rw [e]
  clear e ho
  obtain ⟨f, pc, kind, target⟩ := s
  rcases o with _ | ⟨op, a⟩
  · have C' : Calls _ _ _ _ (fun e w' => e = .returned (.tuple #[.agg #[.int .i64 0, .int .i64 0], .bool false]) ∧ _) := C
    clear C
    go_enter Tryz.func295, Tryz.ntmps295
    go_wp2_with fail
    refine C'.mono ?_
    rintro e w1 ⟨rfl, hb⟩
    go_wp2
    go_ret
    exact ⟨rfl, bl9⟩
  have C' : Calls _ _ _ _ (fun e w' => e = .returned (.tuple #[.agg #[.int .i64 op, .int .i64 a], .bool true]) ∧ _) := C
  clear C
  show Calls _ _ _ _ (fun e w' => e = .returned (.bool (specX l ⟨op, a⟩ ⟨f, pc, kind, target⟩)) ∧ _)
  by_cases h1 : kind = 1
  · subst h1
    have E : specX l ⟨op, a⟩ ⟨f, pc, 1, target⟩ = (isAr op && decide (target = 0)) := by simp [specX]
    cases ha : isAr op
    · have E2 := Lib.hid (E.trans (show _ = false by rw [ha, Bool.false_and]))
      have HA := Lib.hid ha
      clear E ha
      go_enter Tryz.func295, Tryz.ntmps295
      go_wp2_with fail
      refine C'.mono ?_
      rintro e w1 ⟨rfl, hb⟩
      replace hS := hS.step hb
      have x0 := hS.cell 0 rfl
      have x1 := hS.cell 1 rfl
      have y0 := hS.blt 0 rfl
      have y1 := hS.blt 1 rfl
      clear hb C'
      replace hS := hS.made (.cells #[.int .i64 op, .int .i64 a] 305 (0, 0))
      go_wp2_with fail
      refine (isArith _ _ _ HA.out).mono ?_
      rintro e w2 ⟨rfl, hb2⟩
      go_wp2
      go_ret
      exact ⟨ret_bool E2.out.symm, (hS.step hb2).bel⟩
    · have E2 := Lib.hid (E.trans (show _ = decide (target = 0) by rw [ha, Bool.true_and]))
      have HA := Lib.hid ha
      clear E ha
      go_enter Tryz.func295, Tryz.ntmps295
      go_wp2_with fail
      refine C'.mono ?_
      rintro e w1 ⟨rfl, hb⟩
      replace hS := hS.step hb
      have x0 := hS.cell 0 rfl
      have x1 := hS.cell 1 rfl
      have y0 := hS.blt 0 rfl
      have y1 := hS.blt 1 rfl
      clear hb C'
      replace hS := hS.made (.cells #[.int .i64 op, .int .i64 a] 305 (0, 0))
      go_wp2_with fail
      refine (isArith _ _ _ HA.out).mono ?_
      rintro e w2 ⟨rfl, hb2⟩
      replace hS := hS.step hb2
      clear x0 x1
      have x0 := hS.cell 1 rfl
      have x1 := hS.cell 2 rfl
      go_wp2
      go_ret
      exact ⟨ret_bool (by rw [E2.out, Bool.eq_iff_iff]; simp), hS.bel⟩
  have n1 : (kind == 1) = false := by simpa using h1
  by_cases h2 : kind = 2
  rotate_left
  · have n2 : (kind == 2) = false := by simpa using h2
    have E2 := Lib.hid (show specX l ⟨op, a⟩ ⟨f, pc, kind, target⟩ = false by simp [specX, h1, h2])
    clear h1 h2
    go_enter Tryz.func295, Tryz.ntmps295
    go_wp2_with fail
    refine C'.mono ?_
    rintro e w1 ⟨rfl, hb⟩
    replace hS := hS.step hb
    have x0 := hS.cell 0 rfl
    have x1 := hS.cell 1 rfl
    have y0 := hS.blt 0 rfl
    have y1 := hS.blt 1 rfl
    clear hb C'
    go_wp2
    replace hS := (hS.made (.cells #[.int .i64 op, .int .i64 a] 305 (0, 0))).drew
    clear x0 x1
    refine wp_region_held_drew (S := (fun w' => w'.cell? ⟨w.heap.size, 0, none⟩ = some (.slice A t.length c) ∧ w'.cell? ⟨w.heap.size, 1, none⟩ = some (.slice B l.length d) ∧ w'.cell? ⟨w.heap.size + 1, 0, none⟩ = some (.int .i64 f) ∧ w'.cell? ⟨w.heap.size + 1, 1, none⟩ = some (.int .i64 pc) ∧ w'.cell? ⟨w.heap.size + 1, 2, none⟩ = some (.int .i64 kind) ∧ w'.cell? ⟨w.heap.size + 1, 3, none⟩ = some (.int .i64 target) ∧ w'.cell? ⟨w1.heap.size, 0, none⟩ = some (.int .i64 op) ∧ w'.cell? ⟨w1.heap.size, 1, none⟩ = some (.int .i64 a))) (by kernel_rfl) (⟨hS.cell 2 rfl 0, hS.cell 2 rfl 1, hS.cell 1 rfl 0, hS.cell 1 rfl 1, hS.cell 1 rfl 2, hS.cell 1 rfl 3, hS.cell 0 rfl 0, hS.cell 0 rfl 1⟩) (fun hHeld => ?_)
    (iterate 4 (first | refine rQ1 ?_ | refine rQ2 ?_); try simp only [pP])
    refine regS (fun _ _ _ d h => by cases d <;> exact h) [4, 5, 6] _ _ _ rfl (by kernel_rfl) (by assumption) ?_
    simp only [skipL, List.getElem?_cons_zero, List.getElem?_cons_succ, Option.bind_some, pP]
    (iterate 2 (first | refine rQ1 ?_ | refine rQ2 ?_); try simp only [pP])
    refine regS (fun _ _ _ d h => by cases d <;> exact h) [9, 10, 11, 12, 13, 14] _ _ _ rfl (by kernel_rfl) (by assumption) ?_
    simp only [skipL, List.getElem?_cons_zero, List.getElem?_cons_succ, Option.bind_some, pP]
    (iterate 2 (first | refine rQ1 ?_ | refine rQ2 ?_); try simp only [pP])
    refine regS (fun _ _ _ d h => by cases d <;> exact h) [17, 18, 19, 20, 21, 22, 23, 24, 25, 26] _ _ _ rfl (by kernel_rfl) (by assumption) ?_
    simp only [skipL, List.getElem?_cons_zero, List.getElem?_cons_succ, Option.bind_some, pP]
    (iterate 2 (first | refine rQ1 ?_ | refine rQ2 ?_); try simp only [pP])
    refine wpAnyH_done (by kernel_rfl) ?_ _
    clear hHeld
    go_wp2
    go_ret
    exact ⟨ret_bool E2.out.symm, hS.bel⟩
  subst h2
  clear h1
  by_cases h23 : op = 23
  rotate_left
  · have n3 : (op == 23) = false := by simpa using h23
    have E2 := Lib.hid (show specX l ⟨op, a⟩ ⟨f, pc, 2, target⟩ = false by simp [specX, h23])
    clear h23
    go_enter Tryz.func295, Tryz.ntmps295
    go_wp2_with fail
    refine C'.mono ?_
    rintro e w1 ⟨rfl, hb⟩
    replace hS := hS.step hb
    have x0 := hS.cell 0 rfl
    have x1 := hS.cell 1 rfl
    have y0 := hS.blt 0 rfl
    have y1 := hS.blt 1 rfl
    clear hb C'
    go_wp2
    replace hS := (hS.made (.cells #[.int .i64 op, .int .i64 a] 305 (0, 0))).drew
    clear x0 x1
    refine wp_region_held_drew (S := (fun w' => w'.cell? ⟨w.heap.size, 0, none⟩ = some (.slice A t.length c) ∧ w'.cell? ⟨w.heap.size, 1, none⟩ = some (.slice B l.length d) ∧ w'.cell? ⟨w.heap.size + 1, 0, none⟩ = some (.int .i64 f) ∧ w'.cell? ⟨w.heap.size + 1, 1, none⟩ = some (.int .i64 pc) ∧ w'.cell? ⟨w.heap.size + 1, 2, none⟩ = some (.int .i64 2) ∧ w'.cell? ⟨w.heap.size + 1, 3, none⟩ = some (.int .i64 target) ∧ w'.cell? ⟨w1.heap.size, 0, none⟩ = some (.int .i64 op) ∧ w'.cell? ⟨w1.heap.size, 1, none⟩ = some (.int .i64 a))) (by kernel_rfl) (⟨hS.cell 2 rfl 0, hS.cell 2 rfl 1, hS.cell 1 rfl 0, hS.cell 1 rfl 1, hS.cell 1 rfl 2, hS.cell 1 rfl 3, hS.cell 0 rfl 0, hS.cell 0 rfl 1⟩) (fun hHeld => ?_)
    (iterate 9 (first | refine rQ1 ?_ | refine rQ2 ?_); try simp only [pP])
    refine regS (fun _ _ _ d h => by cases d <;> exact h) [9, 10, 11, 12, 13, 14] _ _ _ rfl (by kernel_rfl) (by assumption) ?_
    simp only [skipL, List.getElem?_cons_zero, List.getElem?_cons_succ, Option.bind_some, pP]
    (iterate 2 (first | refine rQ1 ?_ | refine rQ2 ?_); try simp only [pP])
    refine regS (fun _ _ _ d h => by cases d <;> exact h) [17, 18, 19, 20, 21, 22, 23, 24, 25, 26] _ _ _ rfl (by kernel_rfl) (by assumption) ?_
    simp only [skipL, List.getElem?_cons_zero, List.getElem?_cons_succ, Option.bind_some, pP]
    (iterate 2 (first | refine rQ1 ?_ | refine rQ2 ?_); try simp only [pP])
    refine wpAnyH_done (by kernel_rfl) ?_ _
    clear hHeld
    go_wp2
    go_ret
    exact ⟨ret_bool E2.out.symm, hS.bel⟩
  subst h23
  have E : specX l ⟨23, a⟩ ⟨f, pc, 2, target⟩ = (btw target 0 ((l.length : Int) - 1) && decide (parOf l target = a)) := by simp [specX]
  cases hT : btw target 0 ((l.length : Int) - 1)
  · have E2 := Lib.hid (E.trans (show _ = false by rw [hT, Bool.false_and]))
    have HT := Lib.hid hT
    clear E hT
    go_enter Tryz.func295, Tryz.ntmps295
    go_wp2_with fail
    refine C'.mono ?_
    rintro e w1 ⟨rfl, hb⟩
    replace hS := hS.step hb
    have x0 := hS.cell 0 rfl
    have x1 := hS.cell 1 rfl
    have y0 := hS.blt 0 rfl
    have y1 := hS.blt 1 rfl
    clear hb C'
    go_wp2
    replace hS := (hS.made (.cells #[.int .i64 23, .int .i64 a] 305 (0, 0))).drew
    clear x0 x1
    refine wp_region_held_drew (S := (fun w' => w'.cell? ⟨w.heap.size, 0, none⟩ = some (.slice A t.length c) ∧ w'.cell? ⟨w.heap.size, 1, none⟩ = some (.slice B l.length d) ∧ w'.cell? ⟨w.heap.size + 1, 0, none⟩ = some (.int .i64 f) ∧ w'.cell? ⟨w.heap.size + 1, 1, none⟩ = some (.int .i64 pc) ∧ w'.cell? ⟨w.heap.size + 1, 2, none⟩ = some (.int .i64 2) ∧ w'.cell? ⟨w.heap.size + 1, 3, none⟩ = some (.int .i64 target) ∧ w'.cell? ⟨w1.heap.size, 0, none⟩ = some (.int .i64 23) ∧ w'.cell? ⟨w1.heap.size, 1, none⟩ = some (.int .i64 a))) (by kernel_rfl) (⟨hS.cell 2 rfl 0, hS.cell 2 rfl 1, hS.cell 1 rfl 0, hS.cell 1 rfl 1, hS.cell 1 rfl 2, hS.cell 1 rfl 3, hS.cell 0 rfl 0, hS.cell 0 rfl 1⟩) (fun hHeld => ?_)
    (iterate 14 (first | refine rQ1 ?_ | refine rQ2 ?_); try simp only [pP])
    refine regC 14 rfl (by kernel_rfl) (by rfl) (fun Kq hKq => ?_)
    go_simp
    (with_reducible refine (isPlace _ HT.out (by omega) (by omega)).mono ?_)
    rintro e w3 ⟨rfl, rfl⟩
    try go_wp2_with fail
    refine hKq.out _ _ (⟨hS.cell 2 rfl 0, hS.cell 2 rfl 1, hS.cell 1 rfl 0, hS.cell 1 rfl 1, hS.cell 1 rfl 2, hS.cell 1 rfl 3, hS.cell 0 rfl 0, hS.cell 0 rfl 1⟩) (fun hHeld => ?_)
    clear hKq Kq
    (try simp only [pP])
    (iterate 2 (first | refine rQ1 ?_ | refine rQ2 ?_); try simp only [pP])
    refine regS (fun _ _ _ d h => by cases d <;> exact h) [17, 18, 19, 20, 21, 22, 23, 24, 25, 26] _ _ _ rfl (by kernel_rfl) (by assumption) ?_
    simp only [skipL, List.getElem?_cons_zero, List.getElem?_cons_succ, Option.bind_some, pP]
    (iterate 2 (first | refine rQ1 ?_ | refine rQ2 ?_); try simp only [pP])
    refine wpAnyH_done (by kernel_rfl) ?_ _
    clear hHeld
    go_wp2
    go_ret
    exact ⟨ret_bool E2.out.symm, hS.bel⟩
  have hT2 := btw_true.1 hT
  obtain ⟨target, rfl⟩ : ∃ g : Nat, target = g := ⟨target.toNat, by omega⟩
  obtain ⟨y, hy⟩ := get_exU l target (by omega)
  have E2 := Lib.hid (E.trans (show _ = decide (y.params = a) by rw [hT, parOf_at hy, Bool.true_and]))
  have HT := Lib.hid hT
  obtain ⟨adf, Ac, cc, rfl, q0, q1, q2, _, _⟩ := kFunc_at h.hr target y hy
  have f0 : (0 : Int) ≤ (target : Int) := by omega
  have f1 : (target : Int) < l.length := by omega
  clear hT E hy hT2
  go_enter Tryz.func295, Tryz.ntmps295
  go_wp2_with fail
  refine C'.mono ?_
  rintro e w1 ⟨rfl, hb⟩
  replace hS := hS.step hb
  have x0 := hS.cell 0 rfl
  have x1 := hS.cell 1 rfl
  have y0 := hS.blt 0 rfl
  have y1 := hS.blt 1 rfl
  clear hb C'
  go_wp2
  replace hS := (hS.made (.cells #[.int .i64 23, .int .i64 a] 305 (0, 0))).drew
  clear x0 x1
  refine wp_region_held_drew (S := (fun w' => w'.cell? ⟨w.heap.size, 0, none⟩ = some (.slice A t.length c) ∧ w'.cell? ⟨w.heap.size, 1, none⟩ = some (.slice (some adf) l.length d) ∧ w'.cell? ⟨w.heap.size + 1, 0, none⟩ = some (.int .i64 f) ∧ w'.cell? ⟨w.heap.size + 1, 1, none⟩ = some (.int .i64 pc) ∧ w'.cell? ⟨w.heap.size + 1, 2, none⟩ = some (.int .i64 2) ∧ w'.cell? ⟨w.heap.size + 1, 3, none⟩ = some (.int .i64 target) ∧ w'.cell? ⟨w1.heap.size, 0, none⟩ = some (.int .i64 23) ∧ w'.cell? ⟨w1.heap.size, 1, none⟩ = some (.int .i64 a) ∧ w'.cell? (adf.add (target * 3)) = some (.int .i64 y.params))) (by kernel_rfl) (⟨hS.cell 2 rfl 0, hS.cell 2 rfl 1, hS.cell 1 rfl 0, hS.cell 1 rfl 1, hS.cell 1 rfl 2, hS.cell 1 rfl 3, hS.cell 0 rfl 0, hS.cell 0 rfl 1, kept hS.bel q0⟩) (fun hHeld => ?_)
  (iterate 14 (first | refine rQ1 ?_ | refine rQ2 ?_); try simp only [pP])
  refine regC 14 rfl (by kernel_rfl) (by rfl) (fun Kq hKq => ?_)
  go_simp
  (with_reducible refine (isPlace _ HT.out (by omega) (by omega)).mono ?_)
  rintro e w3 ⟨rfl, rfl⟩
  try go_wp2_with fail
  refine hKq.out _ _ (⟨hS.cell 2 rfl 0, hS.cell 2 rfl 1, hS.cell 1 rfl 0, hS.cell 1 rfl 1, hS.cell 1 rfl 2, hS.cell 1 rfl 3, hS.cell 0 rfl 0, hS.cell 0 rfl 1, kept hS.bel q0⟩) (fun hHeld => ?_)
  clear hKq Kq
  (try simp only [pP])
  (iterate 14 (first | refine rQ1 ?_ | refine rQ2 ?_); try simp only [pP])
  refine wpAnyH_done (by kernel_rfl) ?_ _
  clear hHeld
  go_wp2
  go_ret
  exact ⟨ret_bool (by rw [E2.out, Bool.eq_iff_iff]; simp), hS.bel⟩
def is07P (op : Int) : Bool := isAr op || decide (op = 23)
set_option maxHeartbeats 1000000 in
theorem l07IsP (op : Int) (w : World) {r : Bool} (h : is07P op = r) : Calls Tryz.prog 235 #[.int .i64 op] w fun e w' => e = .returned (.bool r) ∧ w = w' := by
  by_cases hc : op = 11 ∨ op = 12 ∨ op = 13 ∨ op = 14 ∨ op = 23
  · rcases hc with rfl | rfl | rfl | rfl | rfl
    all_goals
      subst h
      go_enter Tryz.func235, Tryz.ntmps235
      go_wp2
      go_ret
      exact ⟨by simp [is07P, isAr, btw], rfl⟩
  · have m1 : (op == 11) = false := by simp; omega
    have m2 : (op == 12) = false := by simp; omega
    have m3 : (op == 13) = false := by simp; omega
    have m4 : (op == 14) = false := by simp; omega
    have m5 : (op == 23) = false := by simp; omega
    have hr : r = false := by
      rw [← h]
      unfold is07P isAr
      rw [btw_false.2 (by omega), decide_eq_false (by omega)]
      rfl
    subst hr
    clear h hc
    go_enter Tryz.func235, Tryz.ntmps235
    go_wp2
    go_ret
    exact ⟨rfl, rfl⟩
set_option maxHeartbeats 8000000 in
set_option maxRecDepth 100000 in
theorem spec9 (A B : Option Addr) (c d : Nat) (t : List ByteArray) (l : List DFunc) (s : DSpec) (w : World) (h : HasMod A B t l w) {r : Bool} (hr : specB l s = r) :
    Calls Tryz.prog 283 #[.agg #[.slice A t.length c, .slice B l.length d], .agg #[.int .i64 s.fn, .int .i64 s.pc, .int .i64 s.kind, .int .i64 s.target]] w fun e w' => e = .returned (.bool r) ∧ Below w.heap.size w w' := by
  subst hr
  have hm := h.hm
  obtain ⟨f, pc, kind, target⟩ := s
  have hB := ((St.start w).made (.cells #[.slice A t.length c, .slice B l.length d] 36 (0, 0))).madeAt (.cells #[.int .i64 f, .int .i64 pc, .int .i64 kind, .int .i64 target] 110 (0, 0)) (w.heap.size + 1) (by simp)
  have hS := hB.drew
  have i1 : IntKind.i64.wrap ((l.length : Int) - 1) = (l.length : Int) - 1 := IntWalk.i64_in _ (by omega)
  cases hF : btw f 0 ((l.length : Int) - 1)
  · have HE := Lib.hid (specB_f (l := l) (s := ⟨f, pc, kind, target⟩) hF)
    have HF := Lib.hid hF
    clear hF
    go_enter Tryz.func283, Tryz.ntmps283
    go_wp2
    refine wp_region_held_drew (S := (fun w' => w'.cell? ⟨w.heap.size, 0, none⟩ = some (.slice A t.length c) ∧ w'.cell? ⟨w.heap.size, 1, none⟩ = some (.slice B l.length d) ∧ w'.cell? ⟨w.heap.size + 1, 0, none⟩ = some (.int .i64 f) ∧ w'.cell? ⟨w.heap.size + 1, 1, none⟩ = some (.int .i64 pc) ∧ w'.cell? ⟨w.heap.size + 1, 2, none⟩ = some (.int .i64 kind) ∧ w'.cell? ⟨w.heap.size + 1, 3, none⟩ = some (.int .i64 target))) (by kernel_rfl) (⟨hS.cell 1 rfl 0, hS.cell 1 rfl 1, hS.cell 0 rfl 0, hS.cell 0 rfl 1, hS.cell 0 rfl 2, hS.cell 0 rfl 3⟩) (fun hHeld => ?_)
    (iterate 6 (first | refine rQ1 ?_ | refine rQ2 ?_); try simp only [pP])
    refine regC 6 rfl (by kernel_rfl) (by rfl) (fun Kq hKq => ?_)
    go_simp
    (with_reducible refine (between _ HF.out).mono ?_)
    rintro e w3 ⟨rfl, rfl⟩
    try go_wp2_with fail
    refine hKq.out _ _ (⟨hS.cell 1 rfl 0, hS.cell 1 rfl 1, hS.cell 0 rfl 0, hS.cell 0 rfl 1, hS.cell 0 rfl 2, hS.cell 0 rfl 3⟩) (fun hHeld => ?_)
    clear hKq Kq
    (try simp only [pP])
    (iterate 2 (first | refine rQ1 ?_ | refine rQ2 ?_); try simp only [pP])
    refine regS (fun _ _ _ d h => by cases d <;> exact h) [9, 10, 11, 12, 13, 14, 15, 16, 17, 18, 19, 20, 21] _ _ _ rfl (by kernel_rfl) (by assumption) ?_
    simp only [skipL, List.getElem?_cons_zero, List.getElem?_cons_succ, Option.bind_some, pP]
    (first | refine rQ1 ?_ | refine rQ2 ?_); (try simp only [pP])
    refine wpAnyH_done (by kernel_rfl) ?_ _
    clear hHeld
    go_wp2
    go_ret
    exact ⟨ret_bool HE.out.symm, hS.bel⟩
  have hF2 := btw_true.1 hF
  obtain ⟨f, rfl⟩ : ∃ g : Nat, f = g := ⟨f.toNat, by omega⟩
  obtain ⟨y, hy⟩ := get_exU l f (by omega)
  have hyc := (h.hv y (List.mem_of_getElem? hy)).1
  obtain ⟨adf, Ac, cc, rfl, t0, t1, t2, _, hrc⟩ := kFunc_at h.hr f y hy
  have hf0 : (0 : Int) ≤ (f : Int) := by omega
  have hf1 : (f : Int) < l.length := by omega
  have HF := Lib.hid hF
  have i2 : IntKind.i64.wrap ((y.code.length : Int) - 1) = (y.code.length : Int) - 1 := IntWalk.i64_in _ (by omega)
  cases hP : btw pc 0 ((y.code.length : Int) - 1)
  · have HE := Lib.hid (specB_p (s := ⟨f, pc, kind, target⟩) hy rfl hP)
    have HP := Lib.hid hP
    clear hF hP hy hF2
    go_enter Tryz.func283, Tryz.ntmps283
    go_wp2
    refine wp_region_held_drew (S := (fun w' => w'.cell? ⟨w.heap.size, 0, none⟩ = some (.slice A t.length c) ∧ w'.cell? ⟨w.heap.size, 1, none⟩ = some (.slice (some adf) l.length d) ∧ w'.cell? ⟨w.heap.size + 1, 0, none⟩ = some (.int .i64 f) ∧ w'.cell? ⟨w.heap.size + 1, 1, none⟩ = some (.int .i64 pc) ∧ w'.cell? ⟨w.heap.size + 1, 2, none⟩ = some (.int .i64 kind) ∧ w'.cell? ⟨w.heap.size + 1, 3, none⟩ = some (.int .i64 target) ∧ w'.cell? ⟨(adf.add (f * 3)).block, (adf.add (f * 3)).off + 2, none⟩ = some (.slice Ac y.code.length cc))) (by kernel_rfl) (⟨hS.cell 1 rfl 0, hS.cell 1 rfl 1, hS.cell 0 rfl 0, hS.cell 0 rfl 1, hS.cell 0 rfl 2, hS.cell 0 rfl 3, kept hS.bel t2⟩) (fun hHeld => ?_)
    (iterate 6 (first | refine rQ1 ?_ | refine rQ2 ?_); try simp only [pP])
    refine regC 6 rfl (by kernel_rfl) (by rfl) (fun Kq hKq => ?_)
    go_simp
    (with_reducible refine (between _ HF.out).mono ?_)
    rintro e w3 ⟨rfl, rfl⟩
    try go_wp2_with fail
    refine hKq.out _ _ (⟨hS.cell 1 rfl 0, hS.cell 1 rfl 1, hS.cell 0 rfl 0, hS.cell 0 rfl 1, hS.cell 0 rfl 2, hS.cell 0 rfl 3, kept hS.bel t2⟩) (fun hHeld => ?_)
    clear hKq Kq
    (try simp only [pP])
    (iterate 13 (first | refine rQ1 ?_ | refine rQ2 ?_); try simp only [pP])
    refine regC 20 rfl (by kernel_rfl) (by rfl) (fun Kq hKq => ?_)
    go_simp
    (with_reducible refine (between _ HP.out).mono ?_)
    rintro e w4 ⟨rfl, rfl⟩
    try go_wp2_with fail
    refine hKq.out _ _ (⟨hS.cell 1 rfl 0, hS.cell 1 rfl 1, hS.cell 0 rfl 0, hS.cell 0 rfl 1, hS.cell 0 rfl 2, hS.cell 0 rfl 3, kept hS.bel t2⟩) (fun hHeld => ?_)
    clear hKq Kq
    (try simp only [pP])
    (iterate 2 (first | refine rQ1 ?_ | refine rQ2 ?_); try simp only [pP])
    refine wpAnyH_done (by kernel_rfl) ?_ _
    clear hHeld
    go_wp2
    go_ret
    exact ⟨ret_bool HE.out.symm, hS.bel⟩
  have hP2 := btw_true.1 hP
  obtain ⟨pc, rfl⟩ : ∃ g : Nat, pc = g := ⟨pc.toNat, by omega⟩
  obtain ⟨x, hxx⟩ := get_exU y.code pc (by omega)
  have hsb := specB_of (s := ⟨f, pc, kind, target⟩) hy hxx rfl rfl
  obtain ⟨adc, rfl, v0, v1⟩ := kIns_at hrc pc x hxx
  have hp0 : (0 : Int) ≤ (pc : Int) := by omega
  have hp1 : (pc : Int) < y.code.length := by omega
  have HP := Lib.hid hP
  obtain ⟨op, a⟩ := x
  simp only at v0 v1
  rw [hsb]
  clear hF hP hy hxx hF2 hP2 hsb
  by_cases h1 : kind = 1
  · subst h1
    cases hI : is07P op
    · have HE := Lib.hid (show specX l ⟨op, a⟩ ⟨f, pc, 1, target⟩ = false by unfold is07P at hI; rw [Bool.or_eq_false_iff] at hI; simp [specX, hI.1])
      have HI := Lib.hid hI
      clear hI
      go_enter Tryz.func283, Tryz.ntmps283
      go_wp2
      refine wp_region_held_drew (S := (fun w' => w'.cell? ⟨w.heap.size, 0, none⟩ = some (.slice A t.length c) ∧ w'.cell? ⟨w.heap.size, 1, none⟩ = some (.slice (some adf) l.length d) ∧ w'.cell? ⟨w.heap.size + 1, 0, none⟩ = some (.int .i64 f) ∧ w'.cell? ⟨w.heap.size + 1, 1, none⟩ = some (.int .i64 pc) ∧ w'.cell? ⟨w.heap.size + 1, 2, none⟩ = some (.int .i64 1) ∧ w'.cell? ⟨w.heap.size + 1, 3, none⟩ = some (.int .i64 target) ∧ w'.cell? ⟨(adf.add (f * 3)).block, (adf.add (f * 3)).off + 2, none⟩ = some (.slice (some adc) y.code.length cc) ∧ w'.cell? (adc.add (pc * 2)) = some (.int .i64 op) ∧ w'.cell? ⟨(adc.add (pc * 2)).block, (adc.add (pc * 2)).off + 1, none⟩ = some (.int .i64 a))) (by kernel_rfl) (⟨hS.cell 1 rfl 0, hS.cell 1 rfl 1, hS.cell 0 rfl 0, hS.cell 0 rfl 1, hS.cell 0 rfl 2, hS.cell 0 rfl 3, kept hS.bel t2, kept hS.bel v0, kept hS.bel v1⟩) (fun hHeld => ?_)
      (iterate 6 (first | refine rQ1 ?_ | refine rQ2 ?_); try simp only [pP])
      refine regC 6 rfl (by kernel_rfl) (by rfl) (fun Kq hKq => ?_)
      go_simp
      (with_reducible refine (between _ HF.out).mono ?_)
      rintro e w3 ⟨rfl, rfl⟩
      try go_wp2_with fail
      refine hKq.out _ _ (⟨hS.cell 1 rfl 0, hS.cell 1 rfl 1, hS.cell 0 rfl 0, hS.cell 0 rfl 1, hS.cell 0 rfl 2, hS.cell 0 rfl 3, kept hS.bel t2, kept hS.bel v0, kept hS.bel v1⟩) (fun hHeld => ?_)
      clear hKq Kq
      (try simp only [pP])
      (iterate 13 (first | refine rQ1 ?_ | refine rQ2 ?_); try simp only [pP])
      refine regC 20 rfl (by kernel_rfl) (by rfl) (fun Kq hKq => ?_)
      go_simp
      (with_reducible refine (between _ HP.out).mono ?_)
      rintro e w4 ⟨rfl, rfl⟩
      try go_wp2_with fail
      refine hKq.out _ _ (⟨hS.cell 1 rfl 0, hS.cell 1 rfl 1, hS.cell 0 rfl 0, hS.cell 0 rfl 1, hS.cell 0 rfl 2, hS.cell 0 rfl 3, kept hS.bel t2, kept hS.bel v0, kept hS.bel v1⟩) (fun hHeld => ?_)
      clear hKq Kq
      (try simp only [pP])
      (iterate 2 (first | refine rQ1 ?_ | refine rQ2 ?_); try simp only [pP])
      refine wpAnyH_done (by kernel_rfl) ?_ _
      clear hHeld
      have x1 := hS.cell 1 rfl
      have x0 := hS.cell 0 rfl
      go_wp2
      clear x0 x1
      replace hS := hS.drew
      refine wp_region_held_drew (S := (fun w' => w'.cell? ⟨w.heap.size, 0, none⟩ = some (.slice A t.length c) ∧ w'.cell? ⟨w.heap.size, 1, none⟩ = some (.slice (some adf) l.length d) ∧ w'.cell? ⟨w.heap.size + 1, 0, none⟩ = some (.int .i64 f) ∧ w'.cell? ⟨w.heap.size + 1, 1, none⟩ = some (.int .i64 pc) ∧ w'.cell? ⟨w.heap.size + 1, 2, none⟩ = some (.int .i64 1) ∧ w'.cell? ⟨w.heap.size + 1, 3, none⟩ = some (.int .i64 target) ∧ w'.cell? ⟨(adf.add (f * 3)).block, (adf.add (f * 3)).off + 2, none⟩ = some (.slice (some adc) y.code.length cc) ∧ w'.cell? (adc.add (pc * 2)) = some (.int .i64 op) ∧ w'.cell? ⟨(adc.add (pc * 2)).block, (adc.add (pc * 2)).off + 1, none⟩ = some (.int .i64 a))) (by kernel_rfl) (⟨hS.cell 1 rfl 0, hS.cell 1 rfl 1, hS.cell 0 rfl 0, hS.cell 0 rfl 1, hS.cell 0 rfl 2, hS.cell 0 rfl 3, kept hS.bel t2, kept hS.bel v0, kept hS.bel v1⟩) (fun hHeld => ?_)
      (iterate 11 (first | refine rQ1 ?_ | refine rQ2 ?_); try simp only [pP])
      replace hS := hS.madeAt (.cells #[.int .i64 0, .int .i64 0] 305 (0, 0)) (w.heap.size + 2) (by simp)
      refine regC 11 rfl (by kernel_rfl) (by rfl) (fun Kq hKq => ?_)
      go_simp
      refine hKq.out _ _ (⟨hS.cell 2 rfl 0, hS.cell 2 rfl 1, hS.cell 1 rfl 0, hS.cell 1 rfl 1, hS.cell 1 rfl 2, hS.cell 1 rfl 3, kept hS.bel t2, kept hS.bel v0, kept hS.bel v1⟩) (fun hHeld => ?_)
      clear hKq Kq
      (try simp only [pP])
      replace hS := ((hB.madeAt (.cells #[.int .i64 op, .int .i64 a] 305 (0, 0)) (w.heap.size + 2) (by simp)).drew).drew
      refine regC 12 rfl (by kernel_rfl) (by rfl) (fun Kq hKq => ?_)
      go_simp
      refine hKq.out _ _ (⟨hS.cell 2 rfl 0, hS.cell 2 rfl 1, hS.cell 1 rfl 0, hS.cell 1 rfl 1, hS.cell 1 rfl 2, hS.cell 1 rfl 3, kept hS.bel t2, kept hS.bel v0, kept hS.bel v1⟩) (fun hHeld => ?_)
      clear hKq Kq
      (try simp only [pP])
      refine wpAnyH_done (by kernel_rfl) ?_ _
      clear hHeld
      have x0 := hS.cell 0 rfl
      have x1 := hS.cell 1 rfl
      have x2 := hS.cell 2 rfl
      go_wp2_with fail
      refine (l07IsP _ _ HI.out).mono ?_
      rintro e w5 ⟨rfl, rfl⟩
      go_wp2
      go_ret
      exact ⟨ret_bool HE.out.symm, hS.bel⟩
    by_cases h23 : op = 23
    · subst h23
      have HE := Lib.hid (show specX l ⟨23, a⟩ ⟨f, pc, 1, target⟩ = false by simp [specX, isAr, btw])
      have HI := Lib.hid hI
      clear hI
      go_enter Tryz.func283, Tryz.ntmps283
      go_wp2
      refine wp_region_held_drew (S := (fun w' => w'.cell? ⟨w.heap.size, 0, none⟩ = some (.slice A t.length c) ∧ w'.cell? ⟨w.heap.size, 1, none⟩ = some (.slice (some adf) l.length d) ∧ w'.cell? ⟨w.heap.size + 1, 0, none⟩ = some (.int .i64 f) ∧ w'.cell? ⟨w.heap.size + 1, 1, none⟩ = some (.int .i64 pc) ∧ w'.cell? ⟨w.heap.size + 1, 2, none⟩ = some (.int .i64 1) ∧ w'.cell? ⟨w.heap.size + 1, 3, none⟩ = some (.int .i64 target) ∧ w'.cell? ⟨(adf.add (f * 3)).block, (adf.add (f * 3)).off + 2, none⟩ = some (.slice (some adc) y.code.length cc) ∧ w'.cell? (adc.add (pc * 2)) = some (.int .i64 23) ∧ w'.cell? ⟨(adc.add (pc * 2)).block, (adc.add (pc * 2)).off + 1, none⟩ = some (.int .i64 a))) (by kernel_rfl) (⟨hS.cell 1 rfl 0, hS.cell 1 rfl 1, hS.cell 0 rfl 0, hS.cell 0 rfl 1, hS.cell 0 rfl 2, hS.cell 0 rfl 3, kept hS.bel t2, kept hS.bel v0, kept hS.bel v1⟩) (fun hHeld => ?_)
      (iterate 6 (first | refine rQ1 ?_ | refine rQ2 ?_); try simp only [pP])
      refine regC 6 rfl (by kernel_rfl) (by rfl) (fun Kq hKq => ?_)
      go_simp
      (with_reducible refine (between _ HF.out).mono ?_)
      rintro e w3 ⟨rfl, rfl⟩
      try go_wp2_with fail
      refine hKq.out _ _ (⟨hS.cell 1 rfl 0, hS.cell 1 rfl 1, hS.cell 0 rfl 0, hS.cell 0 rfl 1, hS.cell 0 rfl 2, hS.cell 0 rfl 3, kept hS.bel t2, kept hS.bel v0, kept hS.bel v1⟩) (fun hHeld => ?_)
      clear hKq Kq
      (try simp only [pP])
      (iterate 13 (first | refine rQ1 ?_ | refine rQ2 ?_); try simp only [pP])
      refine regC 20 rfl (by kernel_rfl) (by rfl) (fun Kq hKq => ?_)
      go_simp
      (with_reducible refine (between _ HP.out).mono ?_)
      rintro e w4 ⟨rfl, rfl⟩
      try go_wp2_with fail
      refine hKq.out _ _ (⟨hS.cell 1 rfl 0, hS.cell 1 rfl 1, hS.cell 0 rfl 0, hS.cell 0 rfl 1, hS.cell 0 rfl 2, hS.cell 0 rfl 3, kept hS.bel t2, kept hS.bel v0, kept hS.bel v1⟩) (fun hHeld => ?_)
      clear hKq Kq
      (try simp only [pP])
      (iterate 2 (first | refine rQ1 ?_ | refine rQ2 ?_); try simp only [pP])
      refine wpAnyH_done (by kernel_rfl) ?_ _
      clear hHeld
      have x1 := hS.cell 1 rfl
      have x0 := hS.cell 0 rfl
      go_wp2
      clear x0 x1
      replace hS := hS.drew
      refine wp_region_held_drew (S := (fun w' => w'.cell? ⟨w.heap.size, 0, none⟩ = some (.slice A t.length c) ∧ w'.cell? ⟨w.heap.size, 1, none⟩ = some (.slice (some adf) l.length d) ∧ w'.cell? ⟨w.heap.size + 1, 0, none⟩ = some (.int .i64 f) ∧ w'.cell? ⟨w.heap.size + 1, 1, none⟩ = some (.int .i64 pc) ∧ w'.cell? ⟨w.heap.size + 1, 2, none⟩ = some (.int .i64 1) ∧ w'.cell? ⟨w.heap.size + 1, 3, none⟩ = some (.int .i64 target) ∧ w'.cell? ⟨(adf.add (f * 3)).block, (adf.add (f * 3)).off + 2, none⟩ = some (.slice (some adc) y.code.length cc) ∧ w'.cell? (adc.add (pc * 2)) = some (.int .i64 23) ∧ w'.cell? ⟨(adc.add (pc * 2)).block, (adc.add (pc * 2)).off + 1, none⟩ = some (.int .i64 a))) (by kernel_rfl) (⟨hS.cell 1 rfl 0, hS.cell 1 rfl 1, hS.cell 0 rfl 0, hS.cell 0 rfl 1, hS.cell 0 rfl 2, hS.cell 0 rfl 3, kept hS.bel t2, kept hS.bel v0, kept hS.bel v1⟩) (fun hHeld => ?_)
      (iterate 11 (first | refine rQ1 ?_ | refine rQ2 ?_); try simp only [pP])
      replace hS := hS.madeAt (.cells #[.int .i64 0, .int .i64 0] 305 (0, 0)) (w.heap.size + 2) (by simp)
      refine regC 11 rfl (by kernel_rfl) (by rfl) (fun Kq hKq => ?_)
      go_simp
      refine hKq.out _ _ (⟨hS.cell 2 rfl 0, hS.cell 2 rfl 1, hS.cell 1 rfl 0, hS.cell 1 rfl 1, hS.cell 1 rfl 2, hS.cell 1 rfl 3, kept hS.bel t2, kept hS.bel v0, kept hS.bel v1⟩) (fun hHeld => ?_)
      clear hKq Kq
      (try simp only [pP])
      replace hS := ((hB.madeAt (.cells #[.int .i64 23, .int .i64 a] 305 (0, 0)) (w.heap.size + 2) (by simp)).drew).drew
      refine regC 12 rfl (by kernel_rfl) (by rfl) (fun Kq hKq => ?_)
      go_simp
      refine hKq.out _ _ (⟨hS.cell 2 rfl 0, hS.cell 2 rfl 1, hS.cell 1 rfl 0, hS.cell 1 rfl 1, hS.cell 1 rfl 2, hS.cell 1 rfl 3, kept hS.bel t2, kept hS.bel v0, kept hS.bel v1⟩) (fun hHeld => ?_)
      clear hKq Kq
      (try simp only [pP])
      refine wpAnyH_done (by kernel_rfl) ?_ _
      clear hHeld
      have x0 := hS.cell 0 rfl
      have x1 := hS.cell 1 rfl
      have x2 := hS.cell 2 rfl
      go_wp2_with fail
      refine (l07IsP _ _ HI.out).mono ?_
      rintro e w5 ⟨rfl, rfl⟩
      go_wp2
      go_ret
      exact ⟨ret_bool HE.out.symm, hS.bel⟩
    have n3 : (op != 23) = true := by simpa using h23
    have hA : isAr op = true := by simpa [is07P, h23] using hI
    have HE := Lib.hid (show specX l ⟨op, a⟩ ⟨f, pc, 1, target⟩ = decide (target = 0) by simp [specX, hA])
    have HI := Lib.hid hI
    clear hI hA h23
    go_enter Tryz.func283, Tryz.ntmps283
    go_wp2
    refine wp_region_held_drew (S := (fun w' => w'.cell? ⟨w.heap.size, 0, none⟩ = some (.slice A t.length c) ∧ w'.cell? ⟨w.heap.size, 1, none⟩ = some (.slice (some adf) l.length d) ∧ w'.cell? ⟨w.heap.size + 1, 0, none⟩ = some (.int .i64 f) ∧ w'.cell? ⟨w.heap.size + 1, 1, none⟩ = some (.int .i64 pc) ∧ w'.cell? ⟨w.heap.size + 1, 2, none⟩ = some (.int .i64 1) ∧ w'.cell? ⟨w.heap.size + 1, 3, none⟩ = some (.int .i64 target) ∧ w'.cell? ⟨(adf.add (f * 3)).block, (adf.add (f * 3)).off + 2, none⟩ = some (.slice (some adc) y.code.length cc) ∧ w'.cell? (adc.add (pc * 2)) = some (.int .i64 op) ∧ w'.cell? ⟨(adc.add (pc * 2)).block, (adc.add (pc * 2)).off + 1, none⟩ = some (.int .i64 a))) (by kernel_rfl) (⟨hS.cell 1 rfl 0, hS.cell 1 rfl 1, hS.cell 0 rfl 0, hS.cell 0 rfl 1, hS.cell 0 rfl 2, hS.cell 0 rfl 3, kept hS.bel t2, kept hS.bel v0, kept hS.bel v1⟩) (fun hHeld => ?_)
    (iterate 6 (first | refine rQ1 ?_ | refine rQ2 ?_); try simp only [pP])
    refine regC 6 rfl (by kernel_rfl) (by rfl) (fun Kq hKq => ?_)
    go_simp
    (with_reducible refine (between _ HF.out).mono ?_)
    rintro e w3 ⟨rfl, rfl⟩
    try go_wp2_with fail
    refine hKq.out _ _ (⟨hS.cell 1 rfl 0, hS.cell 1 rfl 1, hS.cell 0 rfl 0, hS.cell 0 rfl 1, hS.cell 0 rfl 2, hS.cell 0 rfl 3, kept hS.bel t2, kept hS.bel v0, kept hS.bel v1⟩) (fun hHeld => ?_)
    clear hKq Kq
    (try simp only [pP])
    (iterate 13 (first | refine rQ1 ?_ | refine rQ2 ?_); try simp only [pP])
    refine regC 20 rfl (by kernel_rfl) (by rfl) (fun Kq hKq => ?_)
    go_simp
    (with_reducible refine (between _ HP.out).mono ?_)
    rintro e w4 ⟨rfl, rfl⟩
    try go_wp2_with fail
    refine hKq.out _ _ (⟨hS.cell 1 rfl 0, hS.cell 1 rfl 1, hS.cell 0 rfl 0, hS.cell 0 rfl 1, hS.cell 0 rfl 2, hS.cell 0 rfl 3, kept hS.bel t2, kept hS.bel v0, kept hS.bel v1⟩) (fun hHeld => ?_)
    clear hKq Kq
    (try simp only [pP])
    (iterate 2 (first | refine rQ1 ?_ | refine rQ2 ?_); try simp only [pP])
    refine wpAnyH_done (by kernel_rfl) ?_ _
    clear hHeld
    have x1 := hS.cell 1 rfl
    have x0 := hS.cell 0 rfl
    go_wp2
    clear x0 x1
    replace hS := hS.drew
    refine wp_region_held_drew (S := (fun w' => w'.cell? ⟨w.heap.size, 0, none⟩ = some (.slice A t.length c) ∧ w'.cell? ⟨w.heap.size, 1, none⟩ = some (.slice (some adf) l.length d) ∧ w'.cell? ⟨w.heap.size + 1, 0, none⟩ = some (.int .i64 f) ∧ w'.cell? ⟨w.heap.size + 1, 1, none⟩ = some (.int .i64 pc) ∧ w'.cell? ⟨w.heap.size + 1, 2, none⟩ = some (.int .i64 1) ∧ w'.cell? ⟨w.heap.size + 1, 3, none⟩ = some (.int .i64 target) ∧ w'.cell? ⟨(adf.add (f * 3)).block, (adf.add (f * 3)).off + 2, none⟩ = some (.slice (some adc) y.code.length cc) ∧ w'.cell? (adc.add (pc * 2)) = some (.int .i64 op) ∧ w'.cell? ⟨(adc.add (pc * 2)).block, (adc.add (pc * 2)).off + 1, none⟩ = some (.int .i64 a))) (by kernel_rfl) (⟨hS.cell 1 rfl 0, hS.cell 1 rfl 1, hS.cell 0 rfl 0, hS.cell 0 rfl 1, hS.cell 0 rfl 2, hS.cell 0 rfl 3, kept hS.bel t2, kept hS.bel v0, kept hS.bel v1⟩) (fun hHeld => ?_)
    (iterate 11 (first | refine rQ1 ?_ | refine rQ2 ?_); try simp only [pP])
    replace hS := hS.madeAt (.cells #[.int .i64 0, .int .i64 0] 305 (0, 0)) (w.heap.size + 2) (by simp)
    refine regC 11 rfl (by kernel_rfl) (by rfl) (fun Kq hKq => ?_)
    go_simp
    refine hKq.out _ _ (⟨hS.cell 2 rfl 0, hS.cell 2 rfl 1, hS.cell 1 rfl 0, hS.cell 1 rfl 1, hS.cell 1 rfl 2, hS.cell 1 rfl 3, kept hS.bel t2, kept hS.bel v0, kept hS.bel v1⟩) (fun hHeld => ?_)
    clear hKq Kq
    (try simp only [pP])
    replace hS := ((hB.madeAt (.cells #[.int .i64 op, .int .i64 a] 305 (0, 0)) (w.heap.size + 2) (by simp)).drew).drew
    refine regC 12 rfl (by kernel_rfl) (by rfl) (fun Kq hKq => ?_)
    go_simp
    refine hKq.out _ _ (⟨hS.cell 2 rfl 0, hS.cell 2 rfl 1, hS.cell 1 rfl 0, hS.cell 1 rfl 1, hS.cell 1 rfl 2, hS.cell 1 rfl 3, kept hS.bel t2, kept hS.bel v0, kept hS.bel v1⟩) (fun hHeld => ?_)
    clear hKq Kq
    (try simp only [pP])
    refine wpAnyH_done (by kernel_rfl) ?_ _
    clear hHeld
    have x0 := hS.cell 0 rfl
    have x1 := hS.cell 1 rfl
    have x2 := hS.cell 2 rfl
    go_wp2_with fail
    refine (l07IsP _ _ HI.out).mono ?_
    rintro e w5 ⟨rfl, rfl⟩
    go_wp2
    go_ret
    exact ⟨ret_bool (by rw [HE.out, Bool.eq_iff_iff]; simp), hS.bel⟩
  have n1 : (kind == 1) = false := by simpa using h1
  by_cases h2 : kind = 2
  rotate_left
  · have n2 : (kind == 2) = false := by simpa using h2
    have HE := Lib.hid (show specX l ⟨op, a⟩ ⟨f, pc, kind, target⟩ = false by simp [specX, h1, h2])
    clear h1 h2
    go_enter Tryz.func283, Tryz.ntmps283
    go_wp2
    refine wp_region_held_drew (S := (fun w' => w'.cell? ⟨w.heap.size, 0, none⟩ = some (.slice A t.length c) ∧ w'.cell? ⟨w.heap.size, 1, none⟩ = some (.slice (some adf) l.length d) ∧ w'.cell? ⟨w.heap.size + 1, 0, none⟩ = some (.int .i64 f) ∧ w'.cell? ⟨w.heap.size + 1, 1, none⟩ = some (.int .i64 pc) ∧ w'.cell? ⟨w.heap.size + 1, 2, none⟩ = some (.int .i64 kind) ∧ w'.cell? ⟨w.heap.size + 1, 3, none⟩ = some (.int .i64 target) ∧ w'.cell? ⟨(adf.add (f * 3)).block, (adf.add (f * 3)).off + 2, none⟩ = some (.slice (some adc) y.code.length cc) ∧ w'.cell? (adc.add (pc * 2)) = some (.int .i64 op) ∧ w'.cell? ⟨(adc.add (pc * 2)).block, (adc.add (pc * 2)).off + 1, none⟩ = some (.int .i64 a))) (by kernel_rfl) (⟨hS.cell 1 rfl 0, hS.cell 1 rfl 1, hS.cell 0 rfl 0, hS.cell 0 rfl 1, hS.cell 0 rfl 2, hS.cell 0 rfl 3, kept hS.bel t2, kept hS.bel v0, kept hS.bel v1⟩) (fun hHeld => ?_)
    (iterate 6 (first | refine rQ1 ?_ | refine rQ2 ?_); try simp only [pP])
    refine regC 6 rfl (by kernel_rfl) (by rfl) (fun Kq hKq => ?_)
    go_simp
    (with_reducible refine (between _ HF.out).mono ?_)
    rintro e w3 ⟨rfl, rfl⟩
    try go_wp2_with fail
    refine hKq.out _ _ (⟨hS.cell 1 rfl 0, hS.cell 1 rfl 1, hS.cell 0 rfl 0, hS.cell 0 rfl 1, hS.cell 0 rfl 2, hS.cell 0 rfl 3, kept hS.bel t2, kept hS.bel v0, kept hS.bel v1⟩) (fun hHeld => ?_)
    clear hKq Kq
    (try simp only [pP])
    (iterate 13 (first | refine rQ1 ?_ | refine rQ2 ?_); try simp only [pP])
    refine regC 20 rfl (by kernel_rfl) (by rfl) (fun Kq hKq => ?_)
    go_simp
    (with_reducible refine (between _ HP.out).mono ?_)
    rintro e w4 ⟨rfl, rfl⟩
    try go_wp2_with fail
    refine hKq.out _ _ (⟨hS.cell 1 rfl 0, hS.cell 1 rfl 1, hS.cell 0 rfl 0, hS.cell 0 rfl 1, hS.cell 0 rfl 2, hS.cell 0 rfl 3, kept hS.bel t2, kept hS.bel v0, kept hS.bel v1⟩) (fun hHeld => ?_)
    clear hKq Kq
    (try simp only [pP])
    (iterate 2 (first | refine rQ1 ?_ | refine rQ2 ?_); try simp only [pP])
    refine wpAnyH_done (by kernel_rfl) ?_ _
    clear hHeld
    have x1 := hS.cell 1 rfl
    have x0 := hS.cell 0 rfl
    go_wp2
    clear x0 x1
    replace hS := hS.drew
    refine wp_region_held_drew (S := (fun w' => w'.cell? ⟨w.heap.size, 0, none⟩ = some (.slice A t.length c) ∧ w'.cell? ⟨w.heap.size, 1, none⟩ = some (.slice (some adf) l.length d) ∧ w'.cell? ⟨w.heap.size + 1, 0, none⟩ = some (.int .i64 f) ∧ w'.cell? ⟨w.heap.size + 1, 1, none⟩ = some (.int .i64 pc) ∧ w'.cell? ⟨w.heap.size + 1, 2, none⟩ = some (.int .i64 kind) ∧ w'.cell? ⟨w.heap.size + 1, 3, none⟩ = some (.int .i64 target) ∧ w'.cell? ⟨(adf.add (f * 3)).block, (adf.add (f * 3)).off + 2, none⟩ = some (.slice (some adc) y.code.length cc) ∧ w'.cell? (adc.add (pc * 2)) = some (.int .i64 op) ∧ w'.cell? ⟨(adc.add (pc * 2)).block, (adc.add (pc * 2)).off + 1, none⟩ = some (.int .i64 a))) (by kernel_rfl) (⟨hS.cell 1 rfl 0, hS.cell 1 rfl 1, hS.cell 0 rfl 0, hS.cell 0 rfl 1, hS.cell 0 rfl 2, hS.cell 0 rfl 3, kept hS.bel t2, kept hS.bel v0, kept hS.bel v1⟩) (fun hHeld => ?_)
    (iterate 11 (first | refine rQ1 ?_ | refine rQ2 ?_); try simp only [pP])
    replace hS := hS.madeAt (.cells #[.int .i64 0, .int .i64 0] 305 (0, 0)) (w.heap.size + 2) (by simp)
    refine regC 11 rfl (by kernel_rfl) (by rfl) (fun Kq hKq => ?_)
    go_simp
    refine hKq.out _ _ (⟨hS.cell 2 rfl 0, hS.cell 2 rfl 1, hS.cell 1 rfl 0, hS.cell 1 rfl 1, hS.cell 1 rfl 2, hS.cell 1 rfl 3, kept hS.bel t2, kept hS.bel v0, kept hS.bel v1⟩) (fun hHeld => ?_)
    clear hKq Kq
    (try simp only [pP])
    replace hS := ((hB.madeAt (.cells #[.int .i64 op, .int .i64 a] 305 (0, 0)) (w.heap.size + 2) (by simp)).drew).drew
    refine regC 12 rfl (by kernel_rfl) (by rfl) (fun Kq hKq => ?_)
    go_simp
    refine hKq.out _ _ (⟨hS.cell 2 rfl 0, hS.cell 2 rfl 1, hS.cell 1 rfl 0, hS.cell 1 rfl 1, hS.cell 1 rfl 2, hS.cell 1 rfl 3, kept hS.bel t2, kept hS.bel v0, kept hS.bel v1⟩) (fun hHeld => ?_)
    clear hKq Kq
    (try simp only [pP])
    refine wpAnyH_done (by kernel_rfl) ?_ _
    clear hHeld
    have x0 := hS.cell 0 rfl
    have x1 := hS.cell 1 rfl
    have x2 := hS.cell 2 rfl
    go_wp2
    go_ret
    exact ⟨ret_bool HE.out.symm, hS.bel⟩
  subst h2
  clear h1 n1
  by_cases h23 : op = 23
  rotate_left
  · have n3 : (op == 23) = false := by simpa using h23
    have HE := Lib.hid (show specX l ⟨op, a⟩ ⟨f, pc, 2, target⟩ = false by simp [specX, h23])
    clear h23
    go_enter Tryz.func283, Tryz.ntmps283
    go_wp2
    refine wp_region_held_drew (S := (fun w' => w'.cell? ⟨w.heap.size, 0, none⟩ = some (.slice A t.length c) ∧ w'.cell? ⟨w.heap.size, 1, none⟩ = some (.slice (some adf) l.length d) ∧ w'.cell? ⟨w.heap.size + 1, 0, none⟩ = some (.int .i64 f) ∧ w'.cell? ⟨w.heap.size + 1, 1, none⟩ = some (.int .i64 pc) ∧ w'.cell? ⟨w.heap.size + 1, 2, none⟩ = some (.int .i64 2) ∧ w'.cell? ⟨w.heap.size + 1, 3, none⟩ = some (.int .i64 target) ∧ w'.cell? ⟨(adf.add (f * 3)).block, (adf.add (f * 3)).off + 2, none⟩ = some (.slice (some adc) y.code.length cc) ∧ w'.cell? (adc.add (pc * 2)) = some (.int .i64 op) ∧ w'.cell? ⟨(adc.add (pc * 2)).block, (adc.add (pc * 2)).off + 1, none⟩ = some (.int .i64 a))) (by kernel_rfl) (⟨hS.cell 1 rfl 0, hS.cell 1 rfl 1, hS.cell 0 rfl 0, hS.cell 0 rfl 1, hS.cell 0 rfl 2, hS.cell 0 rfl 3, kept hS.bel t2, kept hS.bel v0, kept hS.bel v1⟩) (fun hHeld => ?_)
    (iterate 6 (first | refine rQ1 ?_ | refine rQ2 ?_); try simp only [pP])
    refine regC 6 rfl (by kernel_rfl) (by rfl) (fun Kq hKq => ?_)
    go_simp
    (with_reducible refine (between _ HF.out).mono ?_)
    rintro e w3 ⟨rfl, rfl⟩
    try go_wp2_with fail
    refine hKq.out _ _ (⟨hS.cell 1 rfl 0, hS.cell 1 rfl 1, hS.cell 0 rfl 0, hS.cell 0 rfl 1, hS.cell 0 rfl 2, hS.cell 0 rfl 3, kept hS.bel t2, kept hS.bel v0, kept hS.bel v1⟩) (fun hHeld => ?_)
    clear hKq Kq
    (try simp only [pP])
    (iterate 13 (first | refine rQ1 ?_ | refine rQ2 ?_); try simp only [pP])
    refine regC 20 rfl (by kernel_rfl) (by rfl) (fun Kq hKq => ?_)
    go_simp
    (with_reducible refine (between _ HP.out).mono ?_)
    rintro e w4 ⟨rfl, rfl⟩
    try go_wp2_with fail
    refine hKq.out _ _ (⟨hS.cell 1 rfl 0, hS.cell 1 rfl 1, hS.cell 0 rfl 0, hS.cell 0 rfl 1, hS.cell 0 rfl 2, hS.cell 0 rfl 3, kept hS.bel t2, kept hS.bel v0, kept hS.bel v1⟩) (fun hHeld => ?_)
    clear hKq Kq
    (try simp only [pP])
    (iterate 2 (first | refine rQ1 ?_ | refine rQ2 ?_); try simp only [pP])
    refine wpAnyH_done (by kernel_rfl) ?_ _
    clear hHeld
    have x1 := hS.cell 1 rfl
    have x0 := hS.cell 0 rfl
    go_wp2
    clear x0 x1
    replace hS := hS.drew
    refine wp_region_held_drew (S := (fun w' => w'.cell? ⟨w.heap.size, 0, none⟩ = some (.slice A t.length c) ∧ w'.cell? ⟨w.heap.size, 1, none⟩ = some (.slice (some adf) l.length d) ∧ w'.cell? ⟨w.heap.size + 1, 0, none⟩ = some (.int .i64 f) ∧ w'.cell? ⟨w.heap.size + 1, 1, none⟩ = some (.int .i64 pc) ∧ w'.cell? ⟨w.heap.size + 1, 2, none⟩ = some (.int .i64 2) ∧ w'.cell? ⟨w.heap.size + 1, 3, none⟩ = some (.int .i64 target) ∧ w'.cell? ⟨(adf.add (f * 3)).block, (adf.add (f * 3)).off + 2, none⟩ = some (.slice (some adc) y.code.length cc) ∧ w'.cell? (adc.add (pc * 2)) = some (.int .i64 op) ∧ w'.cell? ⟨(adc.add (pc * 2)).block, (adc.add (pc * 2)).off + 1, none⟩ = some (.int .i64 a))) (by kernel_rfl) (⟨hS.cell 1 rfl 0, hS.cell 1 rfl 1, hS.cell 0 rfl 0, hS.cell 0 rfl 1, hS.cell 0 rfl 2, hS.cell 0 rfl 3, kept hS.bel t2, kept hS.bel v0, kept hS.bel v1⟩) (fun hHeld => ?_)
    (iterate 11 (first | refine rQ1 ?_ | refine rQ2 ?_); try simp only [pP])
    replace hS := hS.madeAt (.cells #[.int .i64 0, .int .i64 0] 305 (0, 0)) (w.heap.size + 2) (by simp)
    refine regC 11 rfl (by kernel_rfl) (by rfl) (fun Kq hKq => ?_)
    go_simp
    refine hKq.out _ _ (⟨hS.cell 2 rfl 0, hS.cell 2 rfl 1, hS.cell 1 rfl 0, hS.cell 1 rfl 1, hS.cell 1 rfl 2, hS.cell 1 rfl 3, kept hS.bel t2, kept hS.bel v0, kept hS.bel v1⟩) (fun hHeld => ?_)
    clear hKq Kq
    (try simp only [pP])
    replace hS := ((hB.madeAt (.cells #[.int .i64 op, .int .i64 a] 305 (0, 0)) (w.heap.size + 2) (by simp)).drew).drew
    refine regC 12 rfl (by kernel_rfl) (by rfl) (fun Kq hKq => ?_)
    go_simp
    refine hKq.out _ _ (⟨hS.cell 2 rfl 0, hS.cell 2 rfl 1, hS.cell 1 rfl 0, hS.cell 1 rfl 1, hS.cell 1 rfl 2, hS.cell 1 rfl 3, kept hS.bel t2, kept hS.bel v0, kept hS.bel v1⟩) (fun hHeld => ?_)
    clear hKq Kq
    (try simp only [pP])
    refine wpAnyH_done (by kernel_rfl) ?_ _
    clear hHeld
    have x0 := hS.cell 0 rfl
    have x1 := hS.cell 1 rfl
    have x2 := hS.cell 2 rfl
    go_wp2
    clear x0 x1 x2
    replace hS := hS.drew
    refine wp_region_held_drew (S := (fun w' => w'.cell? ⟨w.heap.size, 0, none⟩ = some (.slice A t.length c) ∧ w'.cell? ⟨w.heap.size, 1, none⟩ = some (.slice (some adf) l.length d) ∧ w'.cell? ⟨w.heap.size + 1, 0, none⟩ = some (.int .i64 f) ∧ w'.cell? ⟨w.heap.size + 1, 1, none⟩ = some (.int .i64 pc) ∧ w'.cell? ⟨w.heap.size + 1, 2, none⟩ = some (.int .i64 2) ∧ w'.cell? ⟨w.heap.size + 1, 3, none⟩ = some (.int .i64 target) ∧ w'.cell? ⟨w.heap.size + 2, 0, none⟩ = some (.int .i64 op) ∧ w'.cell? ⟨w.heap.size + 2, 1, none⟩ = some (.int .i64 a))) (by kernel_rfl) (⟨hS.cell 2 rfl 0, hS.cell 2 rfl 1, hS.cell 1 rfl 0, hS.cell 1 rfl 1, hS.cell 1 rfl 2, hS.cell 1 rfl 3, hS.cell 0 rfl 0, hS.cell 0 rfl 1⟩) (fun hHeld => ?_)
    (iterate 4 (first | refine rQ1 ?_ | refine rQ2 ?_); try simp only [pP])
    refine regS (fun _ _ _ d h => by cases d <;> exact h) [4, 5, 6, 7, 8, 9, 10] _ _ _ rfl (by kernel_rfl) (by assumption) ?_
    simp only [skipL, List.getElem?_cons_zero, List.getElem?_cons_succ, Option.bind_some, pP]
    (iterate 2 (first | refine rQ1 ?_ | refine rQ2 ?_); try simp only [pP])
    refine regS (fun _ _ _ d h => by cases d <;> exact h) [13, 14, 15, 16, 17, 18, 19, 20, 21, 22] _ _ _ rfl (by kernel_rfl) (by assumption) ?_
    simp only [skipL, List.getElem?_cons_zero, List.getElem?_cons_succ, Option.bind_some, pP]
    (iterate 2 (first | refine rQ1 ?_ | refine rQ2 ?_); try simp only [pP])
    refine wpAnyH_done (by kernel_rfl) ?_ _
    clear hHeld
    go_wp2
    go_ret
    exact ⟨ret_bool HE.out.symm, hS.bel⟩
  subst h23
  have E : specX l ⟨23, a⟩ ⟨f, pc, 2, target⟩ = (btw target 0 ((l.length : Int) - 1) && decide (parOf l target = a)) := by simp [specX]
  cases hT : btw target 0 ((l.length : Int) - 1)
  · have HE := Lib.hid (E.trans (show _ = false by rw [hT, Bool.false_and]))
    have HT := Lib.hid hT
    clear E hT
    go_enter Tryz.func283, Tryz.ntmps283
    go_wp2
    refine wp_region_held_drew (S := (fun w' => w'.cell? ⟨w.heap.size, 0, none⟩ = some (.slice A t.length c) ∧ w'.cell? ⟨w.heap.size, 1, none⟩ = some (.slice (some adf) l.length d) ∧ w'.cell? ⟨w.heap.size + 1, 0, none⟩ = some (.int .i64 f) ∧ w'.cell? ⟨w.heap.size + 1, 1, none⟩ = some (.int .i64 pc) ∧ w'.cell? ⟨w.heap.size + 1, 2, none⟩ = some (.int .i64 2) ∧ w'.cell? ⟨w.heap.size + 1, 3, none⟩ = some (.int .i64 target) ∧ w'.cell? ⟨(adf.add (f * 3)).block, (adf.add (f * 3)).off + 2, none⟩ = some (.slice (some adc) y.code.length cc) ∧ w'.cell? (adc.add (pc * 2)) = some (.int .i64 23) ∧ w'.cell? ⟨(adc.add (pc * 2)).block, (adc.add (pc * 2)).off + 1, none⟩ = some (.int .i64 a))) (by kernel_rfl) (⟨hS.cell 1 rfl 0, hS.cell 1 rfl 1, hS.cell 0 rfl 0, hS.cell 0 rfl 1, hS.cell 0 rfl 2, hS.cell 0 rfl 3, kept hS.bel t2, kept hS.bel v0, kept hS.bel v1⟩) (fun hHeld => ?_)
    (iterate 6 (first | refine rQ1 ?_ | refine rQ2 ?_); try simp only [pP])
    refine regC 6 rfl (by kernel_rfl) (by rfl) (fun Kq hKq => ?_)
    go_simp
    (with_reducible refine (between _ HF.out).mono ?_)
    rintro e w3 ⟨rfl, rfl⟩
    try go_wp2_with fail
    refine hKq.out _ _ (⟨hS.cell 1 rfl 0, hS.cell 1 rfl 1, hS.cell 0 rfl 0, hS.cell 0 rfl 1, hS.cell 0 rfl 2, hS.cell 0 rfl 3, kept hS.bel t2, kept hS.bel v0, kept hS.bel v1⟩) (fun hHeld => ?_)
    clear hKq Kq
    (try simp only [pP])
    (iterate 13 (first | refine rQ1 ?_ | refine rQ2 ?_); try simp only [pP])
    refine regC 20 rfl (by kernel_rfl) (by rfl) (fun Kq hKq => ?_)
    go_simp
    (with_reducible refine (between _ HP.out).mono ?_)
    rintro e w4 ⟨rfl, rfl⟩
    try go_wp2_with fail
    refine hKq.out _ _ (⟨hS.cell 1 rfl 0, hS.cell 1 rfl 1, hS.cell 0 rfl 0, hS.cell 0 rfl 1, hS.cell 0 rfl 2, hS.cell 0 rfl 3, kept hS.bel t2, kept hS.bel v0, kept hS.bel v1⟩) (fun hHeld => ?_)
    clear hKq Kq
    (try simp only [pP])
    (iterate 2 (first | refine rQ1 ?_ | refine rQ2 ?_); try simp only [pP])
    refine wpAnyH_done (by kernel_rfl) ?_ _
    clear hHeld
    have x1 := hS.cell 1 rfl
    have x0 := hS.cell 0 rfl
    go_wp2
    clear x0 x1
    replace hS := hS.drew
    refine wp_region_held_drew (S := (fun w' => w'.cell? ⟨w.heap.size, 0, none⟩ = some (.slice A t.length c) ∧ w'.cell? ⟨w.heap.size, 1, none⟩ = some (.slice (some adf) l.length d) ∧ w'.cell? ⟨w.heap.size + 1, 0, none⟩ = some (.int .i64 f) ∧ w'.cell? ⟨w.heap.size + 1, 1, none⟩ = some (.int .i64 pc) ∧ w'.cell? ⟨w.heap.size + 1, 2, none⟩ = some (.int .i64 2) ∧ w'.cell? ⟨w.heap.size + 1, 3, none⟩ = some (.int .i64 target) ∧ w'.cell? ⟨(adf.add (f * 3)).block, (adf.add (f * 3)).off + 2, none⟩ = some (.slice (some adc) y.code.length cc) ∧ w'.cell? (adc.add (pc * 2)) = some (.int .i64 23) ∧ w'.cell? ⟨(adc.add (pc * 2)).block, (adc.add (pc * 2)).off + 1, none⟩ = some (.int .i64 a))) (by kernel_rfl) (⟨hS.cell 1 rfl 0, hS.cell 1 rfl 1, hS.cell 0 rfl 0, hS.cell 0 rfl 1, hS.cell 0 rfl 2, hS.cell 0 rfl 3, kept hS.bel t2, kept hS.bel v0, kept hS.bel v1⟩) (fun hHeld => ?_)
    (iterate 11 (first | refine rQ1 ?_ | refine rQ2 ?_); try simp only [pP])
    replace hS := hS.madeAt (.cells #[.int .i64 0, .int .i64 0] 305 (0, 0)) (w.heap.size + 2) (by simp)
    refine regC 11 rfl (by kernel_rfl) (by rfl) (fun Kq hKq => ?_)
    go_simp
    refine hKq.out _ _ (⟨hS.cell 2 rfl 0, hS.cell 2 rfl 1, hS.cell 1 rfl 0, hS.cell 1 rfl 1, hS.cell 1 rfl 2, hS.cell 1 rfl 3, kept hS.bel t2, kept hS.bel v0, kept hS.bel v1⟩) (fun hHeld => ?_)
    clear hKq Kq
    (try simp only [pP])
    replace hS := ((hB.madeAt (.cells #[.int .i64 23, .int .i64 a] 305 (0, 0)) (w.heap.size + 2) (by simp)).drew).drew
    refine regC 12 rfl (by kernel_rfl) (by rfl) (fun Kq hKq => ?_)
    go_simp
    refine hKq.out _ _ (⟨hS.cell 2 rfl 0, hS.cell 2 rfl 1, hS.cell 1 rfl 0, hS.cell 1 rfl 1, hS.cell 1 rfl 2, hS.cell 1 rfl 3, kept hS.bel t2, kept hS.bel v0, kept hS.bel v1⟩) (fun hHeld => ?_)
    clear hKq Kq
    (try simp only [pP])
    refine wpAnyH_done (by kernel_rfl) ?_ _
    clear hHeld
    have x0 := hS.cell 0 rfl
    have x1 := hS.cell 1 rfl
    have x2 := hS.cell 2 rfl
    go_wp2
    clear x0 x1 x2
    replace hS := hS.drew
    refine wp_region_held_drew (S := (fun w' => w'.cell? ⟨w.heap.size, 0, none⟩ = some (.slice A t.length c) ∧ w'.cell? ⟨w.heap.size, 1, none⟩ = some (.slice (some adf) l.length d) ∧ w'.cell? ⟨w.heap.size + 1, 0, none⟩ = some (.int .i64 f) ∧ w'.cell? ⟨w.heap.size + 1, 1, none⟩ = some (.int .i64 pc) ∧ w'.cell? ⟨w.heap.size + 1, 2, none⟩ = some (.int .i64 2) ∧ w'.cell? ⟨w.heap.size + 1, 3, none⟩ = some (.int .i64 target) ∧ w'.cell? ⟨w.heap.size + 2, 0, none⟩ = some (.int .i64 23) ∧ w'.cell? ⟨w.heap.size + 2, 1, none⟩ = some (.int .i64 a))) (by kernel_rfl) (⟨hS.cell 2 rfl 0, hS.cell 2 rfl 1, hS.cell 1 rfl 0, hS.cell 1 rfl 1, hS.cell 1 rfl 2, hS.cell 1 rfl 3, hS.cell 0 rfl 0, hS.cell 0 rfl 1⟩) (fun hHeld => ?_)
    (iterate 10 (first | refine rQ1 ?_ | refine rQ2 ?_); try simp only [pP])
    refine regC 10 rfl (by kernel_rfl) (by rfl) (fun Kq hKq => ?_)
    go_simp
    (with_reducible refine (between _ HT.out).mono ?_)
    rintro e w5 ⟨rfl, rfl⟩
    try go_wp2_with fail
    refine hKq.out _ _ (⟨hS.cell 2 rfl 0, hS.cell 2 rfl 1, hS.cell 1 rfl 0, hS.cell 1 rfl 1, hS.cell 1 rfl 2, hS.cell 1 rfl 3, hS.cell 0 rfl 0, hS.cell 0 rfl 1⟩) (fun hHeld => ?_)
    clear hKq Kq
    (try simp only [pP])
    (iterate 2 (first | refine rQ1 ?_ | refine rQ2 ?_); try simp only [pP])
    refine regS (fun _ _ _ d h => by cases d <;> exact h) [13, 14, 15, 16, 17, 18, 19, 20, 21, 22] _ _ _ rfl (by kernel_rfl) (by assumption) ?_
    simp only [skipL, List.getElem?_cons_zero, List.getElem?_cons_succ, Option.bind_some, pP]
    (iterate 2 (first | refine rQ1 ?_ | refine rQ2 ?_); try simp only [pP])
    refine wpAnyH_done (by kernel_rfl) ?_ _
    clear hHeld
    go_wp2
    go_ret
    exact ⟨ret_bool HE.out.symm, hS.bel⟩
  have hT2 := btw_true.1 hT
  obtain ⟨target, rfl⟩ : ∃ g : Nat, target = g := ⟨target.toNat, by omega⟩
  obtain ⟨z, hz⟩ := get_exU l target (by omega)
  have HE := Lib.hid (E.trans (show _ = decide (z.params = a) by rw [hT, parOf_at hz, Bool.true_and]))
  have HT := Lib.hid hT
  obtain ⟨adf', Ac', cc', eA, u0, u1, u2, _, _⟩ := kFunc_at h.hr target z hz
  cases eA
  have f0 : (0 : Int) ≤ (target : Int) := by omega
  have f1 : (target : Int) < l.length := by omega
  clear hT E hz hT2
  go_enter Tryz.func283, Tryz.ntmps283
  go_wp2
  refine wp_region_held_drew (S := (fun w' => w'.cell? ⟨w.heap.size, 0, none⟩ = some (.slice A t.length c) ∧ w'.cell? ⟨w.heap.size, 1, none⟩ = some (.slice (some adf) l.length d) ∧ w'.cell? ⟨w.heap.size + 1, 0, none⟩ = some (.int .i64 f) ∧ w'.cell? ⟨w.heap.size + 1, 1, none⟩ = some (.int .i64 pc) ∧ w'.cell? ⟨w.heap.size + 1, 2, none⟩ = some (.int .i64 2) ∧ w'.cell? ⟨w.heap.size + 1, 3, none⟩ = some (.int .i64 target) ∧ w'.cell? ⟨(adf.add (f * 3)).block, (adf.add (f * 3)).off + 2, none⟩ = some (.slice (some adc) y.code.length cc) ∧ w'.cell? (adc.add (pc * 2)) = some (.int .i64 23) ∧ w'.cell? ⟨(adc.add (pc * 2)).block, (adc.add (pc * 2)).off + 1, none⟩ = some (.int .i64 a))) (by kernel_rfl) (⟨hS.cell 1 rfl 0, hS.cell 1 rfl 1, hS.cell 0 rfl 0, hS.cell 0 rfl 1, hS.cell 0 rfl 2, hS.cell 0 rfl 3, kept hS.bel t2, kept hS.bel v0, kept hS.bel v1⟩) (fun hHeld => ?_)
  (iterate 6 (first | refine rQ1 ?_ | refine rQ2 ?_); try simp only [pP])
  refine regC 6 rfl (by kernel_rfl) (by rfl) (fun Kq hKq => ?_)
  go_simp
  (with_reducible refine (between _ HF.out).mono ?_)
  rintro e w3 ⟨rfl, rfl⟩
  try go_wp2_with fail
  refine hKq.out _ _ (⟨hS.cell 1 rfl 0, hS.cell 1 rfl 1, hS.cell 0 rfl 0, hS.cell 0 rfl 1, hS.cell 0 rfl 2, hS.cell 0 rfl 3, kept hS.bel t2, kept hS.bel v0, kept hS.bel v1⟩) (fun hHeld => ?_)
  clear hKq Kq
  (try simp only [pP])
  (iterate 13 (first | refine rQ1 ?_ | refine rQ2 ?_); try simp only [pP])
  refine regC 20 rfl (by kernel_rfl) (by rfl) (fun Kq hKq => ?_)
  go_simp
  (with_reducible refine (between _ HP.out).mono ?_)
  rintro e w4 ⟨rfl, rfl⟩
  try go_wp2_with fail
  refine hKq.out _ _ (⟨hS.cell 1 rfl 0, hS.cell 1 rfl 1, hS.cell 0 rfl 0, hS.cell 0 rfl 1, hS.cell 0 rfl 2, hS.cell 0 rfl 3, kept hS.bel t2, kept hS.bel v0, kept hS.bel v1⟩) (fun hHeld => ?_)
  clear hKq Kq
  (try simp only [pP])
  (iterate 2 (first | refine rQ1 ?_ | refine rQ2 ?_); try simp only [pP])
  refine wpAnyH_done (by kernel_rfl) ?_ _
  clear hHeld
  have x1 := hS.cell 1 rfl
  have x0 := hS.cell 0 rfl
  go_wp2
  clear x0 x1
  replace hS := hS.drew
  refine wp_region_held_drew (S := (fun w' => w'.cell? ⟨w.heap.size, 0, none⟩ = some (.slice A t.length c) ∧ w'.cell? ⟨w.heap.size, 1, none⟩ = some (.slice (some adf) l.length d) ∧ w'.cell? ⟨w.heap.size + 1, 0, none⟩ = some (.int .i64 f) ∧ w'.cell? ⟨w.heap.size + 1, 1, none⟩ = some (.int .i64 pc) ∧ w'.cell? ⟨w.heap.size + 1, 2, none⟩ = some (.int .i64 2) ∧ w'.cell? ⟨w.heap.size + 1, 3, none⟩ = some (.int .i64 target) ∧ w'.cell? ⟨(adf.add (f * 3)).block, (adf.add (f * 3)).off + 2, none⟩ = some (.slice (some adc) y.code.length cc) ∧ w'.cell? (adc.add (pc * 2)) = some (.int .i64 23) ∧ w'.cell? ⟨(adc.add (pc * 2)).block, (adc.add (pc * 2)).off + 1, none⟩ = some (.int .i64 a))) (by kernel_rfl) (⟨hS.cell 1 rfl 0, hS.cell 1 rfl 1, hS.cell 0 rfl 0, hS.cell 0 rfl 1, hS.cell 0 rfl 2, hS.cell 0 rfl 3, kept hS.bel t2, kept hS.bel v0, kept hS.bel v1⟩) (fun hHeld => ?_)
  (iterate 11 (first | refine rQ1 ?_ | refine rQ2 ?_); try simp only [pP])
  replace hS := hS.madeAt (.cells #[.int .i64 0, .int .i64 0] 305 (0, 0)) (w.heap.size + 2) (by simp)
  refine regC 11 rfl (by kernel_rfl) (by rfl) (fun Kq hKq => ?_)
  go_simp
  refine hKq.out _ _ (⟨hS.cell 2 rfl 0, hS.cell 2 rfl 1, hS.cell 1 rfl 0, hS.cell 1 rfl 1, hS.cell 1 rfl 2, hS.cell 1 rfl 3, kept hS.bel t2, kept hS.bel v0, kept hS.bel v1⟩) (fun hHeld => ?_)
  clear hKq Kq
  (try simp only [pP])
  replace hS := ((hB.madeAt (.cells #[.int .i64 23, .int .i64 a] 305 (0, 0)) (w.heap.size + 2) (by simp)).drew).drew
  refine regC 12 rfl (by kernel_rfl) (by rfl) (fun Kq hKq => ?_)
  go_simp
  refine hKq.out _ _ (⟨hS.cell 2 rfl 0, hS.cell 2 rfl 1, hS.cell 1 rfl 0, hS.cell 1 rfl 1, hS.cell 1 rfl 2, hS.cell 1 rfl 3, kept hS.bel t2, kept hS.bel v0, kept hS.bel v1⟩) (fun hHeld => ?_)
  clear hKq Kq
  (try simp only [pP])
  refine wpAnyH_done (by kernel_rfl) ?_ _
  clear hHeld
  have x0 := hS.cell 0 rfl
  have x1 := hS.cell 1 rfl
  have x2 := hS.cell 2 rfl
  go_wp2
  clear x0 x1 x2
  replace hS := hS.drew
  refine wp_region_held_drew (S := (fun w' => w'.cell? ⟨w.heap.size, 0, none⟩ = some (.slice A t.length c) ∧ w'.cell? ⟨w.heap.size, 1, none⟩ = some (.slice (some adf) l.length d) ∧ w'.cell? ⟨w.heap.size + 1, 0, none⟩ = some (.int .i64 f) ∧ w'.cell? ⟨w.heap.size + 1, 1, none⟩ = some (.int .i64 pc) ∧ w'.cell? ⟨w.heap.size + 1, 2, none⟩ = some (.int .i64 2) ∧ w'.cell? ⟨w.heap.size + 1, 3, none⟩ = some (.int .i64 target) ∧ w'.cell? ⟨w.heap.size + 2, 0, none⟩ = some (.int .i64 23) ∧ w'.cell? ⟨w.heap.size + 2, 1, none⟩ = some (.int .i64 a) ∧ w'.cell? (adf.add (target * 3)) = some (.int .i64 z.params))) (by kernel_rfl) (⟨hS.cell 2 rfl 0, hS.cell 2 rfl 1, hS.cell 1 rfl 0, hS.cell 1 rfl 1, hS.cell 1 rfl 2, hS.cell 1 rfl 3, hS.cell 0 rfl 0, hS.cell 0 rfl 1, kept hS.bel u0⟩) (fun hHeld => ?_)
  (iterate 10 (first | refine rQ1 ?_ | refine rQ2 ?_); try simp only [pP])
  refine regC 10 rfl (by kernel_rfl) (by rfl) (fun Kq hKq => ?_)
  go_simp
  (with_reducible refine (between _ HT.out).mono ?_)
  rintro e w5 ⟨rfl, rfl⟩
  try go_wp2_with fail
  refine hKq.out _ _ (⟨hS.cell 2 rfl 0, hS.cell 2 rfl 1, hS.cell 1 rfl 0, hS.cell 1 rfl 1, hS.cell 1 rfl 2, hS.cell 1 rfl 3, hS.cell 0 rfl 0, hS.cell 0 rfl 1, kept hS.bel u0⟩) (fun hHeld => ?_)
  clear hKq Kq
  (try simp only [pP])
  (iterate 14 (first | refine rQ1 ?_ | refine rQ2 ?_); try simp only [pP])
  refine wpAnyH_done (by kernel_rfl) ?_ _
  clear hHeld
  go_wp2
  go_ret
  exact ⟨ret_bool (by rw [HE.out, Bool.eq_iff_iff]; simp), hS.bel⟩
end Go.Proofs.YthinhlcfpaaldaaGreat.Dat

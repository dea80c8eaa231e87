/- The laws' own functions over Exit. Written by a program (recgen.py). -/
import Derived.Test.YticlknijmnddeaaGreatK4
import Derived.Test.YticlknijmnddeaaGreatGExFrame
import Derived.Test.YticlknijmnddeaaGreatGExRec
namespace Go.Proofs.YticlknijmnddeaaGreat.Dat
open Go Go.RowKit Go.Proofs.YticlknijmnddeaaGreat.Mem
set_option linter.unusedVariables false
set_option linter.unusedSimpArgs false
structure DExit where
  kind : Int
  spec : DSpec
  frames : List DExFrame
  recs : List DExRec
def zExit : DExit := ⟨0, zSpec, [], []⟩
def kExit : Knd DExit := Knd.iso (Knd.pair (Knd.int .i64) (Knd.pair kSpec (Knd.pair (Knd.slice 307 kExFrame) (Knd.slice 310 kExRec)))) (fun x => (x.kind, x.spec, x.frames, x.recs))
/-- What is handed in meets this. -/
def VExit (x : DExit) : Prop := (Lit.int .i64 x.kind).wf = true ∧ VSpec x.spec ∧ (x.frames.length ≤ maxLen ∧ ∀ y ∈ x.frames, VExFrame y) ∧ (x.recs.length ≤ maxLen ∧ ∀ y ∈ x.recs, VExRec y)
theorem kExit_K {w : World} {x : DExit} {cs : List Value} : kExit.K w x cs ↔ ∃ (A5 A6 : Option Addr) (c5 c6 : Nat), cs = [.int .i64 x.kind, .int .i64 x.spec.fn, .int .i64 x.spec.pc, .int .i64 x.spec.kind, .int .i64 x.spec.target, .slice A5 x.frames.length c5, .slice A6 x.recs.length c6] ∧ x.frames.length ≤ c5 ∧ kExFrame.Row w A5 x.frames.length x.frames ∧ x.recs.length ≤ c6 ∧ kExRec.Row w A6 x.recs.length x.recs := by
  constructor
  · rintro ⟨_, _, rfl, rfl, ⟨_, _, rfl, h_spec, ⟨_, _, rfl, ⟨A_frames, c_frames, rfl, hl_frames, hr_frames⟩, ⟨A_recs, c_recs, rfl, hl_recs, hr_recs⟩⟩⟩⟩
    have e_spec := kSpec_K.1 h_spec
    subst e_spec
    exact ⟨A_frames, A_recs, c_frames, c_recs, rfl, hl_frames, hr_frames, hl_recs, hr_recs⟩
  · rintro ⟨A5, A6, c5, c6, rfl, h5, r5, h6, r6⟩
    exact ⟨[.int .i64 x.kind], [.int .i64 x.spec.fn, .int .i64 x.spec.pc, .int .i64 x.spec.kind, .int .i64 x.spec.target, .slice A5 x.frames.length c5, .slice A6 x.recs.length c6], rfl, rfl, ⟨[.int .i64 x.spec.fn, .int .i64 x.spec.pc, .int .i64 x.spec.kind, .int .i64 x.spec.target], [.slice A5 x.frames.length c5, .slice A6 x.recs.length c6], rfl, (kSpec_K.2 rfl), ⟨[.slice A5 x.frames.length c5], [.slice A6 x.recs.length c6], rfl, ⟨A5, c5, rfl, h5, r5⟩, ⟨A6, c6, rfl, h6, r6⟩⟩⟩⟩
theorem kExit_at {w : World} {A : Option Addr} {m : Nat} {xs : List DExit} (h : kExit.Row w A m xs) (i : Nat) (x : DExit) (hx : xs[i]? = some x) : ∃ (ad : Addr) (A5 A6 : Option Addr) (c5 c6 : Nat), A = some ad ∧ w.cell? (ad.add (i * 7)) = some (.int .i64 x.kind) ∧ w.cell? ⟨(ad.add (i * 7)).block, (ad.add (i * 7)).off + 1, none⟩ = some (.int .i64 x.spec.fn) ∧ w.cell? ⟨(ad.add (i * 7)).block, (ad.add (i * 7)).off + 2, none⟩ = some (.int .i64 x.spec.pc) ∧ w.cell? ⟨(ad.add (i * 7)).block, (ad.add (i * 7)).off + 3, none⟩ = some (.int .i64 x.spec.kind) ∧ w.cell? ⟨(ad.add (i * 7)).block, (ad.add (i * 7)).off + 4, none⟩ = some (.int .i64 x.spec.target) ∧ w.cell? ⟨(ad.add (i * 7)).block, (ad.add (i * 7)).off + 5, none⟩ = some (.slice A5 x.frames.length c5) ∧ w.cell? ⟨(ad.add (i * 7)).block, (ad.add (i * 7)).off + 6, none⟩ = some (.slice A6 x.recs.length c6) ∧ x.frames.length ≤ c5 ∧ kExFrame.Row w A5 x.frames.length x.frames ∧ x.recs.length ≤ c6 ∧ kExRec.Row w A6 x.recs.length x.recs := by
  obtain ⟨ad, c, e, hK, hc0⟩ := h.get i x hx
  have hc : ∀ j u, c[j]? = some u → w.cell? (ad.add (i * 7 + j)) = some u := hc0
  obtain ⟨A5, A6, c5, c6, rfl, h5, r5, h6, r6⟩ := kExit_K.1 hK
  exact ⟨ad, A5, A6, c5, c6, e, hc 0 _ rfl, (by rw [← add_field _ _ 1 (by omega)]; exact hc 1 _ rfl), (by rw [← add_field _ _ 2 (by omega)]; exact hc 2 _ rfl), (by rw [← add_field _ _ 3 (by omega)]; exact hc 3 _ rfl), (by rw [← add_field _ _ 4 (by omega)]; exact hc 4 _ rfl), (by rw [← add_field _ _ 5 (by omega)]; exact hc 5 _ rfl), (by rw [← add_field _ _ 6 (by omega)]; exact hc 6 _ rfl), h5, r5, h6, r6⟩
def ctExit (x : DExit) : Nat := 5 + ctL ctExFrame x.frames + ctL ctExRec x.recs
def mkExit (k : Int) (x : DExit) : DExit := { kind := k, spec := { fn := k + 1, pc := k + 1 + 1, kind := k + 1 + 1 + 1, target := k + 1 + 1 + 1 + 1 }, frames := mkL mkExFrame ctExFrame (k + 1 + 1 + 1 + 1 + 1) x.frames, recs := mkL mkExRec ctExRec (k + 1 + 1 + 1 + 1 + 1 + ctL ctExFrame x.frames) x.recs }
theorem kExit_Oi {w : World} {x : DExit} {cs : List Value} {F : List Nat} : kExit.O w x cs F ↔ ∃ (v5 v6 : Value) (F5 F6 : List Nat), cs = [.int .i64 x.kind, .int .i64 x.spec.fn, .int .i64 x.spec.pc, .int .i64 x.spec.kind, .int .i64 x.spec.target, v5, v6] ∧ F = F5 ++ F6 ∧ kExFrame.Own 307 w v5 x.frames F5 ∧ kExRec.Own 310 w v6 x.recs F6 := by
  constructor
  · rintro ⟨_, _, _, _, rfl, rfl, ⟨rfl, rfl⟩, ⟨_, _, _, _, rfl, rfl, h_spec, ⟨_, _, _, _, rfl, rfl, ⟨v5, rfl, o5⟩, ⟨v6, rfl, o6⟩⟩⟩⟩
    obtain ⟨e1_spec, e2_spec⟩ := kSpec_Oi.1 h_spec
    subst e1_spec
    subst e2_spec
    exact ⟨v5, v6, _, _, rfl, by simp, o5, o6⟩
  · rintro ⟨v5, v6, F5, F6, rfl, rfl, o5, o6⟩
    have h : kExit.O w x [.int .i64 x.kind, .int .i64 x.spec.fn, .int .i64 x.spec.pc, .int .i64 x.spec.kind, .int .i64 x.spec.target, v5, v6] (([] ++ ([] ++ (F5 ++ F6)))) := ⟨[.int .i64 x.kind], [.int .i64 x.spec.fn, .int .i64 x.spec.pc, .int .i64 x.spec.kind, .int .i64 x.spec.target, v5, v6], [], ([] ++ (F5 ++ F6)), rfl, by simp, ⟨rfl, rfl⟩, ⟨[.int .i64 x.spec.fn, .int .i64 x.spec.pc, .int .i64 x.spec.kind, .int .i64 x.spec.target], [v5, v6], [], (F5 ++ F6), rfl, by simp, (kSpec_Oi.2 ⟨rfl, rfl⟩), ⟨[v5], [v6], F5, F6, rfl, by simp, ⟨v5, rfl, o5⟩, ⟨v6, rfl, o6⟩⟩⟩⟩
    simpa using h
def msExit (x : DExit) : Nat := sumOf msExFrame x.frames + sumOf msExRec x.recs
/-- What a small measure gives. -/
def MExit (x : DExit) : Prop := (x.frames.length ≤ 1048576 ∧ ∀ y ∈ x.frames, MExFrame y) ∧ (x.recs.length ≤ 1048576 ∧ ∀ y ∈ x.recs, MExRec y)
theorem MExit_of {x : DExit} (h : msExit x ≤ 1048576) : MExit x := by
  unfold msExit at h
  try simp only [sumOf] at h
  unfold MExit
  exact ⟨⟨by omega, fun y hy => by have h9 := mem_sum msExFrame _ y hy; exact MExFrame_of (by omega)⟩, ⟨by omega, fun y hy => by have h9 := mem_sum msExRec _ y hy; exact MExRec_of (by omega)⟩⟩
theorem infoExit : (Tryz.prog.info? 275).map (fun i => (i.zero, i.size, i.bytes)) = some (some (.agg #[.int .i64 0, .int .i64 0, .int .i64 0, .int .i64 0, .int .i64 0, .slice none 0 0, .slice none 0 0]), 7, 88) := by kernel_rfl
theorem zExit_O (w : World) : kExit.O w zExit (Value.agg #[.int .i64 0, .int .i64 0, .int .i64 0, .int .i64 0, .int .i64 0, .slice none 0 0, .slice none 0 0]).cells.toList [] := kExit_Oi.2 ⟨.slice none 0 0, .slice none 0 0, [], [], rfl, rfl, Knd.Own.nil _ _ _, Knd.Own.nil _ _ _⟩
set_option maxHeartbeats 4000000 in
set_option maxRecDepth 100000 in
theorem eqExit_c (A5 A6 : Option Addr) (c5 c6 : Nat) (A5z A6z : Option Addr) (c5z c6z : Nat) (x : DExit) (w : World) (r5 : kExFrame.Row w A5 x.frames.length x.frames) (r6 : kExRec.Row w A6 x.recs.length x.recs) (r5z : kExFrame.Row w A5z x.frames.length x.frames) (r6z : kExRec.Row w A6z x.recs.length x.recs) : Calls Tryz.prog 278 #[.agg #[.int .i64 x.kind, .int .i64 x.spec.fn, .int .i64 x.spec.pc, .int .i64 x.spec.kind, .int .i64 x.spec.target, .slice A5 x.frames.length c5, .slice A6 x.recs.length c6], .agg #[.int .i64 x.kind, .int .i64 x.spec.fn, .int .i64 x.spec.pc, .int .i64 x.spec.kind, .int .i64 x.spec.target, .slice A5z x.frames.length c5z, .slice A6z x.recs.length c6z]] w fun e w' => e = .returned (.bool true) ∧ Below w.heap.size w w' := by
  have hS := ((St.start w).made (.cells #[.int .i64 x.kind, .int .i64 x.spec.fn, .int .i64 x.spec.pc, .int .i64 x.spec.kind, .int .i64 x.spec.target, .slice A5 x.frames.length c5, .slice A6 x.recs.length c6] 275 (0, 0))).madeAt (.cells #[.int .i64 x.kind, .int .i64 x.spec.fn, .int .i64 x.spec.pc, .int .i64 x.spec.kind, .int .i64 x.spec.target, .slice A5z x.frames.length c5z, .slice A6z x.recs.length c6z] 275 (0, 0)) (w.heap.size + 1) (by simp)
  go_enter Tryz.func278, Tryz.ntmps278
  go_wp2_with fail
  refine (eqSpec_c x.spec _).mono ?_
  rintro e w1 ⟨rfl, hb⟩
  replace hS := hS.step hb
  have xb := hS.cell 0 rfl
  have xa := hS.cell 1 rfl
  have yb := hS.blt 0 rfl
  have ya := hS.blt 1 rfl
  clear hb
  go_wp2_with fail
  refine (eqExFrameS_c A5 A5z c5 c5z x.frames _ (r5.below hS.bel) (r5z.below hS.bel)).mono ?_
  rintro e w2 ⟨rfl, hb⟩
  replace hS := hS.step hb
  have xb := hS.cell 0 rfl
  have xa := hS.cell 1 rfl
  have yb := hS.blt 0 rfl
  have ya := hS.blt 1 rfl
  clear hb
  go_wp2_with fail
  refine (eqExRecS_c A6 A6z c6 c6z x.recs _ (r6.below hS.bel) (r6z.below hS.bel)).mono ?_
  rintro e w3 ⟨rfl, hb⟩
  replace hS := hS.step hb
  have xb := hS.cell 0 rfl
  have xa := hS.cell 1 rfl
  have yb := hS.blt 0 rfl
  have ya := hS.blt 1 rfl
  clear hb
  go_wp2
  go_ret
  exact ⟨rfl, hS.bel⟩
set_option maxHeartbeats 4000000 in
set_option maxRecDepth 100000 in
theorem eqExitS_c (A B : Option Addr) (c c' : Nat) (l : List DExit) (w : World) (hr : kExit.Row w A l.length l) (hr' : kExit.Row w B l.length l) : Calls Tryz.prog 243 #[.slice A l.length c, .slice B l.length c'] w fun e w' => e = .returned (.bool true) ∧ Below w.heap.size w w' := by
  have hm := hr.2.1
  go_enter Tryz.func243, Tryz.ntmps243
  go_wp2
  go_loopw [5] (fun i wr => ∃ k : Nat, k ≤ l.length ∧ i = .int .i64 k ∧ Below w.heap.size w wr) (fun i _ => l.length - (intOf i).toNat)
  case atStart => exact ⟨0, by omega, rfl, Below.refl _ _⟩
  case round =>
    obtain ⟨k, hk, rfl, hb⟩ := hrel
    by_cases hlt : k < l.length
    · obtain ⟨x, hx⟩ := get_exE l k hlt
      obtain ⟨ady, A5y, A6y, c5y, c6y, rfl, q0, q1, q2, q3, q4, q5, q6, hl5y, hr5y, hl6y, hr6y⟩ := kExit_at (hr.below hb) k x hx
      obtain ⟨adz, A5z, A6z, c5z, c6z, rfl, p0, p1, p2, p3, p4, p5, p6, hl5z, hr5z, hl6z, hr6z⟩ := kExit_at (hr'.below hb) k x hx
      clear hx
      go_wp2
      go_region_held3 (fun w' => w'.cell? (ady.add (k * 7)) = some (.int .i64 x.kind) ∧ w'.cell? ⟨(ady.add (k * 7)).block, (ady.add (k * 7)).off + 1, none⟩ = some (.int .i64 x.spec.fn) ∧ w'.cell? ⟨(ady.add (k * 7)).block, (ady.add (k * 7)).off + 2, none⟩ = some (.int .i64 x.spec.pc) ∧ w'.cell? ⟨(ady.add (k * 7)).block, (ady.add (k * 7)).off + 3, none⟩ = some (.int .i64 x.spec.kind) ∧ w'.cell? ⟨(ady.add (k * 7)).block, (ady.add (k * 7)).off + 4, none⟩ = some (.int .i64 x.spec.target) ∧ w'.cell? ⟨(ady.add (k * 7)).block, (ady.add (k * 7)).off + 5, none⟩ = some (.slice A5y x.frames.length c5y) ∧ w'.cell? ⟨(ady.add (k * 7)).block, (ady.add (k * 7)).off + 6, none⟩ = some (.slice A6y x.recs.length c6y) ∧ w'.cell? (adz.add (k * 7)) = some (.int .i64 x.kind) ∧ w'.cell? ⟨(adz.add (k * 7)).block, (adz.add (k * 7)).off + 1, none⟩ = some (.int .i64 x.spec.fn) ∧ w'.cell? ⟨(adz.add (k * 7)).block, (adz.add (k * 7)).off + 2, none⟩ = some (.int .i64 x.spec.pc) ∧ w'.cell? ⟨(adz.add (k * 7)).block, (adz.add (k * 7)).off + 3, none⟩ = some (.int .i64 x.spec.kind) ∧ w'.cell? ⟨(adz.add (k * 7)).block, (adz.add (k * 7)).off + 4, none⟩ = some (.int .i64 x.spec.target) ∧ w'.cell? ⟨(adz.add (k * 7)).block, (adz.add (k * 7)).off + 5, none⟩ = some (.slice A5z x.frames.length c5z) ∧ w'.cell? ⟨(adz.add (k * 7)).block, (adz.add (k * 7)).off + 6, none⟩ = some (.slice A6z x.recs.length c6z) ∧ Below wr.heap.size wr w') ((refine ⟨?_, ?_, ?_, ?_, ?_, ?_, ?_, ?_, ?_, ?_, ?_, ?_, ?_, ?_, ?_⟩ <;> first | assumption | (go_keep; done) | exact (by repeat (first | with_reducible exact Below.refl _ _ | with_reducible assumption | (with_reducible refine bl_set ?_ (by dsimp only; omega) _) | with_reducible refine bl_alloc ?_ _ | with_reducible refine bl_drewN ?_ _ | with_reducible refine bl_drew ?_ | with_reducible refine bl_step ?_ (by with_reducible assumption) | exact Below.refl _ _ | assumption | (refine bl_set ?_ (by dsimp only; omega) _) | refine bl_alloc ?_ _ | refine bl_drewN ?_ _ | refine bl_drew ?_ | refine bl_step ?_ (by assumption))))) (first | (go_at_call 278; refine (eqExit_c _ _ _ _ _ _ _ _ _ _ (hr5y.below (by repeat (first | with_reducible exact Below.refl _ _ | with_reducible assumption | (with_reducible refine bl_set ?_ (by dsimp only; omega) _) | with_reducible refine bl_alloc ?_ _ | with_reducible refine bl_drewN ?_ _ | with_reducible refine bl_drew ?_ | with_reducible refine bl_step ?_ (by with_reducible assumption) | exact Below.refl _ _ | assumption | (refine bl_set ?_ (by dsimp only; omega) _) | refine bl_alloc ?_ _ | refine bl_drewN ?_ _ | refine bl_drew ?_ | refine bl_step ?_ (by assumption)))) (hr6y.below (by repeat (first | with_reducible exact Below.refl _ _ | with_reducible assumption | (with_reducible refine bl_set ?_ (by dsimp only; omega) _) | with_reducible refine bl_alloc ?_ _ | with_reducible refine bl_drewN ?_ _ | with_reducible refine bl_drew ?_ | with_reducible refine bl_step ?_ (by with_reducible assumption) | exact Below.refl _ _ | assumption | (refine bl_set ?_ (by dsimp only; omega) _) | refine bl_alloc ?_ _ | refine bl_drewN ?_ _ | refine bl_drew ?_ | refine bl_step ?_ (by assumption)))) (hr5z.below (by repeat (first | with_reducible exact Below.refl _ _ | with_reducible assumption | (with_reducible refine bl_set ?_ (by dsimp only; omega) _) | with_reducible refine bl_alloc ?_ _ | with_reducible refine bl_drewN ?_ _ | with_reducible refine bl_drew ?_ | with_reducible refine bl_step ?_ (by with_reducible assumption) | exact Below.refl _ _ | assumption | (refine bl_set ?_ (by dsimp only; omega) _) | refine bl_alloc ?_ _ | refine bl_drewN ?_ _ | refine bl_drew ?_ | refine bl_step ?_ (by assumption)))) (hr6z.below (by repeat (first | with_reducible exact Below.refl _ _ | with_reducible assumption | (with_reducible refine bl_set ?_ (by dsimp only; omega) _) | with_reducible refine bl_alloc ?_ _ | with_reducible refine bl_drewN ?_ _ | with_reducible refine bl_drew ?_ | with_reducible refine bl_step ?_ (by with_reducible assumption) | exact Below.refl _ _ | assumption | (refine bl_set ?_ (by dsimp only; omega) _) | refine bl_alloc ?_ _ | refine bl_drewN ?_ _ | refine bl_drew ?_ | refine bl_step ?_ (by assumption))))).mono ?_; rintro e w' ⟨rfl, hb2⟩; have q0 := kept hb2 q0; have q1 := kept hb2 q1; have q2 := kept hb2 q2; have q3 := kept hb2 q3; have q4 := kept hb2 q4; have q5 := kept hb2 q5; have q6 := kept hb2 q6; have p0 := kept hb2 p0; have p1 := kept hb2 p1; have p2 := kept hb2 p2; have p3 := kept hb2 p3; have p4 := kept hb2 p4; have p5 := kept hb2 p5; have p6 := kept hb2 p6; have hW2 : Below wr.heap.size wr w' := (by repeat (first | with_reducible exact Below.refl _ _ | with_reducible assumption | (with_reducible refine bl_set ?_ (by dsimp only; omega) _) | with_reducible refine bl_alloc ?_ _ | with_reducible refine bl_drewN ?_ _ | with_reducible refine bl_drew ?_ | with_reducible refine bl_step ?_ (by with_reducible assumption) | exact Below.refl _ _ | assumption | (refine bl_set ?_ (by dsimp only; omega) _) | refine bl_alloc ?_ _ | refine bl_drewN ?_ _ | refine bl_drew ?_ | refine bl_step ?_ (by assumption)))))
      go_wp2
      go_roundw
      case rel => exact ⟨k + 1, by omega, by go_num, (by repeat (first | with_reducible exact Below.refl _ _ | with_reducible assumption | (with_reducible refine bl_set ?_ (by dsimp only; omega) _) | with_reducible refine bl_alloc ?_ _ | with_reducible refine bl_drewN ?_ _ | with_reducible refine bl_drew ?_ | with_reducible refine bl_step ?_ (by with_reducible assumption) | exact Below.refl _ _ | assumption | (refine bl_set ?_ (by dsimp only; omega) _) | refine bl_alloc ?_ _ | refine bl_drewN ?_ _ | refine bl_drew ?_ | refine bl_step ?_ (by assumption)))⟩
      case measure => simp [intOf]; omega
    · go_wp2
      go_ret
      exact ⟨rfl, hb⟩
theorem ctOneExit (x : DExit) : ctExit x ≤ 5 * (msExit x + 1) := by
  have h5 := ctLeExFrame x.frames
  have h6 := ctLeExRec x.recs
  unfold ctExit msExit
  try simp only [sumOf] at *
  omega
theorem ctLeExit (l : List DExit) : ctL ctExit l ≤ 5 * sumOf msExit l := ctL_le2 5 ctOneExit l
set_option maxHeartbeats 4000000 in
set_option maxRecDepth 100000 in
theorem markExitS_c (v : Value) (l : List DExit) (k : Int) (F : List Nat) (w : World) (h : kExit.Own 275 w v l F) (hnd : F.Nodup) (h0 : 0 ≤ k) (h1 : k + ctL ctExit l ≤ 1152921504606846976) (hm : l.length ≤ 1048576 ∧ ∀ y ∈ l, MExit y) : Calls Tryz.prog 191 #[v, .int .i64 k] w fun e w' => e = .returned (.int .i64 (k + ctL ctExit l)) ∧ kExit.Own 275 w' v (mkL mkExit ctExit k l) F ∧ But F w w' := by
  have hlm : l.length ≤ 1048576 := hm.1
  by_cases hn : 0 < l.length
  rotate_left
  · have e : l = [] := List.eq_nil_of_length_eq_zero (by omega)
    subst e
    obtain ⟨A, c, rfl, _, _⟩ := h.row
    go_enter Tryz.func191, Tryz.ntmps191
    go_wp2
    go_loopw [1, 5] (fun u i wr => u = .int .i64 k ∧ i = .int .i64 0 ∧ w = wr) (fun _ i _ => 0)
    case atStart => exact ⟨rfl, rfl, rfl⟩
    case round =>
      obtain ⟨rfl, rfl, rfl⟩ := hrel
      go_wp2
      go_ret
      exact ⟨by simp [ctL], h, But.refl _ _⟩
  obtain ⟨g, c, Fs, inner, rfl, hFe, hA0⟩ := h.toAt hnd hn
  subst hFe
  clear h hnd
  go_enter Tryz.func191, Tryz.ntmps191
  go_wp2
  go_loopw [1, 5] (fun u i wr => ∃ (j : Nat) (inner : List Value), j ≤ l.length ∧ u = .int .i64 (k + ctL ctExit (l.take j)) ∧ i = .int .i64 j ∧ kExit.At 275 wr g l.length c (upto mkExit ctExit k l j) Fs inner ∧ But (g :: Fs.flatten) w wr) (fun _ i _ => l.length - (intOf i).toNat)
  case atStart => exact ⟨0, inner, by omega, by simp [ctL], rfl, by rw [upto_0]; exact hA0, But.refl _ _⟩
  case round =>
    clear hA0
    obtain ⟨j, inner, hj, rfl, rfl, hA, hB⟩ := hrel
    by_cases hlt : j < l.length
    rotate_left
    · obtain rfl : j = l.length := by omega
      rw [upto_all] at hA
      rw [List.take_length]
      go_wp2
      go_ret
      exact ⟨rfl, hA.own, hB⟩
    obtain ⟨x, hx⟩ := get_exU l j hlt
    have hset := Lib.hid (upto_set mkExit ctExit k l j x hx)
    have hct := Lib.hid (ctL_snoc ctExit l j x hx)
    have hle := ctL_mem ctExit l j x hx
    have hMx := hm.2 x (List.mem_of_getElem? hx)
    have hul : j < (upto mkExit ctExit k l j).length := by rw [upto_len]; exact hlt
    obtain ⟨Fj, hFj, hO, _⟩ := hA.elem j x (upto_get mkExit ctExit k l j x hx)
    obtain ⟨v5, v6, G5, G6, hseg, hFn, o5, o6⟩ := kExit_Oi.1 hO
    have hFn := hFn.symm
    subst hFn
    have hGl : ∀ q ∈ (G5 ++ G6), q ∈ Fs.flatten := fun q hq => List.mem_flatten.2 ⟨_, List.mem_of_getElem? hFj, hq⟩
    have hne : ∀ q ∈ (G5 ++ G6), q ≠ g := fun q hq => hA.gne q (hGl q hq)
    have hnj : ((G5 ++ G6)).Nodup := (List.pairwise_flatten.1 (List.nodup_cons.1 hA.nd).2).1 _ (List.mem_of_getElem? hFj)
    obtain ⟨hn5, hn6, hdj⟩ := List.nodup_append.1 hnj
    obtain ⟨K, hK⟩ : ∃ K, k + (ctL ctExit (l.take j) : Int) = K := ⟨_, rfl⟩
    have hK0 : 0 ≤ K := by omega
    have hK1 : K + ctExit x ≤ 1152921504606846976 := by omega
    rw [hK]
    have HK := Lib.hid hK
    unfold ctExit at hK1
    have HUL := Lib.hid hul
    have HFJ := Lib.hid hFj
    clear hK hle hO hx
    have c0 : wr.cell? ⟨g, j * 7, none⟩ = some (.int .i64 (x.kind)) := hA.cellj j 0 HUL.out hseg rfl
    have f0 : wr.frozen? ⟨g, j * 7, none⟩ = false := hA.free _
    have c1 : wr.cell? ⟨g, j * 7 + 1, none⟩ = some (.int .i64 (x.spec.fn)) := hA.cellj j 1 HUL.out hseg rfl
    have f1 : wr.frozen? ⟨g, j * 7 + 1, none⟩ = false := hA.free _
    have c2 : wr.cell? ⟨g, j * 7 + 2, none⟩ = some (.int .i64 (x.spec.pc)) := hA.cellj j 2 HUL.out hseg rfl
    have f2 : wr.frozen? ⟨g, j * 7 + 2, none⟩ = false := hA.free _
    have c3 : wr.cell? ⟨g, j * 7 + 3, none⟩ = some (.int .i64 (x.spec.kind)) := hA.cellj j 3 HUL.out hseg rfl
    have f3 : wr.frozen? ⟨g, j * 7 + 3, none⟩ = false := hA.free _
    have c4 : wr.cell? ⟨g, j * 7 + 4, none⟩ = some (.int .i64 (x.spec.target)) := hA.cellj j 4 HUL.out hseg rfl
    have f4 : wr.frozen? ⟨g, j * 7 + 4, none⟩ = false := hA.free _
    have hP1 := hA.put j 0 HUL.out (by decide) (.int .i64 (K)) ({ kind := K, spec := { fn := x.spec.fn, pc := x.spec.pc, kind := x.spec.kind, target := x.spec.target }, frames := x.frames, recs := x.recs } : DExit) (G5 ++ G6) HFJ.out (by rw [hseg]; exact (kExit_Oi.2 ⟨v5, v6, G5, G6, rfl, rfl, o5, o6⟩))
    have hseg1 := (Knd.At.seg_set_same (d := kExit) _ j 0 (.int .i64 (K)) (by decide)).trans (congrArg (fun z => z.set 0 (.int .i64 (K))) hseg)
    have o5_1 : kExFrame.Own 307 (wr.setCell ⟨g, j * 7, none⟩ (.int .i64 (K))) v5 x.frames G5 := o5.frame (fun q hq => Below.heap_setCell _ _ _ q (hne q (by simp [hq])))
    have o6_1 : kExRec.Own 310 (wr.setCell ⟨g, j * 7, none⟩ (.int .i64 (K))) v6 x.recs G6 := o6.frame (fun q hq => Below.heap_setCell _ _ _ q (hne q (by simp [hq])))
    have hB1 := Knd.At.but_put hB (j * 7 + 0) (.int .i64 (K))
    have hP2 := hP1.put j 1 (by rw [List.length_set]; exact HUL.out) (by decide) (.int .i64 (K + 1)) ({ kind := K, spec := { fn := K + 1, pc := x.spec.pc, kind := x.spec.kind, target := x.spec.target }, frames := x.frames, recs := x.recs } : DExit) (G5 ++ G6) HFJ.out (by rw [hseg1]; exact (kExit_Oi.2 ⟨v5, v6, G5, G6, rfl, rfl, o5_1, o6_1⟩))
    rw [List.set_set] at hP2
    have hseg2 := (Knd.At.seg_set_same (d := kExit) _ j 1 (.int .i64 (K + 1)) (by decide)).trans (congrArg (fun z => z.set 1 (.int .i64 (K + 1))) hseg1)
    have o5_2 : kExFrame.Own 307 ((wr.setCell ⟨g, j * 7, none⟩ (.int .i64 (K))).setCell ⟨g, j * 7 + 1, none⟩ (.int .i64 (K + 1))) v5 x.frames G5 := o5_1.frame (fun q hq => Below.heap_setCell _ _ _ q (hne q (by simp [hq])))
    have o6_2 : kExRec.Own 310 ((wr.setCell ⟨g, j * 7, none⟩ (.int .i64 (K))).setCell ⟨g, j * 7 + 1, none⟩ (.int .i64 (K + 1))) v6 x.recs G6 := o6_1.frame (fun q hq => Below.heap_setCell _ _ _ q (hne q (by simp [hq])))
    have hB2 := Knd.At.but_put hB1 (j * 7 + 1) (.int .i64 (K + 1))
    have hP3 := hP2.put j 2 (by rw [List.length_set]; exact HUL.out) (by decide) (.int .i64 (K + 1 + 1)) ({ kind := K, spec := { fn := K + 1, pc := K + 1 + 1, kind := x.spec.kind, target := x.spec.target }, frames := x.frames, recs := x.recs } : DExit) (G5 ++ G6) HFJ.out (by rw [hseg2]; exact (kExit_Oi.2 ⟨v5, v6, G5, G6, rfl, rfl, o5_2, o6_2⟩))
    rw [List.set_set] at hP3
    have hseg3 := (Knd.At.seg_set_same (d := kExit) _ j 2 (.int .i64 (K + 1 + 1)) (by decide)).trans (congrArg (fun z => z.set 2 (.int .i64 (K + 1 + 1))) hseg2)
    have o5_3 : kExFrame.Own 307 (((wr.setCell ⟨g, j * 7, none⟩ (.int .i64 (K))).setCell ⟨g, j * 7 + 1, none⟩ (.int .i64 (K + 1))).setCell ⟨g, j * 7 + 2, none⟩ (.int .i64 (K + 1 + 1))) v5 x.frames G5 := o5_2.frame (fun q hq => Below.heap_setCell _ _ _ q (hne q (by simp [hq])))
    have o6_3 : kExRec.Own 310 (((wr.setCell ⟨g, j * 7, none⟩ (.int .i64 (K))).setCell ⟨g, j * 7 + 1, none⟩ (.int .i64 (K + 1))).setCell ⟨g, j * 7 + 2, none⟩ (.int .i64 (K + 1 + 1))) v6 x.recs G6 := o6_2.frame (fun q hq => Below.heap_setCell _ _ _ q (hne q (by simp [hq])))
    have hB3 := Knd.At.but_put hB2 (j * 7 + 2) (.int .i64 (K + 1 + 1))
    have hP4 := hP3.put j 3 (by rw [List.length_set]; exact HUL.out) (by decide) (.int .i64 (K + 1 + 1 + 1)) ({ kind := K, spec := { fn := K + 1, pc := K + 1 + 1, kind := K + 1 + 1 + 1, target := x.spec.target }, frames := x.frames, recs := x.recs } : DExit) (G5 ++ G6) HFJ.out (by rw [hseg3]; exact (kExit_Oi.2 ⟨v5, v6, G5, G6, rfl, rfl, o5_3, o6_3⟩))
    rw [List.set_set] at hP4
    have hseg4 := (Knd.At.seg_set_same (d := kExit) _ j 3 (.int .i64 (K + 1 + 1 + 1)) (by decide)).trans (congrArg (fun z => z.set 3 (.int .i64 (K + 1 + 1 + 1))) hseg3)
    have o5_4 : kExFrame.Own 307 ((((wr.setCell ⟨g, j * 7, none⟩ (.int .i64 (K))).setCell ⟨g, j * 7 + 1, none⟩ (.int .i64 (K + 1))).setCell ⟨g, j * 7 + 2, none⟩ (.int .i64 (K + 1 + 1))).setCell ⟨g, j * 7 + 3, none⟩ (.int .i64 (K + 1 + 1 + 1))) v5 x.frames G5 := o5_3.frame (fun q hq => Below.heap_setCell _ _ _ q (hne q (by simp [hq])))
    have o6_4 : kExRec.Own 310 ((((wr.setCell ⟨g, j * 7, none⟩ (.int .i64 (K))).setCell ⟨g, j * 7 + 1, none⟩ (.int .i64 (K + 1))).setCell ⟨g, j * 7 + 2, none⟩ (.int .i64 (K + 1 + 1))).setCell ⟨g, j * 7 + 3, none⟩ (.int .i64 (K + 1 + 1 + 1))) v6 x.recs G6 := o6_3.frame (fun q hq => Below.heap_setCell _ _ _ q (hne q (by simp [hq])))
    have hB4 := Knd.At.but_put hB3 (j * 7 + 3) (.int .i64 (K + 1 + 1 + 1))
    have hP5 := hP4.put j 4 (by rw [List.length_set]; exact HUL.out) (by decide) (.int .i64 (K + 1 + 1 + 1 + 1)) ({ kind := K, spec := { fn := K + 1, pc := K + 1 + 1, kind := K + 1 + 1 + 1, target := K + 1 + 1 + 1 + 1 }, frames := x.frames, recs := x.recs } : DExit) (G5 ++ G6) HFJ.out (by rw [hseg4]; exact (kExit_Oi.2 ⟨v5, v6, G5, G6, rfl, rfl, o5_4, o6_4⟩))
    rw [List.set_set] at hP5
    have hseg5 := (Knd.At.seg_set_same (d := kExit) _ j 4 (.int .i64 (K + 1 + 1 + 1 + 1)) (by decide)).trans (congrArg (fun z => z.set 4 (.int .i64 (K + 1 + 1 + 1 + 1))) hseg4)
    have o5_5 : kExFrame.Own 307 (((((wr.setCell ⟨g, j * 7, none⟩ (.int .i64 (K))).setCell ⟨g, j * 7 + 1, none⟩ (.int .i64 (K + 1))).setCell ⟨g, j * 7 + 2, none⟩ (.int .i64 (K + 1 + 1))).setCell ⟨g, j * 7 + 3, none⟩ (.int .i64 (K + 1 + 1 + 1))).setCell ⟨g, j * 7 + 4, none⟩ (.int .i64 (K + 1 + 1 + 1 + 1))) v5 x.frames G5 := o5_4.frame (fun q hq => Below.heap_setCell _ _ _ q (hne q (by simp [hq])))
    have o6_5 : kExRec.Own 310 (((((wr.setCell ⟨g, j * 7, none⟩ (.int .i64 (K))).setCell ⟨g, j * 7 + 1, none⟩ (.int .i64 (K + 1))).setCell ⟨g, j * 7 + 2, none⟩ (.int .i64 (K + 1 + 1))).setCell ⟨g, j * 7 + 3, none⟩ (.int .i64 (K + 1 + 1 + 1))).setCell ⟨g, j * 7 + 4, none⟩ (.int .i64 (K + 1 + 1 + 1 + 1))) v6 x.recs G6 := o6_4.frame (fun q hq => Below.heap_setCell _ _ _ q (hne q (by simp [hq])))
    have hB5 := Knd.At.but_put hB4 (j * 7 + 4) (.int .i64 (K + 1 + 1 + 1 + 1))
    have C6 := markExFrameS_c v5 x.frames (K + 1 + 1 + 1 + 1 + 1) G5 _ o5_5 hn5 (by omega) (by omega) hMx.1
    have cs5 : (((((wr.setCell ⟨g, j * 7, none⟩ (.int .i64 (K))).setCell ⟨g, j * 7 + 1, none⟩ (.int .i64 (K + 1))).setCell ⟨g, j * 7 + 2, none⟩ (.int .i64 (K + 1 + 1))).setCell ⟨g, j * 7 + 3, none⟩ (.int .i64 (K + 1 + 1 + 1))).setCell ⟨g, j * 7 + 4, none⟩ (.int .i64 (K + 1 + 1 + 1 + 1))).cell? ⟨g, j * 7 + 5, none⟩ = some v5 := hP5.cellj j 5 (by rw [List.length_set]; exact HUL.out) hseg5 rfl
    have HP := Lib.hid hP5
    have HG := Lib.hid hseg5
    have HBB := Lib.hid hB5
    have HO5 := Lib.hid o5_5
    have HO6 := Lib.hid o6_5
    try clear hA
    try clear hseg
    try clear hB
    try clear hP1
    try clear hP2
    try clear hP3
    try clear hP4
    try clear hP5
    try clear hP6
    try clear hseg1
    try clear hseg2
    try clear hseg3
    try clear hseg4
    try clear hseg5
    try clear hseg6
    try clear hB1
    try clear hB2
    try clear hB3
    try clear hB4
    try clear hB5
    try clear hB6
    try clear o5
    try clear o6
    try clear o5_1
    try clear o5_2
    try clear o5_3
    try clear o5_4
    try clear o5_5
    try clear o5_6
    try clear o6_1
    try clear o6_2
    try clear o6_3
    try clear o6_4
    try clear o6_5
    try clear o6_6
    go_wp2_with fail
    refine C6.mono ?_
    rintro e w6 ⟨rfl, ho6, hBi6⟩
    clear C6 cs5
    have o6_6 := HO6.out.frame (fun q hq => hBi6.block q (HO6.out.lt q hq) (fun hm => hdj q hm q hq rfl))
    have hT6 := HP.out.turn j (by rw [List.length_set]; exact HUL.out) ({ kind := K, spec := { fn := K + 1, pc := K + 1 + 1, kind := K + 1 + 1 + 1, target := K + 1 + 1 + 1 + 1 }, frames := mkL mkExFrame ctExFrame (K + 1 + 1 + 1 + 1 + 1) x.frames, recs := x.recs } : DExit) (G5 ++ G6) G5 HFJ.out (fun q hq => by simp [hq]) hBi6 (by rw [HG.out]; exact (kExit_Oi.2 ⟨v5, v6, G5, G6, rfl, rfl, ho6, o6_6⟩))
    rw [List.set_set] at hT6
    have hP6 := hT6
    have hseg6 := HG.out
    have hB6 := Knd.At.but_turn HBB.out HFJ.out (fun q hq => by simp [hq]) hBi6
    clear hT6 HP HG HBB HO5 HO6
    have hkz6 : 0 ≤ K + 1 + 1 + 1 + 1 + 1 + (ctL ctExFrame x.frames : Int) := by omega
    have C7 := markExRecS_c v6 x.recs (K + 1 + 1 + 1 + 1 + 1 + ctL ctExFrame x.frames) G6 _ o6_6 hn6 (by omega) (by omega) hMx.2
    have cs6 : w6.cell? ⟨g, j * 7 + 6, none⟩ = some v6 := hP6.cellj j 6 (by rw [List.length_set]; exact HUL.out) hseg6 rfl
    have HP := Lib.hid hP6
    have HG := Lib.hid hseg6
    have HBB := Lib.hid hB6
    have HO5 := Lib.hid ho6
    have HO6 := Lib.hid o6_6
    try clear hA
    try clear hseg
    try clear hB
    try clear hP1
    try clear hP2
    try clear hP3
    try clear hP4
    try clear hP5
    try clear hP6
    try clear hP7
    try clear hseg1
    try clear hseg2
    try clear hseg3
    try clear hseg4
    try clear hseg5
    try clear hseg6
    try clear hseg7
    try clear hB1
    try clear hB2
    try clear hB3
    try clear hB4
    try clear hB5
    try clear hB6
    try clear hB7
    try clear o5
    try clear o6
    try clear o5_1
    try clear o5_2
    try clear o5_3
    try clear o5_4
    try clear o5_5
    try clear o5_6
    try clear o5_7
    try clear o6_1
    try clear o6_2
    try clear o6_3
    try clear o6_4
    try clear o6_5
    try clear o6_6
    try clear o6_7
    go_wp2_with fail
    refine C7.mono ?_
    rintro e w7 ⟨rfl, ho7, hBi7⟩
    clear C7 cs6
    have o5_7 := HO5.out.frame (fun q hq => hBi7.block q (HO5.out.lt q hq) (fun hm => hdj q hq q hm rfl))
    have hT7 := HP.out.turn j (by rw [List.length_set]; exact HUL.out) ({ kind := K, spec := { fn := K + 1, pc := K + 1 + 1, kind := K + 1 + 1 + 1, target := K + 1 + 1 + 1 + 1 }, frames := mkL mkExFrame ctExFrame (K + 1 + 1 + 1 + 1 + 1) x.frames, recs := mkL mkExRec ctExRec (K + 1 + 1 + 1 + 1 + 1 + ctL ctExFrame x.frames) x.recs } : DExit) (G5 ++ G6) G6 HFJ.out (fun q hq => by simp [hq]) hBi7 (by rw [HG.out]; exact (kExit_Oi.2 ⟨v5, v6, G5, G6, rfl, rfl, o5_7, ho7⟩))
    rw [List.set_set] at hT7
    have hP7 := hT7
    have hseg7 := HG.out
    have hB7 := Knd.At.but_turn HBB.out HFJ.out (fun q hq => by simp [hq]) hBi7
    clear hT7 HP HG HBB HO5 HO6
    have hkz7 : 0 ≤ K + 1 + 1 + 1 + 1 + 1 + ctL ctExFrame x.frames + (ctL ctExRec x.recs : Int) := by omega
    have HP := Lib.hid hP7
    have HG := Lib.hid hseg7
    have HBB := Lib.hid hB7
    have HO5 := Lib.hid o5_7
    have HO6 := Lib.hid ho7
    try clear hA
    try clear hseg
    try clear hB
    try clear hP1
    try clear hP2
    try clear hP3
    try clear hP4
    try clear hP5
    try clear hP6
    try clear hP7
    try clear hseg1
    try clear hseg2
    try clear hseg3
    try clear hseg4
    try clear hseg5
    try clear hseg6
    try clear hseg7
    try clear hB1
    try clear hB2
    try clear hB3
    try clear hB4
    try clear hB5
    try clear hB6
    try clear hB7
    try clear o5
    try clear o6
    try clear o5_1
    try clear o5_2
    try clear o5_3
    try clear o5_4
    try clear o5_5
    try clear o5_6
    try clear o5_7
    try clear o6_1
    try clear o6_2
    try clear o6_3
    try clear o6_4
    try clear o6_5
    try clear o6_6
    try clear o6_7
    go_wp2
    go_roundw
    case rel =>
      have h9 := HP.out
      rw [show ({ kind := K, spec := { fn := K + 1, pc := K + 1 + 1, kind := K + 1 + 1 + 1, target := K + 1 + 1 + 1 + 1 }, frames := mkL mkExFrame ctExFrame (K + 1 + 1 + 1 + 1 + 1) x.frames, recs := mkL mkExRec ctExRec (K + 1 + 1 + 1 + 1 + 1 + ctL ctExFrame x.frames) x.recs } : DExit) = mkExit (k + ctL ctExit (l.take j)) x from by rw [HK.out]; rfl, hset.out] at h9
      exact ⟨j + 1, _, by omega, by rw [hct.out, ← HK.out]; simp [ctExit]; omega, by go_num, h9, HBB.out⟩
    case measure => simp [intOf]; omega
set_option maxHeartbeats 4000000 in
set_option maxRecDepth 100000 in
theorem heldExitS_c (A : Option Addr) (c : Nat) (l : List DExit) (k : Int) (w : World) (hr : kExit.Row w A l.length (mkL mkExit ctExit k l)) (h0 : 0 ≤ k) (h1 : k + ctL ctExit l ≤ 1152921504606846976) (hm : l.length ≤ 1048576 ∧ ∀ y ∈ l, MExit y) : Calls Tryz.prog 193 #[.slice A l.length c, .int .i64 k] w fun e w' => e = .returned (.int .i64 (k + ctL ctExit l)) ∧ Below w.heap.size w w' := by
  have hlm : l.length ≤ 1048576 := hm.1
  go_enter Tryz.func193, Tryz.ntmps193
  go_wp2
  go_loopw [1, 5] (fun u i wr => ∃ j : Nat, j ≤ l.length ∧ u = .int .i64 (k + ctL ctExit (l.take j)) ∧ i = .int .i64 j ∧ Below w.heap.size w wr) (fun _ i _ => l.length - (intOf i).toNat)
  case atStart => exact ⟨0, by omega, by simp [ctL], rfl, Below.refl _ _⟩
  case round =>
    obtain ⟨j, hj, rfl, rfl, hb⟩ := hrel
    by_cases hlt : j < l.length
    rotate_left
    · obtain rfl : j = l.length := by omega
      rw [List.take_length]
      go_wp2
      go_ret
      exact ⟨rfl, hb⟩
    obtain ⟨x, hx⟩ := get_exU l j hlt
    have hct := Lib.hid (ctL_snoc ctExit l j x hx)
    have hle := ctL_mem ctExit l j x hx
    have hMx := hm.2 x (List.mem_of_getElem? hx)
    have hget := mkL_get mkExit ctExit l k j x hx
    obtain ⟨K, hK⟩ : ∃ K, k + (ctL ctExit (l.take j) : Int) = K := ⟨_, rfl⟩
    have hK0 : 0 ≤ K := by omega
    have hK1 : K + ctExit x ≤ 1152921504606846976 := by omega
    rw [hK] at hget ⊢
    obtain ⟨ad, A5, A6, c5, c6, rfl, p0, p1, p2, p3, p4, p5, p6, hl5, hr5, hl6, hr6⟩ := kExit_at (hr.below hb) j _ hget
    have le5 : (mkL mkExFrame ctExFrame (K + 1 + 1 + 1 + 1 + 1) x.frames).length = x.frames.length := mkL_len _ _ _ _
    have r5 : kExFrame.Row wr A5 x.frames.length (mkL mkExFrame ctExFrame (K + 1 + 1 + 1 + 1 + 1) x.frames) := by have h9 := hr5; change kExFrame.Row wr A5 (mkL mkExFrame ctExFrame (K + 1 + 1 + 1 + 1 + 1) x.frames).length (mkL mkExFrame ctExFrame (K + 1 + 1 + 1 + 1 + 1) x.frames) at h9; rwa [le5] at h9
    have le6 : (mkL mkExRec ctExRec (K + 1 + 1 + 1 + 1 + 1 + ctL ctExFrame x.frames) x.recs).length = x.recs.length := mkL_len _ _ _ _
    have r6 : kExRec.Row wr A6 x.recs.length (mkL mkExRec ctExRec (K + 1 + 1 + 1 + 1 + 1 + ctL ctExFrame x.frames) x.recs) := by have h9 := hr6; change kExRec.Row wr A6 (mkL mkExRec ctExRec (K + 1 + 1 + 1 + 1 + 1 + ctL ctExFrame x.frames) x.recs).length (mkL mkExRec ctExRec (K + 1 + 1 + 1 + 1 + 1 + ctL ctExFrame x.frames) x.recs) at h9; rwa [le6] at h9
    have q0 : wr.cell? (ad.add (j * 7)) = some (.int .i64 (K)) := p0
    have q1 : wr.cell? ⟨(ad.add (j * 7)).block, (ad.add (j * 7)).off + 1, none⟩ = some (.int .i64 (K + 1)) := p1
    have q2 : wr.cell? ⟨(ad.add (j * 7)).block, (ad.add (j * 7)).off + 2, none⟩ = some (.int .i64 (K + 1 + 1)) := p2
    have q3 : wr.cell? ⟨(ad.add (j * 7)).block, (ad.add (j * 7)).off + 3, none⟩ = some (.int .i64 (K + 1 + 1 + 1)) := p3
    have q4 : wr.cell? ⟨(ad.add (j * 7)).block, (ad.add (j * 7)).off + 4, none⟩ = some (.int .i64 (K + 1 + 1 + 1 + 1)) := p4
    have q5 : wr.cell? ⟨(ad.add (j * 7)).block, (ad.add (j * 7)).off + 5, none⟩ = some (.slice A5 x.frames.length c5) := by have h9 := p5; change wr.cell? ⟨(ad.add (j * 7)).block, (ad.add (j * 7)).off + 5, none⟩ = some (.slice A5 (mkL mkExFrame ctExFrame (K + 1 + 1 + 1 + 1 + 1) x.frames).length c5) at h9; rwa [le5] at h9
    have q6 : wr.cell? ⟨(ad.add (j * 7)).block, (ad.add (j * 7)).off + 6, none⟩ = some (.slice A6 x.recs.length c6) := by have h9 := p6; change wr.cell? ⟨(ad.add (j * 7)).block, (ad.add (j * 7)).off + 6, none⟩ = some (.slice A6 (mkL mkExRec ctExRec (K + 1 + 1 + 1 + 1 + 1 + ctL ctExFrame x.frames) x.recs).length c6) at h9; rwa [le6] at h9
    have HK := Lib.hid hK
    unfold ctExit at hK1
    clear hget hle hx hK p0 p1 p2 p3 p4 p5 p6 hr5 hl5 le5 hr6 hl6 le6
    have HR5 := Lib.hid r5
    clear r5
    have HR6 := Lib.hid r6
    clear r6
    have hb0 := Below.refl wr.heap.size wr
    go_wp2_with fail
    refine (heldExFrameS_c A5 c5 x.frames (K + 1 + 1 + 1 + 1 + 1) _ (HR5.out.below hb0) (by omega) (by omega) hMx.1).mono ?_
    rintro e w5_ ⟨rfl, hc5⟩
    have hb6 := bl_step hb0 hc5
    clear hc5
    have s6_5 := kept hb6 q6
    have hkz5 : 0 ≤ K + 1 + 1 + 1 + 1 + 1 + (ctL ctExFrame x.frames : Int) := by omega
    go_wp2_with fail
    refine (heldExRecS_c A6 c6 x.recs (K + 1 + 1 + 1 + 1 + 1 + ctL ctExFrame x.frames) _ (HR6.out.below hb6) (by omega) (by omega) hMx.2).mono ?_
    rintro e w6_ ⟨rfl, hc6⟩
    have hb7 := bl_step hb6 hc6
    clear hc6
    have hkz6 : 0 ≤ K + 1 + 1 + 1 + 1 + 1 + ctL ctExFrame x.frames + (ctL ctExRec x.recs : Int) := by omega
    go_wp2
    go_roundw
    case rel => exact ⟨j + 1, by omega, by rw [hct.out, ← HK.out]; simp [ctExit]; omega, by go_num, bl_step hb hb7⟩
    case measure => simp [intOf]; omega
end Go.Proofs.YticlknijmnddeaaGreat.Dat

/- The laws' own functions over ExRec. Written by a program (recgen.py). -/
import Derived.Test.YticlknijmnddeaaGreatK4
import Derived.Test.YticlknijmnddeaaGreatGSrc
namespace Go.Proofs.YticlknijmnddeaaGreat.Dat
open Go Go.RowKit Go.Proofs.YticlknijmnddeaaGreat.Mem
set_option linter.unusedVariables false
set_option linter.unusedSimpArgs false
structure DExRec where
  fields : List DSrc
def zExRec : DExRec := ⟨[]⟩
def kExRec : Knd DExRec := Knd.iso (Knd.slice 328 kSrc) (fun x => (x.fields))
/-- What is handed in meets this. -/
def VExRec (x : DExRec) : Prop := (x.fields.length ≤ maxLen ∧ ∀ y ∈ x.fields, VSrc y)
theorem kExRec_K {w : World} {x : DExRec} {cs : List Value} : kExRec.K w x cs ↔ ∃ (A0 : Option Addr) (c0 : Nat), cs = [.slice A0 x.fields.length c0] ∧ x.fields.length ≤ c0 ∧ kSrc.Row w A0 x.fields.length x.fields := by
  constructor
  · rintro ⟨A_fields, c_fields, rfl, hl_fields, hr_fields⟩
    exact ⟨A_fields, c_fields, rfl, hl_fields, hr_fields⟩
  · rintro ⟨A0, c0, rfl, h0, r0⟩
    exact ⟨A0, c0, rfl, h0, r0⟩
theorem kExRec_at {w : World} {A : Option Addr} {m : Nat} {xs : List DExRec} (h : kExRec.Row w A m xs) (i : Nat) (x : DExRec) (hx : xs[i]? = some x) : ∃ (ad : Addr) (A0 : Option Addr) (c0 : Nat), A = some ad ∧ w.cell? (ad.add (i * 1)) = some (.slice A0 x.fields.length c0) ∧ x.fields.length ≤ c0 ∧ kSrc.Row w A0 x.fields.length x.fields := by
  obtain ⟨ad, c, e, hK, hc0⟩ := h.get i x hx
  have hc : ∀ j u, c[j]? = some u → w.cell? (ad.add (i * 1 + j)) = some u := hc0
  obtain ⟨A0, c0, rfl, h0, r0⟩ := kExRec_K.1 hK
  exact ⟨ad, A0, c0, e, hc 0 _ rfl, h0, r0⟩
def ctExRec (x : DExRec) : Nat := 0 + ctL ctSrc x.fields
def mkExRec (k : Int) (x : DExRec) : DExRec := { fields := mkL mkSrc ctSrc (k) x.fields }
theorem kExRec_Oi {w : World} {x : DExRec} {cs : List Value} {F : List Nat} : kExRec.O w x cs F ↔ ∃ (v0 : Value) (F0 : List Nat), cs = [v0] ∧ F = F0 ∧ kSrc.Own 328 w v0 x.fields F0 := by
  constructor
  · rintro ⟨v0, rfl, o0⟩
    exact ⟨v0, _, rfl, by simp, o0⟩
  · rintro ⟨v0, F0, rfl, rfl, o0⟩
    exact ⟨v0, rfl, o0⟩
def msExRec (x : DExRec) : Nat := sumOf msSrc x.fields
/-- What a small measure gives. -/
def MExRec (x : DExRec) : Prop := (x.fields.length ≤ 1048576 ∧ ∀ y ∈ x.fields, MSrc y)
theorem MExRec_of {x : DExRec} (h : msExRec x ≤ 1048576) : MExRec x := by
  unfold msExRec at h
  try simp only [sumOf] at h
  unfold MExRec
  exact ⟨by omega, fun y hy => by have h9 := mem_sum msSrc _ y hy; exact MSrc_of (by omega)⟩
theorem infoExRec : (Tryz.prog.info? 310).map (fun i => (i.zero, i.size, i.bytes)) = some (some (.agg #[.slice none 0 0]), 1, 24) := by kernel_rfl
theorem zExRec_O (w : World) : kExRec.O w zExRec (Value.agg #[.slice none 0 0]).cells.toList [] := kExRec_Oi.2 ⟨.slice none 0 0, [], rfl, rfl, Knd.Own.nil _ _ _⟩
set_option maxHeartbeats 4000000 in
set_option maxRecDepth 100000 in
theorem eqExRec_c (A0 : Option Addr) (c0 : Nat) (A0z : Option Addr) (c0z : Nat) (x : DExRec) (w : World) (r0 : kSrc.Row w A0 x.fields.length x.fields) (r0z : kSrc.Row w A0z x.fields.length x.fields) : Calls Tryz.prog 303 #[.agg #[.slice A0 x.fields.length c0], .agg #[.slice A0z x.fields.length c0z]] w fun e w' => e = .returned (.bool true) ∧ Below w.heap.size w w' := by
  have hS := ((St.start w).made (.cells #[.slice A0 x.fields.length c0] 310 (0, 0))).madeAt (.cells #[.slice A0z x.fields.length c0z] 310 (0, 0)) (w.heap.size + 1) (by simp)
  go_enter Tryz.func303, Tryz.ntmps303
  go_wp2_with fail
  refine (eqSrcS_c A0 A0z c0 c0z x.fields _ (r0.below hS.bel) (r0z.below hS.bel)).mono ?_
  rintro e w1 ⟨rfl, hb⟩
  replace hS := hS.step hb
  have xb := hS.cell 0 rfl
  have xa := hS.cell 1 rfl
  have yb := hS.blt 0 rfl
  have ya := hS.blt 1 rfl
  clear hb
  go_wp2
  go_ret
  exact ⟨rfl, hS.bel⟩
set_option maxHeartbeats 4000000 in
set_option maxRecDepth 100000 in
theorem eqExRecS_c (A B : Option Addr) (c c' : Nat) (l : List DExRec) (w : World) (hr : kExRec.Row w A l.length l) (hr' : kExRec.Row w B l.length l) : Calls Tryz.prog 297 #[.slice A l.length c, .slice B l.length c'] w fun e w' => e = .returned (.bool true) ∧ Below w.heap.size w w' := by
  have hm := hr.2.1
  go_enter Tryz.func297, Tryz.ntmps297
  go_wp2
  go_loopw [5] (fun i wr => ∃ k : Nat, k ≤ l.length ∧ i = .int .i64 k ∧ Below w.heap.size w wr) (fun i _ => l.length - (intOf i).toNat)
  case atStart => exact ⟨0, by omega, rfl, Below.refl _ _⟩
  case round =>
    obtain ⟨k, hk, rfl, hb⟩ := hrel
    by_cases hlt : k < l.length
    · obtain ⟨x, hx⟩ := get_exE l k hlt
      obtain ⟨ady, A0y, c0y, rfl, q0, hl0y, hr0y⟩ := kExRec_at (hr.below hb) k x hx
      obtain ⟨adz, A0z, c0z, rfl, p0, hl0z, hr0z⟩ := kExRec_at (hr'.below hb) k x hx
      rw [Nat.mul_one] at q0
      rw [Nat.mul_one] at p0
      clear hx
      go_wp2
      go_region_held3 (fun w' => w'.cell? (ady.add k) = some (.slice A0y x.fields.length c0y) ∧ w'.cell? (adz.add k) = some (.slice A0z x.fields.length c0z) ∧ Below wr.heap.size wr w') ((refine ⟨?_, ?_, ?_⟩ <;> first | assumption | (go_keep; done) | exact (by repeat (first | with_reducible exact Below.refl _ _ | with_reducible assumption | (with_reducible refine bl_set ?_ (by dsimp only; omega) _) | with_reducible refine bl_alloc ?_ _ | with_reducible refine bl_drewN ?_ _ | with_reducible refine bl_drew ?_ | with_reducible refine bl_step ?_ (by with_reducible assumption) | exact Below.refl _ _ | assumption | (refine bl_set ?_ (by dsimp only; omega) _) | refine bl_alloc ?_ _ | refine bl_drewN ?_ _ | refine bl_drew ?_ | refine bl_step ?_ (by assumption))))) (first | (go_at_call 303; refine (eqExRec_c _ _ _ _ _ _ (hr0y.below (by repeat (first | with_reducible exact Below.refl _ _ | with_reducible assumption | (with_reducible refine bl_set ?_ (by dsimp only; omega) _) | with_reducible refine bl_alloc ?_ _ | with_reducible refine bl_drewN ?_ _ | with_reducible refine bl_drew ?_ | with_reducible refine bl_step ?_ (by with_reducible assumption) | exact Below.refl _ _ | assumption | (refine bl_set ?_ (by dsimp only; omega) _) | refine bl_alloc ?_ _ | refine bl_drewN ?_ _ | refine bl_drew ?_ | refine bl_step ?_ (by assumption)))) (hr0z.below (by repeat (first | with_reducible exact Below.refl _ _ | with_reducible assumption | (with_reducible refine bl_set ?_ (by dsimp only; omega) _) | with_reducible refine bl_alloc ?_ _ | with_reducible refine bl_drewN ?_ _ | with_reducible refine bl_drew ?_ | with_reducible refine bl_step ?_ (by with_reducible assumption) | exact Below.refl _ _ | assumption | (refine bl_set ?_ (by dsimp only; omega) _) | refine bl_alloc ?_ _ | refine bl_drewN ?_ _ | refine bl_drew ?_ | refine bl_step ?_ (by assumption))))).mono ?_; rintro e w' ⟨rfl, hb2⟩; have q0 := kept hb2 q0; have p0 := kept hb2 p0; have hW2 : Below wr.heap.size wr w' := (by repeat (first | with_reducible exact Below.refl _ _ | with_reducible assumption | (with_reducible refine bl_set ?_ (by dsimp only; omega) _) | with_reducible refine bl_alloc ?_ _ | with_reducible refine bl_drewN ?_ _ | with_reducible refine bl_drew ?_ | with_reducible refine bl_step ?_ (by with_reducible assumption) | exact Below.refl _ _ | assumption | (refine bl_set ?_ (by dsimp only; omega) _) | refine bl_alloc ?_ _ | refine bl_drewN ?_ _ | refine bl_drew ?_ | refine bl_step ?_ (by assumption)))))
      go_wp2
      go_roundw
      case rel => exact ⟨k + 1, by omega, by go_num, (by repeat (first | with_reducible exact Below.refl _ _ | with_reducible assumption | (with_reducible refine bl_set ?_ (by dsimp only; omega) _) | with_reducible refine bl_alloc ?_ _ | with_reducible refine bl_drewN ?_ _ | with_reducible refine bl_drew ?_ | with_reducible refine bl_step ?_ (by with_reducible assumption) | exact Below.refl _ _ | assumption | (refine bl_set ?_ (by dsimp only; omega) _) | refine bl_alloc ?_ _ | refine bl_drewN ?_ _ | refine bl_drew ?_ | refine bl_step ?_ (by assumption)))⟩
      case measure => simp [intOf]; omega
    · go_wp2
      go_ret
      exact ⟨rfl, hb⟩
theorem ctOneExRec (x : DExRec) : ctExRec x ≤ 5 * (msExRec x + 1) := by
  have h0 := ctLeSrc x.fields
  unfold ctExRec msExRec
  try simp only [sumOf] at *
  omega
theorem ctLeExRec (l : List DExRec) : ctL ctExRec l ≤ 5 * sumOf msExRec l := ctL_le2 5 ctOneExRec l
set_option maxHeartbeats 4000000 in
set_option maxRecDepth 100000 in
theorem markExRecS_c (v : Value) (l : List DExRec) (k : Int) (F : List Nat) (w : World) (h : kExRec.Own 310 w v l F) (hnd : F.Nodup) (h0 : 0 ≤ k) (h1 : k + ctL ctExRec l ≤ 1152921504606846976) (hm : l.length ≤ 1048576 ∧ ∀ y ∈ l, MExRec y) : Calls Tryz.prog 245 #[v, .int .i64 k] w fun e w' => e = .returned (.int .i64 (k + ctL ctExRec l)) ∧ kExRec.Own 310 w' v (mkL mkExRec ctExRec k l) F ∧ But F w w' := by
  have hlm : l.length ≤ 1048576 := hm.1
  by_cases hn : 0 < l.length
  rotate_left
  · have e : l = [] := List.eq_nil_of_length_eq_zero (by omega)
    subst e
    obtain ⟨A, c, rfl, _, _⟩ := h.row
    go_enter Tryz.func245, Tryz.ntmps245
    go_wp2
    go_loopw [1, 5] (fun u i wr => u = .int .i64 k ∧ i = .int .i64 0 ∧ w = wr) (fun _ i _ => 0)
    case atStart => exact ⟨rfl, rfl, rfl⟩
    case round =>
      obtain ⟨rfl, rfl, rfl⟩ := hrel
      go_wp2
      go_ret
      exact ⟨by simp [ctL], h, But.refl _ _⟩
  obtain ⟨g, c, Fs, inner, rfl, hFe, hA0⟩ := h.toAt hnd hn
  subst hFe
  clear h hnd
  go_enter Tryz.func245, Tryz.ntmps245
  go_wp2
  go_loopw [1, 5] (fun u i wr => ∃ (j : Nat) (inner : List Value), j ≤ l.length ∧ u = .int .i64 (k + ctL ctExRec (l.take j)) ∧ i = .int .i64 j ∧ kExRec.At 310 wr g l.length c (upto mkExRec ctExRec k l j) Fs inner ∧ But (g :: Fs.flatten) w wr) (fun _ i _ => l.length - (intOf i).toNat)
  case atStart => exact ⟨0, inner, by omega, by simp [ctL], rfl, by rw [upto_0]; exact hA0, But.refl _ _⟩
  case round =>
    clear hA0
    obtain ⟨j, inner, hj, rfl, rfl, hA, hB⟩ := hrel
    by_cases hlt : j < l.length
    rotate_left
    · obtain rfl : j = l.length := by omega
      rw [upto_all] at hA
      rw [List.take_length]
      go_wp2
      go_ret
      exact ⟨rfl, hA.own, hB⟩
    obtain ⟨x, hx⟩ := get_exU l j hlt
    have hset := Lib.hid (upto_set mkExRec ctExRec k l j x hx)
    have hct := Lib.hid (ctL_snoc ctExRec l j x hx)
    have hle := ctL_mem ctExRec l j x hx
    have hMx := hm.2 x (List.mem_of_getElem? hx)
    have hul : j < (upto mkExRec ctExRec k l j).length := by rw [upto_len]; exact hlt
    obtain ⟨Fj, hFj, hO, _⟩ := hA.elem j x (upto_get mkExRec ctExRec k l j x hx)
    obtain ⟨v0, G0, hseg, hFn, o0⟩ := kExRec_Oi.1 hO
    have hFn := hFn.symm
    subst hFn
    have hGl : ∀ q ∈ G0, q ∈ Fs.flatten := fun q hq => List.mem_flatten.2 ⟨_, List.mem_of_getElem? hFj, hq⟩
    have hne : ∀ q ∈ G0, q ≠ g := fun q hq => hA.gne q (hGl q hq)
    have hnj : (G0).Nodup := (List.pairwise_flatten.1 (List.nodup_cons.1 hA.nd).2).1 _ (List.mem_of_getElem? hFj)
    have hn0 := hnj
    obtain ⟨K, hK⟩ : ∃ K, k + (ctL ctExRec (l.take j) : Int) = K := ⟨_, rfl⟩
    have hK0 : 0 ≤ K := by omega
    have hK1 : K + ctExRec x ≤ 1152921504606846976 := by omega
    rw [hK]
    have HK := Lib.hid hK
    unfold ctExRec at hK1
    have HUL := Lib.hid hul
    have HFJ := Lib.hid hFj
    clear hK hle hO hx
    have C1 := markSrcS_c v0 x.fields (K) G0 _ o0 hn0 (by omega) (by omega) hMx
    have cs0 : wr.cell? ⟨g, j, none⟩ = some v0 := by have h9 := hA.cellj j 0 HUL.out hseg rfl; rwa [show j * kExRec.sz + 0 = j from Nat.mul_one j] at h9
    have HP := Lib.hid hA
    have HG := Lib.hid hseg
    have HBB := Lib.hid hB
    have HO0 := Lib.hid o0
    try clear hA
    try clear hseg
    try clear hB
    try clear hP1
    try clear hseg1
    try clear hB1
    try clear o0
    try clear o0_1
    go_wp2_with fail
    refine C1.mono ?_
    rintro e w1 ⟨rfl, ho1, hBi1⟩
    clear C1 cs0
    have hT1 := HP.out.turn j HUL.out ({ fields := mkL mkSrc ctSrc (K) x.fields } : DExRec) G0 G0 HFJ.out (fun q hq => by simp [hq]) hBi1 (by rw [HG.out]; exact (kExRec_Oi.2 ⟨v0, G0, rfl, rfl, ho1⟩))
    have hP1 := hT1
    have hseg1 := HG.out
    have hB1 := Knd.At.but_turn HBB.out HFJ.out (fun q hq => by simp [hq]) hBi1
    clear hT1 HP HG HBB HO0
    have hkz1 : 0 ≤ K + (ctL ctSrc x.fields : Int) := by omega
    have HP := Lib.hid hP1
    have HG := Lib.hid hseg1
    have HBB := Lib.hid hB1
    have HO0 := Lib.hid ho1
    try clear hA
    try clear hseg
    try clear hB
    try clear hP1
    try clear hseg1
    try clear hB1
    try clear o0
    try clear o0_1
    go_wp2
    go_roundw
    case rel =>
      have h9 := HP.out
      rw [show ({ fields := mkL mkSrc ctSrc (K) x.fields } : DExRec) = mkExRec (k + ctL ctExRec (l.take j)) x from by rw [HK.out]; rfl, hset.out] at h9
      exact ⟨j + 1, _, by omega, by rw [hct.out, ← HK.out]; simp [ctExRec]; omega, by go_num, h9, HBB.out⟩
    case measure => simp [intOf]; omega
set_option maxHeartbeats 4000000 in
set_option maxRecDepth 100000 in
theorem heldExRecS_c (A : Option Addr) (c : Nat) (l : List DExRec) (k : Int) (w : World) (hr : kExRec.Row w A l.length (mkL mkExRec ctExRec k l)) (h0 : 0 ≤ k) (h1 : k + ctL ctExRec l ≤ 1152921504606846976) (hm : l.length ≤ 1048576 ∧ ∀ y ∈ l, MExRec y) : Calls Tryz.prog 247 #[.slice A l.length c, .int .i64 k] w fun e w' => e = .returned (.int .i64 (k + ctL ctExRec l)) ∧ Below w.heap.size w w' := by
  have hlm : l.length ≤ 1048576 := hm.1
  go_enter Tryz.func247, Tryz.ntmps247
  go_wp2
  go_loopw [1, 5] (fun u i wr => ∃ j : Nat, j ≤ l.length ∧ u = .int .i64 (k + ctL ctExRec (l.take j)) ∧ i = .int .i64 j ∧ Below w.heap.size w wr) (fun _ i _ => l.length - (intOf i).toNat)
  case atStart => exact ⟨0, by omega, by simp [ctL], rfl, Below.refl _ _⟩
  case round =>
    obtain ⟨j, hj, rfl, rfl, hb⟩ := hrel
    by_cases hlt : j < l.length
    rotate_left
    · obtain rfl : j = l.length := by omega
      rw [List.take_length]
      go_wp2
      go_ret
      exact ⟨rfl, hb⟩
    obtain ⟨x, hx⟩ := get_exU l j hlt
    have hct := Lib.hid (ctL_snoc ctExRec l j x hx)
    have hle := ctL_mem ctExRec l j x hx
    have hMx := hm.2 x (List.mem_of_getElem? hx)
    have hget := mkL_get mkExRec ctExRec l k j x hx
    obtain ⟨K, hK⟩ : ∃ K, k + (ctL ctExRec (l.take j) : Int) = K := ⟨_, rfl⟩
    have hK0 : 0 ≤ K := by omega
    have hK1 : K + ctExRec x ≤ 1152921504606846976 := by omega
    rw [hK] at hget ⊢
    obtain ⟨ad, A0, c0, rfl, p0, hl0, hr0⟩ := kExRec_at (hr.below hb) j _ hget
    rw [Nat.mul_one] at p0
    have le0 : (mkL mkSrc ctSrc (K) x.fields).length = x.fields.length := mkL_len _ _ _ _
    have r0 : kSrc.Row wr A0 x.fields.length (mkL mkSrc ctSrc (K) x.fields) := by have h9 := hr0; change kSrc.Row wr A0 (mkL mkSrc ctSrc (K) x.fields).length (mkL mkSrc ctSrc (K) x.fields) at h9; rwa [le0] at h9
    have q0 : wr.cell? (ad.add j) = some (.slice A0 x.fields.length c0) := by have h9 := p0; change wr.cell? (ad.add j) = some (.slice A0 (mkL mkSrc ctSrc (K) x.fields).length c0) at h9; rwa [le0] at h9
    have HK := Lib.hid hK
    unfold ctExRec at hK1
    clear hget hle hx hK p0 hr0 hl0 le0
    have HR0 := Lib.hid r0
    clear r0
    have hb0 := Below.refl wr.heap.size wr
    go_wp2_with fail
    refine (heldSrcS_c A0 c0 x.fields (K) _ (HR0.out.below hb0) (by omega) (by omega) hMx).mono ?_
    rintro e w0_ ⟨rfl, hc0⟩
    have hb1 := bl_step hb0 hc0
    clear hc0
    have hkz0 : 0 ≤ K + (ctL ctSrc x.fields : Int) := by omega
    go_wp2
    go_roundw
    case rel => exact ⟨j + 1, by omega, by rw [hct.out, ← HK.out]; simp [ctExRec]; omega, by go_num, bl_step hb hb1⟩
    case measure => simp [intOf]; omega
end Go.Proofs.YticlknijmnddeaaGreat.Dat

/- The laws' marks looked at: modules. Written by a program. -/
import Derived.Test.YticlknijmnddeaaGreatK4
namespace Go.Proofs.YticlknijmnddeaaGreat.Dat
open Go Go.RowKit Go.Proofs.YticlknijmnddeaaGreat.Mem
set_option linter.unusedVariables false
set_option linter.unusedSimpArgs false
def MFunc (x : DFunc) : Prop := x.code.length ≤ 1048576
set_option maxHeartbeats 4000000 in
set_option maxRecDepth 100000 in
theorem heldInsS_c (A : Option Addr) (c : Nat) (l : List DIns) (k : Int) (w : World) (hr : kIns.Row w A l.length (mkL mkIns ctIns k l)) (h0 : 0 ≤ k) (h1 : k + ctL ctIns l ≤ 1152921504606846976) (hm : l.length ≤ 1048576) : Calls Tryz.prog 171 #[.slice A l.length c, .int .i64 k] w fun e w' => e = .returned (.int .i64 (k + ctL ctIns l)) ∧ Below w.heap.size w w' := by
  have hlm : l.length ≤ 1048576 := hm
  go_enter Tryz.func171, Tryz.ntmps171
  go_wp2
  go_loopw [1, 5] (fun u i wr => ∃ j : Nat, j ≤ l.length ∧ u = .int .i64 (k + ctL ctIns (l.take j)) ∧ i = .int .i64 j ∧ Below w.heap.size w wr) (fun _ i _ => l.length - (intOf i).toNat)
  case atStart => exact ⟨0, by omega, by simp [ctL], rfl, Below.refl _ _⟩
  case round =>
    obtain ⟨j, hj, rfl, rfl, hb⟩ := hrel
    by_cases hlt : j < l.length
    rotate_left
    · obtain rfl : j = l.length := by omega
      rw [List.take_length]
      go_wp2
      go_ret
      exact ⟨rfl, hb⟩
    obtain ⟨x, hx⟩ := get_exU l j hlt
    have hct := Lib.hid (ctL_snoc ctIns l j x hx)
    have hle := ctL_mem ctIns l j x hx
    have hget := mkL_get mkIns ctIns l k j x hx
    obtain ⟨K, hK⟩ : ∃ K, k + (ctL ctIns (l.take j) : Int) = K := ⟨_, rfl⟩
    have hK0 : 0 ≤ K := by omega
    have hK1 : K + ctIns x ≤ 1152921504606846976 := by omega
    rw [hK] at hget ⊢
    obtain ⟨ad, rfl, p0, p1⟩ := kIns_at (hr.below hb) j _ hget
    have q0 : wr.cell? (ad.add (j * 2)) = some (.int .i64 (K)) := p0
    have q1 : wr.cell? ⟨(ad.add (j * 2)).block, (ad.add (j * 2)).off + 1, none⟩ = some (.int .i64 (K + 1)) := p1
    have HK := Lib.hid hK
    unfold ctIns at hK1
    clear hget hle hx hK p0 p1
    have hb0 := Below.refl wr.heap.size wr
    go_wp2
    go_roundw
    case rel => exact ⟨j + 1, by omega, by rw [hct.out, ← HK.out]; simp [ctIns]; omega, by go_num, bl_step hb hb0⟩
    case measure => simp [intOf]; omega
set_option maxHeartbeats 4000000 in
set_option maxRecDepth 100000 in
theorem heldFuncS_c (A : Option Addr) (c : Nat) (l : List DFunc) (k : Int) (w : World) (hr : kFunc.Row w A l.length (mkL mkFunc ctFunc k l)) (h0 : 0 ≤ k) (h1 : k + ctL ctFunc l ≤ 1152921504606846976) (hm : l.length ≤ 1048576 ∧ ∀ y ∈ l, MFunc y) : Calls Tryz.prog 106 #[.slice A l.length c, .int .i64 k] w fun e w' => e = .returned (.int .i64 (k + ctL ctFunc l)) ∧ Below w.heap.size w w' := by
  have hlm : l.length ≤ 1048576 := hm.1
  go_enter Tryz.func106, Tryz.ntmps106
  go_wp2
  go_loopw [1, 5] (fun u i wr => ∃ j : Nat, j ≤ l.length ∧ u = .int .i64 (k + ctL ctFunc (l.take j)) ∧ i = .int .i64 j ∧ Below w.heap.size w wr) (fun _ i _ => l.length - (intOf i).toNat)
  case atStart => exact ⟨0, by omega, by simp [ctL], rfl, Below.refl _ _⟩
  case round =>
    obtain ⟨j, hj, rfl, rfl, hb⟩ := hrel
    by_cases hlt : j < l.length
    rotate_left
    · obtain rfl : j = l.length := by omega
      rw [List.take_length]
      go_wp2
      go_ret
      exact ⟨rfl, hb⟩
    obtain ⟨x, hx⟩ := get_exU l j hlt
    have hct := Lib.hid (ctL_snoc ctFunc l j x hx)
    have hle := ctL_mem ctFunc l j x hx
    have hMx := hm.2 x (List.mem_of_getElem? hx)
    have hget := mkL_get mkFunc ctFunc l k j x hx
    obtain ⟨K, hK⟩ : ∃ K, k + (ctL ctFunc (l.take j) : Int) = K := ⟨_, rfl⟩
    have hK0 : 0 ≤ K := by omega
    have hK1 : K + ctFunc x ≤ 1152921504606846976 := by omega
    rw [hK] at hget ⊢
    obtain ⟨ad, A2, c2, rfl, p0, p1, p2, hl2, hr2⟩ := kFunc_at (hr.below hb) j _ hget
    have le2 : (mkL mkIns ctIns (K + 1 + 1) x.code).length = x.code.length := mkL_len _ _ _ _
    have r2 : kIns.Row wr A2 x.code.length (mkL mkIns ctIns (K + 1 + 1) x.code) := by have h9 := hr2; change kIns.Row wr A2 (mkL mkIns ctIns (K + 1 + 1) x.code).length (mkL mkIns ctIns (K + 1 + 1) x.code) at h9; rwa [le2] at h9
    have q0 : wr.cell? (ad.add (j * 3)) = some (.int .i64 (K)) := p0
    have q1 : wr.cell? ⟨(ad.add (j * 3)).block, (ad.add (j * 3)).off + 1, none⟩ = some (.int .i64 (K + 1)) := p1
    have q2 : wr.cell? ⟨(ad.add (j * 3)).block, (ad.add (j * 3)).off + 2, none⟩ = some (.slice A2 x.code.length c2) := by have h9 := p2; change wr.cell? ⟨(ad.add (j * 3)).block, (ad.add (j * 3)).off + 2, none⟩ = some (.slice A2 (mkL mkIns ctIns (K + 1 + 1) x.code).length c2) at h9; rwa [le2] at h9
    have HK := Lib.hid hK
    unfold ctFunc at hK1
    clear hget hle hx hK p0 p1 p2 hr2 hl2 le2
    have HR2 := Lib.hid r2
    clear r2
    have hb0 := Below.refl wr.heap.size wr
    go_wp2_with fail
    refine (heldInsS_c A2 c2 x.code (K + 1 + 1) _ (HR2.out.below hb0) (by omega) (by omega) hMx).mono ?_
    rintro e w2_ ⟨rfl, hc2⟩
    have hb3 := bl_step hb0 hc2
    clear hc2
    have hkz2 : 0 ≤ K + 1 + 1 + (ctL ctIns x.code : Int) := by omega
    go_wp2
    go_roundw
    case rel => exact ⟨j + 1, by omega, by rw [hct.out, ← HK.out]; simp [ctFunc]; omega, by go_num, bl_step hb hb3⟩
    case measure => simp [intOf]; omega
theorem St.modN {w W : World} {L : List Res} {A B : Option Addr} {n m c d : Nat} {t : List ByteArray} {l : List DFunc} {F G : List Nat} (h : St w L W) (i : Nat) (hi : L[i]? = some (Res.mod (.slice A n c) (.slice B m d) t l F G)) (hn : t.length = n) (hm : l.length = m) : Knd.str.Row W A n t ∧ kFunc.Row W B m l := by
  have h1 := St.modA h i hi
  rwa [hn, hm] at h1
theorem heldModule_c (A B : Option Addr) (c d : Nat) (t : List ByteArray) (l : List DFunc) (k : Int) (w : World) (ht : Knd.str.Row w A t.length (mkL mkStr (fun _ => 1) k t)) (hr : kFunc.Row w B l.length (mkL mkFunc ctFunc (k + t.length) l)) (h0 : 0 ≤ k) (h1 : k + t.length + ctL ctFunc l ≤ 1152921504606846976) (hm : t.length ≤ 1048576 ∧ l.length ≤ 1048576 ∧ ∀ x ∈ l, x.code.length ≤ 1048576) :
    Calls Tryz.prog 33 #[.agg #[.slice A t.length c, .slice B l.length d], .int .i64 k] w fun e w' => e = .returned (.int .i64 (k + t.length + ctL ctFunc l)) ∧ Below w.heap.size w w' := by
  have hS := (St.start w).made (.cells #[.slice A t.length c, .slice B l.length d] 37 (0, 0))
  have e1 := ctL_one t
  have C := heldStringS_c A c t k
  rw [e1] at C
  have g0 : 0 ≤ k + (t.length : Int) := by omega
  have g1 : 0 ≤ k + (t.length : Int) + (ctL ctFunc l : Int) := by omega
  clear e1
  go_enter Tryz.func33, Tryz.ntmps33
  go_wp2_with fail
  refine (C _ (ht.below hS.bel) h0 (by omega) hm.1).mono ?_
  rintro e w1 ⟨rfl, hb⟩
  replace hS := hS.step hb
  have x_b := hS.cell 0 rfl
  clear hb
  go_wp2_with fail
  refine (heldFuncS_c B d l _ _ (hr.below hS.bel) (by omega) (by omega) hm.2).mono ?_
  rintro e w2 ⟨rfl, hb⟩
  go_wp2
  go_ret
  exact ⟨rfl, (hS.step hb).bel⟩
end Go.Proofs.YticlknijmnddeaaGreat.Dat

/- The laws' own functions over Tier. Written by a program (recgen.py). -/
import Derived.Test.YthinhlcfpaaldaaGreatK4
import Derived.Test.YthinhlcfpaaldaaGreatGFail
import Derived.Test.YthinhlcfpaaldaaGreatGFast
namespace Go.Proofs.YthinhlcfpaaldaaGreat.Dat
open Go Go.RowKit Go.Proofs.YthinhlcfpaaldaaGreat.Mem
set_option linter.unusedVariables false
set_option linter.unusedSimpArgs false
/-- A box written anew from a place on. -/
theorem _root_.Go.Proofs.YthinhlcfpaaldaaGreat.Mem.St.fill {w : World} (vs : List Value) : ∀ {W : World} {L : List Res} (i : Nat) {g : Nat} {cs : Array Value} {t : TypeId} (h : St w L W) (hi : L[i]? = some (Res.box g (.cells cs t (0, 0)))) (o : Nat), St w (L.set i (Res.box g (.cells (setL cs.toList o vs).toArray t (0, 0)))) (setCells g W o vs) := by
  induction vs with
  | nil =>
    intro W L i g cs t h hi o
    obtain ⟨hl, e⟩ := List.getElem?_eq_some_iff.1 hi
    have e2 : L.set i (Res.box g (.cells (setL cs.toList o []).toArray t (0, 0))) = L := by
      rw [setL, Array.toArray_toList, ← e, List.set_getElem_self]
    rw [e2]
    exact h
  | cons v vs ih =>
    intro W L i g cs t h hi o
    have hl : i < L.length := (List.getElem?_eq_some_iff.1 hi).1
    have h2 := ih i (h.set i hi o v) (by rw [List.getElem?_set_self hl]) (o + 1)
    rw [List.set_set] at h2
    have e : (cs.setIfInBounds o v).toList = cs.toList.set o v := by simp
    rw [e] at h2
    rw [setCells, setL]
    exact h2
theorem _root_.Go.Proofs.YthinhlcfpaaldaaGreat.Mem.St.pre {w W : World} {L1 L2 : List Res} (h : St w (L1 ++ L2) W) : St w L1 W :=
  ⟨h.bel, fun q hq => h.at_ q (List.mem_append_left _ hq), fun q hq => h.old q (List.mem_append_left _ hq), by
    have hd := h.dis
    rw [List.map_append, List.flatten_append] at hd
    exact (List.nodup_append.1 hd).1⟩
structure DTier where
  vm : DVm
  sites : List DSite
  codes : List DFast
  fails : List DFail
  guards : Int
  entered : Int
/-- What is handed in meets this. -/
def VTier (x : DTier) : Prop := VVm x.vm ∧ (x.sites.length ≤ maxLen ∧ ∀ y ∈ x.sites, VSite y) ∧ (x.codes.length ≤ maxLen ∧ ∀ y ∈ x.codes, VFast y) ∧ (x.fails.length ≤ maxLen ∧ ∀ y ∈ x.fails, VFail y) ∧ (Lit.int .i64 x.guards).wf = true ∧ (Lit.int .i64 x.entered).wf = true
def msTier (x : DTier) : Nat := msVm x.vm + x.sites.length + sumOf msFast x.codes + x.fails.length
/-- What a small measure gives. -/
def MTier (x : DTier) : Prop := MVm x.vm ∧ (x.sites.length ≤ 1048576) ∧ (x.codes.length ≤ 1048576 ∧ ∀ y ∈ x.codes, MFast y) ∧ (x.fails.length ≤ 1048576)
theorem MTier_of {x : DTier} (h : msTier x ≤ 1048576) : MTier x := by
  unfold msTier at h
  try simp only [sumOf] at h
  unfold MTier
  exact ⟨MVm_of (by omega), by omega, ⟨by omega, fun y hy => by have h9 := mem_sum msFast _ y hy; exact MFast_of (by omega)⟩, by omega⟩
set_option maxHeartbeats 4000000 in
set_option maxRecDepth 100000 in
theorem szTier_c (A0 A1 A3 A10 A11 A12 : Option Addr) (c0 c1 c3 c10 c11 c12 : Nat) (x : DTier) (left : Int) (w : World) (r0 : kFrame.Row w A0 x.vm.frames.length x.vm.frames) (r1 : kRec.Row w A1 x.vm.heap.length x.vm.heap) (r3 : Knd.str.Row w A3 x.vm.out.length x.vm.out) (r10 : kSite.Row w A10 x.sites.length x.sites) (r11 : kFast.Row w A11 x.codes.length x.codes) (r12 : kFail.Row w A12 x.fails.length x.fails) (hV : VTier x) (h0 : 0 ≤ left) (h1 : left ≤ 1048576) : Calls Tryz.prog 24 #[.agg #[.slice A0 x.vm.frames.length c0, .slice A1 x.vm.heap.length c1, .int .i64 x.vm.made, .slice A3 x.vm.out.length c3, .int .i64 x.vm.status, .int .i64 x.vm.trap, .int .i64 x.vm.value.k, .int .i64 x.vm.value.n, .string x.vm.value.s, .int .i64 x.vm.steps, .slice A10 x.sites.length c10, .slice A11 x.codes.length c11, .slice A12 x.fails.length c12, .int .i64 x.guards, .int .i64 x.entered], .int .i64 left] w fun e w' => e = .returned (.int .i64 (lft (msTier x) left)) ∧ Below w.heap.size w w' := by
  have hS := (St.start w).made (.cells #[.slice A0 x.vm.frames.length c0, .slice A1 x.vm.heap.length c1, .int .i64 x.vm.made, .slice A3 x.vm.out.length c3, .int .i64 x.vm.status, .int .i64 x.vm.trap, .int .i64 x.vm.value.k, .int .i64 x.vm.value.n, .string x.vm.value.s, .int .i64 x.vm.steps, .slice A10 x.sites.length c10, .slice A11 x.codes.length c11, .slice A12 x.fails.length c12, .int .i64 x.guards, .int .i64 x.entered] 60 (0, 0))
  by_cases k0 : ((msVm x.vm : Nat) : Int) ≤ left
  rotate_left
  · skip
    have C0 := szVm_c A0 A1 A3 c0 c1 c3 x.vm left
    rw [lft_gt (by omega)] at C0
    have HE := Lib.hid (show (-1 : Int) = lft (msTier x) left by unfold msTier; rw [lft_gt (by omega)])
    go_enter Tryz.func24, Tryz.ntmps24
    go_wp2_with fail
    refine (C0 _ (r0.below hS.bel) (r1.below hS.bel) (r3.below hS.bel) hV.1 (by omega) (by omega)).mono ?_
    rintro e w1 ⟨rfl, hb⟩
    replace hS := hS.step hb
    have xb := hS.cell 0 rfl
    have yb := hS.blt 0 rfl
    clear hb
    go_wp2
    go_ret
    exact ⟨ret_int HE.out, hS.bel⟩
  by_cases k1 : ((x.sites.length : Nat) : Int) ≤ left - (msVm x.vm : Int)
  rotate_left
  · skip
    have C0 := szVm_c A0 A1 A3 c0 c1 c3 x.vm left
    rw [lft_le k0] at C0
    have C1 := szSiteS_c A10 c10 x.sites (left - (msVm x.vm : Int))
    rw [lft_gt (by omega)] at C1
    have g0 : 0 ≤ left - (msVm x.vm : Int) := by omega
    have HE := Lib.hid (show (-1 : Int) = lft (msTier x) left by unfold msTier; rw [lft_gt (by omega)])
    go_enter Tryz.func24, Tryz.ntmps24
    go_wp2_with fail
    refine (C0 _ (r0.below hS.bel) (r1.below hS.bel) (r3.below hS.bel) hV.1 (by omega) (by omega)).mono ?_
    rintro e w1 ⟨rfl, hb⟩
    replace hS := hS.step hb
    have xb := hS.cell 0 rfl
    have yb := hS.blt 0 rfl
    clear hb
    go_wp2_with fail
    refine (C1 _ (r10.below hS.bel) hV.2.1.1 hV.2.1.2 (by omega) (by omega)).mono ?_
    rintro e w2 ⟨rfl, hb⟩
    replace hS := hS.step hb
    have xb := hS.cell 0 rfl
    have yb := hS.blt 0 rfl
    clear hb
    go_wp2
    go_ret
    exact ⟨ret_int HE.out, hS.bel⟩
  by_cases k2 : ((sumOf msFast x.codes : Nat) : Int) ≤ left - (msVm x.vm : Int) - (x.sites.length : Int)
  rotate_left
  · skip
    have C0 := szVm_c A0 A1 A3 c0 c1 c3 x.vm left
    rw [lft_le k0] at C0
    have C1 := szSiteS_c A10 c10 x.sites (left - (msVm x.vm : Int))
    rw [lft_le k1] at C1
    have C2 := szFastS_c A11 c11 x.codes (left - (msVm x.vm : Int) - (x.sites.length : Int))
    rw [lft_gt (by omega)] at C2
    have g0 : 0 ≤ left - (msVm x.vm : Int) := by omega
    have g1 : 0 ≤ left - (msVm x.vm : Int) - (x.sites.length : Int) := by omega
    have HE := Lib.hid (show (-1 : Int) = lft (msTier x) left by unfold msTier; rw [lft_gt (by omega)])
    go_enter Tryz.func24, Tryz.ntmps24
    go_wp2_with fail
    refine (C0 _ (r0.below hS.bel) (r1.below hS.bel) (r3.below hS.bel) hV.1 (by omega) (by omega)).mono ?_
    rintro e w1 ⟨rfl, hb⟩
    replace hS := hS.step hb
    have xb := hS.cell 0 rfl
    have yb := hS.blt 0 rfl
    clear hb
    go_wp2_with fail
    refine (C1 _ (r10.below hS.bel) hV.2.1.1 hV.2.1.2 (by omega) (by omega)).mono ?_
    rintro e w2 ⟨rfl, hb⟩
    replace hS := hS.step hb
    have xb := hS.cell 0 rfl
    have yb := hS.blt 0 rfl
    clear hb
    go_wp2_with fail
    refine (C2 _ (r11.below hS.bel) hV.2.2.1.1 hV.2.2.1.2 (by omega) (by omega)).mono ?_
    rintro e w3 ⟨rfl, hb⟩
    replace hS := hS.step hb
    have xb := hS.cell 0 rfl
    have yb := hS.blt 0 rfl
    clear hb
    go_wp2
    go_ret
    exact ⟨ret_int HE.out, hS.bel⟩
  by_cases k3 : ((x.fails.length : Nat) : Int) ≤ left - (msVm x.vm : Int) - (x.sites.length : Int) - (sumOf msFast x.codes : Int)
  rotate_left
  · skip
    have C0 := szVm_c A0 A1 A3 c0 c1 c3 x.vm left
    rw [lft_le k0] at C0
    have C1 := szSiteS_c A10 c10 x.sites (left - (msVm x.vm : Int))
    rw [lft_le k1] at C1
    have C2 := szFastS_c A11 c11 x.codes (left - (msVm x.vm : Int) - (x.sites.length : Int))
    rw [lft_le k2] at C2
    have C3 := szFailS_c A12 c12 x.fails (left - (msVm x.vm : Int) - (x.sites.length : Int) - (sumOf msFast x.codes : Int))
    rw [lft_gt (by omega)] at C3
    have g0 : 0 ≤ left - (msVm x.vm : Int) := by omega
    have g1 : 0 ≤ left - (msVm x.vm : Int) - (x.sites.length : Int) := by omega
    have g2 : 0 ≤ left - (msVm x.vm : Int) - (x.sites.length : Int) - (sumOf msFast x.codes : Int) := by omega
    have HE := Lib.hid (show (-1 : Int) = lft (msTier x) left by unfold msTier; rw [lft_gt (by omega)])
    go_enter Tryz.func24, Tryz.ntmps24
    go_wp2_with fail
    refine (C0 _ (r0.below hS.bel) (r1.below hS.bel) (r3.below hS.bel) hV.1 (by omega) (by omega)).mono ?_
    rintro e w1 ⟨rfl, hb⟩
    replace hS := hS.step hb
    have xb := hS.cell 0 rfl
    have yb := hS.blt 0 rfl
    clear hb
    go_wp2_with fail
    refine (C1 _ (r10.below hS.bel) hV.2.1.1 hV.2.1.2 (by omega) (by omega)).mono ?_
    rintro e w2 ⟨rfl, hb⟩
    replace hS := hS.step hb
    have xb := hS.cell 0 rfl
    have yb := hS.blt 0 rfl
    clear hb
    go_wp2_with fail
    refine (C2 _ (r11.below hS.bel) hV.2.2.1.1 hV.2.2.1.2 (by omega) (by omega)).mono ?_
    rintro e w3 ⟨rfl, hb⟩
    replace hS := hS.step hb
    have xb := hS.cell 0 rfl
    have yb := hS.blt 0 rfl
    clear hb
    go_wp2_with fail
    refine (C3 _ (r12.below hS.bel) hV.2.2.2.1.1 hV.2.2.2.1.2 (by omega) (by omega)).mono ?_
    rintro e w4 ⟨rfl, hb⟩
    replace hS := hS.step hb
    have xb := hS.cell 0 rfl
    have yb := hS.blt 0 rfl
    clear hb
    go_wp2
    go_ret
    exact ⟨ret_int HE.out, hS.bel⟩
  have C0 := szVm_c A0 A1 A3 c0 c1 c3 x.vm left
  rw [lft_le k0] at C0
  have C1 := szSiteS_c A10 c10 x.sites (left - (msVm x.vm : Int))
  rw [lft_le k1] at C1
  have C2 := szFastS_c A11 c11 x.codes (left - (msVm x.vm : Int) - (x.sites.length : Int))
  rw [lft_le k2] at C2
  have C3 := szFailS_c A12 c12 x.fails (left - (msVm x.vm : Int) - (x.sites.length : Int) - (sumOf msFast x.codes : Int))
  rw [lft_le k3] at C3
  have g0 : 0 ≤ left - (msVm x.vm : Int) := by omega
  have g1 : 0 ≤ left - (msVm x.vm : Int) - (x.sites.length : Int) := by omega
  have g2 : 0 ≤ left - (msVm x.vm : Int) - (x.sites.length : Int) - (sumOf msFast x.codes : Int) := by omega
  have g3 : 0 ≤ left - (msVm x.vm : Int) - (x.sites.length : Int) - (sumOf msFast x.codes : Int) - (x.fails.length : Int) := by omega
  have HE := Lib.hid (show left - (msVm x.vm : Int) - (x.sites.length : Int) - (sumOf msFast x.codes : Int) - (x.fails.length : Int) = lft (msTier x) left by unfold msTier; rw [lft_le (by omega)]; omega)
  go_enter Tryz.func24, Tryz.ntmps24
  go_wp2_with fail
  refine (C0 _ (r0.below hS.bel) (r1.below hS.bel) (r3.below hS.bel) hV.1 (by omega) (by omega)).mono ?_
  rintro e w1 ⟨rfl, hb⟩
  replace hS := hS.step hb
  have xb := hS.cell 0 rfl
  have yb := hS.blt 0 rfl
  clear hb
  go_wp2_with fail
  refine (C1 _ (r10.below hS.bel) hV.2.1.1 hV.2.1.2 (by omega) (by omega)).mono ?_
  rintro e w2 ⟨rfl, hb⟩
  replace hS := hS.step hb
  have xb := hS.cell 0 rfl
  have yb := hS.blt 0 rfl
  clear hb
  go_wp2_with fail
  refine (C2 _ (r11.below hS.bel) hV.2.2.1.1 hV.2.2.1.2 (by omega) (by omega)).mono ?_
  rintro e w3 ⟨rfl, hb⟩
  replace hS := hS.step hb
  have xb := hS.cell 0 rfl
  have yb := hS.blt 0 rfl
  clear hb
  go_wp2_with fail
  refine (C3 _ (r12.below hS.bel) hV.2.2.2.1.1 hV.2.2.2.1.2 (by omega) (by omega)).mono ?_
  rintro e w4 ⟨rfl, hb⟩
  replace hS := hS.step hb
  have xb := hS.cell 0 rfl
  have yb := hS.blt 0 rfl
  clear hb
  go_wp2
  go_ret
  exact ⟨ret_int HE.out, hS.bel⟩
set_option maxHeartbeats 4000000 in
set_option maxRecDepth 100000 in
theorem toTier_c (A0 A1 A3 A10 A11 A12 : Option Addr) (c0 c1 c3 c10 c11 c12 : Nat) (x : DTier) (w : World) (r0 : kFrame.Row w A0 x.vm.frames.length x.vm.frames) (r1 : kRec.Row w A1 x.vm.heap.length x.vm.heap) (r3 : Knd.str.Row w A3 x.vm.out.length x.vm.out) (r10 : kSite.Row w A10 x.sites.length x.sites) (r11 : kFast.Row w A11 x.codes.length x.codes) (r12 : kFail.Row w A12 x.fails.length x.fails) (hM : MTier x) : Calls Tryz.prog 26 #[.agg #[.slice A0 x.vm.frames.length c0, .slice A1 x.vm.heap.length c1, .int .i64 x.vm.made, .slice A3 x.vm.out.length c3, .int .i64 x.vm.status, .int .i64 x.vm.trap, .int .i64 x.vm.value.k, .int .i64 x.vm.value.n, .string x.vm.value.s, .int .i64 x.vm.steps, .slice A10 x.sites.length c10, .slice A11 x.codes.length c11, .slice A12 x.fails.length c12, .int .i64 x.guards, .int .i64 x.entered]] w (fun en w' => ∃ (v0 v1 v3 v10 v11 v12 : Value) (F0 F1 F3 F10 F11 F12 : List Nat), en = .returned (.agg #[v0, v1, .int .i64 x.vm.made, v3, .int .i64 x.vm.status, .int .i64 x.vm.trap, .int .i64 x.vm.value.k, .int .i64 x.vm.value.n, .string x.vm.value.s, .int .i64 x.vm.steps, v10, v11, v12, .int .i64 x.guards, .int .i64 x.entered]) ∧ St w [Res.own kFrame 145 v0 x.vm.frames F0, Res.own kRec 148 v1 x.vm.heap F1, Res.own Knd.str 9 v3 x.vm.out F3, Res.own kSite 156 v10 x.sites F10, Res.own kFast 41 v11 x.codes F11, Res.own kFail 217 v12 x.fails F12] w') := by
  have hS := (((St.start w).made (.cells #[.slice A0 x.vm.frames.length c0, .slice A1 x.vm.heap.length c1, .int .i64 x.vm.made, .slice A3 x.vm.out.length c3, .int .i64 x.vm.status, .int .i64 x.vm.trap, .int .i64 x.vm.value.k, .int .i64 x.vm.value.n, .string x.vm.value.s, .int .i64 x.vm.steps, .slice A10 x.sites.length c10, .slice A11 x.codes.length c11, .slice A12 x.fails.length c12, .int .i64 x.guards, .int .i64 x.entered] 60 (0, 0))).madeAt (.cells #[.slice none 0 0, .slice none 0 0, .int .i64 0, .slice none 0 0, .int .i64 0, .int .i64 0, .int .i64 0, .int .i64 0, .string (⟨#[]⟩ : ByteArray), .int .i64 0, .slice none 0 0, .slice none 0 0, .slice none 0 0, .int .i64 0, .int .i64 0] 72 (0, 0)) (w.heap.size + 1) (by simp)).madeAt (.cells #[.slice none 0 0, .slice none 0 0, .int .i64 0, .slice none 0 0, .int .i64 0, .int .i64 0, .int .i64 0, .int .i64 0, .string (⟨#[]⟩ : ByteArray), .int .i64 0, .slice none 0 0, .slice none 0 0, .slice none 0 0, .int .i64 0, .int .i64 0] 72 (0, 0)) (w.heap.size + 1 + 1) (by simp)
  have x_p := hS.cell 2 rfl
  go_enter Tryz.func26, Tryz.ntmps26
  go_wp2_with fail
  refine (toVm_c _ _ _ _ _ _ x.vm _ (r0.below hS.bel) (r1.below hS.bel) (r3.below hS.bel) hM.1).mono ?_
  rintro e w1 ⟨v0, v1, v3, F0, F1, F3, rfl, hSx⟩
  replace hS := hS.join hSx
  clear hSx x_p
  obtain ⟨Av0, cv0, rfl, _, _⟩ := hS.row 0 rfl
  obtain ⟨Av1, cv1, rfl, _, _⟩ := hS.row 1 rfl
  obtain ⟨Av3, cv3, rfl, _, _⟩ := hS.row 2 rfl
  have x_o := hS.cell 3 rfl
  have f_o := hS.free 3 rfl
  have HS : Hid (St w [Res.own kFrame 145 (.slice Av0 x.vm.frames.length cv0) x.vm.frames F0, Res.own kRec 148 (.slice Av1 x.vm.heap.length cv1) x.vm.heap F1, Res.own Knd.str 9 (.slice Av3 x.vm.out.length cv3) x.vm.out F3, Res.box (w.heap.size + 1 + 1) (.cells #[.slice Av0 x.vm.frames.length cv0, .slice Av1 x.vm.heap.length cv1, .int .i64 x.vm.made, .slice Av3 x.vm.out.length cv3, .int .i64 x.vm.status, .int .i64 x.vm.trap, .int .i64 x.vm.value.k, .int .i64 x.vm.value.n, .string x.vm.value.s, .int .i64 x.vm.steps, .slice none 0 0, .slice none 0 0, .slice none 0 0, .int .i64 0, .int .i64 0] 72 (0, 0)), Res.box (w.heap.size + 1) (.cells #[.slice none 0 0, .slice none 0 0, .int .i64 0, .slice none 0 0, .int .i64 0, .int .i64 0, .int .i64 0, .int .i64 0, .string (⟨#[]⟩ : ByteArray), .int .i64 0, .slice none 0 0, .slice none 0 0, .slice none 0 0, .int .i64 0, .int .i64 0] 72 (0, 0)), Res.box w.heap.size (.cells #[.slice A0 x.vm.frames.length c0, .slice A1 x.vm.heap.length c1, .int .i64 x.vm.made, .slice A3 x.vm.out.length c3, .int .i64 x.vm.status, .int .i64 x.vm.trap, .int .i64 x.vm.value.k, .int .i64 x.vm.value.n, .string x.vm.value.s, .int .i64 x.vm.steps, .slice A10 x.sites.length c10, .slice A11 x.codes.length c11, .slice A12 x.fails.length c12, .int .i64 x.guards, .int .i64 x.entered] 60 (0, 0))] ((((((((((w1.setCell ⟨(w.heap.size + 1 + 1), 0, none⟩ (.slice Av0 x.vm.frames.length cv0)).setCell ⟨(w.heap.size + 1 + 1), 1, none⟩ (.slice Av1 x.vm.heap.length cv1)).setCell ⟨(w.heap.size + 1 + 1), 2, none⟩ (.int .i64 x.vm.made)).setCell ⟨(w.heap.size + 1 + 1), 3, none⟩ (.slice Av3 x.vm.out.length cv3)).setCell ⟨(w.heap.size + 1 + 1), 4, none⟩ (.int .i64 x.vm.status)).setCell ⟨(w.heap.size + 1 + 1), 5, none⟩ (.int .i64 x.vm.trap)).setCell ⟨(w.heap.size + 1 + 1), 6, none⟩ (.int .i64 x.vm.value.k)).setCell ⟨(w.heap.size + 1 + 1), 7, none⟩ (.int .i64 x.vm.value.n)).setCell ⟨(w.heap.size + 1 + 1), 8, none⟩ (.string x.vm.value.s)).setCell ⟨(w.heap.size + 1 + 1), 9, none⟩ (.int .i64 x.vm.steps))) := Lib.hid (St.fill [.slice Av0 x.vm.frames.length cv0, .slice Av1 x.vm.heap.length cv1, .int .i64 x.vm.made, .slice Av3 x.vm.out.length cv3, .int .i64 x.vm.status, .int .i64 x.vm.trap, .int .i64 x.vm.value.k, .int .i64 x.vm.value.n, .string x.vm.value.s, .int .i64 x.vm.steps] 3 hS rfl 0)
  have x_n := HS.out.cell 5 rfl
  go_wp2_with fail
  refine (toSiteS_c A10 c10 x.sites _ (r10.below HS.out.bel) hM.2.1).mono ?_
  intro e w2 hn
  obtain ⟨v10, F10, rfl, hS2⟩ := HS.out.newRow hn
  obtain ⟨Av10, cv10, rfl, _, _⟩ := hS2.row 0 rfl
  clear hS hn HS x_n x_o f_o
  have hS := hS2
  clear hS2
  have x_o := hS.cell 4 rfl
  have f_o := hS.free 4 rfl
  have HS : Hid (St w [Res.own kSite 156 (.slice Av10 x.sites.length cv10) x.sites F10, Res.own kFrame 145 (.slice Av0 x.vm.frames.length cv0) x.vm.frames F0, Res.own kRec 148 (.slice Av1 x.vm.heap.length cv1) x.vm.heap F1, Res.own Knd.str 9 (.slice Av3 x.vm.out.length cv3) x.vm.out F3, Res.box (w.heap.size + 1 + 1) (.cells #[.slice Av0 x.vm.frames.length cv0, .slice Av1 x.vm.heap.length cv1, .int .i64 x.vm.made, .slice Av3 x.vm.out.length cv3, .int .i64 x.vm.status, .int .i64 x.vm.trap, .int .i64 x.vm.value.k, .int .i64 x.vm.value.n, .string x.vm.value.s, .int .i64 x.vm.steps, .slice Av10 x.sites.length cv10, .slice none 0 0, .slice none 0 0, .int .i64 0, .int .i64 0] 72 (0, 0)), Res.box (w.heap.size + 1) (.cells #[.slice none 0 0, .slice none 0 0, .int .i64 0, .slice none 0 0, .int .i64 0, .int .i64 0, .int .i64 0, .int .i64 0, .string (⟨#[]⟩ : ByteArray), .int .i64 0, .slice none 0 0, .slice none 0 0, .slice none 0 0, .int .i64 0, .int .i64 0] 72 (0, 0)), Res.box w.heap.size (.cells #[.slice A0 x.vm.frames.length c0, .slice A1 x.vm.heap.length c1, .int .i64 x.vm.made, .slice A3 x.vm.out.length c3, .int .i64 x.vm.status, .int .i64 x.vm.trap, .int .i64 x.vm.value.k, .int .i64 x.vm.value.n, .string x.vm.value.s, .int .i64 x.vm.steps, .slice A10 x.sites.length c10, .slice A11 x.codes.length c11, .slice A12 x.fails.length c12, .int .i64 x.guards, .int .i64 x.entered] 60 (0, 0))] (w2.setCell ⟨(w.heap.size + 1 + 1), 10, none⟩ (.slice Av10 x.sites.length cv10))) := Lib.hid (St.fill [.slice Av10 x.sites.length cv10] 4 hS rfl 10)
  have x_n := HS.out.cell 6 rfl
  go_wp2_with fail
  refine (toFastS_c A11 c11 x.codes _ (r11.below HS.out.bel) hM.2.2.1).mono ?_
  intro e w3 hn
  obtain ⟨v11, F11, rfl, hS2⟩ := HS.out.newRow hn
  obtain ⟨Av11, cv11, rfl, _, _⟩ := hS2.row 0 rfl
  clear hS hn HS x_n x_o f_o
  have hS := hS2
  clear hS2
  have x_o := hS.cell 5 rfl
  have f_o := hS.free 5 rfl
  have HS : Hid (St w [Res.own kFast 41 (.slice Av11 x.codes.length cv11) x.codes F11, Res.own kSite 156 (.slice Av10 x.sites.length cv10) x.sites F10, Res.own kFrame 145 (.slice Av0 x.vm.frames.length cv0) x.vm.frames F0, Res.own kRec 148 (.slice Av1 x.vm.heap.length cv1) x.vm.heap F1, Res.own Knd.str 9 (.slice Av3 x.vm.out.length cv3) x.vm.out F3, Res.box (w.heap.size + 1 + 1) (.cells #[.slice Av0 x.vm.frames.length cv0, .slice Av1 x.vm.heap.length cv1, .int .i64 x.vm.made, .slice Av3 x.vm.out.length cv3, .int .i64 x.vm.status, .int .i64 x.vm.trap, .int .i64 x.vm.value.k, .int .i64 x.vm.value.n, .string x.vm.value.s, .int .i64 x.vm.steps, .slice Av10 x.sites.length cv10, .slice Av11 x.codes.length cv11, .slice none 0 0, .int .i64 0, .int .i64 0] 72 (0, 0)), Res.box (w.heap.size + 1) (.cells #[.slice none 0 0, .slice none 0 0, .int .i64 0, .slice none 0 0, .int .i64 0, .int .i64 0, .int .i64 0, .int .i64 0, .string (⟨#[]⟩ : ByteArray), .int .i64 0, .slice none 0 0, .slice none 0 0, .slice none 0 0, .int .i64 0, .int .i64 0] 72 (0, 0)), Res.box w.heap.size (.cells #[.slice A0 x.vm.frames.length c0, .slice A1 x.vm.heap.length c1, .int .i64 x.vm.made, .slice A3 x.vm.out.length c3, .int .i64 x.vm.status, .int .i64 x.vm.trap, .int .i64 x.vm.value.k, .int .i64 x.vm.value.n, .string x.vm.value.s, .int .i64 x.vm.steps, .slice A10 x.sites.length c10, .slice A11 x.codes.length c11, .slice A12 x.fails.length c12, .int .i64 x.guards, .int .i64 x.entered] 60 (0, 0))] (w3.setCell ⟨(w.heap.size + 1 + 1), 11, none⟩ (.slice Av11 x.codes.length cv11))) := Lib.hid (St.fill [.slice Av11 x.codes.length cv11] 5 hS rfl 11)
  have x_n := HS.out.cell 7 rfl
  go_wp2_with fail
  refine (toFailS_c A12 c12 x.fails _ (r12.below HS.out.bel) hM.2.2.2).mono ?_
  intro e w4 hn
  obtain ⟨v12, F12, rfl, hS2⟩ := HS.out.newRow hn
  obtain ⟨Av12, cv12, rfl, _, _⟩ := hS2.row 0 rfl
  clear hS hn HS x_n x_o f_o
  have hS := hS2
  clear hS2
  have x_p := hS.cell 8 rfl
  have x_o := hS.cell 6 rfl
  have f_o := hS.free 6 rfl
  have f_r := hS.free 7 rfl
  have x_r := hS.cell 7 rfl
  have hS3 : St w [Res.own kFail 217 (.slice Av12 x.fails.length cv12) x.fails F12, Res.own kFast 41 (.slice Av11 x.codes.length cv11) x.codes F11, Res.own kSite 156 (.slice Av10 x.sites.length cv10) x.sites F10, Res.own kFrame 145 (.slice Av0 x.vm.frames.length cv0) x.vm.frames F0, Res.own kRec 148 (.slice Av1 x.vm.heap.length cv1) x.vm.heap F1, Res.own Knd.str 9 (.slice Av3 x.vm.out.length cv3) x.vm.out F3, Res.box (w.heap.size + 1 + 1) (.cells #[.slice Av0 x.vm.frames.length cv0, .slice Av1 x.vm.heap.length cv1, .int .i64 x.vm.made, .slice Av3 x.vm.out.length cv3, .int .i64 x.vm.status, .int .i64 x.vm.trap, .int .i64 x.vm.value.k, .int .i64 x.vm.value.n, .string x.vm.value.s, .int .i64 x.vm.steps, .slice Av10 x.sites.length cv10, .slice Av11 x.codes.length cv11, .slice Av12 x.fails.length cv12, .int .i64 x.guards, .int .i64 x.entered] 72 (0, 0)), Res.box (w.heap.size + 1) (.cells #[.slice none 0 0, .slice none 0 0, .int .i64 0, .slice none 0 0, .int .i64 0, .int .i64 0, .int .i64 0, .int .i64 0, .string (⟨#[]⟩ : ByteArray), .int .i64 0, .slice none 0 0, .slice none 0 0, .slice none 0 0, .int .i64 0, .int .i64 0] 72 (0, 0)), Res.box w.heap.size (.cells #[.slice A0 x.vm.frames.length c0, .slice A1 x.vm.heap.length c1, .int .i64 x.vm.made, .slice A3 x.vm.out.length c3, .int .i64 x.vm.status, .int .i64 x.vm.trap, .int .i64 x.vm.value.k, .int .i64 x.vm.value.n, .string x.vm.value.s, .int .i64 x.vm.steps, .slice A10 x.sites.length c10, .slice A11 x.codes.length c11, .slice A12 x.fails.length c12, .int .i64 x.guards, .int .i64 x.entered] 60 (0, 0))] (((w4.setCell ⟨(w.heap.size + 1 + 1), 12, none⟩ (.slice Av12 x.fails.length cv12)).setCell ⟨(w.heap.size + 1 + 1), 13, none⟩ (.int .i64 x.guards)).setCell ⟨(w.heap.size + 1 + 1), 14, none⟩ (.int .i64 x.entered)) := St.fill [.slice Av12 x.fails.length cv12, .int .i64 x.guards, .int .i64 x.entered] 6 hS rfl 12
  have x_q := hS3.cell 6 rfl
  have x_s := hS3.cell 7 rfl
  have f_s := hS3.free 7 rfl
  have hS4 : St w [Res.own kFail 217 (.slice Av12 x.fails.length cv12) x.fails F12, Res.own kFast 41 (.slice Av11 x.codes.length cv11) x.codes F11, Res.own kSite 156 (.slice Av10 x.sites.length cv10) x.sites F10, Res.own kFrame 145 (.slice Av0 x.vm.frames.length cv0) x.vm.frames F0, Res.own kRec 148 (.slice Av1 x.vm.heap.length cv1) x.vm.heap F1, Res.own Knd.str 9 (.slice Av3 x.vm.out.length cv3) x.vm.out F3, Res.box (w.heap.size + 1 + 1) (.cells #[.slice Av0 x.vm.frames.length cv0, .slice Av1 x.vm.heap.length cv1, .int .i64 x.vm.made, .slice Av3 x.vm.out.length cv3, .int .i64 x.vm.status, .int .i64 x.vm.trap, .int .i64 x.vm.value.k, .int .i64 x.vm.value.n, .string x.vm.value.s, .int .i64 x.vm.steps, .slice Av10 x.sites.length cv10, .slice Av11 x.codes.length cv11, .slice Av12 x.fails.length cv12, .int .i64 x.guards, .int .i64 x.entered] 72 (0, 0)), Res.box (w.heap.size + 1) (.cells #[.slice Av0 x.vm.frames.length cv0, .slice Av1 x.vm.heap.length cv1, .int .i64 x.vm.made, .slice Av3 x.vm.out.length cv3, .int .i64 x.vm.status, .int .i64 x.vm.trap, .int .i64 x.vm.value.k, .int .i64 x.vm.value.n, .string x.vm.value.s, .int .i64 x.vm.steps, .slice Av10 x.sites.length cv10, .slice Av11 x.codes.length cv11, .slice Av12 x.fails.length cv12, .int .i64 x.guards, .int .i64 x.entered] 72 (0, 0)), Res.box w.heap.size (.cells #[.slice A0 x.vm.frames.length c0, .slice A1 x.vm.heap.length c1, .int .i64 x.vm.made, .slice A3 x.vm.out.length c3, .int .i64 x.vm.status, .int .i64 x.vm.trap, .int .i64 x.vm.value.k, .int .i64 x.vm.value.n, .string x.vm.value.s, .int .i64 x.vm.steps, .slice A10 x.sites.length c10, .slice A11 x.codes.length c11, .slice A12 x.fails.length c12, .int .i64 x.guards, .int .i64 x.entered] 60 (0, 0))] ((((((((((((((((((w4.setCell ⟨(w.heap.size + 1 + 1), 12, none⟩ (.slice Av12 x.fails.length cv12)).setCell ⟨(w.heap.size + 1 + 1), 13, none⟩ (.int .i64 x.guards)).setCell ⟨(w.heap.size + 1 + 1), 14, none⟩ (.int .i64 x.entered)).setCell ⟨(w.heap.size + 1), 0, none⟩ (.slice Av0 x.vm.frames.length cv0)).setCell ⟨(w.heap.size + 1), 1, none⟩ (.slice Av1 x.vm.heap.length cv1)).setCell ⟨(w.heap.size + 1), 2, none⟩ (.int .i64 x.vm.made)).setCell ⟨(w.heap.size + 1), 3, none⟩ (.slice Av3 x.vm.out.length cv3)).setCell ⟨(w.heap.size + 1), 4, none⟩ (.int .i64 x.vm.status)).setCell ⟨(w.heap.size + 1), 5, none⟩ (.int .i64 x.vm.trap)).setCell ⟨(w.heap.size + 1), 6, none⟩ (.int .i64 x.vm.value.k)).setCell ⟨(w.heap.size + 1), 7, none⟩ (.int .i64 x.vm.value.n)).setCell ⟨(w.heap.size + 1), 8, none⟩ (.string x.vm.value.s)).setCell ⟨(w.heap.size + 1), 9, none⟩ (.int .i64 x.vm.steps)).setCell ⟨(w.heap.size + 1), 10, none⟩ (.slice Av10 x.sites.length cv10)).setCell ⟨(w.heap.size + 1), 11, none⟩ (.slice Av11 x.codes.length cv11)).setCell ⟨(w.heap.size + 1), 12, none⟩ (.slice Av12 x.fails.length cv12)).setCell ⟨(w.heap.size + 1), 13, none⟩ (.int .i64 x.guards)).setCell ⟨(w.heap.size + 1), 14, none⟩ (.int .i64 x.entered)) := St.fill [.slice Av0 x.vm.frames.length cv0, .slice Av1 x.vm.heap.length cv1, .int .i64 x.vm.made, .slice Av3 x.vm.out.length cv3, .int .i64 x.vm.status, .int .i64 x.vm.trap, .int .i64 x.vm.value.k, .int .i64 x.vm.value.n, .string x.vm.value.s, .int .i64 x.vm.steps, .slice Av10 x.sites.length cv10, .slice Av11 x.codes.length cv11, .slice Av12 x.fails.length cv12, .int .i64 x.guards, .int .i64 x.entered] 7 hS3 rfl 0
  have HP := Lib.hid ((hS4.perm (L' := [Res.own kFrame 145 (.slice Av0 x.vm.frames.length cv0) x.vm.frames F0, Res.own kRec 148 (.slice Av1 x.vm.heap.length cv1) x.vm.heap F1, Res.own Knd.str 9 (.slice Av3 x.vm.out.length cv3) x.vm.out F3, Res.own kSite 156 (.slice Av10 x.sites.length cv10) x.sites F10, Res.own kFast 41 (.slice Av11 x.codes.length cv11) x.codes F11, Res.own kFail 217 (.slice Av12 x.fails.length cv12) x.fails F12, Res.box (w.heap.size + 1 + 1) (.cells #[.slice Av0 x.vm.frames.length cv0, .slice Av1 x.vm.heap.length cv1, .int .i64 x.vm.made, .slice Av3 x.vm.out.length cv3, .int .i64 x.vm.status, .int .i64 x.vm.trap, .int .i64 x.vm.value.k, .int .i64 x.vm.value.n, .string x.vm.value.s, .int .i64 x.vm.steps, .slice Av10 x.sites.length cv10, .slice Av11 x.codes.length cv11, .slice Av12 x.fails.length cv12, .int .i64 x.guards, .int .i64 x.entered] 72 (0, 0)), Res.box (w.heap.size + 1) (.cells #[.slice Av0 x.vm.frames.length cv0, .slice Av1 x.vm.heap.length cv1, .int .i64 x.vm.made, .slice Av3 x.vm.out.length cv3, .int .i64 x.vm.status, .int .i64 x.vm.trap, .int .i64 x.vm.value.k, .int .i64 x.vm.value.n, .string x.vm.value.s, .int .i64 x.vm.steps, .slice Av10 x.sites.length cv10, .slice Av11 x.codes.length cv11, .slice Av12 x.fails.length cv12, .int .i64 x.guards, .int .i64 x.entered] 72 (0, 0)), Res.box w.heap.size (.cells #[.slice A0 x.vm.frames.length c0, .slice A1 x.vm.heap.length c1, .int .i64 x.vm.made, .slice A3 x.vm.out.length c3, .int .i64 x.vm.status, .int .i64 x.vm.trap, .int .i64 x.vm.value.k, .int .i64 x.vm.value.n, .string x.vm.value.s, .int .i64 x.vm.steps, .slice A10 x.sites.length c10, .slice A11 x.codes.length c11, .slice A12 x.fails.length c12, .int .i64 x.guards, .int .i64 x.entered] 60 (0, 0))]) (by exact (List.perm_append_comm (l₁ := [_, _, _]) (l₂ := [_, _, _])).append_right [_, _, _] |>.trans (List.Perm.append_right _ (List.Perm.append_left [_, _, _] ((List.reverse_perm [_, _, _])))))))
  have y0 := hS4.cell 7 rfl 0
  have y1 := hS4.cell 7 rfl 1
  have y2 := hS4.cell 7 rfl 2
  have y3 := hS4.cell 7 rfl 3
  have y4 := hS4.cell 7 rfl 4
  have y5 := hS4.cell 7 rfl 5
  have y6 := hS4.cell 7 rfl 6
  have y7 := hS4.cell 7 rfl 7
  have y8 := hS4.cell 7 rfl 8
  have y9 := hS4.cell 7 rfl 9
  have y10 := hS4.cell 7 rfl 10
  have y11 := hS4.cell 7 rfl 11
  have y12 := hS4.cell 7 rfl 12
  have y13 := hS4.cell 7 rfl 13
  have y14 := hS4.cell 7 rfl 14
  clear hS hS3 hS4
  go_wp2
  refine bodyPost_ret (v := .agg #[.slice Av0 x.vm.frames.length cv0, .slice Av1 x.vm.heap.length cv1, .int .i64 x.vm.made, .slice Av3 x.vm.out.length cv3, .int .i64 x.vm.status, .int .i64 x.vm.trap, .int .i64 x.vm.value.k, .int .i64 x.vm.value.n, .string x.vm.value.s, .int .i64 x.vm.steps, .slice Av10 x.sites.length cv10, .slice Av11 x.codes.length cv11, .slice Av12 x.fails.length cv12, .int .i64 x.guards, .int .i64 x.entered]) (by simp [results, Tryz.results26, go_sem, y0, y1, y2, y3, y4, y5, y6, y7, y8, y9, y10, y11, y12, y13, y14]) rfl ?_
  exact ⟨_, _, _, _, _, _, F0, F1, F3, F10, F11, F12, rfl, St.pre (L1 := [_, _, _, _, _, _]) (L2 := [_, _, _]) HP.out⟩
set_option maxHeartbeats 4000000 in
set_option maxRecDepth 100000 in
theorem eqTier_c (A0 A1 A3 A10 A11 A12 : Option Addr) (c0 c1 c3 c10 c11 c12 : Nat) (A0z A1z A3z A10z A11z A12z : Option Addr) (c0z c1z c3z c10z c11z c12z : Nat) (x : DTier) (w : World) (r0 : kFrame.Row w A0 x.vm.frames.length x.vm.frames) (r1 : kRec.Row w A1 x.vm.heap.length x.vm.heap) (r3 : Knd.str.Row w A3 x.vm.out.length x.vm.out) (r10 : kSite.Row w A10 x.sites.length x.sites) (r11 : kFast.Row w A11 x.codes.length x.codes) (r12 : kFail.Row w A12 x.fails.length x.fails) (r0z : kFrame.Row w A0z x.vm.frames.length x.vm.frames) (r1z : kRec.Row w A1z x.vm.heap.length x.vm.heap) (r3z : Knd.str.Row w A3z x.vm.out.length x.vm.out) (r10z : kSite.Row w A10z x.sites.length x.sites) (r11z : kFast.Row w A11z x.codes.length x.codes) (r12z : kFail.Row w A12z x.fails.length x.fails) : Calls Tryz.prog 28 #[.agg #[.slice A0 x.vm.frames.length c0, .slice A1 x.vm.heap.length c1, .int .i64 x.vm.made, .slice A3 x.vm.out.length c3, .int .i64 x.vm.status, .int .i64 x.vm.trap, .int .i64 x.vm.value.k, .int .i64 x.vm.value.n, .string x.vm.value.s, .int .i64 x.vm.steps, .slice A10 x.sites.length c10, .slice A11 x.codes.length c11, .slice A12 x.fails.length c12, .int .i64 x.guards, .int .i64 x.entered], .agg #[.slice A0z x.vm.frames.length c0z, .slice A1z x.vm.heap.length c1z, .int .i64 x.vm.made, .slice A3z x.vm.out.length c3z, .int .i64 x.vm.status, .int .i64 x.vm.trap, .int .i64 x.vm.value.k, .int .i64 x.vm.value.n, .string x.vm.value.s, .int .i64 x.vm.steps, .slice A10z x.sites.length c10z, .slice A11z x.codes.length c11z, .slice A12z x.fails.length c12z, .int .i64 x.guards, .int .i64 x.entered]] w fun e w' => e = .returned (.bool true) ∧ Below w.heap.size w w' := by
  have hS := ((St.start w).made (.cells #[.slice A0 x.vm.frames.length c0, .slice A1 x.vm.heap.length c1, .int .i64 x.vm.made, .slice A3 x.vm.out.length c3, .int .i64 x.vm.status, .int .i64 x.vm.trap, .int .i64 x.vm.value.k, .int .i64 x.vm.value.n, .string x.vm.value.s, .int .i64 x.vm.steps, .slice A10 x.sites.length c10, .slice A11 x.codes.length c11, .slice A12 x.fails.length c12, .int .i64 x.guards, .int .i64 x.entered] 72 (0, 0))).madeAt (.cells #[.slice A0z x.vm.frames.length c0z, .slice A1z x.vm.heap.length c1z, .int .i64 x.vm.made, .slice A3z x.vm.out.length c3z, .int .i64 x.vm.status, .int .i64 x.vm.trap, .int .i64 x.vm.value.k, .int .i64 x.vm.value.n, .string x.vm.value.s, .int .i64 x.vm.steps, .slice A10z x.sites.length c10z, .slice A11z x.codes.length c11z, .slice A12z x.fails.length c12z, .int .i64 x.guards, .int .i64 x.entered] 72 (0, 0)) (w.heap.size + 1) (by simp)
  have xb := hS.cell 0 rfl
  have xa := hS.cell 1 rfl
  go_enter Tryz.func28, Tryz.ntmps28
  go_wp2_with fail
  refine (eqVm_c _ _ _ _ _ _ _ _ _ _ _ _ x.vm _ (r0.below hS.bel) (r1.below hS.bel) (r3.below hS.bel) (r0z.below hS.bel) (r1z.below hS.bel) (r3z.below hS.bel)).mono ?_
  rintro e w1 ⟨rfl, hb⟩
  replace hS := hS.step hb
  clear xa xb hb
  have xb := hS.cell 0 rfl
  have xa := hS.cell 1 rfl
  go_wp2_with fail
  refine (eqSiteS_c A10 A10z c10 c10z x.sites _ (r10.below hS.bel) (r10z.below hS.bel)).mono ?_
  rintro e w2 ⟨rfl, hb⟩
  replace hS := hS.step hb
  clear xa xb hb
  have xb := hS.cell 0 rfl
  have xa := hS.cell 1 rfl
  go_wp2_with fail
  refine (eqFastS_c A11 A11z c11 c11z x.codes _ (r11.below hS.bel) (r11z.below hS.bel)).mono ?_
  rintro e w3 ⟨rfl, hb⟩
  replace hS := hS.step hb
  clear xa xb hb
  have xb := hS.cell 0 rfl
  have xa := hS.cell 1 rfl
  go_wp2_with fail
  refine (eqFailS_c A12 A12z c12 c12z x.fails _ (r12.below hS.bel) (r12z.below hS.bel)).mono ?_
  rintro e w4 ⟨rfl, hb⟩
  replace hS := hS.step hb
  clear xa xb hb
  have xb := hS.cell 0 rfl
  have xa := hS.cell 1 rfl
  go_wp2
  go_ret
  exact ⟨rfl, hS.bel⟩
end Go.Proofs.YthinhlcfpaaldaaGreat.Dat

/- The laws' own functions over Tier. Written by a program (recgen.py). -/
import Derived.Test.YticlknijmnddeaaGreatK4
import Derived.Test.YticlknijmnddeaaGreatGFail
import Derived.Test.YticlknijmnddeaaGreatGFast
namespace Go.Proofs.YticlknijmnddeaaGreat.Dat
open Go Go.RowKit Go.Proofs.YticlknijmnddeaaGreat.Mem
set_option linter.unusedVariables false
set_option linter.unusedSimpArgs false
/-- A box written anew from a place on. -/
theorem _root_.Go.Proofs.YticlknijmnddeaaGreat.Mem.St.fill {w : World} (vs : List Value) : ∀ {W : World} {L : List Res} (i : Nat) {g : Nat} {cs : Array Value} {t : TypeId} (h : St w L W) (hi : L[i]? = some (Res.box g (.cells cs t (0, 0)))) (o : Nat), St w (L.set i (Res.box g (.cells (setL cs.toList o vs).toArray t (0, 0)))) (setCells g W o vs) := by
  induction vs with
  | nil =>
    intro W L i g cs t h hi o
    obtain ⟨hl, e⟩ := List.getElem?_eq_some_iff.1 hi
    have e2 : L.set i (Res.box g (.cells (setL cs.toList o []).toArray t (0, 0))) = L := by
      rw [setL, Array.toArray_toList, ← e, List.set_getElem_self]
    rw [e2]
    exact h
  | cons v vs ih =>
    intro W L i g cs t h hi o
    have hl : i < L.length := (List.getElem?_eq_some_iff.1 hi).1
    have h2 := ih i (h.set i hi o v) (by rw [List.getElem?_set_self hl]) (o + 1)
    rw [List.set_set] at h2
    have e : (cs.setIfInBounds o v).toList = cs.toList.set o v := by simp
    rw [e] at h2
    rw [setCells, setL]
    exact h2
theorem _root_.Go.Proofs.YticlknijmnddeaaGreat.Mem.St.pre {w W : World} {L1 L2 : List Res} (h : St w (L1 ++ L2) W) : St w L1 W :=
  ⟨h.bel, fun q hq => h.at_ q (List.mem_append_left _ hq), fun q hq => h.old q (List.mem_append_left _ hq), by
    have hd := h.dis
    rw [List.map_append, List.flatten_append] at hd
    exact (List.nodup_append.1 hd).1⟩
structure DTier where
  vm : DVm
  sites : List DSite
  codes : List DFast
  fails : List DFail
  guards : Int
  entered : Int
def zTier : DTier := ⟨zVm, [], [], [], 0, 0⟩
def kTier : Knd DTier := Knd.iso (Knd.pair kVm (Knd.pair (Knd.slice 146 kSite) (Knd.pair (Knd.slice 229 kFast) (Knd.pair (Knd.slice 232 kFail) (Knd.pair (Knd.int .i64) (Knd.int .i64)))))) (fun x => (x.vm, x.sites, x.codes, x.fails, x.guards, x.entered))
/-- What is handed in meets this. -/
def VTier (x : DTier) : Prop := VVm x.vm ∧ (x.sites.length ≤ maxLen ∧ ∀ y ∈ x.sites, VSite y) ∧ (x.codes.length ≤ maxLen ∧ ∀ y ∈ x.codes, VFast y) ∧ (x.fails.length ≤ maxLen ∧ ∀ y ∈ x.fails, VFail y) ∧ (Lit.int .i64 x.guards).wf = true ∧ (Lit.int .i64 x.entered).wf = true
theorem kTier_K {w : World} {x : DTier} {cs : List Value} : kTier.K w x cs ↔ ∃ (A0 A1 A3 A10 A11 A12 : Option Addr) (c0 c1 c3 c10 c11 c12 : Nat), cs = [.slice A0 x.vm.frames.length c0, .slice A1 x.vm.heap.length c1, .int .i64 x.vm.made, .slice A3 x.vm.out.length c3, .int .i64 x.vm.status, .int .i64 x.vm.trap, .int .i64 x.vm.value.k, .int .i64 x.vm.value.n, .string x.vm.value.s, .int .i64 x.vm.steps, .slice A10 x.sites.length c10, .slice A11 x.codes.length c11, .slice A12 x.fails.length c12, .int .i64 x.guards, .int .i64 x.entered] ∧ x.vm.frames.length ≤ c0 ∧ kFrame.Row w A0 x.vm.frames.length x.vm.frames ∧ x.vm.heap.length ≤ c1 ∧ kRec.Row w A1 x.vm.heap.length x.vm.heap ∧ x.vm.out.length ≤ c3 ∧ Knd.str.Row w A3 x.vm.out.length x.vm.out ∧ x.sites.length ≤ c10 ∧ kSite.Row w A10 x.sites.length x.sites ∧ x.codes.length ≤ c11 ∧ kFast.Row w A11 x.codes.length x.codes ∧ x.fails.length ≤ c12 ∧ kFail.Row w A12 x.fails.length x.fails := by
  constructor
  · rintro ⟨_, _, rfl, h_vm, ⟨_, _, rfl, ⟨A_sites, c_sites, rfl, hl_sites, hr_sites⟩, ⟨_, _, rfl, ⟨A_codes, c_codes, rfl, hl_codes, hr_codes⟩, ⟨_, _, rfl, ⟨A_fails, c_fails, rfl, hl_fails, hr_fails⟩, ⟨_, _, rfl, rfl, rfl⟩⟩⟩⟩⟩
    obtain ⟨A0, A1, A3, c0, c1, c3, e_vm, h0, r0, h1, r1, h3, r3⟩ := kVm_K.1 h_vm
    subst e_vm
    exact ⟨A0, A1, A3, A_sites, A_codes, A_fails, c0, c1, c3, c_sites, c_codes, c_fails, rfl, h0, r0, h1, r1, h3, r3, hl_sites, hr_sites, hl_codes, hr_codes, hl_fails, hr_fails⟩
  · rintro ⟨A0, A1, A3, A10, A11, A12, c0, c1, c3, c10, c11, c12, rfl, h0, r0, h1, r1, h3, r3, h10, r10, h11, r11, h12, r12⟩
    exact ⟨[.slice A0 x.vm.frames.length c0, .slice A1 x.vm.heap.length c1, .int .i64 x.vm.made, .slice A3 x.vm.out.length c3, .int .i64 x.vm.status, .int .i64 x.vm.trap, .int .i64 x.vm.value.k, .int .i64 x.vm.value.n, .string x.vm.value.s, .int .i64 x.vm.steps], [.slice A10 x.sites.length c10, .slice A11 x.codes.length c11, .slice A12 x.fails.length c12, .int .i64 x.guards, .int .i64 x.entered], rfl, (kVm_K.2 ⟨A0, A1, A3, c0, c1, c3, rfl, h0, r0, h1, r1, h3, r3⟩), ⟨[.slice A10 x.sites.length c10], [.slice A11 x.codes.length c11, .slice A12 x.fails.length c12, .int .i64 x.guards, .int .i64 x.entered], rfl, ⟨A10, c10, rfl, h10, r10⟩, ⟨[.slice A11 x.codes.length c11], [.slice A12 x.fails.length c12, .int .i64 x.guards, .int .i64 x.entered], rfl, ⟨A11, c11, rfl, h11, r11⟩, ⟨[.slice A12 x.fails.length c12], [.int .i64 x.guards, .int .i64 x.entered], rfl, ⟨A12, c12, rfl, h12, r12⟩, ⟨[.int .i64 x.guards], [.int .i64 x.entered], rfl, rfl, rfl⟩⟩⟩⟩⟩
theorem kTier_at {w : World} {A : Option Addr} {m : Nat} {xs : List DTier} (h : kTier.Row w A m xs) (i : Nat) (x : DTier) (hx : xs[i]? = some x) : ∃ (ad : Addr) (A0 A1 A3 A10 A11 A12 : Option Addr) (c0 c1 c3 c10 c11 c12 : Nat), A = some ad ∧ w.cell? (ad.add (i * 15)) = some (.slice A0 x.vm.frames.length c0) ∧ w.cell? ⟨(ad.add (i * 15)).block, (ad.add (i * 15)).off + 1, none⟩ = some (.slice A1 x.vm.heap.length c1) ∧ w.cell? ⟨(ad.add (i * 15)).block, (ad.add (i * 15)).off + 2, none⟩ = some (.int .i64 x.vm.made) ∧ w.cell? ⟨(ad.add (i * 15)).block, (ad.add (i * 15)).off + 3, none⟩ = some (.slice A3 x.vm.out.length c3) ∧ w.cell? ⟨(ad.add (i * 15)).block, (ad.add (i * 15)).off + 4, none⟩ = some (.int .i64 x.vm.status) ∧ w.cell? ⟨(ad.add (i * 15)).block, (ad.add (i * 15)).off + 5, none⟩ = some (.int .i64 x.vm.trap) ∧ w.cell? ⟨(ad.add (i * 15)).block, (ad.add (i * 15)).off + 6, none⟩ = some (.int .i64 x.vm.value.k) ∧ w.cell? ⟨(ad.add (i * 15)).block, (ad.add (i * 15)).off + 7, none⟩ = some (.int .i64 x.vm.value.n) ∧ w.cell? ⟨(ad.add (i * 15)).block, (ad.add (i * 15)).off + 8, none⟩ = some (.string x.vm.value.s) ∧ w.cell? ⟨(ad.add (i * 15)).block, (ad.add (i * 15)).off + 9, none⟩ = some (.int .i64 x.vm.steps) ∧ w.cell? ⟨(ad.add (i * 15)).block, (ad.add (i * 15)).off + 10, none⟩ = some (.slice A10 x.sites.length c10) ∧ w.cell? ⟨(ad.add (i * 15)).block, (ad.add (i * 15)).off + 11, none⟩ = some (.slice A11 x.codes.length c11) ∧ w.cell? ⟨(ad.add (i * 15)).block, (ad.add (i * 15)).off + 12, none⟩ = some (.slice A12 x.fails.length c12) ∧ w.cell? ⟨(ad.add (i * 15)).block, (ad.add (i * 15)).off + 13, none⟩ = some (.int .i64 x.guards) ∧ w.cell? ⟨(ad.add (i * 15)).block, (ad.add (i * 15)).off + 14, none⟩ = some (.int .i64 x.entered) ∧ x.vm.frames.length ≤ c0 ∧ kFrame.Row w A0 x.vm.frames.length x.vm.frames ∧ x.vm.heap.length ≤ c1 ∧ kRec.Row w A1 x.vm.heap.length x.vm.heap ∧ x.vm.out.length ≤ c3 ∧ Knd.str.Row w A3 x.vm.out.length x.vm.out ∧ x.sites.length ≤ c10 ∧ kSite.Row w A10 x.sites.length x.sites ∧ x.codes.length ≤ c11 ∧ kFast.Row w A11 x.codes.length x.codes ∧ x.fails.length ≤ c12 ∧ kFail.Row w A12 x.fails.length x.fails := by
  obtain ⟨ad, c, e, hK, hc0⟩ := h.get i x hx
  have hc : ∀ j u, c[j]? = some u → w.cell? (ad.add (i * 15 + j)) = some u := hc0
  obtain ⟨A0, A1, A3, A10, A11, A12, c0, c1, c3, c10, c11, c12, rfl, h0, r0, h1, r1, h3, r3, h10, r10, h11, r11, h12, r12⟩ := kTier_K.1 hK
  exact ⟨ad, A0, A1, A3, A10, A11, A12, c0, c1, c3, c10, c11, c12, e, hc 0 _ rfl, (by rw [← add_field _ _ 1 (by omega)]; exact hc 1 _ rfl), (by rw [← add_field _ _ 2 (by omega)]; exact hc 2 _ rfl), (by rw [← add_field _ _ 3 (by omega)]; exact hc 3 _ rfl), (by rw [← add_field _ _ 4 (by omega)]; exact hc 4 _ rfl), (by rw [← add_field _ _ 5 (by omega)]; exact hc 5 _ rfl), (by rw [← add_field _ _ 6 (by omega)]; exact hc 6 _ rfl), (by rw [← add_field _ _ 7 (by omega)]; exact hc 7 _ rfl), (by rw [← add_field _ _ 8 (by omega)]; exact hc 8 _ rfl), (by rw [← add_field _ _ 9 (by omega)]; exact hc 9 _ rfl), (by rw [← add_field _ _ 10 (by omega)]; exact hc 10 _ rfl), (by rw [← add_field _ _ 11 (by omega)]; exact hc 11 _ rfl), (by rw [← add_field _ _ 12 (by omega)]; exact hc 12 _ rfl), (by rw [← add_field _ _ 13 (by omega)]; exact hc 13 _ rfl), (by rw [← add_field _ _ 14 (by omega)]; exact hc 14 _ rfl), h0, r0, h1, r1, h3, r3, h10, r10, h11, r11, h12, r12⟩
def msTier (x : DTier) : Nat := msVm x.vm + x.sites.length + sumOf msFast x.codes + x.fails.length
/-- What a small measure gives. -/
def MTier (x : DTier) : Prop := MVm x.vm ∧ (x.sites.length ≤ 1048576) ∧ (x.codes.length ≤ 1048576 ∧ ∀ y ∈ x.codes, MFast y) ∧ (x.fails.length ≤ 1048576)
theorem MTier_of {x : DTier} (h : msTier x ≤ 1048576) : MTier x := by
  unfold msTier at h
  try simp only [sumOf] at h
  unfold MTier
  exact ⟨MVm_of (by omega), by omega, ⟨by omega, fun y hy => by have h9 := mem_sum msFast _ y hy; exact MFast_of (by omega)⟩, by omega⟩
set_option maxHeartbeats 4000000 in
set_option maxRecDepth 100000 in
theorem eqTier_c (A0 A1 A3 A10 A11 A12 : Option Addr) (c0 c1 c3 c10 c11 c12 : Nat) (A0z A1z A3z A10z A11z A12z : Option Addr) (c0z c1z c3z c10z c11z c12z : Nat) (x : DTier) (w : World) (r0 : kFrame.Row w A0 x.vm.frames.length x.vm.frames) (r1 : kRec.Row w A1 x.vm.heap.length x.vm.heap) (r3 : Knd.str.Row w A3 x.vm.out.length x.vm.out) (r10 : kSite.Row w A10 x.sites.length x.sites) (r11 : kFast.Row w A11 x.codes.length x.codes) (r12 : kFail.Row w A12 x.fails.length x.fails) (r0z : kFrame.Row w A0z x.vm.frames.length x.vm.frames) (r1z : kRec.Row w A1z x.vm.heap.length x.vm.heap) (r3z : Knd.str.Row w A3z x.vm.out.length x.vm.out) (r10z : kSite.Row w A10z x.sites.length x.sites) (r11z : kFast.Row w A11z x.codes.length x.codes) (r12z : kFail.Row w A12z x.fails.length x.fails) : Calls Tryz.prog 45 #[.agg #[.slice A0 x.vm.frames.length c0, .slice A1 x.vm.heap.length c1, .int .i64 x.vm.made, .slice A3 x.vm.out.length c3, .int .i64 x.vm.status, .int .i64 x.vm.trap, .int .i64 x.vm.value.k, .int .i64 x.vm.value.n, .string x.vm.value.s, .int .i64 x.vm.steps, .slice A10 x.sites.length c10, .slice A11 x.codes.length c11, .slice A12 x.fails.length c12, .int .i64 x.guards, .int .i64 x.entered], .agg #[.slice A0z x.vm.frames.length c0z, .slice A1z x.vm.heap.length c1z, .int .i64 x.vm.made, .slice A3z x.vm.out.length c3z, .int .i64 x.vm.status, .int .i64 x.vm.trap, .int .i64 x.vm.value.k, .int .i64 x.vm.value.n, .string x.vm.value.s, .int .i64 x.vm.steps, .slice A10z x.sites.length c10z, .slice A11z x.codes.length c11z, .slice A12z x.fails.length c12z, .int .i64 x.guards, .int .i64 x.entered]] w fun e w' => e = .returned (.bool true) ∧ Below w.heap.size w w' := by
  have hS := ((St.start w).made (.cells #[.slice A0 x.vm.frames.length c0, .slice A1 x.vm.heap.length c1, .int .i64 x.vm.made, .slice A3 x.vm.out.length c3, .int .i64 x.vm.status, .int .i64 x.vm.trap, .int .i64 x.vm.value.k, .int .i64 x.vm.value.n, .string x.vm.value.s, .int .i64 x.vm.steps, .slice A10 x.sites.length c10, .slice A11 x.codes.length c11, .slice A12 x.fails.length c12, .int .i64 x.guards, .int .i64 x.entered] 75 (0, 0))).madeAt (.cells #[.slice A0z x.vm.frames.length c0z, .slice A1z x.vm.heap.length c1z, .int .i64 x.vm.made, .slice A3z x.vm.out.length c3z, .int .i64 x.vm.status, .int .i64 x.vm.trap, .int .i64 x.vm.value.k, .int .i64 x.vm.value.n, .string x.vm.value.s, .int .i64 x.vm.steps, .slice A10z x.sites.length c10z, .slice A11z x.codes.length c11z, .slice A12z x.fails.length c12z, .int .i64 x.guards, .int .i64 x.entered] 75 (0, 0)) (w.heap.size + 1) (by simp)
  have xb := hS.cell 0 rfl
  have xa := hS.cell 1 rfl
  go_enter Tryz.func45, Tryz.ntmps45
  go_wp2_with fail
  refine (eqVm_c _ _ _ _ _ _ _ _ _ _ _ _ x.vm _ (r0.below hS.bel) (r1.below hS.bel) (r3.below hS.bel) (r0z.below hS.bel) (r1z.below hS.bel) (r3z.below hS.bel)).mono ?_
  rintro e w1 ⟨rfl, hb⟩
  replace hS := hS.step hb
  clear xa xb hb
  have xb := hS.cell 0 rfl
  have xa := hS.cell 1 rfl
  go_wp2_with fail
  refine (eqSiteS_c A10 A10z c10 c10z x.sites _ (r10.below hS.bel) (r10z.below hS.bel)).mono ?_
  rintro e w2 ⟨rfl, hb⟩
  replace hS := hS.step hb
  clear xa xb hb
  have xb := hS.cell 0 rfl
  have xa := hS.cell 1 rfl
  go_wp2_with fail
  refine (eqFastS_c A11 A11z c11 c11z x.codes _ (r11.below hS.bel) (r11z.below hS.bel)).mono ?_
  rintro e w3 ⟨rfl, hb⟩
  replace hS := hS.step hb
  clear xa xb hb
  have xb := hS.cell 0 rfl
  have xa := hS.cell 1 rfl
  go_wp2_with fail
  refine (eqFailS_c A12 A12z c12 c12z x.fails _ (r12.below hS.bel) (r12z.below hS.bel)).mono ?_
  rintro e w4 ⟨rfl, hb⟩
  replace hS := hS.step hb
  clear xa xb hb
  have xb := hS.cell 0 rfl
  have xa := hS.cell 1 rfl
  go_wp2
  go_ret
  exact ⟨rfl, hS.bel⟩
set_option maxHeartbeats 4000000 in
set_option maxRecDepth 100000 in
theorem markTier_c (x : DTier) (v0 v1 v3 v10 v11 v12 : Value) (F0 F1 F3 F10 F11 F12 : List Nat) (k : Int) (w W : World) (L : List Res) (hS : St w L W) (n0 : Nat) (i0 : L[n0]? = some (Res.own kFrame 107 v0 x.vm.frames F0)) (n1 : Nat) (i1 : L[n1]? = some (Res.own kRec 110 v1 x.vm.heap F1)) (n3 : Nat) (i3 : L[n3]? = some (Res.own Knd.str 9 v3 x.vm.out F3)) (n10 : Nat) (i10 : L[n10]? = some (Res.own kSite 146 v10 x.sites F10)) (n11 : Nat) (i11 : L[n11]? = some (Res.own kFast 229 v11 x.codes F11)) (n12 : Nat) (i12 : L[n12]? = some (Res.own kFail 232 v12 x.fails F12)) (ne0_1 : n0 ≠ n1) (ne0_3 : n0 ≠ n3) (ne0_10 : n0 ≠ n10) (ne0_11 : n0 ≠ n11) (ne0_12 : n0 ≠ n12) (ne1_3 : n1 ≠ n3) (ne1_10 : n1 ≠ n10) (ne1_11 : n1 ≠ n11) (ne1_12 : n1 ≠ n12) (ne3_10 : n3 ≠ n10) (ne3_11 : n3 ≠ n11) (ne3_12 : n3 ≠ n12) (ne10_11 : n10 ≠ n11) (ne10_12 : n10 ≠ n12) (ne11_12 : n11 ≠ n12) (h0 : 0 ≤ k) (h1 : k + ctL ctFrame x.vm.frames + ctL ctRec x.vm.heap + ctL (fun _ => 1) x.vm.out + ctL ctSite x.sites + ctL ctFast x.codes + ctL ctFail x.fails ≤ 1152921504606846976) (hM : MTier x) :
    Calls Tryz.prog 48 #[.agg #[v0, v1, .int .i64 x.vm.made, v3, .int .i64 x.vm.status, .int .i64 x.vm.trap, .int .i64 x.vm.value.k, .int .i64 x.vm.value.n, .string x.vm.value.s, .int .i64 x.vm.steps, v10, v11, v12, .int .i64 x.guards, .int .i64 x.entered], .int .i64 k] W fun e w' => e = .returned (.int .i64 (k + ctL ctFrame x.vm.frames + ctL ctRec x.vm.heap + ctL (fun _ => 1) x.vm.out + ctL ctSite x.sites + ctL ctFast x.codes + ctL ctFail x.fails)) ∧ St w (((((((L.set n0 (Res.own kFrame 107 v0 (mkL mkFrame ctFrame (k) x.vm.frames) F0)).set n1 (Res.own kRec 110 v1 (mkL mkRec ctRec (k + ctL ctFrame x.vm.frames) x.vm.heap) F1)).set n3 (Res.own Knd.str 9 v3 (mkL mkStr (fun _ => 1) (k + ctL ctFrame x.vm.frames + ctL ctRec x.vm.heap) x.vm.out) F3)).set n10 (Res.own kSite 146 v10 (mkL mkSite ctSite (k + ctL ctFrame x.vm.frames + ctL ctRec x.vm.heap + ctL (fun _ => 1) x.vm.out) x.sites) F10)).set n11 (Res.own kFast 229 v11 (mkL mkFast ctFast (k + ctL ctFrame x.vm.frames + ctL ctRec x.vm.heap + ctL (fun _ => 1) x.vm.out + ctL ctSite x.sites) x.codes) F11)).set n12 (Res.own kFail 232 v12 (mkL mkFail ctFail (k + ctL ctFrame x.vm.frames + ctL ctRec x.vm.heap + ctL (fun _ => 1) x.vm.out + ctL ctSite x.sites + ctL ctFast x.codes) x.fails) F12))) w' := by
  obtain ⟨A0, c0, hv0, _, _⟩ := hS.row n0 i0
  subst hv0
  obtain ⟨A1, c1, hv1, _, _⟩ := hS.row n1 i1
  subst hv1
  obtain ⟨A3, c3, hv3, _, _⟩ := hS.row n3 i3
  subst hv3
  obtain ⟨A10, c10, hv10, _, _⟩ := hS.row n10 i10
  subst hv10
  obtain ⟨A11, c11, hv11, _, _⟩ := hS.row n11 i11
  subst hv11
  obtain ⟨A12, c12, hv12, _, _⟩ := hS.row n12 i12
  subst hv12
  have hS0 := hS.made (.cells #[.slice A0 x.vm.frames.length c0, .slice A1 x.vm.heap.length c1, .int .i64 x.vm.made, .slice A3 x.vm.out.length c3, .int .i64 x.vm.status, .int .i64 x.vm.trap, .int .i64 x.vm.value.k, .int .i64 x.vm.value.n, .string x.vm.value.s, .int .i64 x.vm.steps, .slice A10 x.sites.length c10, .slice A11 x.codes.length c11, .slice A12 x.fails.length c12, .int .i64 x.guards, .int .i64 x.entered] 75 (0, 0))
  have x_b := hS0.cell 0 rfl
  go_enter Tryz.func48, Tryz.ntmps48
  have j0 : (Res.box W.heap.size (.cells #[.slice A0 x.vm.frames.length c0, .slice A1 x.vm.heap.length c1, .int .i64 x.vm.made, .slice A3 x.vm.out.length c3, .int .i64 x.vm.status, .int .i64 x.vm.trap, .int .i64 x.vm.value.k, .int .i64 x.vm.value.n, .string x.vm.value.s, .int .i64 x.vm.steps, .slice A10 x.sites.length c10, .slice A11 x.codes.length c11, .slice A12 x.fails.length c12, .int .i64 x.guards, .int .i64 x.entered] 75 (0, 0)) :: L)[n0 + 1]? = some (Res.own kFrame 107 (.slice A0 x.vm.frames.length c0) x.vm.frames F0) := by rw [List.getElem?_cons_succ]; exact i0
  have j1 : (Res.box W.heap.size (.cells #[.slice A0 x.vm.frames.length c0, .slice A1 x.vm.heap.length c1, .int .i64 x.vm.made, .slice A3 x.vm.out.length c3, .int .i64 x.vm.status, .int .i64 x.vm.trap, .int .i64 x.vm.value.k, .int .i64 x.vm.value.n, .string x.vm.value.s, .int .i64 x.vm.steps, .slice A10 x.sites.length c10, .slice A11 x.codes.length c11, .slice A12 x.fails.length c12, .int .i64 x.guards, .int .i64 x.entered] 75 (0, 0)) :: L)[n1 + 1]? = some (Res.own kRec 110 (.slice A1 x.vm.heap.length c1) x.vm.heap F1) := by rw [List.getElem?_cons_succ]; exact i1
  have j3 : (Res.box W.heap.size (.cells #[.slice A0 x.vm.frames.length c0, .slice A1 x.vm.heap.length c1, .int .i64 x.vm.made, .slice A3 x.vm.out.length c3, .int .i64 x.vm.status, .int .i64 x.vm.trap, .int .i64 x.vm.value.k, .int .i64 x.vm.value.n, .string x.vm.value.s, .int .i64 x.vm.steps, .slice A10 x.sites.length c10, .slice A11 x.codes.length c11, .slice A12 x.fails.length c12, .int .i64 x.guards, .int .i64 x.entered] 75 (0, 0)) :: L)[n3 + 1]? = some (Res.own Knd.str 9 (.slice A3 x.vm.out.length c3) x.vm.out F3) := by rw [List.getElem?_cons_succ]; exact i3
  go_wp2_with fail
  refine (markVm_c x.vm _ _ _ F0 F1 F3 k w _ _ hS0 _ j0 _ j1 _ j3 (by omega) (by omega) (by omega) h0 (by omega) hM.1).mono ?_
  rintro e w1 ⟨rfl, hS1⟩
  clear x_b hS0
  rw [List.set_cons_succ, List.set_cons_succ, List.set_cons_succ] at hS1
  have hS0 := hS1
  clear hS1 j0 j1 j3
  have x_b := hS0.cell 0 rfl
  have j10 : (Res.box W.heap.size (.cells #[.slice A0 x.vm.frames.length c0, .slice A1 x.vm.heap.length c1, .int .i64 x.vm.made, .slice A3 x.vm.out.length c3, .int .i64 x.vm.status, .int .i64 x.vm.trap, .int .i64 x.vm.value.k, .int .i64 x.vm.value.n, .string x.vm.value.s, .int .i64 x.vm.steps, .slice A10 x.sites.length c10, .slice A11 x.codes.length c11, .slice A12 x.fails.length c12, .int .i64 x.guards, .int .i64 x.entered] 75 (0, 0)) :: (((L.set n0 (Res.own kFrame 107 (.slice A0 x.vm.frames.length c0) (mkL mkFrame ctFrame (k) x.vm.frames) F0)).set n1 (Res.own kRec 110 (.slice A1 x.vm.heap.length c1) (mkL mkRec ctRec (k + ctL ctFrame x.vm.frames) x.vm.heap) F1)).set n3 (Res.own Knd.str 9 (.slice A3 x.vm.out.length c3) (mkL mkStr (fun _ => 1) (k + ctL ctFrame x.vm.frames + ctL ctRec x.vm.heap) x.vm.out) F3)))[n10 + 1]? = some (Res.own kSite 146 (.slice A10 x.sites.length c10) x.sites F10) := by
    rw [List.getElem?_cons_succ, List.getElem?_set_ne ne3_10, List.getElem?_set_ne ne1_10, List.getElem?_set_ne ne0_10]
    exact i10
  go_wp2_with fail
  refine (markSiteS_c _ x.sites (k + ctL ctFrame x.vm.frames + ctL ctRec x.vm.heap + ctL (fun _ => 1) x.vm.out) F10 _ (St.own_ hS0 _ j10) (hS0.nodup _ j10) (by omega) (by omega) hM.2.1).mono ?_
  rintro e w2 ⟨rfl, ho, hB⟩
  try clear x_b
  have hnd : F10.Nodup := hS0.nodup _ j10
  replace hS0 := hS0.upd (r' := Res.own kSite 146 _ (mkL mkSite ctSite (k + ctL ctFrame x.vm.frames + ctL ctRec x.vm.heap + ctL (fun _ => 1) x.vm.out) x.sites) F10) _ j10 hB ho hnd (fun q hq => .inl hq)
  rw [List.set_cons_succ] at hS0
  have x_b := hS0.cell 0 rfl
  clear ho hB hnd j10
  have j11 : (Res.box W.heap.size (.cells #[.slice A0 x.vm.frames.length c0, .slice A1 x.vm.heap.length c1, .int .i64 x.vm.made, .slice A3 x.vm.out.length c3, .int .i64 x.vm.status, .int .i64 x.vm.trap, .int .i64 x.vm.value.k, .int .i64 x.vm.value.n, .string x.vm.value.s, .int .i64 x.vm.steps, .slice A10 x.sites.length c10, .slice A11 x.codes.length c11, .slice A12 x.fails.length c12, .int .i64 x.guards, .int .i64 x.entered] 75 (0, 0)) :: ((((L.set n0 (Res.own kFrame 107 (.slice A0 x.vm.frames.length c0) (mkL mkFrame ctFrame (k) x.vm.frames) F0)).set n1 (Res.own kRec 110 (.slice A1 x.vm.heap.length c1) (mkL mkRec ctRec (k + ctL ctFrame x.vm.frames) x.vm.heap) F1)).set n3 (Res.own Knd.str 9 (.slice A3 x.vm.out.length c3) (mkL mkStr (fun _ => 1) (k + ctL ctFrame x.vm.frames + ctL ctRec x.vm.heap) x.vm.out) F3)).set n10 (Res.own kSite 146 (.slice A10 x.sites.length c10) (mkL mkSite ctSite (k + ctL ctFrame x.vm.frames + ctL ctRec x.vm.heap + ctL (fun _ => 1) x.vm.out) x.sites) F10)))[n11 + 1]? = some (Res.own kFast 229 (.slice A11 x.codes.length c11) x.codes F11) := by
    rw [List.getElem?_cons_succ, List.getElem?_set_ne ne10_11, List.getElem?_set_ne ne3_11, List.getElem?_set_ne ne1_11, List.getElem?_set_ne ne0_11]
    exact i11
  go_wp2_with fail
  refine (markFastS_c _ x.codes (k + ctL ctFrame x.vm.frames + ctL ctRec x.vm.heap + ctL (fun _ => 1) x.vm.out + ctL ctSite x.sites) F11 _ (St.own_ hS0 _ j11) (hS0.nodup _ j11) (by omega) (by omega) hM.2.2.1).mono ?_
  rintro e w3 ⟨rfl, ho, hB⟩
  try clear x_b
  have hnd : F11.Nodup := hS0.nodup _ j11
  replace hS0 := hS0.upd (r' := Res.own kFast 229 _ (mkL mkFast ctFast (k + ctL ctFrame x.vm.frames + ctL ctRec x.vm.heap + ctL (fun _ => 1) x.vm.out + ctL ctSite x.sites) x.codes) F11) _ j11 hB ho hnd (fun q hq => .inl hq)
  rw [List.set_cons_succ] at hS0
  have x_b := hS0.cell 0 rfl
  clear ho hB hnd j11
  have j12 : (Res.box W.heap.size (.cells #[.slice A0 x.vm.frames.length c0, .slice A1 x.vm.heap.length c1, .int .i64 x.vm.made, .slice A3 x.vm.out.length c3, .int .i64 x.vm.status, .int .i64 x.vm.trap, .int .i64 x.vm.value.k, .int .i64 x.vm.value.n, .string x.vm.value.s, .int .i64 x.vm.steps, .slice A10 x.sites.length c10, .slice A11 x.codes.length c11, .slice A12 x.fails.length c12, .int .i64 x.guards, .int .i64 x.entered] 75 (0, 0)) :: (((((L.set n0 (Res.own kFrame 107 (.slice A0 x.vm.frames.length c0) (mkL mkFrame ctFrame (k) x.vm.frames) F0)).set n1 (Res.own kRec 110 (.slice A1 x.vm.heap.length c1) (mkL mkRec ctRec (k + ctL ctFrame x.vm.frames) x.vm.heap) F1)).set n3 (Res.own Knd.str 9 (.slice A3 x.vm.out.length c3) (mkL mkStr (fun _ => 1) (k + ctL ctFrame x.vm.frames + ctL ctRec x.vm.heap) x.vm.out) F3)).set n10 (Res.own kSite 146 (.slice A10 x.sites.length c10) (mkL mkSite ctSite (k + ctL ctFrame x.vm.frames + ctL ctRec x.vm.heap + ctL (fun _ => 1) x.vm.out) x.sites) F10)).set n11 (Res.own kFast 229 (.slice A11 x.codes.length c11) (mkL mkFast ctFast (k + ctL ctFrame x.vm.frames + ctL ctRec x.vm.heap + ctL (fun _ => 1) x.vm.out + ctL ctSite x.sites) x.codes) F11)))[n12 + 1]? = some (Res.own kFail 232 (.slice A12 x.fails.length c12) x.fails F12) := by
    rw [List.getElem?_cons_succ, List.getElem?_set_ne ne11_12, List.getElem?_set_ne ne10_12, List.getElem?_set_ne ne3_12, List.getElem?_set_ne ne1_12, List.getElem?_set_ne ne0_12]
    exact i12
  go_wp2_with fail
  refine (markFailS_c _ x.fails (k + ctL ctFrame x.vm.frames + ctL ctRec x.vm.heap + ctL (fun _ => 1) x.vm.out + ctL ctSite x.sites + ctL ctFast x.codes) F12 _ (St.own_ hS0 _ j12) (hS0.nodup _ j12) (by omega) (by omega) hM.2.2.2).mono ?_
  rintro e w4 ⟨rfl, ho, hB⟩
  try clear x_b
  have hnd : F12.Nodup := hS0.nodup _ j12
  replace hS0 := hS0.upd (r' := Res.own kFail 232 _ (mkL mkFail ctFail (k + ctL ctFrame x.vm.frames + ctL ctRec x.vm.heap + ctL (fun _ => 1) x.vm.out + ctL ctSite x.sites + ctL ctFast x.codes) x.fails) F12) _ j12 hB ho hnd (fun q hq => .inl hq)
  rw [List.set_cons_succ] at hS0
  have x_b := hS0.cell 0 rfl
  clear ho hB hnd j12
  go_wp2
  go_ret
  exact ⟨rfl, hS0.drop⟩
set_option maxHeartbeats 4000000 in
set_option maxRecDepth 100000 in
theorem heldTier_c (A0 A1 A3 A10 A11 A12 : Option Addr) (c0 c1 c3 c10 c11 c12 : Nat) (x : DTier) (k : Int) (w : World) (r0 : kFrame.Row w A0 x.vm.frames.length (mkL mkFrame ctFrame (k) x.vm.frames)) (r1 : kRec.Row w A1 x.vm.heap.length (mkL mkRec ctRec (k + ctL ctFrame x.vm.frames) x.vm.heap)) (r3 : Knd.str.Row w A3 x.vm.out.length (mkL mkStr (fun _ => 1) (k + ctL ctFrame x.vm.frames + ctL ctRec x.vm.heap) x.vm.out)) (r10 : kSite.Row w A10 x.sites.length (mkL mkSite ctSite (k + ctL ctFrame x.vm.frames + ctL ctRec x.vm.heap + ctL (fun _ => 1) x.vm.out) x.sites)) (r11 : kFast.Row w A11 x.codes.length (mkL mkFast ctFast (k + ctL ctFrame x.vm.frames + ctL ctRec x.vm.heap + ctL (fun _ => 1) x.vm.out + ctL ctSite x.sites) x.codes)) (r12 : kFail.Row w A12 x.fails.length (mkL mkFail ctFail (k + ctL ctFrame x.vm.frames + ctL ctRec x.vm.heap + ctL (fun _ => 1) x.vm.out + ctL ctSite x.sites + ctL ctFast x.codes) x.fails)) (h0 : 0 ≤ k) (h1 : k + ctL ctFrame x.vm.frames + ctL ctRec x.vm.heap + ctL (fun _ => 1) x.vm.out + ctL ctSite x.sites + ctL ctFast x.codes + ctL ctFail x.fails ≤ 1152921504606846976) (hM : MTier x) : Calls Tryz.prog 49 #[.agg #[.slice A0 x.vm.frames.length c0, .slice A1 x.vm.heap.length c1, .int .i64 x.vm.made, .slice A3 x.vm.out.length c3, .int .i64 x.vm.status, .int .i64 x.vm.trap, .int .i64 x.vm.value.k, .int .i64 x.vm.value.n, .string x.vm.value.s, .int .i64 x.vm.steps, .slice A10 x.sites.length c10, .slice A11 x.codes.length c11, .slice A12 x.fails.length c12, .int .i64 x.guards, .int .i64 x.entered], .int .i64 k] w fun e w' => e = .returned (.int .i64 (k + ctL ctFrame x.vm.frames + ctL ctRec x.vm.heap + ctL (fun _ => 1) x.vm.out + ctL ctSite x.sites + ctL ctFast x.codes + ctL ctFail x.fails)) ∧ Below w.heap.size w w' := by
  have hS := (St.start w).made (.cells #[.slice A0 x.vm.frames.length c0, .slice A1 x.vm.heap.length c1, .int .i64 x.vm.made, .slice A3 x.vm.out.length c3, .int .i64 x.vm.status, .int .i64 x.vm.trap, .int .i64 x.vm.value.k, .int .i64 x.vm.value.n, .string x.vm.value.s, .int .i64 x.vm.steps, .slice A10 x.sites.length c10, .slice A11 x.codes.length c11, .slice A12 x.fails.length c12, .int .i64 x.guards, .int .i64 x.entered] 75 (0, 0))
  have x_b := hS.cell 0 rfl
  go_enter Tryz.func49, Tryz.ntmps49
  have g0 : 0 ≤ k + ctL ctFrame x.vm.frames + ctL ctRec x.vm.heap + ctL (fun _ => 1) x.vm.out := by omega
  go_wp2_with fail
  refine (heldVm_c _ _ _ _ _ _ x.vm k _ (r0.below hS.bel) (r1.below hS.bel) (r3.below hS.bel) h0 (by omega) hM.1).mono ?_
  rintro e w1 ⟨rfl, hb⟩
  clear x_b
  replace hS := hS.step hb
  have x_b := hS.cell 0 rfl
  clear hb
  have g10 : 0 ≤ k + ctL ctFrame x.vm.frames + ctL ctRec x.vm.heap + ctL (fun _ => 1) x.vm.out + (ctL ctSite x.sites : Int) := by omega
  go_wp2_with fail
  refine (heldSiteS_c A10 c10 x.sites (k + ctL ctFrame x.vm.frames + ctL ctRec x.vm.heap + ctL (fun _ => 1) x.vm.out) _ (r10.below hS.bel) (by omega) (by omega) hM.2.1).mono ?_
  rintro e w2 ⟨rfl, hb⟩
  try clear x_b
  replace hS := hS.step hb
  have x_b := hS.cell 0 rfl
  clear hb
  have g11 : 0 ≤ k + ctL ctFrame x.vm.frames + ctL ctRec x.vm.heap + ctL (fun _ => 1) x.vm.out + ctL ctSite x.sites + (ctL ctFast x.codes : Int) := by omega
  go_wp2_with fail
  refine (heldFastS_c A11 c11 x.codes (k + ctL ctFrame x.vm.frames + ctL ctRec x.vm.heap + ctL (fun _ => 1) x.vm.out + ctL ctSite x.sites) _ (r11.below hS.bel) (by omega) (by omega) hM.2.2.1).mono ?_
  rintro e w3 ⟨rfl, hb⟩
  try clear x_b
  replace hS := hS.step hb
  have x_b := hS.cell 0 rfl
  clear hb
  have g12 : 0 ≤ k + ctL ctFrame x.vm.frames + ctL ctRec x.vm.heap + ctL (fun _ => 1) x.vm.out + ctL ctSite x.sites + ctL ctFast x.codes + (ctL ctFail x.fails : Int) := by omega
  go_wp2_with fail
  refine (heldFailS_c A12 c12 x.fails (k + ctL ctFrame x.vm.frames + ctL ctRec x.vm.heap + ctL (fun _ => 1) x.vm.out + ctL ctSite x.sites + ctL ctFast x.codes) _ (r12.below hS.bel) (by omega) (by omega) hM.2.2.2).mono ?_
  rintro e w4 ⟨rfl, hb⟩
  try clear x_b
  replace hS := hS.step hb
  have x_b := hS.cell 0 rfl
  clear hb
  go_wp2
  go_ret
  exact ⟨rfl, hS.bel⟩
end Go.Proofs.YticlknijmnddeaaGreat.Dat

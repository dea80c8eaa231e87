/- The laws' own functions over Act. Written by a program (recgen.py). -/
import Derived.Test.YtpjdecneeakkeaaDoorK4
namespace Go.Proofs.YtpjdecneeakkeaaDoor.Dat
open Go Go.RowKit Go.Proofs.YtpjdecneeakkeaaDoor.Mem
set_option linter.unusedVariables false
set_option linter.unusedSimpArgs false
structure DAct where
  kind : Int
  a : Int
  b : Int
  lay : Int
  bare : Bool
  sites : List DSite
def zAct : DAct := ⟨0, 0, 0, 0, false, []⟩
def kAct : Knd DAct := Knd.iso (Knd.pair (Knd.int .i64) (Knd.pair (Knd.int .i64) (Knd.pair (Knd.int .i64) (Knd.pair (Knd.int .i64) (Knd.pair Knd.bool (Knd.slice 119 kSite)))))) (fun x => (x.kind, x.a, x.b, x.lay, x.bare, x.sites))
/-- What is handed in meets this. -/
def VAct (x : DAct) : Prop := (Lit.int .i64 x.kind).wf = true ∧ (Lit.int .i64 x.a).wf = true ∧ (Lit.int .i64 x.b).wf = true ∧ (Lit.int .i64 x.lay).wf = true ∧ True ∧ (x.sites.length ≤ maxLen ∧ ∀ y ∈ x.sites, VSite y)
theorem kAct_K {w : World} {x : DAct} {cs : List Value} : kAct.K w x cs ↔ ∃ (A5 : Option Addr) (c5 : Nat), cs = [.int .i64 x.kind, .int .i64 x.a, .int .i64 x.b, .int .i64 x.lay, .bool x.bare, .slice A5 x.sites.length c5] ∧ x.sites.length ≤ c5 ∧ kSite.Row w A5 x.sites.length x.sites := by
  constructor
  · rintro ⟨_, _, rfl, rfl, ⟨_, _, rfl, rfl, ⟨_, _, rfl, rfl, ⟨_, _, rfl, rfl, ⟨_, _, rfl, rfl, ⟨A_sites, c_sites, rfl, hl_sites, hr_sites⟩⟩⟩⟩⟩⟩
    exact ⟨A_sites, c_sites, rfl, hl_sites, hr_sites⟩
  · rintro ⟨A5, c5, rfl, h5, r5⟩
    exact ⟨[.int .i64 x.kind], [.int .i64 x.a, .int .i64 x.b, .int .i64 x.lay, .bool x.bare, .slice A5 x.sites.length c5], rfl, rfl, ⟨[.int .i64 x.a], [.int .i64 x.b, .int .i64 x.lay, .bool x.bare, .slice A5 x.sites.length c5], rfl, rfl, ⟨[.int .i64 x.b], [.int .i64 x.lay, .bool x.bare, .slice A5 x.sites.length c5], rfl, rfl, ⟨[.int .i64 x.lay], [.bool x.bare, .slice A5 x.sites.length c5], rfl, rfl, ⟨[.bool x.bare], [.slice A5 x.sites.length c5], rfl, rfl, ⟨A5, c5, rfl, h5, r5⟩⟩⟩⟩⟩⟩
theorem kAct_at {w : World} {A : Option Addr} {m : Nat} {xs : List DAct} (h : kAct.Row w A m xs) (i : Nat) (x : DAct) (hx : xs[i]? = some x) : ∃ (ad : Addr) (A5 : Option Addr) (c5 : Nat), A = some ad ∧ w.cell? (ad.add (i * 6)) = some (.int .i64 x.kind) ∧ w.cell? ⟨(ad.add (i * 6)).block, (ad.add (i * 6)).off + 1, none⟩ = some (.int .i64 x.a) ∧ w.cell? ⟨(ad.add (i * 6)).block, (ad.add (i * 6)).off + 2, none⟩ = some (.int .i64 x.b) ∧ w.cell? ⟨(ad.add (i * 6)).block, (ad.add (i * 6)).off + 3, none⟩ = some (.int .i64 x.lay) ∧ w.cell? ⟨(ad.add (i * 6)).block, (ad.add (i * 6)).off + 4, none⟩ = some (.bool x.bare) ∧ w.cell? ⟨(ad.add (i * 6)).block, (ad.add (i * 6)).off + 5, none⟩ = some (.slice A5 x.sites.length c5) ∧ x.sites.length ≤ c5 ∧ kSite.Row w A5 x.sites.length x.sites := by
  obtain ⟨ad, c, e, hK, hc0⟩ := h.get i x hx
  have hc : ∀ j u, c[j]? = some u → w.cell? (ad.add (i * 6 + j)) = some u := hc0
  obtain ⟨A5, c5, rfl, h5, r5⟩ := kAct_K.1 hK
  exact ⟨ad, A5, c5, e, hc 0 _ rfl, (by rw [← add_field _ _ 1 (by omega)]; exact hc 1 _ rfl), (by rw [← add_field _ _ 2 (by omega)]; exact hc 2 _ rfl), (by rw [← add_field _ _ 3 (by omega)]; exact hc 3 _ rfl), (by rw [← add_field _ _ 4 (by omega)]; exact hc 4 _ rfl), (by rw [← add_field _ _ 5 (by omega)]; exact hc 5 _ rfl), h5, r5⟩
def ctAct (x : DAct) : Nat := 5 + ctL ctSite x.sites
def mkAct (k : Int) (x : DAct) : DAct := { kind := k, a := k + 1, b := k + 1 + 1, lay := k + 1 + 1 + 1, bare := decide ((k + 1 + 1 + 1 + 1) % 3 = 0), sites := mkL mkSite ctSite (k + 1 + 1 + 1 + 1 + 1) x.sites }
theorem kAct_Oi {w : World} {x : DAct} {cs : List Value} {F : List Nat} : kAct.O w x cs F ↔ ∃ (v5 : Value) (F5 : List Nat), cs = [.int .i64 x.kind, .int .i64 x.a, .int .i64 x.b, .int .i64 x.lay, .bool x.bare, v5] ∧ F = F5 ∧ kSite.Own 119 w v5 x.sites F5 := by
  constructor
  · rintro ⟨_, _, _, _, rfl, rfl, ⟨rfl, rfl⟩, ⟨_, _, _, _, rfl, rfl, ⟨rfl, rfl⟩, ⟨_, _, _, _, rfl, rfl, ⟨rfl, rfl⟩, ⟨_, _, _, _, rfl, rfl, ⟨rfl, rfl⟩, ⟨_, _, _, _, rfl, rfl, ⟨rfl, rfl⟩, ⟨v5, rfl, o5⟩⟩⟩⟩⟩⟩
    exact ⟨v5, _, rfl, by simp, o5⟩
  · rintro ⟨v5, F5, rfl, rfl, o5⟩
    have h : kAct.O w x [.int .i64 x.kind, .int .i64 x.a, .int .i64 x.b, .int .i64 x.lay, .bool x.bare, v5] (([] ++ ([] ++ ([] ++ ([] ++ ([] ++ F)))))) := ⟨[.int .i64 x.kind], [.int .i64 x.a, .int .i64 x.b, .int .i64 x.lay, .bool x.bare, v5], [], ([] ++ ([] ++ ([] ++ ([] ++ F)))), rfl, by simp, ⟨rfl, rfl⟩, ⟨[.int .i64 x.a], [.int .i64 x.b, .int .i64 x.lay, .bool x.bare, v5], [], ([] ++ ([] ++ ([] ++ F))), rfl, by simp, ⟨rfl, rfl⟩, ⟨[.int .i64 x.b], [.int .i64 x.lay, .bool x.bare, v5], [], ([] ++ ([] ++ F)), rfl, by simp, ⟨rfl, rfl⟩, ⟨[.int .i64 x.lay], [.bool x.bare, v5], [], ([] ++ F), rfl, by simp, ⟨rfl, rfl⟩, ⟨[.bool x.bare], [v5], [], F, rfl, by simp, ⟨rfl, rfl⟩, ⟨v5, rfl, o5⟩⟩⟩⟩⟩⟩
    simpa using h
def msAct (x : DAct) : Nat := x.sites.length
/-- What a small measure gives. -/
def MAct (x : DAct) : Prop := (x.sites.length ≤ 1048576)
theorem MAct_of {x : DAct} (h : msAct x ≤ 1048576) : MAct x := by
  unfold msAct at h
  try simp only [sumOf] at h
  unfold MAct
  exact by omega
set_option maxHeartbeats 4000000 in
set_option maxRecDepth 100000 in
theorem szAct_c (A5 : Option Addr) (c5 : Nat) (x : DAct) (left : Int) (w : World) (r5 : kSite.Row w A5 x.sites.length x.sites) (hV : VAct x) (h0 : 0 ≤ left) (h1 : left ≤ 1048576) : Calls Tryd.prog 44 #[.agg #[.int .i64 x.kind, .int .i64 x.a, .int .i64 x.b, .int .i64 x.lay, .bool x.bare, .slice A5 x.sites.length c5], .int .i64 left] w fun e w' => e = .returned (.int .i64 (lft (msAct x) left)) ∧ Below w.heap.size w w' := by
  have hS := (St.start w).made (.cells #[.int .i64 x.kind, .int .i64 x.a, .int .i64 x.b, .int .i64 x.lay, .bool x.bare, .slice A5 x.sites.length c5] 85 (0, 0))
  by_cases k0 : ((x.sites.length : Nat) : Int) ≤ left
  rotate_left
  · skip
    have C0 := szSiteS_c A5 c5 x.sites left
    rw [lft_gt (by omega)] at C0
    have HE := Lib.hid (show (-1 : Int) = lft (msAct x) left by unfold msAct; rw [lft_gt (by omega)])
    go_enter Tryd.func44, Tryd.ntmps44
    go_wp2_with fail
    refine (C0 _ (r5.below hS.bel) hV.2.2.2.2.2.1 hV.2.2.2.2.2.2 (by omega) (by omega)).mono ?_
    rintro e w1 ⟨rfl, hb⟩
    replace hS := hS.step hb
    have xb := hS.cell 0 rfl
    have yb := hS.blt 0 rfl
    clear hb
    go_wp2
    go_ret
    exact ⟨ret_int HE.out, hS.bel⟩
  have C0 := szSiteS_c A5 c5 x.sites left
  rw [lft_le k0] at C0
  have g0 : 0 ≤ left - (x.sites.length : Int) := by omega
  have HE := Lib.hid (show left - (x.sites.length : Int) = lft (msAct x) left by unfold msAct; rw [lft_le (by omega)])
  go_enter Tryd.func44, Tryd.ntmps44
  go_wp2_with fail
  refine (C0 _ (r5.below hS.bel) hV.2.2.2.2.2.1 hV.2.2.2.2.2.2 (by omega) (by omega)).mono ?_
  rintro e w1 ⟨rfl, hb⟩
  replace hS := hS.step hb
  have xb := hS.cell 0 rfl
  have yb := hS.blt 0 rfl
  clear hb
  go_wp2
  go_ret
  exact ⟨ret_int HE.out, hS.bel⟩
set_option maxHeartbeats 4000000 in
set_option maxRecDepth 100000 in
theorem szActS_c (A : Option Addr) (c : Nat) (l : List DAct) (left : Int) (w : World) (hr : kAct.Row w A l.length l) (hm : l.length ≤ maxLen) (hv : ∀ x ∈ l, VAct x) (h0 : 0 ≤ left) (h1 : left ≤ 1048576) : Calls Tryd.prog 21 #[.slice A l.length c, .int .i64 left] w fun e w' => e = .returned (.int .i64 (lft (sumOf msAct l) left)) ∧ Below w.heap.size w w' := by
  unfold maxLen at hm
  by_cases h : (l.length : Int) ≤ left
  · have h2 : 0 ≤ left - (l.length : Int) := by omega
    go_enter Tryd.func21, Tryd.ntmps21
    go_wp2
    go_loopw [1, 5] (fun u i wr => ∃ k s : Nat, k ≤ l.length ∧ i = .int .i64 k ∧ Hid (s = ((l.take k).map msAct).sum) ∧ u = .int .i64 (left - l.length - s) ∧ 0 ≤ left - l.length - s ∧ Below w.heap.size w wr) (fun _ i _ => l.length - (intOf i).toNat)
    case atStart => exact ⟨0, 0, by omega, rfl, rfl, by simp, by simpa using h2, Below.refl _ _⟩
    case round =>
      obtain ⟨k, s, hk, rfl, hs, rfl, hp, hb⟩ := hrel
      by_cases hlt : k < l.length
      · obtain ⟨x, hx⟩ := get_ex l k hlt
        have hV := hv x (List.mem_of_getElem? hx)
        have hsn := sum_snoc msAct l k x hx
        have hle := sum_le msAct l (k + 1)
        obtain ⟨ad, A5y, c5y, rfl, q0, q1, q2, q3, q4, q5, hl5, hr5⟩ := kAct_at (hr.below hb) k x hx
        have HX := Lib.hid hx
        clear hx
        have C := szAct_c A5y c5y x (left - l.length - s)
        have HV := Lib.hid hV
        clear hV
        by_cases hf : (msAct x : Int) ≤ left - l.length - s
        · have HS : Hid (s + msAct x = ((l.take (k + 1)).map msAct).sum) := Lib.hid (by rw [hsn, ← hs.out])
          have e : lft (msAct x) (left - l.length - s) = left - l.length - ((s + msAct x : Nat) : Int) := by simp [lft, hf]; omega
          rw [e] at C
          have hp2 : 0 ≤ left - (l.length : Int) - ((s + msAct x : Nat) : Int) := by omega
          clear hsn hle hf e
          generalize s + msAct x = s2 at C HS hp2
          go_wp2_with fail
          refine (C _ hr5 HV.out (by omega) (by omega)).mono ?_
          rintro e w' ⟨rfl, hb2⟩
          go_wp2
          go_roundw
          case rel => exact ⟨k + 1, s2, by omega, by go_num, HS, rfl, hp2, (by repeat (first | with_reducible exact Below.refl _ _ | with_reducible assumption | (with_reducible refine bl_set ?_ (by dsimp only; omega) _) | with_reducible refine bl_alloc ?_ _ | with_reducible refine bl_drewN ?_ _ | with_reducible refine bl_drew ?_ | with_reducible refine bl_step ?_ (by with_reducible assumption) | exact Below.refl _ _ | assumption | (refine bl_set ?_ (by dsimp only; omega) _) | refine bl_alloc ?_ _ | refine bl_drewN ?_ _ | refine bl_drew ?_ | refine bl_step ?_ (by assumption)))⟩
          case measure => simp [intOf]; omega
        · have e : lft (msAct x) (left - l.length - s) = -1 := by simp [lft]; omega
          rw [e] at C
          have hend : lft (sumOf msAct l) left = -1 := by
            have h3 := hs.out
            simp [lft, sumOf]
            omega
          have HE := Lib.hid hend
          clear hsn hle e hend
          go_wp2_with fail
          refine (C _ hr5 HV.out (by omega) (by omega)).mono ?_
          rintro e w' ⟨rfl, hb2⟩
          go_wp2
          go_ret
          exact ⟨ret_int HE.out.symm, (by repeat (first | with_reducible exact Below.refl _ _ | with_reducible assumption | (with_reducible refine bl_set ?_ (by dsimp only; omega) _) | with_reducible refine bl_alloc ?_ _ | with_reducible refine bl_drewN ?_ _ | with_reducible refine bl_drew ?_ | with_reducible refine bl_step ?_ (by with_reducible assumption) | exact Below.refl _ _ | assumption | (refine bl_set ?_ (by dsimp only; omega) _) | refine bl_alloc ?_ _ | refine bl_drewN ?_ _ | refine bl_drew ?_ | refine bl_step ?_ (by assumption)))⟩
      · have hend : lft (sumOf msAct l) left = left - l.length - s := by
          have h3 := hs.out
          rw [List.take_of_length_le (by omega)] at h3
          simp only [lft, sumOf, ← h3]
          rw [if_pos (by omega)]
          omega
        have HE := Lib.hid hend
        clear hend
        go_wp2
        go_ret
        exact ⟨ret_int HE.out.symm, hb⟩
  · have h2 : left - (l.length : Int) < 0 := by omega
    go_enter Tryd.func21, Tryd.ntmps21
    go_wp2
    go_ret
    exact ⟨by simp [lft, sumOf]; omega, Below.refl _ _⟩
theorem infoAct : (Tryd.prog.info? 90).map (fun i => (i.zero, i.size, i.bytes)) = some (some (.agg #[.int .i64 0, .int .i64 0, .int .i64 0, .int .i64 0, .bool false, .slice none 0 0]), 6, 64) := by kernel_rfl
set_option maxHeartbeats 4000000 in
set_option maxRecDepth 100000 in
theorem toAct_c (A5 : Option Addr) (c5 : Nat) (x : DAct) (w : World) (r5 : kSite.Row w A5 x.sites.length x.sites) (hM : MAct x) : Calls Tryd.prog 47 #[.agg #[.int .i64 x.kind, .int .i64 x.a, .int .i64 x.b, .int .i64 x.lay, .bool x.bare, .slice A5 x.sites.length c5]] w (fun en w' => ∃ (v5 : Value) (F5 : List Nat), en = .returned (.agg #[.int .i64 x.kind, .int .i64 x.a, .int .i64 x.b, .int .i64 x.lay, .bool x.bare, v5]) ∧ St w [Res.own kSite 119 v5 x.sites F5] w') := by
  go_enter Tryd.func47, Tryd.ntmps47
  go_wp2_with fail
  refine (toSiteS_c A5 c5 x.sites _ (r5.below (by repeat (first | with_reducible exact Below.refl _ _ | with_reducible assumption | (with_reducible refine bl_set ?_ (by dsimp only; omega) _) | with_reducible refine bl_alloc ?_ _ | with_reducible refine bl_drewN ?_ _ | with_reducible refine bl_drew ?_ | with_reducible refine bl_step ?_ (by with_reducible assumption) | exact Below.refl _ _ | assumption | (refine bl_set ?_ (by dsimp only; omega) _) | refine bl_alloc ?_ _ | refine bl_drewN ?_ _ | refine bl_drew ?_ | refine bl_step ?_ (by assumption)))) hM).mono ?_
  rintro e w1 ⟨v5, F5, rfl, ho5, hnd5, hF5, hb1⟩
  obtain ⟨Av5, cv5, rfl, _, _⟩ := ho5.row
  obtain ⟨hc1, hf1⟩ := bcell hb1
  have hz1 := hb1.size
  simp at hz1
  have y10 : w.heap.size < w1.heap.size := by omega
  have y11 : w.heap.size + 1 < w1.heap.size := by omega
  have y12 : w.heap.size + 1 + 1 < w1.heap.size := by omega
  have hG5 : ∀ g ∈ F5, w.heap.size + 3 ≤ g := fun g hg => by have := hF5 g hg; simp at this; omega
  have hl5 := ho5.lt
  have hW1 : Below w.heap.size w w1 := (by repeat (first | with_reducible exact Below.refl _ _ | with_reducible assumption | (with_reducible refine bl_set ?_ (by dsimp only; omega) _) | with_reducible refine bl_alloc ?_ _ | with_reducible refine bl_drewN ?_ _ | with_reducible refine bl_drew ?_ | with_reducible refine bl_step ?_ (by with_reducible assumption) | exact Below.refl _ _ | assumption | (refine bl_set ?_ (by dsimp only; omega) _) | refine bl_alloc ?_ _ | refine bl_drewN ?_ _ | refine bl_drew ?_ | refine bl_step ?_ (by assumption)))
  go_wp2
  refine bodyPost_ret (v := .agg #[.int .i64 x.kind, .int .i64 x.a, .int .i64 x.b, .int .i64 x.lay, .bool x.bare, .slice Av5 x.sites.length cv5]) (by simp [results, Tryd.results47, go_sem, *]) rfl ⟨_, F5, rfl, ?_⟩
  refine St.cons (St.bare (by repeat (first | with_reducible exact Below.refl _ _ | with_reducible assumption | (with_reducible refine bl_set ?_ (by dsimp only; omega) _) | with_reducible refine bl_alloc ?_ _ | with_reducible refine bl_drewN ?_ _ | with_reducible refine bl_drew ?_ | with_reducible refine bl_step ?_ (by with_reducible assumption) | exact Below.refl _ _ | assumption | (refine bl_set ?_ (by dsimp only; omega) _) | refine bl_alloc ?_ _ | refine bl_drewN ?_ _ | refine bl_drew ?_ | refine bl_step ?_ (by assumption)))) ?_ hnd5 (fun g hg => by have := hG5 g hg; omega) (by simp)
  · show kSite.Own 119 _ _ _ _
    repeat (first | (with_reducible exact ho5) | (refine Knd.Own.set_old ?_ hG5 (by dsimp only; omega) _) | (refine Knd.Own.below ?_ hb1))
theorem zAct_O (w : World) : kAct.O w zAct (Value.agg #[.int .i64 0, .int .i64 0, .int .i64 0, .int .i64 0, .bool false, .slice none 0 0]).cells.toList [] := kAct_Oi.2 ⟨.slice none 0 0, [], rfl, rfl, Knd.Own.nil _ _ _⟩
set_option maxHeartbeats 4000000 in
set_option maxRecDepth 100000 in
theorem toActS_c (A : Option Addr) (c : Nat) (l : List DAct) (w : World) (hr : kAct.Row w A l.length l) (hm : l.length ≤ 1048576 ∧ ∀ y ∈ l, MAct y) : Calls Tryd.prog 23 #[.slice A l.length c] w (NewRow kAct 90 l w) := by
  obtain ⟨hm, hM⟩ := hm
  go_enter Tryd.func23, Tryd.ntmps23
  go_wp2_with (refine Knd.wp_made kAct rfl _ _ _ rfl l.length rfl rfl 90 Tryd.underlying49 (.agg #[.int .i64 0, .int .i64 0, .int .i64 0, .int .i64 0, .bool false, .slice none 0 0]) 64 infoAct rfl (by decide) (by omega) zAct zAct_O (by omega) ?_; rintro g w1 hg ho hb hz; have HG := Lib.hid hg; clear hg)
  have hg0 : w.heap.size ≤ g := Nat.le_of_eq HG.out.symm
  go_loopw [4] (fun i wr => ∃ (k : Nat) (Fs : List (List Nat)), k ≤ l.length ∧ i = .int .i64 k ∧ kAct.OwnF 90 wr (.slice (some ⟨g, 0, none⟩) l.length l.length) (l.take k ++ List.replicate (l.length - k) zAct) Fs ∧ Hid ((g :: Fs.flatten).Nodup ∧ (∀ q ∈ Fs.flatten, w.heap.size ≤ q)) ∧ Below w.heap.size w wr) (fun i _ => l.length - (intOf i).toNat)
  case atStart => exact ⟨0, List.replicate l.length [], by omega, rfl, by simpa using ho, ⟨by simp [rep_flat], by simp [rep_flat]⟩, hb⟩
  case round =>
    obtain ⟨k, Fs, hk, rfl, ho, hN, hb⟩ := hrel
    by_cases hlt : k < l.length
    · obtain ⟨x, hx⟩ := get_exT l k hlt
      obtain ⟨ad, A5y, c5y, rfl, q0, q1, q2, q3, q4, q5, hl5, hr5⟩ := kAct_at (hr.below hb) k x hx
      have hMx := hM x (List.mem_of_getElem? hx)
      have hp := part_set l zAct x k hx
      have hle : k < (l.take k ++ List.replicate (l.length - k) zAct).length := by simp; omega
      have hlen : (l.take k ++ List.replicate (l.length - k) zAct).length = l.length := by simp; omega
      have hFl : Fs.length = l.length := ho.len.trans hlen
      have HF := Lib.hid hFl
      clear hFl
      have HP := Lib.hid hp
      have HX := Lib.hid hx
      have HL := Lib.hid hlen
      clear hp hx hlen
      have C := toAct_c A5y c5y x wr hr5 hMx
      go_wp2_with fail
      refine C.mono ?_
      rintro e w' ⟨v5, F5, rfl, hS2⟩
      obtain ⟨Av5, cv5, rfl, _, _⟩ := hS2.row 0 rfl
      have hb2 := hS2.bel
      have ho2 := ho.below hb2
      obtain ⟨u0, s0⟩ := ho2.cell (k * 6) (by rw [HL.out]; show _ < l.length * 6; omega)
      have f0 := ho2.free (k * 6)
      obtain ⟨u1, s1⟩ := ho2.cell (k * 6 + 1) (by rw [HL.out]; show _ < l.length * 6; omega)
      have f1 := ho2.free (k * 6 + 1)
      obtain ⟨u2, s2⟩ := ho2.cell (k * 6 + 2) (by rw [HL.out]; show _ < l.length * 6; omega)
      have f2 := ho2.free (k * 6 + 2)
      obtain ⟨u3, s3⟩ := ho2.cell (k * 6 + 3) (by rw [HL.out]; show _ < l.length * 6; omega)
      have f3 := ho2.free (k * 6 + 3)
      obtain ⟨u4, s4⟩ := ho2.cell (k * 6 + 4) (by rw [HL.out]; show _ < l.length * 6; omega)
      have f4 := ho2.free (k * 6 + 4)
      obtain ⟨u5, s5⟩ := ho2.cell (k * 6 + 5) (by rw [HL.out]; show _ < l.length * 6; omega)
      have f5 := ho2.free (k * 6 + 5)
      have HS2 := Lib.hid hS2
      clear hS2
      go_wp2
      go_roundw
      case rel =>
        have hlt2 : ∀ q ∈ g :: Fs.flatten, q < wr.heap.size := fun q hq => ho.lt q (by simpa [Value.ownBlock] using hq)
        have hnew : ∀ q ∈ F5, wr.heap.size ≤ q := fun q hq => by
          have h8 := HS2.out.old
          simp only [List.forall_mem_cons] at h8
          (try simp only [List.mem_append] at hq)
          exact h8.1 q hq
        have hnd : (F5).Nodup := by have h8 := HS2.out.dis; simpa [Res.own] using h8
        have hd : ∀ q ∈ F5, q ∉ g :: Fs.flatten := fun q hq hm => by have := hlt2 q hm; have := hnew q hq; omega
        have h1 := ho2.put k hle [.int .i64 x.kind, .int .i64 x.a, .int .i64 x.b, .int .i64 x.lay, .bool x.bare, .slice Av5 x.sites.length cv5] x F5 (kAct_Oi.2 ⟨_, F5, rfl, rfl, HS2.out.get 0 rfl⟩) (fun h => hd g h (by simp)) (List.nodup_cons.1 hN.out.1).1
        rw [HP.out] at h1
        refine ⟨k + 1, Fs.set k F5, by omega, by go_num, h1, ⟨nodup_put (by rw [HF.out]; exact hlt) hN.out.1 hnd hd, fun q hq => ?_⟩, ?_⟩
        · rcases mem_put (by rw [HF.out]; exact hlt) hq with hq | hq
          · have := hnew q hq
            have := hb.size
            omega
          · exact hN.out.2 q hq
        · exact (by repeat (first | with_reducible exact Below.refl _ _ | with_reducible assumption | (with_reducible refine bl_set ?_ (by dsimp only; omega) _) | with_reducible refine bl_alloc ?_ _ | with_reducible refine bl_drewN ?_ _ | with_reducible refine bl_drew ?_ | with_reducible refine bl_step ?_ (by with_reducible assumption) | exact Below.refl _ _ | assumption | (refine bl_set ?_ (by dsimp only; omega) _) | refine bl_alloc ?_ _ | refine bl_drewN ?_ _ | refine bl_drew ?_ | refine bl_step ?_ (by assumption)))
      case measure => simp [intOf]; omega
    · obtain rfl : k = l.length := by omega
      go_wp2
      go_ret
      have h1 := ho.own
      rw [List.take_length, Nat.sub_self, List.replicate_zero, List.append_nil] at h1
      exact ⟨_, _, rfl, h1, hN.out.1, fun q hq => by
        rcases List.mem_cons.1 hq with rfl | hq
        · exact hg0
        · exact hN.out.2 q hq, hb⟩
set_option maxHeartbeats 4000000 in
set_option maxRecDepth 100000 in
theorem eqAct_c (A5 : Option Addr) (c5 : Nat) (A5z : Option Addr) (c5z : Nat) (x : DAct) (w : World) (r5 : kSite.Row w A5 x.sites.length x.sites) (r5z : kSite.Row w A5z x.sites.length x.sites) : Calls Tryd.prog 52 #[.agg #[.int .i64 x.kind, .int .i64 x.a, .int .i64 x.b, .int .i64 x.lay, .bool x.bare, .slice A5 x.sites.length c5], .agg #[.int .i64 x.kind, .int .i64 x.a, .int .i64 x.b, .int .i64 x.lay, .bool x.bare, .slice A5z x.sites.length c5z]] w fun e w' => e = .returned (.bool true) ∧ Below w.heap.size w w' := by
  have hS := ((St.start w).made (.cells #[.int .i64 x.kind, .int .i64 x.a, .int .i64 x.b, .int .i64 x.lay, .bool x.bare, .slice A5 x.sites.length c5] 90 (0, 0))).madeAt (.cells #[.int .i64 x.kind, .int .i64 x.a, .int .i64 x.b, .int .i64 x.lay, .bool x.bare, .slice A5z x.sites.length c5z] 90 (0, 0)) (w.heap.size + 1) (by simp)
  go_enter Tryd.func52, Tryd.ntmps52
  go_wp2_with fail
  refine (eqSiteS_c A5 A5z c5 c5z x.sites _ (r5.below hS.bel) (r5z.below hS.bel)).mono ?_
  rintro e w1 ⟨rfl, hb⟩
  replace hS := hS.step hb
  have xb := hS.cell 0 rfl
  have xa := hS.cell 1 rfl
  have yb := hS.blt 0 rfl
  have ya := hS.blt 1 rfl
  clear hb
  go_wp2
  go_ret
  exact ⟨rfl, hS.bel⟩
set_option maxHeartbeats 4000000 in
set_option maxRecDepth 100000 in
theorem eqActS_c (A B : Option Addr) (c c' : Nat) (l : List DAct) (w : World) (hr : kAct.Row w A l.length l) (hr' : kAct.Row w B l.length l) : Calls Tryd.prog 25 #[.slice A l.length c, .slice B l.length c'] w fun e w' => e = .returned (.bool true) ∧ Below w.heap.size w w' := by
  have hm := hr.2.1
  go_enter Tryd.func25, Tryd.ntmps25
  go_wp2
  go_loopw [5] (fun i wr => ∃ k : Nat, k ≤ l.length ∧ i = .int .i64 k ∧ Below w.heap.size w wr) (fun i _ => l.length - (intOf i).toNat)
  case atStart => exact ⟨0, by omega, rfl, Below.refl _ _⟩
  case round =>
    obtain ⟨k, hk, rfl, hb⟩ := hrel
    by_cases hlt : k < l.length
    · obtain ⟨x, hx⟩ := get_exE l k hlt
      obtain ⟨ady, A5y, c5y, rfl, q0, q1, q2, q3, q4, q5, hl5y, hr5y⟩ := kAct_at (hr.below hb) k x hx
      obtain ⟨adz, A5z, c5z, rfl, p0, p1, p2, p3, p4, p5, hl5z, hr5z⟩ := kAct_at (hr'.below hb) k x hx
      clear hx
      go_wp2
      go_region_held3 (fun w' => w'.cell? (ady.add (k * 6)) = some (.int .i64 x.kind) ∧ w'.cell? ⟨(ady.add (k * 6)).block, (ady.add (k * 6)).off + 1, none⟩ = some (.int .i64 x.a) ∧ w'.cell? ⟨(ady.add (k * 6)).block, (ady.add (k * 6)).off + 2, none⟩ = some (.int .i64 x.b) ∧ w'.cell? ⟨(ady.add (k * 6)).block, (ady.add (k * 6)).off + 3, none⟩ = some (.int .i64 x.lay) ∧ w'.cell? ⟨(ady.add (k * 6)).block, (ady.add (k * 6)).off + 4, none⟩ = some (.bool x.bare) ∧ w'.cell? ⟨(ady.add (k * 6)).block, (ady.add (k * 6)).off + 5, none⟩ = some (.slice A5y x.sites.length c5y) ∧ w'.cell? (adz.add (k * 6)) = some (.int .i64 x.kind) ∧ w'.cell? ⟨(adz.add (k * 6)).block, (adz.add (k * 6)).off + 1, none⟩ = some (.int .i64 x.a) ∧ w'.cell? ⟨(adz.add (k * 6)).block, (adz.add (k * 6)).off + 2, none⟩ = some (.int .i64 x.b) ∧ w'.cell? ⟨(adz.add (k * 6)).block, (adz.add (k * 6)).off + 3, none⟩ = some (.int .i64 x.lay) ∧ w'.cell? ⟨(adz.add (k * 6)).block, (adz.add (k * 6)).off + 4, none⟩ = some (.bool x.bare) ∧ w'.cell? ⟨(adz.add (k * 6)).block, (adz.add (k * 6)).off + 5, none⟩ = some (.slice A5z x.sites.length c5z) ∧ Below wr.heap.size wr w') ((refine ⟨?_, ?_, ?_, ?_, ?_, ?_, ?_, ?_, ?_, ?_, ?_, ?_, ?_⟩ <;> first | assumption | (go_keep; done) | exact (by repeat (first | with_reducible exact Below.refl _ _ | with_reducible assumption | (with_reducible refine bl_set ?_ (by dsimp only; omega) _) | with_reducible refine bl_alloc ?_ _ | with_reducible refine bl_drewN ?_ _ | with_reducible refine bl_drew ?_ | with_reducible refine bl_step ?_ (by with_reducible assumption) | exact Below.refl _ _ | assumption | (refine bl_set ?_ (by dsimp only; omega) _) | refine bl_alloc ?_ _ | refine bl_drewN ?_ _ | refine bl_drew ?_ | refine bl_step ?_ (by assumption))))) (first | (go_at_call 52; refine (eqAct_c _ _ _ _ _ _ (hr5y.below (by repeat (first | with_reducible exact Below.refl _ _ | with_reducible assumption | (with_reducible refine bl_set ?_ (by dsimp only; omega) _) | with_reducible refine bl_alloc ?_ _ | with_reducible refine bl_drewN ?_ _ | with_reducible refine bl_drew ?_ | with_reducible refine bl_step ?_ (by with_reducible assumption) | exact Below.refl _ _ | assumption | (refine bl_set ?_ (by dsimp only; omega) _) | refine bl_alloc ?_ _ | refine bl_drewN ?_ _ | refine bl_drew ?_ | refine bl_step ?_ (by assumption)))) (hr5z.below (by repeat (first | with_reducible exact Below.refl _ _ | with_reducible assumption | (with_reducible refine bl_set ?_ (by dsimp only; omega) _) | with_reducible refine bl_alloc ?_ _ | with_reducible refine bl_drewN ?_ _ | with_reducible refine bl_drew ?_ | with_reducible refine bl_step ?_ (by with_reducible assumption) | exact Below.refl _ _ | assumption | (refine bl_set ?_ (by dsimp only; omega) _) | refine bl_alloc ?_ _ | refine bl_drewN ?_ _ | refine bl_drew ?_ | refine bl_step ?_ (by assumption))))).mono ?_; rintro e w' ⟨rfl, hb2⟩; have q0 := kept hb2 q0; have q1 := kept hb2 q1; have q2 := kept hb2 q2; have q3 := kept hb2 q3; have q4 := kept hb2 q4; have q5 := kept hb2 q5; have p0 := kept hb2 p0; have p1 := kept hb2 p1; have p2 := kept hb2 p2; have p3 := kept hb2 p3; have p4 := kept hb2 p4; have p5 := kept hb2 p5; have hW2 : Below wr.heap.size wr w' := (by repeat (first | with_reducible exact Below.refl _ _ | with_reducible assumption | (with_reducible refine bl_set ?_ (by dsimp only; omega) _) | with_reducible refine bl_alloc ?_ _ | with_reducible refine bl_drewN ?_ _ | with_reducible refine bl_drew ?_ | with_reducible refine bl_step ?_ (by with_reducible assumption) | exact Below.refl _ _ | assumption | (refine bl_set ?_ (by dsimp only; omega) _) | refine bl_alloc ?_ _ | refine bl_drewN ?_ _ | refine bl_drew ?_ | refine bl_step ?_ (by assumption)))))
      go_wp2
      go_roundw
      case rel => exact ⟨k + 1, by omega, by go_num, (by repeat (first | with_reducible exact Below.refl _ _ | with_reducible assumption | (with_reducible refine bl_set ?_ (by dsimp only; omega) _) | with_reducible refine bl_alloc ?_ _ | with_reducible refine bl_drewN ?_ _ | with_reducible refine bl_drew ?_ | with_reducible refine bl_step ?_ (by with_reducible assumption) | exact Below.refl _ _ | assumption | (refine bl_set ?_ (by dsimp only; omega) _) | refine bl_alloc ?_ _ | refine bl_drewN ?_ _ | refine bl_drew ?_ | refine bl_step ?_ (by assumption)))⟩
      case measure => simp [intOf]; omega
    · go_wp2
      go_ret
      exact ⟨rfl, hb⟩
theorem ctOneAct (x : DAct) : ctAct x ≤ 5 * (msAct x + 1) := by
  have h5 := ctLeSite x.sites
  unfold ctAct msAct
  try simp only [sumOf] at *
  omega
theorem ctLeAct (l : List DAct) : ctL ctAct l ≤ 5 * sumOf msAct l := ctL_le2 5 ctOneAct l
end Go.Proofs.YtpjdecneeakkeaaDoor.Dat

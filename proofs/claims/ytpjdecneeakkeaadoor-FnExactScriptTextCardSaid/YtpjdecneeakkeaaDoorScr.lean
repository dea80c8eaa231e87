/- ScriptText, in the reference and in the program. -/
import Derived.Test.YtpjdecneeakkeaaDoorActT3
namespace Go.Proofs.YtpjdecneeakkeaaDoor.Dat
open Go Go.RowKit Go.Proofs.YtpjdecneeakkeaaDoor.Mem
set_option linter.unusedVariables false
set_option linter.unusedSimpArgs false
def actA (x : DAct) : Bool := actB x.kind x.a x.b x.lay x.bare x.sites.length
def lineN (x : DAct) : List UInt8 := lineL x ++ [10]
def scriptL (l : List DAct) : List UInt8 := if l.length ≤ 60 ∧ l.all actA = true then l.flatMap lineN else []
theorem lineN_txt (x : DAct) : Value.string (txt (lineL x) ++ (⟨#[10]⟩ : ByteArray)) = .string (txt (lineN x)) := by
  congr 1
theorem btwB {a lo hi : Int} (h : btw a lo hi = true) : lo ≤ a ∧ a ≤ hi := by
  unfold btw at h
  simpa using h
theorem actA_sites {x : DAct} (h : actA x = true) : x.sites.length ≤ 150 := by
  unfold actA actB onlyB at h
  by_cases k1 : x.kind = 1
  · rw [if_pos k1] at h
    simp at h
    have := h.2.2.2
    rw [this]
    simp
  rw [if_neg k1] at h
  by_cases k2 : x.kind = 2
  · rw [if_pos k2] at h
    simp at h
    have := h.2.2.2
    rw [this]
    simp
  rw [if_neg k2] at h
  by_cases k3 : x.kind = 3
  · rw [if_pos k3] at h
    simp at h
    have := h.2.2.2
    rw [this]
    simp
  rw [if_neg k3] at h
  by_cases k4 : x.kind = 4
  · rw [if_pos k4] at h
    simp at h
    have := h.2.2.2
    rw [this]
    simp
  rw [if_neg k4] at h
  by_cases k5 : x.kind = 5
  · rw [if_pos k5] at h
    simp at h
    omega
  rw [if_neg k5] at h
  cases h
theorem itoas_len' (zs : List Int) (h : ∀ z ∈ zs, I64 z) : (Lib.join (itoas zs) blank).length ≤ 22 * zs.length := by
  have := itoas_len zs h
  omega
theorem lineN_len {x : DAct} (h : ActI x) (hs : x.sites.length ≤ 150) : (lineN x).length ≤ 14000 := by
  have z1 := itoas_len' [x.a] (by intro z hz; simp at hz; subst hz; exact h.a)
  have z2 := itoas_len' [x.a, x.lay] (by intro z hz; simp at hz; rcases hz with rfl | rfl; exact h.a; exact h.y)
  have z3 := itoas_len' [x.a, x.b, x.lay] (by intro z hz; simp at hz; rcases hz with rfl | rfl | rfl; exact h.a; exact h.b; exact h.y)
  have z4 := flatC_len (f := siteL) (c := 89) (l := x.sites) (fun s hs => siteL_len (h.s s hs))
  have z5 : forgeL.length = 5 := rfl
  have z6 := bareL_len x.bare
  have z7 := Lib.itoa_length_le x.a h.a.lo h.a.hi
  simp only [List.length_cons, List.length_nil] at z1 z2 z3
  have hL : (lineL x).length ≤ 13999 := by
    unfold lineL
    repeat' split
    all_goals (simp only [List.length_append, List.length_cons, List.length_nil]; omega)
  unfold lineN
  rw [List.length_append]
  simp
  omega
theorem all_takeS {α : Type} {p : α → Bool} {l : List α} {k : Nat} {x : α} (h : l[k]? = some x) (ha : (l.take k).all p = true) (hx : p x = true) : (l.take (k + 1)).all p = true := by
  rw [List.take_add_one, h, List.all_append, ha]
  simp [hx]
theorem all_no {α : Type} {p : α → Bool} {l : List α} {x : α} (h : x ∈ l) (hx : p x = false) : l.all p = false := by
  rw [Bool.eq_false_iff]
  intro ha
  rw [List.all_eq_true] at ha
  rw [ha x h] at hx
  cases hx
theorem scr_no {l : List DAct} {x : DAct} (h : x ∈ l) (hx : actA x = false) : scriptL l = [] := by
  unfold scriptL
  rw [if_neg (by rw [all_no h hx]; simp)]
set_option maxHeartbeats 8000000 in
set_option maxRecDepth 100000 in
theorem script3 (A : Option Addr) (c : Nat) (l : List DAct) (w : World) (hr : kAct.Row w A l.length l) (hn : l.length ≤ 1048576) (hm : ∀ x ∈ l, MAct x) (hi : ∀ x ∈ l, ActI x) {X : List UInt8} (hX : scriptL l = X) :
    Calls Tryd.prog 22 #[.slice A l.length c] w fun e w' => e = .returned (.string (txt X)) ∧ Below w.heap.size w w' := by
  subst hX
  by_cases h60 : l.length ≤ 60
  · have hA0 := Acc.empty w w.heap.size rfl
    go_enter Tryd.func22, Tryd.ntmps22
    go_wp2
    go_loopw [3, 4] (fun v i wr => ∃ k : Nat, k ≤ l.length ∧ i = .int .i64 k ∧ (l.take k).all actA = true ∧ Acc w.heap.size v ((l.take k).flatMap lineN) wr ∧ Below w.heap.size w wr) (fun _ i _ => l.length - (intOf i).toNat)
    case atStart => exact ⟨0, by omega, rfl, rfl, hA0, bl_alloc (Below.refl _ _) _⟩
    case round =>
      clear hA0
      obtain ⟨k, hk, rfl, hall, hA, hB⟩ := hrel
      by_cases hlt : k < l.length
      · obtain ⟨x, hx⟩ := get_exU l k hlt
        have hxl := List.mem_of_getElem? hx
        obtain ⟨ad, A5, c5, rfl, q0, q1, q2, q3, q4, q5, hc5, r5⟩ := kAct_at (hr.below hB) k x hx
        have hI := hi x hxl
        have hM : x.sites.length ≤ 1048576 := hm x hxl
        have HN := Lib.hid (flatC_step (f := lineN) hx)
        cases hok : actA x
        · have E := Lib.hid (scr_no hxl hok)
          have HO := Lib.hid (show actB x.kind x.a x.b x.lay x.bare x.sites.length = false from hok)
          clear hok hall HN hx
          go_wp2_with fail
          refine (actOk3 x.kind x.a x.b x.lay x.bare A5 x.sites.length c5 _ hM HO.out).mono ?_
          rintro e w1 ⟨rfl, hb1⟩
          go_wp2
          go_ret
          exact ⟨by rw [E.out]; rfl, hB.trans (hb1.mono hB.size)⟩
        · have HO := Lib.hid (show actB x.kind x.a x.b x.lay x.bare x.sites.length = true from hok)
          have hs150 := actA_sites hok
          have HA := Lib.hid (all_takeS hx hall hok)
          have HB := Lib.hid (show ((l.take k).flatMap lineN).length + (lineN x).length ≤ 100000000000000 by
            have h1 := flatC_len (f := lineN) (c := 14000) (l := l.take k) (fun y hy => lineN_len (hi y (List.mem_of_mem_take hy)) (actA_sites (List.all_eq_true.1 hall y hy)))
            have h2 := lineN_len hI hs150
            have h3 : (l.take k).length ≤ 60 := by rw [List.length_take]; omega
            omega)
          clear hok hall hx
          have zl : (lineL x).length ≤ 14000 := by have := lineN_len hI hs150; unfold lineN at this; rw [List.length_append] at this; omega
          have yl := txt_size (lineL x)
          go_wp2_with fail
          refine (actOk3 x.kind x.a x.b x.lay x.bare A5 x.sites.length c5 _ hM HO.out).mono ?_
          rintro e w1 ⟨rfl, hb1⟩
          have p0 := kept hb1 q0
          have p1 := kept hb1 q1
          have p2 := kept hb1 q2
          have p3 := kept hb1 q3
          have p4 := kept hb1 q4
          have p5 := kept hb1 q5
          clear q0 q1 q2 q3 q4 q5
          go_wp2_with fail
          refine (line18 A5 c5 x _ hI (r5.below hb1) (by omega) rfl).mono ?_
          rintro e w2 ⟨rfl, hb2⟩
          have hb12 := hb1.trans (hb2.mono hb1.size)
          clear p0 p1 p2 p3 p4 p5 hb1 hb2
          go_wp2_with (at_builtin; refine wp_appStr rfl _ _ rfl rfl (hA.below hb12) (lineN x) (lineN_txt x) HB.out (Nat.le_trans hB.size hb12.size) ?_; rintro v' w' hA' hB' hK')
          go_roundw
          case rel => exact ⟨k + 1, by omega, by go_num, HA.out, by rw [HN.out]; exact hA', (hB.trans (hb12.mono hB.size)).trans hB'⟩
          case measure => simp [intOf]; omega
      · obtain rfl : k = l.length := by omega
        rw [List.take_length] at hA hall
        have E := Lib.hid (show scriptL l = l.flatMap lineN by unfold scriptL; rw [if_pos ⟨h60, hall⟩])
        have hcv := run_accStr hA
        go_wp2
        go_ret
        exact ⟨by rw [E.out]; rfl, hB⟩
  · have E := Lib.hid (show scriptL l = [] by unfold scriptL; rw [if_neg (fun h => h60 h.1)])
    go_enter Tryd.func22, Tryd.ntmps22
    go_wp2
    go_ret
    exact ⟨by rw [E.out]; rfl, (by repeat (first | with_reducible exact Below.refl _ _ | with_reducible assumption | (with_reducible refine bl_set ?_ (by dsimp only; omega) _) | with_reducible refine bl_alloc ?_ _ | with_reducible refine bl_drewN ?_ _ | with_reducible refine bl_drew ?_ | with_reducible refine bl_step ?_ (by with_reducible assumption) | exact Below.refl _ _ | assumption | (refine bl_set ?_ (by dsimp only; omega) _) | refine bl_alloc ?_ _ | refine bl_drewN ?_ _ | refine bl_drew ?_ | refine bl_step ?_ (by assumption)))⟩
theorem writeStrN (B b : Nat) (l s : List UInt8) (w : World) (v : Value) (hv : v = .string (txt s)) (h : Bld B b l w) (hlen : l.length + s.length ≤ 100000000000000) (hB : B ≤ w.heap.size) :
    Calls Tryd.prog 49 #[.pointer (some ⟨b, 0, none⟩), v] w fun e w' => e = .returned (.tuple #[.int .i64 (txt s).size, .nilIface]) ∧ Bld B b (l ++ s) w' ∧ Below B w w' ∧ (∀ (g : Nat) (o : Obj), w.heap[g]? = some o → g ≠ b → (∀ c fz, o ≠ Obj.cells c 5 fz) → w'.heap[g]? = some o) := by
  subst hv
  exact writeStr B b l s w h hlen hB
set_option maxHeartbeats 8000000 in
set_option maxRecDepth 100000 in
theorem scriptI (A : Option Addr) (c : Nat) (l : List DAct) (w : World) (hr : kAct.Row w A l.length l) (hn : l.length ≤ 1048576) (hm : ∀ x ∈ l, MAct x) (hi : ∀ x ∈ l, ActI x) (ht : Tab w) {X : List UInt8} (hX : scriptL l = X) :
    Calls Tryd.prog 24 #[.slice A l.length c] w fun e w' => e = .returned (.string (txt X)) ∧ Below w.heap.size w w' := by
  subst hX
  have hA0 := Bld.fresh w
  go_enter Tryd.func24, Tryd.ntmps24
  go_wp2
  go_loopw [8] (fun i wr => ∃ k : Nat, k ≤ l.length ∧ i = .int .i64 k ∧ (l.take k).all actA = true ∧ Bld w.heap.size w.heap.size ((l.take k).flatMap lineN) wr ∧ Below w.heap.size w wr) (fun i _ => l.length - (intOf i).toNat)
  case atStart => exact ⟨0, by omega, rfl, rfl, hA0, bl_alloc (Below.refl _ _) _⟩
  case round =>
    clear hA0
    obtain ⟨k, hk, rfl, hall, hA, hB⟩ := hrel
    by_cases hlt : k < l.length
    · obtain ⟨x, hx⟩ := get_exU l k hlt
      have hxl := List.mem_of_getElem? hx
      obtain ⟨ad, A5, c5, rfl, q0, q1, q2, q3, q4, q5, hc5, r5⟩ := kAct_at (hr.below hB) k x hx
      have hI := hi x hxl
      have hM : x.sites.length ≤ 1048576 := hm x hxl
      have HN := Lib.hid (flatC_step (f := lineN) hx)
      have hT := (St.start wr).made (.cells #[.int .i64 x.kind, .int .i64 x.a, .int .i64 x.b, .int .i64 x.lay, .bool x.bare, .slice A5 x.sites.length c5] 90 (0, 0))
      cases hok : actA x
      · have E := Lib.hid (scr_no hxl hok)
        have HO := Lib.hid (show actB x.kind x.a x.b x.lay x.bare x.sites.length = false from hok)
        clear hok hall HN hx
        go_wp2_with fail
        refine (actOkI x.kind x.a x.b x.lay x.bare A5 x.sites.length c5 _ hM HO.out).mono ?_
        rintro e w1 ⟨rfl, hb1⟩
        have hT1 := hT.step hb1
        go_wp2
        go_ret
        exact ⟨by rw [E.out]; rfl, hB.trans (hT1.bel.mono hB.size)⟩
      · have HO := Lib.hid (show actB x.kind x.a x.b x.lay x.bare x.sites.length = true from hok)
        have hs150 := actA_sites hok
        have HA := Lib.hid (all_takeS hx hall hok)
        have HB := Lib.hid (show ((l.take k).flatMap lineN).length + (lineN x).length ≤ 100000000000000 by
          have h1 := flatC_len (f := lineN) (c := 14000) (l := l.take k) (fun y hy => lineN_len (hi y (List.mem_of_mem_take hy)) (actA_sites (List.all_eq_true.1 hall y hy)))
          have h2 := lineN_len hI hs150
          have h3 : (l.take k).length ≤ 1048576 := by rw [List.length_take]; omega
          omega)
        clear hok hall hx
        have zl : (lineL x).length ≤ 14000 := by have := lineN_len hI hs150; unfold lineN at this; rw [List.length_append] at this; omega
        have yl := txt_size (lineL x)
        go_wp2_with fail
        refine (actOkI x.kind x.a x.b x.lay x.bare A5 x.sites.length c5 _ hM HO.out).mono ?_
        rintro e w1 ⟨rfl, hb1⟩
        have hT1 := hT.step hb1
        have x0 := hT1.cell 0 rfl 0
        have x1 := hT1.cell 0 rfl 1
        have x2 := hT1.cell 0 rfl 2
        have x3 := hT1.cell 0 rfl 3
        have x4 := hT1.cell 0 rfl 4
        have x5 := hT1.cell 0 rfl 5
        clear q0 q1 q2 q3 q4 q5
        go_wp2_with fail
        refine (actTextI A5 c5 x _ hI (r5.below hT1.bel) (by omega) ((ht.below hB).below hT1.bel) rfl).mono ?_
        rintro e w2 ⟨rfl, hb2⟩
        have hT2 := hT1.step hb2
        clear hb1 hb2 x0 x1 x2 x3 x4 x5
        go_wp2_with fail
        refine (writeStrN _ _ _ (lineN x) _ _ (lineN_txt x) (hA.below hT2.bel) HB.out (Nat.le_trans hB.size hT2.bel.size)).mono ?_
        rintro e w7 ⟨rfl, hA', hB', hK'⟩
        go_wp2
        go_roundw
        case rel => exact ⟨k + 1, by omega, by go_num, HA.out, by rw [HN.out]; exact hA', (hB.trans (hT2.bel.mono hB.size)).trans hB'⟩
        case measure => simp [intOf]; omega
    · obtain rfl : k = l.length := by omega
      rw [List.take_length] at hA hall
      by_cases h60 : l.length ≤ 60
      · have E := Lib.hid (show scriptL l = l.flatMap lineN by unfold scriptL; rw [if_pos ⟨h60, hall⟩])
        go_wp2_with fail
        refine (bldStr _ _ _ _ hA hB.size).mono ?_
        rintro e w3 ⟨rfl, hb3⟩
        go_wp2
        go_ret
        exact ⟨by rw [E.out]; rfl, hB.trans hb3⟩
      · have E := Lib.hid (show scriptL l = [] by unfold scriptL; rw [if_neg (fun h => h60 h.1)])
        go_wp2
        go_ret
        exact ⟨by rw [E.out]; rfl, hB⟩
end Go.Proofs.YtpjdecneeakkeaaDoor.Dat

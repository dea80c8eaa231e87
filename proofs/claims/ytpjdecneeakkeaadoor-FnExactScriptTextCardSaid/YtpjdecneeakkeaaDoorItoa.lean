/- Numbers as texts: strconv.Itoa, strings.Join, joined; the reference's digits. -/
import Derived.Test.YtpjdecneeakkeaaDoorLay3
import Derived.Test.YtpjdecneeakkeaaDoorK1
import Derived.Test.YtpjdecneeakkeaaDoorK4
import Derived.Lib.ItoaLen
import Derived.Deep.RegionHeld3
import Derived.IntWalk
namespace Go.Proofs.YtpjdecneeakkeaaDoor.Dat
open Go Go.RowKit Go.Proofs.YtpjdecneeakkeaaDoor.Mem
set_option linter.unusedVariables false
set_option linter.unusedSimpArgs false
/-- The table of the powers of ten lies as it was laid. -/
def Tab (w : World) : Prop := Lib.TabIs Tryd.prog w "internal/strconv.uint64pow10" .u64 Lib.pow10Tab
theorem gPow : Tryd.prog.globalNamed "internal/strconv.uint64pow10" = some 1 := by kernel_rfl
theorem var_below {n : String} {g : Nat} {cs : Array Value} {w w' : World} (hg : Tryd.prog.globalNamed n = some g) (h : w.var? Tryd.prog n = some cs) (hb : Below w.heap.size w w') : w'.var? Tryd.prog n = some cs := by
  unfold World.var? at h ⊢
  rw [hg] at h ⊢
  simp only [Option.bind_some] at h ⊢
  have hlt : g < w.heap.size := by
    rcases Nat.lt_or_ge g w.heap.size with h' | h'
    · exact h'
    · rw [Array.getElem?_eq_none h'] at h; cases h
  rw [hb.block g hlt]
  exact h
theorem Tab.below {w w' : World} (h : Tab w) (hb : Below w.heap.size w w') : Tab w' := var_below gPow h hb
/-- A list of bytes as a text. -/
def txt (l : List UInt8) : ByteArray := ⟨l.toArray⟩
theorem txt_list (l : List UInt8) : (txt l).data.toList = l := by simp [txt]
theorem txt_app (a b : List UInt8) : txt a ++ txt b = txt (a ++ b) := by
  unfold txt
  show ByteArray.append _ _ = _
  apply ByteArray.ext
  simp [ByteArray.append, ByteArray.copySlice]
theorem txt_lit {a : Array UInt8} {l : List UInt8} (h : a.toList = l) : (⟨a⟩ : ByteArray) = txt l := by
  subst h
  rfl
theorem txt_size (l : List UInt8) : (txt l).size = l.length := by simp [txt, ByteArray.size]
theorem txt_inj {a b : List UInt8} (h : txt a = txt b) : a = b := by
  have := congrArg (fun x => x.data.toList) h
  simpa [txt] using this
theorem below_grow (w : World) (k : Nat) (os : Array Obj) : Below w.heap.size w (Sort.grow (w.drewN k) os) := by
  refine ⟨rfl, rfl, rfl, ?_, fun i hi => ?_⟩
  · simp [Sort.grow, World.drewN]
  · simp only [Sort.grow, World.drewN]
    rw [Array.getElem?_append_left hi]
theorem keptI {w w1 : World} {p : Addr} {v : Value} (hb : Below w.heap.size w w1) (h : w.cell? p = some v) : w1.cell? p = some v := cell_below hb (World.block_lt_of_cell? w _ h) h
theorem itoaI (n : Int) (h0 : -9223372036854775808 ≤ n) (h1 : n ≤ 9223372036854775807) (w : World) (ht : Tab w) :
    Calls Tryd.prog 37 #[.int .i64 n] w fun e w' => e = .returned (.string (txt (Lib.itoa n))) ∧ Below w.heap.size w w' := by
  refine (Any.strconv_Itoa laysItoa n h0 h1 w ht).mono ?_
  rintro e w' ⟨rfl, k, os, rfl⟩
  exact ⟨rfl, below_grow _ _ _⟩
theorem itoa_neg' {n : Int} (h : n < 0) : Lib.itoa n = 45 :: Lib.itoa (-n) := by
  unfold Lib.itoa
  rw [if_pos h, if_neg (by omega)]
  congr 2
  omega
theorem itoa_big {n : Int} (h : 10 ≤ n) : Lib.itoa n = Lib.itoa (n.tdiv 10) ++ Lib.itoa (n.tmod 10) := by
  obtain ⟨m, rfl⟩ : ∃ m : Nat, n = m := ⟨n.toNat, by omega⟩
  have e1 : (m : Int).tdiv 10 = ((m / 10 : Nat) : Int) := by rw [Int.tdiv_eq_ediv_of_nonneg (by omega)]; omega
  have e2 : (m : Int).tmod 10 = ((m % 10 : Nat) : Int) := by rw [Int.tmod_eq_emod_of_nonneg (by omega)]; omega
  rw [e1, e2]
  unfold Lib.itoa
  rw [if_neg (by omega), if_neg (by omega), if_neg (by omega)]
  simp only [Int.toNat_natCast]
  rw [Lib.decDigits, dif_neg (by omega)]
  congr 1
  rw [Lib.decDigits, dif_pos (by omega)]
theorem itoa_dig {n : Int} (h0 : 0 ≤ n) (h : n < 10) : Lib.itoa n = [UInt8.ofNat (48 + n.toNat)] := by
  unfold Lib.itoa
  rw [if_neg (by omega), Lib.decDigits, dif_pos (by omega)]
theorem itoa_neg_big {n : Int} (h : n < -9) : Lib.itoa n = 45 :: (Lib.itoa (-(n.tdiv 10)) ++ Lib.itoa (-(n.tmod 10))) := by
  rw [itoa_neg' (by omega), itoa_big (n := -n) (by omega), Int.neg_tdiv, Int.neg_tmod]
theorem conv1 {W : World} {g : Nat} (x : Int) (hc : W.cell? ⟨g, 0, none⟩ = some (.int .u8 x)) : (convert 86 9 (.slice (some ⟨g, 0, none⟩) 1 1)).run Tryd.prog W = .ok (.string (txt [UInt8.ofNat x.toNat])) W := by
  have hl : (loadCells ⟨g, 0, none⟩ 1).run Tryd.prog W = .ok #[.int .u8 x] W := by
    have := run_loadCells_list (P := Tryd.prog) W ⟨g, 0, none⟩ [Value.int .u8 x] (fun j v hj => by
      have hj0 : j = 0 := by
        have := (List.getElem?_eq_some_iff.1 hj).1
        simp at this
        exact this
      subst hj0
      simp at hj
      subst hj
      simpa [Addr.add] using hc)
    simpa using this
  have hl2 : (loadCells ⟨g, 0, none⟩ 1).run Tryd.prog W = .ok (([x] : List Int).map (Value.int .u8)).toArray W := by simpa using hl
  rw [run_convert_bytes_string W 86 9 5 _ 1 1 Tryd.underlying86 Tryd.underlying5 Tryd.underlying9, run_bytesToString W _ 1 1 [x] hl2]
  rfl
set_option maxHeartbeats 2000000 in
set_option maxRecDepth 100000 in
theorem digPos : ∀ (k m : Nat), m ≤ k → (m : Int) ≤ 9223372036854775807 → ∀ w : World, Calls Tryd.prog 34 #[.int .i64 m] w fun e w' => e = .returned (.string (txt (Lib.itoa m))) ∧ Below w.heap.size w w' := by
  intro k
  induction k with
  | zero =>
    intro m hm hb w
    obtain rfl : m = 0 := by omega
    have E := Lib.hid (itoa_dig (n := 0) (by omega) (by omega))
    go_enter Tryd.func34, Tryd.ntmps34
    have hcv := fun W (hc : World.cell? W ⟨w.heap.size, 0, none⟩ = some (.int .u8 48)) => conv1 48 hc
    go_wp2
    go_ret
    exact ⟨by have := E.out; simp at this; simp [this], (by repeat (first | with_reducible exact Below.refl _ _ | with_reducible assumption | (with_reducible refine bl_set ?_ (by dsimp only; omega) _) | with_reducible refine bl_alloc ?_ _ | with_reducible refine bl_drewN ?_ _ | with_reducible refine bl_drew ?_ | with_reducible refine bl_step ?_ (by with_reducible assumption) | exact Below.refl _ _ | assumption | (refine bl_set ?_ (by dsimp only; omega) _) | refine bl_alloc ?_ _ | refine bl_drewN ?_ _ | refine bl_drew ?_ | refine bl_step ?_ (by assumption)))⟩
  | succ k ih =>
    intro m hm hb w
    by_cases h10 : m < 10
    · have E := Lib.hid (itoa_dig (n := m) (by omega) (by omega))
      clear ih
      have hu : (48 + (m : Int)) % 256 = 48 + m := by omega
      have h10' : (m : Int) < 10 := by omega
      have hcv := fun W (hc : World.cell? W ⟨w.heap.size, 0, none⟩ = some (.int .u8 (48 + (m : Int)))) => conv1 (48 + (m : Int)) hc
      go_enter Tryd.func34, Tryd.ntmps34
      go_wp2
      go_ret
      exact ⟨by rw [E.out]; simp, (by repeat (first | with_reducible exact Below.refl _ _ | with_reducible assumption | (with_reducible refine bl_set ?_ (by dsimp only; omega) _) | with_reducible refine bl_alloc ?_ _ | with_reducible refine bl_drewN ?_ _ | with_reducible refine bl_drew ?_ | with_reducible refine bl_step ?_ (by with_reducible assumption) | exact Below.refl _ _ | assumption | (refine bl_set ?_ (by dsimp only; omega) _) | refine bl_alloc ?_ _ | refine bl_drewN ?_ _ | refine bl_drew ?_ | refine bl_step ?_ (by assumption)))⟩
    · have e := itoa_big (n := m) (by omega)
      have e1 : (m : Int).tdiv 10 = (m : Int) / 10 := Int.tdiv_eq_ediv_of_nonneg (by omega)
      have e2 : (m : Int).tmod 10 = (m : Int) % 10 := Int.tmod_eq_emod_of_nonneg (by omega)
      rw [e1, e2, itoa_dig (n := (m : Int) % 10) (by omega) (by omega)] at e
      have C1 := ih (m / 10) (by omega) (by omega)
      have d1 : ((m / 10 : Nat) : Int) = (m : Int) / 10 := by omega
      rw [d1] at C1
      have E := Lib.hid e
      have hu0 : IntKind.i64.wrap (48 + (m : Int) % 10) = 48 + (m : Int) % 10 := IntWalk.i64_in _ (by omega)
      have hu1 : IntKind.i64.wrap ((m : Int) / 10) = (m : Int) / 10 := IntWalk.i64_in _ (by omega)
      have hu : IntKind.u8.wrap (48 + (m : Int) % 10) = 48 + (m : Int) % 10 := IntWalk.u8_in _ (by omega)
      have hcv := fun W g (hc : World.cell? W ⟨g, 0, none⟩ = some (.int .u8 (48 + (m : Int) % 10))) => conv1 (48 + (m : Int) % 10) hc
      have hz1 : (txt (Lib.itoa ((m : Int) / 10))).size ≤ 21 := by rw [txt_size]; exact Lib.itoa_length_le _ (by omega) (by omega)
      have hz2 : (txt [UInt8.ofNat (48 + (m : Int) % 10).toNat]).size ≤ 1 := by rw [txt_size]; simp
      clear e ih
      go_enter Tryd.func34, Tryd.ntmps34
      go_wp2
      have hcc : (9223372036854775807 < (txt (Lib.itoa ((m : Int) / 10))).size + (txt [UInt8.ofNat (48 + (m : Int) % 10).toNat]).size) = False := eq_false (by omega)
      refine wp_region_held_drew (S := (fun w' => Below w.heap.size w w')) (by kernel_rfl) (bl_drew (Below.refl _ _)) (fun hHeld => ?_)
      first | (refine regW 0 (v := ?_) rfl (by rfl) (by kernel_rfl) (fun _ _ _ h => h) ?_ (by assumption) ?_; rotate_left; focus (intro w9 hSw; (try dsimp only at hSw); go_simp; (try with_reducible rfl); done)) | refine regU 0 rfl (by rfl) (by kernel_rfl) (fun _ _ _ h => h) (by assumption) ?_ | refine regN 0 rfl (by rfl) (by kernel_rfl) (by assumption) ?_
      try simp only [Act.put, List.setIfInBounds_toArray, List.set_cons_zero, List.set_cons_succ]
      first | (refine regW 1 (v := ?_) rfl (by rfl) (by kernel_rfl) (fun _ _ _ h => h) ?_ (by assumption) ?_; rotate_left; focus (intro w9 hSw; (try dsimp only at hSw); go_simp; (try with_reducible rfl); done)) | refine regU 1 rfl (by rfl) (by kernel_rfl) (fun _ _ _ h => h) (by assumption) ?_ | refine regN 1 rfl (by rfl) (by kernel_rfl) (by assumption) ?_
      try simp only [Act.put, List.setIfInBounds_toArray, List.set_cons_zero, List.set_cons_succ]
      first | (refine regW 3 (v := ?_) rfl (by rfl) (by kernel_rfl) (fun _ _ _ h => h) ?_ (by assumption) ?_; rotate_left; focus (intro w9 hSw; (try dsimp only at hSw); go_simp; (try with_reducible rfl); done)) | refine regU 3 rfl (by rfl) (by kernel_rfl) (fun _ _ _ h => h) (by assumption) ?_ | refine regN 3 rfl (by rfl) (by kernel_rfl) (by assumption) ?_
      try simp only [Act.put, List.setIfInBounds_toArray, List.set_cons_zero, List.set_cons_succ]
      first | (refine regW 4 (v := ?_) rfl (by rfl) (by kernel_rfl) (fun _ _ _ h => h) ?_ (by assumption) ?_; rotate_left; focus (intro w9 hSw; (try dsimp only at hSw); go_simp; (try with_reducible rfl); done)) | refine regU 4 rfl (by rfl) (by kernel_rfl) (fun _ _ _ h => h) (by assumption) ?_ | refine regN 4 rfl (by rfl) (by kernel_rfl) (by assumption) ?_
      try simp only [Act.put, List.setIfInBounds_toArray, List.set_cons_zero, List.set_cons_succ]
      first | (refine regW 5 (v := ?_) rfl (by rfl) (by kernel_rfl) (fun _ _ _ h => h) ?_ (by assumption) ?_; rotate_left; focus (intro w9 hSw; (try dsimp only at hSw); go_simp; (try with_reducible rfl); done)) | refine regU 5 rfl (by rfl) (by kernel_rfl) (fun _ _ _ h => h) (by assumption) ?_ | refine regN 5 rfl (by rfl) (by kernel_rfl) (by assumption) ?_
      try simp only [Act.put, List.setIfInBounds_toArray, List.set_cons_zero, List.set_cons_succ]
      first | (refine regW 6 (v := ?_) rfl (by rfl) (by kernel_rfl) (fun _ _ _ h => h) ?_ (by assumption) ?_; rotate_left; focus (intro w9 hSw; (try dsimp only at hSw); go_simp; (try with_reducible rfl); done)) | refine regU 6 rfl (by rfl) (by kernel_rfl) (fun _ _ _ h => h) (by assumption) ?_ | refine regN 6 rfl (by rfl) (by kernel_rfl) (by assumption) ?_
      try simp only [Act.put, List.setIfInBounds_toArray, List.set_cons_zero, List.set_cons_succ]
      refine regC2 2 7 rfl rfl (by kernel_rfl) (by rfl) (by rfl) (fun Kq hKq => ?_) (fun Kq hKq => ?_)
      · go_simp
        (with_reducible refine (C1 _).mono ?_)
        rintro e w9 ⟨rfl, hb9⟩
        try go_wp2_with fail
        refine hKq.out _ _ (bl_step (bl_drew (Below.refl _ _)) hb9) (fun hHeld => ?_)
        clear hKq Kq
        refine regC 7 rfl (by kernel_rfl) (by rfl) (fun Kq hKq => ?_)
        go_simp
        refine hKq.out _ _ (bl_alloc (bl_step (bl_drew (Below.refl _ _)) hb9) _) (fun hHeld => ?_)
        clear hKq Kq
        (try simp only [Act.put, List.setIfInBounds_toArray, List.set_cons_zero, List.set_cons_succ])
        have hcv9 := hcv _ _ (blk_cell (blk_new w9 (.cells #[.int .u8 (48 + (m : Int) % 10)] 5 (0, 0))) 0)
        refine regC 8 rfl (by kernel_rfl) (by rfl) (fun Kq hKq => ?_)
        go_simp
        refine hKq.out _ _ (bl_alloc (bl_step (bl_drew (Below.refl _ _)) hb9) _) (fun hHeld => ?_)
        clear hKq Kq
        (try simp only [Act.put, List.setIfInBounds_toArray, List.set_cons_zero, List.set_cons_succ])
        first | (refine regW 9 (v := ?_) rfl (by rfl) (by kernel_rfl) (fun _ _ _ h => h) ?_ (by assumption) ?_; rotate_left; focus (intro w9 hSw; (try dsimp only at hSw); go_simp; (try with_reducible rfl); done)) | refine regU 9 rfl (by rfl) (by kernel_rfl) (fun _ _ _ h => h) (by assumption) ?_ | refine regN 9 rfl (by rfl) (by kernel_rfl) (by assumption) ?_
        try simp only [Act.put, List.setIfInBounds_toArray, List.set_cons_zero, List.set_cons_succ]
        first | (refine regW 10 (v := ?_) rfl (by rfl) (by kernel_rfl) (fun _ _ _ h => h) ?_ (by assumption) ?_; rotate_left; focus (intro w9 hSw; (try dsimp only at hSw); go_simp; (try with_reducible rfl); done)) | refine regU 10 rfl (by rfl) (by kernel_rfl) (fun _ _ _ h => h) (by assumption) ?_ | refine regN 10 rfl (by rfl) (by kernel_rfl) (by assumption) ?_
        try simp only [Act.put, List.setIfInBounds_toArray, List.set_cons_zero, List.set_cons_succ]
        refine wpAnyH_done (by kernel_rfl) ?_ _
        clear hHeld
        go_wp2
        go_ret
        exact ⟨by rw [E.out, ← txt_app]; rfl, (by repeat (first | with_reducible exact Below.refl _ _ | with_reducible assumption | (with_reducible refine bl_set ?_ (by dsimp only; omega) _) | with_reducible refine bl_alloc ?_ _ | with_reducible refine bl_drewN ?_ _ | with_reducible refine bl_drew ?_ | with_reducible refine bl_step ?_ (by with_reducible assumption) | exact Below.refl _ _ | assumption | (refine bl_set ?_ (by dsimp only; omega) _) | refine bl_alloc ?_ _ | refine bl_drewN ?_ _ | refine bl_drew ?_ | refine bl_step ?_ (by assumption)))⟩
      · go_simp
        refine hKq.out _ _ (bl_alloc (bl_drew (Below.refl _ _)) _) (fun hHeld => ?_)
        clear hKq Kq
        have hc8 : (w.drew.alloc (.cells #[.int .u8 (48 + (m : Int) % 10)] 5 (0, 0))).cell? ⟨w.heap.size, 0, none⟩ = some (.int .u8 (48 + (m : Int) % 10)) := blk_cell (blk_new w.drew (.cells #[.int .u8 (48 + (m : Int) % 10)] 5 (0, 0))) 0
        have hcv8 := hcv _ _ hc8
        refine regC2 2 8 rfl rfl (by kernel_rfl) (by rfl) (by rfl) (fun Kq hKq => ?_) (fun Kq hKq => ?_)
        · go_simp
          (with_reducible refine (C1 _).mono ?_)
          rintro e w9 ⟨rfl, hb9⟩
          refine hKq.out _ _ (bl_step (bl_alloc (bl_drew (Below.refl _ _)) _) hb9) (fun hHeld => ?_)
          clear hKq Kq
          have hcv9 := hcv _ _ (keptI hb9 hc8)
          refine regC 8 rfl (by kernel_rfl) (by rfl) (fun Kq hKq => ?_)
          go_simp
          refine hKq.out _ _ (bl_step (bl_alloc (bl_drew (Below.refl _ _)) _) hb9) (fun hHeld => ?_)
          clear hKq Kq
          (try simp only [Act.put, List.setIfInBounds_toArray, List.set_cons_zero, List.set_cons_succ])
          first | (refine regW 9 (v := ?_) rfl (by rfl) (by kernel_rfl) (fun _ _ _ h => h) ?_ (by assumption) ?_; rotate_left; focus (intro w9 hSw; (try dsimp only at hSw); go_simp; (try with_reducible rfl); done)) | refine regU 9 rfl (by rfl) (by kernel_rfl) (fun _ _ _ h => h) (by assumption) ?_ | refine regN 9 rfl (by rfl) (by kernel_rfl) (by assumption) ?_
          try simp only [Act.put, List.setIfInBounds_toArray, List.set_cons_zero, List.set_cons_succ]
          first | (refine regW 10 (v := ?_) rfl (by rfl) (by kernel_rfl) (fun _ _ _ h => h) ?_ (by assumption) ?_; rotate_left; focus (intro w9 hSw; (try dsimp only at hSw); go_simp; (try with_reducible rfl); done)) | refine regU 10 rfl (by rfl) (by kernel_rfl) (fun _ _ _ h => h) (by assumption) ?_ | refine regN 10 rfl (by rfl) (by kernel_rfl) (by assumption) ?_
          try simp only [Act.put, List.setIfInBounds_toArray, List.set_cons_zero, List.set_cons_succ]
          refine wpAnyH_done (by kernel_rfl) ?_ _
          clear hHeld
          go_wp2
          go_ret
          exact ⟨by rw [E.out, ← txt_app]; rfl, (by repeat (first | with_reducible exact Below.refl _ _ | with_reducible assumption | (with_reducible refine bl_set ?_ (by dsimp only; omega) _) | with_reducible refine bl_alloc ?_ _ | with_reducible refine bl_drewN ?_ _ | with_reducible refine bl_drew ?_ | with_reducible refine bl_step ?_ (by with_reducible assumption) | exact Below.refl _ _ | assumption | (refine bl_set ?_ (by dsimp only; omega) _) | refine bl_alloc ?_ _ | refine bl_drewN ?_ _ | refine bl_drew ?_ | refine bl_step ?_ (by assumption)))⟩
        · go_simp
          refine hKq.out _ _ (bl_alloc (bl_drew (Below.refl _ _)) _) (fun hHeld => ?_)
          clear hKq Kq
          refine regC 2 rfl (by kernel_rfl) (by rfl) (fun Kq hKq => ?_)
          go_simp
          (with_reducible refine (C1 _).mono ?_)
          rintro e w9 ⟨rfl, hb9⟩
          try go_wp2_with fail
          refine hKq.out _ _ (bl_step (bl_alloc (bl_drew (Below.refl _ _)) _) hb9) (fun hHeld => ?_)
          clear hKq Kq
          (try simp only [Act.put, List.setIfInBounds_toArray, List.set_cons_zero, List.set_cons_succ])
          first | (refine regW 9 (v := ?_) rfl (by rfl) (by kernel_rfl) (fun _ _ _ h => h) ?_ (by assumption) ?_; rotate_left; focus (intro w9 hSw; (try dsimp only at hSw); go_simp; (try with_reducible rfl); done)) | refine regU 9 rfl (by rfl) (by kernel_rfl) (fun _ _ _ h => h) (by assumption) ?_ | refine regN 9 rfl (by rfl) (by kernel_rfl) (by assumption) ?_
          try simp only [Act.put, List.setIfInBounds_toArray, List.set_cons_zero, List.set_cons_succ]
          first | (refine regW 10 (v := ?_) rfl (by rfl) (by kernel_rfl) (fun _ _ _ h => h) ?_ (by assumption) ?_; rotate_left; focus (intro w9 hSw; (try dsimp only at hSw); go_simp; (try with_reducible rfl); done)) | refine regU 10 rfl (by rfl) (by kernel_rfl) (fun _ _ _ h => h) (by assumption) ?_ | refine regN 10 rfl (by rfl) (by kernel_rfl) (by assumption) ?_
          try simp only [Act.put, List.setIfInBounds_toArray, List.set_cons_zero, List.set_cons_succ]
          refine wpAnyH_done (by kernel_rfl) ?_ _
          clear hHeld
          go_wp2
          go_ret
          exact ⟨by rw [E.out, ← txt_app]; rfl, (by repeat (first | with_reducible exact Below.refl _ _ | with_reducible assumption | (with_reducible refine bl_set ?_ (by dsimp only; omega) _) | with_reducible refine bl_alloc ?_ _ | with_reducible refine bl_drewN ?_ _ | with_reducible refine bl_drew ?_ | with_reducible refine bl_step ?_ (by with_reducible assumption) | exact Below.refl _ _ | assumption | (refine bl_set ?_ (by dsimp only; omega) _) | refine bl_alloc ?_ _ | refine bl_drewN ?_ _ | refine bl_drew ?_ | refine bl_step ?_ (by assumption)))⟩
theorem dig3 (n : Int) (h0 : -9223372036854775808 ≤ n) (h1 : n ≤ 9223372036854775807) (w : World) :
    Calls Tryd.prog 34 #[.int .i64 n] w fun e w' => e = .returned (.string (txt (Lib.itoa n))) ∧ Below w.heap.size w w' := by
  by_cases hn : 0 ≤ n
  · obtain ⟨m, rfl⟩ : ∃ m : Nat, n = m := ⟨n.toNat, by omega⟩
    exact digPos m m (Nat.le_refl _) h1 w
  obtain ⟨m, rfl⟩ : ∃ m : Nat, n = -(m : Int) := ⟨n.natAbs, by omega⟩
  by_cases h9 : -(m : Int) < -9
  · have e := itoa_neg_big h9
    have e1 : (-(m : Int)).tdiv 10 = -((m : Int) / 10) := by rw [Int.neg_tdiv, Int.tdiv_eq_ediv_of_nonneg (by omega)]
    have e2 : (-(m : Int)).tmod 10 = -((m : Int) % 10) := by rw [Int.neg_tmod, Int.tmod_eq_emod_of_nonneg (by omega)]
    rw [e1, e2, Int.neg_neg, Int.neg_neg] at e
    have C1 := digPos (m / 10) (m / 10) (Nat.le_refl _) (by omega)
    have C2 := digPos (m % 10) (m % 10) (Nat.le_refl _) (by omega)
    have d1 : ((m / 10 : Nat) : Int) = (m : Int) / 10 := by omega
    have d2 : ((m % 10 : Nat) : Int) = (m : Int) % 10 := by omega
    rw [d1] at C1
    rw [d2] at C2
    have hz1 : (txt (Lib.itoa ((m : Int) / 10))).size ≤ 21 := by rw [txt_size]; exact Lib.itoa_length_le _ (by omega) (by omega)
    have hz2 : (txt (Lib.itoa ((m : Int) % 10))).size ≤ 21 := by rw [txt_size]; exact Lib.itoa_length_le _ (by omega) (by omega)
    have E := Lib.hid e
    clear e
    go_enter Tryd.func34, Tryd.ntmps34
    go_wp2_with fail
    refine (C1 _).mono ?_
    rintro e w1 ⟨rfl, hb1⟩
    go_wp2_with fail
    refine (C2 _).mono ?_
    rintro e w2 ⟨rfl, hb2⟩
    go_wp2
    go_ret
    exact ⟨by rw [E.out]; exact congrArg (fun x => Ending.returned (Value.string x)) (show (⟨#[45]⟩ : ByteArray) ++ txt _ ++ txt _ = _ by rw [txt_lit (l := [45]) rfl, txt_app, txt_app]; rfl), (by repeat (first | with_reducible exact Below.refl _ _ | with_reducible assumption | (with_reducible refine bl_set ?_ (by dsimp only; omega) _) | with_reducible refine bl_alloc ?_ _ | with_reducible refine bl_drewN ?_ _ | with_reducible refine bl_drew ?_ | with_reducible refine bl_step ?_ (by with_reducible assumption) | exact Below.refl _ _ | assumption | (refine bl_set ?_ (by dsimp only; omega) _) | refine bl_alloc ?_ _ | refine bl_drewN ?_ _ | refine bl_drew ?_ | refine bl_step ?_ (by assumption)))⟩
  · have e := itoa_neg' (n := -(m : Int)) (by omega)
    rw [Int.neg_neg] at e
    have C1 := digPos m m (Nat.le_refl _) (by omega)
    have hz1 : (txt (Lib.itoa (m : Int))).size ≤ 21 := by rw [txt_size]; exact Lib.itoa_length_le _ (by omega) (by omega)
    have E := Lib.hid e
    clear e
    go_enter Tryd.func34, Tryd.ntmps34
    go_wp2_with fail
    refine (C1 _).mono ?_
    rintro e w1 ⟨rfl, hb1⟩
    go_wp2
    go_ret
    exact ⟨by rw [E.out]; exact congrArg (fun x => Ending.returned (Value.string x)) (show (⟨#[45]⟩ : ByteArray) ++ txt _ = _ by rw [txt_lit (l := [45]) rfl, txt_app]; rfl), (by repeat (first | with_reducible exact Below.refl _ _ | with_reducible assumption | (with_reducible refine bl_set ?_ (by dsimp only; omega) _) | with_reducible refine bl_alloc ?_ _ | with_reducible refine bl_drewN ?_ _ | with_reducible refine bl_drew ?_ | with_reducible refine bl_step ?_ (by with_reducible assumption) | exact Below.refl _ _ | assumption | (refine bl_set ?_ (by dsimp only; omega) _) | refine bl_alloc ?_ _ | refine bl_drewN ?_ _ | refine bl_drew ?_ | refine bl_step ?_ (by assumption)))⟩
end Go.Proofs.YtpjdecneeakkeaaDoor.Dat

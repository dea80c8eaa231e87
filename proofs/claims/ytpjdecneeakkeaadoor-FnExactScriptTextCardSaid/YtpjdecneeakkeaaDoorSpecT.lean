/- SpecText and ValueText, in the program and in the reference. -/
import Derived.Test.YtpjdecneeakkeaaDoorTexts
import Derived.Test.YtpjdecneeakkeaaDoorK4
namespace Go.Proofs.YtpjdecneeakkeaaDoor.Dat
open Go Go.RowKit Go.Proofs.YtpjdecneeakkeaaDoor.Mem
set_option linter.unusedVariables false
set_option linter.unusedSimpArgs false
/-- What a number lies between. -/
def I64 (n : Int) : Prop := -9223372036854775808 ≤ n ∧ n ≤ 9223372036854775807
theorem I64.lo {n : Int} (h : I64 n) : -9223372036854775808 ≤ n := h.1
theorem I64.hi {n : Int} (h : I64 n) : n ≤ 9223372036854775807 := h.2
theorem rowO {w W : World} {L : List Res} {α : Type} {d : Knd α} {e : Nat} {A : Option Addr} {n c : Nat} {xs : List α} {F : List Nat} (h : St w L W) (i : Nat) (hi : L[i]? = some (Res.own d e (.slice A n c) xs F)) : d.Row W A xs.length xs := by
  obtain ⟨A', c', h1, _, h3⟩ := h.row i hi
  cases h1
  exact h3
theorem join2 (a b : List UInt8) : Lib.join [a, b] blank = (a ++ [32]) ++ b := by
  rw [Lib.join_cons]
  simp [Lib.joinTail, blank]
theorem join3 (a b c : List UInt8) : Lib.join [a, b, c] blank = (((a ++ [32]) ++ b) ++ [32]) ++ c := by
  rw [Lib.join_cons]
  simp [Lib.joinTail, blank]
def specTextL (f p k t : Int) : List UInt8 := if k = 1 then [105, 110, 116, 32] ++ ((Lib.itoa f ++ [32]) ++ Lib.itoa p) else if k = 2 then (([102, 117, 110, 32] ++ ((Lib.itoa f ++ [32]) ++ Lib.itoa p)) ++ [32]) ++ Lib.itoa t else []
set_option maxHeartbeats 4000000 in
set_option maxRecDepth 100000 in
theorem specTextI (f p k t : Int) (w : World) (hf : I64 f) (hp : I64 p) (ht' : I64 t) (ht : Tab w) {X : List UInt8} (hX : specTextL f p k t = X) :
    Calls Tryd.prog 13 #[.agg #[.int .i64 f, .int .i64 p, .int .i64 k, .int .i64 t]] w fun e w' => e = .returned (.string (txt X)) ∧ Below w.heap.size w w' := by
  have hS := (St.start w).made (.cells #[.int .i64 f, .int .i64 p, .int .i64 k, .int .i64 t] 31 (0, 0))
  subst hX
  by_cases k1 : k = 1
  · subst k1
    have E := Lib.hid (show specTextL f p 1 t = [105, 110, 116, 32] ++ Lib.join (itoas [f, p]) blank by unfold specTextL itoas; simp only [List.map_cons, List.map_nil]; rw [join2]; rfl)
    have hS2 := hS.litAt (enc := Value.int .i64) (h1 := fun _ => rfl) (e := 3) [f, p] #[.int .i64 f, .int .i64 p] rfl (w.heap.size + 1) (by simp) 2 rfl (by simp)
    have hL := itoas_len [f, p] (by intro z hz; simp at hz; rcases hz with rfl | rfl <;> assumption)
    have hz := txt_size (Lib.join (itoas [f, p]) blank)
    simp only [List.length_cons, List.length_nil] at hL
    go_enter Tryd.func13, Tryd.ntmps13
    go_wp2_with fail
    refine (joinedC _ 2 [f, p] _ (rowO hS2 0 rfl) (by intro z hz; simp at hz; rcases hz with rfl | rfl <;> assumption) (by simp) (by simp) (ht.below hS2.bel)).mono ?_
    rintro e w2 ⟨rfl, hb⟩
    go_wp2
    go_ret
    exact ⟨by rw [E.out]; exact congrArg (fun x => Ending.returned (Value.string x)) (show (⟨#[105, 110, 116, 32]⟩ : ByteArray) ++ txt _ = _ by rw [txt_lit (l := [105, 110, 116, 32]) rfl, txt_app]), (hS2.step hb).bel⟩
  by_cases k2 : k = 2
  · subst k2
    have E := Lib.hid (show specTextL f p 2 t = [102, 117, 110, 32] ++ Lib.join (itoas [f, p, t]) blank by unfold specTextL itoas; simp only [List.map_cons, List.map_nil]; rw [join3]; simp)
    have hS2 := hS.litAt (enc := Value.int .i64) (h1 := fun _ => rfl) (e := 3) [f, p, t] #[.int .i64 f, .int .i64 p, .int .i64 t] rfl (w.heap.size + 1) (by simp) 3 rfl (by simp)
    have hL := itoas_len [f, p, t] (by intro z hz; simp at hz; rcases hz with rfl | rfl | rfl <;> assumption)
    have hz := txt_size (Lib.join (itoas [f, p, t]) blank)
    simp only [List.length_cons, List.length_nil] at hL
    go_enter Tryd.func13, Tryd.ntmps13
    go_wp2_with fail
    refine (joinedC _ 3 [f, p, t] _ (rowO hS2 0 rfl) (by intro z hz; simp at hz; rcases hz with rfl | rfl | rfl <;> assumption) (by simp) (by simp) (ht.below hS2.bel)).mono ?_
    rintro e w2 ⟨rfl, hb⟩
    go_wp2
    go_ret
    exact ⟨by rw [E.out]; exact congrArg (fun x => Ending.returned (Value.string x)) (show (⟨#[102, 117, 110, 32]⟩ : ByteArray) ++ txt _ = _ by rw [txt_lit (l := [102, 117, 110, 32]) rfl, txt_app]), (hS2.step hb).bel⟩
  · have E := Lib.hid (show specTextL f p k t = [] by unfold specTextL; rw [if_neg k1, if_neg k2])
    go_enter Tryd.func13, Tryd.ntmps13
    go_wp2
    go_ret
    exact ⟨by rw [E.out]; rfl, (by repeat (first | with_reducible exact Below.refl _ _ | with_reducible assumption | (with_reducible refine bl_set ?_ (by dsimp only; omega) _) | with_reducible refine bl_alloc ?_ _ | with_reducible refine bl_drewN ?_ _ | with_reducible refine bl_drew ?_ | with_reducible refine bl_step ?_ (by with_reducible assumption) | exact Below.refl _ _ | assumption | (refine bl_set ?_ (by dsimp only; omega) _) | refine bl_alloc ?_ _ | refine bl_drewN ?_ _ | refine bl_drew ?_ | refine bl_step ?_ (by assumption)))⟩
set_option maxHeartbeats 4000000 in
set_option maxRecDepth 100000 in
theorem specText3 (f p k t : Int) (w : World) (hf : I64 f) (hp : I64 p) (ht' : I64 t) {X : List UInt8} (hX : specTextL f p k t = X) :
    Calls Tryd.prog 11 #[.agg #[.int .i64 f, .int .i64 p, .int .i64 k, .int .i64 t]] w fun e w' => e = .returned (.string (txt X)) ∧ Below w.heap.size w w' := by
  have hSd := ((St.start w).made (.cells #[.int .i64 f, .int .i64 p, .int .i64 k, .int .i64 t] 31 (0, 0))).drew
  subst hX
  have z1 := Lib.itoa_length_le f hf.lo hf.hi
  have z2 := Lib.itoa_length_le p hp.lo hp.hi
  have z3 := Lib.itoa_length_le t ht'.lo ht'.hi
  go_enter Tryd.func11, Tryd.ntmps11
  go_wp2
  have hs1 : (9223372036854775807 < (txt (Lib.itoa f)).size + 1) = False := eq_false (by rw [txt_size]; omega)
  have hs2 : (9223372036854775807 < (txt (Lib.itoa f)).size + 1 + (txt (Lib.itoa p)).size) = False := eq_false (by rw [txt_size, txt_size]; omega)
  refine wp_region_held_drew (S := (fun w' => w'.cell? ⟨w.heap.size, 0, none⟩ = some (.int .i64 f) ∧ w'.cell? ⟨w.heap.size, 1, none⟩ = some (.int .i64 p))) (by kernel_rfl) (⟨hSd.cell 0 rfl 0, hSd.cell 0 rfl 1⟩) (fun hHeld => ?_)
  first | (refine regW 0 (v := ?_) rfl (by rfl) (by kernel_rfl) (fun _ _ _ h => h) ?_ (by assumption) ?_; rotate_left; focus (intro w9 hSw; (try dsimp only at hSw); go_simp; (try with_reducible rfl); done)) | refine regU 0 rfl (by rfl) (by kernel_rfl) (fun _ _ _ h => h) (by assumption) ?_ | refine regN 0 rfl (by rfl) (by kernel_rfl) (by assumption) ?_
  try simp only [Act.put, List.setIfInBounds_toArray, List.set_cons_zero, List.set_cons_succ]
  first | (refine regW 1 (v := ?_) rfl (by rfl) (by kernel_rfl) (fun _ _ _ h => h) ?_ (by assumption) ?_; rotate_left; focus (intro w9 hSw; (try dsimp only at hSw); go_simp; (try with_reducible rfl); done)) | refine regU 1 rfl (by rfl) (by kernel_rfl) (fun _ _ _ h => h) (by assumption) ?_ | refine regN 1 rfl (by rfl) (by kernel_rfl) (by assumption) ?_
  try simp only [Act.put, List.setIfInBounds_toArray, List.set_cons_zero, List.set_cons_succ]
  first | (refine regW 4 (v := ?_) rfl (by rfl) (by kernel_rfl) (fun _ _ _ h => h) ?_ (by assumption) ?_; rotate_left; focus (intro w9 hSw; (try dsimp only at hSw); go_simp; (try with_reducible rfl); done)) | refine regU 4 rfl (by rfl) (by kernel_rfl) (fun _ _ _ h => h) (by assumption) ?_ | refine regN 4 rfl (by rfl) (by kernel_rfl) (by assumption) ?_
  try simp only [Act.put, List.setIfInBounds_toArray, List.set_cons_zero, List.set_cons_succ]
  first | (refine regW 5 (v := ?_) rfl (by rfl) (by kernel_rfl) (fun _ _ _ h => h) ?_ (by assumption) ?_; rotate_left; focus (intro w9 hSw; (try dsimp only at hSw); go_simp; (try with_reducible rfl); done)) | refine regU 5 rfl (by rfl) (by kernel_rfl) (fun _ _ _ h => h) (by assumption) ?_ | refine regN 5 rfl (by rfl) (by kernel_rfl) (by assumption) ?_
  try simp only [Act.put, List.setIfInBounds_toArray, List.set_cons_zero, List.set_cons_succ]
  refine regC 2 rfl (by kernel_rfl) (by rfl) (fun Kq hKq => ?_)
  go_simp
  (with_reducible refine (dig3 f hf.lo hf.hi _).mono ?_)
  rintro e w2 ⟨rfl, hb2⟩; have hS2 := hSd.step hb2
  try go_wp2_with fail
  refine hKq.out _ _ (⟨hS2.cell 0 rfl 0, hS2.cell 0 rfl 1⟩) (fun hHeld => ?_)
  clear hKq Kq
  (try simp only [Act.put, List.setIfInBounds_toArray, List.set_cons_zero, List.set_cons_succ])
  first | (refine regW 3 (v := ?_) rfl (by rfl) (by kernel_rfl) (fun _ _ _ h => h) ?_ (by assumption) ?_; rotate_left; focus (intro w9 hSw; (try dsimp only at hSw); go_simp; (try with_reducible rfl); done)) | refine regU 3 rfl (by rfl) (by kernel_rfl) (fun _ _ _ h => h) (by assumption) ?_ | refine regN 3 rfl (by rfl) (by kernel_rfl) (by assumption) ?_
  try simp only [Act.put, List.setIfInBounds_toArray, List.set_cons_zero, List.set_cons_succ]
  refine regC 6 rfl (by kernel_rfl) (by rfl) (fun Kq hKq => ?_)
  go_simp
  (with_reducible refine (dig3 p hp.lo hp.hi _).mono ?_)
  rintro e w3 ⟨rfl, hb3⟩; have hS3 := hS2.step hb3
  try go_wp2_with fail
  refine hKq.out _ _ (⟨hS3.cell 0 rfl 0, hS3.cell 0 rfl 1⟩) (fun hHeld => ?_)
  clear hKq Kq
  (try simp only [Act.put, List.setIfInBounds_toArray, List.set_cons_zero, List.set_cons_succ])
  first | (refine regW 7 (v := ?_) rfl (by rfl) (by kernel_rfl) (fun _ _ _ h => h) ?_ (by assumption) ?_; rotate_left; focus (intro w9 hSw; (try dsimp only at hSw); go_simp; (try with_reducible rfl); done)) | refine regU 7 rfl (by rfl) (by kernel_rfl) (fun _ _ _ h => h) (by assumption) ?_ | refine regN 7 rfl (by rfl) (by kernel_rfl) (by assumption) ?_
  try simp only [Act.put, List.setIfInBounds_toArray, List.set_cons_zero, List.set_cons_succ]
  first | (refine regW 8 (v := ?_) rfl (by rfl) (by kernel_rfl) (fun _ _ _ h => h) ?_ (by assumption) ?_; rotate_left; focus (intro w9 hSw; (try dsimp only at hSw); go_simp; (try with_reducible rfl); done)) | refine regU 8 rfl (by rfl) (by kernel_rfl) (fun _ _ _ h => h) (by assumption) ?_ | refine regN 8 rfl (by rfl) (by kernel_rfl) (by assumption) ?_
  try simp only [Act.put, List.setIfInBounds_toArray, List.set_cons_zero, List.set_cons_succ]
  refine wpAnyH_done (by kernel_rfl) ?_ _
  clear hHeld hs1 hs2
  have y1 := txt_size (Lib.itoa f)
  have y2 := txt_size (Lib.itoa p)
  have y3 := txt_size (Lib.itoa t)
  have x_0 := hS3.cell 0 rfl
  by_cases k1 : k = 1
  · subst k1
    go_wp2
    go_ret
    exact ⟨congrArg (fun x => Ending.returned (Value.string x)) (show (⟨#[105, 110, 116, 32]⟩ : ByteArray) ++ (txt _ ++ (⟨#[32]⟩ : ByteArray) ++ txt _) = _ by rw [txt_lit (l := [105, 110, 116, 32]) rfl, txt_lit (l := [32]) rfl, txt_app, txt_app, txt_app]; rfl), hS3.bel⟩
  by_cases k2 : k = 2
  · subst k2
    go_wp2_with fail
    refine (dig3 t ht'.lo ht'.hi _).mono ?_
    rintro e w4 ⟨rfl, hb4⟩
    go_wp2
    go_ret
    exact ⟨congrArg (fun x => Ending.returned (Value.string x)) (show (⟨#[102, 117, 110, 32]⟩ : ByteArray) ++ (txt _ ++ (⟨#[32]⟩ : ByteArray) ++ txt _) ++ (⟨#[32]⟩ : ByteArray) ++ txt _ = _ by rw [txt_lit (l := [102, 117, 110, 32]) rfl, txt_lit (l := [32]) rfl, txt_app, txt_app, txt_app, txt_app, txt_app]; rfl), (hS3.step hb4).bel⟩
  · have E := Lib.hid (show specTextL f p k t = [] by unfold specTextL; rw [if_neg k1, if_neg k2])
    go_wp2
    go_ret
    exact ⟨by rw [E.out]; rfl, hS3.bel⟩
theorem wfI {b : Int} (h : (Lit.int .i64 b).wf = true) : I64 b := by
  have h1 : (decide (IntKind.i64.min ≤ b) && decide (b ≤ IntKind.i64.max)) = true := h
  have e1 : IntKind.i64.min = -9223372036854775808 := by kernel_rfl
  have e2 : IntKind.i64.max = 9223372036854775807 := by kernel_rfl
  rw [e1, e2, Bool.and_eq_true, decide_eq_true_iff, decide_eq_true_iff] at h1
  exact h1
/-! ### ValueText -/
theorem txt_of (s : ByteArray) : txt s.data.toList = s := by
  unfold txt
  apply ByteArray.ext
  simp
def recN (heap : List DRec) (n : Int) : Option Nat := if btw n 0 ((heap.length : Int) - 1) then (heap[n.toNat]?).map fun r => r.fields.length else none
def recT (heap : List DRec) (n : Int) : List UInt8 := match recN heap n with
  | some m => ([123] ++ Lib.itoa m) ++ [125]
  | none => []
def valueTextL (v : DValue) (heap : List DRec) : List UInt8 :=
  if v.k = 0 then [110, 105, 108] else if v.k = 1 then Lib.itoa v.n else if v.k = 2 then (if v.n = 1 then [116, 114, 117, 101] else [102, 97, 108, 115, 101]) else if v.k = 3 then v.s.data.toList else if v.k = 5 then [102, 117, 110] ++ Lib.itoa v.n else if v.k = 4 then recT heap v.n else []
theorem fmtBool (b : Bool) (w : World) : Calls Tryd.prog 41 #[.bool b] w fun e w' => e = .returned (.string (txt (if b then [116, 114, 117, 101] else [102, 97, 108, 115, 101]))) ∧ Below w.heap.size w w' := by
  cases b
  · go_enter Tryd.func41, Tryd.ntmps41
    go_wp2
    go_ret
    exact ⟨rfl, (by repeat (first | with_reducible exact Below.refl _ _ | with_reducible assumption | (with_reducible refine bl_set ?_ (by dsimp only; omega) _) | with_reducible refine bl_alloc ?_ _ | with_reducible refine bl_drewN ?_ _ | with_reducible refine bl_drew ?_ | with_reducible refine bl_step ?_ (by with_reducible assumption) | exact Below.refl _ _ | assumption | (refine bl_set ?_ (by dsimp only; omega) _) | refine bl_alloc ?_ _ | refine bl_drewN ?_ _ | refine bl_drew ?_ | refine bl_step ?_ (by assumption)))⟩
  · go_enter Tryd.func41, Tryd.ntmps41
    go_wp2
    go_ret
    exact ⟨rfl, (by repeat (first | with_reducible exact Below.refl _ _ | with_reducible assumption | (with_reducible refine bl_set ?_ (by dsimp only; omega) _) | with_reducible refine bl_alloc ?_ _ | with_reducible refine bl_drewN ?_ _ | with_reducible refine bl_drew ?_ | with_reducible refine bl_step ?_ (by with_reducible assumption) | exact Below.refl _ _ | assumption | (refine bl_set ?_ (by dsimp only; omega) _) | refine bl_alloc ?_ _ | refine bl_drewN ?_ _ | refine bl_drew ?_ | refine bl_step ?_ (by assumption)))⟩
set_option maxHeartbeats 4000000 in
set_option maxRecDepth 100000 in
theorem valueTextI (A : Option Addr) (c : Nat) (v : DValue) (heap : List DRec) (w : World) (hn : I64 v.n) (hs : v.s.size ≤ maxLen) (hr : kRec.Row w A heap.length heap) (hm : heap.length ≤ 1048576 ∧ ∀ y ∈ heap, MRec y) (ht : Tab w) {X : List UInt8} (hX : valueTextL v heap = X) :
    Calls Tryd.prog 19 #[.agg #[.int .i64 v.k, .int .i64 v.n, .string v.s], .slice A heap.length c] w fun e w' => e = .returned (.string (txt X)) ∧ Below w.heap.size w w' := by
  obtain ⟨vk, vn, vs⟩ := v
  dsimp only at hn hs
  have hS := (St.start w).made (.cells #[.int .i64 vk, .int .i64 vn, .string vs] 40 (0, 0))
  have z1 := Lib.itoa_length_le vn hn.lo hn.hi
  have y1 := txt_size (Lib.itoa vn)
  have hhl := hm.1
  subst hX
  by_cases k0 : vk = 0
  · subst k0
    have E := Lib.hid (show valueTextL ⟨0, vn, vs⟩ heap = [110, 105, 108] from rfl)
    go_enter Tryd.func19, Tryd.ntmps19
    go_wp2
    go_ret
    exact ⟨by rw [E.out]; rfl, (by repeat (first | with_reducible exact Below.refl _ _ | with_reducible assumption | (with_reducible refine bl_set ?_ (by dsimp only; omega) _) | with_reducible refine bl_alloc ?_ _ | with_reducible refine bl_drewN ?_ _ | with_reducible refine bl_drew ?_ | with_reducible refine bl_step ?_ (by with_reducible assumption) | exact Below.refl _ _ | assumption | (refine bl_set ?_ (by dsimp only; omega) _) | refine bl_alloc ?_ _ | refine bl_drewN ?_ _ | refine bl_drew ?_ | refine bl_step ?_ (by assumption)))⟩
  by_cases k1 : vk = 1
  · subst k1
    have E := Lib.hid (show valueTextL ⟨1, vn, vs⟩ heap = Lib.itoa vn from rfl)
    go_enter Tryd.func19, Tryd.ntmps19
    go_wp2_with fail
    refine (itoaI vn hn.lo hn.hi _ (ht.below hS.bel)).mono ?_
    rintro e w2 ⟨rfl, hb⟩
    go_wp2
    go_ret
    exact ⟨by rw [E.out]; rfl, (hS.step hb).bel⟩
  by_cases k2 : vk = 2
  · subst k2
    by_cases n1 : vn = 1
    · have E := Lib.hid (show valueTextL ⟨2, vn, vs⟩ heap = [116, 114, 117, 101] by unfold valueTextL; simp [n1])
      subst n1
      go_enter Tryd.func19, Tryd.ntmps19
      go_wp2_with fail
      refine (fmtBool true _).mono ?_
      rintro e w2 ⟨rfl, hb⟩
      go_wp2
      go_ret
      exact ⟨by rw [E.out]; rfl, (hS.step hb).bel⟩
    · have E := Lib.hid (show valueTextL ⟨2, vn, vs⟩ heap = [102, 97, 108, 115, 101] by unfold valueTextL; simp [n1])
      have d1 : (vn == 1) = false := by simp [n1]
      go_enter Tryd.func19, Tryd.ntmps19
      go_wp2_with fail
      refine (fmtBool false _).mono ?_
      rintro e w2 ⟨rfl, hb⟩
      go_wp2
      go_ret
      exact ⟨by rw [E.out]; rfl, (hS.step hb).bel⟩
  by_cases k3 : vk = 3
  · subst k3
    have E := Lib.hid (show txt (valueTextL ⟨3, vn, vs⟩ heap) = vs from txt_of vs)
    go_enter Tryd.func19, Tryd.ntmps19
    go_wp2
    go_ret
    exact ⟨by rw [E.out]; rfl, (by repeat (first | with_reducible exact Below.refl _ _ | with_reducible assumption | (with_reducible refine bl_set ?_ (by dsimp only; omega) _) | with_reducible refine bl_alloc ?_ _ | with_reducible refine bl_drewN ?_ _ | with_reducible refine bl_drew ?_ | with_reducible refine bl_step ?_ (by with_reducible assumption) | exact Below.refl _ _ | assumption | (refine bl_set ?_ (by dsimp only; omega) _) | refine bl_alloc ?_ _ | refine bl_drewN ?_ _ | refine bl_drew ?_ | refine bl_step ?_ (by assumption)))⟩
  by_cases k5 : vk = 5
  · subst k5
    have E := Lib.hid (show valueTextL ⟨5, vn, vs⟩ heap = [102, 117, 110] ++ Lib.itoa vn from rfl)
    go_enter Tryd.func19, Tryd.ntmps19
    go_wp2_with fail
    refine (itoaI vn hn.lo hn.hi _ (ht.below hS.bel)).mono ?_
    rintro e w2 ⟨rfl, hb⟩
    go_wp2
    go_ret
    exact ⟨by rw [E.out]; exact congrArg (fun x => Ending.returned (Value.string x)) (show (⟨#[102, 117, 110]⟩ : ByteArray) ++ txt _ = _ by rw [txt_lit (l := [102, 117, 110]) rfl, txt_app]), (hS.step hb).bel⟩
  by_cases k4 : vk = 4
  · subst k4
    have E0 : valueTextL ⟨4, vn, vs⟩ heap = recT heap vn := rfl
    cases hp : btw vn 0 ((heap.length : Int) - 1)
    · have E := Lib.hid (show valueTextL ⟨4, vn, vs⟩ heap = [] by rw [E0]; unfold recT recN; rw [hp]; rfl)
      have HP := Lib.hid hp
      clear hp E0 y1 z1
      go_enter Tryd.func19, Tryd.ntmps19
      go_wp2_with fail
      refine (isPlace _ HP.out (by omega) (by omega)).mono ?_
      rintro e w' ⟨rfl, rfl⟩
      go_wp2
      go_ret
      exact ⟨by rw [E.out]; rfl, (by repeat (first | with_reducible exact Below.refl _ _ | with_reducible assumption | (with_reducible refine bl_set ?_ (by dsimp only; omega) _) | with_reducible refine bl_alloc ?_ _ | with_reducible refine bl_drewN ?_ _ | with_reducible refine bl_drew ?_ | with_reducible refine bl_step ?_ (by with_reducible assumption) | exact Below.refl _ _ | assumption | (refine bl_set ?_ (by dsimp only; omega) _) | refine bl_alloc ?_ _ | refine bl_drewN ?_ _ | refine bl_drew ?_ | refine bl_step ?_ (by assumption)))⟩
    · obtain ⟨p0, p1⟩ := btw_true.1 hp
      obtain ⟨n, rfl⟩ : ∃ n : Nat, vn = n := ⟨vn.toNat, by omega⟩
      obtain ⟨r, hrn⟩ : ∃ r, heap[n]? = some r := ⟨heap[n], List.getElem?_eq_getElem (by omega)⟩
      obtain ⟨ad, A0, c0, rfl, q0, _, hrr⟩ := kRec_at (hr.below hS.bel) n r hrn
      have hrl := hrr.2.1
      have E := Lib.hid (show valueTextL ⟨4, n, vs⟩ heap = ([123] ++ Lib.itoa r.fields.length) ++ [125] by rw [E0]; unfold recT recN; rw [hp, if_pos rfl, Int.toNat_natCast, hrn]; rfl)
      have HP := Lib.hid hp
      rw [Nat.mul_one] at q0
      clear hp E0 hrn y1 z1
      have z2 := Lib.itoa_length_le (r.fields.length : Int) (by omega) (by omega)
      have y2 := txt_size (Lib.itoa (r.fields.length : Int))
      have hnl : n < heap.length := by omega
      go_enter Tryd.func19, Tryd.ntmps19
      go_wp2_with fail
      refine (isPlace _ HP.out (by omega) (by omega)).mono ?_
      rintro e w' ⟨rfl, rfl⟩
      go_wp2_with fail
      refine (itoaI (r.fields.length : Int) (by omega) (by omega) _ (ht.below hS.bel)).mono ?_
      rintro e w2 ⟨rfl, hb⟩
      go_wp2
      go_ret
      exact ⟨by rw [E.out]; exact congrArg (fun x => Ending.returned (Value.string x)) (show (⟨#[123]⟩ : ByteArray) ++ txt _ ++ (⟨#[125]⟩ : ByteArray) = _ by rw [txt_lit (l := [123]) rfl, txt_lit (l := [125]) rfl, txt_app, txt_app]), (hS.step hb).bel⟩
  · have E := Lib.hid (show valueTextL ⟨vk, vn, vs⟩ heap = [] by unfold valueTextL; rw [if_neg k0, if_neg k1, if_neg k2, if_neg k3, if_neg k5, if_neg k4])
    go_enter Tryd.func19, Tryd.ntmps19
    go_wp2
    go_ret
    exact ⟨by rw [E.out]; rfl, (by repeat (first | with_reducible exact Below.refl _ _ | with_reducible assumption | (with_reducible refine bl_set ?_ (by dsimp only; omega) _) | with_reducible refine bl_alloc ?_ _ | with_reducible refine bl_drewN ?_ _ | with_reducible refine bl_drew ?_ | with_reducible refine bl_step ?_ (by with_reducible assumption) | exact Below.refl _ _ | assumption | (refine bl_set ?_ (by dsimp only; omega) _) | refine bl_alloc ?_ _ | refine bl_drewN ?_ _ | refine bl_drew ?_ | refine bl_step ?_ (by assumption)))⟩
set_option maxHeartbeats 4000000 in
set_option maxRecDepth 100000 in
theorem valueText3 (A : Option Addr) (c : Nat) (v : DValue) (heap : List DRec) (w : World) (hn : I64 v.n) (hs : v.s.size ≤ maxLen) (hr : kRec.Row w A heap.length heap) (hm : heap.length ≤ 1048576 ∧ ∀ y ∈ heap, MRec y) {X : List UInt8} (hX : valueTextL v heap = X) :
    Calls Tryd.prog 16 #[.agg #[.int .i64 v.k, .int .i64 v.n, .string v.s], .slice A heap.length c] w fun e w' => e = .returned (.string (txt X)) ∧ Below w.heap.size w w' := by
  obtain ⟨vk, vn, vs⟩ := v
  dsimp only at hn hs
  have hS := (St.start w).made (.cells #[.int .i64 vk, .int .i64 vn, .string vs] 40 (0, 0))
  have z1 := Lib.itoa_length_le vn hn.lo hn.hi
  have y1 := txt_size (Lib.itoa vn)
  have hhl := hm.1
  subst hX
  by_cases k0 : vk = 0
  · subst k0
    have E := Lib.hid (show valueTextL ⟨0, vn, vs⟩ heap = [110, 105, 108] from rfl)
    go_enter Tryd.func16, Tryd.ntmps16
    go_wp2
    go_ret
    exact ⟨by rw [E.out]; rfl, (by repeat (first | with_reducible exact Below.refl _ _ | with_reducible assumption | (with_reducible refine bl_set ?_ (by dsimp only; omega) _) | with_reducible refine bl_alloc ?_ _ | with_reducible refine bl_drewN ?_ _ | with_reducible refine bl_drew ?_ | with_reducible refine bl_step ?_ (by with_reducible assumption) | exact Below.refl _ _ | assumption | (refine bl_set ?_ (by dsimp only; omega) _) | refine bl_alloc ?_ _ | refine bl_drewN ?_ _ | refine bl_drew ?_ | refine bl_step ?_ (by assumption)))⟩
  by_cases k1 : vk = 1
  · subst k1
    have E := Lib.hid (show valueTextL ⟨1, vn, vs⟩ heap = Lib.itoa vn from rfl)
    go_enter Tryd.func16, Tryd.ntmps16
    go_wp2_with fail
    refine (dig3 vn hn.lo hn.hi _).mono ?_
    rintro e w2 ⟨rfl, hb⟩
    go_wp2
    go_ret
    exact ⟨by rw [E.out]; rfl, (hS.step hb).bel⟩
  by_cases k2 : vk = 2
  · subst k2
    by_cases n1 : vn = 1
    · have E := Lib.hid (show valueTextL ⟨2, vn, vs⟩ heap = [116, 114, 117, 101] by unfold valueTextL; simp [n1])
      go_enter Tryd.func16, Tryd.ntmps16
      go_wp2
      go_ret
      exact ⟨by rw [E.out]; rfl, (by repeat (first | with_reducible exact Below.refl _ _ | with_reducible assumption | (with_reducible refine bl_set ?_ (by dsimp only; omega) _) | with_reducible refine bl_alloc ?_ _ | with_reducible refine bl_drewN ?_ _ | with_reducible refine bl_drew ?_ | with_reducible refine bl_step ?_ (by with_reducible assumption) | exact Below.refl _ _ | assumption | (refine bl_set ?_ (by dsimp only; omega) _) | refine bl_alloc ?_ _ | refine bl_drewN ?_ _ | refine bl_drew ?_ | refine bl_step ?_ (by assumption)))⟩
    · have E := Lib.hid (show valueTextL ⟨2, vn, vs⟩ heap = [102, 97, 108, 115, 101] by unfold valueTextL; simp [n1])
      go_enter Tryd.func16, Tryd.ntmps16
      go_wp2
      go_ret
      exact ⟨by rw [E.out]; rfl, (by repeat (first | with_reducible exact Below.refl _ _ | with_reducible assumption | (with_reducible refine bl_set ?_ (by dsimp only; omega) _) | with_reducible refine bl_alloc ?_ _ | with_reducible refine bl_drewN ?_ _ | with_reducible refine bl_drew ?_ | with_reducible refine bl_step ?_ (by with_reducible assumption) | exact Below.refl _ _ | assumption | (refine bl_set ?_ (by dsimp only; omega) _) | refine bl_alloc ?_ _ | refine bl_drewN ?_ _ | refine bl_drew ?_ | refine bl_step ?_ (by assumption)))⟩
  by_cases k3 : vk = 3
  · subst k3
    have E := Lib.hid (show txt (valueTextL ⟨3, vn, vs⟩ heap) = vs from txt_of vs)
    go_enter Tryd.func16, Tryd.ntmps16
    go_wp2
    go_ret
    exact ⟨by rw [E.out]; rfl, (by repeat (first | with_reducible exact Below.refl _ _ | with_reducible assumption | (with_reducible refine bl_set ?_ (by dsimp only; omega) _) | with_reducible refine bl_alloc ?_ _ | with_reducible refine bl_drewN ?_ _ | with_reducible refine bl_drew ?_ | with_reducible refine bl_step ?_ (by with_reducible assumption) | exact Below.refl _ _ | assumption | (refine bl_set ?_ (by dsimp only; omega) _) | refine bl_alloc ?_ _ | refine bl_drewN ?_ _ | refine bl_drew ?_ | refine bl_step ?_ (by assumption)))⟩
  by_cases k5 : vk = 5
  · subst k5
    have E := Lib.hid (show valueTextL ⟨5, vn, vs⟩ heap = [102, 117, 110] ++ Lib.itoa vn from rfl)
    go_enter Tryd.func16, Tryd.ntmps16
    go_wp2_with fail
    refine (dig3 vn hn.lo hn.hi _).mono ?_
    rintro e w2 ⟨rfl, hb⟩
    go_wp2
    go_ret
    exact ⟨by rw [E.out]; exact congrArg (fun x => Ending.returned (Value.string x)) (show (⟨#[102, 117, 110]⟩ : ByteArray) ++ txt _ = _ by rw [txt_lit (l := [102, 117, 110]) rfl, txt_app]), (hS.step hb).bel⟩
  by_cases k4 : vk = 4
  · subst k4
    have E0 : valueTextL ⟨4, vn, vs⟩ heap = recT heap vn := rfl
    cases hp : btw vn 0 ((heap.length : Int) - 1)
    · have E := Lib.hid (show valueTextL ⟨4, vn, vs⟩ heap = [] by rw [E0]; unfold recT recN; rw [hp]; rfl)
      have HP := Lib.hid hp
      clear hp E0 y1 z1
      go_enter Tryd.func16, Tryd.ntmps16
      go_wp2_with fail
      refine (between _ HP.out).mono ?_
      rintro e w' ⟨rfl, rfl⟩
      go_wp2
      go_ret
      exact ⟨by rw [E.out]; rfl, (by repeat (first | with_reducible exact Below.refl _ _ | with_reducible assumption | (with_reducible refine bl_set ?_ (by dsimp only; omega) _) | with_reducible refine bl_alloc ?_ _ | with_reducible refine bl_drewN ?_ _ | with_reducible refine bl_drew ?_ | with_reducible refine bl_step ?_ (by with_reducible assumption) | exact Below.refl _ _ | assumption | (refine bl_set ?_ (by dsimp only; omega) _) | refine bl_alloc ?_ _ | refine bl_drewN ?_ _ | refine bl_drew ?_ | refine bl_step ?_ (by assumption)))⟩
    · obtain ⟨p0, p1⟩ := btw_true.1 hp
      obtain ⟨n, rfl⟩ : ∃ n : Nat, vn = n := ⟨vn.toNat, by omega⟩
      obtain ⟨r, hrn⟩ : ∃ r, heap[n]? = some r := ⟨heap[n], List.getElem?_eq_getElem (by omega)⟩
      obtain ⟨ad, A0, c0, rfl, q0, _, hrr⟩ := kRec_at (hr.below hS.bel) n r hrn
      have hrl := hrr.2.1
      have E := Lib.hid (show valueTextL ⟨4, n, vs⟩ heap = ([123] ++ Lib.itoa r.fields.length) ++ [125] by rw [E0]; unfold recT recN; rw [hp, if_pos rfl, Int.toNat_natCast, hrn]; rfl)
      have HP := Lib.hid hp
      rw [Nat.mul_one] at q0
      clear hp E0 hrn y1 z1
      have z2 := Lib.itoa_length_le (r.fields.length : Int) (by omega) (by omega)
      have y2 := txt_size (Lib.itoa (r.fields.length : Int))
      have hnl : n < heap.length := by omega
      go_enter Tryd.func16, Tryd.ntmps16
      go_wp2_with fail
      refine (between _ HP.out).mono ?_
      rintro e w' ⟨rfl, rfl⟩
      go_wp2_with fail
      refine (dig3 (r.fields.length : Int) (by omega) (by omega) _).mono ?_
      rintro e w2 ⟨rfl, hb⟩
      go_wp2
      go_ret
      exact ⟨by rw [E.out]; exact congrArg (fun x => Ending.returned (Value.string x)) (show (⟨#[123]⟩ : ByteArray) ++ txt _ ++ (⟨#[125]⟩ : ByteArray) = _ by rw [txt_lit (l := [123]) rfl, txt_lit (l := [125]) rfl, txt_app, txt_app]), (hS.step hb).bel⟩
  · have E := Lib.hid (show valueTextL ⟨vk, vn, vs⟩ heap = [] by unfold valueTextL; rw [if_neg k0, if_neg k1, if_neg k2, if_neg k3, if_neg k5, if_neg k4])
    go_enter Tryd.func16, Tryd.ntmps16
    go_wp2
    go_ret
    exact ⟨by rw [E.out]; rfl, (by repeat (first | with_reducible exact Below.refl _ _ | with_reducible assumption | (with_reducible refine bl_set ?_ (by dsimp only; omega) _) | with_reducible refine bl_alloc ?_ _ | with_reducible refine bl_drewN ?_ _ | with_reducible refine bl_drew ?_ | with_reducible refine bl_step ?_ (by with_reducible assumption) | exact Below.refl _ _ | assumption | (refine bl_set ?_ (by dsimp only; omega) _) | refine bl_alloc ?_ _ | refine bl_drewN ?_ _ | refine bl_drew ?_ | refine bl_step ?_ (by assumption)))⟩
end Go.Proofs.YtpjdecneeakkeaaDoor.Dat

/- The line of an act, in the program and in the reference. -/
import Derived.Test.YtpjdecneeakkeaaDoorSpecT
import Derived.Test.YtpjdecneeakkeaaDoorAcc
import Derived.Test.YtpjdecneeakkeaaDoorActOk
namespace Go.Proofs.YtpjdecneeakkeaaDoor.Dat
open Go Go.RowKit Go.Proofs.YtpjdecneeakkeaaDoor.Mem
set_option linter.unusedVariables false
set_option linter.unusedSimpArgs false
def bareL (b : Bool) : List UInt8 := if b then [98, 97, 114, 101] else [109, 97, 100, 101]
def siteJ (s : DSite) : List UInt8 := Lib.join (itoas [s.fn, s.pc, s.seen, s.target]) blank
def forgeL : List UInt8 := [102, 111, 114, 103, 101]
def siteL (s : DSite) : List UInt8 := [32] ++ siteJ s
def lineL (x : DAct) : List UInt8 :=
  if x.kind = 1 then [114, 117, 110, 32] ++ Lib.itoa x.a
  else if x.kind = 2 then (([116, 105, 101, 114, 32] ++ Lib.join (itoas [x.a, x.lay]) blank) ++ [32]) ++ bareL x.bare
  else if x.kind = 3 then (([108, 111, 111, 112, 32] ++ Lib.join (itoas [x.a, x.b, x.lay]) blank) ++ [32]) ++ bareL x.bare
  else if x.kind = 4 then [100, 114, 111, 112, 32] ++ Lib.itoa x.a
  else forgeL ++ x.sites.flatMap siteL
theorem join4 (a b c d : List UInt8) : Lib.join [a, b, c, d] blank = (((((a ++ [32]) ++ b) ++ [32]) ++ c) ++ [32]) ++ d := by
  rw [Lib.join_cons]
  simp [Lib.joinTail, blank]
theorem join1 (a : List UInt8) : Lib.join [a] blank = a := Lib.join_one _ _
theorem forge_join (sites : List DSite) : Lib.join (forgeL :: sites.map siteJ) blank = forgeL ++ sites.flatMap siteL := by
  rw [Lib.join_cons]
  congr 1
  unfold Lib.joinTail
  rw [List.map_map, List.flatMap_def]
  rfl
theorem bareWord (b : Bool) (w : World) : Calls Tryd.prog 71 #[.bool b] w fun e w' => e = .returned (.string (txt (bareL b))) ∧ w = w' := by
  cases b
  · go_enter Tryd.func71, Tryd.ntmps71
    go_wp2
    go_ret
    exact ⟨rfl, rfl⟩
  · go_enter Tryd.func71, Tryd.ntmps71
    go_wp2
    go_ret
    exact ⟨rfl, rfl⟩
theorem bareL_len (b : Bool) : (bareL b).length = 4 := by cases b <;> rfl
/-- The numbers of an act. -/
structure ActI (x : DAct) : Prop where
  a : I64 x.a
  b : I64 x.b
  y : I64 x.lay
  s : ∀ q ∈ x.sites, I64 q.fn ∧ I64 q.pc ∧ I64 q.seen ∧ I64 q.target
theorem siteJ_len {s : DSite} (h : I64 s.fn ∧ I64 s.pc ∧ I64 s.seen ∧ I64 s.target) : (siteJ s).length ≤ 88 := by
  have := itoas_len [s.fn, s.pc, s.seen, s.target] (by
    intro z hz
    simp at hz
    rcases hz with rfl | rfl | rfl | rfl
    · exact h.1
    · exact h.2.1
    · exact h.2.2.1
    · exact h.2.2.2)
  unfold siteJ
  simpa using this
theorem flatC_len {α : Type} {f : α → List UInt8} {c : Nat} : ∀ {l : List α}, (∀ x ∈ l, (f x).length ≤ c) → (l.flatMap f).length ≤ c * l.length
  | [], _ => by simp
  | x :: l, h => by
    have h1 := flatC_len (f := f) (l := l) (fun y hy => h y (by simp [hy]))
    have h2 := h x (by simp)
    rw [List.flatMap_cons, List.length_append, List.length_cons, Nat.mul_add]
    omega
theorem flatC_step {α β : Type} {f : α → List β} {l : List α} {k : Nat} {x : α} (h : l[k]? = some x) : (l.take (k + 1)).flatMap f = (l.take k).flatMap f ++ f x := by
  rw [List.take_add_one, h, List.flatMap_append]
  simp
theorem siteL_len {s : DSite} (h : I64 s.fn ∧ I64 s.pc ∧ I64 s.seen ∧ I64 s.target) : (siteL s).length ≤ 89 := by
  have := siteJ_len h
  unfold siteL
  rw [List.length_append]
  simp
  omega
set_option maxHeartbeats 8000000 in
set_option maxRecDepth 100000 in
theorem actTextI (A : Option Addr) (c : Nat) (x : DAct) (w : World) (hi : ActI x) (hr : kSite.Row w A x.sites.length x.sites) (hm : x.sites.length ≤ 1000) (ht : Tab w) {X : List UInt8} (hX : lineL x = X) :
    Calls Tryd.prog 50 #[.agg #[.int .i64 x.kind, .int .i64 x.a, .int .i64 x.b, .int .i64 x.lay, .bool x.bare, .slice A x.sites.length c]] w fun e w' => e = .returned (.string (txt X)) ∧ Below w.heap.size w w' := by
  obtain ⟨k, a, b, y, bare, sites⟩ := x
  obtain ⟨ia, ib, iy, is⟩ := hi
  dsimp only at ia ib iy is hr hm ⊢
  have hS := (St.start w).made (.cells #[.int .i64 k, .int .i64 a, .int .i64 b, .int .i64 y, .bool bare, .slice A sites.length c] 90 (0, 0))
  subst hX
  by_cases k1 : k = 1
  · subst k1
    have E := Lib.hid (show lineL ⟨1, a, b, y, bare, sites⟩ = [114, 117, 110, 32] ++ Lib.join (itoas [a]) blank by unfold lineL itoas; dsimp only; rw [if_pos rfl]; simp only [List.map_cons, List.map_nil]; rw [join1])
    have hL := hS.litAt (enc := Value.int .i64) (h1 := fun _ => rfl) (e := 3) [a] #[.int .i64 a] rfl (w.heap.size + 1) (by simp) 1 rfl (by simp)
    have hz : ∀ z ∈ [a], -9223372036854775808 ≤ z ∧ z ≤ 9223372036854775807 := by intro z hz; simp at hz; subst hz; exact ia
    have hll := itoas_len [a] hz
    have hzz := txt_size (Lib.join (itoas [a]) blank)
    simp only [List.length_cons, List.length_nil] at hll
    go_enter Tryd.func50, Tryd.ntmps50
    go_wp2_with fail
    refine (joinedC _ 1 [a] _ (rowO hL 0 rfl) hz (by simp) (by simp) (ht.below hL.bel)).mono ?_
    rintro e w2 ⟨rfl, hb⟩
    go_wp2
    go_ret
    exact ⟨by rw [E.out, ← txt_app]; rfl, (hL.step hb).bel⟩
  by_cases k4 : k = 4
  · subst k4
    have E := Lib.hid (show lineL ⟨4, a, b, y, bare, sites⟩ = [100, 114, 111, 112, 32] ++ Lib.join (itoas [a]) blank by unfold lineL itoas; dsimp only; rw [if_neg (by decide), if_neg (by decide), if_neg (by decide), if_pos rfl]; simp only [List.map_cons, List.map_nil]; rw [join1])
    have hL := hS.litAt (enc := Value.int .i64) (h1 := fun _ => rfl) (e := 3) [a] #[.int .i64 a] rfl (w.heap.size + 1) (by simp) 1 rfl (by simp)
    have hz : ∀ z ∈ [a], -9223372036854775808 ≤ z ∧ z ≤ 9223372036854775807 := by intro z hz; simp at hz; subst hz; exact ia
    have hll := itoas_len [a] hz
    have hzz := txt_size (Lib.join (itoas [a]) blank)
    simp only [List.length_cons, List.length_nil] at hll
    go_enter Tryd.func50, Tryd.ntmps50
    go_wp2_with fail
    refine (joinedC _ 1 [a] _ (rowO hL 0 rfl) hz (by simp) (by simp) (ht.below hL.bel)).mono ?_
    rintro e w2 ⟨rfl, hb⟩
    go_wp2
    go_ret
    exact ⟨by rw [E.out, ← txt_app]; rfl, (hL.step hb).bel⟩
  by_cases k2 : k = 2
  · subst k2
    have E := Lib.hid (show lineL ⟨2, a, b, y, bare, sites⟩ = (([116, 105, 101, 114, 32] ++ Lib.join (itoas [a, y]) blank) ++ [32]) ++ bareL bare by unfold lineL; dsimp only; rw [if_neg (by decide), if_pos rfl])
    have hL := (hS.litAt (enc := Value.int .i64) (h1 := fun _ => rfl) (e := 3) [a, y] #[.int .i64 a, .int .i64 y] rfl (w.heap.size + 1) (by simp) 2 rfl (by simp)).drew
    have hz : ∀ z ∈ [a, y], -9223372036854775808 ≤ z ∧ z ≤ 9223372036854775807 := by intro z hz; simp at hz; rcases hz with rfl | rfl <;> assumption
    have CJ : ∀ W : World, (Knd.int .i64).Row W (some ⟨w.heap.size + 1, 0, none⟩) 2 [a, y] → Tab W → Calls Tryd.prog 38 #[.slice (some ⟨w.heap.size + 1, 0, none⟩) 2 2] W fun e w' => e = .returned (.string (txt (Lib.join (itoas [a, y]) blank))) ∧ Below W.heap.size W w' := fun W hr ht => joinedC _ 2 [a, y] W hr hz (by simp) (by simp) ht
    have hrw : (Knd.int .i64).Row _ (some ⟨w.heap.size + 1, 0, none⟩) 2 [a, y] := rowO hL 0 rfl
    have hll := itoas_len [a, y] hz
    have hbl := bareL_len bare
    simp only [List.length_cons, List.length_nil] at hll
    go_enter Tryd.func50, Tryd.ntmps50
    go_wp2
    have hs1 : (9223372036854775807 < 5 + (txt (Lib.join (itoas [a, y]) blank)).size) = False := eq_false (by rw [txt_size]; omega)
    have hs2 : (9223372036854775807 < 5 + (txt (Lib.join (itoas [a, y]) blank)).size + 1) = False := eq_false (by rw [txt_size]; omega)
    have hs3 : (9223372036854775807 < 5 + (txt (Lib.join (itoas [a, y]) blank)).size + 1 + (txt (bareL bare)).size) = False := eq_false (by rw [txt_size, txt_size]; omega)
    clear hbl
    refine wp_region_held_drew (S := (fun w' => w'.cell? ⟨w.heap.size, 1, none⟩ = some (.int .i64 a) ∧ w'.cell? ⟨w.heap.size, 3, none⟩ = some (.int .i64 y) ∧ w'.cell? ⟨w.heap.size, 4, none⟩ = some (.bool bare))) (by kernel_rfl) (⟨hS.drew.cell 0 rfl 1, hS.drew.cell 0 rfl 3, hS.drew.cell 0 rfl 4⟩) (fun hHeld => ?_)
    first | (refine regW 0 (v := ?_) rfl (by rfl) (by kernel_rfl) (fun _ _ _ h => h) ?_ (by assumption) ?_; rotate_left; focus (intro w9 hSw; (try dsimp only at hSw); go_simp; (try with_reducible rfl); done)) | refine regU 0 rfl (by rfl) (by kernel_rfl) (fun _ _ _ h => h) (by assumption) ?_ | refine regN 0 rfl (by rfl) (by kernel_rfl) (by assumption) ?_
    try simp only [Act.put, List.setIfInBounds_toArray, List.set_cons_zero, List.set_cons_succ]
    first | (refine regW 1 (v := ?_) rfl (by rfl) (by kernel_rfl) (fun _ _ _ h => h) ?_ (by assumption) ?_; rotate_left; focus (intro w9 hSw; (try dsimp only at hSw); go_simp; (try with_reducible rfl); done)) | refine regU 1 rfl (by rfl) (by kernel_rfl) (fun _ _ _ h => h) (by assumption) ?_ | refine regN 1 rfl (by rfl) (by kernel_rfl) (by assumption) ?_
    try simp only [Act.put, List.setIfInBounds_toArray, List.set_cons_zero, List.set_cons_succ]
    first | (refine regW 2 (v := ?_) rfl (by rfl) (by kernel_rfl) (fun _ _ _ h => h) ?_ (by assumption) ?_; rotate_left; focus (intro w9 hSw; (try dsimp only at hSw); go_simp; (try with_reducible rfl); done)) | refine regU 2 rfl (by rfl) (by kernel_rfl) (fun _ _ _ h => h) (by assumption) ?_ | refine regN 2 rfl (by rfl) (by kernel_rfl) (by assumption) ?_
    try simp only [Act.put, List.setIfInBounds_toArray, List.set_cons_zero, List.set_cons_succ]
    first | (refine regW 3 (v := ?_) rfl (by rfl) (by kernel_rfl) (fun _ _ _ h => h) ?_ (by assumption) ?_; rotate_left; focus (intro w9 hSw; (try dsimp only at hSw); go_simp; (try with_reducible rfl); done)) | refine regU 3 rfl (by rfl) (by kernel_rfl) (fun _ _ _ h => h) (by assumption) ?_ | refine regN 3 rfl (by rfl) (by kernel_rfl) (by assumption) ?_
    try simp only [Act.put, List.setIfInBounds_toArray, List.set_cons_zero, List.set_cons_succ]
    first | (refine regW 8 (v := ?_) rfl (by rfl) (by kernel_rfl) (fun _ _ _ h => h) ?_ (by assumption) ?_; rotate_left; focus (intro w9 hSw; (try dsimp only at hSw); go_simp; (try with_reducible rfl); done)) | refine regU 8 rfl (by rfl) (by kernel_rfl) (fun _ _ _ h => h) (by assumption) ?_ | refine regN 8 rfl (by rfl) (by kernel_rfl) (by assumption) ?_
    try simp only [Act.put, List.setIfInBounds_toArray, List.set_cons_zero, List.set_cons_succ]
    first | (refine regW 9 (v := ?_) rfl (by rfl) (by kernel_rfl) (fun _ _ _ h => h) ?_ (by assumption) ?_; rotate_left; focus (intro w9 hSw; (try dsimp only at hSw); go_simp; (try with_reducible rfl); done)) | refine regU 9 rfl (by rfl) (by kernel_rfl) (fun _ _ _ h => h) (by assumption) ?_ | refine regN 9 rfl (by rfl) (by kernel_rfl) (by assumption) ?_
    try simp only [Act.put, List.setIfInBounds_toArray, List.set_cons_zero, List.set_cons_succ]
    refine regC 4 rfl (by kernel_rfl) (by rfl) (fun Kq hKq => ?_)
    go_simp
    refine hKq.out _ _ (⟨hL.cell 1 rfl 1, hL.cell 1 rfl 3, hL.cell 1 rfl 4⟩) (fun hHeld => ?_)
    clear hKq Kq
    (try simp only [Act.put, List.setIfInBounds_toArray, List.set_cons_zero, List.set_cons_succ])
    refine regC 5 rfl (by kernel_rfl) (by rfl) (fun Kq hKq => ?_)
    go_simp
    (with_reducible refine (CJ _ hrw (ht.below hL.bel)).mono ?_)
    rintro e w2 ⟨rfl, hb2⟩; have hS2 := hL.step hb2
    try go_wp2_with fail
    refine hKq.out _ _ (⟨hS2.cell 1 rfl 1, hS2.cell 1 rfl 3, hS2.cell 1 rfl 4⟩) (fun hHeld => ?_)
    clear hKq Kq
    (try simp only [Act.put, List.setIfInBounds_toArray, List.set_cons_zero, List.set_cons_succ])
    first | (refine regW 6 (v := ?_) rfl (by rfl) (by kernel_rfl) (fun _ _ _ h => h) ?_ (by assumption) ?_; rotate_left; focus (intro w9 hSw; (try dsimp only at hSw); go_simp; (try with_reducible rfl); done)) | refine regU 6 rfl (by rfl) (by kernel_rfl) (fun _ _ _ h => h) (by assumption) ?_ | refine regN 6 rfl (by rfl) (by kernel_rfl) (by assumption) ?_
    try simp only [Act.put, List.setIfInBounds_toArray, List.set_cons_zero, List.set_cons_succ]
    first | (refine regW 7 (v := ?_) rfl (by rfl) (by kernel_rfl) (fun _ _ _ h => h) ?_ (by assumption) ?_; rotate_left; focus (intro w9 hSw; (try dsimp only at hSw); go_simp; (try with_reducible rfl); done)) | refine regU 7 rfl (by rfl) (by kernel_rfl) (fun _ _ _ h => h) (by assumption) ?_ | refine regN 7 rfl (by rfl) (by kernel_rfl) (by assumption) ?_
    try simp only [Act.put, List.setIfInBounds_toArray, List.set_cons_zero, List.set_cons_succ]
    refine regC 10 rfl (by kernel_rfl) (by rfl) (fun Kq hKq => ?_)
    go_simp
    (with_reducible refine (bareWord bare _).mono ?_)
    rintro e w' ⟨rfl, rfl⟩
    try go_wp2_with fail
    refine hKq.out _ _ (⟨hS2.cell 1 rfl 1, hS2.cell 1 rfl 3, hS2.cell 1 rfl 4⟩) (fun hHeld => ?_)
    clear hKq Kq
    (try simp only [Act.put, List.setIfInBounds_toArray, List.set_cons_zero, List.set_cons_succ])
    first | (refine regW 11 (v := ?_) rfl (by rfl) (by kernel_rfl) (fun _ _ _ h => h) ?_ (by assumption) ?_; rotate_left; focus (intro w9 hSw; (try dsimp only at hSw); go_simp; (try with_reducible rfl); done)) | refine regU 11 rfl (by rfl) (by kernel_rfl) (fun _ _ _ h => h) (by assumption) ?_ | refine regN 11 rfl (by rfl) (by kernel_rfl) (by assumption) ?_
    try simp only [Act.put, List.setIfInBounds_toArray, List.set_cons_zero, List.set_cons_succ]
    first | (refine regW 12 (v := ?_) rfl (by rfl) (by kernel_rfl) (fun _ _ _ h => h) ?_ (by assumption) ?_; rotate_left; focus (intro w9 hSw; (try dsimp only at hSw); go_simp; (try with_reducible rfl); done)) | refine regU 12 rfl (by rfl) (by kernel_rfl) (fun _ _ _ h => h) (by assumption) ?_ | refine regN 12 rfl (by rfl) (by kernel_rfl) (by assumption) ?_
    try simp only [Act.put, List.setIfInBounds_toArray, List.set_cons_zero, List.set_cons_succ]
    refine wpAnyH_done (by kernel_rfl) ?_ _
    clear hHeld
    go_wp2
    go_ret
    exact ⟨by rw [E.out, ← txt_app, ← txt_app, ← txt_app]; rfl, hS2.bel⟩
  by_cases k3 : k = 3
  · subst k3
    have E := Lib.hid (show lineL ⟨3, a, b, y, bare, sites⟩ = (([108, 111, 111, 112, 32] ++ Lib.join (itoas [a, b, y]) blank) ++ [32]) ++ bareL bare by unfold lineL; dsimp only; rw [if_neg (by decide), if_neg (by decide), if_pos rfl])
    have hL := (hS.litAt (enc := Value.int .i64) (h1 := fun _ => rfl) (e := 3) [a, b, y] #[.int .i64 a, .int .i64 b, .int .i64 y] rfl (w.heap.size + 1) (by simp) 3 rfl (by simp)).drew
    have hz : ∀ z ∈ [a, b, y], -9223372036854775808 ≤ z ∧ z ≤ 9223372036854775807 := by intro z hz; simp at hz; rcases hz with rfl | rfl | rfl <;> assumption
    have CJ : ∀ W : World, (Knd.int .i64).Row W (some ⟨w.heap.size + 1, 0, none⟩) 3 [a, b, y] → Tab W → Calls Tryd.prog 38 #[.slice (some ⟨w.heap.size + 1, 0, none⟩) 3 3] W fun e w' => e = .returned (.string (txt (Lib.join (itoas [a, b, y]) blank))) ∧ Below W.heap.size W w' := fun W hr ht => joinedC _ 3 [a, b, y] W hr hz (by simp) (by simp) ht
    have hrw : (Knd.int .i64).Row _ (some ⟨w.heap.size + 1, 0, none⟩) 3 [a, b, y] := rowO hL 0 rfl
    have hll := itoas_len [a, b, y] hz
    have hbl := bareL_len bare
    simp only [List.length_cons, List.length_nil] at hll
    go_enter Tryd.func50, Tryd.ntmps50
    go_wp2
    have hs1 : (9223372036854775807 < 5 + (txt (Lib.join (itoas [a, b, y]) blank)).size) = False := eq_false (by rw [txt_size]; omega)
    have hs2 : (9223372036854775807 < 5 + (txt (Lib.join (itoas [a, b, y]) blank)).size + 1) = False := eq_false (by rw [txt_size]; omega)
    have hs3 : (9223372036854775807 < 5 + (txt (Lib.join (itoas [a, b, y]) blank)).size + 1 + (txt (bareL bare)).size) = False := eq_false (by rw [txt_size, txt_size]; omega)
    clear hbl
    refine wp_region_held_drew (S := (fun w' => w'.cell? ⟨w.heap.size, 1, none⟩ = some (.int .i64 a) ∧ w'.cell? ⟨w.heap.size, 2, none⟩ = some (.int .i64 b) ∧ w'.cell? ⟨w.heap.size, 3, none⟩ = some (.int .i64 y) ∧ w'.cell? ⟨w.heap.size, 4, none⟩ = some (.bool bare))) (by kernel_rfl) (⟨hS.drew.cell 0 rfl 1, hS.drew.cell 0 rfl 2, hS.drew.cell 0 rfl 3, hS.drew.cell 0 rfl 4⟩) (fun hHeld => ?_)
    first | (refine regW 0 (v := ?_) rfl (by rfl) (by kernel_rfl) (fun _ _ _ h => h) ?_ (by assumption) ?_; rotate_left; focus (intro w9 hSw; (try dsimp only at hSw); go_simp; (try with_reducible rfl); done)) | refine regU 0 rfl (by rfl) (by kernel_rfl) (fun _ _ _ h => h) (by assumption) ?_ | refine regN 0 rfl (by rfl) (by kernel_rfl) (by assumption) ?_
    try simp only [Act.put, List.setIfInBounds_toArray, List.set_cons_zero, List.set_cons_succ]
    first | (refine regW 1 (v := ?_) rfl (by rfl) (by kernel_rfl) (fun _ _ _ h => h) ?_ (by assumption) ?_; rotate_left; focus (intro w9 hSw; (try dsimp only at hSw); go_simp; (try with_reducible rfl); done)) | refine regU 1 rfl (by rfl) (by kernel_rfl) (fun _ _ _ h => h) (by assumption) ?_ | refine regN 1 rfl (by rfl) (by kernel_rfl) (by assumption) ?_
    try simp only [Act.put, List.setIfInBounds_toArray, List.set_cons_zero, List.set_cons_succ]
    first | (refine regW 2 (v := ?_) rfl (by rfl) (by kernel_rfl) (fun _ _ _ h => h) ?_ (by assumption) ?_; rotate_left; focus (intro w9 hSw; (try dsimp only at hSw); go_simp; (try with_reducible rfl); done)) | refine regU 2 rfl (by rfl) (by kernel_rfl) (fun _ _ _ h => h) (by assumption) ?_ | refine regN 2 rfl (by rfl) (by kernel_rfl) (by assumption) ?_
    try simp only [Act.put, List.setIfInBounds_toArray, List.set_cons_zero, List.set_cons_succ]
    first | (refine regW 3 (v := ?_) rfl (by rfl) (by kernel_rfl) (fun _ _ _ h => h) ?_ (by assumption) ?_; rotate_left; focus (intro w9 hSw; (try dsimp only at hSw); go_simp; (try with_reducible rfl); done)) | refine regU 3 rfl (by rfl) (by kernel_rfl) (fun _ _ _ h => h) (by assumption) ?_ | refine regN 3 rfl (by rfl) (by kernel_rfl) (by assumption) ?_
    try simp only [Act.put, List.setIfInBounds_toArray, List.set_cons_zero, List.set_cons_succ]
    first | (refine regW 4 (v := ?_) rfl (by rfl) (by kernel_rfl) (fun _ _ _ h => h) ?_ (by assumption) ?_; rotate_left; focus (intro w9 hSw; (try dsimp only at hSw); go_simp; (try with_reducible rfl); done)) | refine regU 4 rfl (by rfl) (by kernel_rfl) (fun _ _ _ h => h) (by assumption) ?_ | refine regN 4 rfl (by rfl) (by kernel_rfl) (by assumption) ?_
    try simp only [Act.put, List.setIfInBounds_toArray, List.set_cons_zero, List.set_cons_succ]
    first | (refine regW 5 (v := ?_) rfl (by rfl) (by kernel_rfl) (fun _ _ _ h => h) ?_ (by assumption) ?_; rotate_left; focus (intro w9 hSw; (try dsimp only at hSw); go_simp; (try with_reducible rfl); done)) | refine regU 5 rfl (by rfl) (by kernel_rfl) (fun _ _ _ h => h) (by assumption) ?_ | refine regN 5 rfl (by rfl) (by kernel_rfl) (by assumption) ?_
    try simp only [Act.put, List.setIfInBounds_toArray, List.set_cons_zero, List.set_cons_succ]
    first | (refine regW 10 (v := ?_) rfl (by rfl) (by kernel_rfl) (fun _ _ _ h => h) ?_ (by assumption) ?_; rotate_left; focus (intro w9 hSw; (try dsimp only at hSw); go_simp; (try with_reducible rfl); done)) | refine regU 10 rfl (by rfl) (by kernel_rfl) (fun _ _ _ h => h) (by assumption) ?_ | refine regN 10 rfl (by rfl) (by kernel_rfl) (by assumption) ?_
    try simp only [Act.put, List.setIfInBounds_toArray, List.set_cons_zero, List.set_cons_succ]
    first | (refine regW 11 (v := ?_) rfl (by rfl) (by kernel_rfl) (fun _ _ _ h => h) ?_ (by assumption) ?_; rotate_left; focus (intro w9 hSw; (try dsimp only at hSw); go_simp; (try with_reducible rfl); done)) | refine regU 11 rfl (by rfl) (by kernel_rfl) (fun _ _ _ h => h) (by assumption) ?_ | refine regN 11 rfl (by rfl) (by kernel_rfl) (by assumption) ?_
    try simp only [Act.put, List.setIfInBounds_toArray, List.set_cons_zero, List.set_cons_succ]
    refine regC 6 rfl (by kernel_rfl) (by rfl) (fun Kq hKq => ?_)
    go_simp
    refine hKq.out _ _ (⟨hL.cell 1 rfl 1, hL.cell 1 rfl 2, hL.cell 1 rfl 3, hL.cell 1 rfl 4⟩) (fun hHeld => ?_)
    clear hKq Kq
    (try simp only [Act.put, List.setIfInBounds_toArray, List.set_cons_zero, List.set_cons_succ])
    refine regC 7 rfl (by kernel_rfl) (by rfl) (fun Kq hKq => ?_)
    go_simp
    (with_reducible refine (CJ _ hrw (ht.below hL.bel)).mono ?_)
    rintro e w2 ⟨rfl, hb2⟩; have hS2 := hL.step hb2
    try go_wp2_with fail
    refine hKq.out _ _ (⟨hS2.cell 1 rfl 1, hS2.cell 1 rfl 2, hS2.cell 1 rfl 3, hS2.cell 1 rfl 4⟩) (fun hHeld => ?_)
    clear hKq Kq
    (try simp only [Act.put, List.setIfInBounds_toArray, List.set_cons_zero, List.set_cons_succ])
    first | (refine regW 8 (v := ?_) rfl (by rfl) (by kernel_rfl) (fun _ _ _ h => h) ?_ (by assumption) ?_; rotate_left; focus (intro w9 hSw; (try dsimp only at hSw); go_simp; (try with_reducible rfl); done)) | refine regU 8 rfl (by rfl) (by kernel_rfl) (fun _ _ _ h => h) (by assumption) ?_ | refine regN 8 rfl (by rfl) (by kernel_rfl) (by assumption) ?_
    try simp only [Act.put, List.setIfInBounds_toArray, List.set_cons_zero, List.set_cons_succ]
    first | (refine regW 9 (v := ?_) rfl (by rfl) (by kernel_rfl) (fun _ _ _ h => h) ?_ (by assumption) ?_; rotate_left; focus (intro w9 hSw; (try dsimp only at hSw); go_simp; (try with_reducible rfl); done)) | refine regU 9 rfl (by rfl) (by kernel_rfl) (fun _ _ _ h => h) (by assumption) ?_ | refine regN 9 rfl (by rfl) (by kernel_rfl) (by assumption) ?_
    try simp only [Act.put, List.setIfInBounds_toArray, List.set_cons_zero, List.set_cons_succ]
    refine regC 12 rfl (by kernel_rfl) (by rfl) (fun Kq hKq => ?_)
    go_simp
    (with_reducible refine (bareWord bare _).mono ?_)
    rintro e w' ⟨rfl, rfl⟩
    try go_wp2_with fail
    refine hKq.out _ _ (⟨hS2.cell 1 rfl 1, hS2.cell 1 rfl 2, hS2.cell 1 rfl 3, hS2.cell 1 rfl 4⟩) (fun hHeld => ?_)
    clear hKq Kq
    (try simp only [Act.put, List.setIfInBounds_toArray, List.set_cons_zero, List.set_cons_succ])
    first | (refine regW 13 (v := ?_) rfl (by rfl) (by kernel_rfl) (fun _ _ _ h => h) ?_ (by assumption) ?_; rotate_left; focus (intro w9 hSw; (try dsimp only at hSw); go_simp; (try with_reducible rfl); done)) | refine regU 13 rfl (by rfl) (by kernel_rfl) (fun _ _ _ h => h) (by assumption) ?_ | refine regN 13 rfl (by rfl) (by kernel_rfl) (by assumption) ?_
    try simp only [Act.put, List.setIfInBounds_toArray, List.set_cons_zero, List.set_cons_succ]
    first | (refine regW 14 (v := ?_) rfl (by rfl) (by kernel_rfl) (fun _ _ _ h => h) ?_ (by assumption) ?_; rotate_left; focus (intro w9 hSw; (try dsimp only at hSw); go_simp; (try with_reducible rfl); done)) | refine regU 14 rfl (by rfl) (by kernel_rfl) (fun _ _ _ h => h) (by assumption) ?_ | refine regN 14 rfl (by rfl) (by kernel_rfl) (by assumption) ?_
    try simp only [Act.put, List.setIfInBounds_toArray, List.set_cons_zero, List.set_cons_succ]
    refine wpAnyH_done (by kernel_rfl) ?_ _
    clear hHeld
    go_wp2
    go_ret
    exact ⟨by rw [E.out, ← txt_app, ← txt_app, ← txt_app]; rfl, hS2.bel⟩
  have E := Lib.hid (show lineL ⟨k, a, b, y, bare, sites⟩ = Lib.join (forgeL :: sites.map siteJ) blank by rw [forge_join]; unfold lineL; dsimp only; rw [if_neg k1, if_neg k2, if_neg k3, if_neg k4])
  have m1 : (k == 1) = false := by simpa using k1
  have m2 : (k == 2) = false := by simpa using k2
  have m3 : (k == 3) = false := by simpa using k3
  have m4 : (k == 4) = false := by simpa using k4
  clear k1 k2 k3 k4
  have hL := hS.litAt (enc := Value.string) (h1 := fun _ => rfl) (e := 9) [txt forgeL] #[.string ⟨#[102, 111, 114, 103, 101]⟩] rfl (w.heap.size + 1) (by simp) 1 rfl (by simp)
  go_enter Tryd.func50, Tryd.ntmps50
  go_wp2
  go_loopw [3, 56] (fun v i wr => ∃ (j : Nat) (F : List Nat), j ≤ sites.length ∧ i = .int .i64 j ∧ St w [Res.own Knd.str 9 v ((forgeL :: (sites.take j).map siteJ).map txt) F, Res.box w.heap.size (.cells #[.int .i64 k, .int .i64 a, .int .i64 b, .int .i64 y, .bool bare, .slice A sites.length c] 90 (0, 0))] wr) (fun _ i _ => sites.length - (intOf i).toNat)
  case atStart => exact ⟨0, _, by omega, rfl, hL⟩
  case round =>
    clear hL
    obtain ⟨j, F, hj, rfl, hL⟩ := hrel
    by_cases hlt : j < sites.length
    · obtain ⟨s, hs⟩ := get_exU sites j hlt
      obtain ⟨ad, rfl, q0, q1, q2, q3⟩ := kSite_at (hr.below hL.bel) j s hs
      have his := is s (List.mem_of_getElem? hs)
      have HN := Lib.hid (show (forgeL :: (sites.take (j + 1)).map siteJ).map txt = (forgeL :: (sites.take j).map siteJ).map txt ++ [txt (Lib.join (itoas [s.fn, s.pc, s.seen, s.target]) blank)] by rw [List.take_add_one, hs]; simp [siteJ])
      have hlen : ((forgeL :: (sites.take j).map siteJ).map txt).length = j + 1 := by simp; omega
      have hz : ∀ z ∈ [s.fn, s.pc, s.seen, s.target], -9223372036854775808 ≤ z ∧ z ≤ 9223372036854775807 := by
        intro z hz
        simp at hz
        rcases hz with rfl | rfl | rfl | rfl
        · exact his.1
        · exact his.2.1
        · exact his.2.2.1
        · exact his.2.2.2
      have hL2 := (hL.made (.cells #[.int .i64 s.fn, .int .i64 s.pc, .int .i64 s.seen, .int .i64 s.target] 119 (0, 0))).litAt (enc := Value.int .i64) (h1 := fun _ => rfl) (e := 3) [s.fn, s.pc, s.seen, s.target] #[.int .i64 s.fn, .int .i64 s.pc, .int .i64 s.seen, .int .i64 s.target] rfl (wr.heap.size + 1) (by simp) 4 rfl (by simp)
      clear hs
      go_wp2_with fail
      refine (joinedC _ 4 [s.fn, s.pc, s.seen, s.target] _ (rowO hL2 0 rfl) hz (by simp) (by simp) (ht.below hL2.bel)).mono ?_
      rintro e w3 ⟨rfl, hb⟩
      have hS := ((hL2.step hb).drop).drop
      clear hb q0 q1 q2 q3 hL2 hL
      go_wp2_with (at_builtin; refine Knd.wp_app1 rfl _ _ _ rfl 9 Tryd.underlying53 (.string ⟨#[]⟩) 16 infoStrT rfl rfl ((hS.al _).own_ 0 rfl) _ _ _ _ _ (blkAt _ _ (by simp)) rfl (by (try simp [maxLen]); (try omega)) (by (try simp); (try omega)) ?_; rintro gq cq wq hO hB hg; have hSq := (hS.al _).app1 0 rfl hO hB hg; clear hO hB hg hS; have hS := hSq; clear hSq)
      go_roundw
      case rel => exact ⟨j + 1, [gq], by omega, by go_num, by rw [HN.out]; have h9 := hS; rw [hlen] at h9; exact h9⟩
      case measure => simp [intOf]; omega
    · obtain rfl : j = sites.length := by omega
      rw [List.take_length] at hL
      have hll : (Lib.join (forgeL :: sites.map siteJ) blank).length ≤ 100000000 := by
        rw [forge_join, List.length_append]
        have := flatC_len (f := siteL) (c := 89) (l := sites) (fun s hs => siteL_len (is s hs))
        have h5 : forgeL.length = 5 := rfl
        omega
      obtain ⟨A', c', hv, hc', hrow⟩ := hL.row 0 rfl
      obtain ⟨g, c2, hv2, hg⟩ := own_form (hL.get 0 rfl) (by simp)
      rw [List.length_map] at hv hv2 hc' hrow
      subst hv2
      cases hv
      have hgl := hL.lts 0 rfl g hg
      have hcl : (forgeL :: sites.map siteJ).length = sites.length + 1 := by simp
      have HC := Lib.hid (show ∀ W : World, Knd.str.Row W (some ⟨g, 0, none⟩) (sites.length + 1) ((forgeL :: sites.map siteJ).map txt) → g < W.heap.size → Calls Tryd.prog 62 #[.slice (some ⟨g, 0, none⟩) (sites.length + 1) c', .string ⟨#[32]⟩] W fun e w' => e = .returned (.string (txt (Lib.join (forgeL :: sites.map siteJ) blank))) ∧ Below W.heap.size W w' from fun W hr hg => by
        have h9 := joinC g c' (forgeL :: sites.map siteJ) W (by rw [hcl]; exact hr) hg hc' (by rw [hcl]; omega) hll
        rw [hcl] at h9
        exact h9)
      rw [hcl] at hrow
      clear hcl
      clear hll hc'
      go_wp2_with fail
      refine (HC.out _ hrow hgl).mono ?_
      rintro e w1 ⟨rfl, hb⟩
      go_wp2
      go_ret
      exact ⟨by rw [E.out]; rfl, (hL.step hb).bel⟩
end Go.Proofs.YtpjdecneeakkeaaDoor.Dat

/- slices.ContainsFunc and IndexFunc at the program's own closures. -/
import Derived.Test.YteoibjacgnmnpaaInsOk
import Derived.Test.YteoibjacgnmnpaaText
import Derived.Test.YteoibjacgnmnpaaInv
namespace Go.Proofs.Yteoibjacgnmnpaa.Dat
open Go Go.RowKit Go.Proofs.Yteoibjacgnmnpaa.Mem
set_option linter.unusedVariables false
set_option linter.unusedSimpArgs false
theorem cl1 (s : ByteArray) (w : World) (hm : s.size ≤ maxLen) : Calls Try.prog 129 #[.string s] w fun e w' => e = .returned (.bool (!textB s)) ∧ w = w' := by
  go_enter Try.func129, Try.ntmps129
  go_wp2_with (go_at_call 130; refine (textI _ _ hm).mono ?_; rintro e w' ⟨rfl, rfl⟩)
  go_ret
  exact ⟨rfl, rfl⟩
theorem cl2 (A B C : Option Addr) (c d k : Nat) (nt nf n : Nat) (pa loc : Int) (x : DIns) (g1 g2 : Nat) (w : World)
    (h1 : w.cell? ⟨g1, 0, none⟩ = some (.slice A nt c)) (h2 : w.cell? ⟨g1, 1, none⟩ = some (.slice B nf d)) (h3 : w.cell? ⟨g2, 0, none⟩ = some (.int .i64 pa)) (h4 : w.cell? ⟨g2, 1, none⟩ = some (.int .i64 loc)) (h5 : w.cell? ⟨g2, 2, none⟩ = some (.slice C n k))
    (hl1 : -9223372036854775808 ≤ loc) (hl2 : loc ≤ 9223372036854775807) (hnt : nt ≤ 1048576) (hnf : nf ≤ 1048576) (hn : n ≤ 1048576) :
    Calls Try.prog 132 #[.agg #[.int .i64 x.op, .int .i64 x.a], .pointer (some ⟨g1, 0, none⟩), .pointer (some ⟨g2, 0, none⟩)] w fun e w' => e = .returned (.bool (!insB nt nf loc n x.op x.a)) ∧ Below w.heap.size w w' := by
  have b1 : g1 < w.heap.size := World.block_lt_of_cell? w _ h1
  have b2 : g2 < w.heap.size := World.block_lt_of_cell? w _ h3
  go_enter Try.func132, Try.ntmps132
  go_wp2_with (go_at_call 133; refine (insI _ _ _ _ _ _ _ _ _ _ _ _ _ _ rfl hl1 hl2 hnt hnf hn).mono ?_; rintro e w' ⟨rfl, hb⟩)
  go_ret
  exact ⟨rfl, (by repeat (first | exact Below.refl _ _ | assumption | (refine bl_set ?_ (by dsimp only; omega) _) | refine bl_alloc ?_ _ | refine bl_drewN ?_ _ | refine bl_drew ?_ | refine bl_step ?_ (by assumption)))⟩
theorem any_no {α : Type} {p : α → Bool} {l : List α} (h : ∀ j x, l[j]? = some x → j < l.length → p x = false) : l.any p = false := by
  rw [List.any_eq_false]
  intro x hx
  obtain ⟨j, hj⟩ := List.mem_iff_getElem?.1 hx
  simp [h j x hj (List.getElem?_eq_some_iff.1 hj).1]
theorem any_yes {α : Type} {p : α → Bool} {l : List α} {k : Nat} {x : α} (h : l[k]? = some x) (hp : p x = true) : l.any p = true := by
  rw [List.any_eq_true]
  exact ⟨x, List.mem_of_getElem? h, hp⟩
theorem not_step {α : Type} {p : α → Bool} {l : List α} {k : Nat} {x : α} (h : ∀ j y, l[j]? = some y → j < k → p y = false) (hx : l[k]? = some x) (hp : p x = false) : ∀ j y, l[j]? = some y → j < k + 1 → p y = false := by
  intro j y hy hj
  rcases Nat.lt_succ_iff_lt_or_eq.1 hj with hj | rfl
  · exact h j y hy hj
  · rw [hx] at hy
    cases hy
    exact hp
set_option maxHeartbeats 1000000 in
theorem idx1 (A : Option Addr) (c : Nat) (l : List ByteArray) (w : World) (hr : Knd.str.Row w A l.length l) (hl : l.length ≤ 1048576) (hv : ∀ x ∈ l, x.size ≤ maxLen) :
    Calls Try.prog 169 #[.slice A l.length c, .func (.func 129) #[] #[]] w fun e w' => ∃ r : Int, e = .returned (.int .i64 r) ∧ decide (0 ≤ r) = l.any (fun s => !textB s) ∧ w = w' := by
  go_enter Try.func169, Try.ntmps169
  go_wp2
  go_loopw [8] (fun i wr => ∃ k : Nat, k ≤ l.length ∧ i = .int .i64 k ∧ Hid (∀ j x, l[j]? = some x → j < k → (!textB x) = false) ∧ w = wr) (fun i _ => l.length - (intOf i).toNat)
  case atStart => exact ⟨0, by omega, rfl, (fun j x _ h => by omega), rfl⟩
  case round =>
    obtain ⟨k, hk, rfl, ho, rfl⟩ := hrel
    by_cases hlt : k < l.length
    · obtain ⟨x, hx⟩ := get_exU l k hlt
      have hxm := hv x (List.mem_of_getElem? hx)
      obtain ⟨ad, cs, rfl, hK, q⟩ := hr.get k x hx
      obtain rfl : cs = [.string x] := hK
      have q0 : w.cell? (ad.add k) = some (.string x) := by have := q 0 _ rfl; simpa [Knd.str, Knd.scalar] using this
      clear q
      cases hp : (!textB x)
      · have HN := Lib.hid (not_step ho.out hx hp)
        have C := cl1 x w hxm
        rw [hp] at C
        clear hx hp
        go_wp2_with fail
        refine C.mono ?_
        rintro e w' ⟨rfl, rfl⟩
        go_wp2
        go_roundw
        case rel => exact ⟨k + 1, by omega, by go_num, HN, trivial⟩
        case measure => simp [intOf]; omega
      · have HE := Lib.hid (any_yes (p := fun s => !textB s) hx hp)
        have C := cl1 x w hxm
        rw [hp] at C
        clear hx hp
        go_wp2_with fail
        refine C.mono ?_
        rintro e w' ⟨rfl, rfl⟩
        go_wp2
        go_ret
        exact ⟨_, rfl, by rw [HE.out]; simp, rfl⟩
    · obtain rfl : k = l.length := by omega
      have HE := Lib.hid (any_no (p := fun s => !textB s) (fun j x h h2 => ho.out j x h h2))
      go_wp2
      go_ret
      exact ⟨_, rfl, by rw [HE.out]; simp, rfl⟩
theorem has1 (A : Option Addr) (c : Nat) (l : List ByteArray) (w : World) (hr : Knd.str.Row w A l.length l) (hl : l.length ≤ 1048576) (hv : ∀ x ∈ l, x.size ≤ maxLen) :
    Calls Try.prog 128 #[.slice A l.length c, .func (.func 129) #[] #[]] w fun e w' => e = .returned (.bool (l.any (fun s => !textB s))) ∧ w = w' := by
  go_enter Try.func128, Try.ntmps128
  go_wp2_with fail
  refine (idx1 _ _ _ _ hr hl hv).mono ?_
  rintro e w' ⟨r, rfl, he, rfl⟩
  have HE := Lib.hid he
  clear he
  go_wp2
  go_ret
  exact ⟨ret_bool HE.out, rfl⟩
set_option maxHeartbeats 1000000 in
theorem idx2 (A B C D : Option Addr) (c d k0 k1 : Nat) (nt nf n : Nat) (pa loc : Int) (l : List DIns) (g1 g2 : Nat) (w : World) (hr : kIns.Row w D l.length l) (hl : l.length ≤ 1048576)
    (h1 : w.cell? ⟨g1, 0, none⟩ = some (.slice A nt c)) (h2 : w.cell? ⟨g1, 1, none⟩ = some (.slice B nf d)) (h3 : w.cell? ⟨g2, 0, none⟩ = some (.int .i64 pa)) (h4 : w.cell? ⟨g2, 1, none⟩ = some (.int .i64 loc)) (h5 : w.cell? ⟨g2, 2, none⟩ = some (.slice C n k0))
    (hl1 : -9223372036854775808 ≤ loc) (hl2 : loc ≤ 9223372036854775807) (hnt : nt ≤ 1048576) (hnf : nf ≤ 1048576) (hn : n ≤ 1048576) :
    Calls Try.prog 170 #[.slice D l.length k1, .func (.func 132) #[] #[.pointer (some ⟨g1, 0, none⟩), .pointer (some ⟨g2, 0, none⟩)]] w fun e w' => ∃ r : Int, e = .returned (.int .i64 r) ∧ decide (0 ≤ r) = l.any (fun x => !insB nt nf loc n x.op x.a) ∧ Below w.heap.size w w' := by
  go_enter Try.func170, Try.ntmps170
  go_wp2
  go_loopw [8] (fun i wr => ∃ k : Nat, k ≤ l.length ∧ i = .int .i64 k ∧ Hid (∀ j x, l[j]? = some x → j < k → (!insB nt nf loc n x.op x.a) = false) ∧ Below w.heap.size w wr) (fun i _ => l.length - (intOf i).toNat)
  case atStart => exact ⟨0, by omega, rfl, (fun j x _ h => by omega), Below.refl _ _⟩
  case round =>
    obtain ⟨k, hk, rfl, ho, hb⟩ := hrel
    by_cases hlt : k < l.length
    · obtain ⟨x, hx⟩ := get_exU l k hlt
      obtain ⟨ad, rfl, q0, q1⟩ := kIns_at (hr.below hb) k x hx
      cases hp : (!insB nt nf loc n x.op x.a)
      · have HN := Lib.hid (not_step ho.out hx hp)
        have C := cl2 A B C c d k0 nt nf n pa loc x g1 g2 wr (kept hb h1) (kept hb h2) (kept hb h3) (kept hb h4) (kept hb h5) hl1 hl2 hnt hnf hn
        rw [hp] at C
        clear hx hp
        go_wp2_with fail
        refine C.mono ?_
        rintro e w' ⟨rfl, hb2⟩
        go_wp2
        go_roundw
        case rel => exact ⟨k + 1, by omega, by go_num, HN, (by repeat (first | exact Below.refl _ _ | assumption | (refine bl_set ?_ (by dsimp only; omega) _) | refine bl_alloc ?_ _ | refine bl_drewN ?_ _ | refine bl_drew ?_ | refine bl_step ?_ (by assumption)))⟩
        case measure => simp [intOf]; omega
      · have HE := Lib.hid (any_yes (p := fun x : DIns => !insB nt nf loc n x.op x.a) hx hp)
        have C := cl2 A B C c d k0 nt nf n pa loc x g1 g2 wr (kept hb h1) (kept hb h2) (kept hb h3) (kept hb h4) (kept hb h5) hl1 hl2 hnt hnf hn
        rw [hp] at C
        clear hx hp
        go_wp2_with fail
        refine C.mono ?_
        rintro e w' ⟨rfl, hb2⟩
        go_wp2
        go_ret
        exact ⟨_, rfl, by rw [HE.out]; simp, (by repeat (first | exact Below.refl _ _ | assumption | (refine bl_set ?_ (by dsimp only; omega) _) | refine bl_alloc ?_ _ | refine bl_drewN ?_ _ | refine bl_drew ?_ | refine bl_step ?_ (by assumption)))⟩
    · obtain rfl : k = l.length := by omega
      have HE := Lib.hid (any_no (p := fun x : DIns => !insB nt nf loc n x.op x.a) (fun j x h h2 => ho.out j x h h2))
      go_wp2
      go_ret
      exact ⟨_, rfl, by rw [HE.out]; simp, hb⟩
theorem has2 (A B C D : Option Addr) (c d k0 k1 : Nat) (nt nf n : Nat) (pa loc : Int) (l : List DIns) (g1 g2 : Nat) (w : World) (hr : kIns.Row w D l.length l) (hl : l.length ≤ 1048576)
    (h1 : w.cell? ⟨g1, 0, none⟩ = some (.slice A nt c)) (h2 : w.cell? ⟨g1, 1, none⟩ = some (.slice B nf d)) (h3 : w.cell? ⟨g2, 0, none⟩ = some (.int .i64 pa)) (h4 : w.cell? ⟨g2, 1, none⟩ = some (.int .i64 loc)) (h5 : w.cell? ⟨g2, 2, none⟩ = some (.slice C n k0))
    (hl1 : -9223372036854775808 ≤ loc) (hl2 : loc ≤ 9223372036854775807) (hnt : nt ≤ 1048576) (hnf : nf ≤ 1048576) (hn : n ≤ 1048576) :
    Calls Try.prog 131 #[.slice D l.length k1, .func (.func 132) #[] #[.pointer (some ⟨g1, 0, none⟩), .pointer (some ⟨g2, 0, none⟩)]] w fun e w' => e = .returned (.bool (l.any (fun x => !insB nt nf loc n x.op x.a))) ∧ Below w.heap.size w w' := by
  go_enter Try.func131, Try.ntmps131
  go_wp2_with fail
  refine (idx2 _ _ _ _ _ _ _ _ _ _ _ _ _ _ _ _ _ hr hl h1 h2 h3 h4 h5 hl1 hl2 hnt hnf hn).mono ?_
  rintro e w' ⟨r, rfl, he, hb⟩
  have HE := Lib.hid he
  clear he
  go_wp2
  go_ret
  exact ⟨ret_bool HE.out, (by repeat (first | exact Below.refl _ _ | assumption | (refine bl_set ?_ (by dsimp only; omega) _) | refine bl_alloc ?_ _ | refine bl_drewN ?_ _ | refine bl_drew ?_ | refine bl_step ?_ (by assumption)))⟩
end Go.Proofs.Yteoibjacgnmnpaa.Dat

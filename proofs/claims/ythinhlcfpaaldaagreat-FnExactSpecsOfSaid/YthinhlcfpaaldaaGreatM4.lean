/- A bundle: FkS FkT FkU FkV FkW FkX. -/
import Derived.Test.YthinhlcfpaaldaaGreatFkQ
import Derived.Test.YthinhlcfpaaldaaGreatGSrc
import Derived.Test.YthinhlcfpaaldaaGreatFkO
import Derived.Test.YthinhlcfpaaldaaGreatGExit
import Derived.Test.YthinhlcfpaaldaaGreatM1
import Derived.Test.YthinhlcfpaaldaaGreatVmI
import Derived.Test.YthinhlcfpaaldaaGreatK6
/- The reference's look at one source. -/
namespace Go.Proofs.YthinhlcfpaaldaaGreat.Dat
open Go Go.RowKit Go.Proofs.YthinhlcfpaaldaaGreat.Mem
set_option linter.unusedVariables false
set_option linter.unusedSimpArgs false
/-- A source is ok. -/
def srcB (nf vals nums recs : Int) (s : DSrc) : Bool := if s.kind = 1 then decide (s.n = 0) && valB nf 0 s.v else nilV s.v && (if s.kind = 2 then btw s.n 0 (vals - 1) else if s.kind = 3 then btw s.n 0 (nums - 1) else if s.kind = 4 then btw s.n 0 (recs - 1) else false)
set_option maxHeartbeats 8000000 in
set_option maxRecDepth 100000 in
theorem src10 {w0 W : World} {L : List Res} (A B A4 A5 : Option Addr) (c0 d0 c4 c5 : Nat) (t : List ByteArray) (l : List DFunc) (c : DFast) (hS0 : St w0 L W) (i : Nat) {g : Nat} {b : Bool} (hi : L[i]? = some (kbox A B A4 A5 c0 d0 c4 c5 t l c g b)) (k n vk vn recs : Int) (vs : ByteArray) (hl12 : l.length ≤ 12) (h1 : 0 ≤ c.vals) (h2 : c.vals ≤ 400) (h3 : 0 ≤ c.nums) (h4 : c.nums ≤ 400) (hs : vs.size ≤ maxLen) :
    Calls Tryz.prog 336 #[.pointer (some ⟨g, 0, none⟩), .agg #[.int .i64 k, .int .i64 n, .int .i64 vk, .int .i64 vn, .string vs], .int .i64 recs] W fun e w' => e = .returned (.tuple #[]) ∧ St w0 (L.set i (kbox A B A4 A5 c0 d0 c4 c5 t l c g (b || !(srcB l.length c.vals c.nums recs ⟨k, n, ⟨vk, vn, vs⟩⟩)))) w' := by
  have hil : i < L.length := (List.getElem?_eq_some_iff.1 hi).1
  have e0 : L.set i (kbox A B A4 A5 c0 d0 c4 c5 t l c g b) = L := by
    obtain ⟨_, e⟩ := List.getElem?_eq_some_iff.1 hi
    rw [← e, List.set_getElem_self]
  by_cases k1 : k = 1
  · subst k1
    have E := Lib.hid (show srcB l.length c.vals c.nums recs ⟨1, n, ⟨vk, vn, vs⟩⟩ = (decide (n = 0) && valB (l.length : Int) 0 ⟨vk, vn, vs⟩) from rfl)
    have hS : St w0 (Res.box W.heap.size (.cells #[.int .i64 1, .int .i64 n, .int .i64 vk, .int .i64 vn, .string vs] 269 (0, 0)) :: L.set i (kbox A B A4 A5 c0 d0 c4 c5 t l c g b)) (W.alloc (.cells #[.int .i64 1, .int .i64 n, .int .i64 vk, .int .i64 vn, .string vs] 269 (0, 0))) := by
      rw [e0]
      exact hS0.made _
    obtain ⟨x_k, f_k, z_k⟩ := kfactsX hil hS
    have x_o := hS.cell 0 rfl
    have CV : ∀ W' : World, Calls Tryz.prog 183 #[.agg #[.slice A t.length c0, .slice B l.length d0], .agg #[.int .i64 vk, .int .i64 vn, .string vs], .int .i64 0] W' (fun e w' => e = .returned (.bool (valB (l.length : Int) 0 ⟨vk, vn, vs⟩)) ∧ Below W'.heap.size W' w') := fun W' => val3 l.length 0 A B c0 d0 t.length l.length ⟨vk, vn, vs⟩ W' hs (by omega) (by omega) (by omega) (by omega) rfl
    clear e0
    go_enter Tryz.func336, Tryz.ntmps336
    go_wp2_with (first | (go_at_call 277; (with_reducible refine (zeroX hil hS _).mono ?_); rintro e w9 ⟨rfl, hS9⟩; replace hS := hS9; clear hS9 x_k f_k z_k x_o; obtain ⟨x_k, f_k, z_k⟩ := kfactsX hil hS; have x_o := hS.cell 0 rfl) | (go_at_call 280; (with_reducible refine (needX hil hS _).mono ?_); rintro e w9 ⟨rfl, hS9⟩; replace hS := hS9; clear hS9 x_k f_k z_k x_o; obtain ⟨x_k, f_k, z_k⟩ := kfactsX hil hS; have x_o := hS.cell 0 rfl))
    have hS2 := hS.drew
    clear x_k f_k z_k x_o
    refine wp_region_held_drew (S := (fun w' => w'.cell? ⟨W.heap.size, 2, none⟩ = some (.int .i64 vk) ∧ w'.cell? ⟨W.heap.size, 3, none⟩ = some (.int .i64 vn) ∧ w'.cell? ⟨W.heap.size, 4, none⟩ = some (.string vs) ∧ w'.cell? ⟨g, 0, none⟩ = some (.slice A t.length c0) ∧ w'.cell? ⟨g, 1, none⟩ = some (.slice B l.length d0))) (by kernel_rfl) (⟨hS2.cell 0 rfl 2, hS2.cell 0 rfl 3, hS2.cell 0 rfl 4, (kfactsX hil hS2).1 0, (kfactsX hil hS2).1 1⟩) (fun hHeld => ?_)
    (iterate 7 (first | refine rQ1 ?_ | refine rQ2 ?_); try simp only [pP])
    refine regC 7 rfl (by kernel_rfl) (by rfl) (fun Kq hKq => ?_)
    go_simp
    (with_reducible refine (CV _).mono ?_)
    rintro e w2 ⟨rfl, hb2⟩; have hS3 := hS2.step hb2
    try go_wp2_with fail
    refine hKq.out _ _ (⟨hS3.cell 0 rfl 2, hS3.cell 0 rfl 3, hS3.cell 0 rfl 4, (kfactsX hil hS3).1 0, (kfactsX hil hS3).1 1⟩) (fun hHeld => ?_)
    clear hKq Kq
    (try simp only [pP])
    refine regC 8 rfl (by kernel_rfl) (by rfl) (fun Kq hKq => ?_)
    go_simp
    (with_reducible refine (needX hil hS3 _).mono ?_)
    rintro e w9 ⟨rfl, hS9⟩
    try go_wp2_with fail
    refine hKq.out _ _ (⟨hS9.cell 0 rfl 2, hS9.cell 0 rfl 3, hS9.cell 0 rfl 4, (kfactsX hil hS9).1 0, (kfactsX hil hS9).1 1⟩) (fun hHeld => ?_)
    clear hKq Kq
    (try simp only [pP])
    refine wpAnyH_done (by kernel_rfl) ?_ _
    clear hHeld
    go_wp2
    go_end0
    refine ⟨rfl, finX hS9.drop ?_⟩
    rw [E.out]
    have key : ∀ b x p : Bool, ((b || !x) || !p) = (b || !(x && p)) := by decide
    exact key _ _ _
  by_cases k2 : k = 2
  · subst k2
    clear k1
    have E := Lib.hid (show srcB l.length c.vals c.nums recs ⟨2, n, ⟨vk, vn, vs⟩⟩ = (nilV ⟨vk, vn, vs⟩ && btw n 0 (c.vals - 1)) from rfl)
    have hS : St w0 (Res.box W.heap.size (.cells #[.int .i64 2, .int .i64 n, .int .i64 vk, .int .i64 vn, .string vs] 269 (0, 0)) :: L.set i (kbox A B A4 A5 c0 d0 c4 c5 t l c g b)) (W.alloc (.cells #[.int .i64 2, .int .i64 n, .int .i64 vk, .int .i64 vn, .string vs] 269 (0, 0))) := by
      rw [e0]
      exact hS0.made _
    obtain ⟨x_k, f_k, z_k⟩ := kfactsX hil hS
    have x_o := hS.cell 0 rfl
    clear e0
    go_enter Tryz.func336, Tryz.ntmps336
    go_wp2_with (first | (go_at_call 278; refine (noneX hil hS ⟨vk, vn, vs⟩).mono ?_; rintro e w9 ⟨rfl, hS9⟩; replace hS := hS9; clear hS9 x_k f_k z_k x_o; obtain ⟨x_k, f_k, z_k⟩ := kfactsX hil hS; have x_o := hS.cell 0 rfl) | (go_at_call 279; (with_reducible refine (valX hil hS _ h1 h2).mono ?_); rintro e w9 ⟨rfl, hS9⟩; replace hS := hS9; clear hS9 x_k f_k z_k x_o; obtain ⟨x_k, f_k, z_k⟩ := kfactsX hil hS; have x_o := hS.cell 0 rfl))
    go_end0
    refine ⟨rfl, finX hS.drop ?_⟩
    rw [E.out]
    have key : ∀ b x p : Bool, ((b || !x) || !p) = (b || !(x && p)) := by decide
    exact key _ _ _
  by_cases k3 : k = 3
  · subst k3
    clear k1 k2
    have E := Lib.hid (show srcB l.length c.vals c.nums recs ⟨3, n, ⟨vk, vn, vs⟩⟩ = (nilV ⟨vk, vn, vs⟩ && btw n 0 (c.nums - 1)) from rfl)
    have hS : St w0 (Res.box W.heap.size (.cells #[.int .i64 3, .int .i64 n, .int .i64 vk, .int .i64 vn, .string vs] 269 (0, 0)) :: L.set i (kbox A B A4 A5 c0 d0 c4 c5 t l c g b)) (W.alloc (.cells #[.int .i64 3, .int .i64 n, .int .i64 vk, .int .i64 vn, .string vs] 269 (0, 0))) := by
      rw [e0]
      exact hS0.made _
    obtain ⟨x_k, f_k, z_k⟩ := kfactsX hil hS
    have x_o := hS.cell 0 rfl
    clear e0
    go_enter Tryz.func336, Tryz.ntmps336
    go_wp2_with (first | (go_at_call 278; refine (noneX hil hS ⟨vk, vn, vs⟩).mono ?_; rintro e w9 ⟨rfl, hS9⟩; replace hS := hS9; clear hS9 x_k f_k z_k x_o; obtain ⟨x_k, f_k, z_k⟩ := kfactsX hil hS; have x_o := hS.cell 0 rfl) | (go_at_call 281; (with_reducible refine (numX hil hS _ h3 h4).mono ?_); rintro e w9 ⟨rfl, hS9⟩; replace hS := hS9; clear hS9 x_k f_k z_k x_o; obtain ⟨x_k, f_k, z_k⟩ := kfactsX hil hS; have x_o := hS.cell 0 rfl))
    go_end0
    refine ⟨rfl, finX hS.drop ?_⟩
    rw [E.out]
    have key : ∀ b x p : Bool, ((b || !x) || !p) = (b || !(x && p)) := by decide
    exact key _ _ _
  by_cases k4 : k = 4
  · subst k4
    clear k1 k2 k3
    have HR : ∀ r : Bool, (decide (0 ≤ n) && decide (n < recs)) = r → btw n 0 (recs - 1) = r := by
      rintro r rfl
      unfold btw
      by_cases a : 0 ≤ n <;> by_cases b : n < recs <;> simp [a, b] <;> omega
    by_cases n0 : 0 ≤ n
    · by_cases n1 : n < recs
      · have HB := Lib.hid (HR true (by simp [n0, n1]))
        have E := Lib.hid (show srcB l.length c.vals c.nums recs ⟨4, n, ⟨vk, vn, vs⟩⟩ = (nilV ⟨vk, vn, vs⟩ && true) by show (nilV ⟨vk, vn, vs⟩ && btw n 0 (recs - 1)) = _; rw [HB.out])
        have hS : St w0 (Res.box W.heap.size (.cells #[.int .i64 4, .int .i64 n, .int .i64 vk, .int .i64 vn, .string vs] 269 (0, 0)) :: L.set i (kbox A B A4 A5 c0 d0 c4 c5 t l c g b)) (W.alloc (.cells #[.int .i64 4, .int .i64 n, .int .i64 vk, .int .i64 vn, .string vs] 269 (0, 0))) := by
          rw [e0]
          exact hS0.made _
        obtain ⟨x_k, f_k, z_k⟩ := kfactsX hil hS
        have x_o := hS.cell 0 rfl
        clear e0 HR
        go_enter Tryz.func336, Tryz.ntmps336
        go_wp2_with (first | (go_at_call 278; refine (noneX hil hS ⟨vk, vn, vs⟩).mono ?_; rintro e w9 ⟨rfl, hS9⟩; replace hS := hS9; clear hS9 x_k f_k z_k x_o; obtain ⟨x_k, f_k, z_k⟩ := kfactsX hil hS; have x_o := hS.cell 0 rfl) | (go_at_call 280; (with_reducible refine (needX hil hS _).mono ?_); rintro e w9 ⟨rfl, hS9⟩; replace hS := hS9; clear hS9 x_k f_k z_k x_o; obtain ⟨x_k, f_k, z_k⟩ := kfactsX hil hS; have x_o := hS.cell 0 rfl))
        go_end0
        refine ⟨rfl, finX hS.drop ?_⟩
        rw [E.out]
        have key : ∀ b x p : Bool, ((b || !x) || !p) = (b || !(x && p)) := by decide
        exact key _ _ _
      · have n2 : recs ≤ n := by omega
        have HB := Lib.hid (HR false (by simp [n0, n1]))
        have E := Lib.hid (show srcB l.length c.vals c.nums recs ⟨4, n, ⟨vk, vn, vs⟩⟩ = (nilV ⟨vk, vn, vs⟩ && false) by show (nilV ⟨vk, vn, vs⟩ && btw n 0 (recs - 1)) = _; rw [HB.out])
        have hS : St w0 (Res.box W.heap.size (.cells #[.int .i64 4, .int .i64 n, .int .i64 vk, .int .i64 vn, .string vs] 269 (0, 0)) :: L.set i (kbox A B A4 A5 c0 d0 c4 c5 t l c g b)) (W.alloc (.cells #[.int .i64 4, .int .i64 n, .int .i64 vk, .int .i64 vn, .string vs] 269 (0, 0))) := by
          rw [e0]
          exact hS0.made _
        obtain ⟨x_k, f_k, z_k⟩ := kfactsX hil hS
        have x_o := hS.cell 0 rfl
        clear e0 HR
        go_enter Tryz.func336, Tryz.ntmps336
        go_wp2_with (first | (go_at_call 278; refine (noneX hil hS ⟨vk, vn, vs⟩).mono ?_; rintro e w9 ⟨rfl, hS9⟩; replace hS := hS9; clear hS9 x_k f_k z_k x_o; obtain ⟨x_k, f_k, z_k⟩ := kfactsX hil hS; have x_o := hS.cell 0 rfl) | (go_at_call 280; (with_reducible refine (needX hil hS _).mono ?_); rintro e w9 ⟨rfl, hS9⟩; replace hS := hS9; clear hS9 x_k f_k z_k x_o; obtain ⟨x_k, f_k, z_k⟩ := kfactsX hil hS; have x_o := hS.cell 0 rfl))
        go_end0
        refine ⟨rfl, finX hS.drop ?_⟩
        rw [E.out]
        rw [decide_eq_false (Int.not_lt.2 n1)]
        have key : ∀ b x p : Bool, ((b || !x) || !p) = (b || !(x && p)) := by decide
        exact key _ _ _
    · have n2 : n < 0 := by omega
      have HB := Lib.hid (HR false (by simp [n0]))
      have E := Lib.hid (show srcB l.length c.vals c.nums recs ⟨4, n, ⟨vk, vn, vs⟩⟩ = (nilV ⟨vk, vn, vs⟩ && false) by show (nilV ⟨vk, vn, vs⟩ && btw n 0 (recs - 1)) = _; rw [HB.out])
      have hS : St w0 (Res.box W.heap.size (.cells #[.int .i64 4, .int .i64 n, .int .i64 vk, .int .i64 vn, .string vs] 269 (0, 0)) :: L.set i (kbox A B A4 A5 c0 d0 c4 c5 t l c g b)) (W.alloc (.cells #[.int .i64 4, .int .i64 n, .int .i64 vk, .int .i64 vn, .string vs] 269 (0, 0))) := by
        rw [e0]
        exact hS0.made _
      obtain ⟨x_k, f_k, z_k⟩ := kfactsX hil hS
      have x_o := hS.cell 0 rfl
      clear e0 HR
      go_enter Tryz.func336, Tryz.ntmps336
      go_wp2_with (first | (go_at_call 278; refine (noneX hil hS ⟨vk, vn, vs⟩).mono ?_; rintro e w9 ⟨rfl, hS9⟩; replace hS := hS9; clear hS9 x_k f_k z_k x_o; obtain ⟨x_k, f_k, z_k⟩ := kfactsX hil hS; have x_o := hS.cell 0 rfl) | (go_at_call 280; (with_reducible refine (needX hil hS _).mono ?_); rintro e w9 ⟨rfl, hS9⟩; replace hS := hS9; clear hS9 x_k f_k z_k x_o; obtain ⟨x_k, f_k, z_k⟩ := kfactsX hil hS; have x_o := hS.cell 0 rfl))
      go_end0
      refine ⟨rfl, finX hS.drop ?_⟩
      rw [E.out]
      have key : ∀ b x p : Bool, ((b || !x) || !p) = (b || !(x && p)) := by decide
      exact key _ _ _
  have E := Lib.hid (show srcB l.length c.vals c.nums recs ⟨k, n, ⟨vk, vn, vs⟩⟩ = (nilV ⟨vk, vn, vs⟩ && false) from by unfold srcB; rw [if_neg k1, if_neg k2, if_neg k3, if_neg k4])
  have hS : St w0 (Res.box W.heap.size (.cells #[.int .i64 k, .int .i64 n, .int .i64 vk, .int .i64 vn, .string vs] 269 (0, 0)) :: L.set i (kbox A B A4 A5 c0 d0 c4 c5 t l c g b)) (W.alloc (.cells #[.int .i64 k, .int .i64 n, .int .i64 vk, .int .i64 vn, .string vs] 269 (0, 0))) := by
    rw [e0]
    exact hS0.made _
  obtain ⟨x_k, f_k, z_k⟩ := kfactsX hil hS
  have x_o := hS.cell 0 rfl
  have m1 : (k == 1) = false := by simp [k1]
  have m2 : (k == 2) = false := by simp [k2]
  have m3 : (k == 3) = false := by simp [k3]
  have m4 : (k == 4) = false := by simp [k4]
  clear e0
  go_enter Tryz.func336, Tryz.ntmps336
  go_wp2_with (first | (go_at_call 278; refine (noneX hil hS ⟨vk, vn, vs⟩).mono ?_; rintro e w9 ⟨rfl, hS9⟩; replace hS := hS9; clear hS9 x_k f_k z_k x_o; obtain ⟨x_k, f_k, z_k⟩ := kfactsX hil hS; have x_o := hS.cell 0 rfl))
  all_goals go_end0
  refine ⟨rfl, ?_⟩
  rw [E.out, Bool.and_false, Bool.not_false, Bool.or_true]
  exact badX hil hS
set_option maxHeartbeats 8000000 in
set_option maxRecDepth 100000 in
theorem srcs10 {w0 W : World} {L : List Res} (A B A4 A5 : Option Addr) (c0 d0 c4 c5 : Nat) (t : List ByteArray) (l : List DFunc) (c : DFast) (hS0 : St w0 L W) (i : Nat) {g : Nat} {b : Bool} (hi : L[i]? = some (kbox A B A4 A5 c0 d0 c4 c5 t l c g b)) (A6 : Option Addr) (c6 : Nat) (xs : List DSrc) (recs : Int) (r6 : kSrc.Row w0 A6 xs.length xs) (hv : ∀ s ∈ xs, s.v.s.size ≤ maxLen) (hn : xs.length ≤ 4194304) (hl12 : l.length ≤ 12) (h1 : 0 ≤ c.vals) (h2 : c.vals ≤ 400) (h3 : 0 ≤ c.nums) (h4 : c.nums ≤ 400) :
    Calls Tryz.prog 284 #[.pointer (some ⟨g, 0, none⟩), .slice A6 xs.length c6, .int .i64 recs] W fun e w' => e = .returned (.tuple #[]) ∧ St w0 (L.set i (kbox A B A4 A5 c0 d0 c4 c5 t l c g (b || !(xs.all (srcB l.length c.vals c.nums recs))))) w' := by
  have hil : i < L.length := (List.getElem?_eq_some_iff.1 hi).1
  have e0 : L.set i (kbox A B A4 A5 c0 d0 c4 c5 t l c g b) = L := by
    obtain ⟨_, e⟩ := List.getElem?_eq_some_iff.1 hi
    rw [← e, List.set_getElem_self]
  have hS : St w0 (L.set i (kbox A B A4 A5 c0 d0 c4 c5 t l c g (b || !((xs.take 0).all (srcB l.length c.vals c.nums recs))))) W := by
    rw [List.take_zero, List.all_nil, Bool.not_true, Bool.or_false, e0]
    exact hS0
  clear e0
  go_enter Tryz.func284, Tryz.ntmps284
  go_wp2
  go_loopw [6] (fun v wr => ∃ k : Nat, k ≤ xs.length ∧ v = .int .i64 k ∧ St w0 (L.set i (kbox A B A4 A5 c0 d0 c4 c5 t l c g (b || !((xs.take k).all (srcB l.length c.vals c.nums recs))))) wr) (fun v _ => xs.length - (intOf v).toNat)
  case atStart => exact ⟨0, by omega, rfl, hS⟩
  case round =>
    clear hS hS0 hi
    obtain ⟨k, hk, rfl, hS⟩ := hrel
    by_cases hlt : k < xs.length
    rotate_left
    · obtain rfl : k = xs.length := by omega
      rw [List.take_length] at hS
      go_wp2
      go_end0
      exact ⟨rfl, hS⟩
    obtain ⟨z, hz⟩ := get_exU xs k hlt
    have hzs := hv z (List.mem_of_getElem? hz)
    obtain ⟨ad, rfl, q0, q1, q2, q3, q4⟩ := kSrc_at (r6.below hS.bel) k z hz
    have HA := Lib.hid (all_snoc (srcB l.length c.vals c.nums recs) xs k z hz)
    obtain ⟨zk, zn, ⟨vk, vn, vs⟩⟩ := z
    clear hz
    go_wp2_with fail
    refine (src10 A B A4 A5 c0 d0 c4 c5 t l c hS i (List.getElem?_set_self hil) zk zn vk vn recs vs hl12 h1 h2 h3 h4 hzs).mono ?_
    rintro e w2 ⟨rfl, hS2⟩
    rw [List.set_set] at hS2
    go_wp2
    go_roundw
    case rel => exact ⟨k + 1, by omega, by go_num, finX hS2 (by rw [HA.out, Bool.not_and, Bool.or_assoc])⟩
    case measure => simp [intOf]; omega
set_option maxHeartbeats 8000000 in
set_option maxRecDepth 100000 in
theorem srcI (A B A4 A5 : Option Addr) (c0 d0 c4 c5 : Nat) (t : List ByteArray) (l : List DFunc) (c : DFast) (k n vk vn recs : Int) (vs : ByteArray) (w : World) (hl : l.length ≤ 12) (h1 : 0 ≤ c.vals) (h2 : c.vals ≤ 400) (h3 : 0 ≤ c.nums) (h4 : c.nums ≤ 400) (hr0 : 0 ≤ recs) (hr : recs ≤ 4194304) (hs : vs.size ≤ maxLen) :
    Calls Tryz.prog 301 #[.agg #[.int .i64 c.fn, .int .i64 c.entry, .int .i64 c.vals, .int .i64 c.nums, .slice A4 c.ops.length c4, .slice A5 c.exits.length c5], .agg #[.slice A t.length c0, .slice B l.length d0], .agg #[.int .i64 k, .int .i64 n, .int .i64 vk, .int .i64 vn, .string vs], .int .i64 recs] w fun e w' => e = .returned (.bool (srcB l.length c.vals c.nums recs ⟨k, n, ⟨vk, vn, vs⟩⟩)) ∧ Below w.heap.size w w' := by
  by_cases k1 : k = 1
  · subst k1
    by_cases n0 : n = 0
    · subst n0
      have E := Lib.hid (show srcB l.length c.vals c.nums recs ⟨1, 0, ⟨vk, vn, vs⟩⟩ = valB l.length 0 ⟨vk, vn, vs⟩ from rfl)
      have hS := (((St.start w).made (.cells #[.int .i64 c.fn, .int .i64 c.entry, .int .i64 c.vals, .int .i64 c.nums, .slice A4 c.ops.length c4, .slice A5 c.exits.length c5] 41 (0, 0))).madeAt (.cells #[.slice A t.length c0, .slice B l.length d0] 36 (0, 0)) (w.heap.size + 1) (by simp)).madeAt (.cells #[.int .i64 1, .int .i64 0, .int .i64 vk, .int .i64 vn, .string vs] 269 (0, 0)) (w.heap.size + 1 + 1) (by simp)
      go_enter Tryz.func301, Tryz.ntmps301
      go_wp2_with fail
      refine (valI l.length 0 ⟨vk, vn, vs⟩ _ hs (by omega) (by omega) (by omega) (by omega)).mono ?_
      rintro e w1 ⟨rfl, hb⟩
      have hz := hS.step hb
      go_wp2
      go_ret
      exact ⟨ret_bool E.out.symm, hz.bel⟩
    · have m0 : (n == 0) = false := by simpa using n0
      have E := Lib.hid (show srcB l.length c.vals c.nums recs ⟨1, n, ⟨vk, vn, vs⟩⟩ = false by show (decide (n = 0) && _) = false; rw [decide_eq_false n0, Bool.false_and])
      clear n0
      go_enter Tryz.func301, Tryz.ntmps301
      go_wp2
      go_ret
      exact ⟨ret_bool E.out.symm, bl9⟩
  by_cases k2 : k = 2
  · subst k2
    clear k1
    have E := Lib.hid (show srcB l.length c.vals c.nums recs ⟨2, n, ⟨vk, vn, vs⟩⟩ = (nilV ⟨vk, vn, vs⟩ && btw n 0 (c.vals - 1)) from rfl)
    go_enter Tryz.func301, Tryz.ntmps301
    go_wp2_with (go_at_call 122; (with_reducible refine (isPlace (r := btw n 0 (c.vals - 1)) _ rfl (by omega) (by omega)).mono ?_); rintro e w' ⟨rfl, rfl⟩)
    all_goals (go_ret; refine ⟨ret_bool ?_, bl9⟩; rw [E.out, Bool.eq_iff_iff]; simp_all [nilV, noS])
  by_cases k3 : k = 3
  · subst k3
    clear k1 k2
    have E := Lib.hid (show srcB l.length c.vals c.nums recs ⟨3, n, ⟨vk, vn, vs⟩⟩ = (nilV ⟨vk, vn, vs⟩ && btw n 0 (c.nums - 1)) from rfl)
    go_enter Tryz.func301, Tryz.ntmps301
    go_wp2_with (go_at_call 122; (with_reducible refine (isPlace (r := btw n 0 (c.nums - 1)) _ rfl (by omega) (by omega)).mono ?_); rintro e w' ⟨rfl, rfl⟩)
    all_goals (go_ret; refine ⟨ret_bool ?_, bl9⟩; rw [E.out, Bool.eq_iff_iff]; simp_all [nilV, noS])
  by_cases k4 : k = 4
  · subst k4
    clear k1 k2 k3
    have E := Lib.hid (show srcB l.length c.vals c.nums recs ⟨4, n, ⟨vk, vn, vs⟩⟩ = (nilV ⟨vk, vn, vs⟩ && btw n 0 (recs - 1)) from rfl)
    go_enter Tryz.func301, Tryz.ntmps301
    go_wp2_with (go_at_call 122; (with_reducible refine (isPlace (r := btw n 0 (recs - 1)) _ rfl (by omega) (by omega)).mono ?_); rintro e w' ⟨rfl, rfl⟩)
    all_goals (go_ret; refine ⟨ret_bool ?_, bl9⟩; rw [E.out, Bool.eq_iff_iff]; simp_all [nilV, noS])
  have E := Lib.hid (show srcB l.length c.vals c.nums recs ⟨k, n, ⟨vk, vn, vs⟩⟩ = false by unfold srcB; rw [if_neg k1, if_neg k2, if_neg k3, if_neg k4, Bool.and_false])
  have m1 : (k == 1) = false := by simpa using k1
  have m2 : (k == 2) = false := by simpa using k2
  have m3 : (k == 3) = false := by simpa using k3
  have m4 : (k == 4) = false := by simpa using k4
  clear k1 k2 k3 k4
  go_enter Tryz.func301, Tryz.ntmps301
  go_wp2
  go_ret
  exact ⟨ret_bool E.out.symm, bl9⟩
def srcF (fs : List DExFrame) : List DSrc := (fs.map (fun f => f.locals ++ f.stack)).flatten
def srcR (rs : List DExRec) : List DSrc := (rs.map (fun r => r.fields)).flatten
def srcsL (x : DExit) : List DSrc := srcF x.frames ++ srcR x.recs
theorem srcF_snoc {fs : List DExFrame} {k : Nat} {y : DExFrame} (h : fs[k]? = some y) : srcF (fs.take (k + 1)) = (srcF (fs.take k) ++ y.locals) ++ y.stack := by
  rw [take_snoc h]
  simp [srcF]
theorem srcR_snoc {rs : List DExRec} {k : Nat} {y : DExRec} (h : rs[k]? = some y) : srcR (rs.take (k + 1)) = srcR (rs.take k) ++ y.fields := by
  rw [take_snoc h]
  simp [srcR]
theorem srcF_le (fs : List DExFrame) (k : Nat) : (srcF (fs.take k)).length ≤ (srcF fs).length := by
  conv => rhs; rw [← List.take_append_drop k fs]
  simp only [srcF, List.map_append, List.flatten_append, List.length_append]
  omega
theorem srcR_le (rs : List DExRec) (k : Nat) : (srcR (rs.take k)).length ≤ (srcR rs).length := by
  conv => rhs; rw [← List.take_append_drop k rs]
  simp only [srcR, List.map_append, List.flatten_append, List.length_append]
  omega
theorem srcKO (w : World) (x : DSrc) (cs : List Value) (h : kSrc.K w x cs) : kSrc.O w x cs [] := by
  obtain rfl := kSrc_K.1 h
  exact kSrc_Oi.2 ⟨rfl, rfl⟩
set_option maxHeartbeats 8000000 in
set_option maxRecDepth 100000 in
theorem srcsI (A5 A6 : Option Addr) (c5 c6 : Nat) (x : DExit) (w : World) (r5 : kExFrame.Row w A5 x.frames.length x.frames) (r6 : kExRec.Row w A6 x.recs.length x.recs) (m5 : x.frames.length ≤ 1048576) (m6 : x.recs.length ≤ 1048576) (hn : (srcsL x).length ≤ 1048576) :
    Calls Tryz.prog 299 #[.agg #[.int .i64 x.kind, .int .i64 x.spec.fn, .int .i64 x.spec.pc, .int .i64 x.spec.kind, .int .i64 x.spec.target, .slice A5 x.frames.length c5, .slice A6 x.recs.length c6]] w (NewRow kSrc 269 (srcsL x) w) := by
  have hn2 : (srcF x.frames).length + (srcR x.recs).length ≤ 1048576 := by
    unfold srcsL at hn
    rwa [List.length_append] at hn
  clear hn
  have hS := ((St.start w).made (.cells #[.int .i64 x.kind, .int .i64 x.spec.fn, .int .i64 x.spec.pc, .int .i64 x.spec.kind, .int .i64 x.spec.target, .slice A5 x.frames.length c5, .slice A6 x.recs.length c6] 168 (0, 0))).empty kSrc 269 (w.heap.size + 1) (by simp)
  go_enter Tryz.func299, Tryz.ntmps299
  go_wp2
  go_loopw [3, 12] (fun v i wr => ∃ (k : Nat) (F : List Nat), k ≤ x.frames.length ∧ i = .int .i64 k ∧ St w [Res.own kSrc 269 v (srcF (x.frames.take k)) F, Res.box w.heap.size (.cells #[.int .i64 x.kind, .int .i64 x.spec.fn, .int .i64 x.spec.pc, .int .i64 x.spec.kind, .int .i64 x.spec.target, .slice A5 x.frames.length c5, .slice A6 x.recs.length c6] 168 (0, 0))] wr) (fun _ i _ => x.frames.length - (intOf i).toNat)
  case atStart => exact ⟨0, _, by omega, rfl, hS⟩
  case round =>
    clear hS
    obtain ⟨k, F, hk, rfl, hS⟩ := hrel
    by_cases hlt : k < x.frames.length
    · obtain ⟨y, hy⟩ := get_exU x.frames k hlt
      obtain ⟨ad, A2, A3, c2, c3, rfl, q0, q1, q2, q3, _, r2, _, r3⟩ := kExFrame_at r5 k y hy
      have HT := Lib.hid (srcF_snoc hy)
      have HL2 := Lib.hid (show ((srcF (x.frames.take k) ++ y.locals).length + y.stack.length ≤ 1048576) by
        have h1 := srcF_le x.frames (k + 1)
        rw [HT.out, List.length_append] at h1
        omega)
      have HL1 := Lib.hid (show (srcF (x.frames.take k)).length + y.locals.length ≤ 1048576 by
        have h1 := HL2.out
        rw [List.length_append] at h1
        omega)
      clear hy
      have p0 := kept hS.bel q0
      have p1 := kept hS.bel q1
      have p2 := kept hS.bel q2
      have p3 := kept hS.bel q3
      clear q0 q1 q2 q3
      obtain ⟨g5, hg5⟩ : ∃ g5, wr.heap.size = g5 := ⟨_, rfl⟩
      have hT := (hS.madeAt (.cells #[.int .i64 y.fn, .int .i64 y.pc, .slice A2 y.locals.length c2, .slice A3 y.stack.length c3] 171 (0, 0)) g5 hg5).drew
      go_wp2
      clear p0 p1 p2 p3
      refine wp_region_held_drew (S := (fun w' => w'.cell? ⟨g5, 2, none⟩ = some (.slice A2 y.locals.length c2) ∧ w'.cell? ⟨g5, 3, none⟩ = some (.slice A3 y.stack.length c3))) (by kernel_rfl) (⟨hT.cell 0 rfl 2, hT.cell 0 rfl 3⟩) (fun hHeld => ?_)
      (iterate 3 (first | refine rQ1 ?_ | refine rQ2 ?_); try simp only [pP]); (first | refine rW 4 ?_ | refine rV 4 ?_); (try simp only [pP]); (first | refine rW 5 ?_ | refine rV 5 ?_); (try simp only [pP])
      refine regC 3 rfl (by kernel_rfl) (by rfl) (fun Kq hKq => ?_)
      refine Knd.op_appAny kSrc srcKO _ _ _ rfl 269 Tryz.underlying169 (.agg #[.int .i64 0, .int .i64 0, .int .i64 0, .int .i64 0, .string (⟨#[]⟩ : ByteArray)]) 48 infoSrc rfl (by decide) rfl (hT.own_ 1 rfl) (hT.nodup 1 rfl) A2 c2 (r2.below hT.bel) rfl (by have := HL1.out; unfold maxLen; omega) (by have := HL1.out; omega) ?_
      rintro v5 w5 F5 hO hB hnd hFq
      have hS6 := hT.upd (r' := Res.own kSrc 269 _ _ F5) 1 rfl hB hO hnd hFq
      clear hO hB hnd hFq
      refine hKq.out _ _ ⟨hS6.cell 0 rfl 2, hS6.cell 0 rfl 3⟩ (fun hHeld => ?_)
      clear hKq Kq
      try simp only [Act.put, List.setIfInBounds_toArray, List.set_cons_zero, List.set_cons_succ]
      refine regC 6 rfl (by kernel_rfl) (by rfl) (fun Kq hKq => ?_)
      refine Knd.op_appAny kSrc srcKO _ _ _ rfl 269 Tryz.underlying169 (.agg #[.int .i64 0, .int .i64 0, .int .i64 0, .int .i64 0, .string (⟨#[]⟩ : ByteArray)]) 48 infoSrc rfl (by decide) rfl (hS6.own_ 1 rfl) (hS6.nodup 1 rfl) A3 c3 (r3.below hS6.bel) rfl (by have := HL2.out; unfold maxLen; omega) (by have := HL2.out; omega) ?_
      rintro v7 w7 F7 hO hB hnd hFq
      have hS8 := hS6.upd (r' := Res.own kSrc 269 _ _ F7) 1 rfl hB hO hnd hFq
      clear hO hB hnd hFq
      refine hKq.out _ _ ⟨hS8.cell 0 rfl 2, hS8.cell 0 rfl 3⟩ (fun hHeld => ?_)
      clear hKq Kq
      try simp only [Act.put, List.setIfInBounds_toArray, List.set_cons_zero, List.set_cons_succ]
      (first | refine rW 7 ?_ | refine rV 7 ?_); (try simp only [pP])
      refine wpAnyH_done (by kernel_rfl) ?_ _
      clear hHeld
      go_wp2
      go_roundw
      case rel => exact ⟨k + 1, _, by omega, by go_num, by rw [HT.out]; exact hS8.drop⟩
      case measure => simp [intOf]; omega
    · obtain rfl : k = x.frames.length := by omega
      rw [List.take_length] at hS
      have x9 := hS.cell 1 rfl
      go_wp2
      go_loopw [3, 27] (fun v i wz => ∃ (k : Nat) (F : List Nat), k ≤ x.recs.length ∧ i = .int .i64 k ∧ St w [Res.own kSrc 269 v (srcF x.frames ++ srcR (x.recs.take k)) F, Res.box w.heap.size (.cells #[.int .i64 x.kind, .int .i64 x.spec.fn, .int .i64 x.spec.pc, .int .i64 x.spec.kind, .int .i64 x.spec.target, .slice A5 x.frames.length c5, .slice A6 x.recs.length c6] 168 (0, 0))] wz) (fun _ i _ => x.recs.length - (intOf i).toNat)
      case atStart => exact ⟨0, _, by omega, rfl, by rw [List.take_zero]; show St w [Res.own kSrc 269 _ (srcF x.frames ++ []) _, _] _; rw [List.append_nil]; exact hS⟩
      case round =>
        clear hS x9
        obtain ⟨k, F, hk, rfl, hS⟩ := hrel
        by_cases hlt2 : k < x.recs.length
        · obtain ⟨y, hy⟩ := get_exU x.recs k hlt2
          obtain ⟨ad, A2, c2, rfl, q0, _, r2⟩ := kExRec_at r6 k y hy
          have HT := Lib.hid (show srcF x.frames ++ srcR (x.recs.take (k + 1)) = (srcF x.frames ++ srcR (x.recs.take k)) ++ y.fields by rw [srcR_snoc hy, List.append_assoc])
          have HL1 := Lib.hid (show ((srcF x.frames ++ srcR (x.recs.take k)).length + y.fields.length ≤ 1048576) by
            have h1 := srcR_le x.recs (k + 1)
            rw [srcR_snoc hy, List.length_append] at h1
            rw [List.length_append]
            omega)
          clear hy
          have p0 := kept hS.bel q0
          rw [Nat.mul_one] at p0
          clear q0
          obtain ⟨g5, hg5⟩ : ∃ g5, wr.heap.size = g5 := ⟨_, rfl⟩
          have hT := (hS.madeAt (.cells #[.slice A2 y.fields.length c2] 174 (0, 0)) g5 hg5)
          go_wp2_with (at_builtin; refine Knd.wp_appAny kSrc srcKO rfl _ _ _ rfl 269 Tryz.underlying169 (.agg #[.int .i64 0, .int .i64 0, .int .i64 0, .int .i64 0, .string (⟨#[]⟩ : ByteArray)]) 48 infoSrc rfl (by decide) rfl (hT.own_ 1 rfl) (hT.nodup 1 rfl) A2 c2 (r2.below hT.bel) rfl (by have := HL1.out; unfold maxLen; omega) (by have := HL1.out; omega) ?_; rintro v5 w5 F5 hO hB hnd hFq; have hS6 := hT.upd (r' := Res.own kSrc 269 _ _ F5) 1 rfl hB hO hnd hFq; clear hO hB hnd hFq p0)
          go_roundw
          case rel => exact ⟨k + 1, _, by omega, by go_num, by rw [HT.out]; exact hS6.drop⟩
          case measure => simp [intOf]; omega
        · obtain rfl : k = x.recs.length := by omega
          rw [List.take_length] at hS
          go_wp2
          go_ret
          exact hS.outRow 0 rfl
set_option maxHeartbeats 1000000
set_option maxRecDepth 100000
set_option maxHeartbeats 1000000 in
theorem idxRx (A : Option Addr) (c : Nat) (l : List DExRec)  (p : DExRec → Bool) (w : World) (hr : (kExRec).Row w A l.length l) (hl : l.length ≤ 1048576) (hp : Asks Tryz.prog kExRec agg1 297 [] p w l) :
    Calls Tryz.prog 342 #[.slice A l.length c, .func (.func 297) #[] #[]] w (IsIdx p l w) := by
  go_enter Tryz.func342, Tryz.ntmps342
  go_wp2
  go_loopw [8] (fun i wr => ∃ k : Nat, k ≤ l.length ∧ i = .int .i64 k ∧ Hid (∀ j x, l[j]? = some x → j < k → p x = false) ∧ Below w.heap.size w wr) (fun i _ => l.length - (intOf i).toNat)
  case atStart => exact ⟨0, by omega, rfl, (fun j x _ h => by omega), Below.refl _ _⟩
  case round =>
    obtain ⟨k, hk, rfl, ho, hb⟩ := hrel
    by_cases hlt : k < l.length
    · obtain ⟨x, hx⟩ := get_exU l k hlt
      obtain ⟨ad, A0, c0, rfl, q0, hl0, hr0⟩ := kExRec_at (hr.below hb) k x hx; rw [Nat.mul_one] at q0; have C := hp x (List.mem_of_getElem? hx) wr hb [.slice A0 x.fields.length c0] (kExRec_K.2 ⟨A0, c0, rfl, hl0, hr0⟩); simp only [agg1] at C
      cases hq : p x
      · have HN := Lib.hid (not_step ho.out hx hq)
        rw [hq] at C
        clear hx hq
        go_wp2_with fail
        refine C.mono ?_
        rintro e w' ⟨rfl, hb2⟩
        go_wp2
        go_roundw
        case rel => exact ⟨k + 1, by omega, by go_num, HN, bl9⟩
        case measure => simp [intOf]; omega
      · have HE := Lib.hid (any_yes (p := p) hx hq)
        rw [hq] at C
        clear hx hq
        go_wp2_with fail
        refine C.mono ?_
        rintro e w' ⟨rfl, hb2⟩
        go_wp2
        go_ret
        exact ⟨_, rfl, by rw [HE.out]; simp, bl9⟩
    · obtain rfl : k = l.length := by omega
      have HE := Lib.hid (any_no (p := p) (fun j x h h2 => ho.out j x h h2))
      go_wp2
      go_ret
      exact ⟨_, rfl, by rw [HE.out]; simp, hb⟩
theorem hasRx (A : Option Addr) (c : Nat) (l : List DExRec)  (p : DExRec → Bool) (w : World) (hr : (kExRec).Row w A l.length l) (hl : l.length ≤ 1048576) (hp : Asks Tryz.prog kExRec agg1 297 [] p w l) :
    Calls Tryz.prog 296 #[.slice A l.length c, .func (.func 297) #[] #[]] w fun e w' => e = .returned (.bool (l.any p)) ∧ Below w.heap.size w w' := by
  go_enter Tryz.func296, Tryz.ntmps296
  go_wp2_with fail
  refine (idxRx A c l p _ hr hl hp).mono ?_
  rintro e w' ⟨r, rfl, he, hb⟩
  have HE := Lib.hid he
  clear he
  go_wp2
  go_ret
  exact ⟨ret_bool HE.out, bl9⟩
set_option maxHeartbeats 1000000 in
theorem idxSx (A : Option Addr) (c : Nat) (l : List DSrc) (p1 p2 p3 : Value) (p : DSrc → Bool) (w : World) (hr : (kSrc).Row w A l.length l) (hl : l.length ≤ 1048576) (hp : Asks Tryz.prog kSrc agg1 300 [p1, p2, p3] p w l) :
    Calls Tryz.prog 343 #[.slice A l.length c, .func (.func 300) #[] #[p1, p2, p3]] w (IsIdx p l w) := by
  go_enter Tryz.func343, Tryz.ntmps343
  go_wp2
  go_loopw [8] (fun i wr => ∃ k : Nat, k ≤ l.length ∧ i = .int .i64 k ∧ Hid (∀ j x, l[j]? = some x → j < k → p x = false) ∧ Below w.heap.size w wr) (fun i _ => l.length - (intOf i).toNat)
  case atStart => exact ⟨0, by omega, rfl, (fun j x _ h => by omega), Below.refl _ _⟩
  case round =>
    obtain ⟨k, hk, rfl, ho, hb⟩ := hrel
    by_cases hlt : k < l.length
    · obtain ⟨x, hx⟩ := get_exU l k hlt
      obtain ⟨ad, rfl, q0, q1, q2, q3, q4⟩ := kSrc_at (hr.below hb) k x hx; have C := hp x (List.mem_of_getElem? hx) wr hb [.int .i64 x.kind, .int .i64 x.n, .int .i64 x.v.k, .int .i64 x.v.n, .string x.v.s] (kSrc_K.2 rfl); simp only [agg1] at C
      cases hq : p x
      · have HN := Lib.hid (not_step ho.out hx hq)
        rw [hq] at C
        clear hx hq
        go_wp2_with fail
        refine C.mono ?_
        rintro e w' ⟨rfl, hb2⟩
        go_wp2
        go_roundw
        case rel => exact ⟨k + 1, by omega, by go_num, HN, bl9⟩
        case measure => simp [intOf]; omega
      · have HE := Lib.hid (any_yes (p := p) hx hq)
        rw [hq] at C
        clear hx hq
        go_wp2_with fail
        refine C.mono ?_
        rintro e w' ⟨rfl, hb2⟩
        go_wp2
        go_ret
        exact ⟨_, rfl, by rw [HE.out]; simp, bl9⟩
    · obtain rfl : k = l.length := by omega
      have HE := Lib.hid (any_no (p := p) (fun j x h h2 => ho.out j x h h2))
      go_wp2
      go_ret
      exact ⟨_, rfl, by rw [HE.out]; simp, hb⟩
theorem hasSx (A : Option Addr) (c : Nat) (l : List DSrc) (p1 p2 p3 : Value) (p : DSrc → Bool) (w : World) (hr : (kSrc).Row w A l.length l) (hl : l.length ≤ 1048576) (hp : Asks Tryz.prog kSrc agg1 300 [p1, p2, p3] p w l) :
    Calls Tryz.prog 298 #[.slice A l.length c, .func (.func 300) #[] #[p1, p2, p3]] w fun e w' => e = .returned (.bool (l.any p)) ∧ Below w.heap.size w w' := by
  go_enter Tryz.func298, Tryz.ntmps298
  go_wp2_with fail
  refine (idxSx A c l _ _ _ p _ hr hl hp).mono ?_
  rintro e w' ⟨r, rfl, he, hb⟩
  have HE := Lib.hid he
  clear he
  go_wp2
  go_ret
  exact ⟨ret_bool HE.out, bl9⟩
set_option maxHeartbeats 8000000 in
set_option maxRecDepth 100000 in
theorem recXCl (A : Option Addr) (c n : Nat) (w : World) (hn : n ≤ 1048576) : Calls Tryz.prog 297 #[.agg #[.slice A n c]] w fun e w' => e = .returned (.bool (decide (6 < n))) ∧ Below w.heap.size w w' := by
  by_cases h6 : 6 < n
  · have E := Lib.hid (decide_eq_true h6)
    go_enter Tryz.func297, Tryz.ntmps297
    go_wp2
    go_ret
    exact ⟨ret_bool (by rw [E.out]; simp; omega), bl9⟩
  · have E := Lib.hid (decide_eq_false h6)
    go_enter Tryz.func297, Tryz.ntmps297
    go_wp2
    go_ret
    exact ⟨ret_bool (by rw [E.out]; simp; omega), bl9⟩
set_option maxHeartbeats 8000000 in
set_option maxRecDepth 100000 in
theorem srcCl (A B A4 A5 A6 : Option Addr) (c0 d0 c4 c5 c6 : Nat) (t : List ByteArray) (l : List DFunc) (c : DFast) (nr g1 g2 g3 : Nat) (k n vk vn : Int) (vs : ByteArray) (W : World) (q10 : W.cell? ⟨g1, 0, none⟩ = some (.int .i64 c.fn)) (q11 : W.cell? ⟨g1, 1, none⟩ = some (.int .i64 c.entry)) (q12 : W.cell? ⟨g1, 2, none⟩ = some (.int .i64 c.vals)) (q13 : W.cell? ⟨g1, 3, none⟩ = some (.int .i64 c.nums)) (q14 : W.cell? ⟨g1, 4, none⟩ = some (.slice A4 c.ops.length c4)) (q15 : W.cell? ⟨g1, 5, none⟩ = some (.slice A5 c.exits.length c5)) (q20 : W.cell? ⟨g2, 0, none⟩ = some (.slice A t.length c0)) (q21 : W.cell? ⟨g2, 1, none⟩ = some (.slice B l.length d0)) (q36 : W.cell? ⟨g3, 6, none⟩ = some (.slice A6 nr c6)) (hl : l.length ≤ 12) (h1 : 0 ≤ c.vals) (h2 : c.vals ≤ 400) (h3 : 0 ≤ c.nums) (h4 : c.nums ≤ 400) (hr : nr ≤ 4194304) (hs : vs.size ≤ maxLen) :
    Calls Tryz.prog 300 #[.agg #[.int .i64 k, .int .i64 n, .int .i64 vk, .int .i64 vn, .string vs], (.pointer (some ⟨g1, 0, none⟩)), (.pointer (some ⟨g2, 0, none⟩)), (.pointer (some ⟨g3, 0, none⟩))] W fun e w' => e = .returned (.bool (!(srcB l.length c.vals c.nums nr ⟨k, n, ⟨vk, vn, vs⟩⟩))) ∧ Below W.heap.size W w' := by
  have hS := (St.start W).made (.cells #[.int .i64 k, .int .i64 n, .int .i64 vk, .int .i64 vn, .string vs] 269 (0, 0))
  have b10 := kept (bl_alloc (Below.refl _ _) (.cells #[.int .i64 k, .int .i64 n, .int .i64 vk, .int .i64 vn, .string vs] 269 (0, 0))) q10
  have b11 := kept (bl_alloc (Below.refl _ _) (.cells #[.int .i64 k, .int .i64 n, .int .i64 vk, .int .i64 vn, .string vs] 269 (0, 0))) q11
  have b12 := kept (bl_alloc (Below.refl _ _) (.cells #[.int .i64 k, .int .i64 n, .int .i64 vk, .int .i64 vn, .string vs] 269 (0, 0))) q12
  have b13 := kept (bl_alloc (Below.refl _ _) (.cells #[.int .i64 k, .int .i64 n, .int .i64 vk, .int .i64 vn, .string vs] 269 (0, 0))) q13
  have b14 := kept (bl_alloc (Below.refl _ _) (.cells #[.int .i64 k, .int .i64 n, .int .i64 vk, .int .i64 vn, .string vs] 269 (0, 0))) q14
  have b15 := kept (bl_alloc (Below.refl _ _) (.cells #[.int .i64 k, .int .i64 n, .int .i64 vk, .int .i64 vn, .string vs] 269 (0, 0))) q15
  have b20 := kept (bl_alloc (Below.refl _ _) (.cells #[.int .i64 k, .int .i64 n, .int .i64 vk, .int .i64 vn, .string vs] 269 (0, 0))) q20
  have b21 := kept (bl_alloc (Below.refl _ _) (.cells #[.int .i64 k, .int .i64 n, .int .i64 vk, .int .i64 vn, .string vs] 269 (0, 0))) q21
  have b36 := kept (bl_alloc (Below.refl _ _) (.cells #[.int .i64 k, .int .i64 n, .int .i64 vk, .int .i64 vn, .string vs] 269 (0, 0))) q36
  clear q10 q11 q12 q13 q14 q15 q20 q21 q36
  go_enter Tryz.func300, Tryz.ntmps300
  go_wp2_with fail
  refine (srcI A B A4 A5 c0 d0 c4 c5 t l c k n vk vn nr vs _ hl h1 h2 h3 h4 (by omega) (by omega) hs).mono ?_
  rintro e w' ⟨rfl, hb⟩
  have hz := hS.step hb
  go_wp2
  go_ret
  exact ⟨rfl, hz.bel⟩
def nilSpB (s : DSpec) : Bool := decide (s.fn = 0) && (decide (s.pc = 0) && (decide (s.kind = 0) && decide (s.target = 0)))
/-- The first frame's function, the kind and the lengths. -/
def exHeadB (c : DFast) (x : DExit) : Bool := btw x.kind 1 4 && (btw (x.frames.length : Int) 1 4 && (decide (x.recs.length ≤ 60) && (match x.frames[0]? with
  | none => false
  | some f => decide (f.fn = c.fn))))
def exSpecB (l : List DFunc) (x : DExit) : Bool := if x.kind = 2 then specB l x.spec else nilSpB x.spec
/-- The first k frames are ok; the last of all is at the top. -/
def exFrB (l : List DFunc) (fs : List DExFrame) (k : Nat) : Bool := (List.range k).all (fun i => match fs[i]? with
  | none => true
  | some f => frmB l f.fn f.pc f.locals.length f.stack.length (decide (i + 1 = fs.length)))
def exSrcB (l : List DFunc) (c : DFast) (x : DExit) : Bool := (srcsL x).all (srcB l.length c.vals c.nums x.recs.length)
def exitB (l : List DFunc) (c : DFast) (x : DExit) : Bool := exHeadB c x && (exSpecB l x && (exFrB l x.frames x.frames.length && (x.recs.all (fun r => decide (r.fields.length ≤ 6)) && exSrcB l c x)))
theorem exFrB_succ {l : List DFunc} {fs : List DExFrame} {k : Nat} {f : DExFrame} (h : fs[k]? = some f) : exFrB l fs (k + 1) = (exFrB l fs k && frmB l f.fn f.pc f.locals.length f.stack.length (decide (k + 1 = fs.length))) := by
  unfold exFrB
  rw [List.range_succ, List.all_append]
  simp [h]
theorem exFrB_no {l : List DFunc} {fs : List DExFrame} {k : Nat} {f : DExFrame} (h : fs[k]? = some f) (hf : frmB l f.fn f.pc f.locals.length f.stack.length (decide (k + 1 = fs.length)) = false) : exFrB l fs fs.length = false := by
  unfold exFrB
  rw [List.all_eq_false]
  exact ⟨k, List.mem_range.2 (List.getElem?_eq_some_iff.1 h).1, by simp [h, hf]⟩
end Go.Proofs.YthinhlcfpaaldaaGreat.Dat

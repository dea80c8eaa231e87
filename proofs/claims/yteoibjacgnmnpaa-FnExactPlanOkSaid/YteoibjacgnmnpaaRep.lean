/- slices.Repeat of one number, and what may follow an instruction. -/
import Derived.Test.YteoibjacgnmnpaaVerP
import Derived.Test.YteoibjacgnmnpaaSt
import Derived.Laws.CopyOwn
import Derived.Laws.BitsLemmas
import Derived.Deep.RegionLaw
namespace Go.Proofs.Yteoibjacgnmnpaa.Mem
open Go Go.RowKit
set_option linter.unusedVariables false
set_option linter.unusedSimpArgs false
/-- A block with an element after the other, and no more. -/
theorem Knd.own_blk {α : Type} {enc : α → Value} {h1 : ∀ x, (enc x).oneCell' = true} {e : Nat} {W : World} {g : Nat} (xs : List α) (hg : W.heap[g]? = some (.cells (xs.map enc).toArray e (0, 0))) (hm : xs.length ≤ maxLen) :
    Knd.Own (Knd.scalar enc h1) e W (.slice (some ⟨g, 0, none⟩) xs.length xs.length) xs [g] := by
  refine ⟨xs.map enc, List.replicate xs.length [], ⟨?_, .inr ⟨g, xs.length, (xs.map enc).toArray, rfl, Nat.zero_le _, hg, Nat.le_refl _, hm, ?_, ?_⟩⟩, ⟨?_, ?_, fun j p Fj hp hF => ?_⟩, ?_⟩
  · show _ = _ * 1
    simp
  · show _ = _ * 1
    simp
  · show List.take (_ * 1) _ = _
    rw [List.toList_toArray, List.take_of_length_le (by simp)]
  · show _ = _ * 1
    simp
  · simp
  · have hj : j < xs.length := (List.getElem?_eq_some_iff.1 hp).1
    have e1 : Fj = [] := by
      obtain ⟨_, h⟩ := List.getElem?_eq_some_iff.1 hF
      simpa using h.symm
    subst e1
    refine ⟨?_, rfl⟩
    show ((xs.map enc).drop (j * 1)).take 1 = [enc p]
    have e2 : xs[j] = p := (List.getElem?_eq_some_iff.1 hp).2
    rw [Nat.mul_one, List.drop_eq_getElem_cons (by simpa using hj)]
    simp [e2]
  · simp [Value.ownBlock]
theorem Knd.own_lit {α : Type} {enc : α → Value} {h1 : ∀ x, (enc x).oneCell' = true} (e : Nat) (W : World) (xs : List α) (hm : xs.length ≤ maxLen) :
    Knd.Own (Knd.scalar enc h1) e (W.alloc (.cells (xs.map enc).toArray e (0, 0))) (.slice (some ⟨W.heap.size, 0, none⟩) xs.length xs.length) xs [W.heap.size] := Knd.own_blk xs (blk_new W _) hm
/-- make([]T, n) of one cell an element, the block told. -/
theorem Knd.wp_makeB {P : Program} {ops : Array Oper} {rest : List Oper} {o : Oper} {a : Act} {Q : Exit → Act → World → Prop} {W : World} (hgd : o.guard = none) (t x y : _) (ho : o.op = .makeSlice t x y) (n : Nat) (hx : a.eval x = .int .i64 n) (hy : a.eval y = .int .i64 n)
    (e : Nat) (ht : P.underlying t = some (.slice e)) (z : Value) (bytes : Nat) (hinfo : (P.info? e).map (fun i => (i.zero, i.size, i.bytes)) = some (some z, 1, bytes)) (hz : z.cells = #[z]) (hb0 : 0 < bytes) (hl : n * bytes ≤ 281474976710656)
    (h : wpList P ops Q rest (a.put o.dst (.slice (some ⟨W.heap.size, 0, none⟩) n n)) (W.alloc (.cells (List.replicate n z).toArray e (0, 0)))) : wpList P ops Q (o :: rest) a W := by
  obtain ⟨i0, hi, hzz⟩ := Option.map_eq_some_iff.1 hinfo
  simp only [Prod.mk.injEq] at hzz
  obtain ⟨hz0, hz1, hz2⟩ := hzz
  have hm : n ≤ 281474976710656 := Nat.le_trans (Nat.le_mul_of_pos_right _ hb0) hl
  have hr := run_make (P := P) W t e i0 z ht hi hz0 .i64 .i64 (n : Int) (n : Int) (by omega) (by omega)
    (by
      have h3 : ((i0.bytes * n : Nat) : Int) ≤ 281474976710656 := by rw [hz2, Nat.mul_comm]; omega
      rwa [Int.natCast_mul] at h3) (by omega)
  simp only [Int.toNat_natCast] at hr
  have hc : madeCells z.cells (n * i0.size) = (List.replicate n z).toArray := by
    rw [hz1, hz, Nat.mul_one]
    apply Array.ext
    · simp [size_madeCells]
    · intro i h1 h2
      simp [madeCells, Nat.mod_one]
  rw [hc] at hr
  have hrun : (execOp a.eval o).run P W = .ok (.value (.slice (some ⟨W.heap.size, 0, none⟩) n n)) (W.alloc (.cells (List.replicate n z).toArray e)) := by simp [execOp, ho, hx, hy, hr]
  refine wpList_plain hgd fun K hK => ?_
  unfold Oper.wp
  rw [hrun]
  exact hK _ _ h
/-- A scalar's cell in a row. -/
theorem Knd.Row.one {α : Type} {enc : α → Value} {h1 : ∀ x, (enc x).oneCell' = true} {w : World} {A : Option Addr} {n : Nat} {xs : List α} (h : (Knd.scalar enc h1).Row w A n xs) (k : Nat) (x : α) (hx : xs[k]? = some x) : ∃ ad, A = some ad ∧ w.cell? (ad.add k) = some (enc x) := by
  obtain ⟨ad, cs, rfl, hK, q⟩ := h.get k x hx
  obtain rfl : cs = [enc x] := hK
  refine ⟨ad, rfl, ?_⟩
  have := q 0 _ rfl
  simpa [Knd.scalar] using this
end Go.Proofs.Yteoibjacgnmnpaa.Mem
namespace Go.Proofs.Yteoibjacgnmnpaa.Dat
open Go Go.RowKit Go.Proofs.Yteoibjacgnmnpaa.Mem
set_option linter.unusedVariables false
set_option linter.unusedSimpArgs false
theorem infoInt : (Try.prog.info? 3).map (fun i => (i.zero, i.size, i.bytes)) = some (some (.int .i64 0), 1, 8) := by kernel_rfl
theorem newNil {α : Type} (d : Knd α) (e : Nat) (w w' : World) (hb : Below w.heap.size w w') : NewRow d e [] w (.returned (.slice none 0 0)) w' := ⟨_, [], rfl, Knd.Own.nil _ _ _, List.nodup_nil, by simp, hb⟩
theorem newLit {α : Type} {enc : α → Value} {h1 : ∀ x, (enc x).oneCell' = true} (e : Nat) (w W : World) (xs : List α) (cs : Array Value) (hcs : cs = (xs.map enc).toArray) (g : Nat) (hg : W.heap.size = g) (n : Nat) (hn : n = xs.length) (hm : xs.length ≤ 1000) (hb : Below w.heap.size w W) : NewRow (Knd.scalar enc h1) e xs w (.returned (.slice (some ⟨g, 0, none⟩) n n)) (W.alloc (.cells cs e (0, 0))) := by
  subst hn hcs hg
  refine ⟨_, [W.heap.size], rfl, Knd.own_lit e W xs (by unfold maxLen; omega), by simp, by simp [hb.size], bl_alloc hb _⟩
theorem nexts_25 (x : DIns) (pc : Nat) (h : x.op = 25) : nexts x pc = [] := by simp [nexts, h]
theorem nexts_17 (x : DIns) (pc : Nat) (h : x.op = 17) : nexts x pc = [x.a] := by simp [nexts, h]
theorem nexts_18 (x : DIns) (pc : Nat) (h : x.op = 18 ∨ x.op = 19) : nexts x pc = [(pc : Int) + 1, x.a] := by rcases h with h | h <;> simp [nexts, h]
theorem nexts_o (x : DIns) (pc : Nat) (h : x.op ≠ 25 ∧ x.op ≠ 17 ∧ x.op ≠ 18 ∧ x.op ≠ 19) : nexts x pc = [(pc : Int) + 1] := by simp [nexts, h]
set_option maxHeartbeats 1000000 in
theorem followsI (x : DIns) (pc : Nat) (w : World) (hp : pc ≤ 1048576) : Calls Try.prog 157 #[.agg #[.int .i64 x.op, .int .i64 x.a], .int .i64 pc] w (NewRow (Knd.int .i64) 3 (nexts x pc) w) := by
  obtain ⟨op, a⟩ := x
  by_cases h1 : op = 25
  · subst h1
    rw [nexts_25 _ _ rfl]
    go_enter Try.func157, Try.ntmps157
    go_wp2
    go_ret
    refine newNil _ _ _ _ ?_
    exact (by repeat (first | exact Below.refl _ _ | assumption | (refine bl_set ?_ (by dsimp only; omega) _) | refine bl_alloc ?_ _ | refine bl_drewN ?_ _ | refine bl_drew ?_ | refine bl_step ?_ (by assumption)))
  by_cases h2 : op = 17
  · subst h2
    rw [nexts_17 _ _ rfl]
    go_enter Try.func157, Try.ntmps157
    go_wp2
    go_ret
    refine newLit (enc := Value.int .i64) (h1 := fun _ => rfl) 3 w _ [a] _ rfl (w.heap.size + 1) (by simp) _ rfl (by simp) ?_
    exact (by repeat (first | exact Below.refl _ _ | assumption | (refine bl_set ?_ (by dsimp only; omega) _) | refine bl_alloc ?_ _ | refine bl_drewN ?_ _ | refine bl_drew ?_ | refine bl_step ?_ (by assumption)))
  by_cases h3 : op = 18
  · subst h3
    rw [nexts_18 _ _ (.inl rfl)]
    go_enter Try.func157, Try.ntmps157
    go_wp2
    go_ret
    refine newLit (enc := Value.int .i64) (h1 := fun _ => rfl) 3 w _ [(pc : Int) + 1, a] _ rfl (w.heap.size + 1) (by simp) _ rfl (by simp) ?_
    exact (by repeat (first | exact Below.refl _ _ | assumption | (refine bl_set ?_ (by dsimp only; omega) _) | refine bl_alloc ?_ _ | refine bl_drewN ?_ _ | refine bl_drew ?_ | refine bl_step ?_ (by assumption)))
  by_cases h4 : op = 19
  · subst h4
    rw [nexts_18 _ _ (.inr rfl)]
    go_enter Try.func157, Try.ntmps157
    go_wp2
    go_ret
    refine newLit (enc := Value.int .i64) (h1 := fun _ => rfl) 3 w _ [(pc : Int) + 1, a] _ rfl (w.heap.size + 1) (by simp) _ rfl (by simp) ?_
    exact (by repeat (first | exact Below.refl _ _ | assumption | (refine bl_set ?_ (by dsimp only; omega) _) | refine bl_alloc ?_ _ | refine bl_drewN ?_ _ | refine bl_drew ?_ | refine bl_step ?_ (by assumption)))
  rw [nexts_o _ _ ⟨h1, h2, h3, h4⟩]
  go_enter Try.func157, Try.ntmps157
  go_wp2
  go_ret
  refine newLit (enc := Value.int .i64) (h1 := fun _ => rfl) 3 w _ [(pc : Int) + 1] _ rfl (w.heap.size + 1) (by simp) _ rfl (by simp) ?_
  exact (by repeat (first | exact Below.refl _ _ | assumption | (refine bl_set ?_ (by dsimp only; omega) _) | refine bl_alloc ?_ _ | refine bl_drewN ?_ _ | refine bl_drew ?_ | refine bl_step ?_ (by assumption)))
theorem wraps64 (n : Int) (h₀ : 0 ≤ n) (h₁ : n < 2 ^ 64) : IntKind.u64.wrap n = n := by rw [IntKind.wrap_u64]; omega
set_option maxHeartbeats 1000000 in
theorem mul64 (n : Int) (w : World) (h0 : 0 ≤ n) (h1 : n ≤ 1000000) : Calls Try.prog 193 #[.int .u64 1, .int .u64 n] w fun e w' => e = .returned (.tuple #[.int .u64 0, .int .u64 n]) ∧ w = w' := by
  obtain ⟨m, rfl⟩ : ∃ m : Nat, n = m := ⟨n.toNat, by omega⟩
  have e1 : bits .and .u64 1 4294967295 = 1 := by decide +kernel
  have e2 : bits .and .u64 (m : Int) 4294967295 = m := (bits_mask .u64 64 (by decide) wraps64 32 (by decide) _ (by omega) (by omega)).trans (by omega)
  have e3 : bits .and .u64 0 4294967295 = 0 := by decide +kernel
  have e4 : (m : Int) / 4294967296 = 0 := by omega
  have e5 : IntKind.u64.wrap (m : Int) = m := wraps64 _ (by omega) (by omega)
  go_enter Try.func193, Try.ntmps193
  go_wp2
  go_ret2
  exact ⟨rfl, rfl⟩
theorem bmul (n : Int) (w : World) (h0 : 0 ≤ n) (h1 : n ≤ 1000000) : Calls Try.prog 183 #[.int .u64 1, .int .u64 n] w fun e w' => e = .returned (.tuple #[.int .u64 0, .int .u64 n]) ∧ w = w' := by
  go_enter Try.func183, Try.ntmps183
  go_wp2_with fail
  refine (mul64 n _ h0 h1).mono ?_
  rintro e w' ⟨rfl, rfl⟩
  go_wp2
  go_ret2
  exact ⟨rfl, rfl⟩
set_option maxHeartbeats 1000000 in
theorem one_src {W : World} {b : Nat} {u : Value} (hy : W.cell? ⟨b, 0, none⟩ = some u) : ∀ (j : Nat) (v : Value), [u][j]? = some v → W.cell? ⟨b, j, none⟩ = some v := by
  intro j v h
  have hj : j = 0 := by
    have := (List.getElem?_eq_some_iff.1 h).1
    simp at this
    exact this
  subst hj
  have e : u = v := by simpa using h
  subst e
  exact hy
theorem rep_src {W : World} {g q m n : Nat} {y : Int} (h : W.heap[g]? = some (.cells ((List.replicate m (Value.int .i64 y) ++ List.replicate (n - m) (Value.int .i64 0))).toArray 3 (0, 0))) (hq : q ≤ m) : ∀ (j : Nat) (v : Value), (List.replicate q (Value.int .i64 y))[j]? = some v → W.drew.cell? ((⟨g, 0, none⟩ : Addr).add j) = some v := by
  intro j v hv
  obtain ⟨hj, e⟩ := List.getElem?_eq_some_iff.1 hv
  have hj' : j < q := by simpa using hj
  rw [List.getElem_replicate] at e
  subst e
  have e2 : (⟨g, 0, none⟩ : Addr).add j = ⟨g, j, none⟩ := by unfold Addr.add; split <;> simp_all
  rw [e2]
  show W.cell? ⟨g, j, none⟩ = _
  rw [blk_cell h j, List.getElem?_toArray, List.getElem?_append_left (by simp; omega), List.getElem?_replicate, if_pos (by omega)]
theorem rep_splice {m q n : Nat} {y : Int} (h0 : 0 < q) (hm : m + q ≤ n) : (splice (List.replicate m (Value.int .i64 y) ++ List.replicate (n - m) (Value.int .i64 0)) m (List.replicate q (Value.int .i64 y))) = List.replicate (m + q) (Value.int .i64 y) ++ List.replicate (n - (m + q)) (Value.int .i64 0) := by
  unfold splice
  rw [List.take_left' (by simp), List.length_replicate, List.drop_append, List.drop_replicate, List.drop_replicate, List.length_replicate]
  rw [show m - (m + q) = 0 by omega, show n - m - (m + q - m) = n - (m + q) by omega, List.replicate_zero, List.nil_append, ← List.append_assoc, List.replicate_append_replicate]
set_option maxHeartbeats 800000 in
set_option maxRecDepth 100000 in
theorem repeat1 (b : Nat) (y : Int) (n : Nat) (w : World) (hy : w.cell? ⟨b, 0, none⟩ = some (.int .i64 y)) (h0 : 0 < n) (h1 : n ≤ 1000000) : Calls Try.prog 155 #[.slice (some ⟨b, 0, none⟩) 1 1, .int .i64 n] w (NewRow (Knd.int .i64) 3 (List.replicate n y) w) := by
  obtain ⟨N, hN⟩ : ∃ N : Int, N = n := ⟨_, rfl⟩
  rw [← hN]
  have HN := Lib.hid hN
  have n0 : 0 < N := by omega
  have n1 : N ≤ 1000000 := by omega
  clear hN
  go_enter Try.func155, Try.ntmps155
  go_wp2_with fail
  refine (bmul N _ (by omega) (by omega)).mono ?_
  rintro e w' ⟨rfl, rfl⟩
  go_wp2_with (first | (refine Knd.wp_makeB rfl _ _ _ rfl n (congrArg (Value.int .i64) HN.out) (congrArg (Value.int .i64) HN.out) 3 Try.underlying124 (.int .i64 0) 8 infoInt rfl (by decide) (by omega) ?_) | (refine wpList_copy_splice rfl (.tmp 31) (.tmp 32) 124 124 rfl 3 Try.underlying124 (by kernel_rfl) _ _ _ _ _ _ rfl rfl w.heap.size 0 (List.replicate n (.int .i64 0)) 3 ?_ [.int .i64 y] ?_ ?_ ?_ ?_ w.heap.size w ?_ ?_ ?_))
  · exact (blk_new w (.cells (Array.replicate n (.int .i64 0)) 3 (0, 0))).trans (by simp)
  · show 1 = Nat.min 1 n
    exact (Nat.min_eq_left h0).symm
  · exact one_src (cell_below (bl_alloc (Below.refl _ _) _) (World.block_lt_of_cell? w _ hy) hy)
  · simp; omega
  · simp [Value.oneCell']
  · exact (by repeat (first | exact Below.refl _ _ | assumption | (refine bl_set ?_ (by dsimp only; omega) _) | refine bl_alloc ?_ _ | refine bl_drewN ?_ _ | refine bl_drew ?_ | refine bl_step ?_ (by assumption)))
  · exact Nat.le_refl _
  intro w2 hW hb
  go_wp2
  have hW2 : w2.heap[w.heap.size]? = some (.cells ((List.replicate 1 (Value.int .i64 y) ++ List.replicate (n - 1) (Value.int .i64 0))).toArray 3 (0, 0)) := by
    rw [hW.out]
    simp [splice]
  clear hW
  go_loopw [8] (fun i wr => ∃ m : Nat, 1 ≤ m ∧ m ≤ n ∧ i = .int .i64 m ∧ Hid (wr.heap[w.heap.size]? = some (.cells ((List.replicate m (Value.int .i64 y) ++ List.replicate (n - m) (Value.int .i64 0))).toArray 3 (0, 0))) ∧ Below w.heap.size w wr) (fun i _ => n - (intOf i).toNat)
  case atStart => exact ⟨1, by omega, by omega, rfl, hW2, hb⟩
  case round =>
    clear hW2 hb
    obtain ⟨m, hm1, hm2, rfl, hW, hb⟩ := hrel
    by_cases hlt : m < n
    · obtain ⟨q, hq⟩ : ∃ q, q = Nat.min m (n - m) := ⟨_, rfl⟩
      have q0 : 0 < q := by rw [hq]; exact Nat.lt_min.2 ⟨hm1, by omega⟩
      have q1 : q ≤ n - m := by rw [hq]; exact Nat.min_le_right _ _
      have q2 : q ≤ m := by rw [hq]; exact Nat.min_le_left _ _
      have H1 := Lib.hid (show (List.replicate q (Value.int .i64 y)).length = Nat.min m (n - m) by simp [hq])
      have H2 := Lib.hid (rep_src (W := wr) (g := w.heap.size) (q := q) (m := m) (n := n) (y := y) hW.out q2)
      have H3 := Lib.hid (show m + (List.replicate q (Value.int .i64 y)).length ≤ (List.replicate m (Value.int .i64 y) ++ List.replicate (n - m) (Value.int .i64 0)).length by simp; omega)
      have H4 := Lib.hid (show ∀ v ∈ List.replicate q (Value.int .i64 y), v.oneCell' = true by intro v hv; rw [(List.mem_replicate.1 hv).2]; rfl)
      have H5 := Lib.hid (rep_splice (y := y) q0 (show m + q ≤ n by omega))
      have H6 : IntKind.i64.wrap ((m : Int) + (q : Int)) = ((m + q : Nat) : Int) := by rw [IntKind.wrap_i64]; omega
      have hlt2 : (m : Int) < n := by omega
      have hne1 : ¬ n = m := by omega
      have hne2 : ¬ m = n := by omega
      have hne3 : ¬ n - m = 0 := by omega
      clear hq
      go_wp2
      go_region_law ((refine step_copy_splice (o := ⟨some 45, _, _, _, _, _⟩) rfl (.tmp 41) (.tmp 44) 124 124 rfl 3 Try.underlying124 (by kernel_rfl) (some ⟨w.heap.size, m, none⟩) (some ⟨w.heap.size, 0, none⟩) (n - m) (n - m) m n (by go_simp) (by go_simp) w.heap.size m (List.replicate m (Value.int .i64 y) ++ List.replicate (n - m) (Value.int .i64 0)) 3 (by exact hW.out) (List.replicate q (Value.int .i64 y)) H1.out (fun _ => ⟨rfl, _, rfl, H2.out⟩) H3.out H4.out w.heap.size w (by exact bl_drew hb) (Nat.le_refl _) ?_; intro w3 hW3 hb3))
      clear hne1 hne2 hne3
      go_wp2
      clear H6
      refine ⟨?_, ?_⟩
      · (repeat apply Exists.intro)
        refine ⟨?_, rfl⟩
        refine ⟨m + q, by omega, by omega, by go_num, Lib.hid ?_, hb3⟩
        rw [← H5.out]
        exact hW3.out
      · show n - (intOf (.int .i64 ((m : Int) + q))).toNat < n - (intOf (.int .i64 (m : Int))).toNat
        simp [intOf]
        omega
    · obtain rfl : m = n := by omega
      go_wp2
      go_ret
      refine ⟨_, [w.heap.size], rfl, ?_, by simp, by simp, hb⟩
      have h5 := Knd.own_blk (enc := Value.int .i64) (h1 := fun _ => rfl) (e := 3) (W := wr) (g := w.heap.size) (List.replicate m y) (by rw [hW.out]; simp) (by simp [maxLen]; omega)
      simp only [List.length_replicate] at h5
      exact h5
end Go.Proofs.Yteoibjacgnmnpaa.Dat

/- A sorted row of guesses made one of each, in place: slices.Compact. -/
import Derived.Test.YthinhlcfpaaldaaGreatSoS
import Derived.Test.YthinhlcfpaaldaaGreatTn
namespace Go.Proofs.YthinhlcfpaaldaaGreat.Dat
open Go Go.RowKit Go.Proofs.YthinhlcfpaaldaaGreat.Mem
set_option linter.unusedVariables false
set_option linter.unusedSimpArgs false
theorem spec_F {e : Nat} {W : World} {g n c : Nat} {xs : List DSpec} {F : List Nat} (h : kSpec.Own e W (.slice (some ⟨g, 0, none⟩) n c) xs F) : F = [g] := by
  obtain ⟨inner, Fs, ho, hr, rfl⟩ := h
  have : Fs.flatten = [] := by
    rw [List.flatten_eq_nil_iff]
    intro Fj hFj
    obtain ⟨j, hj⟩ := List.mem_iff_getElem?.1 hFj
    have hl : j < xs.length := by rw [← hr.2.1]; exact (List.getElem?_eq_some_iff.1 hj).1
    exact (kSpec_Oi.1 (hr.2.2 j _ Fj (List.getElem?_eq_getElem hl) hj)).2
  rw [this]
  rfl
def spCs (x : DSpec) : List Value := [.int .i64 x.fn, .int .i64 x.pc, .int .i64 x.kind, .int .i64 x.target]
end Go.Proofs.YthinhlcfpaaldaaGreat.Dat
namespace Go.Proofs.YthinhlcfpaaldaaGreat.Mem
open Go Go.RowKit Go.Proofs.YthinhlcfpaaldaaGreat.Dat Go.Sort
/-- One guess written anew. -/
theorem Tn.putS {w0 W W' : World} {r : Res} {L : List Res} {e g n c : Nat} {xs : List DSpec} {F : List Nat} (h : Tn w0 W r (Res.own kSpec e (.slice (some ⟨g, 0, none⟩) n c) xs F) L W') (k : Nat) (hk : k < xs.length) (x : DSpec) :
    Tn w0 W r (Res.own kSpec e (.slice (some ⟨g, 0, none⟩) n c) (xs.set k x) F) L (Mem.setCells g W' (k * 4) (spCs x)) := by
  have hO : kSpec.Own e W' (.slice (some ⟨g, 0, none⟩) n c) xs F := h.st.get 0 rfl
  have hF := spec_F hO
  subst hF
  obtain ⟨Fs, hF, hfl⟩ := hO.fs
  have hn : g ∉ Fs.flatten := by
    have e1 : [g] = g :: Fs.flatten := hfl
    have e2 : Fs.flatten = [] := (List.cons.inj e1).2.symm
    rw [e2]
    simp
  have h1 := (hF.put k hk (spCs x) x [] (kSpec_Oi.2 ⟨rfl, rfl⟩) (by simp) hn).own
  have h2 := spec_F h1
  rw [h2] at h1
  exact h.self (r'' := Res.own kSpec e (.slice (some ⟨g, 0, none⟩) n c) (xs.set k x) [g]) (setCells_but (.inl (by simp [Res.own])) _ _ _ (But.refl _ _)) h1 (by simp [Res.own]) (fun q hq => .inl hq)
theorem Tn.cellS {w0 W W' : World} {r : Res} {L : List Res} {e g n c : Nat} {xs : List DSpec} {F : List Nat} (h : Tn w0 W r (Res.own kSpec e (.slice (some ⟨g, 0, none⟩) n c) xs F) L W') (k : Nat) (x : DSpec) (hx : xs[k]? = some x) :
    W'.cell? ⟨g, k * 4, none⟩ = some (.int .i64 x.fn) ∧ W'.cell? ⟨g, k * 4 + 1, none⟩ = some (.int .i64 x.pc) ∧ W'.cell? ⟨g, k * 4 + 2, none⟩ = some (.int .i64 x.kind) ∧ W'.cell? ⟨g, k * 4 + 3, none⟩ = some (.int .i64 x.target) := by
  have hO : kSpec.Own e W' (.slice (some ⟨g, 0, none⟩) n c) xs F := h.st.get 0 rfl
  obtain ⟨A, c', hv, _, hr⟩ := hO.row
  cases hv
  obtain ⟨ad, q0, q1, q2, q3, q4⟩ := kSpec_at hr k x hx
  cases q0
  have hadd : ∀ k, (⟨g, 0, none⟩ : Addr).add k = ⟨g, k, none⟩ := fun k => by
    unfold Addr.add
    split
    · next h0 => rw [h0]
    · simp
  rw [hadd] at q1 q2 q3 q4
  exact ⟨q1, q2, q3, q4⟩
theorem Tn.freeS {w0 W W' : World} {r : Res} {L : List Res} {e g n c : Nat} {xs : List DSpec} {F : List Nat} (h : Tn w0 W r (Res.own kSpec e (.slice (some ⟨g, 0, none⟩) n c) xs F) L W') (k : Nat) : W'.frozen? ⟨g, k, none⟩ = false := by
  have hO : kSpec.Own e W' (.slice (some ⟨g, 0, none⟩) n c) xs F := h.st.get 0 rfl
  obtain ⟨Fs, hF, _⟩ := hO.fs
  exact hF.free k
end Go.Proofs.YthinhlcfpaaldaaGreat.Mem
namespace Go.Proofs.YthinhlcfpaaldaaGreat.Dat
open Go Go.RowKit Go.Proofs.YthinhlcfpaaldaaGreat.Mem Go.Sort
theorem set_eqCells (g : Nat) : ∀ (vs : List Value) (o : Nat) (w : World), w.setCells g o vs = Mem.setCells g w o vs
  | [], _, _ => rfl
  | v :: r, o, w => by
    rw [World.setCells, Mem.setCells, set_eqCells g r]
end Go.Proofs.YthinhlcfpaaldaaGreat.Dat
namespace Go.Proofs.YthinhlcfpaaldaaGreat.Mem
open Go Go.RowKit Go.Proofs.YthinhlcfpaaldaaGreat.Dat Go.Sort
/-- The end of the row cleared, the row cut: what is ahead of it stays. -/
theorem Tn.cutS {w0 W W' : World} {r : Res} {L : List Res} {e g n c : Nat} {xs : List DSpec} {F : List Nat} (h : Tn w0 W r (Res.own kSpec e (.slice (some ⟨g, 0, none⟩) n c) xs F) L W') (k : Nat) (hk : k ≤ xs.length) (zs : List Value) (hz : zs.length = (xs.length - k) * 4) :
    Tn w0 W r (Res.own kSpec e (.slice (some ⟨g, 0, none⟩) k c) (xs.take k) F) L (W'.setCells g (k * 4) zs) := by
  have hO : kSpec.Own e W' (.slice (some ⟨g, 0, none⟩) n c) xs F := h.st.get 0 rfl
  have hF := spec_F hO
  subst hF
  obtain ⟨inner, Fs, ho, hr, hfl⟩ := hO
  rcases ho.2 with ⟨h0, _⟩ | ⟨g', cap, cur, hv, hg0, hh, hnc, hcm, hcs, ht⟩
  · cases h0
  cases hv
  rw [set_eqCells]
  have hin : inner.length = xs.length * 4 := ho.1
  have hle : k * 4 + zs.length ≤ c * 4 := by
    rw [hz]
    omega
  have hcs4 : cur.size = c * 4 := hcs
  obtain ⟨cur2, hc2, hs2, ht2⟩ : ∃ cur2 : Array Value, (Mem.setCells g W' (k * 4) zs).heap[g]? = some (.cells cur2 e (0, 0)) ∧ cur2.size = cur.size ∧ cur2.toList.take (k * 4) = cur.toList.take (k * 4) := by
    clear ht hz hin hle
    have key : ∀ (us : List Value) (w : World) (o : Nat) (cu : Array Value), k * 4 ≤ o → w.heap[g]? = some (.cells cu e (0, 0)) → ∃ cur2 : Array Value, (Mem.setCells g w o us).heap[g]? = some (.cells cur2 e (0, 0)) ∧ cur2.size = cu.size ∧ cur2.toList.take (k * 4) = cu.toList.take (k * 4) := by
      intro us
      induction us with
      | nil => intro w o cu _ hw; exact ⟨cu, hw, rfl, rfl⟩
      | cons u us ih =>
        intro w o cu ho hw
        obtain ⟨c2, h1, h2, h3⟩ := ih (w.setCell ⟨g, o, none⟩ u) (o + 1) (cu.setIfInBounds o u) (by omega) (blk_set hw o u)
        refine ⟨c2, h1, by simpa using h2, ?_⟩
        rw [h3, Array.toList_setIfInBounds, List.take_set_of_le ho]
    exact key zs W' (k * 4) cur (Nat.le_refl _) hh
  have hown : kSpec.Own e (Mem.setCells g W' (k * 4) zs) (.slice (some ⟨g, 0, none⟩) k c) (xs.take k) [g] := by
    have hFs : (Fs.take k).flatten = [] := by
      rw [List.flatten_eq_nil_iff]
      intro Fj hFj
      obtain ⟨j, hj⟩ := List.mem_iff_getElem?.1 (List.mem_of_mem_take hFj)
      have hl : j < xs.length := by rw [← hr.2.1]; exact (List.getElem?_eq_some_iff.1 hj).1
      exact (kSpec_Oi.1 (hr.2.2 j _ Fj (List.getElem?_eq_getElem hl) hj)).2
    have hlk : (xs.take k).length = k := by rw [List.length_take]; omega
    refine ⟨inner.take (k * 4), Fs.take k, ⟨?_, .inr ⟨g, c, cur2, ?_, Nat.zero_le _, hc2, by omega, hcm, by rw [hs2]; exact hcs, ?_⟩⟩, ⟨?_, ?_, fun j p Fj hp hF => ?_⟩, by rw [hFs]; rfl⟩
    · show _ = _ * 4
      rw [List.length_take, hin, hlk]
      omega
    · rw [hlk]
    · rw [hlk]
      show cur2.toList.take (k * 4) = _
      rw [ht2, ← ht, List.take_take]
      congr 1
      show _ = min (k * 4) (xs.length * 4)
      omega
    · show _ = _ * 4
      rw [List.length_take, hin, hlk]
      omega
    · rw [List.length_take, hlk, hr.2.1]
      omega
    · have hjk : j < k := by have := (List.getElem?_eq_some_iff.1 hp).1; omega
      rw [List.getElem?_take_of_lt hjk] at hp hF
      have h9 := hr.2.2 j p Fj hp hF
      obtain ⟨h10, h11⟩ := kSpec_Oi.1 h9
      refine kSpec_Oi.2 ⟨?_, h11⟩
      rw [← h10]
      show ((inner.take (k * 4)).drop (j * 4)).take 4 = (inner.drop (j * 4)).take 4
      rw [List.drop_take, List.take_take]
      congr 1
      omega
  exact h.self (r'' := Res.own kSpec e (.slice (some ⟨g, 0, none⟩) k c) (xs.take k) [g]) (setCells_but (.inl (by simp [Res.own])) _ _ _ (But.refl _ _)) hown (by simp [Res.own]) (fun q hq => .inl hq)
end Go.Proofs.YthinhlcfpaaldaaGreat.Mem
namespace Go.Proofs.YthinhlcfpaaldaaGreat.Dat
open Go Go.RowKit Go.Proofs.YthinhlcfpaaldaaGreat.Mem Go.Sort
/-- clear of a row's end. -/
theorem run_clearS {P : Program} (w : World) (t e : TypeId) (z : Value) (ht : P.underlying t = some (.slice e)) (hv : ∀ w, (zeroValue e).run P w = .ok z w) (hz : z.cells.size = 4) (h1 : ∀ u ∈ z.cells.toList, u.oneCell' = true) (b o n c : Nat) (hn : 0 < n)
    (hc : ∀ j, j < n * 4 → (w.cell? ⟨b, o + j, none⟩).isSome = true) (hf : ∀ j, j < n * 4 → w.frozen? ⟨b, o + j, none⟩ = false) :
    ∃ zs : List Value, zs.length = n * 4 ∧ ∀ ty, (Builtin.clear_ #[t] ty #[.slice (some ⟨b, o, none⟩) n c]).run P w = .ok (.tuple #[]) (w.setCells b o zs) := by
  have hl : (Builtin.zeroCells z.cells n).toList.length = n * 4 := by simp [Builtin.zeroCells, hz]
  have hst := run_storeCells_cells (P := P) b o (Builtin.zeroCells z.cells n).toList 0 w (by rw [hl]; simpa using hc) (by rw [hl]; simpa using hf) (by
    intro v hv'
    simp only [Builtin.zeroCells, Array.toList_map, List.mem_map] at hv'
    obtain ⟨i, _, rfl⟩ := hv'
    refine h1 _ ?_
    rw [hz, getElem!_pos z.cells (i % 4) (by omega)]
    simp)
  simp only [Nat.add_zero] at hst
  obtain ⟨m, rfl⟩ : ∃ m, n = m + 1 := ⟨n - 1, by omega⟩
  exact ⟨_, hl, fun ty => by simp [Builtin.clear_, run_underlying ht, hv, hst]⟩
theorem spec_ne {x y : DSpec} (h : x ≠ y) : ¬ x.fn = y.fn ∨ (x.fn = y.fn ∧ ¬ x.pc = y.pc) ∨ (x.fn = y.fn ∧ x.pc = y.pc ∧ ¬ x.kind = y.kind) ∨ (x.fn = y.fn ∧ x.pc = y.pc ∧ x.kind = y.kind ∧ ¬ x.target = y.target) := by
  obtain ⟨a1, a2, a3, a4⟩ := x
  obtain ⟨b1, b2, b3, b4⟩ := y
  simp only [ne_eq, DSpec.mk.injEq] at h ⊢
  omega
theorem zeroSpec (w : World) : (zeroValue 110).run Tryz.prog w = .ok (.agg #[.int .i64 0, .int .i64 0, .int .i64 0, .int .i64 0]) w := by
  obtain ⟨i0, hi, hz0, -, -⟩ := info_parts infoSpec
  simp [zeroValue, typeInfo, hi, hz0]
set_option maxHeartbeats 8000000 in
set_option maxRecDepth 100000 in
theorem compactS {w0 W : World} {L : List Res} {g c : Nat} {zs : List DSpec} {F : List Nat} (hS : St w0 (Res.own kSpec 110 (.slice (some ⟨g, 0, none⟩) zs.length c) zs F :: L) W) (hn : zs.length ≤ 1048576) (hc : zs.length ≤ c) :
    Calls Tryz.prog 136 #[.slice (some ⟨g, 0, none⟩) zs.length c] W fun e W' => e = .returned (.slice (some ⟨g, 0, none⟩) (ded zs).length c) ∧ Tn w0 W (Res.own kSpec 110 (.slice (some ⟨g, 0, none⟩) zs.length c) zs F) (Res.own kSpec 110 (.slice (some ⟨g, 0, none⟩) (ded zs).length c) (ded zs) F) [] W' := by
  have T0 := Tn.of hS 0 rfl
  by_cases h2 : zs.length < 2
  · have e : ded zs = zs := by
      match zs, h2 with
      | [], _ => rfl
      | [a], _ => simp [ded, dedS]
    rw [e]
    have h2' : (zs.length : Int) < 2 := by omega
    go_enter Tryz.func136, Tryz.ntmps136
    go_wp2
    go_ret
    exact ⟨rfl, T0⟩
  have h2' : ¬ (zs.length : Int) < 2 := by omega
  obtain ⟨n, hnl⟩ : ∃ n, zs.length = n := ⟨_, rfl⟩
  have HNL := Lib.hid hnl
  rw [hnl] at T0 hS h2 h2' hn hc ⊢
  clear hnl
  go_enter Tryz.func136, Tryz.ntmps136
  go_wp2
  go_loopw [3] (fun i wr => ∃ m : Nat, m + 1 ≤ n ∧ i = .int .i64 (m + 1 : Nat) ∧ Hid (ded (zs.take (m + 1)) = zs.take (m + 1)) ∧ Tn w0 W (Res.own kSpec 110 (.slice (some ⟨g, 0, none⟩) n c) zs F) (Res.own kSpec 110 (.slice (some ⟨g, 0, none⟩) n c) zs F) [] wr) (fun i _ => n - (intOf i).toNat)
  case atStart =>
    obtain ⟨x0, hx0⟩ := get_exU zs 0 (by rw [HNL.out]; omega)
    exact ⟨0, by omega, rfl, Lib.hid (ded_one hx0), T0⟩
  case round =>
    clear T0
    obtain ⟨m, hm, rfl, hd, hT⟩ := hrel
    by_cases hlt : m + 1 < n
    rotate_left
    · obtain rfl : m + 1 = n := by omega
      have e : ded zs = zs := by
        have := hd.out
        rwa [← HNL.out, List.take_length] at this
      have E := Lib.hid (show (ded zs).length = m + 1 by rw [e, HNL.out])
      have E2 := Lib.hid e
      go_wp2
      go_ret
      exact ⟨by rw [E.out]; rfl, by rw [E.out, E2.out]; exact hT⟩
    obtain ⟨x, hx⟩ := get_exU zs (m + 1) (by rw [HNL.out]; omega)
    obtain ⟨y, hy⟩ := get_exU zs m (by rw [HNL.out]; omega)
    have hTd := hT.drew
    obtain ⟨k, hkm⟩ : ∃ k, m + 1 = k := ⟨_, rfl⟩
    have HKM := Lib.hid hkm
    rw [hkm] at hlt hm hx hd ⊢
    have qx := hTd.cellS k x hx
    have qy := hTd.cellS m y hy
    have j0 : (0 : Int) ≤ (m : Int) := by omega
    have j1 : (m : Int) < (n : Int) := by omega
    have e1 : (k : Int) - 1 = (m : Int) := by omega
    have e4 : IntKind.i64.wrap (m : Int) = (m : Int) := IntWalk.i64_in _ (by omega)
    by_cases hxy : x = y
    rotate_left
    · have hne := spec_ne hxy
      have HN := Lib.hid (show ded (zs.take (k + 1)) = zs.take (k + 1) by
        have h9 := ded_other hy (hkm ▸ hx) hxy
        rw [show m + 2 = k + 1 by omega, hkm] at h9
        rw [h9, hd.out, List.take_add_one, hx]
        rfl)
      clear hxy hx hy hkm
      rcases hne with f1 | ⟨f1, f2⟩ | ⟨f1, f2, f3⟩ | ⟨f1, f2, f3, f4⟩
      all_goals
        go_wp2
        refine wp_region_held_drew (S := (fun (w' : World) => w'.cell? ⟨g, k * 4, none⟩ = some (.int .i64 x.fn) ∧ w'.cell? ⟨g, k * 4 + 1, none⟩ = some (.int .i64 x.pc) ∧ w'.cell? ⟨g, k * 4 + 2, none⟩ = some (.int .i64 x.kind) ∧ w'.cell? ⟨g, k * 4 + 3, none⟩ = some (.int .i64 x.target) ∧ w'.cell? ⟨g, m * 4, none⟩ = some (.int .i64 y.fn) ∧ w'.cell? ⟨g, m * 4 + 1, none⟩ = some (.int .i64 y.pc) ∧ w'.cell? ⟨g, m * 4 + 2, none⟩ = some (.int .i64 y.kind) ∧ w'.cell? ⟨g, m * 4 + 3, none⟩ = some (.int .i64 y.target))) (by kernel_rfl) (⟨qx.1, qx.2.1, qx.2.2.1, qx.2.2.2, qy.1, qy.2.1, qy.2.2.1, qy.2.2.2⟩) (fun hHeld => ?_)
        (iterate 10 (first | refine rQ1 ?_ | refine rQ2 ?_); try simp only [pP])
        refine wpAnyH_done (by kernel_rfl) ?_ _
        clear hHeld
        go_wp2
        go_roundw
        case rel => exact ⟨k, by omega, by go_num, HN, hTd⟩
        case measure => simp [intOf]; omega
    · subst hxy
      have HD2 := Lib.hid (show zs.take k = ded (zs.take (k + 1)) by
        have h9 := ded_same hy (hkm ▸ hx)
        rw [show m + 2 = k + 1 by omega, hkm] at h9
        rw [h9, hd.out])
      clear hx hy hkm hd
      have k0 : (0 : Int) ≤ (k : Int) := by omega
      have k1 : (k : Int) ≤ (n : Int) := by omega
      have k2 : k ≤ n := by omega
      have c1 : ¬ (c = k) := by omega
      go_wp2
      refine wp_region_held_drew (S := (fun (w' : World) => w'.cell? ⟨g, k * 4, none⟩ = some (.int .i64 x.fn) ∧ w'.cell? ⟨g, k * 4 + 1, none⟩ = some (.int .i64 x.pc) ∧ w'.cell? ⟨g, k * 4 + 2, none⟩ = some (.int .i64 x.kind) ∧ w'.cell? ⟨g, k * 4 + 3, none⟩ = some (.int .i64 x.target) ∧ w'.cell? ⟨g, m * 4, none⟩ = some (.int .i64 x.fn) ∧ w'.cell? ⟨g, m * 4 + 1, none⟩ = some (.int .i64 x.pc) ∧ w'.cell? ⟨g, m * 4 + 2, none⟩ = some (.int .i64 x.kind) ∧ w'.cell? ⟨g, m * 4 + 3, none⟩ = some (.int .i64 x.target))) (by kernel_rfl) (⟨qx.1, qx.2.1, qx.2.2.1, qx.2.2.2, qy.1, qy.2.1, qy.2.2.1, qy.2.2.2⟩) (fun hHeld => ?_)
      (iterate 10 (first | refine rQ1 ?_ | refine rQ2 ?_); try simp only [pP])
      refine wpAnyH_done (by kernel_rfl) ?_ _
      clear hHeld
      go_wp2
      clear qx qy
      go_loopw [3, 5] (fun i j wr => ∃ (kk p : Nat) (zk : List DSpec), k + p + 1 ≤ n ∧ 1 ≤ kk ∧ kk ≤ k + p ∧ i = .int .i64 kk ∧ j = .int .i64 (p + 1 : Nat) ∧ Hid (zk.length = n ∧ zk.take kk = ded (zs.take (k + p + 1)) ∧ ∀ q, k + p ≤ q → zk[q]? = zs[q]?) ∧ Tn w0 W (Res.own kSpec 110 (.slice (some ⟨g, 0, none⟩) n c) zs F) (Res.own kSpec 110 (.slice (some ⟨g, 0, none⟩) n c) zk F) [] wr) (fun _ j _ => n - (intOf j).toNat)
      case atStart => exact ⟨k, 0, zs, by omega, by omega, by omega, rfl, rfl, Lib.hid ⟨HNL.out, HD2.out, fun q _ => rfl⟩, hTd⟩
      case round =>
        clear hTd hT
        obtain ⟨kk, p, zk, hp, hk1, hkp, rfl, rfl, hI, hT⟩ := hrel
        by_cases hlt2 : k + p + 1 < n
        rotate_left
        · obtain rfl : k + p + 1 = n := by omega
          obtain ⟨i1, i2, i3⟩ := hI.out
          have hlen : (ded zs).length = kk := by
            have h9 := congrArg List.length i2
            rw [List.length_take, i1] at h9
            rw [← HNL.out, List.take_length] at h9
            rw [← h9, HNL.out]
            omega
          have e : zk.take kk = ded zs := by
            rw [i2, ← HNL.out, List.take_length]
          have E := Lib.hid hlen
          have E2 := Lib.hid e
          have HL1 := Lib.hid i1
          have hcc : ∀ q, q < (k + p + 1 - kk) * 4 → (wr.cell? ⟨g, kk * 4 + q, none⟩).isSome = true := fun q hq => by
            obtain ⟨Fs, hF, _⟩ := (show kSpec.Own 110 wr (.slice (some ⟨g, 0, none⟩) (k + p + 1) c) zk F from hT.st.get 0 rfl).fs
            obtain ⟨u, hu⟩ := hF.cell (kk * 4 + q) (by rw [HL1.out]; show _ < _ * 4; omega)
            rw [hu]
            rfl
          obtain ⟨us, hus, hcl⟩ := run_clearS wr 32 110 _ Tryz.underlying32 zeroSpec rfl (fun u hu => encS_one ⟨0, 0, 0, 0⟩ u hu) g (kk * 4) (k + p + 1 - kk) (c - kk) (by omega) hcc (fun q _ => hT.freeS _)
          have hT2 := hT.cutS kk (by rw [HL1.out]; omega) us (by rw [HL1.out]; exact hus)
          have z0 : (0 : Int) ≤ (kk : Int) := by omega
          have z1 : (kk : Int) ≤ ((k + p + 1 : Nat) : Int) := by omega
          have z2 : kk ≤ k + p + 1 := by omega
          have z3 : ¬ (c = kk) := by omega
          have z4 : kk ≤ c := by omega
          clear hlen e i1 i2 i3 hI hcc hus
          go_wp2
          go_ret
          exact ⟨by rw [E.out]; rfl, by rw [E.out, ← E2.out]; exact hT2⟩
        obtain ⟨i1, i2, i3⟩ := hI.out
        obtain ⟨u, hu⟩ := get_exU zs (k + (p + 1)) (by rw [HNL.out]; omega)
        obtain ⟨v, hv⟩ := get_exU zs (k + p) (by rw [HNL.out]; omega)
        obtain ⟨s, hs⟩ := get_exU zk kk (by rw [i1]; omega)
        have hTd := hT.drew
        have qu := hTd.cellS (k + (p + 1)) u ((i3 _ (by omega)).trans hu)
        have HQU := Lib.hid ((i3 (k + (p + 1)) (by omega)).trans hu)
        have qv := hTd.cellS (k + p) v ((i3 _ (by omega)).trans hv)
        have qs := hT.cellS kk s hs
        have fs := fun i => hT.freeS i
        obtain ⟨p1, hp1⟩ : ∃ p1, p + 1 = p1 := ⟨_, rfl⟩
        have HP1 := Lib.hid hp1
        rw [hp1] at qu ⊢
        rw [show (k + p1) * 4 = k * 4 + p1 * 4 by omega] at qu
        rw [show (k + p) * 4 = k * 4 + p * 4 by omega] at qv
        have a0 : (0 : Int) ≤ (p : Int) := by omega
        have a1 : (p : Int) < ((n - k : Nat) : Int) := by omega
        have a2 : (p1 : Int) < ((n - k : Nat) : Int) := by omega
        have a3 : p1 < n - k := by omega
        have a4 : p < n - k := by omega
        have e1' : (p1 : Int) - 1 = (p : Int) := by omega
        have e4' : IntKind.i64.wrap (p : Int) = (p : Int) := IntWalk.i64_in _ (by omega)
        by_cases huv : u = v
        · subst huv
          have HI := Lib.hid (show zk.length = n ∧ zk.take kk = ded (zs.take (k + p1 + 1)) ∧ ∀ q, k + p1 ≤ q → zk[q]? = zs[q]? from ⟨i1, by rw [i2, ← hp1, show k + (p + 1) + 1 = (k + p) + 2 by omega, ded_same hv (show zs[k + p + 1]? = some u from hu)], fun q hq => i3 q (by omega)⟩)
          clear hI i1 i2 i3 hu hv hs hp1 qs fs
          go_wp2
          refine wp_region_held_drew (S := (fun (w' : World) => w'.cell? ⟨g, k * 4 + p1 * 4, none⟩ = some (.int .i64 u.fn) ∧ w'.cell? ⟨g, k * 4 + p1 * 4 + 1, none⟩ = some (.int .i64 u.pc) ∧ w'.cell? ⟨g, k * 4 + p1 * 4 + 2, none⟩ = some (.int .i64 u.kind) ∧ w'.cell? ⟨g, k * 4 + p1 * 4 + 3, none⟩ = some (.int .i64 u.target) ∧ w'.cell? ⟨g, k * 4 + p * 4, none⟩ = some (.int .i64 u.fn) ∧ w'.cell? ⟨g, k * 4 + p * 4 + 1, none⟩ = some (.int .i64 u.pc) ∧ w'.cell? ⟨g, k * 4 + p * 4 + 2, none⟩ = some (.int .i64 u.kind) ∧ w'.cell? ⟨g, k * 4 + p * 4 + 3, none⟩ = some (.int .i64 u.target))) (by kernel_rfl) (⟨qu.1, qu.2.1, qu.2.2.1, qu.2.2.2, qv.1, qv.2.1, qv.2.2.1, qv.2.2.2⟩) (fun hHeld => ?_)
          (iterate 10 (first | refine rQ1 ?_ | refine rQ2 ?_); try simp only [pP])
          refine wpAnyH_done (by kernel_rfl) ?_ _
          clear hHeld
          go_wp2
          go_roundw
          case rel => exact ⟨kk, p1, zk, by omega, by omega, by have := HP1.out; omega, rfl, by go_num, HI, hTd⟩
          case measure => simp [intOf]; omega
        · have hne := spec_ne huv
          have hkl : kk < zk.length := by rw [i1]; omega
          have hTs := (hT.putS kk hkl u).drew
          have HI := Lib.hid (show (zk.set kk u).length = n ∧ (zk.set kk u).take (kk + 1) = ded (zs.take (k + p1 + 1)) ∧ ∀ q, k + p1 ≤ q → (zk.set kk u)[q]? = zs[q]? from ⟨by rw [List.length_set]; exact i1, by
            rw [← hp1, show k + (p + 1) + 1 = (k + p) + 2 by omega, ded_other hv (show zs[k + p + 1]? = some u from hu) huv, ← i2, List.take_add_one, List.getElem?_set_self hkl, List.take_set_of_le (Nat.le_refl _)]
            rfl, fun q hq => by rw [List.getElem?_set_ne (by omega)]; exact i3 q (by omega)⟩)
          have HTS := Lib.hid hTs
          clear hI i1 i2 i3 hu hv hs hp1 huv hkl hTs
          obtain ⟨qs0, qs1, qs2, qs3⟩ := qs
          have f0 := fs (kk * 4)
          have f1 := fs (kk * 4 + 1)
          have f2 := fs (kk * 4 + 2)
          have f3 := fs (kk * 4 + 3)
          have g0 : (0 : Int) ≤ (kk : Int) := by omega
          have g1 : (kk : Int) < (n : Int) := by omega
          have g2 : kk < n := by omega
          have qu2 := hT.cellS (k + p1) u (by rw [← HP1.out]; exact HQU.out)
          rw [show (k + p1) * 4 = k * 4 + p1 * 4 by omega] at qu2
          clear fs
          rcases hne with f1 | ⟨f1, f2⟩ | ⟨f1, f2, f3⟩ | ⟨f1, f2, f3, f4⟩
          all_goals
            go_wp2
            refine wp_region_held_drew (S := (fun (w' : World) => w'.cell? ⟨g, k * 4 + p1 * 4, none⟩ = some (.int .i64 u.fn) ∧ w'.cell? ⟨g, k * 4 + p1 * 4 + 1, none⟩ = some (.int .i64 u.pc) ∧ w'.cell? ⟨g, k * 4 + p1 * 4 + 2, none⟩ = some (.int .i64 u.kind) ∧ w'.cell? ⟨g, k * 4 + p1 * 4 + 3, none⟩ = some (.int .i64 u.target) ∧ w'.cell? ⟨g, k * 4 + p * 4, none⟩ = some (.int .i64 v.fn) ∧ w'.cell? ⟨g, k * 4 + p * 4 + 1, none⟩ = some (.int .i64 v.pc) ∧ w'.cell? ⟨g, k * 4 + p * 4 + 2, none⟩ = some (.int .i64 v.kind) ∧ w'.cell? ⟨g, k * 4 + p * 4 + 3, none⟩ = some (.int .i64 v.target))) (by kernel_rfl) (⟨qu.1, qu.2.1, qu.2.2.1, qu.2.2.2, qv.1, qv.2.1, qv.2.2.1, qv.2.2.2⟩) (fun hHeld => ?_)
            (iterate 10 (first | refine rQ1 ?_ | refine rQ2 ?_); try simp only [pP])
            refine wpAnyH_done (by kernel_rfl) ?_ _
            clear hHeld
            obtain ⟨qu0, qu1, qu3, qu4⟩ := qu2
            go_wp2
            go_roundw
            case rel => exact ⟨kk + 1, p1, zk.set kk u, by omega, by omega, by have := HP1.out; omega, by go_num, by go_num, HI, by have h9 := HTS.out; simp only [spCs, Mem.setCells] at h9; first | exact h9 | (rw [f1] at h9; exact h9) | (rw [f1, f2] at h9; exact h9) | (rw [f1, f2, f3] at h9; exact h9)⟩
            case measure => simp [intOf]; omega
end Go.Proofs.YthinhlcfpaaldaaGreat.Dat

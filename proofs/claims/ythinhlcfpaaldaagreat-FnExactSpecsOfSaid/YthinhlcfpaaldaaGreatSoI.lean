/- The guesses of code: gathered, sorted, each once; the program's way and the reference's. Written by a program (sogen.py). -/
import Derived.Test.YthinhlcfpaaldaaGreatSoC
import Derived.Test.YthinhlcfpaaldaaGreatSoZ
import Derived.Test.YthinhlcfpaaldaaGreatGFast
namespace Go.Proofs.YthinhlcfpaaldaaGreat.Dat
open Go Go.RowKit Go.Proofs.YthinhlcfpaaldaaGreat.Mem Go.Sort
set_option linter.unusedVariables false
set_option linter.unusedSimpArgs false
set_option maxHeartbeats 4000000 in
set_option maxRecDepth 100000 in
theorem compareSpecsG (a b : DSpec) (w : World) : Calls Tryz.prog 135 #[.agg #[.int .i64 a.fn, .int .i64 a.pc, .int .i64 a.kind, .int .i64 a.target], .agg #[.int .i64 b.fn, .int .i64 b.pc, .int .i64 b.kind, .int .i64 b.target]] w fun e w' => e = .returned (.int .i64 (cmpS a b)) ∧ Gw w w' := by
  have hS := (((St.start w).made (.cells #[.int .i64 a.fn, .int .i64 a.pc, .int .i64 a.kind, .int .i64 a.target] 110 (0, 0))).madeAt (.cells #[.int .i64 b.fn, .int .i64 b.pc, .int .i64 b.kind, .int .i64 b.target] 110 (0, 0)) (w.heap.size + 1) (by simp)).drew
  go_enter Tryz.func135, Tryz.ntmps135
  go_wp2
  refine wp_region_held_drew (S := (fun (w' : World) => w'.cell? ⟨w.heap.size, 0, none⟩ = some (.int .i64 a.fn) ∧ w'.cell? ⟨w.heap.size, 1, none⟩ = some (.int .i64 a.pc) ∧ w'.cell? ⟨w.heap.size, 2, none⟩ = some (.int .i64 a.kind) ∧ w'.cell? ⟨w.heap.size, 3, none⟩ = some (.int .i64 a.target) ∧ w'.cell? ⟨w.heap.size + 1, 0, none⟩ = some (.int .i64 b.fn) ∧ w'.cell? ⟨w.heap.size + 1, 1, none⟩ = some (.int .i64 b.pc) ∧ w'.cell? ⟨w.heap.size + 1, 2, none⟩ = some (.int .i64 b.kind) ∧ w'.cell? ⟨w.heap.size + 1, 3, none⟩ = some (.int .i64 b.target))) (by kernel_rfl) (⟨hS.cell 1 rfl 0, hS.cell 1 rfl 1, hS.cell 1 rfl 2, hS.cell 1 rfl 3, hS.cell 0 rfl 0, hS.cell 0 rfl 1, hS.cell 0 rfl 2, hS.cell 0 rfl 3⟩) (fun hHeld => ?_)
  (iterate 2 (first | refine rQ1 ?_ | refine rQ2 ?_); try simp only [pP])
  (first | refine rW 3 ?_ | refine rV 3 ?_); (try simp only [pP]); (first | refine rW 4 ?_ | refine rV 4 ?_); (try simp only [pP]); (first | refine rW 5 ?_ | refine rV 5 ?_); (try simp only [pP]); (first | refine rW 6 ?_ | refine rV 6 ?_); (try simp only [pP]); (first | refine rW 8 ?_ | refine rV 8 ?_); (try simp only [pP]); (first | refine rW 9 ?_ | refine rV 9 ?_); (try simp only [pP]); (first | refine rW 10 ?_ | refine rV 10 ?_); (try simp only [pP]); (first | refine rW 11 ?_ | refine rV 11 ?_); (try simp only [pP])
  refine regC 2 rfl (by kernel_rfl) (by rfl) (fun Kq hKq => ?_)
  go_simp
  (with_reducible refine (placesG a b _).mono ?_)
  rintro e w1 ⟨rfl, hg1⟩; have hS1 := hS.step hg1.below
  try go_wp2_with fail
  refine hKq.out _ _ (⟨hS1.cell 1 rfl 0, hS1.cell 1 rfl 1, hS1.cell 1 rfl 2, hS1.cell 1 rfl 3, hS1.cell 0 rfl 0, hS1.cell 0 rfl 1, hS1.cell 0 rfl 2, hS1.cell 0 rfl 3⟩) (fun hHeld => ?_)
  clear hKq Kq
  (try simp only [pP])
  refine regC 7 rfl (by kernel_rfl) (by rfl) (fun Kq hKq => ?_)
  go_simp
  (with_reducible refine (compareI a.target b.target _).mono ?_)
  rintro e w2 ⟨rfl, rfl⟩
  try go_wp2_with fail
  refine hKq.out _ _ (⟨hS1.cell 1 rfl 0, hS1.cell 1 rfl 1, hS1.cell 1 rfl 2, hS1.cell 1 rfl 3, hS1.cell 0 rfl 0, hS1.cell 0 rfl 1, hS1.cell 0 rfl 2, hS1.cell 0 rfl 3⟩) (fun hHeld => ?_)
  clear hKq Kq
  (try simp only [pP])
  refine regC 12 rfl (by kernel_rfl) (by rfl) (fun Kq hKq => ?_)
  go_simp
  (with_reducible refine (compareI a.kind b.kind _).mono ?_)
  rintro e w3 ⟨rfl, rfl⟩
  try go_wp2_with fail
  refine hKq.out _ _ (⟨hS1.cell 1 rfl 0, hS1.cell 1 rfl 1, hS1.cell 1 rfl 2, hS1.cell 1 rfl 3, hS1.cell 0 rfl 0, hS1.cell 0 rfl 1, hS1.cell 0 rfl 2, hS1.cell 0 rfl 3⟩) (fun hHeld => ?_)
  clear hKq Kq
  (try simp only [pP])
  refine regC 13 rfl (by kernel_rfl) (by rfl) (fun Kq hKq => ?_)
  go_simp
  refine hKq.out _ _ (⟨(hS1.al _).cell 1 rfl 0, (hS1.al _).cell 1 rfl 1, (hS1.al _).cell 1 rfl 2, (hS1.al _).cell 1 rfl 3, (hS1.al _).cell 0 rfl 0, (hS1.al _).cell 0 rfl 1, (hS1.al _).cell 0 rfl 2, (hS1.al _).cell 0 rfl 3⟩) (fun hHeld => ?_)
  clear hKq Kq
  (try simp only [pP])
  refine regC 14 rfl (by kernel_rfl) (by rfl) (fun Kq hKq => ?_)
  go_simp
  (with_reducible refine (or3I (or2 (cmp2 a.fn b.fn) (cmp2 a.pc b.pc)) (cmp2 a.target b.target) (cmp2 a.kind b.kind) _ _ _ (by refine (blk_cell (blkAt _ _ rfl) 0).trans ?_; with_unfolding_all rfl) (by refine (blk_cell (blkAt _ _ rfl) 1).trans ?_; with_unfolding_all rfl) (by refine (blk_cell (blkAt _ _ rfl) 2).trans ?_; with_unfolding_all rfl)).mono ?_)
  rintro e w4 ⟨rfl, rfl⟩
  try go_wp2_with fail
  refine hKq.out _ _ (⟨(hS1.al _).cell 1 rfl 0, (hS1.al _).cell 1 rfl 1, (hS1.al _).cell 1 rfl 2, (hS1.al _).cell 1 rfl 3, (hS1.al _).cell 0 rfl 0, (hS1.al _).cell 0 rfl 1, (hS1.al _).cell 0 rfl 2, (hS1.al _).cell 0 rfl 3⟩) (fun hHeld => ?_)
  clear hKq Kq
  (try simp only [pP])
  (first | refine rQ1 ?_ | refine rQ2 ?_); (try simp only [pP])
  refine wpAnyH_done (by kernel_rfl) ?_ _
  clear hHeld
  go_wp2
  go_ret
  exact ⟨rfl, gw9⟩
theorem cmpLaysS (blk off size : Nat) (w : World) : CmpLays Tryz.prog 135 #[] encS 4 cmpS blk off size w := fun _ _ _ _ x y => compareSpecsG x y _
set_option maxHeartbeats 1000000 in
theorem sortSpecs (g c : Nat) (ys : List DSpec) (W : World) (hH : HoldsK encS 4 W g 0 ys.toArray) (hg : g < W.heap.size) (hsz : ys.length < 4611686018427387904) :
    Calls Tryz.prog 134 #[.slice (some ⟨g, 0, none⟩) ys.length c, .func (.func 135) #[] #[]] W fun e W' => e = .returned (.tuple #[]) ∧ ∃ d' n os, PermIn 0 ys.length ys.toArray d' ∧ SortedIn (ltOf cmpS) 0 ys.length d' ∧ W' = sortWorldK encS 4 W g 0 n d' os := by
  have eg : ∀ args w, (callFunc 135 args).run Tryz.prog w = .ok (.enter 135 args) w := enters_of Tryz.func135 (by kernel_rfl) rfl
  have hcon := AnyQ.slices_SortFunc laysSpecs 4 Tryz.isAgg110 Tryz.sizeOf110 encS (fun _ => rfl) encS_one cmpS swoS 135 #[] g 0 c ys.toArray W eg (cmpLaysS g 0 _ W) hH hg (by simpa using hsz)
  change Calls Tryz.prog 134 _ _ _ at hcon
  simpa using hcon
theorem perm_sorted {ys : List DSpec} {d' : Array DSpec} (hp : PermIn 0 ys.length ys.toArray d') (hs : SortedIn (ltOf cmpS) 0 ys.length d') : d'.size = ys.length ∧ SrtS d'.toList ∧ ∀ y, y ∈ d'.toList ↔ y ∈ ys := by
  have h1 : d'.size = ys.length := by simpa using hp.1
  refine ⟨h1, ?_, fun y => ?_⟩
  · unfold SrtS
    rw [List.pairwise_iff_getElem]
    intro i j hi hj hij hlt
    have hi' : i < d'.size := by simpa using hi
    have hj' : j < d'.size := by simpa using hj
    have h2 := hs i j (Nat.zero_le _) hij (by omega)
    unfold ltOf at h2
    have h3 := of_decide_eq_false h2
    rw [cmpS_lt] at h3
    apply h3
    rw [getElem!_pos d' j hj', getElem!_pos d' i hi']
    simpa using hlt
  · have h2 := hp.2.2
    have e1 : (d'.extract 0 ys.length).toList = d'.toList := by rw [← h1]; simp
    have e2 : (ys.toArray.extract 0 ys.length).toList = ys := by simp
    rw [e1, e2] at h2
    exact h2.mem_iff
set_option maxHeartbeats 8000000 in
set_option maxRecDepth 100000 in
theorem specsF (A4 A5 : Option Addr) (c4 c5 : Nat) (c : DFast) (w : World) (r5 : kExit.Row w A5 c.exits.length c.exits) (hn : c.exits.length ≤ 1500) :
    Calls Tryz.prog 65 #[.agg #[.int .i64 c.fn, .int .i64 c.entry, .int .i64 c.vals, .int .i64 c.nums, .slice A4 c.ops.length c4, .slice A5 c.exits.length c5]] w (NewRow kSpec 110 (riseL (specZ c.exits)) w) := by
  have hS0 := ((St.start w).made (.cells #[.int .i64 c.fn, .int .i64 c.entry, .int .i64 c.vals, .int .i64 c.nums, .slice A4 c.ops.length c4, .slice A5 c.exits.length c5] 41 (0, 0))).empty kSpec 110 (w.heap.size + 1) (by simp)
  have x_f := hS0.cell 1 rfl
  go_enter Tryz.func65, Tryz.ntmps65
  go_wp2
  go_loopw [3, 10] (fun v i wr => ∃ (k g cv : Nat) (F : List Nat), k ≤ c.exits.length ∧ i = .int .i64 k ∧ v = .slice (some ⟨g, 0, none⟩) (specZ (c.exits.take k)).length cv ∧ St w [Res.own kSpec 110 (.slice (some ⟨g, 0, none⟩) (specZ (c.exits.take k)).length cv) (specZ (c.exits.take k)) F, Res.box w.heap.size (.cells #[.int .i64 c.fn, .int .i64 c.entry, .int .i64 c.vals, .int .i64 c.nums, .slice A4 c.ops.length c4, .slice A5 c.exits.length c5] 41 (0, 0))] wr) (fun _ i _ => c.exits.length - (intOf i).toNat)
  case atStart => exact ⟨0, _, 0, _, by omega, rfl, rfl, hS0⟩
  case round =>
    clear hS0 x_f
    obtain ⟨k, g, cv, F, hk, rfl, rfl, hS⟩ := hrel
    have hlz := specZ_len c.exits k
    by_cases hlt : k < c.exits.length
    rotate_left
    · obtain rfl : k = c.exits.length := by omega
      rw [List.take_length] at hS hlz ⊢
      obtain ⟨ys, hys⟩ : ∃ ys, specZ c.exits = ys := ⟨_, rfl⟩
      rw [hys] at hS hlz ⊢
      have HY := Lib.hid hys
      have hH := specs_holds (hS.own_ 0 rfl)
      have hg := hS.lts 0 rfl g (by have := spec_F (hS.own_ 0 rfl); rw [this]; simp [Res.own])
      have CS := Lib.hid (sortSpecs g cv ys _ hH hg (by omega))
      clear hys hH hg
      go_wp2_with fail
      refine CS.out.mono ?_
      rintro e w2 ⟨rfl, d', n, os, hp, hs, rfl⟩
      obtain ⟨p1, p2, p3⟩ := perm_sorted hp hs
      have hS2 := hS.sortS 0 rfl d' p1 n os
      obtain ⟨zs, hzs⟩ : ∃ zs, d'.toList = zs := ⟨_, rfl⟩
      have hzl : zs.length = ys.length := by rw [← hzs]; simpa using p1
      rw [hzs] at hS2 p2 p3
      rw [← hzl] at hS2 hlz ⊢
      have E := Lib.hid (ded_riseL (l := ys) p2 p3)
      generalize hWW : sortWorldK encS 4 _ g 0 n d' os = W2 at hS2 ⊢
      have hcv := (hS2.row 0 rfl)
      obtain ⟨A', c', hvv, hcl, _⟩ := hcv
      cases hvv
      have CC := Lib.hid (compactS hS2 (by omega) hcl)
      clear hp hs p1 p2 p3 hzs hzl hWW CS hS hcl
      go_wp2_with fail
      refine CC.out.mono ?_
      rintro e w3 ⟨rfl, hT⟩
      have hS3 := hS2.turn 0 rfl hT
      rw [E.out, ← HY.out] at hS3 ⊢
      go_wp2
      go_ret
      exact hS3.outRow 0 rfl
    obtain ⟨x, hx⟩ := get_exU c.exits k hlt
    obtain ⟨ad, AF, AR, cf, cr, rfl, q0, q1, q2, q3, q4, q5, q6, _⟩ := kExit_at r5 k x hx
    have u0 := kept hS.bel q0
    have u1 := kept hS.bel q1
    have u2 := kept hS.bel q2
    have u3 := kept hS.bel q3
    have u4 := kept hS.bel q4
    have u5 := kept hS.bel q5
    have u6 := kept hS.bel q6
    have hT := hS.made (.cells #[.int .i64 x.kind, .int .i64 x.spec.fn, .int .i64 x.spec.pc, .int .i64 x.spec.kind, .int .i64 x.spec.target, .slice AF x.frames.length cf, .slice AR x.recs.length cr] 168 (0, 0))
    by_cases h2 : x.kind = 2
    · have HT := Lib.hid (specZ_yes hx h2)
      have h2b : (x.kind == 2) = true := by simp [h2]
      obtain ⟨ys, hys⟩ : ∃ ys, specZ (c.exits.take k) = ys := ⟨_, rfl⟩
      rw [hys] at hT hlz ⊢
      have HY := Lib.hid hys
      clear hx hys hS q0 q1 q2 q3 q4 q5 q6 h2
      go_wp2_with (at_builtin; refine Knd.wp_appE kSpec rfl _ _ _ rfl 110 Tryz.underlying32 (.agg #[.int .i64 0, .int .i64 0, .int .i64 0, .int .i64 0]) 32 infoSpec rfl (by decide) rfl ((hT.al _).own_ 1 rfl) _ _ _ _ x.spec (blkAt _ _ (by simp)) rfl (kSpec_Oi.2 ⟨rfl, rfl⟩) (by have := hT.nodup 1 rfl; simpa [Res.own] using this) (by (try simp [maxLen]); (try omega)) (by (try simp); (try omega)) ?_; rintro gq cq wq Fq hO hB hnd hF; have hS2 := (hT.al _).appK 1 rfl hO hB hnd hF; clear hO hB hF)
      go_roundw
      case rel => exact ⟨k + 1, gq, cq, Fq, by omega, by go_num, by rw [HT.out, HY.out]; simp, by rw [HT.out, HY.out]; simpa using hS2.drop⟩
      case measure => simp [intOf]; omega
    · have HT := Lib.hid (specZ_not hx h2)
      have h2b : (x.kind == 2) = false := by simp [h2]
      clear hx hS q0 q1 q2 q3 q4 q5 q6 h2
      go_wp2
      go_roundw
      case rel => exact ⟨k + 1, g, cv, F, by omega, by go_num, by rw [HT.out], by rw [HT.out]; exact hT.drop⟩
      case measure => simp [intOf]; omega
end Go.Proofs.YthinhlcfpaaldaaGreat.Dat
namespace Go.Proofs.YthinhlcfpaaldaaGreat.Mem
open Go Go.RowKit Go.Proofs.YthinhlcfpaaldaaGreat.Dat Go.Sort
theorem St.cellS {w W : World} {L : List Res} {e g n c : Nat} {xs : List DSpec} {F : List Nat} (h : St w L W) (i : Nat) (hi : L[i]? = some (Res.own kSpec e (.slice (some ⟨g, 0, none⟩) n c) xs F)) (k : Nat) (x : DSpec) (hx : xs[k]? = some x) :
    W.cell? ⟨g, k * 4, none⟩ = some (.int .i64 x.fn) ∧ W.cell? ⟨g, k * 4 + 1, none⟩ = some (.int .i64 x.pc) ∧ W.cell? ⟨g, k * 4 + 2, none⟩ = some (.int .i64 x.kind) ∧ W.cell? ⟨g, k * 4 + 3, none⟩ = some (.int .i64 x.target) := (Tn.of h i hi).cellS k x hx
end Go.Proofs.YthinhlcfpaaldaaGreat.Mem
namespace Go.Proofs.YthinhlcfpaaldaaGreat.Dat
open Go Go.RowKit Go.Proofs.YthinhlcfpaaldaaGreat.Mem Go.Sort
theorem less10 (a b : DSpec) (w : World) {r : Bool} (h : decide (LtS a b) = r) : Calls Tryz.prog 129 #[.agg #[.int .i64 a.fn, .int .i64 a.pc, .int .i64 a.kind, .int .i64 a.target], .agg #[.int .i64 b.fn, .int .i64 b.pc, .int .i64 b.kind, .int .i64 b.target]] w fun e w' => e = .returned (.bool r) ∧ Below w.heap.size w w' := by
  have hS := ((St.start w).made (.cells #[.int .i64 a.fn, .int .i64 a.pc, .int .i64 a.kind, .int .i64 a.target] 110 (0, 0))).madeAt (.cells #[.int .i64 b.fn, .int .i64 b.pc, .int .i64 b.kind, .int .i64 b.target] 110 (0, 0)) (w.heap.size + 1) (by simp)
  subst h
  unfold LtS
  go_enter Tryz.func129, Tryz.ntmps129
  go_wp2
  all_goals (go_ret; refine ⟨ret_bool ?_, bl9⟩; rw [Bool.eq_iff_iff]; simp_all; try omega)
theorem row_takeK {α : Type} {d : Knd α} {W : World} {A : Option Addr} {n : Nat} {xs : List α} (h : d.Row W A n xs) (k : Nat) (hk : k ≤ n) : d.Row W A k (xs.take k) := by
  refine ⟨by rw [List.length_take, h.1]; omega, by have := h.2.1; omega, fun h0 => ?_⟩
  obtain ⟨ad', e, hc⟩ := h.2.2 (by omega)
  refine ⟨_, e, fun j p hj => ?_⟩
  by_cases hjk : j < k
  · rw [List.getElem?_take_of_lt hjk] at hj
    exact hc j p hj
  · rw [List.getElem?_eq_none (by rw [List.length_take]; omega)] at hj
    cases hj
theorem add_lit0 (g k : Nat) : (⟨g, 0, none⟩ : Addr).add k = ⟨g, k, none⟩ := by
  unfold Addr.add
  split
  · next h0 => rw [h0]
  · simp
theorem addZ (ad : Addr) (a b : Nat) : (ad.add a).add b = ad.add (a + b) := by
  unfold Addr.add
  by_cases ha : a = 0
  · subst ha
    simp
  · rw [if_neg ha]
    by_cases hb : b = 0
    · subst hb
      rw [if_pos rfl, if_neg (by omega)]
      rfl
    · rw [if_neg hb, if_neg (by omega)]
      congr 1
      simp only
      omega
theorem row_dropZ {α : Type} {d : Knd α} {W : World} {ad : Addr} {n : Nat} {xs : List α} (h : d.Row W (some ad) n xs) (k : Nat) (hk : k ≤ n) : d.Row W (some (ad.add (k * d.sz))) (n - k) (xs.drop k) := by
  refine ⟨by rw [List.length_drop, h.1], by have := h.2.1; omega, fun h0 => ?_⟩
  obtain ⟨ad', e, hc⟩ := h.2.2 (by omega)
  cases e
  refine ⟨_, rfl, fun j p hj => ?_⟩
  rw [List.getElem?_drop] at hj
  obtain ⟨c, h1, h2⟩ := hc (k + j) p hj
  refine ⟨c, h1, fun i u hu => ?_⟩
  have h3 := h2 i u hu
  rw [addZ, show k * d.sz + (j * d.sz + i) = (k + j) * d.sz + i by rw [Nat.add_mul]; omega]
  exact h3
end Go.Proofs.YthinhlcfpaaldaaGreat.Dat
namespace Go.Proofs.YthinhlcfpaaldaaGreat.Mem
open Go Go.RowKit Go.Proofs.YthinhlcfpaaldaaGreat.Dat Go.Sort
/-- append of a row that may have no element. -/
theorem Knd.wp_appSl {α : Type} {P : Program} {ops : Array Oper} {rest : List Oper} {o : Oper} {a : Act} {Q : Exit → Act → World → Prop} {W : World} (d : Knd α) (hKO : ∀ w x cs, d.K w x cs → d.O w x cs []) (hgd : o.guard = none) (s x : Operand) (t : TypeId)
    (ho : o.op = .call { callee := .builtin .append, args := #[s, x], argTypes := #[t, t] }) (e : TypeId) (ht : P.underlying t = some (.slice e)) (z : Value) (bytes : Nat) (hinfo : (P.info? e).map (fun i => (i.zero, i.size, i.bytes)) = some (some z, d.sz, bytes)) (hz : z.cells.size = d.sz) (hsz : 0 < d.sz)
    {xs : List α} (zs : List α) {F : List Nat} {g0 n0 c0 : Nat} (hn0 : n0 = xs.length) (hs : a.eval s = .slice (some ⟨g0, 0, none⟩) n0 c0) (hown : d.Own e W (.slice (some ⟨g0, 0, none⟩) n0 c0) xs F) (hnd : F.Nodup) (A : Option Addr) (n c : Nat) (hn : n = zs.length) (hx : a.eval x = .slice A n c) (hr : 0 < n → ∃ ad, A = some ad ∧ d.Row W (some ad) n zs)
    (h63 : n0 + n ≤ maxLen) (hbytes : (n0 + n) * bytes ≤ 140737488355328)
    (h : ∀ g cap w' F', d.Own e w' (.slice (some ⟨g, 0, none⟩) (n0 + n) cap) (xs ++ zs) F' → But F W w' → F'.Nodup → (∀ q ∈ F', q ∈ F ∨ W.heap.size ≤ q) → wpList P ops Q rest (a.put o.dst (.slice (some ⟨g, 0, none⟩) (n0 + n) cap)) w') : wpList P ops Q (o :: rest) a W := by
  subst hn hn0
  by_cases h0 : 0 < zs.length
  · obtain ⟨ad, rfl, hR⟩ := hr h0
    exact Knd.wp_appRowE d hKO hgd s x t ho e ht z bytes hinfo hz hsz hs hown hnd ad c hR hx h0 h63 hbytes h
  · obtain rfl : zs = [] := List.eq_nil_of_length_eq_zero (by omega)
    obtain ⟨i0, hi, _⟩ := Option.map_eq_some_iff.1 hinfo
    refine Knd.wp_app0 d hgd s x t ho e ht i0 hi hs hown A _ c rfl hx ?_
    have h9 := h g0 c0 W F (by simpa using hown) (But.refl _ _) hnd (fun q hq => .inl hq)
    simpa using h9
end Go.Proofs.YthinhlcfpaaldaaGreat.Mem
namespace Go.Proofs.YthinhlcfpaaldaaGreat.Dat
open Go Go.RowKit Go.Proofs.YthinhlcfpaaldaaGreat.Mem Go.Sort
theorem specKO (w : World) (x : DSpec) (cs : List Value) (h : kSpec.K w x cs) : kSpec.O w x cs [] := kSpec_Oi.2 ⟨kSpec_K.1 h, rfl⟩
set_option maxHeartbeats 16000000 in
set_option maxRecDepth 100000 in
theorem specs10 (A4 A5 : Option Addr) (c4 c5 : Nat) (c : DFast) (w : World) (r5 : kExit.Row w A5 c.exits.length c.exits) (hn : c.exits.length ≤ 1500) :
    Calls Tryz.prog 59 #[.agg #[.int .i64 c.fn, .int .i64 c.entry, .int .i64 c.vals, .int .i64 c.nums, .slice A4 c.ops.length c4, .slice A5 c.exits.length c5]] w (NewRow kSpec 110 (riseL (specZ c.exits)) w) := by
  have hS0 := ((St.start w).made (.cells #[.int .i64 c.fn, .int .i64 c.entry, .int .i64 c.vals, .int .i64 c.nums, .slice A4 c.ops.length c4, .slice A5 c.exits.length c5] 41 (0, 0))).empty kSpec 110 (w.heap.size + 1) (by simp)
  have x_f := hS0.cell 1 rfl
  go_enter Tryz.func59, Tryz.ntmps59
  go_wp2
  clear x_f
  go_loopw [3, 4] (fun v i wr => ∃ (k g cv : Nat) (ys : List DSpec) (F : List Nat), k ≤ c.exits.length ∧ i = .int .i64 k ∧ v = .slice (some ⟨g, 0, none⟩) ys.length cv ∧ Hid (riseL (specZ (c.exits.take k)) = ys) ∧ St w [Res.own kSpec 110 (.slice (some ⟨g, 0, none⟩) ys.length cv) ys F, Res.box w.heap.size (.cells #[.int .i64 c.fn, .int .i64 c.entry, .int .i64 c.vals, .int .i64 c.nums, .slice A4 c.ops.length c4, .slice A5 c.exits.length c5] 41 (0, 0))] wr) (fun _ i _ => c.exits.length - (intOf i).toNat)
  case atStart => exact ⟨0, _, 0, [], _, by omega, rfl, rfl, Lib.hid rfl, hS0⟩
  case round =>
    clear hS0
    obtain ⟨k, g, cv, ys, F, hk, rfl, rfl, HY, hS⟩ := hrel
    have hly : ys.length ≤ 1500 := by
      have h1 := specZ_len c.exits k
      have h2 := rise_len (specZ (c.exits.take k)) (specZ (c.exits.take k)).length
      rw [List.take_length, HY.out] at h2
      omega
    have hcv : ys.length ≤ cv := by
      obtain ⟨A', c', hvv, hcl, _⟩ := hS.row 0 rfl
      cases hvv
      exact hcl
    have x_f := hS.cell 1 rfl
    by_cases hlt : k < c.exits.length
    rotate_left
    · obtain rfl : k = c.exits.length := by omega
      have e := HY.out
      rw [List.take_length] at e
      subst e
      go_wp2
      go_ret
      exact hS.outRow 0 rfl
    obtain ⟨x, hx⟩ := get_exU c.exits k hlt
    obtain ⟨ad, AF, AR, cf, cr, rfl, q0, q1, q2, q3, q4, q5, q6, _⟩ := kExit_at r5 k x hx
    have u0 := kept hS.bel q0
    have u1 := kept hS.bel q1
    have u2 := kept hS.bel q2
    have u3 := kept hS.bel q3
    have u4 := kept hS.bel q4
    by_cases h2 : x.kind = 2
    rotate_left
    · have HT := Lib.hid (specZ_not hx h2)
      have h2b : (x.kind != 2) = true := by simp [h2]
      clear hx q0 q1 q2 q3 q4 q5 q6 h2
      go_wp2
      go_roundw
      case rel => exact ⟨k + 1, g, cv, ys, F, by omega, by go_num, rfl, Lib.hid (by rw [HT.out, HY.out]), hS⟩
      case measure => simp [intOf]; omega
    have h2b : (x.kind != 2) = false := by simp [h2]
    have HP := Lib.hid (show riseL (specZ (c.exits.take (k + 1))) = putL ys x.spec by
      rw [specZ_yes hx h2]
      have h9 := rise_snoc (l := specZ (c.exits.take k) ++ [x.spec]) (k := (specZ (c.exits.take k)).length) (x := x.spec) (by simp)
      rw [List.take_append_of_le_length (Nat.le_refl _), List.take_length, HY.out] at h9
      rw [← h9]
      congr 1
      exact (List.take_of_length_le (by simp)).symm)
    obtain ⟨s, hs⟩ : ∃ s, x.spec = s := ⟨_, rfl⟩
    rw [hs] at u1 u2 u3 u4 HP
    obtain ⟨gs, hgs⟩ : ∃ gs, wr.heap.size = gs := ⟨_, rfl⟩
    have hSs := hS.madeAt (.cells #[.int .i64 s.fn, .int .i64 s.pc, .int .i64 s.kind, .int .i64 s.target] 110 (0, 0)) gs hgs
    clear hx q0 q1 q2 q3 q4 q5 q6 h2 hs HY
    go_wp2
    clear x_f
    go_loopw [6] (fun i wr2 => ∃ j : Nat, j ≤ ys.length ∧ i = .int .i64 j ∧ Hid (∀ i y, ys[i]? = some y → i < j → LtS y s) ∧ St w [Res.box gs (.cells #[.int .i64 s.fn, .int .i64 s.pc, .int .i64 s.kind, .int .i64 s.target] 110 (0, 0)), Res.own kSpec 110 (.slice (some ⟨g, 0, none⟩) ys.length cv) ys F, Res.box w.heap.size (.cells #[.int .i64 c.fn, .int .i64 c.entry, .int .i64 c.vals, .int .i64 c.nums, .slice A4 c.ops.length c4, .slice (some ad) c.exits.length c5] 41 (0, 0))] wr2) (fun i _ => ys.length - (intOf i).toNat)
    case atStart => exact ⟨0, by omega, rfl, Lib.hid (fun i y _ h => by omega), hSs⟩
    case round =>
      clear hSs hS
      obtain ⟨j, hj, rfl, HB, hS⟩ := hrel
      have hSd := hS.drew
      by_cases hjl : j < ys.length
      rotate_left
      · obtain rfl : j = ys.length := by omega
        have HE := Lib.hid (show putL ys s = ys.take ys.length ++ s :: ys.drop ys.length by
          rw [put_at ys ys.length (fun i y hy hi => HB.out i y hy hi) (fun y hy => by simp at hy) (Nat.le_refl _)]
          simp)
        have hSdd := hSd.drew
        clear HB
        go_wp2
        refine wp_region_held_drew (S := (fun (w' : World) => w'.cell? ⟨gs, 0, none⟩ = some (.int .i64 s.fn) ∧ w'.cell? ⟨gs, 1, none⟩ = some (.int .i64 s.pc) ∧ w'.cell? ⟨gs, 2, none⟩ = some (.int .i64 s.kind) ∧ w'.cell? ⟨gs, 3, none⟩ = some (.int .i64 s.target))) (by kernel_rfl) (⟨hSd.cell 0 rfl 0, hSd.cell 0 rfl 1, hSd.cell 0 rfl 2, hSd.cell 0 rfl 3⟩) (fun hHeld => ?_)
        (iterate 5 (first | refine rQ1 ?_ | refine rQ2 ?_); try simp only [pP])
        refine regS (fun _ _ _ d h => by cases d <;> exact h) [5, 6, 7, 8, 9, 10] _ _ _ rfl (by kernel_rfl) (by assumption) ?_
        simp only [skipL, List.getElem?_cons_zero, List.getElem?_cons_succ, Option.bind_some, pP]
        (first | refine rQ1 ?_ | refine rQ2 ?_); (try simp only [pP])
        refine wpAnyH_done (by kernel_rfl) ?_ _
        clear hHeld
        go_wp2
        refine wp_region_held_drew (S := (fun (w' : World) => w'.cell? ⟨gs, 0, none⟩ = some (.int .i64 s.fn) ∧ w'.cell? ⟨gs, 1, none⟩ = some (.int .i64 s.pc) ∧ w'.cell? ⟨gs, 2, none⟩ = some (.int .i64 s.kind) ∧ w'.cell? ⟨gs, 3, none⟩ = some (.int .i64 s.target))) (by kernel_rfl) (⟨hSdd.cell 0 rfl 0, hSdd.cell 0 rfl 1, hSdd.cell 0 rfl 2, hSdd.cell 0 rfl 3⟩) (fun hHeld => ?_)
        (iterate 5 (first | refine rQ1 ?_ | refine rQ2 ?_); try simp only [pP])
        refine regS (fun _ _ _ d h => by cases d <;> exact h) [5, 6, 7, 8, 9, 10] _ _ _ rfl (by kernel_rfl) (by assumption) ?_
        simp only [skipL, List.getElem?_cons_zero, List.getElem?_cons_succ, Option.bind_some, pP]
        (first | refine rQ1 ?_ | refine rQ2 ?_); (try simp only [pP])
        refine wpAnyH_done (by kernel_rfl) ?_ _
        clear hHeld
        by_cases hcy : cv = ys.length
        · subst hcy
          have hE := hSdd.empty kSpec 110 _ rfl
          have x_s := hE.cell 1 rfl
          have hTk := row_takeK (d := kSpec) (St.rowA hE 2 rfl) ys.length (by omega)
          have hl1 : (ys.take ys.length).length = ys.length := by rw [List.length_take]; omega
          have z0 : (0 : Int) ≤ (ys.length : Int) := by omega
          have z1 : (ys.length : Int) ≤ (ys.length : Int) := by omega
          have z2 : (ys.length : Int) ≤ (ys.length : Int) := by omega
          go_wp2_with (first | (at_builtin; refine Knd.wp_appSl kSpec specKO rfl _ _ _ rfl 110 Tryz.underlying32 (.agg #[.int .i64 0, .int .i64 0, .int .i64 0, .int .i64 0]) 32 infoSpec rfl (by decide) (ys.take ys.length) (n0 := 0) rfl rfl (hE.own_ 0 rfl) (hE.nodup 0 rfl) _ _ _ hl1.symm rfl (fun _ => ⟨_, rfl, hTk⟩) (by simp [maxLen]; omega) (by omega) ?_; rintro g1 q1 W1 F1 hO hB hnd hF; have hS1 := hE.appK 0 rfl hO hB hnd (fun q hq => (hF q hq).elim .inl (fun h => .inr (.inr h))); have x_s1 := hS1.cell 1 rfl; clear hO hB hF x_s hE; rw [Nat.zero_add] at hS1 ⊢; have hS1a := hS1.al (.cells #[.int .i64 s.fn, .int .i64 s.pc, .int .i64 s.kind, .int .i64 s.target] 110 (0, 0))) | (at_builtin; refine Knd.wp_appE kSpec rfl _ _ _ rfl 110 Tryz.underlying32 (.agg #[.int .i64 0, .int .i64 0, .int .i64 0, .int .i64 0]) 32 infoSpec rfl (by decide) rfl (hS1a.own_ 0 rfl) _ _ _ _ s (blkAt _ _ (by simp)) rfl (kSpec_Oi.2 ⟨rfl, rfl⟩) (by have := hS1a.nodup 0 rfl; simpa [Res.own] using this) (by simp [maxLen]; omega) (by simp; omega) ?_; rintro g2 q2 W2 F2 hO hB hnd2 hF; have hS2 := hS1a.appK 0 rfl hO hB hnd2 hF; clear hO hB hF hS1 hS1a x_s1; have hl2 : (([] : List DSpec) ++ ys.take ys.length).length + 1 = ys.length + 1 := (by rw [List.nil_append, hl1]); (rw [hl2] at hS2 ⊢); have hTd := row_dropZ (d := kSpec) (St.rowA hS2 2 rfl) ys.length (by omega); rw [add_lit0] at hTd) | (at_builtin; refine Knd.wp_appSl kSpec specKO rfl _ _ _ rfl 110 Tryz.underlying32 (.agg #[.int .i64 0, .int .i64 0, .int .i64 0, .int .i64 0]) 32 infoSpec rfl (by decide) (ys.drop ys.length) (n0 := ys.length + 1) (by simp <;> omega) rfl (hS2.own_ 0 rfl) (hS2.nodup 0 rfl) _ _ _ (by rw [List.length_drop]; (try omega)) rfl (fun h0 => absurd h0 (by omega)) (by simp [maxLen] <;> omega) (by omega) ?_; rintro g3 q3 W3 F3 hO hB hnd3 hF; have hS3 := hS2.appK 0 rfl hO hB hnd3 (fun q hq => (hF q hq).elim .inl (fun h => .inr (.inr h))); clear hO hB hF hS2))
          have hS4 := (hS3.front 1 rfl).drop
          have hS5 := (hS4.front 1 rfl).drop
          obtain ⟨A9, c9, hv9, hcl9, _⟩ := hS5.row 0 rfl
          have hN := (Value.slice.inj hv9).2.1
          rw [hN] at hS5
          clear hv9 hcl9
          go_roundw
          case rel => exact ⟨k + 1, g3, q3, (([] ++ ys.take ys.length) ++ [s]) ++ ys.drop ys.length, F3, by omega, by go_num, by first | (rw [← hN]) | (congr 1; rw [← hN]; simp) | (congr 1; simp; omega), Lib.hid (by rw [HP.out, HE.out]; simp), hS5⟩
          case measure => simp [intOf]; omega
        · have z3 : ¬ (cv = ys.length) := hcy
          have hE := hSdd.empty kSpec 110 _ rfl
          have x_s := hE.cell 1 rfl
          have hTk := row_takeK (d := kSpec) (St.rowA hE 2 rfl) ys.length (by omega)
          have hl1 : (ys.take ys.length).length = ys.length := by rw [List.length_take]; omega
          have z0 : (0 : Int) ≤ (ys.length : Int) := by omega
          have z1 : (ys.length : Int) ≤ (ys.length : Int) := by omega
          have z2 : (ys.length : Int) ≤ (cv : Int) := by omega
          go_wp2_with (first | (at_builtin; refine Knd.wp_appSl kSpec specKO rfl _ _ _ rfl 110 Tryz.underlying32 (.agg #[.int .i64 0, .int .i64 0, .int .i64 0, .int .i64 0]) 32 infoSpec rfl (by decide) (ys.take ys.length) (n0 := 0) rfl rfl (hE.own_ 0 rfl) (hE.nodup 0 rfl) _ _ _ hl1.symm rfl (fun _ => ⟨_, rfl, hTk⟩) (by simp [maxLen]; omega) (by omega) ?_; rintro g1 q1 W1 F1 hO hB hnd hF; have hS1 := hE.appK 0 rfl hO hB hnd (fun q hq => (hF q hq).elim .inl (fun h => .inr (.inr h))); have x_s1 := hS1.cell 1 rfl; clear hO hB hF x_s hE; rw [Nat.zero_add] at hS1 ⊢; have hS1a := hS1.al (.cells #[.int .i64 s.fn, .int .i64 s.pc, .int .i64 s.kind, .int .i64 s.target] 110 (0, 0))) | (at_builtin; refine Knd.wp_appE kSpec rfl _ _ _ rfl 110 Tryz.underlying32 (.agg #[.int .i64 0, .int .i64 0, .int .i64 0, .int .i64 0]) 32 infoSpec rfl (by decide) rfl (hS1a.own_ 0 rfl) _ _ _ _ s (blkAt _ _ (by simp)) rfl (kSpec_Oi.2 ⟨rfl, rfl⟩) (by have := hS1a.nodup 0 rfl; simpa [Res.own] using this) (by simp [maxLen]; omega) (by simp; omega) ?_; rintro g2 q2 W2 F2 hO hB hnd2 hF; have hS2 := hS1a.appK 0 rfl hO hB hnd2 hF; clear hO hB hF hS1 hS1a x_s1; have hl2 : (([] : List DSpec) ++ ys.take ys.length).length + 1 = ys.length + 1 := (by rw [List.nil_append, hl1]); (rw [hl2] at hS2 ⊢); have hTd := row_dropZ (d := kSpec) (St.rowA hS2 2 rfl) ys.length (by omega); rw [add_lit0] at hTd) | (at_builtin; refine Knd.wp_appSl kSpec specKO rfl _ _ _ rfl 110 Tryz.underlying32 (.agg #[.int .i64 0, .int .i64 0, .int .i64 0, .int .i64 0]) 32 infoSpec rfl (by decide) (ys.drop ys.length) (n0 := ys.length + 1) (by simp <;> omega) rfl (hS2.own_ 0 rfl) (hS2.nodup 0 rfl) _ _ _ (by rw [List.length_drop]; (try omega)) rfl (fun h0 => absurd h0 (by omega)) (by simp [maxLen] <;> omega) (by omega) ?_; rintro g3 q3 W3 F3 hO hB hnd3 hF; have hS3 := hS2.appK 0 rfl hO hB hnd3 (fun q hq => (hF q hq).elim .inl (fun h => .inr (.inr h))); clear hO hB hF hS2))
          have hS4 := (hS3.front 1 rfl).drop
          have hS5 := (hS4.front 1 rfl).drop
          obtain ⟨A9, c9, hv9, hcl9, _⟩ := hS5.row 0 rfl
          have hN := (Value.slice.inj hv9).2.1
          rw [hN] at hS5
          clear hv9 hcl9
          go_roundw
          case rel => exact ⟨k + 1, g3, q3, (([] ++ ys.take ys.length) ++ [s]) ++ ys.drop ys.length, F3, by omega, by go_num, by first | (rw [← hN]) | (congr 1; rw [← hN]; simp) | (congr 1; simp; omega), Lib.hid (by rw [HP.out, HE.out]; simp), hS5⟩
          case measure => simp [intOf]; omega
      obtain ⟨y, hy⟩ := get_exU ys j hjl
      have j1 : (j : Int) < (ys.length : Int) := by omega
      by_cases hys : LtS y s
      · have hd := decide_eq_true hys
        have HN := Lib.hid (show ∀ i y', ys[i]? = some y' → i < j + 1 → LtS y' s from fun i y' hy' hi => by
          by_cases hij : i < j
          · exact HB.out i y' hy' hij
          · obtain rfl : i = j := by omega
            obtain rfl := Option.some.inj (hy.symm.trans hy')
            exact hys)
        clear hys HB
        go_wp2
        refine wp_region_held_drew (S := (fun (w' : World) => w'.cell? ⟨g, j * 4, none⟩ = some (.int .i64 y.fn) ∧ w'.cell? ⟨g, j * 4 + 1, none⟩ = some (.int .i64 y.pc) ∧ w'.cell? ⟨g, j * 4 + 2, none⟩ = some (.int .i64 y.kind) ∧ w'.cell? ⟨g, j * 4 + 3, none⟩ = some (.int .i64 y.target) ∧ w'.cell? ⟨gs, 0, none⟩ = some (.int .i64 s.fn) ∧ w'.cell? ⟨gs, 1, none⟩ = some (.int .i64 s.pc) ∧ w'.cell? ⟨gs, 2, none⟩ = some (.int .i64 s.kind) ∧ w'.cell? ⟨gs, 3, none⟩ = some (.int .i64 s.target))) (by kernel_rfl) (⟨(hSd.cellS 1 rfl j y hy).1, (hSd.cellS 1 rfl j y hy).2.1, (hSd.cellS 1 rfl j y hy).2.2.1, (hSd.cellS 1 rfl j y hy).2.2.2, hSd.cell 0 rfl 0, hSd.cell 0 rfl 1, hSd.cell 0 rfl 2, hSd.cell 0 rfl 3⟩) (fun hHeld => ?_)
        (iterate 10 (first | refine rQ1 ?_ | refine rQ2 ?_); try simp only [pP])
        refine regC 10 rfl (by kernel_rfl) (by rfl) (fun Kq hKq => ?_)
        go_simp
        (with_reducible refine (less10 y s _ hd).mono ?_)
        rintro e w2 ⟨rfl, hb⟩; have hS2 := hSd.step hb; clear hb
        try go_wp2_with fail
        refine hKq.out _ _ (⟨(hS2.cellS 1 rfl j y hy).1, (hS2.cellS 1 rfl j y hy).2.1, (hS2.cellS 1 rfl j y hy).2.2.1, (hS2.cellS 1 rfl j y hy).2.2.2, hS2.cell 0 rfl 0, hS2.cell 0 rfl 1, hS2.cell 0 rfl 2, hS2.cell 0 rfl 3⟩) (fun hHeld => ?_)
        clear hKq Kq
        (try simp only [pP])
        (first | refine rQ1 ?_ | refine rQ2 ?_); (try simp only [pP])
        refine wpAnyH_done (by kernel_rfl) ?_ _
        clear hHeld
        go_wp2
        go_roundw
        case rel => exact ⟨j + 1, by omega, by go_num, HN, hS2⟩
        case measure => simp [intOf]; omega
      · have hd := decide_eq_false hys
        have HA := Lib.hid (put_at ys j (fun i y' hy' hi => HB.out i y' hy' hi) (fun y' hy' => by
          obtain rfl := Option.some.inj (hy.symm.trans hy')
          exact hys) (by omega))
        clear hys HB
        go_wp2
        refine wp_region_held_drew (S := (fun (w' : World) => w'.cell? ⟨g, j * 4, none⟩ = some (.int .i64 y.fn) ∧ w'.cell? ⟨g, j * 4 + 1, none⟩ = some (.int .i64 y.pc) ∧ w'.cell? ⟨g, j * 4 + 2, none⟩ = some (.int .i64 y.kind) ∧ w'.cell? ⟨g, j * 4 + 3, none⟩ = some (.int .i64 y.target) ∧ w'.cell? ⟨gs, 0, none⟩ = some (.int .i64 s.fn) ∧ w'.cell? ⟨gs, 1, none⟩ = some (.int .i64 s.pc) ∧ w'.cell? ⟨gs, 2, none⟩ = some (.int .i64 s.kind) ∧ w'.cell? ⟨gs, 3, none⟩ = some (.int .i64 s.target))) (by kernel_rfl) (⟨(hSd.cellS 1 rfl j y hy).1, (hSd.cellS 1 rfl j y hy).2.1, (hSd.cellS 1 rfl j y hy).2.2.1, (hSd.cellS 1 rfl j y hy).2.2.2, hSd.cell 0 rfl 0, hSd.cell 0 rfl 1, hSd.cell 0 rfl 2, hSd.cell 0 rfl 3⟩) (fun hHeld => ?_)
        (iterate 10 (first | refine rQ1 ?_ | refine rQ2 ?_); try simp only [pP])
        refine regC 10 rfl (by kernel_rfl) (by rfl) (fun Kq hKq => ?_)
        go_simp
        (with_reducible refine (less10 y s _ hd).mono ?_)
        rintro e w2 ⟨rfl, hb⟩; have hS2 := hSd.step hb; clear hb
        try go_wp2_with fail
        refine hKq.out _ _ (⟨(hS2.cellS 1 rfl j y hy).1, (hS2.cellS 1 rfl j y hy).2.1, (hS2.cellS 1 rfl j y hy).2.2.1, (hS2.cellS 1 rfl j y hy).2.2.2, hS2.cell 0 rfl 0, hS2.cell 0 rfl 1, hS2.cell 0 rfl 2, hS2.cell 0 rfl 3⟩) (fun hHeld => ?_)
        clear hKq Kq
        (try simp only [pP])
        (first | refine rQ1 ?_ | refine rQ2 ?_); (try simp only [pP])
        refine wpAnyH_done (by kernel_rfl) ?_ _
        clear hHeld
        have hSdd := hS2.drew
        by_cases heq : y = s
        · subst heq
          have HE := Lib.hid (show putL ys y = ys by rw [HA.out, if_pos hy])
          go_wp2
          refine wp_region_held_drew (S := (fun (w' : World) => w'.cell? ⟨g, j * 4, none⟩ = some (.int .i64 y.fn) ∧ w'.cell? ⟨g, j * 4 + 1, none⟩ = some (.int .i64 y.pc) ∧ w'.cell? ⟨g, j * 4 + 2, none⟩ = some (.int .i64 y.kind) ∧ w'.cell? ⟨g, j * 4 + 3, none⟩ = some (.int .i64 y.target) ∧ w'.cell? ⟨gs, 0, none⟩ = some (.int .i64 y.fn) ∧ w'.cell? ⟨gs, 1, none⟩ = some (.int .i64 y.pc) ∧ w'.cell? ⟨gs, 2, none⟩ = some (.int .i64 y.kind) ∧ w'.cell? ⟨gs, 3, none⟩ = some (.int .i64 y.target))) (by kernel_rfl) (⟨(hSdd.cellS 1 rfl j y hy).1, (hSdd.cellS 1 rfl j y hy).2.1, (hSdd.cellS 1 rfl j y hy).2.2.1, (hSdd.cellS 1 rfl j y hy).2.2.2, hSdd.cell 0 rfl 0, hSdd.cell 0 rfl 1, hSdd.cell 0 rfl 2, hSdd.cell 0 rfl 3⟩) (fun hHeld => ?_)
          (iterate 12 (first | refine rQ1 ?_ | refine rQ2 ?_); try simp only [pP])
          refine wpAnyH_done (by kernel_rfl) ?_ _
          clear hHeld
          go_wp2
          go_roundw
          case rel => exact ⟨k + 1, g, cv, ys, F, by omega, by go_num, rfl, Lib.hid (by rw [HP.out, HE.out]), hSdd.drop⟩
          case measure => simp [intOf]; omega
        · have hne := spec_ne heq
          have HE := Lib.hid (show putL ys s = ys.take j ++ s :: ys.drop j by rw [HA.out, if_neg (fun e => heq (Option.some.inj (hy.symm.trans e)))])
          clear heq HA
          rcases hne with f1 | ⟨f1, f2⟩ | ⟨f1, f2, f3⟩ | ⟨f1, f2, f3, f4⟩
          all_goals
            go_wp2
            refine wp_region_held_drew (S := (fun (w' : World) => w'.cell? ⟨g, j * 4, none⟩ = some (.int .i64 y.fn) ∧ w'.cell? ⟨g, j * 4 + 1, none⟩ = some (.int .i64 y.pc) ∧ w'.cell? ⟨g, j * 4 + 2, none⟩ = some (.int .i64 y.kind) ∧ w'.cell? ⟨g, j * 4 + 3, none⟩ = some (.int .i64 y.target) ∧ w'.cell? ⟨gs, 0, none⟩ = some (.int .i64 s.fn) ∧ w'.cell? ⟨gs, 1, none⟩ = some (.int .i64 s.pc) ∧ w'.cell? ⟨gs, 2, none⟩ = some (.int .i64 s.kind) ∧ w'.cell? ⟨gs, 3, none⟩ = some (.int .i64 s.target))) (by kernel_rfl) (⟨(hSdd.cellS 1 rfl j y hy).1, (hSdd.cellS 1 rfl j y hy).2.1, (hSdd.cellS 1 rfl j y hy).2.2.1, (hSdd.cellS 1 rfl j y hy).2.2.2, hSdd.cell 0 rfl 0, hSdd.cell 0 rfl 1, hSdd.cell 0 rfl 2, hSdd.cell 0 rfl 3⟩) (fun hHeld => ?_)
            (iterate 12 (first | refine rQ1 ?_ | refine rQ2 ?_); try simp only [pP])
            refine wpAnyH_done (by kernel_rfl) ?_ _
            clear hHeld
            have hE := hSdd.empty kSpec 110 _ rfl
            have x_s := hE.cell 1 rfl
            have hTk := row_takeK (d := kSpec) (St.rowA hE 2 rfl) j (by omega)
            have hl1 : (ys.take j).length = j := by rw [List.length_take]; omega
            have z0 : (0 : Int) ≤ (j : Int) := by omega
            have z1 : (j : Int) ≤ (ys.length : Int) := by omega
            have z2 : (j : Int) ≤ (cv : Int) := by omega
            have z3 : ¬ (cv = j) := by omega
            go_wp2_with (first | (at_builtin; refine Knd.wp_appSl kSpec specKO rfl _ _ _ rfl 110 Tryz.underlying32 (.agg #[.int .i64 0, .int .i64 0, .int .i64 0, .int .i64 0]) 32 infoSpec rfl (by decide) (ys.take j) (n0 := 0) rfl rfl (hE.own_ 0 rfl) (hE.nodup 0 rfl) _ _ _ hl1.symm rfl (fun _ => ⟨_, rfl, hTk⟩) (by simp [maxLen]; omega) (by omega) ?_; rintro g1 q1 W1 F1 hO hB hnd hF; have hS1 := hE.appK 0 rfl hO hB hnd (fun q hq => (hF q hq).elim .inl (fun h => .inr (.inr h))); have x_s1 := hS1.cell 1 rfl; clear hO hB hF x_s hE; rw [Nat.zero_add] at hS1 ⊢; have hS1a := hS1.al (.cells #[.int .i64 s.fn, .int .i64 s.pc, .int .i64 s.kind, .int .i64 s.target] 110 (0, 0))) | (at_builtin; refine Knd.wp_appE kSpec rfl _ _ _ rfl 110 Tryz.underlying32 (.agg #[.int .i64 0, .int .i64 0, .int .i64 0, .int .i64 0]) 32 infoSpec rfl (by decide) rfl (hS1a.own_ 0 rfl) _ _ _ _ s (blkAt _ _ (by simp)) rfl (kSpec_Oi.2 ⟨rfl, rfl⟩) (by have := hS1a.nodup 0 rfl; simpa [Res.own] using this) (by simp [maxLen]; omega) (by simp; omega) ?_; rintro g2 q2 W2 F2 hO hB hnd2 hF; have hS2 := hS1a.appK 0 rfl hO hB hnd2 hF; clear hO hB hF hS1 hS1a x_s1; have hl2 : (([] : List DSpec) ++ ys.take j).length + 1 = j + 1 := (by rw [List.nil_append, hl1]); (rw [hl2] at hS2 ⊢); have hTd := row_dropZ (d := kSpec) (St.rowA hS2 2 rfl) j (by omega); rw [add_lit0] at hTd) | (at_builtin; refine Knd.wp_appSl kSpec specKO rfl _ _ _ rfl 110 Tryz.underlying32 (.agg #[.int .i64 0, .int .i64 0, .int .i64 0, .int .i64 0]) 32 infoSpec rfl (by decide) (ys.drop j) (n0 := j + 1) (by simp <;> omega) rfl (hS2.own_ 0 rfl) (hS2.nodup 0 rfl) _ _ _ (by rw [List.length_drop]) rfl (fun h0 => ⟨_, rfl, hTd⟩) (by simp [maxLen] <;> omega) (by omega) ?_; rintro g3 q3 W3 F3 hO hB hnd3 hF; have hS3 := hS2.appK 0 rfl hO hB hnd3 (fun q hq => (hF q hq).elim .inl (fun h => .inr (.inr h))); clear hO hB hF hS2))
            have hS4 := (hS3.front 1 rfl).drop
            have hS5 := (hS4.front 1 rfl).drop
            obtain ⟨A9, c9, hv9, hcl9, _⟩ := hS5.row 0 rfl
            have hN := (Value.slice.inj hv9).2.1
            rw [hN] at hS5
            clear hv9 hcl9
            go_roundw
            case rel => exact ⟨k + 1, g3, q3, (([] ++ ys.take j) ++ [s]) ++ ys.drop j, F3, by omega, by go_num, by first | (rw [← hN]) | (congr 1; rw [← hN]; simp) | (congr 1; simp; omega), Lib.hid (by rw [HP.out, HE.out]; simp), hS5⟩
            case measure => simp [intOf]; omega
end Go.Proofs.YthinhlcfpaaldaaGreat.Dat

/- A bundle: Reg Reg2 GB GSite GSpec GValue GRec GFrame GPlan GVm. -/
import Derived.Test.YtpjdecneeakkeaaDoorK1
import Derived.Deep.RegionHeld3
import Derived.Test.YtpjdecneeakkeaaDoorK3
/- Regions that draw their order, walked by hand: what yields is taken first (wanted or not), what alone may come up is carried out. -/
namespace Go.Proofs.YtpjdecneeakkeaaDoor.Mem
open Go Go.RowKit
set_option linter.unusedVariables false
set_option linter.unusedSimpArgs false
section
variable {P : Program} {L : List Oper} {Q : Exit → Act → World → Prop} {md : Region.Mode} {S : World → Prop} {fuel : Nat} {listed : Array Bool} {a : Act} {w : World}
/-- Number i may be taken first. -/
def regOk (md : Region.Mode) (L : List Oper) (listed : Array Bool) (i : Nat) : Bool := Region.noSelect L.toArray && (Region.free md L.toArray listed i && (Region.ready md L.toArray listed).contains i)
theorem regOk_of {md : Region.Mode} {L : List Oper} {listed : Array Bool} {i : Nat} (h : regOk md L listed i = true) : Region.noSelect L.toArray = true ∧ Region.free md L.toArray listed i = true ∧ (Region.ready md L.toArray listed).contains i = true := by
  unfold regOk at h
  rw [Bool.and_eq_true, Bool.and_eq_true] at h
  exact h
theorem regW (i : Nat) {o : Oper} {v : Value} (hi : L[i]? = some o) (hw : Region.wanted o (yielded L.toArray a.tmps) = true) (hk : regOk md L listed i = true)
    (hQ : ∀ c a w, Q (.panic c) (a.put o.dst v) w → Q (.panic c) a w) (hv : ∀ w, S w → (execOp a.eval o).run P w = .ok (.value v) w) (hS : S w)
    (h : wpAnyH P md L.toArray Q S fuel (listed.setIfInBounds i true) (a.put o.dst v) w) : wpAnyH P md L.toArray Q S (fuel + 1) listed a w :=
  wpAnyH_take (by simpa using hi) (regOk_of hk).1 (regOk_of hk).2.1 (regOk_of hk).2.2 hQ (Or.inl ⟨hw, hv⟩) hS h
theorem regU (i : Nat) {o : Oper} (hi : L[i]? = some o) (hw : Region.wanted o (yielded L.toArray a.tmps) = false) (hk : regOk md L listed i = true)
    (hQ : ∀ c a w, Q (.panic c) (a.put o.dst undef) w → Q (.panic c) a w) (hS : S w)
    (h : wpAnyH P md L.toArray Q S fuel (listed.setIfInBounds i true) (a.put o.dst undef) w) : wpAnyH P md L.toArray Q S (fuel + 1) listed a w :=
  wpAnyH_take (by simpa using hi) (regOk_of hk).1 (regOk_of hk).2.1 (regOk_of hk).2.2 hQ (Or.inr ⟨hw, rfl⟩) hS h
/-- A row of operations that are not wanted, one behind the other. -/
def skipL (L : List Oper) : List Nat → Array Bool × Act → Array Bool × Act
  | [], s => s
  | i :: is, s => skipL L is (s.1.setIfInBounds i true, s.2.put ((L[i]?).bind (·.dst)) undef)
def skipOk (md : Region.Mode) (L : List Oper) : List Nat → Array Bool × Act → Bool
  | [], _ => true
  | i :: is, s => (match L[i]? with
    | none => false
    | some o => !(Region.wanted o (yielded L.toArray s.2.tmps)) && (regOk md L s.1 i || (Region.ready md L.toArray s.1 == [i]))) && skipOk md L is (s.1.setIfInBounds i true, s.2.put ((L[i]?).bind (·.dst)) undef)
theorem regS (hQ : ∀ c a w d, Q (.panic c) (Act.put a d undef) w → Q (.panic c) a w) : ∀ (is : List Nat) (n : Nat) (listed : Array Bool) (a : Act), n = fuel + is.length → skipOk md L is (listed, a) = true → S w →
    wpAnyH P md L.toArray Q S fuel (skipL L is (listed, a)).1 (skipL L is (listed, a)).2 w → wpAnyH P md L.toArray Q S n listed a w
  | [], n, listed, a, hn, _, _, h => by
    have e : n = fuel := by simpa using hn
    subst e
    exact h
  | i :: is, n, listed, a, hn, hk, hS, h => by
    obtain ⟨m, rfl⟩ : ∃ m, n = m + 1 := ⟨n - 1, by simp at hn; omega⟩
    unfold skipOk at hk
    rw [Bool.and_eq_true] at hk
    obtain ⟨h1, h2⟩ := hk
    cases ho : L[i]? with
    | none => rw [ho] at h1; cases h1
    | some o =>
      rw [ho] at h1 h2
      simp only [Bool.and_eq_true, Bool.or_eq_true, Bool.not_eq_true'] at h1
      have hr : wpAnyH P md L.toArray Q S m (listed.setIfInBounds i true) (a.put o.dst undef) w := regS hQ is m _ _ (by simp at hn; omega) h2 hS (by
        have : skipL L (i :: is) (listed, a) = skipL L is (listed.setIfInBounds i true, a.put o.dst undef) := by rw [skipL, ho]; rfl
        rw [this] at h
        exact h)
      rcases h1.2 with hok | hone
      · exact regU i ho h1.1 hok (fun c a w => hQ c a w o.dst) hS hr
      · exact wpAnyH_ready (by simpa using hone) (by simp) (AllReadyH.cons (by simpa using ho) (fun K hK => by rw [h1.1]; exact hK.out _ _ hS (fun _ => hr)) AllReadyH.nil)
theorem regC (i : Nat) {o : Oper} (hi : L[i]? = some o) (hr : Region.ready md L.toArray listed = [i]) (hw : Region.wanted o (yielded L.toArray a.tmps) = true)
    (h : ∀ K' : Act → World → Prop, Shut (∀ a w, S w → (S w → wpAnyH P md L.toArray Q S fuel (listed.setIfInBounds i true) a w) → K' a w) → Oper.wp P o a w K' Q) : wpAnyH P md L.toArray Q S (fuel + 1) listed a w :=
  wpAnyH_ready hr (by simp) (AllReadyH.cons (by simpa using hi) (fun K hK => by rw [if_pos hw]; exact h K hK) AllReadyH.nil)
theorem regN (i : Nat) {o : Oper} (hi : L[i]? = some o) (hw : Region.wanted o (yielded L.toArray a.tmps) = false) (hr : Region.ready md L.toArray listed = [i]) (hS : S w)
    (h : wpAnyH P md L.toArray Q S fuel (listed.setIfInBounds i true) (a.put o.dst undef) w) : wpAnyH P md L.toArray Q S (fuel + 1) listed a w :=
  wpAnyH_ready hr (by simp) (AllReadyH.cons (by simpa using hi) (fun K hK => by rw [hw]; exact hK.out _ _ hS (fun _ => h)) AllReadyH.nil)
end
end Go.Proofs.YtpjdecneeakkeaaDoor.Mem

/- Two operations that may come up. -/
namespace Go.Proofs.YtpjdecneeakkeaaDoor.Mem
open Go Go.RowKit
section
variable {P : Program} {L : List Oper} {Q : Exit → Act → World → Prop} {md : Region.Mode} {S : World → Prop} {fuel : Nat} {listed : Array Bool} {a : Act} {w : World}
theorem regC2 (i j : Nat) {o o' : Oper} (hi : L[i]? = some o) (hj : L[j]? = some o') (hr : Region.ready md L.toArray listed = [i, j]) (hw : Region.wanted o (yielded L.toArray a.tmps) = true) (hw' : Region.wanted o' (yielded L.toArray a.tmps) = true)
    (h : ∀ K' : Act → World → Prop, Shut (∀ a w, S w → (S w → wpAnyH P md L.toArray Q S fuel (listed.setIfInBounds i true) a w) → K' a w) → Oper.wp P o a w K' Q)
    (h' : ∀ K' : Act → World → Prop, Shut (∀ a w, S w → (S w → wpAnyH P md L.toArray Q S fuel (listed.setIfInBounds j true) a w) → K' a w) → Oper.wp P o' a w K' Q) : wpAnyH P md L.toArray Q S (fuel + 1) listed a w :=
  wpAnyH_ready hr (by simp) (AllReadyH.cons (by simpa using hi) (fun K hK => by rw [if_pos hw]; exact h K hK) (AllReadyH.cons (by simpa using hj) (fun K hK => by rw [if_pos hw']; exact h' K hK) AllReadyH.nil))
end
end Go.Proofs.YtpjdecneeakkeaaDoor.Mem

/- Texts and numbers in rows: the laws' own functions, under the generated names. Written by a program (recgen.py). -/
namespace Go.Proofs.YtpjdecneeakkeaaDoor.Mem
open Go Go.RowKit
theorem St.cons {w W : World} {L : List Res} {r : Res} (h : St w L W) (hr : r.P W) (hn : r.F.Nodup) (ho : ∀ g ∈ r.F, w.heap.size ≤ g) (hd : ∀ q ∈ L, ∀ g ∈ r.F, g ∉ q.F) : St w (r :: L) W :=
  ⟨h.bel, fun q hq => by
    rcases List.mem_cons.1 hq with rfl | hq
    · exact hr
    · exact h.at_ q hq, fun q hq => by
    rcases List.mem_cons.1 hq with rfl | hq
    · exact ho
    · exact h.old q hq, by
    rw [List.map_cons, List.flatten_cons, List.nodup_append]
    refine ⟨hn, h.dis, fun a ha b hb e => ?_⟩
    subst e
    obtain ⟨F, hF, haF⟩ := List.mem_flatten.1 hb
    obtain ⟨q, hq, rfl⟩ := List.mem_map.1 hF
    exact hd q hq a ha haF⟩
theorem Knd.At.cellj {α : Type} {d : Knd α} {e : Nat} {w : World} {g n c : Nat} {xs : List α} {Fs : List (List Nat)} {inner : List Value} (h : Knd.At d e w g n c xs Fs inner) (j i : Nat) (hj : j < xs.length) {cs : List Value} (hs : Knd.At.seg d inner j = cs) {u : Value} (hu : cs[i]? = some u) : w.cell? ⟨g, j * d.sz + i, none⟩ = some u := by
  subst hs
  have hi : i < d.sz := by
    have := (List.getElem?_eq_some_iff.1 hu).1
    unfold Knd.At.seg at this
    rw [List.length_take] at this
    omega
  have hle : (j + 1) * d.sz ≤ xs.length * d.sz := Nat.mul_le_mul_right _ hj
  rw [Nat.succ_mul] at hle
  rw [h.cell _ (by omega)]
  unfold Knd.At.seg at hu
  rwa [List.getElem?_take_of_lt hi, List.getElem?_drop] at hu
theorem St.bare {w W : World} (h : Below w.heap.size w W) : St w [] W := ⟨h, by simp, by simp, by simp⟩
/-- What a call lays, laid among what is there. -/
theorem St.join {w W W' : World} {L L2 : List Res} (h : St w L W) (k : St W L2 W') : St w (L2 ++ L) W' := by
  have h2 := h.step k.bel
  refine ⟨h2.bel, fun q hq => ?_, fun q hq g hg => ?_, ?_⟩
  · rcases List.mem_append.1 hq with hq | hq
    · exact k.at_ q hq
    · exact h2.at_ q hq
  · rcases List.mem_append.1 hq with hq | hq
    · exact Nat.le_trans h.bel.size (k.old q hq g hg)
    · exact h2.old q hq g hg
  · rw [List.map_append, List.flatten_append, List.nodup_append]
    refine ⟨k.dis, h2.dis, fun a ha b hb e => ?_⟩
    subst e
    obtain ⟨F, hF, haF⟩ := List.mem_flatten.1 ha
    obtain ⟨q, hq, rfl⟩ := List.mem_map.1 hF
    obtain ⟨F', hF', haF'⟩ := List.mem_flatten.1 hb
    obtain ⟨q', hq', rfl⟩ := List.mem_map.1 hF'
    have h8 := k.old q hq a haF
    have h9 := q'.lt (h.at_ q' hq') a haF'
    omega
end Go.Proofs.YtpjdecneeakkeaaDoor.Mem
namespace Go.Proofs.YtpjdecneeakkeaaDoor.Dat
open Go Go.RowKit Go.Proofs.YtpjdecneeakkeaaDoor.Mem
set_option linter.unusedVariables false
set_option linter.unusedSimpArgs false
theorem ctL_le2 {α : Type} {f ct : α → Nat} (N : Nat) (h : ∀ x, ct x ≤ N * (f x + 1)) : ∀ l : List α, ctL ct l ≤ N * sumOf f l
  | [] => by simp [ctL, sumOf]
  | x :: l => by
    have h1 := ctL_le2 N h l
    have h2 := h x
    unfold ctL sumOf at h1 ⊢
    simp only [List.map_cons, List.sum_cons, List.length_cons, Nat.mul_add, Nat.mul_one] at h1 h2 ⊢
    omega
theorem ctL_const {α : Type} (n : Nat) : ∀ l : List α, ctL (fun _ => n) l = n * l.length
  | [] => by simp [ctL]
  | x :: l => by
    have h1 := ctL_const n l
    unfold ctL at h1 ⊢
    simp only [List.map_cons, List.sum_cons, List.length_cons, Nat.mul_add, Nat.mul_one]
    omega
theorem ctL_sum {α : Type} {f : α → Nat} {ct : α → Nat} (l : List α) (h : ∀ x ∈ l, ct x ≤ f x) : ctL ct l ≤ (l.map f).sum := by
  unfold ctL
  induction l with
  | nil => simp
  | cons x l ih =>
    have h1 := ih (fun y hy => h y (List.mem_cons_of_mem _ hy))
    have h2 := h x (by simp)
    simp only [List.map_cons, List.sum_cons]
    omega
theorem szStringS_c (A : Option Addr) (c : Nat) (l : List ByteArray) (left : Int) (w : World) (hr : Knd.str.Row w A l.length l) (hm : l.length ≤ maxLen) (hv : ∀ x ∈ l, x.size ≤ maxLen) (h0 : 0 ≤ left) (h1 : left ≤ 1048576) : Calls Tryd.prog 53 #[.slice A l.length c, .int .i64 left] w fun e w' => e = .returned (.int .i64 (lft (sumOf ByteArray.size l) left)) ∧ Below w.heap.size w w' := szStringS A c l left w hr hm hv h0 h1
theorem toStringS_c (A : Option Addr) (c : Nat) (l : List ByteArray) (w : World) (hr : Knd.str.Row w A l.length l) (hm : l.length ≤ 1048576 ∧ ∀ y ∈ l, y.size ≤ 1048576) : Calls Tryd.prog 56 #[.slice A l.length c] w (NewRow Knd.str 9 l w) := toStringS A c l w hr hm.1
theorem eqStringS_c (A B : Option Addr) (c c' : Nat) (l : List ByteArray) (w : World) (hr : Knd.str.Row w A l.length l) (hr' : Knd.str.Row w B l.length l) : Calls Tryd.prog 59 #[.slice A l.length c, .slice B l.length c'] w fun e w' => e = .returned (.bool true) ∧ Below w.heap.size w w' := eqStringS A B c c' l w hr hr'
end Go.Proofs.YtpjdecneeakkeaaDoor.Dat

/- The laws' own functions over Site. Written by a program (recgen.py). -/
namespace Go.Proofs.YtpjdecneeakkeaaDoor.Dat
open Go Go.RowKit Go.Proofs.YtpjdecneeakkeaaDoor.Mem
set_option linter.unusedVariables false
set_option linter.unusedSimpArgs false
structure DSite where
  fn : Int
  pc : Int
  seen : Int
  target : Int
def zSite : DSite := ⟨0, 0, 0, 0⟩
def kSite : Knd DSite := Knd.iso (Knd.pair (Knd.int .i64) (Knd.pair (Knd.int .i64) (Knd.pair (Knd.int .i64) (Knd.int .i64)))) (fun x => (x.fn, x.pc, x.seen, x.target))
/-- What is handed in meets this. -/
def VSite (x : DSite) : Prop := (Lit.int .i64 x.fn).wf = true ∧ (Lit.int .i64 x.pc).wf = true ∧ (Lit.int .i64 x.seen).wf = true ∧ (Lit.int .i64 x.target).wf = true
theorem kSite_K {w : World} {x : DSite} {cs : List Value} : kSite.K w x cs ↔ cs = [.int .i64 x.fn, .int .i64 x.pc, .int .i64 x.seen, .int .i64 x.target] := by
  constructor
  · rintro ⟨_, _, rfl, rfl, ⟨_, _, rfl, rfl, ⟨_, _, rfl, rfl, rfl⟩⟩⟩
    rfl
  · rintro rfl
    exact ⟨[.int .i64 x.fn], [.int .i64 x.pc, .int .i64 x.seen, .int .i64 x.target], rfl, rfl, ⟨[.int .i64 x.pc], [.int .i64 x.seen, .int .i64 x.target], rfl, rfl, ⟨[.int .i64 x.seen], [.int .i64 x.target], rfl, rfl, rfl⟩⟩⟩
theorem kSite_at {w : World} {A : Option Addr} {m : Nat} {xs : List DSite} (h : kSite.Row w A m xs) (i : Nat) (x : DSite) (hx : xs[i]? = some x) : ∃ (ad : Addr), A = some ad ∧ w.cell? (ad.add (i * 4)) = some (.int .i64 x.fn) ∧ w.cell? ⟨(ad.add (i * 4)).block, (ad.add (i * 4)).off + 1, none⟩ = some (.int .i64 x.pc) ∧ w.cell? ⟨(ad.add (i * 4)).block, (ad.add (i * 4)).off + 2, none⟩ = some (.int .i64 x.seen) ∧ w.cell? ⟨(ad.add (i * 4)).block, (ad.add (i * 4)).off + 3, none⟩ = some (.int .i64 x.target) := by
  obtain ⟨ad, c, e, hK, hc0⟩ := h.get i x hx
  have hc : ∀ j u, c[j]? = some u → w.cell? (ad.add (i * 4 + j)) = some u := hc0
  obtain rfl := kSite_K.1 hK
  exact ⟨ad, e, hc 0 _ rfl, (by rw [← add_field _ _ 1 (by omega)]; exact hc 1 _ rfl), (by rw [← add_field _ _ 2 (by omega)]; exact hc 2 _ rfl), (by rw [← add_field _ _ 3 (by omega)]; exact hc 3 _ rfl)⟩
def ctSite (x : DSite) : Nat := 4
def mkSite (k : Int) (x : DSite) : DSite := { fn := k, pc := k + 1, seen := k + 1 + 1, target := k + 1 + 1 + 1 }
theorem kSite_Oi {w : World} {x : DSite} {cs : List Value} {F : List Nat} : kSite.O w x cs F ↔ cs = [.int .i64 x.fn, .int .i64 x.pc, .int .i64 x.seen, .int .i64 x.target] ∧ F = [] := by
  constructor
  · rintro ⟨_, _, _, _, rfl, rfl, ⟨rfl, rfl⟩, ⟨_, _, _, _, rfl, rfl, ⟨rfl, rfl⟩, ⟨_, _, _, _, rfl, rfl, ⟨rfl, rfl⟩, ⟨rfl, rfl⟩⟩⟩⟩
    exact ⟨rfl, rfl⟩
  · rintro ⟨rfl, rfl⟩
    have h : kSite.O w x [.int .i64 x.fn, .int .i64 x.pc, .int .i64 x.seen, .int .i64 x.target] (([] ++ ([] ++ ([] ++ [])))) := ⟨[.int .i64 x.fn], [.int .i64 x.pc, .int .i64 x.seen, .int .i64 x.target], [], ([] ++ ([] ++ [])), rfl, by simp, ⟨rfl, rfl⟩, ⟨[.int .i64 x.pc], [.int .i64 x.seen, .int .i64 x.target], [], ([] ++ []), rfl, by simp, ⟨rfl, rfl⟩, ⟨[.int .i64 x.seen], [.int .i64 x.target], [], [], rfl, by simp, ⟨rfl, rfl⟩, ⟨rfl, rfl⟩⟩⟩⟩
    simpa using h
set_option maxHeartbeats 4000000 in
set_option maxRecDepth 100000 in
theorem szSiteS_c (A : Option Addr) (c : Nat) (l : List DSite) (left : Int) (w : World) (hr : kSite.Row w A l.length l) (hm : l.length ≤ maxLen) (hv : ∀ x ∈ l, VSite x) (h0 : 0 ≤ left) (h1 : left ≤ 1048576) : Calls Tryd.prog 67 #[.slice A l.length c, .int .i64 left] w fun e w' => e = .returned (.int .i64 (lft (l.length) left)) ∧ Below w.heap.size w w' := by
  unfold maxLen at hm
  by_cases h : (l.length : Int) ≤ left
  · have h2 : 0 ≤ left - (l.length : Int) := by omega
    go_enter Tryd.func67, Tryd.ntmps67
    go_wp2
    go_ret
    exact ⟨by simp [lft, h], Below.refl _ _⟩
  · have h2 : left - (l.length : Int) < 0 := by omega
    go_enter Tryd.func67, Tryd.ntmps67
    go_wp2
    go_ret
    exact ⟨by simp [lft]; omega, Below.refl _ _⟩
theorem infoSite : (Tryd.prog.info? 119).map (fun i => (i.zero, i.size, i.bytes)) = some (some (.agg #[.int .i64 0, .int .i64 0, .int .i64 0, .int .i64 0]), 4, 32) := by kernel_rfl
set_option maxHeartbeats 4000000 in
set_option maxRecDepth 100000 in
theorem toSite_c (x : DSite) (w : World) : Calls Tryd.prog 87 #[.agg #[.int .i64 x.fn, .int .i64 x.pc, .int .i64 x.seen, .int .i64 x.target]] w fun e w' => e = .returned (.agg #[.int .i64 x.fn, .int .i64 x.pc, .int .i64 x.seen, .int .i64 x.target]) ∧ Below w.heap.size w w' := by
  go_enter Tryd.func87, Tryd.ntmps87
  go_wp2
  refine bodyPost_ret (v := .agg #[.int .i64 x.fn, .int .i64 x.pc, .int .i64 x.seen, .int .i64 x.target]) (by simp [results, Tryd.results87, go_sem, true_and, *]) rfl ⟨rfl, (by repeat (first | with_reducible exact Below.refl _ _ | with_reducible assumption | (with_reducible refine bl_set ?_ (by dsimp only; omega) _) | with_reducible refine bl_alloc ?_ _ | with_reducible refine bl_drewN ?_ _ | with_reducible refine bl_drew ?_ | with_reducible refine bl_step ?_ (by with_reducible assumption) | exact Below.refl _ _ | assumption | (refine bl_set ?_ (by dsimp only; omega) _) | refine bl_alloc ?_ _ | refine bl_drewN ?_ _ | refine bl_drew ?_ | refine bl_step ?_ (by assumption)))⟩
theorem zSite_O (w : World) : kSite.O w zSite (Value.agg #[.int .i64 0, .int .i64 0, .int .i64 0, .int .i64 0]).cells.toList [] := kSite_Oi.2 ⟨rfl, rfl⟩
set_option maxHeartbeats 4000000 in
set_option maxRecDepth 100000 in
theorem toSiteS_c (A : Option Addr) (c : Nat) (l : List DSite) (w : World) (hr : kSite.Row w A l.length l) (hm : l.length ≤ 1048576) : Calls Tryd.prog 68 #[.slice A l.length c] w (NewRow kSite 119 l w) := by
  go_enter Tryd.func68, Tryd.ntmps68
  go_wp2_with (refine Knd.wp_made kSite rfl _ _ _ rfl l.length rfl rfl 119 Tryd.underlying88 (.agg #[.int .i64 0, .int .i64 0, .int .i64 0, .int .i64 0]) 32 infoSite rfl (by decide) (by omega) zSite zSite_O (by omega) ?_; rintro g w1 hg ho hb hz; have HG := Lib.hid hg; clear hg)
  have hg0 : w.heap.size ≤ g := Nat.le_of_eq HG.out.symm
  go_loopw [4] (fun i wr => ∃ k : Nat, k ≤ l.length ∧ i = .int .i64 k ∧ kSite.OwnF 119 wr (.slice (some ⟨g, 0, none⟩) l.length l.length) (l.take k ++ List.replicate (l.length - k) zSite) (List.replicate l.length []) ∧ Below w.heap.size w wr) (fun i _ => l.length - (intOf i).toNat)
  case atStart => exact ⟨0, by omega, rfl, by simpa using ho, hb⟩
  case round =>
    obtain ⟨k, hk, rfl, ho, hb⟩ := hrel
    by_cases hlt : k < l.length
    · obtain ⟨x, hx⟩ := get_exT l k hlt
      obtain ⟨ad, rfl, q0, q1, q2, q3⟩ := kSite_at (hr.below hb) k x hx
      have hp := part_set l zSite x k hx
      have hle : k < (l.take k ++ List.replicate (l.length - k) zSite).length := by simp; omega
      have hlen : (l.take k ++ List.replicate (l.length - k) zSite).length = l.length := by simp; omega
      have HP := Lib.hid hp
      have HX := Lib.hid hx
      have HL := Lib.hid hlen
      clear hp hx hlen
      have C := toSite_c x wr
      go_wp2_with fail
      refine C.mono ?_
      rintro e w' ⟨rfl, hb2⟩
      have ho2 := ho.below hb2
      obtain ⟨u0, s0⟩ := ho2.cell (k * 4) (by rw [HL.out]; show _ < l.length * 4; omega)
      have f0 := ho2.free (k * 4)
      obtain ⟨u1, s1⟩ := ho2.cell (k * 4 + 1) (by rw [HL.out]; show _ < l.length * 4; omega)
      have f1 := ho2.free (k * 4 + 1)
      obtain ⟨u2, s2⟩ := ho2.cell (k * 4 + 2) (by rw [HL.out]; show _ < l.length * 4; omega)
      have f2 := ho2.free (k * 4 + 2)
      obtain ⟨u3, s3⟩ := ho2.cell (k * 4 + 3) (by rw [HL.out]; show _ < l.length * 4; omega)
      have f3 := ho2.free (k * 4 + 3)
      go_wp2
      go_roundw
      case rel =>
        refine ⟨k + 1, by omega, by go_num, ?_, ?_⟩
        · have h1 := ho2.put k hle [.int .i64 x.fn, .int .i64 x.pc, .int .i64 x.seen, .int .i64 x.target] x [] (kSite_Oi.2 ⟨rfl, rfl⟩) (by simp) (by rw [rep_flat]; simp)
          rw [HP.out, rep_set] at h1
          exact h1
        · exact (by repeat (first | with_reducible exact Below.refl _ _ | with_reducible assumption | (with_reducible refine bl_set ?_ (by dsimp only; omega) _) | with_reducible refine bl_alloc ?_ _ | with_reducible refine bl_drewN ?_ _ | with_reducible refine bl_drew ?_ | with_reducible refine bl_step ?_ (by with_reducible assumption) | exact Below.refl _ _ | assumption | (refine bl_set ?_ (by dsimp only; omega) _) | refine bl_alloc ?_ _ | refine bl_drewN ?_ _ | refine bl_drew ?_ | refine bl_step ?_ (by assumption)))
      case measure => simp [intOf]; omega
    · obtain rfl : k = l.length := by omega
      go_wp2
      go_ret
      have h1 := ho.own
      rw [List.take_length, Nat.sub_self, List.replicate_zero, List.append_nil, rep_flat] at h1
      exact ⟨_, _, rfl, h1, by simp [Value.ownBlock], by simp [Value.ownBlock]; rw [HG.out]; exact Nat.le_refl _, hb⟩
set_option maxHeartbeats 4000000 in
set_option maxRecDepth 100000 in
theorem eqSite_c (x : DSite) (w : World) : Calls Tryd.prog 89 #[.agg #[.int .i64 x.fn, .int .i64 x.pc, .int .i64 x.seen, .int .i64 x.target], .agg #[.int .i64 x.fn, .int .i64 x.pc, .int .i64 x.seen, .int .i64 x.target]] w fun e w' => e = .returned (.bool true) ∧ Below w.heap.size w w' := by
  go_enter Tryd.func89, Tryd.ntmps89
  go_wp2
  go_ret
  exact ⟨rfl, (by repeat (first | with_reducible exact Below.refl _ _ | with_reducible assumption | (with_reducible refine bl_set ?_ (by dsimp only; omega) _) | with_reducible refine bl_alloc ?_ _ | with_reducible refine bl_drewN ?_ _ | with_reducible refine bl_drew ?_ | with_reducible refine bl_step ?_ (by with_reducible assumption) | exact Below.refl _ _ | assumption | (refine bl_set ?_ (by dsimp only; omega) _) | refine bl_alloc ?_ _ | refine bl_drewN ?_ _ | refine bl_drew ?_ | refine bl_step ?_ (by assumption)))⟩
set_option maxHeartbeats 4000000 in
set_option maxRecDepth 100000 in
theorem eqSiteS_c (A B : Option Addr) (c c' : Nat) (l : List DSite) (w : World) (hr : kSite.Row w A l.length l) (hr' : kSite.Row w B l.length l) : Calls Tryd.prog 72 #[.slice A l.length c, .slice B l.length c'] w fun e w' => e = .returned (.bool true) ∧ Below w.heap.size w w' := by
  have hm := hr.2.1
  go_enter Tryd.func72, Tryd.ntmps72
  go_wp2
  go_loopw [5] (fun i wr => ∃ k : Nat, k ≤ l.length ∧ i = .int .i64 k ∧ Below w.heap.size w wr) (fun i _ => l.length - (intOf i).toNat)
  case atStart => exact ⟨0, by omega, rfl, Below.refl _ _⟩
  case round =>
    obtain ⟨k, hk, rfl, hb⟩ := hrel
    by_cases hlt : k < l.length
    · obtain ⟨x, hx⟩ := get_exE l k hlt
      obtain ⟨ady, rfl, q0, q1, q2, q3⟩ := kSite_at (hr.below hb) k x hx
      obtain ⟨adz, rfl, p0, p1, p2, p3⟩ := kSite_at (hr'.below hb) k x hx
      clear hx
      go_wp2
      go_region_held3 (fun w' => w'.cell? (ady.add (k * 4)) = some (.int .i64 x.fn) ∧ w'.cell? ⟨(ady.add (k * 4)).block, (ady.add (k * 4)).off + 1, none⟩ = some (.int .i64 x.pc) ∧ w'.cell? ⟨(ady.add (k * 4)).block, (ady.add (k * 4)).off + 2, none⟩ = some (.int .i64 x.seen) ∧ w'.cell? ⟨(ady.add (k * 4)).block, (ady.add (k * 4)).off + 3, none⟩ = some (.int .i64 x.target) ∧ w'.cell? (adz.add (k * 4)) = some (.int .i64 x.fn) ∧ w'.cell? ⟨(adz.add (k * 4)).block, (adz.add (k * 4)).off + 1, none⟩ = some (.int .i64 x.pc) ∧ w'.cell? ⟨(adz.add (k * 4)).block, (adz.add (k * 4)).off + 2, none⟩ = some (.int .i64 x.seen) ∧ w'.cell? ⟨(adz.add (k * 4)).block, (adz.add (k * 4)).off + 3, none⟩ = some (.int .i64 x.target) ∧ Below wr.heap.size wr w') ((refine ⟨?_, ?_, ?_, ?_, ?_, ?_, ?_, ?_, ?_⟩ <;> first | assumption | (go_keep; done) | exact (by repeat (first | with_reducible exact Below.refl _ _ | with_reducible assumption | (with_reducible refine bl_set ?_ (by dsimp only; omega) _) | with_reducible refine bl_alloc ?_ _ | with_reducible refine bl_drewN ?_ _ | with_reducible refine bl_drew ?_ | with_reducible refine bl_step ?_ (by with_reducible assumption) | exact Below.refl _ _ | assumption | (refine bl_set ?_ (by dsimp only; omega) _) | refine bl_alloc ?_ _ | refine bl_drewN ?_ _ | refine bl_drew ?_ | refine bl_step ?_ (by assumption))))) (first | (go_at_call 89; refine (eqSite_c _ _).mono ?_; rintro e w' ⟨rfl, hb2⟩; have q0 := kept hb2 q0; have q1 := kept hb2 q1; have q2 := kept hb2 q2; have q3 := kept hb2 q3; have p0 := kept hb2 p0; have p1 := kept hb2 p1; have p2 := kept hb2 p2; have p3 := kept hb2 p3; have hW2 : Below wr.heap.size wr w' := (by repeat (first | with_reducible exact Below.refl _ _ | with_reducible assumption | (with_reducible refine bl_set ?_ (by dsimp only; omega) _) | with_reducible refine bl_alloc ?_ _ | with_reducible refine bl_drewN ?_ _ | with_reducible refine bl_drew ?_ | with_reducible refine bl_step ?_ (by with_reducible assumption) | exact Below.refl _ _ | assumption | (refine bl_set ?_ (by dsimp only; omega) _) | refine bl_alloc ?_ _ | refine bl_drewN ?_ _ | refine bl_drew ?_ | refine bl_step ?_ (by assumption)))))
      go_wp2
      go_roundw
      case rel => exact ⟨k + 1, by omega, by go_num, (by repeat (first | with_reducible exact Below.refl _ _ | with_reducible assumption | (with_reducible refine bl_set ?_ (by dsimp only; omega) _) | with_reducible refine bl_alloc ?_ _ | with_reducible refine bl_drewN ?_ _ | with_reducible refine bl_drew ?_ | with_reducible refine bl_step ?_ (by with_reducible assumption) | exact Below.refl _ _ | assumption | (refine bl_set ?_ (by dsimp only; omega) _) | refine bl_alloc ?_ _ | refine bl_drewN ?_ _ | refine bl_drew ?_ | refine bl_step ?_ (by assumption)))⟩
      case measure => simp [intOf]; omega
    · go_wp2
      go_ret
      exact ⟨rfl, hb⟩
theorem ctLeSite (l : List DSite) : ctL ctSite l ≤ 4 * l.length := by
  have h := ctL_const 4 l
  have e : ctSite = fun _ => 4 := rfl
  rw [e]
  omega
end Go.Proofs.YtpjdecneeakkeaaDoor.Dat

/- The laws' own functions over Spec. Written by a program (recgen.py). -/
namespace Go.Proofs.YtpjdecneeakkeaaDoor.Dat
open Go Go.RowKit Go.Proofs.YtpjdecneeakkeaaDoor.Mem
set_option linter.unusedVariables false
set_option linter.unusedSimpArgs false
structure DSpec where
  fn : Int
  pc : Int
  kind : Int
  target : Int
def zSpec : DSpec := ⟨0, 0, 0, 0⟩
def kSpec : Knd DSpec := Knd.iso (Knd.pair (Knd.int .i64) (Knd.pair (Knd.int .i64) (Knd.pair (Knd.int .i64) (Knd.int .i64)))) (fun x => (x.fn, x.pc, x.kind, x.target))
/-- What is handed in meets this. -/
def VSpec (x : DSpec) : Prop := (Lit.int .i64 x.fn).wf = true ∧ (Lit.int .i64 x.pc).wf = true ∧ (Lit.int .i64 x.kind).wf = true ∧ (Lit.int .i64 x.target).wf = true
theorem kSpec_K {w : World} {x : DSpec} {cs : List Value} : kSpec.K w x cs ↔ cs = [.int .i64 x.fn, .int .i64 x.pc, .int .i64 x.kind, .int .i64 x.target] := by
  constructor
  · rintro ⟨_, _, rfl, rfl, ⟨_, _, rfl, rfl, ⟨_, _, rfl, rfl, rfl⟩⟩⟩
    rfl
  · rintro rfl
    exact ⟨[.int .i64 x.fn], [.int .i64 x.pc, .int .i64 x.kind, .int .i64 x.target], rfl, rfl, ⟨[.int .i64 x.pc], [.int .i64 x.kind, .int .i64 x.target], rfl, rfl, ⟨[.int .i64 x.kind], [.int .i64 x.target], rfl, rfl, rfl⟩⟩⟩
theorem kSpec_at {w : World} {A : Option Addr} {m : Nat} {xs : List DSpec} (h : kSpec.Row w A m xs) (i : Nat) (x : DSpec) (hx : xs[i]? = some x) : ∃ (ad : Addr), A = some ad ∧ w.cell? (ad.add (i * 4)) = some (.int .i64 x.fn) ∧ w.cell? ⟨(ad.add (i * 4)).block, (ad.add (i * 4)).off + 1, none⟩ = some (.int .i64 x.pc) ∧ w.cell? ⟨(ad.add (i * 4)).block, (ad.add (i * 4)).off + 2, none⟩ = some (.int .i64 x.kind) ∧ w.cell? ⟨(ad.add (i * 4)).block, (ad.add (i * 4)).off + 3, none⟩ = some (.int .i64 x.target) := by
  obtain ⟨ad, c, e, hK, hc0⟩ := h.get i x hx
  have hc : ∀ j u, c[j]? = some u → w.cell? (ad.add (i * 4 + j)) = some u := hc0
  obtain rfl := kSpec_K.1 hK
  exact ⟨ad, e, hc 0 _ rfl, (by rw [← add_field _ _ 1 (by omega)]; exact hc 1 _ rfl), (by rw [← add_field _ _ 2 (by omega)]; exact hc 2 _ rfl), (by rw [← add_field _ _ 3 (by omega)]; exact hc 3 _ rfl)⟩
def ctSpec (x : DSpec) : Nat := 4
def mkSpec (k : Int) (x : DSpec) : DSpec := { fn := k, pc := k + 1, kind := k + 1 + 1, target := k + 1 + 1 + 1 }
theorem kSpec_Oi {w : World} {x : DSpec} {cs : List Value} {F : List Nat} : kSpec.O w x cs F ↔ cs = [.int .i64 x.fn, .int .i64 x.pc, .int .i64 x.kind, .int .i64 x.target] ∧ F = [] := by
  constructor
  · rintro ⟨_, _, _, _, rfl, rfl, ⟨rfl, rfl⟩, ⟨_, _, _, _, rfl, rfl, ⟨rfl, rfl⟩, ⟨_, _, _, _, rfl, rfl, ⟨rfl, rfl⟩, ⟨rfl, rfl⟩⟩⟩⟩
    exact ⟨rfl, rfl⟩
  · rintro ⟨rfl, rfl⟩
    have h : kSpec.O w x [.int .i64 x.fn, .int .i64 x.pc, .int .i64 x.kind, .int .i64 x.target] (([] ++ ([] ++ ([] ++ [])))) := ⟨[.int .i64 x.fn], [.int .i64 x.pc, .int .i64 x.kind, .int .i64 x.target], [], ([] ++ ([] ++ [])), rfl, by simp, ⟨rfl, rfl⟩, ⟨[.int .i64 x.pc], [.int .i64 x.kind, .int .i64 x.target], [], ([] ++ []), rfl, by simp, ⟨rfl, rfl⟩, ⟨[.int .i64 x.kind], [.int .i64 x.target], [], [], rfl, by simp, ⟨rfl, rfl⟩, ⟨rfl, rfl⟩⟩⟩⟩
    simpa using h
theorem infoSpec : (Tryd.prog.info? 31).map (fun i => (i.zero, i.size, i.bytes)) = some (some (.agg #[.int .i64 0, .int .i64 0, .int .i64 0, .int .i64 0]), 4, 32) := by kernel_rfl
set_option maxHeartbeats 4000000 in
set_option maxRecDepth 100000 in
theorem toSpec_c (x : DSpec) (w : World) : Calls Tryd.prog 12 #[.agg #[.int .i64 x.fn, .int .i64 x.pc, .int .i64 x.kind, .int .i64 x.target]] w fun e w' => e = .returned (.agg #[.int .i64 x.fn, .int .i64 x.pc, .int .i64 x.kind, .int .i64 x.target]) ∧ Below w.heap.size w w' := by
  go_enter Tryd.func12, Tryd.ntmps12
  go_wp2
  refine bodyPost_ret (v := .agg #[.int .i64 x.fn, .int .i64 x.pc, .int .i64 x.kind, .int .i64 x.target]) (by simp [results, Tryd.results12, go_sem, true_and, *]) rfl ⟨rfl, (by repeat (first | with_reducible exact Below.refl _ _ | with_reducible assumption | (with_reducible refine bl_set ?_ (by dsimp only; omega) _) | with_reducible refine bl_alloc ?_ _ | with_reducible refine bl_drewN ?_ _ | with_reducible refine bl_drew ?_ | with_reducible refine bl_step ?_ (by with_reducible assumption) | exact Below.refl _ _ | assumption | (refine bl_set ?_ (by dsimp only; omega) _) | refine bl_alloc ?_ _ | refine bl_drewN ?_ _ | refine bl_drew ?_ | refine bl_step ?_ (by assumption)))⟩
theorem zSpec_O (w : World) : kSpec.O w zSpec (Value.agg #[.int .i64 0, .int .i64 0, .int .i64 0, .int .i64 0]).cells.toList [] := kSpec_Oi.2 ⟨rfl, rfl⟩
theorem ctLeSpec (l : List DSpec) : ctL ctSpec l ≤ 4 * l.length := by
  have h := ctL_const 4 l
  have e : ctSpec = fun _ => 4 := rfl
  rw [e]
  omega
end Go.Proofs.YtpjdecneeakkeaaDoor.Dat

/- The laws' own functions over Value. Written by a program (recgen.py). -/
namespace Go.Proofs.YtpjdecneeakkeaaDoor.Dat
open Go Go.RowKit Go.Proofs.YtpjdecneeakkeaaDoor.Mem
set_option linter.unusedVariables false
set_option linter.unusedSimpArgs false
structure DValue where
  k : Int
  n : Int
  s : ByteArray
def zValue : DValue := ⟨0, 0, ⟨#[]⟩⟩
def kValue : Knd DValue := Knd.iso (Knd.pair (Knd.int .i64) (Knd.pair (Knd.int .i64) Knd.str)) (fun x => (x.k, x.n, x.s))
/-- What is handed in meets this. -/
def VValue (x : DValue) : Prop := (Lit.int .i64 x.k).wf = true ∧ (Lit.int .i64 x.n).wf = true ∧ x.s.size ≤ maxLen
theorem kValue_K {w : World} {x : DValue} {cs : List Value} : kValue.K w x cs ↔ cs = [.int .i64 x.k, .int .i64 x.n, .string x.s] := by
  constructor
  · rintro ⟨_, _, rfl, rfl, ⟨_, _, rfl, rfl, rfl⟩⟩
    rfl
  · rintro rfl
    exact ⟨[.int .i64 x.k], [.int .i64 x.n, .string x.s], rfl, rfl, ⟨[.int .i64 x.n], [.string x.s], rfl, rfl, rfl⟩⟩
theorem kValue_at {w : World} {A : Option Addr} {m : Nat} {xs : List DValue} (h : kValue.Row w A m xs) (i : Nat) (x : DValue) (hx : xs[i]? = some x) : ∃ (ad : Addr), A = some ad ∧ w.cell? (ad.add (i * 3)) = some (.int .i64 x.k) ∧ w.cell? ⟨(ad.add (i * 3)).block, (ad.add (i * 3)).off + 1, none⟩ = some (.int .i64 x.n) ∧ w.cell? ⟨(ad.add (i * 3)).block, (ad.add (i * 3)).off + 2, none⟩ = some (.string x.s) := by
  obtain ⟨ad, c, e, hK, hc0⟩ := h.get i x hx
  have hc : ∀ j u, c[j]? = some u → w.cell? (ad.add (i * 3 + j)) = some u := hc0
  obtain rfl := kValue_K.1 hK
  exact ⟨ad, e, hc 0 _ rfl, (by rw [← add_field _ _ 1 (by omega)]; exact hc 1 _ rfl), (by rw [← add_field _ _ 2 (by omega)]; exact hc 2 _ rfl)⟩
def ctValue (x : DValue) : Nat := 3
def mkValue (k : Int) (x : DValue) : DValue := { k := k, n := k + 1, s := mkText (k + 1 + 1) }
theorem kValue_Oi {w : World} {x : DValue} {cs : List Value} {F : List Nat} : kValue.O w x cs F ↔ cs = [.int .i64 x.k, .int .i64 x.n, .string x.s] ∧ F = [] := by
  constructor
  · rintro ⟨_, _, _, _, rfl, rfl, ⟨rfl, rfl⟩, ⟨_, _, _, _, rfl, rfl, ⟨rfl, rfl⟩, ⟨rfl, rfl⟩⟩⟩
    exact ⟨rfl, rfl⟩
  · rintro ⟨rfl, rfl⟩
    have h : kValue.O w x [.int .i64 x.k, .int .i64 x.n, .string x.s] (([] ++ ([] ++ []))) := ⟨[.int .i64 x.k], [.int .i64 x.n, .string x.s], [], ([] ++ []), rfl, by simp, ⟨rfl, rfl⟩, ⟨[.int .i64 x.n], [.string x.s], [], [], rfl, by simp, ⟨rfl, rfl⟩, ⟨rfl, rfl⟩⟩⟩
    simpa using h
def msValue (x : DValue) : Nat := x.s.size
/-- What a small measure gives. -/
def MValue (x : DValue) : Prop := x.s.size ≤ 1048576
theorem MValue_of {x : DValue} (h : msValue x ≤ 1048576) : MValue x := by
  unfold msValue at h
  try simp only [sumOf] at h
  unfold MValue
  exact by omega
set_option maxHeartbeats 4000000 in
set_option maxRecDepth 100000 in
theorem szValue_c (x : DValue) (left : Int) (w : World) (hV : VValue x) (h0 : 0 ≤ left) (h1 : left ≤ 1048576) : Calls Tryd.prog 14 #[.agg #[.int .i64 x.k, .int .i64 x.n, .string x.s], .int .i64 left] w fun e w' => e = .returned (.int .i64 (lft (msValue x) left)) ∧ Below w.heap.size w w' := by
  have hS := (St.start w).made (.cells #[.int .i64 x.k, .int .i64 x.n, .string x.s] 35 (0, 0))
  have hs_s := hV.2.2
  unfold maxLen at hs_s
  by_cases k0 : ((x.s.size : Nat) : Int) ≤ left
  rotate_left
  · skip
    have g0 : left - (x.s.size : Int) < 0 := by omega
    have HE := Lib.hid (show (-1 : Int) = lft (msValue x) left by unfold msValue; rw [lft_gt (by omega)])
    go_enter Tryd.func14, Tryd.ntmps14
    go_wp2
    go_ret
    exact ⟨ret_int HE.out, hS.bel⟩
  have g0 : 0 ≤ left - (x.s.size : Int) := by omega
  have HE := Lib.hid (show left - (x.s.size : Int) = lft (msValue x) left by unfold msValue; rw [lft_le (by omega)])
  go_enter Tryd.func14, Tryd.ntmps14
  go_wp2
  go_ret
  exact ⟨ret_int HE.out, hS.bel⟩
set_option maxHeartbeats 4000000 in
set_option maxRecDepth 100000 in
theorem szValueS_c (A : Option Addr) (c : Nat) (l : List DValue) (left : Int) (w : World) (hr : kValue.Row w A l.length l) (hm : l.length ≤ maxLen) (hv : ∀ x ∈ l, VValue x) (h0 : 0 ≤ left) (h1 : left ≤ 1048576) : Calls Tryd.prog 63 #[.slice A l.length c, .int .i64 left] w fun e w' => e = .returned (.int .i64 (lft (sumOf msValue l) left)) ∧ Below w.heap.size w w' := by
  unfold maxLen at hm
  by_cases h : (l.length : Int) ≤ left
  · have h2 : 0 ≤ left - (l.length : Int) := by omega
    go_enter Tryd.func63, Tryd.ntmps63
    go_wp2
    go_loopw [1, 5] (fun u i wr => ∃ k s : Nat, k ≤ l.length ∧ i = .int .i64 k ∧ Hid (s = ((l.take k).map msValue).sum) ∧ u = .int .i64 (left - l.length - s) ∧ 0 ≤ left - l.length - s ∧ Below w.heap.size w wr) (fun _ i _ => l.length - (intOf i).toNat)
    case atStart => exact ⟨0, 0, by omega, rfl, rfl, by simp, by simpa using h2, Below.refl _ _⟩
    case round =>
      obtain ⟨k, s, hk, rfl, hs, rfl, hp, hb⟩ := hrel
      by_cases hlt : k < l.length
      · obtain ⟨x, hx⟩ := get_ex l k hlt
        have hV := hv x (List.mem_of_getElem? hx)
        have hsn := sum_snoc msValue l k x hx
        have hle := sum_le msValue l (k + 1)
        obtain ⟨ad, rfl, q0, q1, q2⟩ := kValue_at (hr.below hb) k x hx
        have HX := Lib.hid hx
        clear hx
        have C := szValue_c   x (left - l.length - s)
        have HV := Lib.hid hV
        clear hV
        by_cases hf : (msValue x : Int) ≤ left - l.length - s
        · have HS : Hid (s + msValue x = ((l.take (k + 1)).map msValue).sum) := Lib.hid (by rw [hsn, ← hs.out])
          have e : lft (msValue x) (left - l.length - s) = left - l.length - ((s + msValue x : Nat) : Int) := by simp [lft, hf]; omega
          rw [e] at C
          have hp2 : 0 ≤ left - (l.length : Int) - ((s + msValue x : Nat) : Int) := by omega
          clear hsn hle hf e
          generalize s + msValue x = s2 at C HS hp2
          go_wp2_with fail
          refine (C _ HV.out (by omega) (by omega)).mono ?_
          rintro e w' ⟨rfl, hb2⟩
          go_wp2
          go_roundw
          case rel => exact ⟨k + 1, s2, by omega, by go_num, HS, rfl, hp2, (by repeat (first | with_reducible exact Below.refl _ _ | with_reducible assumption | (with_reducible refine bl_set ?_ (by dsimp only; omega) _) | with_reducible refine bl_alloc ?_ _ | with_reducible refine bl_drewN ?_ _ | with_reducible refine bl_drew ?_ | with_reducible refine bl_step ?_ (by with_reducible assumption) | exact Below.refl _ _ | assumption | (refine bl_set ?_ (by dsimp only; omega) _) | refine bl_alloc ?_ _ | refine bl_drewN ?_ _ | refine bl_drew ?_ | refine bl_step ?_ (by assumption)))⟩
          case measure => simp [intOf]; omega
        · have e : lft (msValue x) (left - l.length - s) = -1 := by simp [lft]; omega
          rw [e] at C
          have hend : lft (sumOf msValue l) left = -1 := by
            have h3 := hs.out
            simp [lft, sumOf]
            omega
          have HE := Lib.hid hend
          clear hsn hle e hend
          go_wp2_with fail
          refine (C _ HV.out (by omega) (by omega)).mono ?_
          rintro e w' ⟨rfl, hb2⟩
          go_wp2
          go_ret
          exact ⟨ret_int HE.out.symm, (by repeat (first | with_reducible exact Below.refl _ _ | with_reducible assumption | (with_reducible refine bl_set ?_ (by dsimp only; omega) _) | with_reducible refine bl_alloc ?_ _ | with_reducible refine bl_drewN ?_ _ | with_reducible refine bl_drew ?_ | with_reducible refine bl_step ?_ (by with_reducible assumption) | exact Below.refl _ _ | assumption | (refine bl_set ?_ (by dsimp only; omega) _) | refine bl_alloc ?_ _ | refine bl_drewN ?_ _ | refine bl_drew ?_ | refine bl_step ?_ (by assumption)))⟩
      · have hend : lft (sumOf msValue l) left = left - l.length - s := by
          have h3 := hs.out
          rw [List.take_of_length_le (by omega)] at h3
          simp only [lft, sumOf, ← h3]
          rw [if_pos (by omega)]
          omega
        have HE := Lib.hid hend
        clear hend
        go_wp2
        go_ret
        exact ⟨ret_int HE.out.symm, hb⟩
  · have h2 : left - (l.length : Int) < 0 := by omega
    go_enter Tryd.func63, Tryd.ntmps63
    go_wp2
    go_ret
    exact ⟨by simp [lft, sumOf]; omega, Below.refl _ _⟩
theorem infoValue : (Tryd.prog.info? 40).map (fun i => (i.zero, i.size, i.bytes)) = some (some (.agg #[.int .i64 0, .int .i64 0, .string (⟨#[]⟩ : ByteArray)]), 3, 32) := by kernel_rfl
set_option maxHeartbeats 4000000 in
set_option maxRecDepth 100000 in
theorem toValue_c (x : DValue) (w : World) : Calls Tryd.prog 17 #[.agg #[.int .i64 x.k, .int .i64 x.n, .string x.s]] w fun e w' => e = .returned (.agg #[.int .i64 x.k, .int .i64 x.n, .string x.s]) ∧ Below w.heap.size w w' := by
  go_enter Tryd.func17, Tryd.ntmps17
  go_wp2
  refine bodyPost_ret (v := .agg #[.int .i64 x.k, .int .i64 x.n, .string x.s]) (by simp [results, Tryd.results17, go_sem, true_and, *]) rfl ⟨rfl, (by repeat (first | with_reducible exact Below.refl _ _ | with_reducible assumption | (with_reducible refine bl_set ?_ (by dsimp only; omega) _) | with_reducible refine bl_alloc ?_ _ | with_reducible refine bl_drewN ?_ _ | with_reducible refine bl_drew ?_ | with_reducible refine bl_step ?_ (by with_reducible assumption) | exact Below.refl _ _ | assumption | (refine bl_set ?_ (by dsimp only; omega) _) | refine bl_alloc ?_ _ | refine bl_drewN ?_ _ | refine bl_drew ?_ | refine bl_step ?_ (by assumption)))⟩
theorem zValue_O (w : World) : kValue.O w zValue (Value.agg #[.int .i64 0, .int .i64 0, .string (⟨#[]⟩ : ByteArray)]).cells.toList [] := kValue_Oi.2 ⟨rfl, rfl⟩
set_option maxHeartbeats 4000000 in
set_option maxRecDepth 100000 in
theorem toValueS_c (A : Option Addr) (c : Nat) (l : List DValue) (w : World) (hr : kValue.Row w A l.length l) (hm : l.length ≤ 1048576 ∧ ∀ y ∈ l, MValue y) : Calls Tryd.prog 64 #[.slice A l.length c] w (NewRow kValue 40 l w) := by
  obtain ⟨hm, hM⟩ := hm
  go_enter Tryd.func64, Tryd.ntmps64
  go_wp2_with (refine Knd.wp_made kValue rfl _ _ _ rfl l.length rfl rfl 40 Tryd.underlying75 (.agg #[.int .i64 0, .int .i64 0, .string (⟨#[]⟩ : ByteArray)]) 32 infoValue rfl (by decide) (by omega) zValue zValue_O (by omega) ?_; rintro g w1 hg ho hb hz; have HG := Lib.hid hg; clear hg)
  have hg0 : w.heap.size ≤ g := Nat.le_of_eq HG.out.symm
  go_loopw [4] (fun i wr => ∃ k : Nat, k ≤ l.length ∧ i = .int .i64 k ∧ kValue.OwnF 40 wr (.slice (some ⟨g, 0, none⟩) l.length l.length) (l.take k ++ List.replicate (l.length - k) zValue) (List.replicate l.length []) ∧ Below w.heap.size w wr) (fun i _ => l.length - (intOf i).toNat)
  case atStart => exact ⟨0, by omega, rfl, by simpa using ho, hb⟩
  case round =>
    obtain ⟨k, hk, rfl, ho, hb⟩ := hrel
    by_cases hlt : k < l.length
    · obtain ⟨x, hx⟩ := get_exT l k hlt
      obtain ⟨ad, rfl, q0, q1, q2⟩ := kValue_at (hr.below hb) k x hx
      have hMx := hM x (List.mem_of_getElem? hx)
      have hp := part_set l zValue x k hx
      have hle : k < (l.take k ++ List.replicate (l.length - k) zValue).length := by simp; omega
      have hlen : (l.take k ++ List.replicate (l.length - k) zValue).length = l.length := by simp; omega
      have HP := Lib.hid hp
      have HX := Lib.hid hx
      have HL := Lib.hid hlen
      clear hp hx hlen
      have C := toValue_c x wr
      go_wp2_with fail
      refine C.mono ?_
      rintro e w' ⟨rfl, hb2⟩
      have ho2 := ho.below hb2
      obtain ⟨u0, s0⟩ := ho2.cell (k * 3) (by rw [HL.out]; show _ < l.length * 3; omega)
      have f0 := ho2.free (k * 3)
      obtain ⟨u1, s1⟩ := ho2.cell (k * 3 + 1) (by rw [HL.out]; show _ < l.length * 3; omega)
      have f1 := ho2.free (k * 3 + 1)
      obtain ⟨u2, s2⟩ := ho2.cell (k * 3 + 2) (by rw [HL.out]; show _ < l.length * 3; omega)
      have f2 := ho2.free (k * 3 + 2)
      go_wp2
      go_roundw
      case rel =>
        refine ⟨k + 1, by omega, by go_num, ?_, ?_⟩
        · have h1 := ho2.put k hle [.int .i64 x.k, .int .i64 x.n, .string x.s] x [] (kValue_Oi.2 ⟨rfl, rfl⟩) (by simp) (by rw [rep_flat]; simp)
          rw [HP.out, rep_set] at h1
          exact h1
        · exact (by repeat (first | with_reducible exact Below.refl _ _ | with_reducible assumption | (with_reducible refine bl_set ?_ (by dsimp only; omega) _) | with_reducible refine bl_alloc ?_ _ | with_reducible refine bl_drewN ?_ _ | with_reducible refine bl_drew ?_ | with_reducible refine bl_step ?_ (by with_reducible assumption) | exact Below.refl _ _ | assumption | (refine bl_set ?_ (by dsimp only; omega) _) | refine bl_alloc ?_ _ | refine bl_drewN ?_ _ | refine bl_drew ?_ | refine bl_step ?_ (by assumption)))
      case measure => simp [intOf]; omega
    · obtain rfl : k = l.length := by omega
      go_wp2
      go_ret
      have h1 := ho.own
      rw [List.take_length, Nat.sub_self, List.replicate_zero, List.append_nil, rep_flat] at h1
      exact ⟨_, _, rfl, h1, by simp [Value.ownBlock], by simp [Value.ownBlock]; rw [HG.out]; exact Nat.le_refl _, hb⟩
set_option maxHeartbeats 4000000 in
set_option maxRecDepth 100000 in
theorem eqValue_c (x : DValue) (w : World) : Calls Tryd.prog 86 #[.agg #[.int .i64 x.k, .int .i64 x.n, .string x.s], .agg #[.int .i64 x.k, .int .i64 x.n, .string x.s]] w fun e w' => e = .returned (.bool true) ∧ Below w.heap.size w w' := by
  go_enter Tryd.func86, Tryd.ntmps86
  go_wp2
  go_ret
  exact ⟨rfl, (by repeat (first | with_reducible exact Below.refl _ _ | with_reducible assumption | (with_reducible refine bl_set ?_ (by dsimp only; omega) _) | with_reducible refine bl_alloc ?_ _ | with_reducible refine bl_drewN ?_ _ | with_reducible refine bl_drew ?_ | with_reducible refine bl_step ?_ (by with_reducible assumption) | exact Below.refl _ _ | assumption | (refine bl_set ?_ (by dsimp only; omega) _) | refine bl_alloc ?_ _ | refine bl_drewN ?_ _ | refine bl_drew ?_ | refine bl_step ?_ (by assumption)))⟩
set_option maxHeartbeats 4000000 in
set_option maxRecDepth 100000 in
theorem eqValueS_c (A B : Option Addr) (c c' : Nat) (l : List DValue) (w : World) (hr : kValue.Row w A l.length l) (hr' : kValue.Row w B l.length l) : Calls Tryd.prog 66 #[.slice A l.length c, .slice B l.length c'] w fun e w' => e = .returned (.bool true) ∧ Below w.heap.size w w' := by
  have hm := hr.2.1
  go_enter Tryd.func66, Tryd.ntmps66
  go_wp2
  go_loopw [5] (fun i wr => ∃ k : Nat, k ≤ l.length ∧ i = .int .i64 k ∧ Below w.heap.size w wr) (fun i _ => l.length - (intOf i).toNat)
  case atStart => exact ⟨0, by omega, rfl, Below.refl _ _⟩
  case round =>
    obtain ⟨k, hk, rfl, hb⟩ := hrel
    by_cases hlt : k < l.length
    · obtain ⟨x, hx⟩ := get_exE l k hlt
      obtain ⟨ady, rfl, q0, q1, q2⟩ := kValue_at (hr.below hb) k x hx
      obtain ⟨adz, rfl, p0, p1, p2⟩ := kValue_at (hr'.below hb) k x hx
      clear hx
      go_wp2
      go_region_held3 (fun w' => w'.cell? (ady.add (k * 3)) = some (.int .i64 x.k) ∧ w'.cell? ⟨(ady.add (k * 3)).block, (ady.add (k * 3)).off + 1, none⟩ = some (.int .i64 x.n) ∧ w'.cell? ⟨(ady.add (k * 3)).block, (ady.add (k * 3)).off + 2, none⟩ = some (.string x.s) ∧ w'.cell? (adz.add (k * 3)) = some (.int .i64 x.k) ∧ w'.cell? ⟨(adz.add (k * 3)).block, (adz.add (k * 3)).off + 1, none⟩ = some (.int .i64 x.n) ∧ w'.cell? ⟨(adz.add (k * 3)).block, (adz.add (k * 3)).off + 2, none⟩ = some (.string x.s) ∧ Below wr.heap.size wr w') ((refine ⟨?_, ?_, ?_, ?_, ?_, ?_, ?_⟩ <;> first | assumption | (go_keep; done) | exact (by repeat (first | with_reducible exact Below.refl _ _ | with_reducible assumption | (with_reducible refine bl_set ?_ (by dsimp only; omega) _) | with_reducible refine bl_alloc ?_ _ | with_reducible refine bl_drewN ?_ _ | with_reducible refine bl_drew ?_ | with_reducible refine bl_step ?_ (by with_reducible assumption) | exact Below.refl _ _ | assumption | (refine bl_set ?_ (by dsimp only; omega) _) | refine bl_alloc ?_ _ | refine bl_drewN ?_ _ | refine bl_drew ?_ | refine bl_step ?_ (by assumption))))) (first | (go_at_call 86; refine (eqValue_c _ _).mono ?_; rintro e w' ⟨rfl, hb2⟩; have q0 := kept hb2 q0; have q1 := kept hb2 q1; have q2 := kept hb2 q2; have p0 := kept hb2 p0; have p1 := kept hb2 p1; have p2 := kept hb2 p2; have hW2 : Below wr.heap.size wr w' := (by repeat (first | with_reducible exact Below.refl _ _ | with_reducible assumption | (with_reducible refine bl_set ?_ (by dsimp only; omega) _) | with_reducible refine bl_alloc ?_ _ | with_reducible refine bl_drewN ?_ _ | with_reducible refine bl_drew ?_ | with_reducible refine bl_step ?_ (by with_reducible assumption) | exact Below.refl _ _ | assumption | (refine bl_set ?_ (by dsimp only; omega) _) | refine bl_alloc ?_ _ | refine bl_drewN ?_ _ | refine bl_drew ?_ | refine bl_step ?_ (by assumption)))))
      go_wp2
      go_roundw
      case rel => exact ⟨k + 1, by omega, by go_num, (by repeat (first | with_reducible exact Below.refl _ _ | with_reducible assumption | (with_reducible refine bl_set ?_ (by dsimp only; omega) _) | with_reducible refine bl_alloc ?_ _ | with_reducible refine bl_drewN ?_ _ | with_reducible refine bl_drew ?_ | with_reducible refine bl_step ?_ (by with_reducible assumption) | exact Below.refl _ _ | assumption | (refine bl_set ?_ (by dsimp only; omega) _) | refine bl_alloc ?_ _ | refine bl_drewN ?_ _ | refine bl_drew ?_ | refine bl_step ?_ (by assumption)))⟩
      case measure => simp [intOf]; omega
    · go_wp2
      go_ret
      exact ⟨rfl, hb⟩
theorem ctOneValue (x : DValue) : ctValue x ≤ 3 * (msValue x + 1) := by
  unfold ctValue msValue
  try simp only [sumOf] at *
  omega
theorem ctLeValue (l : List DValue) : ctL ctValue l ≤ 3 * sumOf msValue l := ctL_le2 3 ctOneValue l
end Go.Proofs.YtpjdecneeakkeaaDoor.Dat

/- The laws' own functions over Rec. Written by a program (recgen.py). -/
namespace Go.Proofs.YtpjdecneeakkeaaDoor.Dat
open Go Go.RowKit Go.Proofs.YtpjdecneeakkeaaDoor.Mem
set_option linter.unusedVariables false
set_option linter.unusedSimpArgs false
structure DRec where
  fields : List DValue
def zRec : DRec := ⟨[]⟩
def kRec : Knd DRec := Knd.iso (Knd.slice 40 kValue) (fun x => (x.fields))
/-- What is handed in meets this. -/
def VRec (x : DRec) : Prop := (x.fields.length ≤ maxLen ∧ ∀ y ∈ x.fields, VValue y)
theorem kRec_K {w : World} {x : DRec} {cs : List Value} : kRec.K w x cs ↔ ∃ (A0 : Option Addr) (c0 : Nat), cs = [.slice A0 x.fields.length c0] ∧ x.fields.length ≤ c0 ∧ kValue.Row w A0 x.fields.length x.fields := by
  constructor
  · rintro ⟨A_fields, c_fields, rfl, hl_fields, hr_fields⟩
    exact ⟨A_fields, c_fields, rfl, hl_fields, hr_fields⟩
  · rintro ⟨A0, c0, rfl, h0, r0⟩
    exact ⟨A0, c0, rfl, h0, r0⟩
theorem kRec_at {w : World} {A : Option Addr} {m : Nat} {xs : List DRec} (h : kRec.Row w A m xs) (i : Nat) (x : DRec) (hx : xs[i]? = some x) : ∃ (ad : Addr) (A0 : Option Addr) (c0 : Nat), A = some ad ∧ w.cell? (ad.add (i * 1)) = some (.slice A0 x.fields.length c0) ∧ x.fields.length ≤ c0 ∧ kValue.Row w A0 x.fields.length x.fields := by
  obtain ⟨ad, c, e, hK, hc0⟩ := h.get i x hx
  have hc : ∀ j u, c[j]? = some u → w.cell? (ad.add (i * 1 + j)) = some u := hc0
  obtain ⟨A0, c0, rfl, h0, r0⟩ := kRec_K.1 hK
  exact ⟨ad, A0, c0, e, hc 0 _ rfl, h0, r0⟩
def ctRec (x : DRec) : Nat := 0 + ctL ctValue x.fields
def mkRec (k : Int) (x : DRec) : DRec := { fields := mkL mkValue ctValue (k) x.fields }
theorem kRec_Oi {w : World} {x : DRec} {cs : List Value} {F : List Nat} : kRec.O w x cs F ↔ ∃ (v0 : Value) (F0 : List Nat), cs = [v0] ∧ F = F0 ∧ kValue.Own 40 w v0 x.fields F0 := by
  constructor
  · rintro ⟨v0, rfl, o0⟩
    exact ⟨v0, _, rfl, by simp, o0⟩
  · rintro ⟨v0, F0, rfl, rfl, o0⟩
    exact ⟨v0, rfl, o0⟩
def msRec (x : DRec) : Nat := sumOf msValue x.fields
/-- What a small measure gives. -/
def MRec (x : DRec) : Prop := (x.fields.length ≤ 1048576 ∧ ∀ y ∈ x.fields, MValue y)
theorem MRec_of {x : DRec} (h : msRec x ≤ 1048576) : MRec x := by
  unfold msRec at h
  try simp only [sumOf] at h
  unfold MRec
  exact ⟨by omega, fun y hy => by have h9 := mem_sum msValue _ y hy; exact MValue_of (by omega)⟩
set_option maxHeartbeats 4000000 in
set_option maxRecDepth 100000 in
theorem szRec_c (A0 : Option Addr) (c0 : Nat) (x : DRec) (left : Int) (w : World) (r0 : kValue.Row w A0 x.fields.length x.fields) (hV : VRec x) (h0 : 0 ≤ left) (h1 : left ≤ 1048576) : Calls Tryd.prog 39 #[.agg #[.slice A0 x.fields.length c0], .int .i64 left] w fun e w' => e = .returned (.int .i64 (lft (msRec x) left)) ∧ Below w.heap.size w w' := by
  have hS := (St.start w).made (.cells #[.slice A0 x.fields.length c0] 74 (0, 0))
  by_cases k0 : ((sumOf msValue x.fields : Nat) : Int) ≤ left
  rotate_left
  · skip
    have C0 := szValueS_c A0 c0 x.fields left
    rw [lft_gt (by omega)] at C0
    have HE := Lib.hid (show (-1 : Int) = lft (msRec x) left by unfold msRec; rw [lft_gt (by omega)])
    go_enter Tryd.func39, Tryd.ntmps39
    go_wp2_with fail
    refine (C0 _ (r0.below hS.bel) hV.1 hV.2 (by omega) (by omega)).mono ?_
    rintro e w1 ⟨rfl, hb⟩
    replace hS := hS.step hb
    have xb := hS.cell 0 rfl
    have yb := hS.blt 0 rfl
    clear hb
    go_wp2
    go_ret
    exact ⟨ret_int HE.out, hS.bel⟩
  have C0 := szValueS_c A0 c0 x.fields left
  rw [lft_le k0] at C0
  have g0 : 0 ≤ left - (sumOf msValue x.fields : Int) := by omega
  have HE := Lib.hid (show left - (sumOf msValue x.fields : Int) = lft (msRec x) left by unfold msRec; rw [lft_le (by omega)])
  go_enter Tryd.func39, Tryd.ntmps39
  go_wp2_with fail
  refine (C0 _ (r0.below hS.bel) hV.1 hV.2 (by omega) (by omega)).mono ?_
  rintro e w1 ⟨rfl, hb⟩
  replace hS := hS.step hb
  have xb := hS.cell 0 rfl
  have yb := hS.blt 0 rfl
  clear hb
  go_wp2
  go_ret
  exact ⟨ret_int HE.out, hS.bel⟩
set_option maxHeartbeats 4000000 in
set_option maxRecDepth 100000 in
theorem szRecS_c (A : Option Addr) (c : Nat) (l : List DRec) (left : Int) (w : World) (hr : kRec.Row w A l.length l) (hm : l.length ≤ maxLen) (hv : ∀ x ∈ l, VRec x) (h0 : 0 ≤ left) (h1 : left ≤ 1048576) : Calls Tryd.prog 15 #[.slice A l.length c, .int .i64 left] w fun e w' => e = .returned (.int .i64 (lft (sumOf msRec l) left)) ∧ Below w.heap.size w w' := by
  unfold maxLen at hm
  by_cases h : (l.length : Int) ≤ left
  · have h2 : 0 ≤ left - (l.length : Int) := by omega
    go_enter Tryd.func15, Tryd.ntmps15
    go_wp2
    go_loopw [1, 5] (fun u i wr => ∃ k s : Nat, k ≤ l.length ∧ i = .int .i64 k ∧ Hid (s = ((l.take k).map msRec).sum) ∧ u = .int .i64 (left - l.length - s) ∧ 0 ≤ left - l.length - s ∧ Below w.heap.size w wr) (fun _ i _ => l.length - (intOf i).toNat)
    case atStart => exact ⟨0, 0, by omega, rfl, rfl, by simp, by simpa using h2, Below.refl _ _⟩
    case round =>
      obtain ⟨k, s, hk, rfl, hs, rfl, hp, hb⟩ := hrel
      by_cases hlt : k < l.length
      · obtain ⟨x, hx⟩ := get_ex l k hlt
        have hV := hv x (List.mem_of_getElem? hx)
        have hsn := sum_snoc msRec l k x hx
        have hle := sum_le msRec l (k + 1)
        obtain ⟨ad, A0y, c0y, rfl, q0, hl0, hr0⟩ := kRec_at (hr.below hb) k x hx
        rw [Nat.mul_one] at q0
        have HX := Lib.hid hx
        clear hx
        have C := szRec_c A0y c0y x (left - l.length - s)
        have HV := Lib.hid hV
        clear hV
        by_cases hf : (msRec x : Int) ≤ left - l.length - s
        · have HS : Hid (s + msRec x = ((l.take (k + 1)).map msRec).sum) := Lib.hid (by rw [hsn, ← hs.out])
          have e : lft (msRec x) (left - l.length - s) = left - l.length - ((s + msRec x : Nat) : Int) := by simp [lft, hf]; omega
          rw [e] at C
          have hp2 : 0 ≤ left - (l.length : Int) - ((s + msRec x : Nat) : Int) := by omega
          clear hsn hle hf e
          generalize s + msRec x = s2 at C HS hp2
          go_wp2_with fail
          refine (C _ hr0 HV.out (by omega) (by omega)).mono ?_
          rintro e w' ⟨rfl, hb2⟩
          go_wp2
          go_roundw
          case rel => exact ⟨k + 1, s2, by omega, by go_num, HS, rfl, hp2, (by repeat (first | with_reducible exact Below.refl _ _ | with_reducible assumption | (with_reducible refine bl_set ?_ (by dsimp only; omega) _) | with_reducible refine bl_alloc ?_ _ | with_reducible refine bl_drewN ?_ _ | with_reducible refine bl_drew ?_ | with_reducible refine bl_step ?_ (by with_reducible assumption) | exact Below.refl _ _ | assumption | (refine bl_set ?_ (by dsimp only; omega) _) | refine bl_alloc ?_ _ | refine bl_drewN ?_ _ | refine bl_drew ?_ | refine bl_step ?_ (by assumption)))⟩
          case measure => simp [intOf]; omega
        · have e : lft (msRec x) (left - l.length - s) = -1 := by simp [lft]; omega
          rw [e] at C
          have hend : lft (sumOf msRec l) left = -1 := by
            have h3 := hs.out
            simp [lft, sumOf]
            omega
          have HE := Lib.hid hend
          clear hsn hle e hend
          go_wp2_with fail
          refine (C _ hr0 HV.out (by omega) (by omega)).mono ?_
          rintro e w' ⟨rfl, hb2⟩
          go_wp2
          go_ret
          exact ⟨ret_int HE.out.symm, (by repeat (first | with_reducible exact Below.refl _ _ | with_reducible assumption | (with_reducible refine bl_set ?_ (by dsimp only; omega) _) | with_reducible refine bl_alloc ?_ _ | with_reducible refine bl_drewN ?_ _ | with_reducible refine bl_drew ?_ | with_reducible refine bl_step ?_ (by with_reducible assumption) | exact Below.refl _ _ | assumption | (refine bl_set ?_ (by dsimp only; omega) _) | refine bl_alloc ?_ _ | refine bl_drewN ?_ _ | refine bl_drew ?_ | refine bl_step ?_ (by assumption)))⟩
      · have hend : lft (sumOf msRec l) left = left - l.length - s := by
          have h3 := hs.out
          rw [List.take_of_length_le (by omega)] at h3
          simp only [lft, sumOf, ← h3]
          rw [if_pos (by omega)]
          omega
        have HE := Lib.hid hend
        clear hend
        go_wp2
        go_ret
        exact ⟨ret_int HE.out.symm, hb⟩
  · have h2 : left - (l.length : Int) < 0 := by omega
    go_enter Tryd.func15, Tryd.ntmps15
    go_wp2
    go_ret
    exact ⟨by simp [lft, sumOf]; omega, Below.refl _ _⟩
theorem infoRec : (Tryd.prog.info? 77).map (fun i => (i.zero, i.size, i.bytes)) = some (some (.agg #[.slice none 0 0]), 1, 24) := by kernel_rfl
set_option maxHeartbeats 4000000 in
set_option maxRecDepth 100000 in
theorem toRec_c (A0 : Option Addr) (c0 : Nat) (x : DRec) (w : World) (r0 : kValue.Row w A0 x.fields.length x.fields) (hM : MRec x) : Calls Tryd.prog 40 #[.agg #[.slice A0 x.fields.length c0]] w (fun en w' => ∃ (v0 : Value) (F0 : List Nat), en = .returned (.agg #[v0]) ∧ St w [Res.own kValue 40 v0 x.fields F0] w') := by
  go_enter Tryd.func40, Tryd.ntmps40
  go_wp2_with fail
  refine (toValueS_c A0 c0 x.fields _ (r0.below (by repeat (first | with_reducible exact Below.refl _ _ | with_reducible assumption | (with_reducible refine bl_set ?_ (by dsimp only; omega) _) | with_reducible refine bl_alloc ?_ _ | with_reducible refine bl_drewN ?_ _ | with_reducible refine bl_drew ?_ | with_reducible refine bl_step ?_ (by with_reducible assumption) | exact Below.refl _ _ | assumption | (refine bl_set ?_ (by dsimp only; omega) _) | refine bl_alloc ?_ _ | refine bl_drewN ?_ _ | refine bl_drew ?_ | refine bl_step ?_ (by assumption)))) hM).mono ?_
  rintro e w1 ⟨v0, F0, rfl, ho0, hnd0, hF0, hb1⟩
  obtain ⟨Av0, cv0, rfl, _, _⟩ := ho0.row
  obtain ⟨hc1, hf1⟩ := bcell hb1
  have hz1 := hb1.size
  simp at hz1
  have y10 : w.heap.size < w1.heap.size := by omega
  have y11 : w.heap.size + 1 < w1.heap.size := by omega
  have y12 : w.heap.size + 1 + 1 < w1.heap.size := by omega
  have hG0 : ∀ g ∈ F0, w.heap.size + 3 ≤ g := fun g hg => by have := hF0 g hg; simp at this; omega
  have hl0 := ho0.lt
  have hW1 : Below w.heap.size w w1 := (by repeat (first | with_reducible exact Below.refl _ _ | with_reducible assumption | (with_reducible refine bl_set ?_ (by dsimp only; omega) _) | with_reducible refine bl_alloc ?_ _ | with_reducible refine bl_drewN ?_ _ | with_reducible refine bl_drew ?_ | with_reducible refine bl_step ?_ (by with_reducible assumption) | exact Below.refl _ _ | assumption | (refine bl_set ?_ (by dsimp only; omega) _) | refine bl_alloc ?_ _ | refine bl_drewN ?_ _ | refine bl_drew ?_ | refine bl_step ?_ (by assumption)))
  go_wp2
  refine bodyPost_ret (v := .agg #[.slice Av0 x.fields.length cv0]) (by simp [results, Tryd.results40, go_sem, *]) rfl ⟨_, F0, rfl, ?_⟩
  refine St.cons (St.bare (by repeat (first | with_reducible exact Below.refl _ _ | with_reducible assumption | (with_reducible refine bl_set ?_ (by dsimp only; omega) _) | with_reducible refine bl_alloc ?_ _ | with_reducible refine bl_drewN ?_ _ | with_reducible refine bl_drew ?_ | with_reducible refine bl_step ?_ (by with_reducible assumption) | exact Below.refl _ _ | assumption | (refine bl_set ?_ (by dsimp only; omega) _) | refine bl_alloc ?_ _ | refine bl_drewN ?_ _ | refine bl_drew ?_ | refine bl_step ?_ (by assumption)))) ?_ hnd0 (fun g hg => by have := hG0 g hg; omega) (by simp)
  · show kValue.Own 40 _ _ _ _
    repeat (first | (with_reducible exact ho0) | (refine Knd.Own.set_old ?_ hG0 (by dsimp only; omega) _) | (refine Knd.Own.below ?_ hb1))
theorem zRec_O (w : World) : kRec.O w zRec (Value.agg #[.slice none 0 0]).cells.toList [] := kRec_Oi.2 ⟨.slice none 0 0, [], rfl, rfl, Knd.Own.nil _ _ _⟩
set_option maxHeartbeats 4000000 in
set_option maxRecDepth 100000 in
theorem toRecS_c (A : Option Addr) (c : Nat) (l : List DRec) (w : World) (hr : kRec.Row w A l.length l) (hm : l.length ≤ 1048576 ∧ ∀ y ∈ l, MRec y) : Calls Tryd.prog 18 #[.slice A l.length c] w (NewRow kRec 77 l w) := by
  obtain ⟨hm, hM⟩ := hm
  go_enter Tryd.func18, Tryd.ntmps18
  go_wp2_with (refine Knd.wp_made kRec rfl _ _ _ rfl l.length rfl rfl 77 Tryd.underlying42 (.agg #[.slice none 0 0]) 24 infoRec rfl (by decide) (by omega) zRec zRec_O (by omega) ?_; rintro g w1 hg ho hb hz; have HG := Lib.hid hg; clear hg)
  have hg0 : w.heap.size ≤ g := Nat.le_of_eq HG.out.symm
  go_loopw [4] (fun i wr => ∃ (k : Nat) (Fs : List (List Nat)), k ≤ l.length ∧ i = .int .i64 k ∧ kRec.OwnF 77 wr (.slice (some ⟨g, 0, none⟩) l.length l.length) (l.take k ++ List.replicate (l.length - k) zRec) Fs ∧ Hid ((g :: Fs.flatten).Nodup ∧ (∀ q ∈ Fs.flatten, w.heap.size ≤ q)) ∧ Below w.heap.size w wr) (fun i _ => l.length - (intOf i).toNat)
  case atStart => exact ⟨0, List.replicate l.length [], by omega, rfl, by simpa using ho, ⟨by simp [rep_flat], by simp [rep_flat]⟩, hb⟩
  case round =>
    obtain ⟨k, Fs, hk, rfl, ho, hN, hb⟩ := hrel
    by_cases hlt : k < l.length
    · obtain ⟨x, hx⟩ := get_exT l k hlt
      obtain ⟨ad, A0y, c0y, rfl, q0, hl0, hr0⟩ := kRec_at (hr.below hb) k x hx
      rw [Nat.mul_one] at q0
      have hMx := hM x (List.mem_of_getElem? hx)
      have hp := part_set l zRec x k hx
      have hle : k < (l.take k ++ List.replicate (l.length - k) zRec).length := by simp; omega
      have hlen : (l.take k ++ List.replicate (l.length - k) zRec).length = l.length := by simp; omega
      have hFl : Fs.length = l.length := ho.len.trans hlen
      have HF := Lib.hid hFl
      clear hFl
      have HP := Lib.hid hp
      have HX := Lib.hid hx
      have HL := Lib.hid hlen
      clear hp hx hlen
      have C := toRec_c A0y c0y x wr hr0 hMx
      go_wp2_with fail
      refine C.mono ?_
      rintro e w' ⟨v0, F0, rfl, hS2⟩
      obtain ⟨Av0, cv0, rfl, _, _⟩ := hS2.row 0 rfl
      have hb2 := hS2.bel
      have ho2 := ho.below hb2
      obtain ⟨u0, s0⟩ := ho2.cell k (by rw [HL.out]; show _ < l.length * 1; omega)
      have f0 := ho2.free k
      have HS2 := Lib.hid hS2
      clear hS2
      go_wp2
      go_roundw
      case rel =>
        have hlt2 : ∀ q ∈ g :: Fs.flatten, q < wr.heap.size := fun q hq => ho.lt q (by simpa [Value.ownBlock] using hq)
        have hnew : ∀ q ∈ F0, wr.heap.size ≤ q := fun q hq => by
          have h8 := HS2.out.old
          simp only [List.forall_mem_cons] at h8
          (try simp only [List.mem_append] at hq)
          exact h8.1 q hq
        have hnd : (F0).Nodup := by have h8 := HS2.out.dis; simpa [Res.own] using h8
        have hd : ∀ q ∈ F0, q ∉ g :: Fs.flatten := fun q hq hm => by have := hlt2 q hm; have := hnew q hq; omega
        have h1 := ho2.put k hle [.slice Av0 x.fields.length cv0] x F0 (kRec_Oi.2 ⟨_, F0, rfl, rfl, HS2.out.get 0 rfl⟩) (fun h => hd g h (by simp)) (List.nodup_cons.1 hN.out.1).1
        rw [HP.out] at h1
        have e1 : k * kRec.sz = k := Nat.mul_one k
        rw [e1] at h1
        refine ⟨k + 1, Fs.set k F0, by omega, by go_num, h1, ⟨nodup_put (by rw [HF.out]; exact hlt) hN.out.1 hnd hd, fun q hq => ?_⟩, ?_⟩
        · rcases mem_put (by rw [HF.out]; exact hlt) hq with hq | hq
          · have := hnew q hq
            have := hb.size
            omega
          · exact hN.out.2 q hq
        · exact (by repeat (first | with_reducible exact Below.refl _ _ | with_reducible assumption | (with_reducible refine bl_set ?_ (by dsimp only; omega) _) | with_reducible refine bl_alloc ?_ _ | with_reducible refine bl_drewN ?_ _ | with_reducible refine bl_drew ?_ | with_reducible refine bl_step ?_ (by with_reducible assumption) | exact Below.refl _ _ | assumption | (refine bl_set ?_ (by dsimp only; omega) _) | refine bl_alloc ?_ _ | refine bl_drewN ?_ _ | refine bl_drew ?_ | refine bl_step ?_ (by assumption)))
      case measure => simp [intOf]; omega
    · obtain rfl : k = l.length := by omega
      go_wp2
      go_ret
      have h1 := ho.own
      rw [List.take_length, Nat.sub_self, List.replicate_zero, List.append_nil] at h1
      exact ⟨_, _, rfl, h1, hN.out.1, fun q hq => by
        rcases List.mem_cons.1 hq with rfl | hq
        · exact hg0
        · exact hN.out.2 q hq, hb⟩
set_option maxHeartbeats 4000000 in
set_option maxRecDepth 100000 in
theorem eqRec_c (A0 : Option Addr) (c0 : Nat) (A0z : Option Addr) (c0z : Nat) (x : DRec) (w : World) (r0 : kValue.Row w A0 x.fields.length x.fields) (r0z : kValue.Row w A0z x.fields.length x.fields) : Calls Tryd.prog 43 #[.agg #[.slice A0 x.fields.length c0], .agg #[.slice A0z x.fields.length c0z]] w fun e w' => e = .returned (.bool true) ∧ Below w.heap.size w w' := by
  have hS := ((St.start w).made (.cells #[.slice A0 x.fields.length c0] 77 (0, 0))).madeAt (.cells #[.slice A0z x.fields.length c0z] 77 (0, 0)) (w.heap.size + 1) (by simp)
  go_enter Tryd.func43, Tryd.ntmps43
  go_wp2_with fail
  refine (eqValueS_c A0 A0z c0 c0z x.fields _ (r0.below hS.bel) (r0z.below hS.bel)).mono ?_
  rintro e w1 ⟨rfl, hb⟩
  replace hS := hS.step hb
  have xb := hS.cell 0 rfl
  have xa := hS.cell 1 rfl
  have yb := hS.blt 0 rfl
  have ya := hS.blt 1 rfl
  clear hb
  go_wp2
  go_ret
  exact ⟨rfl, hS.bel⟩
set_option maxHeartbeats 4000000 in
set_option maxRecDepth 100000 in
theorem eqRecS_c (A B : Option Addr) (c c' : Nat) (l : List DRec) (w : World) (hr : kRec.Row w A l.length l) (hr' : kRec.Row w B l.length l) : Calls Tryd.prog 20 #[.slice A l.length c, .slice B l.length c'] w fun e w' => e = .returned (.bool true) ∧ Below w.heap.size w w' := by
  have hm := hr.2.1
  go_enter Tryd.func20, Tryd.ntmps20
  go_wp2
  go_loopw [5] (fun i wr => ∃ k : Nat, k ≤ l.length ∧ i = .int .i64 k ∧ Below w.heap.size w wr) (fun i _ => l.length - (intOf i).toNat)
  case atStart => exact ⟨0, by omega, rfl, Below.refl _ _⟩
  case round =>
    obtain ⟨k, hk, rfl, hb⟩ := hrel
    by_cases hlt : k < l.length
    · obtain ⟨x, hx⟩ := get_exE l k hlt
      obtain ⟨ady, A0y, c0y, rfl, q0, hl0y, hr0y⟩ := kRec_at (hr.below hb) k x hx
      obtain ⟨adz, A0z, c0z, rfl, p0, hl0z, hr0z⟩ := kRec_at (hr'.below hb) k x hx
      rw [Nat.mul_one] at q0
      rw [Nat.mul_one] at p0
      clear hx
      go_wp2
      go_region_held3 (fun w' => w'.cell? (ady.add k) = some (.slice A0y x.fields.length c0y) ∧ w'.cell? (adz.add k) = some (.slice A0z x.fields.length c0z) ∧ Below wr.heap.size wr w') ((refine ⟨?_, ?_, ?_⟩ <;> first | assumption | (go_keep; done) | exact (by repeat (first | with_reducible exact Below.refl _ _ | with_reducible assumption | (with_reducible refine bl_set ?_ (by dsimp only; omega) _) | with_reducible refine bl_alloc ?_ _ | with_reducible refine bl_drewN ?_ _ | with_reducible refine bl_drew ?_ | with_reducible refine bl_step ?_ (by with_reducible assumption) | exact Below.refl _ _ | assumption | (refine bl_set ?_ (by dsimp only; omega) _) | refine bl_alloc ?_ _ | refine bl_drewN ?_ _ | refine bl_drew ?_ | refine bl_step ?_ (by assumption))))) (first | (go_at_call 43; refine (eqRec_c _ _ _ _ _ _ (hr0y.below (by repeat (first | with_reducible exact Below.refl _ _ | with_reducible assumption | (with_reducible refine bl_set ?_ (by dsimp only; omega) _) | with_reducible refine bl_alloc ?_ _ | with_reducible refine bl_drewN ?_ _ | with_reducible refine bl_drew ?_ | with_reducible refine bl_step ?_ (by with_reducible assumption) | exact Below.refl _ _ | assumption | (refine bl_set ?_ (by dsimp only; omega) _) | refine bl_alloc ?_ _ | refine bl_drewN ?_ _ | refine bl_drew ?_ | refine bl_step ?_ (by assumption)))) (hr0z.below (by repeat (first | with_reducible exact Below.refl _ _ | with_reducible assumption | (with_reducible refine bl_set ?_ (by dsimp only; omega) _) | with_reducible refine bl_alloc ?_ _ | with_reducible refine bl_drewN ?_ _ | with_reducible refine bl_drew ?_ | with_reducible refine bl_step ?_ (by with_reducible assumption) | exact Below.refl _ _ | assumption | (refine bl_set ?_ (by dsimp only; omega) _) | refine bl_alloc ?_ _ | refine bl_drewN ?_ _ | refine bl_drew ?_ | refine bl_step ?_ (by assumption))))).mono ?_; rintro e w' ⟨rfl, hb2⟩; have q0 := kept hb2 q0; have p0 := kept hb2 p0; have hW2 : Below wr.heap.size wr w' := (by repeat (first | with_reducible exact Below.refl _ _ | with_reducible assumption | (with_reducible refine bl_set ?_ (by dsimp only; omega) _) | with_reducible refine bl_alloc ?_ _ | with_reducible refine bl_drewN ?_ _ | with_reducible refine bl_drew ?_ | with_reducible refine bl_step ?_ (by with_reducible assumption) | exact Below.refl _ _ | assumption | (refine bl_set ?_ (by dsimp only; omega) _) | refine bl_alloc ?_ _ | refine bl_drewN ?_ _ | refine bl_drew ?_ | refine bl_step ?_ (by assumption)))))
      go_wp2
      go_roundw
      case rel => exact ⟨k + 1, by omega, by go_num, (by repeat (first | with_reducible exact Below.refl _ _ | with_reducible assumption | (with_reducible refine bl_set ?_ (by dsimp only; omega) _) | with_reducible refine bl_alloc ?_ _ | with_reducible refine bl_drewN ?_ _ | with_reducible refine bl_drew ?_ | with_reducible refine bl_step ?_ (by with_reducible assumption) | exact Below.refl _ _ | assumption | (refine bl_set ?_ (by dsimp only; omega) _) | refine bl_alloc ?_ _ | refine bl_drewN ?_ _ | refine bl_drew ?_ | refine bl_step ?_ (by assumption)))⟩
      case measure => simp [intOf]; omega
    · go_wp2
      go_ret
      exact ⟨rfl, hb⟩
theorem ctOneRec (x : DRec) : ctRec x ≤ 3 * (msRec x + 1) := by
  have h0 := ctLeValue x.fields
  unfold ctRec msRec
  try simp only [sumOf] at *
  omega
theorem ctLeRec (l : List DRec) : ctL ctRec l ≤ 3 * sumOf msRec l := ctL_le2 3 ctOneRec l
end Go.Proofs.YtpjdecneeakkeaaDoor.Dat

/- The laws' own functions over Frame. Written by a program (recgen.py). -/
namespace Go.Proofs.YtpjdecneeakkeaaDoor.Dat
open Go Go.RowKit Go.Proofs.YtpjdecneeakkeaaDoor.Mem
set_option linter.unusedVariables false
set_option linter.unusedSimpArgs false
structure DFrame where
  fn : Int
  pc : Int
  locals : List DValue
  stack : List DValue
def zFrame : DFrame := ⟨0, 0, [], []⟩
def kFrame : Knd DFrame := Knd.iso (Knd.pair (Knd.int .i64) (Knd.pair (Knd.int .i64) (Knd.pair (Knd.slice 40 kValue) (Knd.slice 40 kValue)))) (fun x => (x.fn, x.pc, x.locals, x.stack))
/-- What is handed in meets this. -/
def VFrame (x : DFrame) : Prop := (Lit.int .i64 x.fn).wf = true ∧ (Lit.int .i64 x.pc).wf = true ∧ (x.locals.length ≤ maxLen ∧ ∀ y ∈ x.locals, VValue y) ∧ (x.stack.length ≤ maxLen ∧ ∀ y ∈ x.stack, VValue y)
theorem kFrame_K {w : World} {x : DFrame} {cs : List Value} : kFrame.K w x cs ↔ ∃ (A2 A3 : Option Addr) (c2 c3 : Nat), cs = [.int .i64 x.fn, .int .i64 x.pc, .slice A2 x.locals.length c2, .slice A3 x.stack.length c3] ∧ x.locals.length ≤ c2 ∧ kValue.Row w A2 x.locals.length x.locals ∧ x.stack.length ≤ c3 ∧ kValue.Row w A3 x.stack.length x.stack := by
  constructor
  · rintro ⟨_, _, rfl, rfl, ⟨_, _, rfl, rfl, ⟨_, _, rfl, ⟨A_locals, c_locals, rfl, hl_locals, hr_locals⟩, ⟨A_stack, c_stack, rfl, hl_stack, hr_stack⟩⟩⟩⟩
    exact ⟨A_locals, A_stack, c_locals, c_stack, rfl, hl_locals, hr_locals, hl_stack, hr_stack⟩
  · rintro ⟨A2, A3, c2, c3, rfl, h2, r2, h3, r3⟩
    exact ⟨[.int .i64 x.fn], [.int .i64 x.pc, .slice A2 x.locals.length c2, .slice A3 x.stack.length c3], rfl, rfl, ⟨[.int .i64 x.pc], [.slice A2 x.locals.length c2, .slice A3 x.stack.length c3], rfl, rfl, ⟨[.slice A2 x.locals.length c2], [.slice A3 x.stack.length c3], rfl, ⟨A2, c2, rfl, h2, r2⟩, ⟨A3, c3, rfl, h3, r3⟩⟩⟩⟩
theorem kFrame_at {w : World} {A : Option Addr} {m : Nat} {xs : List DFrame} (h : kFrame.Row w A m xs) (i : Nat) (x : DFrame) (hx : xs[i]? = some x) : ∃ (ad : Addr) (A2 A3 : Option Addr) (c2 c3 : Nat), A = some ad ∧ w.cell? (ad.add (i * 4)) = some (.int .i64 x.fn) ∧ w.cell? ⟨(ad.add (i * 4)).block, (ad.add (i * 4)).off + 1, none⟩ = some (.int .i64 x.pc) ∧ w.cell? ⟨(ad.add (i * 4)).block, (ad.add (i * 4)).off + 2, none⟩ = some (.slice A2 x.locals.length c2) ∧ w.cell? ⟨(ad.add (i * 4)).block, (ad.add (i * 4)).off + 3, none⟩ = some (.slice A3 x.stack.length c3) ∧ x.locals.length ≤ c2 ∧ kValue.Row w A2 x.locals.length x.locals ∧ x.stack.length ≤ c3 ∧ kValue.Row w A3 x.stack.length x.stack := by
  obtain ⟨ad, c, e, hK, hc0⟩ := h.get i x hx
  have hc : ∀ j u, c[j]? = some u → w.cell? (ad.add (i * 4 + j)) = some u := hc0
  obtain ⟨A2, A3, c2, c3, rfl, h2, r2, h3, r3⟩ := kFrame_K.1 hK
  exact ⟨ad, A2, A3, c2, c3, e, hc 0 _ rfl, (by rw [← add_field _ _ 1 (by omega)]; exact hc 1 _ rfl), (by rw [← add_field _ _ 2 (by omega)]; exact hc 2 _ rfl), (by rw [← add_field _ _ 3 (by omega)]; exact hc 3 _ rfl), h2, r2, h3, r3⟩
def ctFrame (x : DFrame) : Nat := 2 + ctL ctValue x.locals + ctL ctValue x.stack
def mkFrame (k : Int) (x : DFrame) : DFrame := { fn := k, pc := k + 1, locals := mkL mkValue ctValue (k + 1 + 1) x.locals, stack := mkL mkValue ctValue (k + 1 + 1 + ctL ctValue x.locals) x.stack }
theorem kFrame_Oi {w : World} {x : DFrame} {cs : List Value} {F : List Nat} : kFrame.O w x cs F ↔ ∃ (v2 v3 : Value) (F2 F3 : List Nat), cs = [.int .i64 x.fn, .int .i64 x.pc, v2, v3] ∧ F = F2 ++ F3 ∧ kValue.Own 40 w v2 x.locals F2 ∧ kValue.Own 40 w v3 x.stack F3 := by
  constructor
  · rintro ⟨_, _, _, _, rfl, rfl, ⟨rfl, rfl⟩, ⟨_, _, _, _, rfl, rfl, ⟨rfl, rfl⟩, ⟨_, _, _, _, rfl, rfl, ⟨v2, rfl, o2⟩, ⟨v3, rfl, o3⟩⟩⟩⟩
    exact ⟨v2, v3, _, _, rfl, by simp, o2, o3⟩
  · rintro ⟨v2, v3, F2, F3, rfl, rfl, o2, o3⟩
    have h : kFrame.O w x [.int .i64 x.fn, .int .i64 x.pc, v2, v3] (([] ++ ([] ++ (F2 ++ F3)))) := ⟨[.int .i64 x.fn], [.int .i64 x.pc, v2, v3], [], ([] ++ (F2 ++ F3)), rfl, by simp, ⟨rfl, rfl⟩, ⟨[.int .i64 x.pc], [v2, v3], [], (F2 ++ F3), rfl, by simp, ⟨rfl, rfl⟩, ⟨[v2], [v3], F2, F3, rfl, by simp, ⟨v2, rfl, o2⟩, ⟨v3, rfl, o3⟩⟩⟩⟩
    simpa using h
def msFrame (x : DFrame) : Nat := sumOf msValue x.locals + sumOf msValue x.stack
/-- What a small measure gives. -/
def MFrame (x : DFrame) : Prop := (x.locals.length ≤ 1048576 ∧ ∀ y ∈ x.locals, MValue y) ∧ (x.stack.length ≤ 1048576 ∧ ∀ y ∈ x.stack, MValue y)
theorem MFrame_of {x : DFrame} (h : msFrame x ≤ 1048576) : MFrame x := by
  unfold msFrame at h
  try simp only [sumOf] at h
  unfold MFrame
  exact ⟨⟨by omega, fun y hy => by have h9 := mem_sum msValue _ y hy; exact MValue_of (by omega)⟩, ⟨by omega, fun y hy => by have h9 := mem_sum msValue _ y hy; exact MValue_of (by omega)⟩⟩
theorem zFrame_O (w : World) : kFrame.O w zFrame (Value.agg #[.int .i64 0, .int .i64 0, .slice none 0 0, .slice none 0 0]).cells.toList [] := kFrame_Oi.2 ⟨.slice none 0 0, .slice none 0 0, [], [], rfl, rfl, Knd.Own.nil _ _ _, Knd.Own.nil _ _ _⟩
theorem ctOneFrame (x : DFrame) : ctFrame x ≤ 3 * (msFrame x + 1) := by
  have h2 := ctLeValue x.locals
  have h3 := ctLeValue x.stack
  unfold ctFrame msFrame
  try simp only [sumOf] at *
  omega
theorem ctLeFrame (l : List DFrame) : ctL ctFrame l ≤ 3 * sumOf msFrame l := ctL_le2 3 ctOneFrame l
end Go.Proofs.YtpjdecneeakkeaaDoor.Dat

/- The laws' own functions over Plan. Written by a program (recgen.py). -/
namespace Go.Proofs.YtpjdecneeakkeaaDoor.Dat
open Go Go.RowKit Go.Proofs.YtpjdecneeakkeaaDoor.Mem
set_option linter.unusedVariables false
set_option linter.unusedSimpArgs false
structure DPlan where
  specs : List DSpec
  lay : Int
  bare : Bool
def zPlan : DPlan := ⟨[], 0, false⟩
def kPlan : Knd DPlan := Knd.iso (Knd.pair (Knd.slice 31 kSpec) (Knd.pair (Knd.int .i64) Knd.bool)) (fun x => (x.specs, x.lay, x.bare))
/-- What is handed in meets this. -/
def VPlan (x : DPlan) : Prop := (x.specs.length ≤ maxLen ∧ ∀ y ∈ x.specs, VSpec y) ∧ (Lit.int .i64 x.lay).wf = true ∧ True
theorem kPlan_K {w : World} {x : DPlan} {cs : List Value} : kPlan.K w x cs ↔ ∃ (A0 : Option Addr) (c0 : Nat), cs = [.slice A0 x.specs.length c0, .int .i64 x.lay, .bool x.bare] ∧ x.specs.length ≤ c0 ∧ kSpec.Row w A0 x.specs.length x.specs := by
  constructor
  · rintro ⟨_, _, rfl, ⟨A_specs, c_specs, rfl, hl_specs, hr_specs⟩, ⟨_, _, rfl, rfl, rfl⟩⟩
    exact ⟨A_specs, c_specs, rfl, hl_specs, hr_specs⟩
  · rintro ⟨A0, c0, rfl, h0, r0⟩
    exact ⟨[.slice A0 x.specs.length c0], [.int .i64 x.lay, .bool x.bare], rfl, ⟨A0, c0, rfl, h0, r0⟩, ⟨[.int .i64 x.lay], [.bool x.bare], rfl, rfl, rfl⟩⟩
theorem kPlan_at {w : World} {A : Option Addr} {m : Nat} {xs : List DPlan} (h : kPlan.Row w A m xs) (i : Nat) (x : DPlan) (hx : xs[i]? = some x) : ∃ (ad : Addr) (A0 : Option Addr) (c0 : Nat), A = some ad ∧ w.cell? (ad.add (i * 3)) = some (.slice A0 x.specs.length c0) ∧ w.cell? ⟨(ad.add (i * 3)).block, (ad.add (i * 3)).off + 1, none⟩ = some (.int .i64 x.lay) ∧ w.cell? ⟨(ad.add (i * 3)).block, (ad.add (i * 3)).off + 2, none⟩ = some (.bool x.bare) ∧ x.specs.length ≤ c0 ∧ kSpec.Row w A0 x.specs.length x.specs := by
  obtain ⟨ad, c, e, hK, hc0⟩ := h.get i x hx
  have hc : ∀ j u, c[j]? = some u → w.cell? (ad.add (i * 3 + j)) = some u := hc0
  obtain ⟨A0, c0, rfl, h0, r0⟩ := kPlan_K.1 hK
  exact ⟨ad, A0, c0, e, hc 0 _ rfl, (by rw [← add_field _ _ 1 (by omega)]; exact hc 1 _ rfl), (by rw [← add_field _ _ 2 (by omega)]; exact hc 2 _ rfl), h0, r0⟩
def ctPlan (x : DPlan) : Nat := 2 + ctL ctSpec x.specs
def mkPlan (k : Int) (x : DPlan) : DPlan := { specs := mkL mkSpec ctSpec (k + 1 + 1) x.specs, lay := k + 1, bare := decide ((k + 1 + 1) % 3 = 0) }
theorem kPlan_Oi {w : World} {x : DPlan} {cs : List Value} {F : List Nat} : kPlan.O w x cs F ↔ ∃ (v0 : Value) (F0 : List Nat), cs = [v0, .int .i64 x.lay, .bool x.bare] ∧ F = F0 ∧ kSpec.Own 31 w v0 x.specs F0 := by
  constructor
  · rintro ⟨_, _, _, _, rfl, rfl, ⟨v0, rfl, o0⟩, ⟨_, _, _, _, rfl, rfl, ⟨rfl, rfl⟩, ⟨rfl, rfl⟩⟩⟩
    exact ⟨v0, _, rfl, by simp, o0⟩
  · rintro ⟨v0, F0, rfl, rfl, o0⟩
    have h : kPlan.O w x [v0, .int .i64 x.lay, .bool x.bare] ((F ++ ([] ++ []))) := ⟨[v0], [.int .i64 x.lay, .bool x.bare], F, ([] ++ []), rfl, by simp, ⟨v0, rfl, o0⟩, ⟨[.int .i64 x.lay], [.bool x.bare], [], [], rfl, by simp, ⟨rfl, rfl⟩, ⟨rfl, rfl⟩⟩⟩
    simpa using h
def msPlan (x : DPlan) : Nat := x.specs.length
/-- What a small measure gives. -/
def MPlan (x : DPlan) : Prop := (x.specs.length ≤ 1048576)
theorem MPlan_of {x : DPlan} (h : msPlan x ≤ 1048576) : MPlan x := by
  unfold msPlan at h
  try simp only [sumOf] at h
  unfold MPlan
  exact by omega
end Go.Proofs.YtpjdecneeakkeaaDoor.Dat

/- The laws' own functions over Vm. Written by a program (recgen.py). -/
namespace Go.Proofs.YtpjdecneeakkeaaDoor.Dat
open Go Go.RowKit Go.Proofs.YtpjdecneeakkeaaDoor.Mem
set_option linter.unusedVariables false
set_option linter.unusedSimpArgs false
structure DVm where
  frames : List DFrame
  heap : List DRec
  made : Int
  out : List ByteArray
  status : Int
  trap : Int
  value : DValue
  steps : Int
def zVm : DVm := ⟨[], [], 0, [], 0, 0, zValue, 0⟩
/-- What is handed in meets this. -/
def VVm (x : DVm) : Prop := (x.frames.length ≤ maxLen ∧ ∀ y ∈ x.frames, VFrame y) ∧ (x.heap.length ≤ maxLen ∧ ∀ y ∈ x.heap, VRec y) ∧ (Lit.int .i64 x.made).wf = true ∧ (x.out.length ≤ maxLen ∧ ∀ y ∈ x.out, y.size ≤ maxLen) ∧ (Lit.int .i64 x.status).wf = true ∧ (Lit.int .i64 x.trap).wf = true ∧ VValue x.value ∧ (Lit.int .i64 x.steps).wf = true
def ctVm (x : DVm) : Nat := 7 + ctL ctFrame x.frames + ctL ctRec x.heap + ctL (fun _ => 1) x.out
def mkVm (k : Int) (x : DVm) : DVm := { frames := mkL mkFrame ctFrame (k + 1 + 1 + 1 + 1 + 1 + 1 + 1) x.frames, heap := mkL mkRec ctRec (k + 1 + 1 + 1 + 1 + 1 + 1 + 1 + ctL ctFrame x.frames) x.heap, made := k + 1 + 1, out := mkL (fun k _ => mkText k) (fun _ => 1) (k + 1 + 1 + 1 + 1 + 1 + 1 + 1 + ctL ctFrame x.frames + ctL ctRec x.heap) x.out, status := k + 1 + 1 + 1 + 1, trap := k + 1 + 1 + 1 + 1 + 1, value := { k := k + 1 + 1 + 1 + 1 + 1 + 1, n := k + 1 + 1 + 1 + 1 + 1 + 1 + 1, s := mkText (k + 1 + 1 + 1 + 1 + 1 + 1 + 1 + 1) }, steps := k + 1 + 1 + 1 + 1 + 1 + 1 + 1 + 1 + 1 }
def msVm (x : DVm) : Nat := sumOf msFrame x.frames + sumOf msRec x.heap + sumOf ByteArray.size x.out + msValue x.value
/-- What a small measure gives. -/
def MVm (x : DVm) : Prop := (x.frames.length ≤ 1048576 ∧ ∀ y ∈ x.frames, MFrame y) ∧ (x.heap.length ≤ 1048576 ∧ ∀ y ∈ x.heap, MRec y) ∧ (x.out.length ≤ 1048576 ∧ ∀ y ∈ x.out, y.size ≤ 1048576) ∧ MValue x.value
theorem MVm_of {x : DVm} (h : msVm x ≤ 1048576) : MVm x := by
  unfold msVm at h
  try simp only [sumOf] at h
  unfold MVm
  exact ⟨⟨by omega, fun y hy => by have h9 := mem_sum msFrame _ y hy; exact MFrame_of (by omega)⟩, ⟨by omega, fun y hy => by have h9 := mem_sum msRec _ y hy; exact MRec_of (by omega)⟩, ⟨by omega, fun y hy => by have h9 := mem_sum ByteArray.size _ y hy; exact (by omega)⟩, MValue_of (by omega)⟩
end Go.Proofs.YtpjdecneeakkeaaDoor.Dat

/- A bundle: Reg Reg2 GB GSite GSpec GValue GRec GFrame GPlan GVm. -/
import Derived.Test.YtafgbjnijjlbhaaGreatK1
import Derived.Deep.RegionHeld3
import Derived.Test.YtafgbjnijjlbhaaGreatK3
/- Regions that draw their order, walked by hand: what yields is taken first (wanted or not), what alone may come up is carried out. -/
namespace Go.Proofs.YtafgbjnijjlbhaaGreat.Mem
open Go Go.RowKit
set_option linter.unusedVariables false
set_option linter.unusedSimpArgs false
section
variable {P : Program} {L : List Oper} {Q : Exit → Act → World → Prop} {md : Region.Mode} {S : World → Prop} {fuel : Nat} {listed : Array Bool} {a : Act} {w : World}
/-- Number i may be taken first. -/
def regOk (md : Region.Mode) (L : List Oper) (listed : Array Bool) (i : Nat) : Bool := Region.noSelect L.toArray && (Region.free md L.toArray listed i && (Region.ready md L.toArray listed).contains i)
theorem regOk_of {md : Region.Mode} {L : List Oper} {listed : Array Bool} {i : Nat} (h : regOk md L listed i = true) : Region.noSelect L.toArray = true ∧ Region.free md L.toArray listed i = true ∧ (Region.ready md L.toArray listed).contains i = true := by
  unfold regOk at h
  rw [Bool.and_eq_true, Bool.and_eq_true] at h
  exact h
theorem regW (i : Nat) {o : Oper} {v : Value} (hi : L[i]? = some o) (hw : Region.wanted o (yielded L.toArray a.tmps) = true) (hk : regOk md L listed i = true)
    (hQ : ∀ c a w, Q (.panic c) (a.put o.dst v) w → Q (.panic c) a w) (hv : ∀ w, S w → (execOp a.eval o).run P w = .ok (.value v) w) (hS : S w)
    (h : wpAnyH P md L.toArray Q S fuel (listed.setIfInBounds i true) (a.put o.dst v) w) : wpAnyH P md L.toArray Q S (fuel + 1) listed a w :=
  wpAnyH_take (by simpa using hi) (regOk_of hk).1 (regOk_of hk).2.1 (regOk_of hk).2.2 hQ (Or.inl ⟨hw, hv⟩) hS h
theorem regU (i : Nat) {o : Oper} (hi : L[i]? = some o) (hw : Region.wanted o (yielded L.toArray a.tmps) = false) (hk : regOk md L listed i = true)
    (hQ : ∀ c a w, Q (.panic c) (a.put o.dst undef) w → Q (.panic c) a w) (hS : S w)
    (h : wpAnyH P md L.toArray Q S fuel (listed.setIfInBounds i true) (a.put o.dst undef) w) : wpAnyH P md L.toArray Q S (fuel + 1) listed a w :=
  wpAnyH_take (by simpa using hi) (regOk_of hk).1 (regOk_of hk).2.1 (regOk_of hk).2.2 hQ (Or.inr ⟨hw, rfl⟩) hS h
/-- A row of operations that are not wanted, one behind the other. -/
def skipL (L : List Oper) : List Nat → Array Bool × Act → Array Bool × Act
  | [], s => s
  | i :: is, s => skipL L is (s.1.setIfInBounds i true, s.2.put ((L[i]?).bind (·.dst)) undef)
def skipOk (md : Region.Mode) (L : List Oper) : List Nat → Array Bool × Act → Bool
  | [], _ => true
  | i :: is, s => (match L[i]? with
    | none => false
    | some o => !(Region.wanted o (yielded L.toArray s.2.tmps)) && (regOk md L s.1 i || (Region.ready md L.toArray s.1 == [i]))) && skipOk md L is (s.1.setIfInBounds i true, s.2.put ((L[i]?).bind (·.dst)) undef)
theorem regS (hQ : ∀ c a w d, Q (.panic c) (Act.put a d undef) w → Q (.panic c) a w) : ∀ (is : List Nat) (n : Nat) (listed : Array Bool) (a : Act), n = fuel + is.length → skipOk md L is (listed, a) = true → S w →
    wpAnyH P md L.toArray Q S fuel (skipL L is (listed, a)).1 (skipL L is (listed, a)).2 w → wpAnyH P md L.toArray Q S n listed a w
  | [], n, listed, a, hn, _, _, h => by
    have e : n = fuel := by simpa using hn
    subst e
    exact h
  | i :: is, n, listed, a, hn, hk, hS, h => by
    obtain ⟨m, rfl⟩ : ∃ m, n = m + 1 := ⟨n - 1, by simp at hn; omega⟩
    unfold skipOk at hk
    rw [Bool.and_eq_true] at hk
    obtain ⟨h1, h2⟩ := hk
    cases ho : L[i]? with
    | none => rw [ho] at h1; cases h1
    | some o =>
      rw [ho] at h1 h2
      simp only [Bool.and_eq_true, Bool.or_eq_true, Bool.not_eq_true'] at h1
      have hr : wpAnyH P md L.toArray Q S m (listed.setIfInBounds i true) (a.put o.dst undef) w := regS hQ is m _ _ (by simp at hn; omega) h2 hS (by
        have : skipL L (i :: is) (listed, a) = skipL L is (listed.setIfInBounds i true, a.put o.dst undef) := by rw [skipL, ho]; rfl
        rw [this] at h
        exact h)
      rcases h1.2 with hok | hone
      · exact regU i ho h1.1 hok (fun c a w => hQ c a w o.dst) hS hr
      · exact wpAnyH_ready (by simpa using hone) (by simp) (AllReadyH.cons (by simpa using ho) (fun K hK => by rw [h1.1]; exact hK.out _ _ hS (fun _ => hr)) AllReadyH.nil)
theorem regC (i : Nat) {o : Oper} (hi : L[i]? = some o) (hr : Region.ready md L.toArray listed = [i]) (hw : Region.wanted o (yielded L.toArray a.tmps) = true)
    (h : ∀ K' : Act → World → Prop, Shut (∀ a w, S w → (S w → wpAnyH P md L.toArray Q S fuel (listed.setIfInBounds i true) a w) → K' a w) → Oper.wp P o a w K' Q) : wpAnyH P md L.toArray Q S (fuel + 1) listed a w :=
  wpAnyH_ready hr (by simp) (AllReadyH.cons (by simpa using hi) (fun K hK => by rw [if_pos hw]; exact h K hK) AllReadyH.nil)
theorem regN (i : Nat) {o : Oper} (hi : L[i]? = some o) (hw : Region.wanted o (yielded L.toArray a.tmps) = false) (hr : Region.ready md L.toArray listed = [i]) (hS : S w)
    (h : wpAnyH P md L.toArray Q S fuel (listed.setIfInBounds i true) (a.put o.dst undef) w) : wpAnyH P md L.toArray Q S (fuel + 1) listed a w :=
  wpAnyH_ready hr (by simp) (AllReadyH.cons (by simpa using hi) (fun K hK => by rw [hw]; exact hK.out _ _ hS (fun _ => h)) AllReadyH.nil)
/-! Short names: what a walk says at each step of a region. -/
theorem pP : (∀ (a : Act) (d : Nat) (v : Value), a.put (some d) v = { a with tmps := a.tmps.setIfInBounds d v }) ∧ (∀ (a : Act) (v : Value), a.put none v = a) ∧ (∀ (l : List Value) (i : Nat) (x : Value), l.toArray.setIfInBounds i x = (l.set i x).toArray) ∧ (∀ (y : Value) (l : List Value) (x : Value), (y :: l).set 0 x = x :: l) ∧ (∀ (y : Value) (l : List Value) (i : Nat) (x : Value), (y :: l).set (i + 1) x = y :: l.set i x) ∧ (∀ (l : List Bool) (i : Nat) (x : Bool), l.toArray.setIfInBounds i x = (l.set i x).toArray) ∧ (∀ (y : Bool) (l : List Bool) (x : Bool), (y :: l).set 0 x = x :: l) ∧ (∀ (y : Bool) (l : List Bool) (i : Nat) (x : Bool), (y :: l).set (i + 1) x = y :: l.set i x) := ⟨fun _ _ _ => rfl, fun _ _ => rfl, fun _ _ _ => by simp, fun _ _ _ => rfl, fun _ _ _ _ => rfl, fun _ _ _ => by simp, fun _ _ _ => rfl, fun _ _ _ _ => rfl⟩
theorem rW (i : Nat) {v : Value} {o : Oper} (h : wpAnyH P md L.toArray Q S fuel (listed.setIfInBounds i true) (a.put o.dst v) w) (hi : L[i]? = some o := by rfl) (hw : Region.wanted o (yielded L.toArray a.tmps) = true := by rfl) (hk : regOk md L listed i = true := by kernel_rfl)
    (hQ : ∀ c a w, Q (.panic c) (a.put o.dst v) w → Q (.panic c) a w := by exact fun _ _ _ h => h) (hv : ∀ w, S w → (execOp a.eval o).run P w = .ok (.value v) w := by (intro w9 hSw; (try dsimp only at hSw); go_simp; (try with_reducible rfl); done)) (hS : S w := by assumption) : wpAnyH P md L.toArray Q S (fuel + 1) listed a w := regW i hi hw hk hQ hv hS h
theorem rV (i : Nat) {o : Oper} (h : wpAnyH P md L.toArray Q S fuel (listed.setIfInBounds i true) (a.put o.dst undef) w) (hi : L[i]? = some o := by rfl) (hw : Region.wanted o (yielded L.toArray a.tmps) = false := by rfl) (hk : (regOk md L listed i || (Region.ready md L.toArray listed == [i])) = true := by kernel_rfl)
    (hQ : ∀ c a w, Q (.panic c) (a.put o.dst undef) w → Q (.panic c) a w := by exact fun _ _ _ h => h) (hS : S w := by assumption) : wpAnyH P md L.toArray Q S (fuel + 1) listed a w := by
  rw [Bool.or_eq_true] at hk
  rcases hk with hk | hk
  · exact regU i hi hw hk hQ hS h
  · exact regN i hi hw (by simpa using hk) hS h
end
end Go.Proofs.YtafgbjnijjlbhaaGreat.Mem

/- Two operations that may come up. -/
namespace Go.Proofs.YtafgbjnijjlbhaaGreat.Mem
open Go Go.RowKit
section
variable {P : Program} {L : List Oper} {Q : Exit → Act → World → Prop} {md : Region.Mode} {S : World → Prop} {fuel : Nat} {listed : Array Bool} {a : Act} {w : World}
theorem regC2 (i j : Nat) {o o' : Oper} (hi : L[i]? = some o) (hj : L[j]? = some o') (hr : Region.ready md L.toArray listed = [i, j]) (hw : Region.wanted o (yielded L.toArray a.tmps) = true) (hw' : Region.wanted o' (yielded L.toArray a.tmps) = true)
    (h : ∀ K' : Act → World → Prop, Shut (∀ a w, S w → (S w → wpAnyH P md L.toArray Q S fuel (listed.setIfInBounds i true) a w) → K' a w) → Oper.wp P o a w K' Q)
    (h' : ∀ K' : Act → World → Prop, Shut (∀ a w, S w → (S w → wpAnyH P md L.toArray Q S fuel (listed.setIfInBounds j true) a w) → K' a w) → Oper.wp P o' a w K' Q) : wpAnyH P md L.toArray Q S (fuel + 1) listed a w :=
  wpAnyH_ready hr (by simp) (AllReadyH.cons (by simpa using hi) (fun K hK => by rw [if_pos hw]; exact h K hK) (AllReadyH.cons (by simpa using hj) (fun K hK => by rw [if_pos hw']; exact h' K hK) AllReadyH.nil))
end
end Go.Proofs.YtafgbjnijjlbhaaGreat.Mem

/- Texts and numbers in rows: the laws' own functions, under the generated names. Written by a program (recgen.py). -/
namespace Go.Proofs.YtafgbjnijjlbhaaGreat.Mem
open Go Go.RowKit
theorem St.cons {w W : World} {L : List Res} {r : Res} (h : St w L W) (hr : r.P W) (hn : r.F.Nodup) (ho : ∀ g ∈ r.F, w.heap.size ≤ g) (hd : ∀ q ∈ L, ∀ g ∈ r.F, g ∉ q.F) : St w (r :: L) W :=
  ⟨h.bel, fun q hq => by
    rcases List.mem_cons.1 hq with rfl | hq
    · exact hr
    · exact h.at_ q hq, fun q hq => by
    rcases List.mem_cons.1 hq with rfl | hq
    · exact ho
    · exact h.old q hq, by
    rw [List.map_cons, List.flatten_cons, List.nodup_append]
    refine ⟨hn, h.dis, fun a ha b hb e => ?_⟩
    subst e
    obtain ⟨F, hF, haF⟩ := List.mem_flatten.1 hb
    obtain ⟨q, hq, rfl⟩ := List.mem_map.1 hF
    exact hd q hq a ha haF⟩
theorem Knd.At.cellj {α : Type} {d : Knd α} {e : Nat} {w : World} {g n c : Nat} {xs : List α} {Fs : List (List Nat)} {inner : List Value} (h : Knd.At d e w g n c xs Fs inner) (j i : Nat) (hj : j < xs.length) {cs : List Value} (hs : Knd.At.seg d inner j = cs) {u : Value} (hu : cs[i]? = some u) : w.cell? ⟨g, j * d.sz + i, none⟩ = some u := by
  subst hs
  have hi : i < d.sz := by
    have := (List.getElem?_eq_some_iff.1 hu).1
    unfold Knd.At.seg at this
    rw [List.length_take] at this
    omega
  have hle : (j + 1) * d.sz ≤ xs.length * d.sz := Nat.mul_le_mul_right _ hj
  rw [Nat.succ_mul] at hle
  rw [h.cell _ (by omega)]
  unfold Knd.At.seg at hu
  rwa [List.getElem?_take_of_lt hi, List.getElem?_drop] at hu
theorem St.bare {w W : World} (h : Below w.heap.size w W) : St w [] W := ⟨h, by simp, by simp, by simp⟩
/-- What a call lays, laid among what is there. -/
theorem St.join {w W W' : World} {L L2 : List Res} (h : St w L W) (k : St W L2 W') : St w (L2 ++ L) W' := by
  have h2 := h.step k.bel
  refine ⟨h2.bel, fun q hq => ?_, fun q hq g hg => ?_, ?_⟩
  · rcases List.mem_append.1 hq with hq | hq
    · exact k.at_ q hq
    · exact h2.at_ q hq
  · rcases List.mem_append.1 hq with hq | hq
    · exact Nat.le_trans h.bel.size (k.old q hq g hg)
    · exact h2.old q hq g hg
  · rw [List.map_append, List.flatten_append, List.nodup_append]
    refine ⟨k.dis, h2.dis, fun a ha b hb e => ?_⟩
    subst e
    obtain ⟨F, hF, haF⟩ := List.mem_flatten.1 ha
    obtain ⟨q, hq, rfl⟩ := List.mem_map.1 hF
    obtain ⟨F', hF', haF'⟩ := List.mem_flatten.1 hb
    obtain ⟨q', hq', rfl⟩ := List.mem_map.1 hF'
    have h8 := k.old q hq a haF
    have h9 := q'.lt (h.at_ q' hq') a haF'
    omega
end Go.Proofs.YtafgbjnijjlbhaaGreat.Mem
namespace Go.Proofs.YtafgbjnijjlbhaaGreat.Dat
open Go Go.RowKit Go.Proofs.YtafgbjnijjlbhaaGreat.Mem
set_option linter.unusedVariables false
set_option linter.unusedSimpArgs false
theorem ctL_le2 {α : Type} {f ct : α → Nat} (N : Nat) (h : ∀ x, ct x ≤ N * (f x + 1)) : ∀ l : List α, ctL ct l ≤ N * sumOf f l
  | [] => by simp [ctL, sumOf]
  | x :: l => by
    have h1 := ctL_le2 N h l
    have h2 := h x
    unfold ctL sumOf at h1 ⊢
    simp only [List.map_cons, List.sum_cons, List.length_cons, Nat.mul_add, Nat.mul_one] at h1 h2 ⊢
    omega
theorem ctL_const {α : Type} (n : Nat) : ∀ l : List α, ctL (fun _ => n) l = n * l.length
  | [] => by simp [ctL]
  | x :: l => by
    have h1 := ctL_const n l
    unfold ctL at h1 ⊢
    simp only [List.map_cons, List.sum_cons, List.length_cons, Nat.mul_add, Nat.mul_one]
    omega
end Go.Proofs.YtafgbjnijjlbhaaGreat.Dat

/- The laws' own functions over Site. Written by a program (recgen.py). -/
namespace Go.Proofs.YtafgbjnijjlbhaaGreat.Dat
open Go Go.RowKit Go.Proofs.YtafgbjnijjlbhaaGreat.Mem
set_option linter.unusedVariables false
set_option linter.unusedSimpArgs false
structure DSite where
  fn : Int
  pc : Int
  seen : Int
  target : Int
end Go.Proofs.YtafgbjnijjlbhaaGreat.Dat

/- The laws' own functions over Spec. Written by a program (recgen.py). -/
namespace Go.Proofs.YtafgbjnijjlbhaaGreat.Dat
open Go Go.RowKit Go.Proofs.YtafgbjnijjlbhaaGreat.Mem
set_option linter.unusedVariables false
set_option linter.unusedSimpArgs false
structure DSpec where
  fn : Int
  pc : Int
  kind : Int
  target : Int
def zSpec : DSpec := ⟨0, 0, 0, 0⟩
def kSpec : Knd DSpec := Knd.iso (Knd.pair (Knd.int .i64) (Knd.pair (Knd.int .i64) (Knd.pair (Knd.int .i64) (Knd.int .i64)))) (fun x => (x.fn, x.pc, x.kind, x.target))
/-- What is handed in meets this. -/
def VSpec (x : DSpec) : Prop := (Lit.int .i64 x.fn).wf = true ∧ (Lit.int .i64 x.pc).wf = true ∧ (Lit.int .i64 x.kind).wf = true ∧ (Lit.int .i64 x.target).wf = true
theorem kSpec_K {w : World} {x : DSpec} {cs : List Value} : kSpec.K w x cs ↔ cs = [.int .i64 x.fn, .int .i64 x.pc, .int .i64 x.kind, .int .i64 x.target] := by
  constructor
  · rintro ⟨_, _, rfl, rfl, ⟨_, _, rfl, rfl, ⟨_, _, rfl, rfl, rfl⟩⟩⟩
    rfl
  · rintro rfl
    exact ⟨[.int .i64 x.fn], [.int .i64 x.pc, .int .i64 x.kind, .int .i64 x.target], rfl, rfl, ⟨[.int .i64 x.pc], [.int .i64 x.kind, .int .i64 x.target], rfl, rfl, ⟨[.int .i64 x.kind], [.int .i64 x.target], rfl, rfl, rfl⟩⟩⟩
theorem kSpec_Oi {w : World} {x : DSpec} {cs : List Value} {F : List Nat} : kSpec.O w x cs F ↔ cs = [.int .i64 x.fn, .int .i64 x.pc, .int .i64 x.kind, .int .i64 x.target] ∧ F = [] := by
  constructor
  · rintro ⟨_, _, _, _, rfl, rfl, ⟨rfl, rfl⟩, ⟨_, _, _, _, rfl, rfl, ⟨rfl, rfl⟩, ⟨_, _, _, _, rfl, rfl, ⟨rfl, rfl⟩, ⟨rfl, rfl⟩⟩⟩⟩
    exact ⟨rfl, rfl⟩
  · rintro ⟨rfl, rfl⟩
    have h : kSpec.O w x [.int .i64 x.fn, .int .i64 x.pc, .int .i64 x.kind, .int .i64 x.target] (([] ++ ([] ++ ([] ++ [])))) := ⟨[.int .i64 x.fn], [.int .i64 x.pc, .int .i64 x.kind, .int .i64 x.target], [], ([] ++ ([] ++ [])), rfl, by simp, ⟨rfl, rfl⟩, ⟨[.int .i64 x.pc], [.int .i64 x.kind, .int .i64 x.target], [], ([] ++ []), rfl, by simp, ⟨rfl, rfl⟩, ⟨[.int .i64 x.kind], [.int .i64 x.target], [], [], rfl, by simp, ⟨rfl, rfl⟩, ⟨rfl, rfl⟩⟩⟩⟩
    simpa using h
set_option maxHeartbeats 4000000 in
set_option maxRecDepth 100000 in
theorem toSpec_c (x : DSpec) (w : World) : Calls Tryz.prog 188 #[.agg #[.int .i64 x.fn, .int .i64 x.pc, .int .i64 x.kind, .int .i64 x.target]] w fun e w' => e = .returned (.agg #[.int .i64 x.fn, .int .i64 x.pc, .int .i64 x.kind, .int .i64 x.target]) ∧ Below w.heap.size w w' := by
  go_enter Tryz.func188, Tryz.ntmps188
  go_wp2
  refine bodyPost_ret (v := .agg #[.int .i64 x.fn, .int .i64 x.pc, .int .i64 x.kind, .int .i64 x.target]) (by simp [results, Tryz.results188, go_sem, true_and, *]) rfl ⟨rfl, (by repeat (first | with_reducible exact Below.refl _ _ | with_reducible assumption | (with_reducible refine bl_set ?_ (by dsimp only; omega) _) | with_reducible refine bl_alloc ?_ _ | with_reducible refine bl_drewN ?_ _ | with_reducible refine bl_drew ?_ | with_reducible refine bl_step ?_ (by with_reducible assumption) | exact Below.refl _ _ | assumption | (refine bl_set ?_ (by dsimp only; omega) _) | refine bl_alloc ?_ _ | refine bl_drewN ?_ _ | refine bl_drew ?_ | refine bl_step ?_ (by assumption)))⟩
set_option maxHeartbeats 4000000 in
set_option maxRecDepth 100000 in
theorem eqSpec_c (x : DSpec) (w : World) : Calls Tryz.prog 75 #[.agg #[.int .i64 x.fn, .int .i64 x.pc, .int .i64 x.kind, .int .i64 x.target], .agg #[.int .i64 x.fn, .int .i64 x.pc, .int .i64 x.kind, .int .i64 x.target]] w fun e w' => e = .returned (.bool true) ∧ Below w.heap.size w w' := by
  go_enter Tryz.func75, Tryz.ntmps75
  go_wp2
  go_ret
  exact ⟨rfl, (by repeat (first | with_reducible exact Below.refl _ _ | with_reducible assumption | (with_reducible refine bl_set ?_ (by dsimp only; omega) _) | with_reducible refine bl_alloc ?_ _ | with_reducible refine bl_drewN ?_ _ | with_reducible refine bl_drew ?_ | with_reducible refine bl_step ?_ (by with_reducible assumption) | exact Below.refl _ _ | assumption | (refine bl_set ?_ (by dsimp only; omega) _) | refine bl_alloc ?_ _ | refine bl_drewN ?_ _ | refine bl_drew ?_ | refine bl_step ?_ (by assumption)))⟩
end Go.Proofs.YtafgbjnijjlbhaaGreat.Dat

/- The laws' own functions over Value. Written by a program (recgen.py). -/
namespace Go.Proofs.YtafgbjnijjlbhaaGreat.Dat
open Go Go.RowKit Go.Proofs.YtafgbjnijjlbhaaGreat.Mem
set_option linter.unusedVariables false
set_option linter.unusedSimpArgs false
structure DValue where
  k : Int
  n : Int
  s : ByteArray
def zValue : DValue := ⟨0, 0, ⟨#[]⟩⟩
def kValue : Knd DValue := Knd.iso (Knd.pair (Knd.int .i64) (Knd.pair (Knd.int .i64) Knd.str)) (fun x => (x.k, x.n, x.s))
/-- What is handed in meets this. -/
def VValue (x : DValue) : Prop := (Lit.int .i64 x.k).wf = true ∧ (Lit.int .i64 x.n).wf = true ∧ x.s.size ≤ maxLen
theorem kValue_K {w : World} {x : DValue} {cs : List Value} : kValue.K w x cs ↔ cs = [.int .i64 x.k, .int .i64 x.n, .string x.s] := by
  constructor
  · rintro ⟨_, _, rfl, rfl, ⟨_, _, rfl, rfl, rfl⟩⟩
    rfl
  · rintro rfl
    exact ⟨[.int .i64 x.k], [.int .i64 x.n, .string x.s], rfl, rfl, ⟨[.int .i64 x.n], [.string x.s], rfl, rfl, rfl⟩⟩
theorem kValue_at {w : World} {A : Option Addr} {m : Nat} {xs : List DValue} (h : kValue.Row w A m xs) (i : Nat) (x : DValue) (hx : xs[i]? = some x) : ∃ (ad : Addr), A = some ad ∧ w.cell? (ad.add (i * 3)) = some (.int .i64 x.k) ∧ w.cell? ⟨(ad.add (i * 3)).block, (ad.add (i * 3)).off + 1, none⟩ = some (.int .i64 x.n) ∧ w.cell? ⟨(ad.add (i * 3)).block, (ad.add (i * 3)).off + 2, none⟩ = some (.string x.s) := by
  obtain ⟨ad, c, e, hK, hc0⟩ := h.get i x hx
  have hc : ∀ j u, c[j]? = some u → w.cell? (ad.add (i * 3 + j)) = some u := hc0
  obtain rfl := kValue_K.1 hK
  exact ⟨ad, e, hc 0 _ rfl, (by rw [← add_field _ _ 1 (by omega)]; exact hc 1 _ rfl), (by rw [← add_field _ _ 2 (by omega)]; exact hc 2 _ rfl)⟩
theorem kValue_Oi {w : World} {x : DValue} {cs : List Value} {F : List Nat} : kValue.O w x cs F ↔ cs = [.int .i64 x.k, .int .i64 x.n, .string x.s] ∧ F = [] := by
  constructor
  · rintro ⟨_, _, _, _, rfl, rfl, ⟨rfl, rfl⟩, ⟨_, _, _, _, rfl, rfl, ⟨rfl, rfl⟩, ⟨rfl, rfl⟩⟩⟩
    exact ⟨rfl, rfl⟩
  · rintro ⟨rfl, rfl⟩
    have h : kValue.O w x [.int .i64 x.k, .int .i64 x.n, .string x.s] (([] ++ ([] ++ []))) := ⟨[.int .i64 x.k], [.int .i64 x.n, .string x.s], [], ([] ++ []), rfl, by simp, ⟨rfl, rfl⟩, ⟨[.int .i64 x.n], [.string x.s], [], [], rfl, by simp, ⟨rfl, rfl⟩, ⟨rfl, rfl⟩⟩⟩
    simpa using h
def msValue (x : DValue) : Nat := x.s.size
/-- What a small measure gives. -/
def MValue (x : DValue) : Prop := x.s.size ≤ 1048576
theorem MValue_of {x : DValue} (h : msValue x ≤ 1048576) : MValue x := by
  unfold msValue at h
  try simp only [sumOf] at h
  unfold MValue
  exact by omega
set_option maxHeartbeats 4000000 in
set_option maxRecDepth 100000 in
theorem szValue_c (x : DValue) (left : Int) (w : World) (hV : VValue x) (h0 : 0 ≤ left) (h1 : left ≤ 1048576) : Calls Tryz.prog 80 #[.agg #[.int .i64 x.k, .int .i64 x.n, .string x.s], .int .i64 left] w fun e w' => e = .returned (.int .i64 (lft (msValue x) left)) ∧ Below w.heap.size w w' := by
  have hS := (St.start w).made (.cells #[.int .i64 x.k, .int .i64 x.n, .string x.s] 60 (0, 0))
  have hs_s := hV.2.2
  unfold maxLen at hs_s
  by_cases k0 : ((x.s.size : Nat) : Int) ≤ left
  rotate_left
  · skip
    have g0 : left - (x.s.size : Int) < 0 := by omega
    have HE := Lib.hid (show (-1 : Int) = lft (msValue x) left by unfold msValue; rw [lft_gt (by omega)])
    go_enter Tryz.func80, Tryz.ntmps80
    go_wp2
    go_ret
    exact ⟨ret_int HE.out, hS.bel⟩
  have g0 : 0 ≤ left - (x.s.size : Int) := by omega
  have HE := Lib.hid (show left - (x.s.size : Int) = lft (msValue x) left by unfold msValue; rw [lft_le (by omega)])
  go_enter Tryz.func80, Tryz.ntmps80
  go_wp2
  go_ret
  exact ⟨ret_int HE.out, hS.bel⟩
theorem infoValue : (Tryz.prog.info? 67).map (fun i => (i.zero, i.size, i.bytes)) = some (some (.agg #[.int .i64 0, .int .i64 0, .string (⟨#[]⟩ : ByteArray)]), 3, 32) := by kernel_rfl
set_option maxHeartbeats 4000000 in
set_option maxRecDepth 100000 in
theorem toValue_c (x : DValue) (w : World) : Calls Tryz.prog 85 #[.agg #[.int .i64 x.k, .int .i64 x.n, .string x.s]] w fun e w' => e = .returned (.agg #[.int .i64 x.k, .int .i64 x.n, .string x.s]) ∧ Below w.heap.size w w' := by
  go_enter Tryz.func85, Tryz.ntmps85
  go_wp2
  refine bodyPost_ret (v := .agg #[.int .i64 x.k, .int .i64 x.n, .string x.s]) (by simp [results, Tryz.results85, go_sem, true_and, *]) rfl ⟨rfl, (by repeat (first | with_reducible exact Below.refl _ _ | with_reducible assumption | (with_reducible refine bl_set ?_ (by dsimp only; omega) _) | with_reducible refine bl_alloc ?_ _ | with_reducible refine bl_drewN ?_ _ | with_reducible refine bl_drew ?_ | with_reducible refine bl_step ?_ (by with_reducible assumption) | exact Below.refl _ _ | assumption | (refine bl_set ?_ (by dsimp only; omega) _) | refine bl_alloc ?_ _ | refine bl_drewN ?_ _ | refine bl_drew ?_ | refine bl_step ?_ (by assumption)))⟩
theorem zValue_O (w : World) : kValue.O w zValue (Value.agg #[.int .i64 0, .int .i64 0, .string (⟨#[]⟩ : ByteArray)]).cells.toList [] := kValue_Oi.2 ⟨rfl, rfl⟩
set_option maxHeartbeats 4000000 in
set_option maxRecDepth 100000 in
theorem eqValue_c (x : DValue) (w : World) : Calls Tryz.prog 90 #[.agg #[.int .i64 x.k, .int .i64 x.n, .string x.s], .agg #[.int .i64 x.k, .int .i64 x.n, .string x.s]] w fun e w' => e = .returned (.bool true) ∧ Below w.heap.size w w' := by
  go_enter Tryz.func90, Tryz.ntmps90
  go_wp2
  go_ret
  exact ⟨rfl, (by repeat (first | with_reducible exact Below.refl _ _ | with_reducible assumption | (with_reducible refine bl_set ?_ (by dsimp only; omega) _) | with_reducible refine bl_alloc ?_ _ | with_reducible refine bl_drewN ?_ _ | with_reducible refine bl_drew ?_ | with_reducible refine bl_step ?_ (by with_reducible assumption) | exact Below.refl _ _ | assumption | (refine bl_set ?_ (by dsimp only; omega) _) | refine bl_alloc ?_ _ | refine bl_drewN ?_ _ | refine bl_drew ?_ | refine bl_step ?_ (by assumption)))⟩
end Go.Proofs.YtafgbjnijjlbhaaGreat.Dat

/- The laws' own functions over Rec. Written by a program (recgen.py). -/
namespace Go.Proofs.YtafgbjnijjlbhaaGreat.Dat
open Go Go.RowKit Go.Proofs.YtafgbjnijjlbhaaGreat.Mem
set_option linter.unusedVariables false
set_option linter.unusedSimpArgs false
end Go.Proofs.YtafgbjnijjlbhaaGreat.Dat

/- The laws' own functions over Frame. Written by a program (recgen.py). -/
namespace Go.Proofs.YtafgbjnijjlbhaaGreat.Dat
open Go Go.RowKit Go.Proofs.YtafgbjnijjlbhaaGreat.Mem
set_option linter.unusedVariables false
set_option linter.unusedSimpArgs false
structure DFrame where
  fn : Int
  pc : Int
  locals : List DValue
  stack : List DValue
/-- What a small measure gives. -/
def MFrame (x : DFrame) : Prop := (x.locals.length ≤ 1048576 ∧ ∀ y ∈ x.locals, MValue y) ∧ (x.stack.length ≤ 1048576 ∧ ∀ y ∈ x.stack, MValue y)
end Go.Proofs.YtafgbjnijjlbhaaGreat.Dat

/- The laws' own functions over Plan. Written by a program (recgen.py). -/
namespace Go.Proofs.YtafgbjnijjlbhaaGreat.Dat
open Go Go.RowKit Go.Proofs.YtafgbjnijjlbhaaGreat.Mem
set_option linter.unusedVariables false
set_option linter.unusedSimpArgs false
end Go.Proofs.YtafgbjnijjlbhaaGreat.Dat

/- The laws' own functions over Vm. Written by a program (recgen.py). -/
namespace Go.Proofs.YtafgbjnijjlbhaaGreat.Dat
open Go Go.RowKit Go.Proofs.YtafgbjnijjlbhaaGreat.Mem
set_option linter.unusedVariables false
set_option linter.unusedSimpArgs false
end Go.Proofs.YtafgbjnijjlbhaaGreat.Dat

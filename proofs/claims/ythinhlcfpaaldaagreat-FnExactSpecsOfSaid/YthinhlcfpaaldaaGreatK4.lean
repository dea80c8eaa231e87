/- A bundle: Reg Reg2 GB GSite GSpec GValue GRec GFrame GPlan GVm. -/
import Derived.Test.YthinhlcfpaaldaaGreatK1
import Derived.Deep.RegionHeld3
import Derived.Test.YthinhlcfpaaldaaGreatK3
/- Regions that draw their order, walked by hand: what yields is taken first (wanted or not), what alone may come up is carried out. -/
namespace Go.Proofs.YthinhlcfpaaldaaGreat.Mem
open Go Go.RowKit
set_option linter.unusedVariables false
set_option linter.unusedSimpArgs false
section
variable {P : Program} {L : List Oper} {Q : Exit → Act → World → Prop} {md : Region.Mode} {S : World → Prop} {fuel : Nat} {listed : Array Bool} {a : Act} {w : World}
/-- Number i may be taken first. -/
def regOk (md : Region.Mode) (L : List Oper) (listed : Array Bool) (i : Nat) : Bool := Region.noSelect L.toArray && (Region.free md L.toArray listed i && (Region.ready md L.toArray listed).contains i)
theorem regOk_of {md : Region.Mode} {L : List Oper} {listed : Array Bool} {i : Nat} (h : regOk md L listed i = true) : Region.noSelect L.toArray = true ∧ Region.free md L.toArray listed i = true ∧ (Region.ready md L.toArray listed).contains i = true := by
  unfold regOk at h
  rw [Bool.and_eq_true, Bool.and_eq_true] at h
  exact h
theorem regW (i : Nat) {o : Oper} {v : Value} (hi : L[i]? = some o) (hw : Region.wanted o (yielded L.toArray a.tmps) = true) (hk : regOk md L listed i = true)
    (hQ : ∀ c a w, Q (.panic c) (a.put o.dst v) w → Q (.panic c) a w) (hv : ∀ w, S w → (execOp a.eval o).run P w = .ok (.value v) w) (hS : S w)
    (h : wpAnyH P md L.toArray Q S fuel (listed.setIfInBounds i true) (a.put o.dst v) w) : wpAnyH P md L.toArray Q S (fuel + 1) listed a w :=
  wpAnyH_take (by simpa using hi) (regOk_of hk).1 (regOk_of hk).2.1 (regOk_of hk).2.2 hQ (Or.inl ⟨hw, hv⟩) hS h
theorem regU (i : Nat) {o : Oper} (hi : L[i]? = some o) (hw : Region.wanted o (yielded L.toArray a.tmps) = false) (hk : regOk md L listed i = true)
    (hQ : ∀ c a w, Q (.panic c) (a.put o.dst undef) w → Q (.panic c) a w) (hS : S w)
    (h : wpAnyH P md L.toArray Q S fuel (listed.setIfInBounds i true) (a.put o.dst undef) w) : wpAnyH P md L.toArray Q S (fuel + 1) listed a w :=
  wpAnyH_take (by simpa using hi) (regOk_of hk).1 (regOk_of hk).2.1 (regOk_of hk).2.2 hQ (Or.inr ⟨hw, rfl⟩) hS h
/-- A row of operations that are not wanted, one behind the other. -/
def skipL (L : List Oper) : List Nat → Array Bool × Act → Array Bool × Act
  | [], s => s
  | i :: is, s => skipL L is (s.1.setIfInBounds i true, s.2.put ((L[i]?).bind (·.dst)) undef)
def skipOk (md : Region.Mode) (L : List Oper) : List Nat → Array Bool × Act → Bool
  | [], _ => true
  | i :: is, s => (match L[i]? with
    | none => false
    | some o => !(Region.wanted o (yielded L.toArray s.2.tmps)) && (regOk md L s.1 i || (Region.ready md L.toArray s.1 == [i]))) && skipOk md L is (s.1.setIfInBounds i true, s.2.put ((L[i]?).bind (·.dst)) undef)
theorem regS (hQ : ∀ c a w d, Q (.panic c) (Act.put a d undef) w → Q (.panic c) a w) : ∀ (is : List Nat) (n : Nat) (listed : Array Bool) (a : Act), n = fuel + is.length → skipOk md L is (listed, a) = true → S w →
    wpAnyH P md L.toArray Q S fuel (skipL L is (listed, a)).1 (skipL L is (listed, a)).2 w → wpAnyH P md L.toArray Q S n listed a w
  | [], n, listed, a, hn, _, _, h => by
    have e : n = fuel := by simpa using hn
    subst e
    exact h
  | i :: is, n, listed, a, hn, hk, hS, h => by
    obtain ⟨m, rfl⟩ : ∃ m, n = m + 1 := ⟨n - 1, by simp at hn; omega⟩
    unfold skipOk at hk
    rw [Bool.and_eq_true] at hk
    obtain ⟨h1, h2⟩ := hk
    cases ho : L[i]? with
    | none => rw [ho] at h1; cases h1
    | some o =>
      rw [ho] at h1 h2
      simp only [Bool.and_eq_true, Bool.or_eq_true, Bool.not_eq_true'] at h1
      have hr : wpAnyH P md L.toArray Q S m (listed.setIfInBounds i true) (a.put o.dst undef) w := regS hQ is m _ _ (by simp at hn; omega) h2 hS (by
        have : skipL L (i :: is) (listed, a) = skipL L is (listed.setIfInBounds i true, a.put o.dst undef) := by rw [skipL, ho]; rfl
        rw [this] at h
        exact h)
      rcases h1.2 with hok | hone
      · exact regU i ho h1.1 hok (fun c a w => hQ c a w o.dst) hS hr
      · exact wpAnyH_ready (by simpa using hone) (by simp) (AllReadyH.cons (by simpa using ho) (fun K hK => by rw [h1.1]; exact hK.out _ _ hS (fun _ => hr)) AllReadyH.nil)
theorem regC (i : Nat) {o : Oper} (hi : L[i]? = some o) (hr : Region.ready md L.toArray listed = [i]) (hw : Region.wanted o (yielded L.toArray a.tmps) = true)
    (h : ∀ K' : Act → World → Prop, Shut (∀ a w, S w → (S w → wpAnyH P md L.toArray Q S fuel (listed.setIfInBounds i true) a w) → K' a w) → Oper.wp P o a w K' Q) : wpAnyH P md L.toArray Q S (fuel + 1) listed a w :=
  wpAnyH_ready hr (by simp) (AllReadyH.cons (by simpa using hi) (fun K hK => by rw [if_pos hw]; exact h K hK) AllReadyH.nil)
theorem regN (i : Nat) {o : Oper} (hi : L[i]? = some o) (hw : Region.wanted o (yielded L.toArray a.tmps) = false) (hr : Region.ready md L.toArray listed = [i]) (hS : S w)
    (h : wpAnyH P md L.toArray Q S fuel (listed.setIfInBounds i true) (a.put o.dst undef) w) : wpAnyH P md L.toArray Q S (fuel + 1) listed a w :=
  wpAnyH_ready hr (by simp) (AllReadyH.cons (by simpa using hi) (fun K hK => by rw [hw]; exact hK.out _ _ hS (fun _ => h)) AllReadyH.nil)
/-! Short names: what a walk says at each step of a region. -/
theorem pP : (∀ (a : Act) (d : Nat) (v : Value), a.put (some d) v = { a with tmps := a.tmps.setIfInBounds d v }) ∧ (∀ (a : Act) (v : Value), a.put none v = a) ∧ (∀ (l : List Value) (i : Nat) (x : Value), l.toArray.setIfInBounds i x = (l.set i x).toArray) ∧ (∀ (y : Value) (l : List Value) (x : Value), (y :: l).set 0 x = x :: l) ∧ (∀ (y : Value) (l : List Value) (i : Nat) (x : Value), (y :: l).set (i + 1) x = y :: l.set i x) ∧ (∀ (l : List Bool) (i : Nat) (x : Bool), l.toArray.setIfInBounds i x = (l.set i x).toArray) ∧ (∀ (y : Bool) (l : List Bool) (x : Bool), (y :: l).set 0 x = x :: l) ∧ (∀ (y : Bool) (l : List Bool) (i : Nat) (x : Bool), (y :: l).set (i + 1) x = y :: l.set i x) := ⟨fun _ _ _ => rfl, fun _ _ => rfl, fun _ _ _ => by simp, fun _ _ _ => rfl, fun _ _ _ _ => rfl, fun _ _ _ => by simp, fun _ _ _ => rfl, fun _ _ _ _ => rfl⟩
theorem rW (i : Nat) {v : Value} {o : Oper} (h : wpAnyH P md L.toArray Q S fuel (listed.setIfInBounds i true) (a.put o.dst v) w) (hi : L[i]? = some o := by rfl) (hw : Region.wanted o (yielded L.toArray a.tmps) = true := by rfl) (hk : regOk md L listed i = true := by kernel_rfl)
    (hQ : ∀ c a w, Q (.panic c) (a.put o.dst v) w → Q (.panic c) a w := by exact fun _ _ _ h => h) (hv : ∀ w, S w → (execOp a.eval o).run P w = .ok (.value v) w := by (intro w9 hSw; (try dsimp only at hSw); go_simp; (try with_reducible rfl); done)) (hS : S w := by assumption) : wpAnyH P md L.toArray Q S (fuel + 1) listed a w := regW i hi hw hk hQ hv hS h
theorem rV (i : Nat) {o : Oper} (h : wpAnyH P md L.toArray Q S fuel (listed.setIfInBounds i true) (a.put o.dst undef) w) (hi : L[i]? = some o := by rfl) (hw : Region.wanted o (yielded L.toArray a.tmps) = false := by rfl) (hk : (regOk md L listed i || (Region.ready md L.toArray listed == [i])) = true := by kernel_rfl)
    (hQ : ∀ c a w, Q (.panic c) (a.put o.dst undef) w → Q (.panic c) a w := by exact fun _ _ _ h => h) (hS : S w := by assumption) : wpAnyH P md L.toArray Q S (fuel + 1) listed a w := by
  rw [Bool.or_eq_true] at hk
  rcases hk with hk | hk
  · exact regU i hi hw hk hQ hS h
  · exact regN i hi hw (by simpa using hk) hS h
/-- The first place that is not yet listed. -/
inductive Nxt : List Bool → Nat → Prop
  | here {l : List Bool} : Nxt (false :: l) 0
  | more {l : List Bool} {i : Nat} (h : Nxt l i) : Nxt (true :: l) (i + 1)
theorem rQ1 {i : Nat} {v : Value} {o : Oper} (h : wpAnyH P md L.toArray Q S fuel (listed.setIfInBounds i true) (a.put o.dst v) w) (hn : Nxt listed.toList i := by repeat constructor) (hi : L[i]? = some o := by rfl) (hw : Region.wanted o (yielded L.toArray a.tmps) = true := by rfl) (hk : regOk md L listed i = true := by kernel_rfl)
    (hQ : ∀ c a w, Q (.panic c) (a.put o.dst v) w → Q (.panic c) a w := by exact fun _ _ _ h => h) (hv : ∀ w, S w → (execOp a.eval o).run P w = .ok (.value v) w := by (intro w9 hSw; (try dsimp only at hSw); go_simp; (try with_reducible rfl); done)) (hS : S w := by assumption) : wpAnyH P md L.toArray Q S (fuel + 1) listed a w := regW i hi hw hk hQ hv hS h
theorem rQ2 {i : Nat} {o : Oper} (h : wpAnyH P md L.toArray Q S fuel (listed.setIfInBounds i true) (a.put o.dst undef) w) (hn : Nxt listed.toList i := by repeat constructor) (hi : L[i]? = some o := by rfl) (hw : Region.wanted o (yielded L.toArray a.tmps) = false := by rfl) (hk : (regOk md L listed i || (Region.ready md L.toArray listed == [i])) = true := by kernel_rfl)
    (hQ : ∀ c a w, Q (.panic c) (a.put o.dst undef) w → Q (.panic c) a w := by exact fun _ _ _ h => h) (hS : S w := by assumption) : wpAnyH P md L.toArray Q S (fuel + 1) listed a w := rV i h hi hw hk hQ hS
end
end Go.Proofs.YthinhlcfpaaldaaGreat.Mem

/- Two operations that may come up. -/
namespace Go.Proofs.YthinhlcfpaaldaaGreat.Mem
open Go Go.RowKit
section
variable {P : Program} {L : List Oper} {Q : Exit → Act → World → Prop} {md : Region.Mode} {S : World → Prop} {fuel : Nat} {listed : Array Bool} {a : Act} {w : World}
theorem regC2 (i j : Nat) {o o' : Oper} (hi : L[i]? = some o) (hj : L[j]? = some o') (hr : Region.ready md L.toArray listed = [i, j]) (hw : Region.wanted o (yielded L.toArray a.tmps) = true) (hw' : Region.wanted o' (yielded L.toArray a.tmps) = true)
    (h : ∀ K' : Act → World → Prop, Shut (∀ a w, S w → (S w → wpAnyH P md L.toArray Q S fuel (listed.setIfInBounds i true) a w) → K' a w) → Oper.wp P o a w K' Q)
    (h' : ∀ K' : Act → World → Prop, Shut (∀ a w, S w → (S w → wpAnyH P md L.toArray Q S fuel (listed.setIfInBounds j true) a w) → K' a w) → Oper.wp P o' a w K' Q) : wpAnyH P md L.toArray Q S (fuel + 1) listed a w :=
  wpAnyH_ready hr (by simp) (AllReadyH.cons (by simpa using hi) (fun K hK => by rw [if_pos hw]; exact h K hK) (AllReadyH.cons (by simpa using hj) (fun K hK => by rw [if_pos hw']; exact h' K hK) AllReadyH.nil))
end
theorem St.cons {w W : World} {L : List Res} {r : Res} (h : St w L W) (hr : r.P W) (hn : r.F.Nodup) (ho : ∀ g ∈ r.F, w.heap.size ≤ g) (hd : ∀ q ∈ L, ∀ g ∈ r.F, g ∉ q.F) : St w (r :: L) W :=
  ⟨h.bel, fun q hq => by
    rcases List.mem_cons.1 hq with rfl | hq
    · exact hr
    · exact h.at_ q hq, fun q hq => by
    rcases List.mem_cons.1 hq with rfl | hq
    · exact ho
    · exact h.old q hq, by
    rw [List.map_cons, List.flatten_cons, List.nodup_append]
    refine ⟨hn, h.dis, fun a ha b hb e => ?_⟩
    subst e
    obtain ⟨F, hF, haF⟩ := List.mem_flatten.1 hb
    obtain ⟨q, hq, rfl⟩ := List.mem_map.1 hF
    exact hd q hq a ha haF⟩
theorem Knd.At.cellj {α : Type} {d : Knd α} {e : Nat} {w : World} {g n c : Nat} {xs : List α} {Fs : List (List Nat)} {inner : List Value} (h : Knd.At d e w g n c xs Fs inner) (j i : Nat) (hj : j < xs.length) {cs : List Value} (hs : Knd.At.seg d inner j = cs) {u : Value} (hu : cs[i]? = some u) : w.cell? ⟨g, j * d.sz + i, none⟩ = some u := by
  subst hs
  have hi : i < d.sz := by
    have := (List.getElem?_eq_some_iff.1 hu).1
    unfold Knd.At.seg at this
    rw [List.length_take] at this
    omega
  have hle : (j + 1) * d.sz ≤ xs.length * d.sz := Nat.mul_le_mul_right _ hj
  rw [Nat.succ_mul] at hle
  rw [h.cell _ (by omega)]
  unfold Knd.At.seg at hu
  rwa [List.getElem?_take_of_lt hi, List.getElem?_drop] at hu
theorem St.bare {w W : World} (h : Below w.heap.size w W) : St w [] W := ⟨h, by simp, by simp, by simp⟩
/-- What a call lays, laid among what is there. -/
theorem St.join {w W W' : World} {L L2 : List Res} (h : St w L W) (k : St W L2 W') : St w (L2 ++ L) W' := by
  have h2 := h.step k.bel
  refine ⟨h2.bel, fun q hq => ?_, fun q hq g hg => ?_, ?_⟩
  · rcases List.mem_append.1 hq with hq | hq
    · exact k.at_ q hq
    · exact h2.at_ q hq
  · rcases List.mem_append.1 hq with hq | hq
    · exact Nat.le_trans h.bel.size (k.old q hq g hg)
    · exact h2.old q hq g hg
  · rw [List.map_append, List.flatten_append, List.nodup_append]
    refine ⟨k.dis, h2.dis, fun a ha b hb e => ?_⟩
    subst e
    obtain ⟨F, hF, haF⟩ := List.mem_flatten.1 ha
    obtain ⟨q, hq, rfl⟩ := List.mem_map.1 hF
    obtain ⟨F', hF', haF'⟩ := List.mem_flatten.1 hb
    obtain ⟨q', hq', rfl⟩ := List.mem_map.1 hF'
    have h8 := k.old q hq a haF
    have h9 := q'.lt (h.at_ q' hq') a haF'
    omega
end Go.Proofs.YthinhlcfpaaldaaGreat.Mem
namespace Go.Proofs.YthinhlcfpaaldaaGreat.Dat
open Go Go.RowKit Go.Proofs.YthinhlcfpaaldaaGreat.Mem
set_option linter.unusedVariables false
set_option linter.unusedSimpArgs false
theorem ctL_le2 {α : Type} {f ct : α → Nat} (N : Nat) (h : ∀ x, ct x ≤ N * (f x + 1)) : ∀ l : List α, ctL ct l ≤ N * sumOf f l
  | [] => by simp [ctL, sumOf]
  | x :: l => by
    have h1 := ctL_le2 N h l
    have h2 := h x
    unfold ctL sumOf at h1 ⊢
    simp only [List.map_cons, List.sum_cons, List.length_cons, Nat.mul_add, Nat.mul_one] at h1 h2 ⊢
    omega
theorem ctL_const {α : Type} (n : Nat) : ∀ l : List α, ctL (fun _ => n) l = n * l.length
  | [] => by simp [ctL]
  | x :: l => by
    have h1 := ctL_const n l
    unfold ctL at h1 ⊢
    simp only [List.map_cons, List.sum_cons, List.length_cons, Nat.mul_add, Nat.mul_one]
    omega
theorem szStringS_c (A : Option Addr) (c : Nat) (l : List ByteArray) (left : Int) (w : World) (hr : Knd.str.Row w A l.length l) (hm : l.length ≤ maxLen) (hv : ∀ x ∈ l, x.size ≤ maxLen) (h0 : 0 ≤ left) (h1 : left ≤ 1048576) : Calls Tryz.prog 54 #[.slice A l.length c, .int .i64 left] w fun e w' => e = .returned (.int .i64 (lft (sumOf ByteArray.size l) left)) ∧ Below w.heap.size w w' := szStringS A c l left w hr hm hv h0 h1
theorem markStringS_c (v : Value) (l : List ByteArray) (k : Int) (F : List Nat) (w : World) (h : Knd.str.Own 9 w v l F) (_ : F.Nodup) (h0 : 0 ≤ k) (h1 : k + ctL (fun _ => 1) l ≤ 1152921504606846976) (hlm : l.length ≤ 1048576 ∧ ∀ y ∈ l, y.size ≤ 1048576) : Calls Tryz.prog 71 #[v, .int .i64 k] w fun e w' => e = .returned (.int .i64 (k + ctL (fun _ => 1) l)) ∧ Knd.str.Own 9 w' v (mkL mkStr (fun _ => 1) k l) F ∧ But F w w' := by
  have hlm := hlm.1
  have e := ctL_one l
  rw [e] at h1 ⊢
  exact markStr v l k F w h h0 h1 (by omega)
theorem toStringS_c (A : Option Addr) (c : Nat) (l : List ByteArray) (w : World) (hr : Knd.str.Row w A l.length l) (hm : l.length ≤ 1048576 ∧ ∀ y ∈ l, y.size ≤ 1048576) : Calls Tryz.prog 60 #[.slice A l.length c] w (NewRow Knd.str 9 l w) := toStringS A c l w hr hm.1
theorem eqStringS_c (A B : Option Addr) (c c' : Nat) (l : List ByteArray) (w : World) (hr : Knd.str.Row w A l.length l) (hr' : Knd.str.Row w B l.length l) : Calls Tryz.prog 67 #[.slice A l.length c, .slice B l.length c'] w fun e w' => e = .returned (.bool true) ∧ Below w.heap.size w w' := eqStringS A B c c' l w hr hr'
structure DSite where
  fn : Int
  pc : Int
  seen : Int
  target : Int
structure DSpec where
  fn : Int
  pc : Int
  kind : Int
  target : Int
def zSpec : DSpec := ⟨0, 0, 0, 0⟩
def kSpec : Knd DSpec := Knd.iso (Knd.pair (Knd.int .i64) (Knd.pair (Knd.int .i64) (Knd.pair (Knd.int .i64) (Knd.int .i64)))) (fun x => (x.fn, x.pc, x.kind, x.target))
/-- What is handed in meets this. -/
def VSpec (x : DSpec) : Prop := (Lit.int .i64 x.fn).wf = true ∧ (Lit.int .i64 x.pc).wf = true ∧ (Lit.int .i64 x.kind).wf = true ∧ (Lit.int .i64 x.target).wf = true
theorem kSpec_K {w : World} {x : DSpec} {cs : List Value} : kSpec.K w x cs ↔ cs = [.int .i64 x.fn, .int .i64 x.pc, .int .i64 x.kind, .int .i64 x.target] := by
  constructor
  · rintro ⟨_, _, rfl, rfl, ⟨_, _, rfl, rfl, ⟨_, _, rfl, rfl, rfl⟩⟩⟩
    rfl
  · rintro rfl
    exact ⟨[.int .i64 x.fn], [.int .i64 x.pc, .int .i64 x.kind, .int .i64 x.target], rfl, rfl, ⟨[.int .i64 x.pc], [.int .i64 x.kind, .int .i64 x.target], rfl, rfl, ⟨[.int .i64 x.kind], [.int .i64 x.target], rfl, rfl, rfl⟩⟩⟩
theorem kSpec_at {w : World} {A : Option Addr} {m : Nat} {xs : List DSpec} (h : kSpec.Row w A m xs) (i : Nat) (x : DSpec) (hx : xs[i]? = some x) : ∃ (ad : Addr), A = some ad ∧ w.cell? (ad.add (i * 4)) = some (.int .i64 x.fn) ∧ w.cell? ⟨(ad.add (i * 4)).block, (ad.add (i * 4)).off + 1, none⟩ = some (.int .i64 x.pc) ∧ w.cell? ⟨(ad.add (i * 4)).block, (ad.add (i * 4)).off + 2, none⟩ = some (.int .i64 x.kind) ∧ w.cell? ⟨(ad.add (i * 4)).block, (ad.add (i * 4)).off + 3, none⟩ = some (.int .i64 x.target) := by
  obtain ⟨ad, c, e, hK, hc0⟩ := h.get i x hx
  have hc : ∀ j u, c[j]? = some u → w.cell? (ad.add (i * 4 + j)) = some u := hc0
  obtain rfl := kSpec_K.1 hK
  exact ⟨ad, e, hc 0 _ rfl, (by rw [← add_field _ _ 1 (by omega)]; exact hc 1 _ rfl), (by rw [← add_field _ _ 2 (by omega)]; exact hc 2 _ rfl), (by rw [← add_field _ _ 3 (by omega)]; exact hc 3 _ rfl)⟩
def ctSpec (x : DSpec) : Nat := 4
def mkSpec (k : Int) (x : DSpec) : DSpec := { fn := k, pc := k + 1, kind := k + 1 + 1, target := k + 1 + 1 + 1 }
theorem kSpec_Oi {w : World} {x : DSpec} {cs : List Value} {F : List Nat} : kSpec.O w x cs F ↔ cs = [.int .i64 x.fn, .int .i64 x.pc, .int .i64 x.kind, .int .i64 x.target] ∧ F = [] := by
  constructor
  · rintro ⟨_, _, _, _, rfl, rfl, ⟨rfl, rfl⟩, ⟨_, _, _, _, rfl, rfl, ⟨rfl, rfl⟩, ⟨_, _, _, _, rfl, rfl, ⟨rfl, rfl⟩, ⟨rfl, rfl⟩⟩⟩⟩
    exact ⟨rfl, rfl⟩
  · rintro ⟨rfl, rfl⟩
    have h : kSpec.O w x [.int .i64 x.fn, .int .i64 x.pc, .int .i64 x.kind, .int .i64 x.target] (([] ++ ([] ++ ([] ++ [])))) := ⟨[.int .i64 x.fn], [.int .i64 x.pc, .int .i64 x.kind, .int .i64 x.target], [], ([] ++ ([] ++ [])), rfl, by simp, ⟨rfl, rfl⟩, ⟨[.int .i64 x.pc], [.int .i64 x.kind, .int .i64 x.target], [], ([] ++ []), rfl, by simp, ⟨rfl, rfl⟩, ⟨[.int .i64 x.kind], [.int .i64 x.target], [], [], rfl, by simp, ⟨rfl, rfl⟩, ⟨rfl, rfl⟩⟩⟩⟩
    simpa using h
theorem infoSpec : (Tryz.prog.info? 110).map (fun i => (i.zero, i.size, i.bytes)) = some (some (.agg #[.int .i64 0, .int .i64 0, .int .i64 0, .int .i64 0]), 4, 32) := by kernel_rfl
set_option maxHeartbeats 4000000 in
set_option maxRecDepth 100000 in
theorem toSpec_c (x : DSpec) (w : World) : Calls Tryz.prog 213 #[.agg #[.int .i64 x.fn, .int .i64 x.pc, .int .i64 x.kind, .int .i64 x.target]] w fun e w' => e = .returned (.agg #[.int .i64 x.fn, .int .i64 x.pc, .int .i64 x.kind, .int .i64 x.target]) ∧ Below w.heap.size w w' := by
  go_enter Tryz.func213, Tryz.ntmps213
  go_wp2
  refine bodyPost_ret (v := .agg #[.int .i64 x.fn, .int .i64 x.pc, .int .i64 x.kind, .int .i64 x.target]) (by simp [results, Tryz.results213, go_sem, true_and, *]) rfl ⟨rfl, bl9⟩
set_option maxHeartbeats 4000000 in
set_option maxRecDepth 100000 in
theorem eqSpec_c (x : DSpec) (w : World) : Calls Tryz.prog 66 #[.agg #[.int .i64 x.fn, .int .i64 x.pc, .int .i64 x.kind, .int .i64 x.target], .agg #[.int .i64 x.fn, .int .i64 x.pc, .int .i64 x.kind, .int .i64 x.target]] w fun e w' => e = .returned (.bool true) ∧ Below w.heap.size w w' := by
  go_enter Tryz.func66, Tryz.ntmps66
  go_wp2
  go_ret
  exact ⟨rfl, bl9⟩
set_option maxHeartbeats 4000000 in
set_option maxRecDepth 100000 in
theorem eqSpecS_c (A B : Option Addr) (c c' : Nat) (l : List DSpec) (w : World) (hr : kSpec.Row w A l.length l) (hr' : kSpec.Row w B l.length l) : Calls Tryz.prog 17 #[.slice A l.length c, .slice B l.length c'] w fun e w' => e = .returned (.bool true) ∧ Below w.heap.size w w' := by
  have hm := hr.2.1
  go_enter Tryz.func17, Tryz.ntmps17
  go_wp2
  go_loopw [5] (fun i wr => ∃ k : Nat, k ≤ l.length ∧ i = .int .i64 k ∧ Below w.heap.size w wr) (fun i _ => l.length - (intOf i).toNat)
  case atStart => exact ⟨0, by omega, rfl, Below.refl _ _⟩
  case round =>
    obtain ⟨k, hk, rfl, hb⟩ := hrel
    by_cases hlt : k < l.length
    · obtain ⟨x, hx⟩ := get_exE l k hlt
      obtain ⟨ady, rfl, q0, q1, q2, q3⟩ := kSpec_at (hr.below hb) k x hx
      obtain ⟨adz, rfl, p0, p1, p2, p3⟩ := kSpec_at (hr'.below hb) k x hx
      clear hx
      go_wp2
      go_region_held3 (fun w' => w'.cell? (ady.add (k * 4)) = some (.int .i64 x.fn) ∧ w'.cell? ⟨(ady.add (k * 4)).block, (ady.add (k * 4)).off + 1, none⟩ = some (.int .i64 x.pc) ∧ w'.cell? ⟨(ady.add (k * 4)).block, (ady.add (k * 4)).off + 2, none⟩ = some (.int .i64 x.kind) ∧ w'.cell? ⟨(ady.add (k * 4)).block, (ady.add (k * 4)).off + 3, none⟩ = some (.int .i64 x.target) ∧ w'.cell? (adz.add (k * 4)) = some (.int .i64 x.fn) ∧ w'.cell? ⟨(adz.add (k * 4)).block, (adz.add (k * 4)).off + 1, none⟩ = some (.int .i64 x.pc) ∧ w'.cell? ⟨(adz.add (k * 4)).block, (adz.add (k * 4)).off + 2, none⟩ = some (.int .i64 x.kind) ∧ w'.cell? ⟨(adz.add (k * 4)).block, (adz.add (k * 4)).off + 3, none⟩ = some (.int .i64 x.target) ∧ Below wr.heap.size wr w') ((refine ⟨?_, ?_, ?_, ?_, ?_, ?_, ?_, ?_, ?_⟩ <;> first | assumption | (go_keep; done) | exact bl9)) (first | (go_at_call 66; refine (eqSpec_c _ _).mono ?_; rintro e w' ⟨rfl, hb2⟩; have q0 := kept hb2 q0; have q1 := kept hb2 q1; have q2 := kept hb2 q2; have q3 := kept hb2 q3; have p0 := kept hb2 p0; have p1 := kept hb2 p1; have p2 := kept hb2 p2; have p3 := kept hb2 p3; have hW2 : Below wr.heap.size wr w' := bl9))
      go_wp2
      go_roundw
      case rel => exact ⟨k + 1, by omega, by go_num, bl9⟩
      case measure => simp [intOf]; omega
    · go_wp2
      go_ret
      exact ⟨rfl, hb⟩
theorem ctLeSpec (l : List DSpec) : ctL ctSpec l ≤ 4 * l.length := by
  have h := ctL_const 4 l
  have e : ctSpec = fun _ => 4 := rfl
  rw [e]
  omega
set_option maxHeartbeats 4000000 in
set_option maxRecDepth 100000 in
theorem markSpecS_c (v : Value) (l : List DSpec) (k : Int) (F : List Nat) (w : World) (h : kSpec.Own 110 w v l F) (hnd : F.Nodup) (h0 : 0 ≤ k) (h1 : k + ctL ctSpec l ≤ 1152921504606846976) (hm : l.length ≤ 1048576) : Calls Tryz.prog 22 #[v, .int .i64 k] w fun e w' => e = .returned (.int .i64 (k + ctL ctSpec l)) ∧ kSpec.Own 110 w' v (mkL mkSpec ctSpec k l) F ∧ But F w w' := by
  have hlm : l.length ≤ 1048576 := hm
  by_cases hn : 0 < l.length
  rotate_left
  · have e : l = [] := List.eq_nil_of_length_eq_zero (by omega)
    subst e
    obtain ⟨A, c, rfl, _, _⟩ := h.row
    go_enter Tryz.func22, Tryz.ntmps22
    go_wp2
    go_loopw [1, 5] (fun u i wr => u = .int .i64 k ∧ i = .int .i64 0 ∧ w = wr) (fun _ i _ => 0)
    case atStart => exact ⟨rfl, rfl, rfl⟩
    case round =>
      obtain ⟨rfl, rfl, rfl⟩ := hrel
      go_wp2
      go_ret
      exact ⟨by simp [ctL], h, But.refl _ _⟩
  obtain ⟨g, c, Fs, inner, rfl, hFe, hA0⟩ := h.toAt hnd hn
  subst hFe
  clear h hnd
  go_enter Tryz.func22, Tryz.ntmps22
  go_wp2
  go_loopw [1, 5] (fun u i wr => ∃ (j : Nat) (inner : List Value), j ≤ l.length ∧ u = .int .i64 (k + ctL ctSpec (l.take j)) ∧ i = .int .i64 j ∧ kSpec.At 110 wr g l.length c (upto mkSpec ctSpec k l j) Fs inner ∧ But (g :: Fs.flatten) w wr) (fun _ i _ => l.length - (intOf i).toNat)
  case atStart => exact ⟨0, inner, by omega, by simp [ctL], rfl, by rw [upto_0]; exact hA0, But.refl _ _⟩
  case round =>
    clear hA0
    obtain ⟨j, inner, hj, rfl, rfl, hA, hB⟩ := hrel
    by_cases hlt : j < l.length
    rotate_left
    · obtain rfl : j = l.length := by omega
      rw [upto_all] at hA
      rw [List.take_length]
      go_wp2
      go_ret
      exact ⟨rfl, hA.own, hB⟩
    obtain ⟨x, hx⟩ := get_exU l j hlt
    have hset := Lib.hid (upto_set mkSpec ctSpec k l j x hx)
    have hct := Lib.hid (ctL_snoc ctSpec l j x hx)
    have hle := ctL_mem ctSpec l j x hx
    have hul : j < (upto mkSpec ctSpec k l j).length := by rw [upto_len]; exact hlt
    obtain ⟨Fj, hFj, hO, _⟩ := hA.elem j x (upto_get mkSpec ctSpec k l j x hx)
    obtain ⟨hseg, hFn⟩ := kSpec_Oi.1 hO
    have hFn := hFn.symm
    subst hFn
    obtain ⟨K, hK⟩ : ∃ K, k + (ctL ctSpec (l.take j) : Int) = K := ⟨_, rfl⟩
    have hK0 : 0 ≤ K := by omega
    have hK1 : K + ctSpec x ≤ 1152921504606846976 := by omega
    rw [hK]
    have HK := Lib.hid hK
    unfold ctSpec at hK1
    have HUL := Lib.hid hul
    have HFJ := Lib.hid hFj
    clear hK hle hO hx
    have c0 : wr.cell? ⟨g, j * 4, none⟩ = some (.int .i64 (x.fn)) := hA.cellj j 0 HUL.out hseg rfl
    have f0 : wr.frozen? ⟨g, j * 4, none⟩ = false := hA.free _
    have c1 : wr.cell? ⟨g, j * 4 + 1, none⟩ = some (.int .i64 (x.pc)) := hA.cellj j 1 HUL.out hseg rfl
    have f1 : wr.frozen? ⟨g, j * 4 + 1, none⟩ = false := hA.free _
    have c2 : wr.cell? ⟨g, j * 4 + 2, none⟩ = some (.int .i64 (x.kind)) := hA.cellj j 2 HUL.out hseg rfl
    have f2 : wr.frozen? ⟨g, j * 4 + 2, none⟩ = false := hA.free _
    have c3 : wr.cell? ⟨g, j * 4 + 3, none⟩ = some (.int .i64 (x.target)) := hA.cellj j 3 HUL.out hseg rfl
    have f3 : wr.frozen? ⟨g, j * 4 + 3, none⟩ = false := hA.free _
    have hP1 := hA.put j 0 HUL.out (by decide) (.int .i64 (K)) ({ fn := K, pc := x.pc, kind := x.kind, target := x.target } : DSpec) [] HFJ.out (by rw [hseg]; exact (kSpec_Oi.2 ⟨rfl, rfl⟩))
    have hseg1 := (Knd.At.seg_set_same (d := kSpec) _ j 0 (.int .i64 (K)) (by decide)).trans (congrArg (fun z => z.set 0 (.int .i64 (K))) hseg)
    have hB1 := Knd.At.but_put hB (j * 4 + 0) (.int .i64 (K))
    have hP2 := hP1.put j 1 (by rw [List.length_set]; exact HUL.out) (by decide) (.int .i64 (K + 1)) ({ fn := K, pc := K + 1, kind := x.kind, target := x.target } : DSpec) [] HFJ.out (by rw [hseg1]; exact (kSpec_Oi.2 ⟨rfl, rfl⟩))
    rw [List.set_set] at hP2
    have hseg2 := (Knd.At.seg_set_same (d := kSpec) _ j 1 (.int .i64 (K + 1)) (by decide)).trans (congrArg (fun z => z.set 1 (.int .i64 (K + 1))) hseg1)
    have hB2 := Knd.At.but_put hB1 (j * 4 + 1) (.int .i64 (K + 1))
    have hP3 := hP2.put j 2 (by rw [List.length_set]; exact HUL.out) (by decide) (.int .i64 (K + 1 + 1)) ({ fn := K, pc := K + 1, kind := K + 1 + 1, target := x.target } : DSpec) [] HFJ.out (by rw [hseg2]; exact (kSpec_Oi.2 ⟨rfl, rfl⟩))
    rw [List.set_set] at hP3
    have hseg3 := (Knd.At.seg_set_same (d := kSpec) _ j 2 (.int .i64 (K + 1 + 1)) (by decide)).trans (congrArg (fun z => z.set 2 (.int .i64 (K + 1 + 1))) hseg2)
    have hB3 := Knd.At.but_put hB2 (j * 4 + 2) (.int .i64 (K + 1 + 1))
    have hP4 := hP3.put j 3 (by rw [List.length_set]; exact HUL.out) (by decide) (.int .i64 (K + 1 + 1 + 1)) ({ fn := K, pc := K + 1, kind := K + 1 + 1, target := K + 1 + 1 + 1 } : DSpec) [] HFJ.out (by rw [hseg3]; exact (kSpec_Oi.2 ⟨rfl, rfl⟩))
    rw [List.set_set] at hP4
    have hseg4 := (Knd.At.seg_set_same (d := kSpec) _ j 3 (.int .i64 (K + 1 + 1 + 1)) (by decide)).trans (congrArg (fun z => z.set 3 (.int .i64 (K + 1 + 1 + 1))) hseg3)
    have hB4 := Knd.At.but_put hB3 (j * 4 + 3) (.int .i64 (K + 1 + 1 + 1))
    have HP := Lib.hid hP4
    have HG := Lib.hid hseg4
    have HBB := Lib.hid hB4
    try clear hA
    try clear hseg
    try clear hB
    try clear hP1
    try clear hP2
    try clear hP3
    try clear hP4
    try clear hseg1
    try clear hseg2
    try clear hseg3
    try clear hseg4
    try clear hB1
    try clear hB2
    try clear hB3
    try clear hB4
    go_wp2
    go_roundw
    case rel =>
      have h9 := HP.out
      rw [show ({ fn := K, pc := K + 1, kind := K + 1 + 1, target := K + 1 + 1 + 1 } : DSpec) = mkSpec (k + ctL ctSpec (l.take j)) x from by rw [HK.out]; rfl, hset.out] at h9
      exact ⟨j + 1, _, by omega, by rw [hct.out, ← HK.out]; simp [ctSpec]; omega, by go_num, h9, HBB.out⟩
    case measure => simp [intOf]; omega
set_option maxHeartbeats 4000000 in
set_option maxRecDepth 100000 in
theorem heldSpecS_c (A : Option Addr) (c : Nat) (l : List DSpec) (k : Int) (w : World) (hr : kSpec.Row w A l.length (mkL mkSpec ctSpec k l)) (h0 : 0 ≤ k) (h1 : k + ctL ctSpec l ≤ 1152921504606846976) (hm : l.length ≤ 1048576) : Calls Tryz.prog 23 #[.slice A l.length c, .int .i64 k] w fun e w' => e = .returned (.int .i64 (k + ctL ctSpec l)) ∧ Below w.heap.size w w' := by
  have hlm : l.length ≤ 1048576 := hm
  go_enter Tryz.func23, Tryz.ntmps23
  go_wp2
  go_loopw [1, 5] (fun u i wr => ∃ j : Nat, j ≤ l.length ∧ u = .int .i64 (k + ctL ctSpec (l.take j)) ∧ i = .int .i64 j ∧ Below w.heap.size w wr) (fun _ i _ => l.length - (intOf i).toNat)
  case atStart => exact ⟨0, by omega, by simp [ctL], rfl, Below.refl _ _⟩
  case round =>
    obtain ⟨j, hj, rfl, rfl, hb⟩ := hrel
    by_cases hlt : j < l.length
    rotate_left
    · obtain rfl : j = l.length := by omega
      rw [List.take_length]
      go_wp2
      go_ret
      exact ⟨rfl, hb⟩
    obtain ⟨x, hx⟩ := get_exU l j hlt
    have hct := Lib.hid (ctL_snoc ctSpec l j x hx)
    have hle := ctL_mem ctSpec l j x hx
    have hget := mkL_get mkSpec ctSpec l k j x hx
    obtain ⟨K, hK⟩ : ∃ K, k + (ctL ctSpec (l.take j) : Int) = K := ⟨_, rfl⟩
    have hK0 : 0 ≤ K := by omega
    have hK1 : K + ctSpec x ≤ 1152921504606846976 := by omega
    rw [hK] at hget ⊢
    obtain ⟨ad, rfl, p0, p1, p2, p3⟩ := kSpec_at (hr.below hb) j _ hget
    have q0 : wr.cell? (ad.add (j * 4)) = some (.int .i64 (K)) := p0
    have q1 : wr.cell? ⟨(ad.add (j * 4)).block, (ad.add (j * 4)).off + 1, none⟩ = some (.int .i64 (K + 1)) := p1
    have q2 : wr.cell? ⟨(ad.add (j * 4)).block, (ad.add (j * 4)).off + 2, none⟩ = some (.int .i64 (K + 1 + 1)) := p2
    have q3 : wr.cell? ⟨(ad.add (j * 4)).block, (ad.add (j * 4)).off + 3, none⟩ = some (.int .i64 (K + 1 + 1 + 1)) := p3
    have HK := Lib.hid hK
    unfold ctSpec at hK1
    clear hget hle hx hK p0 p1 p2 p3
    have hb0 := Below.refl wr.heap.size wr
    go_wp2
    go_roundw
    case rel => exact ⟨j + 1, by omega, by rw [hct.out, ← HK.out]; simp [ctSpec]; omega, by go_num, bl_step hb hb0⟩
    case measure => simp [intOf]; omega
structure DValue where
  k : Int
  n : Int
  s : ByteArray
def zValue : DValue := ⟨0, 0, ⟨#[]⟩⟩
def kValue : Knd DValue := Knd.iso (Knd.pair (Knd.int .i64) (Knd.pair (Knd.int .i64) Knd.str)) (fun x => (x.k, x.n, x.s))
/-- What is handed in meets this. -/
def VValue (x : DValue) : Prop := (Lit.int .i64 x.k).wf = true ∧ (Lit.int .i64 x.n).wf = true ∧ x.s.size ≤ maxLen
theorem kValue_K {w : World} {x : DValue} {cs : List Value} : kValue.K w x cs ↔ cs = [.int .i64 x.k, .int .i64 x.n, .string x.s] := by
  constructor
  · rintro ⟨_, _, rfl, rfl, ⟨_, _, rfl, rfl, rfl⟩⟩
    rfl
  · rintro rfl
    exact ⟨[.int .i64 x.k], [.int .i64 x.n, .string x.s], rfl, rfl, ⟨[.int .i64 x.n], [.string x.s], rfl, rfl, rfl⟩⟩
theorem kValue_at {w : World} {A : Option Addr} {m : Nat} {xs : List DValue} (h : kValue.Row w A m xs) (i : Nat) (x : DValue) (hx : xs[i]? = some x) : ∃ (ad : Addr), A = some ad ∧ w.cell? (ad.add (i * 3)) = some (.int .i64 x.k) ∧ w.cell? ⟨(ad.add (i * 3)).block, (ad.add (i * 3)).off + 1, none⟩ = some (.int .i64 x.n) ∧ w.cell? ⟨(ad.add (i * 3)).block, (ad.add (i * 3)).off + 2, none⟩ = some (.string x.s) := by
  obtain ⟨ad, c, e, hK, hc0⟩ := h.get i x hx
  have hc : ∀ j u, c[j]? = some u → w.cell? (ad.add (i * 3 + j)) = some u := hc0
  obtain rfl := kValue_K.1 hK
  exact ⟨ad, e, hc 0 _ rfl, (by rw [← add_field _ _ 1 (by omega)]; exact hc 1 _ rfl), (by rw [← add_field _ _ 2 (by omega)]; exact hc 2 _ rfl)⟩
def ctValue (x : DValue) : Nat := 3
def mkValue (k : Int) (x : DValue) : DValue := { k := k, n := k + 1, s := mkText (k + 1 + 1) }
theorem kValue_Oi {w : World} {x : DValue} {cs : List Value} {F : List Nat} : kValue.O w x cs F ↔ cs = [.int .i64 x.k, .int .i64 x.n, .string x.s] ∧ F = [] := by
  constructor
  · rintro ⟨_, _, _, _, rfl, rfl, ⟨rfl, rfl⟩, ⟨_, _, _, _, rfl, rfl, ⟨rfl, rfl⟩, ⟨rfl, rfl⟩⟩⟩
    exact ⟨rfl, rfl⟩
  · rintro ⟨rfl, rfl⟩
    have h : kValue.O w x [.int .i64 x.k, .int .i64 x.n, .string x.s] (([] ++ ([] ++ []))) := ⟨[.int .i64 x.k], [.int .i64 x.n, .string x.s], [], ([] ++ []), rfl, by simp, ⟨rfl, rfl⟩, ⟨[.int .i64 x.n], [.string x.s], [], [], rfl, by simp, ⟨rfl, rfl⟩, ⟨rfl, rfl⟩⟩⟩
    simpa using h
def msValue (x : DValue) : Nat := x.s.size
/-- What a small measure gives. -/
def MValue (x : DValue) : Prop := x.s.size ≤ 1048576
theorem MValue_of {x : DValue} (h : msValue x ≤ 1048576) : MValue x := by
  unfold msValue at h
  try simp only [sumOf] at h
  unfold MValue
  exact by omega
set_option maxHeartbeats 4000000 in
set_option maxRecDepth 100000 in
theorem szValue_c (x : DValue) (left : Int) (w : World) (hV : VValue x) (h0 : 0 ≤ left) (h1 : left ≤ 1048576) : Calls Tryz.prog 88 #[.agg #[.int .i64 x.k, .int .i64 x.n, .string x.s], .int .i64 left] w fun e w' => e = .returned (.int .i64 (lft (msValue x) left)) ∧ Below w.heap.size w w' := by
  have hS := (St.start w).made (.cells #[.int .i64 x.k, .int .i64 x.n, .string x.s] 53 (0, 0))
  have hs_s := hV.2.2
  unfold maxLen at hs_s
  by_cases k0 : ((x.s.size : Nat) : Int) ≤ left
  rotate_left
  · skip
    have g0 : left - (x.s.size : Int) < 0 := by omega
    have HE := Lib.hid (show (-1 : Int) = lft (msValue x) left by unfold msValue; rw [lft_gt (by omega)])
    go_enter Tryz.func88, Tryz.ntmps88
    go_wp2
    go_ret
    exact ⟨ret_int HE.out, hS.bel⟩
  have g0 : 0 ≤ left - (x.s.size : Int) := by omega
  have HE := Lib.hid (show left - (x.s.size : Int) = lft (msValue x) left by unfold msValue; rw [lft_le (by omega)])
  go_enter Tryz.func88, Tryz.ntmps88
  go_wp2
  go_ret
  exact ⟨ret_int HE.out, hS.bel⟩
set_option maxHeartbeats 4000000 in
set_option maxRecDepth 100000 in
theorem szValueS_c (A : Option Addr) (c : Nat) (l : List DValue) (left : Int) (w : World) (hr : kValue.Row w A l.length l) (hm : l.length ≤ maxLen) (hv : ∀ x ∈ l, VValue x) (h0 : 0 ≤ left) (h1 : left ≤ 1048576) : Calls Tryz.prog 257 #[.slice A l.length c, .int .i64 left] w fun e w' => e = .returned (.int .i64 (lft (sumOf msValue l) left)) ∧ Below w.heap.size w w' := by
  unfold maxLen at hm
  by_cases h : (l.length : Int) ≤ left
  · have h2 : 0 ≤ left - (l.length : Int) := by omega
    go_enter Tryz.func257, Tryz.ntmps257
    go_wp2
    go_loopw [1, 5] (fun u i wr => ∃ k s : Nat, k ≤ l.length ∧ i = .int .i64 k ∧ Hid (s = ((l.take k).map msValue).sum) ∧ u = .int .i64 (left - l.length - s) ∧ 0 ≤ left - l.length - s ∧ Below w.heap.size w wr) (fun _ i _ => l.length - (intOf i).toNat)
    case atStart => exact ⟨0, 0, by omega, rfl, rfl, by simp, by simpa using h2, Below.refl _ _⟩
    case round =>
      obtain ⟨k, s, hk, rfl, hs, rfl, hp, hb⟩ := hrel
      by_cases hlt : k < l.length
      · obtain ⟨x, hx⟩ := get_ex l k hlt
        have hV := hv x (List.mem_of_getElem? hx)
        have hsn := sum_snoc msValue l k x hx
        have hle := sum_le msValue l (k + 1)
        obtain ⟨ad, rfl, q0, q1, q2⟩ := kValue_at (hr.below hb) k x hx
        have HX := Lib.hid hx
        clear hx
        have C := szValue_c   x (left - l.length - s)
        have HV := Lib.hid hV
        clear hV
        by_cases hf : (msValue x : Int) ≤ left - l.length - s
        · have HS : Hid (s + msValue x = ((l.take (k + 1)).map msValue).sum) := Lib.hid (by rw [hsn, ← hs.out])
          have e : lft (msValue x) (left - l.length - s) = left - l.length - ((s + msValue x : Nat) : Int) := by simp [lft, hf]; omega
          rw [e] at C
          have hp2 : 0 ≤ left - (l.length : Int) - ((s + msValue x : Nat) : Int) := by omega
          clear hsn hle hf e
          generalize s + msValue x = s2 at C HS hp2
          go_wp2_with fail
          refine (C _ HV.out (by omega) (by omega)).mono ?_
          rintro e w' ⟨rfl, hb2⟩
          go_wp2
          go_roundw
          case rel => exact ⟨k + 1, s2, by omega, by go_num, HS, rfl, hp2, bl9⟩
          case measure => simp [intOf]; omega
        · have e : lft (msValue x) (left - l.length - s) = -1 := by simp [lft]; omega
          rw [e] at C
          have hend : lft (sumOf msValue l) left = -1 := by
            have h3 := hs.out
            simp [lft, sumOf]
            omega
          have HE := Lib.hid hend
          clear hsn hle e hend
          go_wp2_with fail
          refine (C _ HV.out (by omega) (by omega)).mono ?_
          rintro e w' ⟨rfl, hb2⟩
          go_wp2
          go_ret
          exact ⟨ret_int HE.out.symm, bl9⟩
      · have hend : lft (sumOf msValue l) left = left - l.length - s := by
          have h3 := hs.out
          rw [List.take_of_length_le (by omega)] at h3
          simp only [lft, sumOf, ← h3]
          rw [if_pos (by omega)]
          omega
        have HE := Lib.hid hend
        clear hend
        go_wp2
        go_ret
        exact ⟨ret_int HE.out.symm, hb⟩
  · have h2 : left - (l.length : Int) < 0 := by omega
    go_enter Tryz.func257, Tryz.ntmps257
    go_wp2
    go_ret
    exact ⟨by simp [lft, sumOf]; omega, Below.refl _ _⟩
theorem infoValue : (Tryz.prog.info? 65).map (fun i => (i.zero, i.size, i.bytes)) = some (some (.agg #[.int .i64 0, .int .i64 0, .string (⟨#[]⟩ : ByteArray)]), 3, 32) := by kernel_rfl
set_option maxHeartbeats 4000000 in
set_option maxRecDepth 100000 in
theorem toValue_c (x : DValue) (w : World) : Calls Tryz.prog 93 #[.agg #[.int .i64 x.k, .int .i64 x.n, .string x.s]] w fun e w' => e = .returned (.agg #[.int .i64 x.k, .int .i64 x.n, .string x.s]) ∧ Below w.heap.size w w' := by
  go_enter Tryz.func93, Tryz.ntmps93
  go_wp2
  refine bodyPost_ret (v := .agg #[.int .i64 x.k, .int .i64 x.n, .string x.s]) (by simp [results, Tryz.results93, go_sem, true_and, *]) rfl ⟨rfl, bl9⟩
theorem zValue_O (w : World) : kValue.O w zValue (Value.agg #[.int .i64 0, .int .i64 0, .string (⟨#[]⟩ : ByteArray)]).cells.toList [] := kValue_Oi.2 ⟨rfl, rfl⟩
set_option maxHeartbeats 4000000 in
set_option maxRecDepth 100000 in
theorem toValueS_c (A : Option Addr) (c : Nat) (l : List DValue) (w : World) (hr : kValue.Row w A l.length l) (hm : l.length ≤ 1048576 ∧ ∀ y ∈ l, MValue y) : Calls Tryz.prog 259 #[.slice A l.length c] w (NewRow kValue 65 l w) := by
  obtain ⟨hm, hM⟩ := hm
  go_enter Tryz.func259, Tryz.ntmps259
  go_wp2_with (refine Knd.wp_made kValue rfl _ _ _ rfl l.length rfl rfl 65 Tryz.underlying143 (.agg #[.int .i64 0, .int .i64 0, .string (⟨#[]⟩ : ByteArray)]) 32 infoValue rfl (by decide) (by omega) zValue zValue_O (by omega) ?_; rintro g w1 hg ho hb hz; have HG := Lib.hid hg; clear hg)
  have hg0 : w.heap.size ≤ g := Nat.le_of_eq HG.out.symm
  go_loopw [4] (fun i wr => ∃ k : Nat, k ≤ l.length ∧ i = .int .i64 k ∧ kValue.OwnF 65 wr (.slice (some ⟨g, 0, none⟩) l.length l.length) (l.take k ++ List.replicate (l.length - k) zValue) (List.replicate l.length []) ∧ Below w.heap.size w wr) (fun i _ => l.length - (intOf i).toNat)
  case atStart => exact ⟨0, by omega, rfl, by simpa using ho, hb⟩
  case round =>
    obtain ⟨k, hk, rfl, ho, hb⟩ := hrel
    by_cases hlt : k < l.length
    · obtain ⟨x, hx⟩ := get_exT l k hlt
      obtain ⟨ad, rfl, q0, q1, q2⟩ := kValue_at (hr.below hb) k x hx
      have hMx := hM x (List.mem_of_getElem? hx)
      have hp := part_set l zValue x k hx
      have hle : k < (l.take k ++ List.replicate (l.length - k) zValue).length := by simp; omega
      have hlen : (l.take k ++ List.replicate (l.length - k) zValue).length = l.length := by simp; omega
      have HP := Lib.hid hp
      have HX := Lib.hid hx
      have HL := Lib.hid hlen
      clear hp hx hlen
      have C := toValue_c x wr
      go_wp2_with fail
      refine C.mono ?_
      rintro e w' ⟨rfl, hb2⟩
      have ho2 := ho.below hb2
      obtain ⟨u0, s0⟩ := ho2.cell (k * 3) (by rw [HL.out]; show _ < l.length * 3; omega)
      have f0 := ho2.free (k * 3)
      obtain ⟨u1, s1⟩ := ho2.cell (k * 3 + 1) (by rw [HL.out]; show _ < l.length * 3; omega)
      have f1 := ho2.free (k * 3 + 1)
      obtain ⟨u2, s2⟩ := ho2.cell (k * 3 + 2) (by rw [HL.out]; show _ < l.length * 3; omega)
      have f2 := ho2.free (k * 3 + 2)
      go_wp2
      go_roundw
      case rel =>
        refine ⟨k + 1, by omega, by go_num, ?_, ?_⟩
        · have h1 := ho2.put k hle [.int .i64 x.k, .int .i64 x.n, .string x.s] x [] (kValue_Oi.2 ⟨rfl, rfl⟩) (by simp) (by rw [rep_flat]; simp)
          rw [HP.out, rep_set] at h1
          exact h1
        · exact bl9
      case measure => simp [intOf]; omega
    · obtain rfl : k = l.length := by omega
      go_wp2
      go_ret
      have h1 := ho.own
      rw [List.take_length, Nat.sub_self, List.replicate_zero, List.append_nil, rep_flat] at h1
      exact ⟨_, _, rfl, h1, by simp [Value.ownBlock], by simp [Value.ownBlock]; rw [HG.out]; exact Nat.le_refl _, hb⟩
set_option maxHeartbeats 4000000 in
set_option maxRecDepth 100000 in
theorem eqValue_c (x : DValue) (w : World) : Calls Tryz.prog 99 #[.agg #[.int .i64 x.k, .int .i64 x.n, .string x.s], .agg #[.int .i64 x.k, .int .i64 x.n, .string x.s]] w fun e w' => e = .returned (.bool true) ∧ Below w.heap.size w w' := by
  go_enter Tryz.func99, Tryz.ntmps99
  go_wp2
  go_ret
  exact ⟨rfl, bl9⟩
set_option maxHeartbeats 4000000 in
set_option maxRecDepth 100000 in
theorem eqValueS_c (A B : Option Addr) (c c' : Nat) (l : List DValue) (w : World) (hr : kValue.Row w A l.length l) (hr' : kValue.Row w B l.length l) : Calls Tryz.prog 266 #[.slice A l.length c, .slice B l.length c'] w fun e w' => e = .returned (.bool true) ∧ Below w.heap.size w w' := by
  have hm := hr.2.1
  go_enter Tryz.func266, Tryz.ntmps266
  go_wp2
  go_loopw [5] (fun i wr => ∃ k : Nat, k ≤ l.length ∧ i = .int .i64 k ∧ Below w.heap.size w wr) (fun i _ => l.length - (intOf i).toNat)
  case atStart => exact ⟨0, by omega, rfl, Below.refl _ _⟩
  case round =>
    obtain ⟨k, hk, rfl, hb⟩ := hrel
    by_cases hlt : k < l.length
    · obtain ⟨x, hx⟩ := get_exE l k hlt
      obtain ⟨ady, rfl, q0, q1, q2⟩ := kValue_at (hr.below hb) k x hx
      obtain ⟨adz, rfl, p0, p1, p2⟩ := kValue_at (hr'.below hb) k x hx
      clear hx
      go_wp2
      go_region_held3 (fun w' => w'.cell? (ady.add (k * 3)) = some (.int .i64 x.k) ∧ w'.cell? ⟨(ady.add (k * 3)).block, (ady.add (k * 3)).off + 1, none⟩ = some (.int .i64 x.n) ∧ w'.cell? ⟨(ady.add (k * 3)).block, (ady.add (k * 3)).off + 2, none⟩ = some (.string x.s) ∧ w'.cell? (adz.add (k * 3)) = some (.int .i64 x.k) ∧ w'.cell? ⟨(adz.add (k * 3)).block, (adz.add (k * 3)).off + 1, none⟩ = some (.int .i64 x.n) ∧ w'.cell? ⟨(adz.add (k * 3)).block, (adz.add (k * 3)).off + 2, none⟩ = some (.string x.s) ∧ Below wr.heap.size wr w') ((refine ⟨?_, ?_, ?_, ?_, ?_, ?_, ?_⟩ <;> first | assumption | (go_keep; done) | exact bl9)) (first | (go_at_call 99; refine (eqValue_c _ _).mono ?_; rintro e w' ⟨rfl, hb2⟩; have q0 := kept hb2 q0; have q1 := kept hb2 q1; have q2 := kept hb2 q2; have p0 := kept hb2 p0; have p1 := kept hb2 p1; have p2 := kept hb2 p2; have hW2 : Below wr.heap.size wr w' := bl9))
      go_wp2
      go_roundw
      case rel => exact ⟨k + 1, by omega, by go_num, bl9⟩
      case measure => simp [intOf]; omega
    · go_wp2
      go_ret
      exact ⟨rfl, hb⟩
theorem ctOneValue (x : DValue) : ctValue x ≤ 3 * (msValue x + 1) := by
  unfold ctValue msValue
  try simp only [sumOf] at *
  omega
theorem ctLeValue (l : List DValue) : ctL ctValue l ≤ 3 * sumOf msValue l := ctL_le2 3 ctOneValue l
set_option maxHeartbeats 4000000 in
set_option maxRecDepth 100000 in
theorem markValueS_c (v : Value) (l : List DValue) (k : Int) (F : List Nat) (w : World) (h : kValue.Own 65 w v l F) (hnd : F.Nodup) (h0 : 0 ≤ k) (h1 : k + ctL ctValue l ≤ 1152921504606846976) (hm : l.length ≤ 1048576 ∧ ∀ y ∈ l, MValue y) : Calls Tryz.prog 179 #[v, .int .i64 k] w fun e w' => e = .returned (.int .i64 (k + ctL ctValue l)) ∧ kValue.Own 65 w' v (mkL mkValue ctValue k l) F ∧ But F w w' := by
  have hlm : l.length ≤ 1048576 := hm.1
  by_cases hn : 0 < l.length
  rotate_left
  · have e : l = [] := List.eq_nil_of_length_eq_zero (by omega)
    subst e
    obtain ⟨A, c, rfl, _, _⟩ := h.row
    go_enter Tryz.func179, Tryz.ntmps179
    go_wp2
    go_loopw [1, 5] (fun u i wr => u = .int .i64 k ∧ i = .int .i64 0 ∧ w = wr) (fun _ i _ => 0)
    case atStart => exact ⟨rfl, rfl, rfl⟩
    case round =>
      obtain ⟨rfl, rfl, rfl⟩ := hrel
      go_wp2
      go_ret
      exact ⟨by simp [ctL], h, But.refl _ _⟩
  obtain ⟨g, c, Fs, inner, rfl, hFe, hA0⟩ := h.toAt hnd hn
  subst hFe
  clear h hnd
  go_enter Tryz.func179, Tryz.ntmps179
  go_wp2
  go_loopw [1, 5] (fun u i wr => ∃ (j : Nat) (inner : List Value), j ≤ l.length ∧ u = .int .i64 (k + ctL ctValue (l.take j)) ∧ i = .int .i64 j ∧ kValue.At 65 wr g l.length c (upto mkValue ctValue k l j) Fs inner ∧ But (g :: Fs.flatten) w wr) (fun _ i _ => l.length - (intOf i).toNat)
  case atStart => exact ⟨0, inner, by omega, by simp [ctL], rfl, by rw [upto_0]; exact hA0, But.refl _ _⟩
  case round =>
    clear hA0
    obtain ⟨j, inner, hj, rfl, rfl, hA, hB⟩ := hrel
    by_cases hlt : j < l.length
    rotate_left
    · obtain rfl : j = l.length := by omega
      rw [upto_all] at hA
      rw [List.take_length]
      go_wp2
      go_ret
      exact ⟨rfl, hA.own, hB⟩
    obtain ⟨x, hx⟩ := get_exU l j hlt
    have hset := Lib.hid (upto_set mkValue ctValue k l j x hx)
    have hct := Lib.hid (ctL_snoc ctValue l j x hx)
    have hle := ctL_mem ctValue l j x hx
    have hMx := hm.2 x (List.mem_of_getElem? hx)
    have hul : j < (upto mkValue ctValue k l j).length := by rw [upto_len]; exact hlt
    obtain ⟨Fj, hFj, hO, _⟩ := hA.elem j x (upto_get mkValue ctValue k l j x hx)
    obtain ⟨hseg, hFn⟩ := kValue_Oi.1 hO
    have hFn := hFn.symm
    subst hFn
    obtain ⟨K, hK⟩ : ∃ K, k + (ctL ctValue (l.take j) : Int) = K := ⟨_, rfl⟩
    have hK0 : 0 ≤ K := by omega
    have hK1 : K + ctValue x ≤ 1152921504606846976 := by omega
    rw [hK]
    have HK := Lib.hid hK
    unfold ctValue at hK1
    have HUL := Lib.hid hul
    have HFJ := Lib.hid hFj
    clear hK hle hO hx
    have c0 : wr.cell? ⟨g, j * 3, none⟩ = some (.int .i64 (x.k)) := hA.cellj j 0 HUL.out hseg rfl
    have f0 : wr.frozen? ⟨g, j * 3, none⟩ = false := hA.free _
    have c1 : wr.cell? ⟨g, j * 3 + 1, none⟩ = some (.int .i64 (x.n)) := hA.cellj j 1 HUL.out hseg rfl
    have f1 : wr.frozen? ⟨g, j * 3 + 1, none⟩ = false := hA.free _
    have hP1 := hA.put j 0 HUL.out (by decide) (.int .i64 (K)) ({ k := K, n := x.n, s := x.s } : DValue) [] HFJ.out (by rw [hseg]; exact (kValue_Oi.2 ⟨rfl, rfl⟩))
    have hseg1 := (Knd.At.seg_set_same (d := kValue) _ j 0 (.int .i64 (K)) (by decide)).trans (congrArg (fun z => z.set 0 (.int .i64 (K))) hseg)
    have hB1 := Knd.At.but_put hB (j * 3 + 0) (.int .i64 (K))
    have hP2 := hP1.put j 1 (by rw [List.length_set]; exact HUL.out) (by decide) (.int .i64 (K + 1)) ({ k := K, n := K + 1, s := x.s } : DValue) [] HFJ.out (by rw [hseg1]; exact (kValue_Oi.2 ⟨rfl, rfl⟩))
    rw [List.set_set] at hP2
    have hseg2 := (Knd.At.seg_set_same (d := kValue) _ j 1 (.int .i64 (K + 1)) (by decide)).trans (congrArg (fun z => z.set 1 (.int .i64 (K + 1))) hseg1)
    have hB2 := Knd.At.but_put hB1 (j * 3 + 1) (.int .i64 (K + 1))
    have HP := Lib.hid hP2
    have HG := Lib.hid hseg2
    have HBB := Lib.hid hB2
    try clear hA
    try clear hseg
    try clear hB
    try clear hP1
    try clear hP2
    try clear hseg1
    try clear hseg2
    try clear hB1
    try clear hB2
    go_wp2_with fail
    refine (markText (K + 1 + 1) _ (by omega) (by omega)).mono ?_
    rintro e w3 ⟨rfl, hb3⟩
    have hP3 := HP.out.below hb3
    have hseg3 := HG.out
    have hB3 := HBB.out.trans (But.of_below hb3)
    try clear c0 f0
    try clear c1 f1
    try clear c2 f2
    clear HP HG HBB
    have c2 : w3.cell? ⟨g, j * 3 + 2, none⟩ = some (.string (x.s)) := hP3.cellj j 2 (by rw [List.length_set]; exact HUL.out) hseg3 rfl
    have f2 : w3.frozen? ⟨g, j * 3 + 2, none⟩ = false := hP3.free _
    have hP4 := hP3.put j 2 (by rw [List.length_set]; exact HUL.out) (by decide) (.string (mkText (K + 1 + 1))) ({ k := K, n := K + 1, s := mkText (K + 1 + 1) } : DValue) [] HFJ.out (by rw [hseg3]; exact (kValue_Oi.2 ⟨rfl, rfl⟩))
    rw [List.set_set] at hP4
    have hseg4 := (Knd.At.seg_set_same (d := kValue) _ j 2 (.string (mkText (K + 1 + 1))) (by decide)).trans (congrArg (fun z => z.set 2 (.string (mkText (K + 1 + 1)))) hseg3)
    have hB4 := Knd.At.but_put hB3 (j * 3 + 2) (.string (mkText (K + 1 + 1)))
    have HP := Lib.hid hP4
    have HG := Lib.hid hseg4
    have HBB := Lib.hid hB4
    try clear hA
    try clear hseg
    try clear hB
    try clear hP1
    try clear hP2
    try clear hP3
    try clear hP4
    try clear hseg1
    try clear hseg2
    try clear hseg3
    try clear hseg4
    try clear hB1
    try clear hB2
    try clear hB3
    try clear hB4
    go_wp2
    go_roundw
    case rel =>
      have h9 := HP.out
      rw [show ({ k := K, n := K + 1, s := mkText (K + 1 + 1) } : DValue) = mkValue (k + ctL ctValue (l.take j)) x from by rw [HK.out]; rfl, hset.out] at h9
      exact ⟨j + 1, _, by omega, by rw [hct.out, ← HK.out]; simp [ctValue]; omega, by go_num, h9, HBB.out⟩
    case measure => simp [intOf]; omega
structure DRec where
  fields : List DValue
def zRec : DRec := ⟨[]⟩
def kRec : Knd DRec := Knd.iso (Knd.slice 65 kValue) (fun x => (x.fields))
/-- What is handed in meets this. -/
def VRec (x : DRec) : Prop := (x.fields.length ≤ maxLen ∧ ∀ y ∈ x.fields, VValue y)
theorem kRec_K {w : World} {x : DRec} {cs : List Value} : kRec.K w x cs ↔ ∃ (A0 : Option Addr) (c0 : Nat), cs = [.slice A0 x.fields.length c0] ∧ x.fields.length ≤ c0 ∧ kValue.Row w A0 x.fields.length x.fields := by
  constructor
  · rintro ⟨A_fields, c_fields, rfl, hl_fields, hr_fields⟩
    exact ⟨A_fields, c_fields, rfl, hl_fields, hr_fields⟩
  · rintro ⟨A0, c0, rfl, h0, r0⟩
    exact ⟨A0, c0, rfl, h0, r0⟩
theorem kRec_at {w : World} {A : Option Addr} {m : Nat} {xs : List DRec} (h : kRec.Row w A m xs) (i : Nat) (x : DRec) (hx : xs[i]? = some x) : ∃ (ad : Addr) (A0 : Option Addr) (c0 : Nat), A = some ad ∧ w.cell? (ad.add (i * 1)) = some (.slice A0 x.fields.length c0) ∧ x.fields.length ≤ c0 ∧ kValue.Row w A0 x.fields.length x.fields := by
  obtain ⟨ad, c, e, hK, hc0⟩ := h.get i x hx
  have hc : ∀ j u, c[j]? = some u → w.cell? (ad.add (i * 1 + j)) = some u := hc0
  obtain ⟨A0, c0, rfl, h0, r0⟩ := kRec_K.1 hK
  exact ⟨ad, A0, c0, e, hc 0 _ rfl, h0, r0⟩
def ctRec (x : DRec) : Nat := 0 + ctL ctValue x.fields
def mkRec (k : Int) (x : DRec) : DRec := { fields := mkL mkValue ctValue (k) x.fields }
theorem kRec_Oi {w : World} {x : DRec} {cs : List Value} {F : List Nat} : kRec.O w x cs F ↔ ∃ (v0 : Value) (F0 : List Nat), cs = [v0] ∧ F = F0 ∧ kValue.Own 65 w v0 x.fields F0 := by
  constructor
  · rintro ⟨v0, rfl, o0⟩
    exact ⟨v0, _, rfl, by simp, o0⟩
  · rintro ⟨v0, F0, rfl, rfl, o0⟩
    exact ⟨v0, rfl, o0⟩
def msRec (x : DRec) : Nat := sumOf msValue x.fields
/-- What a small measure gives. -/
def MRec (x : DRec) : Prop := (x.fields.length ≤ 1048576 ∧ ∀ y ∈ x.fields, MValue y)
theorem MRec_of {x : DRec} (h : msRec x ≤ 1048576) : MRec x := by
  unfold msRec at h
  try simp only [sumOf] at h
  unfold MRec
  exact ⟨by omega, fun y hy => by have h9 := mem_sum msValue _ y hy; exact MValue_of (by omega)⟩
set_option maxHeartbeats 4000000 in
set_option maxRecDepth 100000 in
theorem szRec_c (A0 : Option Addr) (c0 : Nat) (x : DRec) (left : Int) (w : World) (r0 : kValue.Row w A0 x.fields.length x.fields) (hV : VRec x) (h0 : 0 ≤ left) (h1 : left ≤ 1048576) : Calls Tryz.prog 157 #[.agg #[.slice A0 x.fields.length c0], .int .i64 left] w fun e w' => e = .returned (.int .i64 (lft (msRec x) left)) ∧ Below w.heap.size w w' := by
  have hS := (St.start w).made (.cells #[.slice A0 x.fields.length c0] 230 (0, 0))
  by_cases k0 : ((sumOf msValue x.fields : Nat) : Int) ≤ left
  rotate_left
  · skip
    have C0 := szValueS_c A0 c0 x.fields left
    rw [lft_gt (by omega)] at C0
    have HE := Lib.hid (show (-1 : Int) = lft (msRec x) left by unfold msRec; rw [lft_gt (by omega)])
    go_enter Tryz.func157, Tryz.ntmps157
    go_wp2_with fail
    refine (C0 _ (r0.below hS.bel) hV.1 hV.2 (by omega) (by omega)).mono ?_
    rintro e w1 ⟨rfl, hb⟩
    replace hS := hS.step hb
    have xb := hS.cell 0 rfl
    have yb := hS.blt 0 rfl
    clear hb
    go_wp2
    go_ret
    exact ⟨ret_int HE.out, hS.bel⟩
  have C0 := szValueS_c A0 c0 x.fields left
  rw [lft_le k0] at C0
  have g0 : 0 ≤ left - (sumOf msValue x.fields : Int) := by omega
  have HE := Lib.hid (show left - (sumOf msValue x.fields : Int) = lft (msRec x) left by unfold msRec; rw [lft_le (by omega)])
  go_enter Tryz.func157, Tryz.ntmps157
  go_wp2_with fail
  refine (C0 _ (r0.below hS.bel) hV.1 hV.2 (by omega) (by omega)).mono ?_
  rintro e w1 ⟨rfl, hb⟩
  replace hS := hS.step hb
  have xb := hS.cell 0 rfl
  have yb := hS.blt 0 rfl
  clear hb
  go_wp2
  go_ret
  exact ⟨ret_int HE.out, hS.bel⟩
set_option maxHeartbeats 4000000 in
set_option maxRecDepth 100000 in
theorem szRecS_c (A : Option Addr) (c : Nat) (l : List DRec) (left : Int) (w : World) (hr : kRec.Row w A l.length l) (hm : l.length ≤ maxLen) (hv : ∀ x ∈ l, VRec x) (h0 : 0 ≤ left) (h1 : left ≤ 1048576) : Calls Tryz.prog 87 #[.slice A l.length c, .int .i64 left] w fun e w' => e = .returned (.int .i64 (lft (sumOf msRec l) left)) ∧ Below w.heap.size w w' := by
  unfold maxLen at hm
  by_cases h : (l.length : Int) ≤ left
  · have h2 : 0 ≤ left - (l.length : Int) := by omega
    go_enter Tryz.func87, Tryz.ntmps87
    go_wp2
    go_loopw [1, 5] (fun u i wr => ∃ k s : Nat, k ≤ l.length ∧ i = .int .i64 k ∧ Hid (s = ((l.take k).map msRec).sum) ∧ u = .int .i64 (left - l.length - s) ∧ 0 ≤ left - l.length - s ∧ Below w.heap.size w wr) (fun _ i _ => l.length - (intOf i).toNat)
    case atStart => exact ⟨0, 0, by omega, rfl, rfl, by simp, by simpa using h2, Below.refl _ _⟩
    case round =>
      obtain ⟨k, s, hk, rfl, hs, rfl, hp, hb⟩ := hrel
      by_cases hlt : k < l.length
      · obtain ⟨x, hx⟩ := get_ex l k hlt
        have hV := hv x (List.mem_of_getElem? hx)
        have hsn := sum_snoc msRec l k x hx
        have hle := sum_le msRec l (k + 1)
        obtain ⟨ad, A0y, c0y, rfl, q0, hl0, hr0⟩ := kRec_at (hr.below hb) k x hx
        rw [Nat.mul_one] at q0
        have HX := Lib.hid hx
        clear hx
        have C := szRec_c A0y c0y x (left - l.length - s)
        have HV := Lib.hid hV
        clear hV
        by_cases hf : (msRec x : Int) ≤ left - l.length - s
        · have HS : Hid (s + msRec x = ((l.take (k + 1)).map msRec).sum) := Lib.hid (by rw [hsn, ← hs.out])
          have e : lft (msRec x) (left - l.length - s) = left - l.length - ((s + msRec x : Nat) : Int) := by simp [lft, hf]; omega
          rw [e] at C
          have hp2 : 0 ≤ left - (l.length : Int) - ((s + msRec x : Nat) : Int) := by omega
          clear hsn hle hf e
          generalize s + msRec x = s2 at C HS hp2
          go_wp2_with fail
          refine (C _ hr0 HV.out (by omega) (by omega)).mono ?_
          rintro e w' ⟨rfl, hb2⟩
          go_wp2
          go_roundw
          case rel => exact ⟨k + 1, s2, by omega, by go_num, HS, rfl, hp2, bl9⟩
          case measure => simp [intOf]; omega
        · have e : lft (msRec x) (left - l.length - s) = -1 := by simp [lft]; omega
          rw [e] at C
          have hend : lft (sumOf msRec l) left = -1 := by
            have h3 := hs.out
            simp [lft, sumOf]
            omega
          have HE := Lib.hid hend
          clear hsn hle e hend
          go_wp2_with fail
          refine (C _ hr0 HV.out (by omega) (by omega)).mono ?_
          rintro e w' ⟨rfl, hb2⟩
          go_wp2
          go_ret
          exact ⟨ret_int HE.out.symm, bl9⟩
      · have hend : lft (sumOf msRec l) left = left - l.length - s := by
          have h3 := hs.out
          rw [List.take_of_length_le (by omega)] at h3
          simp only [lft, sumOf, ← h3]
          rw [if_pos (by omega)]
          omega
        have HE := Lib.hid hend
        clear hend
        go_wp2
        go_ret
        exact ⟨ret_int HE.out.symm, hb⟩
  · have h2 : left - (l.length : Int) < 0 := by omega
    go_enter Tryz.func87, Tryz.ntmps87
    go_wp2
    go_ret
    exact ⟨by simp [lft, sumOf]; omega, Below.refl _ _⟩
theorem infoRec : (Tryz.prog.info? 148).map (fun i => (i.zero, i.size, i.bytes)) = some (some (.agg #[.slice none 0 0]), 1, 24) := by kernel_rfl
set_option maxHeartbeats 4000000 in
set_option maxRecDepth 100000 in
theorem toRec_c (A0 : Option Addr) (c0 : Nat) (x : DRec) (w : World) (r0 : kValue.Row w A0 x.fields.length x.fields) (hM : MRec x) : Calls Tryz.prog 160 #[.agg #[.slice A0 x.fields.length c0]] w (fun en w' => ∃ (v0 : Value) (F0 : List Nat), en = .returned (.agg #[v0]) ∧ St w [Res.own kValue 65 v0 x.fields F0] w') := by
  go_enter Tryz.func160, Tryz.ntmps160
  go_wp2_with fail
  refine (toValueS_c A0 c0 x.fields _ (r0.below bl9) hM).mono ?_
  rintro e w1 ⟨v0, F0, rfl, ho0, hnd0, hF0, hb1⟩
  obtain ⟨Av0, cv0, rfl, _, _⟩ := ho0.row
  obtain ⟨hc1, hf1⟩ := bcell hb1
  have hz1 := hb1.size
  simp at hz1
  have y10 : w.heap.size < w1.heap.size := by omega
  have y11 : w.heap.size + 1 < w1.heap.size := by omega
  have y12 : w.heap.size + 1 + 1 < w1.heap.size := by omega
  have hG0 : ∀ g ∈ F0, w.heap.size + 3 ≤ g := fun g hg => by have := hF0 g hg; simp at this; omega
  have hl0 := ho0.lt
  have hW1 : Below w.heap.size w w1 := bl9
  go_wp2
  refine bodyPost_ret (v := .agg #[.slice Av0 x.fields.length cv0]) (by simp [results, Tryz.results160, go_sem, *]) rfl ⟨_, F0, rfl, ?_⟩
  refine St.cons (St.bare bl9) ?_ hnd0 (fun g hg => by have := hG0 g hg; omega) (by simp)
  · show kValue.Own 65 _ _ _ _
    repeat (first | (with_reducible exact ho0) | (refine Knd.Own.set_old ?_ hG0 (by dsimp only; omega) _) | (refine Knd.Own.below ?_ hb1))
theorem zRec_O (w : World) : kRec.O w zRec (Value.agg #[.slice none 0 0]).cells.toList [] := kRec_Oi.2 ⟨.slice none 0 0, [], rfl, rfl, Knd.Own.nil _ _ _⟩
set_option maxHeartbeats 4000000 in
set_option maxRecDepth 100000 in
theorem toRecS_c (A : Option Addr) (c : Nat) (l : List DRec) (w : World) (hr : kRec.Row w A l.length l) (hm : l.length ≤ 1048576 ∧ ∀ y ∈ l, MRec y) : Calls Tryz.prog 92 #[.slice A l.length c] w (NewRow kRec 148 l w) := by
  obtain ⟨hm, hM⟩ := hm
  go_enter Tryz.func92, Tryz.ntmps92
  go_wp2_with (refine Knd.wp_made kRec rfl _ _ _ rfl l.length rfl rfl 148 Tryz.underlying64 (.agg #[.slice none 0 0]) 24 infoRec rfl (by decide) (by omega) zRec zRec_O (by omega) ?_; rintro g w1 hg ho hb hz; have HG := Lib.hid hg; clear hg)
  have hg0 : w.heap.size ≤ g := Nat.le_of_eq HG.out.symm
  go_loopw [4] (fun i wr => ∃ (k : Nat) (Fs : List (List Nat)), k ≤ l.length ∧ i = .int .i64 k ∧ kRec.OwnF 148 wr (.slice (some ⟨g, 0, none⟩) l.length l.length) (l.take k ++ List.replicate (l.length - k) zRec) Fs ∧ Hid ((g :: Fs.flatten).Nodup ∧ (∀ q ∈ Fs.flatten, w.heap.size ≤ q)) ∧ Below w.heap.size w wr) (fun i _ => l.length - (intOf i).toNat)
  case atStart => exact ⟨0, List.replicate l.length [], by omega, rfl, by simpa using ho, ⟨by simp [rep_flat], by simp [rep_flat]⟩, hb⟩
  case round =>
    obtain ⟨k, Fs, hk, rfl, ho, hN, hb⟩ := hrel
    by_cases hlt : k < l.length
    · obtain ⟨x, hx⟩ := get_exT l k hlt
      obtain ⟨ad, A0y, c0y, rfl, q0, hl0, hr0⟩ := kRec_at (hr.below hb) k x hx
      rw [Nat.mul_one] at q0
      have hMx := hM x (List.mem_of_getElem? hx)
      have hp := part_set l zRec x k hx
      have hle : k < (l.take k ++ List.replicate (l.length - k) zRec).length := by simp; omega
      have hlen : (l.take k ++ List.replicate (l.length - k) zRec).length = l.length := by simp; omega
      have hFl : Fs.length = l.length := ho.len.trans hlen
      have HF := Lib.hid hFl
      clear hFl
      have HP := Lib.hid hp
      have HX := Lib.hid hx
      have HL := Lib.hid hlen
      clear hp hx hlen
      have C := toRec_c A0y c0y x wr hr0 hMx
      go_wp2_with fail
      refine C.mono ?_
      rintro e w' ⟨v0, F0, rfl, hS2⟩
      obtain ⟨Av0, cv0, rfl, _, _⟩ := hS2.row 0 rfl
      have hb2 := hS2.bel
      have ho2 := ho.below hb2
      obtain ⟨u0, s0⟩ := ho2.cell k (by rw [HL.out]; show _ < l.length * 1; omega)
      have f0 := ho2.free k
      have HS2 := Lib.hid hS2
      clear hS2
      go_wp2
      go_roundw
      case rel =>
        have hlt2 : ∀ q ∈ g :: Fs.flatten, q < wr.heap.size := fun q hq => ho.lt q (by simpa [Value.ownBlock] using hq)
        have hnew : ∀ q ∈ F0, wr.heap.size ≤ q := fun q hq => by
          have h8 := HS2.out.old
          simp only [List.forall_mem_cons] at h8
          (try simp only [List.mem_append] at hq)
          exact h8.1 q hq
        have hnd : (F0).Nodup := by have h8 := HS2.out.dis; simpa [Res.own] using h8
        have hd : ∀ q ∈ F0, q ∉ g :: Fs.flatten := fun q hq hm => by have := hlt2 q hm; have := hnew q hq; omega
        have h1 := ho2.put k hle [.slice Av0 x.fields.length cv0] x F0 (kRec_Oi.2 ⟨_, F0, rfl, rfl, HS2.out.get 0 rfl⟩) (fun h => hd g h (by simp)) (List.nodup_cons.1 hN.out.1).1
        rw [HP.out] at h1
        have e1 : k * kRec.sz = k := Nat.mul_one k
        rw [e1] at h1
        refine ⟨k + 1, Fs.set k F0, by omega, by go_num, h1, ⟨nodup_put (by rw [HF.out]; exact hlt) hN.out.1 hnd hd, fun q hq => ?_⟩, ?_⟩
        · rcases mem_put (by rw [HF.out]; exact hlt) hq with hq | hq
          · have := hnew q hq
            have := hb.size
            omega
          · exact hN.out.2 q hq
        · exact bl9
      case measure => simp [intOf]; omega
    · obtain rfl : k = l.length := by omega
      go_wp2
      go_ret
      have h1 := ho.own
      rw [List.take_length, Nat.sub_self, List.replicate_zero, List.append_nil] at h1
      exact ⟨_, _, rfl, h1, hN.out.1, fun q hq => by
        rcases List.mem_cons.1 hq with rfl | hq
        · exact hg0
        · exact hN.out.2 q hq, hb⟩
set_option maxHeartbeats 4000000 in
set_option maxRecDepth 100000 in
theorem eqRec_c (A0 : Option Addr) (c0 : Nat) (A0z : Option Addr) (c0z : Nat) (x : DRec) (w : World) (r0 : kValue.Row w A0 x.fields.length x.fields) (r0z : kValue.Row w A0z x.fields.length x.fields) : Calls Tryz.prog 169 #[.agg #[.slice A0 x.fields.length c0], .agg #[.slice A0z x.fields.length c0z]] w fun e w' => e = .returned (.bool true) ∧ Below w.heap.size w w' := by
  have hS := ((St.start w).made (.cells #[.slice A0 x.fields.length c0] 148 (0, 0))).madeAt (.cells #[.slice A0z x.fields.length c0z] 148 (0, 0)) (w.heap.size + 1) (by simp)
  go_enter Tryz.func169, Tryz.ntmps169
  go_wp2_with fail
  refine (eqValueS_c A0 A0z c0 c0z x.fields _ (r0.below hS.bel) (r0z.below hS.bel)).mono ?_
  rintro e w1 ⟨rfl, hb⟩
  replace hS := hS.step hb
  have xb := hS.cell 0 rfl
  have xa := hS.cell 1 rfl
  have yb := hS.blt 0 rfl
  have ya := hS.blt 1 rfl
  clear hb
  go_wp2
  go_ret
  exact ⟨rfl, hS.bel⟩
set_option maxHeartbeats 4000000 in
set_option maxRecDepth 100000 in
theorem eqRecS_c (A B : Option Addr) (c c' : Nat) (l : List DRec) (w : World) (hr : kRec.Row w A l.length l) (hr' : kRec.Row w B l.length l) : Calls Tryz.prog 98 #[.slice A l.length c, .slice B l.length c'] w fun e w' => e = .returned (.bool true) ∧ Below w.heap.size w w' := by
  have hm := hr.2.1
  go_enter Tryz.func98, Tryz.ntmps98
  go_wp2
  go_loopw [5] (fun i wr => ∃ k : Nat, k ≤ l.length ∧ i = .int .i64 k ∧ Below w.heap.size w wr) (fun i _ => l.length - (intOf i).toNat)
  case atStart => exact ⟨0, by omega, rfl, Below.refl _ _⟩
  case round =>
    obtain ⟨k, hk, rfl, hb⟩ := hrel
    by_cases hlt : k < l.length
    · obtain ⟨x, hx⟩ := get_exE l k hlt
      obtain ⟨ady, A0y, c0y, rfl, q0, hl0y, hr0y⟩ := kRec_at (hr.below hb) k x hx
      obtain ⟨adz, A0z, c0z, rfl, p0, hl0z, hr0z⟩ := kRec_at (hr'.below hb) k x hx
      rw [Nat.mul_one] at q0
      rw [Nat.mul_one] at p0
      clear hx
      go_wp2
      go_region_held3 (fun w' => w'.cell? (ady.add k) = some (.slice A0y x.fields.length c0y) ∧ w'.cell? (adz.add k) = some (.slice A0z x.fields.length c0z) ∧ Below wr.heap.size wr w') ((refine ⟨?_, ?_, ?_⟩ <;> first | assumption | (go_keep; done) | exact bl9)) (first | (go_at_call 169; refine (eqRec_c _ _ _ _ _ _ (hr0y.below bl9) (hr0z.below bl9)).mono ?_; rintro e w' ⟨rfl, hb2⟩; have q0 := kept hb2 q0; have p0 := kept hb2 p0; have hW2 : Below wr.heap.size wr w' := bl9))
      go_wp2
      go_roundw
      case rel => exact ⟨k + 1, by omega, by go_num, bl9⟩
      case measure => simp [intOf]; omega
    · go_wp2
      go_ret
      exact ⟨rfl, hb⟩
theorem ctOneRec (x : DRec) : ctRec x ≤ 3 * (msRec x + 1) := by
  have h0 := ctLeValue x.fields
  unfold ctRec msRec
  try simp only [sumOf] at *
  omega
theorem ctLeRec (l : List DRec) : ctL ctRec l ≤ 3 * sumOf msRec l := ctL_le2 3 ctOneRec l
set_option maxHeartbeats 4000000 in
set_option maxRecDepth 100000 in
theorem markRecS_c (v : Value) (l : List DRec) (k : Int) (F : List Nat) (w : World) (h : kRec.Own 148 w v l F) (hnd : F.Nodup) (h0 : 0 ≤ k) (h1 : k + ctL ctRec l ≤ 1152921504606846976) (hm : l.length ≤ 1048576 ∧ ∀ y ∈ l, MRec y) : Calls Tryz.prog 106 #[v, .int .i64 k] w fun e w' => e = .returned (.int .i64 (k + ctL ctRec l)) ∧ kRec.Own 148 w' v (mkL mkRec ctRec k l) F ∧ But F w w' := by
  have hlm : l.length ≤ 1048576 := hm.1
  by_cases hn : 0 < l.length
  rotate_left
  · have e : l = [] := List.eq_nil_of_length_eq_zero (by omega)
    subst e
    obtain ⟨A, c, rfl, _, _⟩ := h.row
    go_enter Tryz.func106, Tryz.ntmps106
    go_wp2
    go_loopw [1, 5] (fun u i wr => u = .int .i64 k ∧ i = .int .i64 0 ∧ w = wr) (fun _ i _ => 0)
    case atStart => exact ⟨rfl, rfl, rfl⟩
    case round =>
      obtain ⟨rfl, rfl, rfl⟩ := hrel
      go_wp2
      go_ret
      exact ⟨by simp [ctL], h, But.refl _ _⟩
  obtain ⟨g, c, Fs, inner, rfl, hFe, hA0⟩ := h.toAt hnd hn
  subst hFe
  clear h hnd
  go_enter Tryz.func106, Tryz.ntmps106
  go_wp2
  go_loopw [1, 5] (fun u i wr => ∃ (j : Nat) (inner : List Value), j ≤ l.length ∧ u = .int .i64 (k + ctL ctRec (l.take j)) ∧ i = .int .i64 j ∧ kRec.At 148 wr g l.length c (upto mkRec ctRec k l j) Fs inner ∧ But (g :: Fs.flatten) w wr) (fun _ i _ => l.length - (intOf i).toNat)
  case atStart => exact ⟨0, inner, by omega, by simp [ctL], rfl, by rw [upto_0]; exact hA0, But.refl _ _⟩
  case round =>
    clear hA0
    obtain ⟨j, inner, hj, rfl, rfl, hA, hB⟩ := hrel
    by_cases hlt : j < l.length
    rotate_left
    · obtain rfl : j = l.length := by omega
      rw [upto_all] at hA
      rw [List.take_length]
      go_wp2
      go_ret
      exact ⟨rfl, hA.own, hB⟩
    obtain ⟨x, hx⟩ := get_exU l j hlt
    have hset := Lib.hid (upto_set mkRec ctRec k l j x hx)
    have hct := Lib.hid (ctL_snoc ctRec l j x hx)
    have hle := ctL_mem ctRec l j x hx
    have hMx := hm.2 x (List.mem_of_getElem? hx)
    have hul : j < (upto mkRec ctRec k l j).length := by rw [upto_len]; exact hlt
    obtain ⟨Fj, hFj, hO, _⟩ := hA.elem j x (upto_get mkRec ctRec k l j x hx)
    obtain ⟨v0, G0, hseg, hFn, o0⟩ := kRec_Oi.1 hO
    have hFn := hFn.symm
    subst hFn
    have hGl : ∀ q ∈ G0, q ∈ Fs.flatten := fun q hq => List.mem_flatten.2 ⟨_, List.mem_of_getElem? hFj, hq⟩
    have hne : ∀ q ∈ G0, q ≠ g := fun q hq => hA.gne q (hGl q hq)
    have hnj : (G0).Nodup := (List.pairwise_flatten.1 (List.nodup_cons.1 hA.nd).2).1 _ (List.mem_of_getElem? hFj)
    have hn0 := hnj
    obtain ⟨K, hK⟩ : ∃ K, k + (ctL ctRec (l.take j) : Int) = K := ⟨_, rfl⟩
    have hK0 : 0 ≤ K := by omega
    have hK1 : K + ctRec x ≤ 1152921504606846976 := by omega
    rw [hK]
    have HK := Lib.hid hK
    unfold ctRec at hK1
    have HUL := Lib.hid hul
    have HFJ := Lib.hid hFj
    clear hK hle hO hx
    have C1 := markValueS_c v0 x.fields (K) G0 _ o0 hn0 (by omega) (by omega) hMx
    have cs0 : wr.cell? ⟨g, j, none⟩ = some v0 := by have h9 := hA.cellj j 0 HUL.out hseg rfl; rwa [show j * kRec.sz + 0 = j from Nat.mul_one j] at h9
    have HP := Lib.hid hA
    have HG := Lib.hid hseg
    have HBB := Lib.hid hB
    have HO0 := Lib.hid o0
    try clear hA
    try clear hseg
    try clear hB
    try clear hP1
    try clear hseg1
    try clear hB1
    try clear o0
    try clear o0_1
    go_wp2_with fail
    refine C1.mono ?_
    rintro e w1 ⟨rfl, ho1, hBi1⟩
    clear C1 cs0
    have hT1 := HP.out.turn j HUL.out ({ fields := mkL mkValue ctValue (K) x.fields } : DRec) G0 G0 HFJ.out (fun q hq => by simp [hq]) hBi1 (by rw [HG.out]; exact (kRec_Oi.2 ⟨v0, G0, rfl, rfl, ho1⟩))
    have hP1 := hT1
    have hseg1 := HG.out
    have hB1 := Knd.At.but_turn HBB.out HFJ.out (fun q hq => by simp [hq]) hBi1
    clear hT1 HP HG HBB HO0
    have hkz1 : 0 ≤ K + (ctL ctValue x.fields : Int) := by omega
    have HP := Lib.hid hP1
    have HG := Lib.hid hseg1
    have HBB := Lib.hid hB1
    have HO0 := Lib.hid ho1
    try clear hA
    try clear hseg
    try clear hB
    try clear hP1
    try clear hseg1
    try clear hB1
    try clear o0
    try clear o0_1
    go_wp2
    go_roundw
    case rel =>
      have h9 := HP.out
      rw [show ({ fields := mkL mkValue ctValue (K) x.fields } : DRec) = mkRec (k + ctL ctRec (l.take j)) x from by rw [HK.out]; rfl, hset.out] at h9
      exact ⟨j + 1, _, by omega, by rw [hct.out, ← HK.out]; simp [ctRec]; omega, by go_num, h9, HBB.out⟩
    case measure => simp [intOf]; omega
structure DFrame where
  fn : Int
  pc : Int
  locals : List DValue
  stack : List DValue
def zFrame : DFrame := ⟨0, 0, [], []⟩
def kFrame : Knd DFrame := Knd.iso (Knd.pair (Knd.int .i64) (Knd.pair (Knd.int .i64) (Knd.pair (Knd.slice 65 kValue) (Knd.slice 65 kValue)))) (fun x => (x.fn, x.pc, x.locals, x.stack))
/-- What is handed in meets this. -/
def VFrame (x : DFrame) : Prop := (Lit.int .i64 x.fn).wf = true ∧ (Lit.int .i64 x.pc).wf = true ∧ (x.locals.length ≤ maxLen ∧ ∀ y ∈ x.locals, VValue y) ∧ (x.stack.length ≤ maxLen ∧ ∀ y ∈ x.stack, VValue y)
theorem kFrame_K {w : World} {x : DFrame} {cs : List Value} : kFrame.K w x cs ↔ ∃ (A2 A3 : Option Addr) (c2 c3 : Nat), cs = [.int .i64 x.fn, .int .i64 x.pc, .slice A2 x.locals.length c2, .slice A3 x.stack.length c3] ∧ x.locals.length ≤ c2 ∧ kValue.Row w A2 x.locals.length x.locals ∧ x.stack.length ≤ c3 ∧ kValue.Row w A3 x.stack.length x.stack := by
  constructor
  · rintro ⟨_, _, rfl, rfl, ⟨_, _, rfl, rfl, ⟨_, _, rfl, ⟨A_locals, c_locals, rfl, hl_locals, hr_locals⟩, ⟨A_stack, c_stack, rfl, hl_stack, hr_stack⟩⟩⟩⟩
    exact ⟨A_locals, A_stack, c_locals, c_stack, rfl, hl_locals, hr_locals, hl_stack, hr_stack⟩
  · rintro ⟨A2, A3, c2, c3, rfl, h2, r2, h3, r3⟩
    exact ⟨[.int .i64 x.fn], [.int .i64 x.pc, .slice A2 x.locals.length c2, .slice A3 x.stack.length c3], rfl, rfl, ⟨[.int .i64 x.pc], [.slice A2 x.locals.length c2, .slice A3 x.stack.length c3], rfl, rfl, ⟨[.slice A2 x.locals.length c2], [.slice A3 x.stack.length c3], rfl, ⟨A2, c2, rfl, h2, r2⟩, ⟨A3, c3, rfl, h3, r3⟩⟩⟩⟩
theorem kFrame_at {w : World} {A : Option Addr} {m : Nat} {xs : List DFrame} (h : kFrame.Row w A m xs) (i : Nat) (x : DFrame) (hx : xs[i]? = some x) : ∃ (ad : Addr) (A2 A3 : Option Addr) (c2 c3 : Nat), A = some ad ∧ w.cell? (ad.add (i * 4)) = some (.int .i64 x.fn) ∧ w.cell? ⟨(ad.add (i * 4)).block, (ad.add (i * 4)).off + 1, none⟩ = some (.int .i64 x.pc) ∧ w.cell? ⟨(ad.add (i * 4)).block, (ad.add (i * 4)).off + 2, none⟩ = some (.slice A2 x.locals.length c2) ∧ w.cell? ⟨(ad.add (i * 4)).block, (ad.add (i * 4)).off + 3, none⟩ = some (.slice A3 x.stack.length c3) ∧ x.locals.length ≤ c2 ∧ kValue.Row w A2 x.locals.length x.locals ∧ x.stack.length ≤ c3 ∧ kValue.Row w A3 x.stack.length x.stack := by
  obtain ⟨ad, c, e, hK, hc0⟩ := h.get i x hx
  have hc : ∀ j u, c[j]? = some u → w.cell? (ad.add (i * 4 + j)) = some u := hc0
  obtain ⟨A2, A3, c2, c3, rfl, h2, r2, h3, r3⟩ := kFrame_K.1 hK
  exact ⟨ad, A2, A3, c2, c3, e, hc 0 _ rfl, (by rw [← add_field _ _ 1 (by omega)]; exact hc 1 _ rfl), (by rw [← add_field _ _ 2 (by omega)]; exact hc 2 _ rfl), (by rw [← add_field _ _ 3 (by omega)]; exact hc 3 _ rfl), h2, r2, h3, r3⟩
def ctFrame (x : DFrame) : Nat := 2 + ctL ctValue x.locals + ctL ctValue x.stack
def mkFrame (k : Int) (x : DFrame) : DFrame := { fn := k, pc := k + 1, locals := mkL mkValue ctValue (k + 1 + 1) x.locals, stack := mkL mkValue ctValue (k + 1 + 1 + ctL ctValue x.locals) x.stack }
theorem kFrame_Oi {w : World} {x : DFrame} {cs : List Value} {F : List Nat} : kFrame.O w x cs F ↔ ∃ (v2 v3 : Value) (F2 F3 : List Nat), cs = [.int .i64 x.fn, .int .i64 x.pc, v2, v3] ∧ F = F2 ++ F3 ∧ kValue.Own 65 w v2 x.locals F2 ∧ kValue.Own 65 w v3 x.stack F3 := by
  constructor
  · rintro ⟨_, _, _, _, rfl, rfl, ⟨rfl, rfl⟩, ⟨_, _, _, _, rfl, rfl, ⟨rfl, rfl⟩, ⟨_, _, _, _, rfl, rfl, ⟨v2, rfl, o2⟩, ⟨v3, rfl, o3⟩⟩⟩⟩
    exact ⟨v2, v3, _, _, rfl, by simp, o2, o3⟩
  · rintro ⟨v2, v3, F2, F3, rfl, rfl, o2, o3⟩
    have h : kFrame.O w x [.int .i64 x.fn, .int .i64 x.pc, v2, v3] (([] ++ ([] ++ (F2 ++ F3)))) := ⟨[.int .i64 x.fn], [.int .i64 x.pc, v2, v3], [], ([] ++ (F2 ++ F3)), rfl, by simp, ⟨rfl, rfl⟩, ⟨[.int .i64 x.pc], [v2, v3], [], (F2 ++ F3), rfl, by simp, ⟨rfl, rfl⟩, ⟨[v2], [v3], F2, F3, rfl, by simp, ⟨v2, rfl, o2⟩, ⟨v3, rfl, o3⟩⟩⟩⟩
    simpa using h
def msFrame (x : DFrame) : Nat := sumOf msValue x.locals + sumOf msValue x.stack
/-- What a small measure gives. -/
def MFrame (x : DFrame) : Prop := (x.locals.length ≤ 1048576 ∧ ∀ y ∈ x.locals, MValue y) ∧ (x.stack.length ≤ 1048576 ∧ ∀ y ∈ x.stack, MValue y)
theorem MFrame_of {x : DFrame} (h : msFrame x ≤ 1048576) : MFrame x := by
  unfold msFrame at h
  try simp only [sumOf] at h
  unfold MFrame
  exact ⟨⟨by omega, fun y hy => by have h9 := mem_sum msValue _ y hy; exact MValue_of (by omega)⟩, ⟨by omega, fun y hy => by have h9 := mem_sum msValue _ y hy; exact MValue_of (by omega)⟩⟩
set_option maxHeartbeats 4000000 in
set_option maxRecDepth 100000 in
theorem szFrame_c (A2 A3 : Option Addr) (c2 c3 : Nat) (x : DFrame) (left : Int) (w : World) (r2 : kValue.Row w A2 x.locals.length x.locals) (r3 : kValue.Row w A3 x.stack.length x.stack) (hV : VFrame x) (h0 : 0 ≤ left) (h1 : left ≤ 1048576) : Calls Tryz.prog 156 #[.agg #[.int .i64 x.fn, .int .i64 x.pc, .slice A2 x.locals.length c2, .slice A3 x.stack.length c3], .int .i64 left] w fun e w' => e = .returned (.int .i64 (lft (msFrame x) left)) ∧ Below w.heap.size w w' := by
  have hS := (St.start w).made (.cells #[.int .i64 x.fn, .int .i64 x.pc, .slice A2 x.locals.length c2, .slice A3 x.stack.length c3] 227 (0, 0))
  by_cases k0 : ((sumOf msValue x.locals : Nat) : Int) ≤ left
  rotate_left
  · skip
    have C0 := szValueS_c A2 c2 x.locals left
    rw [lft_gt (by omega)] at C0
    have HE := Lib.hid (show (-1 : Int) = lft (msFrame x) left by unfold msFrame; rw [lft_gt (by omega)])
    go_enter Tryz.func156, Tryz.ntmps156
    go_wp2_with fail
    refine (C0 _ (r2.below hS.bel) hV.2.2.1.1 hV.2.2.1.2 (by omega) (by omega)).mono ?_
    rintro e w1 ⟨rfl, hb⟩
    replace hS := hS.step hb
    have xb := hS.cell 0 rfl
    have yb := hS.blt 0 rfl
    clear hb
    go_wp2
    go_ret
    exact ⟨ret_int HE.out, hS.bel⟩
  by_cases k1 : ((sumOf msValue x.stack : Nat) : Int) ≤ left - (sumOf msValue x.locals : Int)
  rotate_left
  · skip
    have C0 := szValueS_c A2 c2 x.locals left
    rw [lft_le k0] at C0
    have C1 := szValueS_c A3 c3 x.stack (left - (sumOf msValue x.locals : Int))
    rw [lft_gt (by omega)] at C1
    have g0 : 0 ≤ left - (sumOf msValue x.locals : Int) := by omega
    have HE := Lib.hid (show (-1 : Int) = lft (msFrame x) left by unfold msFrame; rw [lft_gt (by omega)])
    go_enter Tryz.func156, Tryz.ntmps156
    go_wp2_with fail
    refine (C0 _ (r2.below hS.bel) hV.2.2.1.1 hV.2.2.1.2 (by omega) (by omega)).mono ?_
    rintro e w1 ⟨rfl, hb⟩
    replace hS := hS.step hb
    have xb := hS.cell 0 rfl
    have yb := hS.blt 0 rfl
    clear hb
    go_wp2_with fail
    refine (C1 _ (r3.below hS.bel) hV.2.2.2.1 hV.2.2.2.2 (by omega) (by omega)).mono ?_
    rintro e w2 ⟨rfl, hb⟩
    replace hS := hS.step hb
    have xb := hS.cell 0 rfl
    have yb := hS.blt 0 rfl
    clear hb
    go_wp2
    go_ret
    exact ⟨ret_int HE.out, hS.bel⟩
  have C0 := szValueS_c A2 c2 x.locals left
  rw [lft_le k0] at C0
  have C1 := szValueS_c A3 c3 x.stack (left - (sumOf msValue x.locals : Int))
  rw [lft_le k1] at C1
  have g0 : 0 ≤ left - (sumOf msValue x.locals : Int) := by omega
  have g1 : 0 ≤ left - (sumOf msValue x.locals : Int) - (sumOf msValue x.stack : Int) := by omega
  have HE := Lib.hid (show left - (sumOf msValue x.locals : Int) - (sumOf msValue x.stack : Int) = lft (msFrame x) left by unfold msFrame; rw [lft_le (by omega)]; omega)
  go_enter Tryz.func156, Tryz.ntmps156
  go_wp2_with fail
  refine (C0 _ (r2.below hS.bel) hV.2.2.1.1 hV.2.2.1.2 (by omega) (by omega)).mono ?_
  rintro e w1 ⟨rfl, hb⟩
  replace hS := hS.step hb
  have xb := hS.cell 0 rfl
  have yb := hS.blt 0 rfl
  clear hb
  go_wp2_with fail
  refine (C1 _ (r3.below hS.bel) hV.2.2.2.1 hV.2.2.2.2 (by omega) (by omega)).mono ?_
  rintro e w2 ⟨rfl, hb⟩
  replace hS := hS.step hb
  have xb := hS.cell 0 rfl
  have yb := hS.blt 0 rfl
  clear hb
  go_wp2
  go_ret
  exact ⟨ret_int HE.out, hS.bel⟩
set_option maxHeartbeats 4000000 in
set_option maxRecDepth 100000 in
theorem szFrameS_c (A : Option Addr) (c : Nat) (l : List DFrame) (left : Int) (w : World) (hr : kFrame.Row w A l.length l) (hm : l.length ≤ maxLen) (hv : ∀ x ∈ l, VFrame x) (h0 : 0 ≤ left) (h1 : left ≤ 1048576) : Calls Tryz.prog 86 #[.slice A l.length c, .int .i64 left] w fun e w' => e = .returned (.int .i64 (lft (sumOf msFrame l) left)) ∧ Below w.heap.size w w' := by
  unfold maxLen at hm
  by_cases h : (l.length : Int) ≤ left
  · have h2 : 0 ≤ left - (l.length : Int) := by omega
    go_enter Tryz.func86, Tryz.ntmps86
    go_wp2
    go_loopw [1, 5] (fun u i wr => ∃ k s : Nat, k ≤ l.length ∧ i = .int .i64 k ∧ Hid (s = ((l.take k).map msFrame).sum) ∧ u = .int .i64 (left - l.length - s) ∧ 0 ≤ left - l.length - s ∧ Below w.heap.size w wr) (fun _ i _ => l.length - (intOf i).toNat)
    case atStart => exact ⟨0, 0, by omega, rfl, rfl, by simp, by simpa using h2, Below.refl _ _⟩
    case round =>
      obtain ⟨k, s, hk, rfl, hs, rfl, hp, hb⟩ := hrel
      by_cases hlt : k < l.length
      · obtain ⟨x, hx⟩ := get_ex l k hlt
        have hV := hv x (List.mem_of_getElem? hx)
        have hsn := sum_snoc msFrame l k x hx
        have hle := sum_le msFrame l (k + 1)
        obtain ⟨ad, A2y, A3y, c2y, c3y, rfl, q0, q1, q2, q3, hl2, hr2, hl3, hr3⟩ := kFrame_at (hr.below hb) k x hx
        have HX := Lib.hid hx
        clear hx
        have C := szFrame_c A2y A3y c2y c3y x (left - l.length - s)
        have HV := Lib.hid hV
        clear hV
        by_cases hf : (msFrame x : Int) ≤ left - l.length - s
        · have HS : Hid (s + msFrame x = ((l.take (k + 1)).map msFrame).sum) := Lib.hid (by rw [hsn, ← hs.out])
          have e : lft (msFrame x) (left - l.length - s) = left - l.length - ((s + msFrame x : Nat) : Int) := by simp [lft, hf]; omega
          rw [e] at C
          have hp2 : 0 ≤ left - (l.length : Int) - ((s + msFrame x : Nat) : Int) := by omega
          clear hsn hle hf e
          generalize s + msFrame x = s2 at C HS hp2
          go_wp2_with fail
          refine (C _ hr2 hr3 HV.out (by omega) (by omega)).mono ?_
          rintro e w' ⟨rfl, hb2⟩
          go_wp2
          go_roundw
          case rel => exact ⟨k + 1, s2, by omega, by go_num, HS, rfl, hp2, bl9⟩
          case measure => simp [intOf]; omega
        · have e : lft (msFrame x) (left - l.length - s) = -1 := by simp [lft]; omega
          rw [e] at C
          have hend : lft (sumOf msFrame l) left = -1 := by
            have h3 := hs.out
            simp [lft, sumOf]
            omega
          have HE := Lib.hid hend
          clear hsn hle e hend
          go_wp2_with fail
          refine (C _ hr2 hr3 HV.out (by omega) (by omega)).mono ?_
          rintro e w' ⟨rfl, hb2⟩
          go_wp2
          go_ret
          exact ⟨ret_int HE.out.symm, bl9⟩
      · have hend : lft (sumOf msFrame l) left = left - l.length - s := by
          have h3 := hs.out
          rw [List.take_of_length_le (by omega)] at h3
          simp only [lft, sumOf, ← h3]
          rw [if_pos (by omega)]
          omega
        have HE := Lib.hid hend
        clear hend
        go_wp2
        go_ret
        exact ⟨ret_int HE.out.symm, hb⟩
  · have h2 : left - (l.length : Int) < 0 := by omega
    go_enter Tryz.func86, Tryz.ntmps86
    go_wp2
    go_ret
    exact ⟨by simp [lft, sumOf]; omega, Below.refl _ _⟩
theorem infoFrame : (Tryz.prog.info? 145).map (fun i => (i.zero, i.size, i.bytes)) = some (some (.agg #[.int .i64 0, .int .i64 0, .slice none 0 0, .slice none 0 0]), 4, 64) := by kernel_rfl
set_option maxHeartbeats 4000000 in
set_option maxRecDepth 100000 in
theorem toFrame_c (A2 A3 : Option Addr) (c2 c3 : Nat) (x : DFrame) (w : World) (r2 : kValue.Row w A2 x.locals.length x.locals) (r3 : kValue.Row w A3 x.stack.length x.stack) (hM : MFrame x) : Calls Tryz.prog 159 #[.agg #[.int .i64 x.fn, .int .i64 x.pc, .slice A2 x.locals.length c2, .slice A3 x.stack.length c3]] w (fun en w' => ∃ (v2 v3 : Value) (F2 F3 : List Nat), en = .returned (.agg #[.int .i64 x.fn, .int .i64 x.pc, v2, v3]) ∧ St w [Res.own kValue 65 v2 x.locals F2, Res.own kValue 65 v3 x.stack F3] w') := by
  go_enter Tryz.func159, Tryz.ntmps159
  go_wp2_with fail
  refine (toValueS_c A2 c2 x.locals _ (r2.below bl9) hM.1).mono ?_
  rintro e w1 ⟨v2, F2, rfl, ho2, hnd2, hF2, hb1⟩
  obtain ⟨Av2, cv2, rfl, _, _⟩ := ho2.row
  obtain ⟨hc1, hf1⟩ := bcell hb1
  have hz1 := hb1.size
  simp at hz1
  have y10 : w.heap.size < w1.heap.size := by omega
  have y11 : w.heap.size + 1 < w1.heap.size := by omega
  have y12 : w.heap.size + 1 + 1 < w1.heap.size := by omega
  have hG2 : ∀ g ∈ F2, w.heap.size + 3 ≤ g := fun g hg => by have := hF2 g hg; simp at this; omega
  have hl2 := ho2.lt
  have hW1 : Below w.heap.size w w1 := bl9
  go_wp2_with fail
  refine (toValueS_c A3 c3 x.stack _ (r3.below bl9) hM.2).mono ?_
  rintro e w2 ⟨v3, F3, rfl, ho3, hnd3, hF3, hb2⟩
  obtain ⟨Av3, cv3, rfl, _, _⟩ := ho3.row
  obtain ⟨hc2, hf2⟩ := bcell hb2
  have hz2 := hb2.size
  simp at hz2
  have y20 : w.heap.size < w2.heap.size := by omega
  have y21 : w.heap.size + 1 < w2.heap.size := by omega
  have y22 : w.heap.size + 1 + 1 < w2.heap.size := by omega
  have hG3 : ∀ g ∈ F3, w.heap.size + 3 ≤ g := fun g hg => by have := hF3 g hg; simp at this; omega
  have hl3 := ho3.lt
  have hd3_2 : ∀ g ∈ F3, g ∉ F2 := fun g hg hm => by have h8 := hl2 g hm; have h9 := hF3 g hg; simp at h9; omega
  have hW2 : Below w.heap.size w w2 := bl9
  go_wp2
  refine bodyPost_ret (v := .agg #[.int .i64 x.fn, .int .i64 x.pc, .slice Av2 x.locals.length cv2, .slice Av3 x.stack.length cv3]) (by simp [results, Tryz.results159, go_sem, *]) rfl ⟨_, _, F2, F3, rfl, ?_⟩
  refine St.cons (St.cons (St.bare bl9) ?_ hnd3 (fun g hg => by have := hG3 g hg; omega) (by simp)) ?_ hnd2 (fun g hg => by have := hG2 g hg; omega) (by simp only [List.forall_mem_cons]; exact ⟨fun g hg hm => hd3_2 g hm hg, by simp⟩)
  · show kValue.Own 65 _ _ _ _
    repeat (first | (with_reducible exact ho3) | (refine Knd.Own.set_old ?_ hG3 (by dsimp only; omega) _) | (refine Knd.Own.below ?_ hb2) | (refine Knd.Own.below ?_ hb1))
  · show kValue.Own 65 _ _ _ _
    repeat (first | (with_reducible exact ho2) | (refine Knd.Own.set_old ?_ hG2 (by dsimp only; omega) _) | (refine Knd.Own.below ?_ hb2) | (refine Knd.Own.below ?_ hb1))
theorem zFrame_O (w : World) : kFrame.O w zFrame (Value.agg #[.int .i64 0, .int .i64 0, .slice none 0 0, .slice none 0 0]).cells.toList [] := kFrame_Oi.2 ⟨.slice none 0 0, .slice none 0 0, [], [], rfl, rfl, Knd.Own.nil _ _ _, Knd.Own.nil _ _ _⟩
set_option maxHeartbeats 4000000 in
set_option maxRecDepth 100000 in
theorem toFrameS_c (A : Option Addr) (c : Nat) (l : List DFrame) (w : World) (hr : kFrame.Row w A l.length l) (hm : l.length ≤ 1048576 ∧ ∀ y ∈ l, MFrame y) : Calls Tryz.prog 91 #[.slice A l.length c] w (NewRow kFrame 145 l w) := by
  obtain ⟨hm, hM⟩ := hm
  go_enter Tryz.func91, Tryz.ntmps91
  go_wp2_with (refine Knd.wp_made kFrame rfl _ _ _ rfl l.length rfl rfl 145 Tryz.underlying63 (.agg #[.int .i64 0, .int .i64 0, .slice none 0 0, .slice none 0 0]) 64 infoFrame rfl (by decide) (by omega) zFrame zFrame_O (by omega) ?_; rintro g w1 hg ho hb hz; have HG := Lib.hid hg; clear hg)
  have hg0 : w.heap.size ≤ g := Nat.le_of_eq HG.out.symm
  go_loopw [4] (fun i wr => ∃ (k : Nat) (Fs : List (List Nat)), k ≤ l.length ∧ i = .int .i64 k ∧ kFrame.OwnF 145 wr (.slice (some ⟨g, 0, none⟩) l.length l.length) (l.take k ++ List.replicate (l.length - k) zFrame) Fs ∧ Hid ((g :: Fs.flatten).Nodup ∧ (∀ q ∈ Fs.flatten, w.heap.size ≤ q)) ∧ Below w.heap.size w wr) (fun i _ => l.length - (intOf i).toNat)
  case atStart => exact ⟨0, List.replicate l.length [], by omega, rfl, by simpa using ho, ⟨by simp [rep_flat], by simp [rep_flat]⟩, hb⟩
  case round =>
    obtain ⟨k, Fs, hk, rfl, ho, hN, hb⟩ := hrel
    by_cases hlt : k < l.length
    · obtain ⟨x, hx⟩ := get_exT l k hlt
      obtain ⟨ad, A2y, A3y, c2y, c3y, rfl, q0, q1, q2, q3, hl2, hr2, hl3, hr3⟩ := kFrame_at (hr.below hb) k x hx
      have hMx := hM x (List.mem_of_getElem? hx)
      have hp := part_set l zFrame x k hx
      have hle : k < (l.take k ++ List.replicate (l.length - k) zFrame).length := by simp; omega
      have hlen : (l.take k ++ List.replicate (l.length - k) zFrame).length = l.length := by simp; omega
      have hFl : Fs.length = l.length := ho.len.trans hlen
      have HF := Lib.hid hFl
      clear hFl
      have HP := Lib.hid hp
      have HX := Lib.hid hx
      have HL := Lib.hid hlen
      clear hp hx hlen
      have C := toFrame_c A2y A3y c2y c3y x wr hr2 hr3 hMx
      go_wp2_with fail
      refine C.mono ?_
      rintro e w' ⟨v2, v3, F2, F3, rfl, hS2⟩
      obtain ⟨Av2, cv2, rfl, _, _⟩ := hS2.row 0 rfl
      obtain ⟨Av3, cv3, rfl, _, _⟩ := hS2.row 1 rfl
      have hb2 := hS2.bel
      have ho2 := ho.below hb2
      obtain ⟨u0, s0⟩ := ho2.cell (k * 4) (by rw [HL.out]; show _ < l.length * 4; omega)
      have f0 := ho2.free (k * 4)
      obtain ⟨u1, s1⟩ := ho2.cell (k * 4 + 1) (by rw [HL.out]; show _ < l.length * 4; omega)
      have f1 := ho2.free (k * 4 + 1)
      obtain ⟨u2, s2⟩ := ho2.cell (k * 4 + 2) (by rw [HL.out]; show _ < l.length * 4; omega)
      have f2 := ho2.free (k * 4 + 2)
      obtain ⟨u3, s3⟩ := ho2.cell (k * 4 + 3) (by rw [HL.out]; show _ < l.length * 4; omega)
      have f3 := ho2.free (k * 4 + 3)
      have HS2 := Lib.hid hS2
      clear hS2
      go_wp2
      go_roundw
      case rel =>
        have hlt2 : ∀ q ∈ g :: Fs.flatten, q < wr.heap.size := fun q hq => ho.lt q (by simpa [Value.ownBlock] using hq)
        have hnew : ∀ q ∈ (F2 ++ F3), wr.heap.size ≤ q := fun q hq => by
          have h8 := HS2.out.old
          simp only [List.forall_mem_cons] at h8
          (try simp only [List.mem_append] at hq)
          rcases hq with hq | hq
          · exact h8.1 q hq
          · exact h8.2.1 q hq
        have hnd : ((F2 ++ F3)).Nodup := by have h8 := HS2.out.dis; simpa [Res.own] using h8
        have hd : ∀ q ∈ (F2 ++ F3), q ∉ g :: Fs.flatten := fun q hq hm => by have := hlt2 q hm; have := hnew q hq; omega
        have h1 := ho2.put k hle [.int .i64 x.fn, .int .i64 x.pc, .slice Av2 x.locals.length cv2, .slice Av3 x.stack.length cv3] x (F2 ++ F3) (kFrame_Oi.2 ⟨_, _, F2, F3, rfl, rfl, HS2.out.get 0 rfl, HS2.out.get 1 rfl⟩) (fun h => hd g h (by simp)) (List.nodup_cons.1 hN.out.1).1
        rw [HP.out] at h1
        refine ⟨k + 1, Fs.set k (F2 ++ F3), by omega, by go_num, h1, ⟨nodup_put (by rw [HF.out]; exact hlt) hN.out.1 hnd hd, fun q hq => ?_⟩, ?_⟩
        · rcases mem_put (by rw [HF.out]; exact hlt) hq with hq | hq
          · have := hnew q hq
            have := hb.size
            omega
          · exact hN.out.2 q hq
        · exact bl9
      case measure => simp [intOf]; omega
    · obtain rfl : k = l.length := by omega
      go_wp2
      go_ret
      have h1 := ho.own
      rw [List.take_length, Nat.sub_self, List.replicate_zero, List.append_nil] at h1
      exact ⟨_, _, rfl, h1, hN.out.1, fun q hq => by
        rcases List.mem_cons.1 hq with rfl | hq
        · exact hg0
        · exact hN.out.2 q hq, hb⟩
set_option maxHeartbeats 4000000 in
set_option maxRecDepth 100000 in
theorem eqFrame_c (A2 A3 : Option Addr) (c2 c3 : Nat) (A2z A3z : Option Addr) (c2z c3z : Nat) (x : DFrame) (w : World) (r2 : kValue.Row w A2 x.locals.length x.locals) (r3 : kValue.Row w A3 x.stack.length x.stack) (r2z : kValue.Row w A2z x.locals.length x.locals) (r3z : kValue.Row w A3z x.stack.length x.stack) : Calls Tryz.prog 168 #[.agg #[.int .i64 x.fn, .int .i64 x.pc, .slice A2 x.locals.length c2, .slice A3 x.stack.length c3], .agg #[.int .i64 x.fn, .int .i64 x.pc, .slice A2z x.locals.length c2z, .slice A3z x.stack.length c3z]] w fun e w' => e = .returned (.bool true) ∧ Below w.heap.size w w' := by
  have hS := ((St.start w).made (.cells #[.int .i64 x.fn, .int .i64 x.pc, .slice A2 x.locals.length c2, .slice A3 x.stack.length c3] 145 (0, 0))).madeAt (.cells #[.int .i64 x.fn, .int .i64 x.pc, .slice A2z x.locals.length c2z, .slice A3z x.stack.length c3z] 145 (0, 0)) (w.heap.size + 1) (by simp)
  go_enter Tryz.func168, Tryz.ntmps168
  go_wp2_with fail
  refine (eqValueS_c A2 A2z c2 c2z x.locals _ (r2.below hS.bel) (r2z.below hS.bel)).mono ?_
  rintro e w1 ⟨rfl, hb⟩
  replace hS := hS.step hb
  have xb := hS.cell 0 rfl
  have xa := hS.cell 1 rfl
  have yb := hS.blt 0 rfl
  have ya := hS.blt 1 rfl
  clear hb
  go_wp2_with fail
  refine (eqValueS_c A3 A3z c3 c3z x.stack _ (r3.below hS.bel) (r3z.below hS.bel)).mono ?_
  rintro e w2 ⟨rfl, hb⟩
  replace hS := hS.step hb
  have xb := hS.cell 0 rfl
  have xa := hS.cell 1 rfl
  have yb := hS.blt 0 rfl
  have ya := hS.blt 1 rfl
  clear hb
  go_wp2
  go_ret
  exact ⟨rfl, hS.bel⟩
set_option maxHeartbeats 4000000 in
set_option maxRecDepth 100000 in
theorem eqFrameS_c (A B : Option Addr) (c c' : Nat) (l : List DFrame) (w : World) (hr : kFrame.Row w A l.length l) (hr' : kFrame.Row w B l.length l) : Calls Tryz.prog 97 #[.slice A l.length c, .slice B l.length c'] w fun e w' => e = .returned (.bool true) ∧ Below w.heap.size w w' := by
  have hm := hr.2.1
  go_enter Tryz.func97, Tryz.ntmps97
  go_wp2
  go_loopw [5] (fun i wr => ∃ k : Nat, k ≤ l.length ∧ i = .int .i64 k ∧ Below w.heap.size w wr) (fun i _ => l.length - (intOf i).toNat)
  case atStart => exact ⟨0, by omega, rfl, Below.refl _ _⟩
  case round =>
    obtain ⟨k, hk, rfl, hb⟩ := hrel
    by_cases hlt : k < l.length
    · obtain ⟨x, hx⟩ := get_exE l k hlt
      obtain ⟨ady, A2y, A3y, c2y, c3y, rfl, q0, q1, q2, q3, hl2y, hr2y, hl3y, hr3y⟩ := kFrame_at (hr.below hb) k x hx
      obtain ⟨adz, A2z, A3z, c2z, c3z, rfl, p0, p1, p2, p3, hl2z, hr2z, hl3z, hr3z⟩ := kFrame_at (hr'.below hb) k x hx
      clear hx
      go_wp2
      go_region_held3 (fun w' => w'.cell? (ady.add (k * 4)) = some (.int .i64 x.fn) ∧ w'.cell? ⟨(ady.add (k * 4)).block, (ady.add (k * 4)).off + 1, none⟩ = some (.int .i64 x.pc) ∧ w'.cell? ⟨(ady.add (k * 4)).block, (ady.add (k * 4)).off + 2, none⟩ = some (.slice A2y x.locals.length c2y) ∧ w'.cell? ⟨(ady.add (k * 4)).block, (ady.add (k * 4)).off + 3, none⟩ = some (.slice A3y x.stack.length c3y) ∧ w'.cell? (adz.add (k * 4)) = some (.int .i64 x.fn) ∧ w'.cell? ⟨(adz.add (k * 4)).block, (adz.add (k * 4)).off + 1, none⟩ = some (.int .i64 x.pc) ∧ w'.cell? ⟨(adz.add (k * 4)).block, (adz.add (k * 4)).off + 2, none⟩ = some (.slice A2z x.locals.length c2z) ∧ w'.cell? ⟨(adz.add (k * 4)).block, (adz.add (k * 4)).off + 3, none⟩ = some (.slice A3z x.stack.length c3z) ∧ Below wr.heap.size wr w') ((refine ⟨?_, ?_, ?_, ?_, ?_, ?_, ?_, ?_, ?_⟩ <;> first | assumption | (go_keep; done) | exact bl9)) (first | (go_at_call 168; refine (eqFrame_c _ _ _ _ _ _ _ _ _ _ (hr2y.below bl9) (hr3y.below bl9) (hr2z.below bl9) (hr3z.below bl9)).mono ?_; rintro e w' ⟨rfl, hb2⟩; have q0 := kept hb2 q0; have q1 := kept hb2 q1; have q2 := kept hb2 q2; have q3 := kept hb2 q3; have p0 := kept hb2 p0; have p1 := kept hb2 p1; have p2 := kept hb2 p2; have p3 := kept hb2 p3; have hW2 : Below wr.heap.size wr w' := bl9))
      go_wp2
      go_roundw
      case rel => exact ⟨k + 1, by omega, by go_num, bl9⟩
      case measure => simp [intOf]; omega
    · go_wp2
      go_ret
      exact ⟨rfl, hb⟩
theorem ctOneFrame (x : DFrame) : ctFrame x ≤ 3 * (msFrame x + 1) := by
  have h2 := ctLeValue x.locals
  have h3 := ctLeValue x.stack
  unfold ctFrame msFrame
  try simp only [sumOf] at *
  omega
theorem ctLeFrame (l : List DFrame) : ctL ctFrame l ≤ 3 * sumOf msFrame l := ctL_le2 3 ctOneFrame l
set_option maxHeartbeats 4000000 in
set_option maxRecDepth 100000 in
theorem markFrameS_c (v : Value) (l : List DFrame) (k : Int) (F : List Nat) (w : World) (h : kFrame.Own 145 w v l F) (hnd : F.Nodup) (h0 : 0 ≤ k) (h1 : k + ctL ctFrame l ≤ 1152921504606846976) (hm : l.length ≤ 1048576 ∧ ∀ y ∈ l, MFrame y) : Calls Tryz.prog 105 #[v, .int .i64 k] w fun e w' => e = .returned (.int .i64 (k + ctL ctFrame l)) ∧ kFrame.Own 145 w' v (mkL mkFrame ctFrame k l) F ∧ But F w w' := by
  have hlm : l.length ≤ 1048576 := hm.1
  by_cases hn : 0 < l.length
  rotate_left
  · have e : l = [] := List.eq_nil_of_length_eq_zero (by omega)
    subst e
    obtain ⟨A, c, rfl, _, _⟩ := h.row
    go_enter Tryz.func105, Tryz.ntmps105
    go_wp2
    go_loopw [1, 5] (fun u i wr => u = .int .i64 k ∧ i = .int .i64 0 ∧ w = wr) (fun _ i _ => 0)
    case atStart => exact ⟨rfl, rfl, rfl⟩
    case round =>
      obtain ⟨rfl, rfl, rfl⟩ := hrel
      go_wp2
      go_ret
      exact ⟨by simp [ctL], h, But.refl _ _⟩
  obtain ⟨g, c, Fs, inner, rfl, hFe, hA0⟩ := h.toAt hnd hn
  subst hFe
  clear h hnd
  go_enter Tryz.func105, Tryz.ntmps105
  go_wp2
  go_loopw [1, 5] (fun u i wr => ∃ (j : Nat) (inner : List Value), j ≤ l.length ∧ u = .int .i64 (k + ctL ctFrame (l.take j)) ∧ i = .int .i64 j ∧ kFrame.At 145 wr g l.length c (upto mkFrame ctFrame k l j) Fs inner ∧ But (g :: Fs.flatten) w wr) (fun _ i _ => l.length - (intOf i).toNat)
  case atStart => exact ⟨0, inner, by omega, by simp [ctL], rfl, by rw [upto_0]; exact hA0, But.refl _ _⟩
  case round =>
    clear hA0
    obtain ⟨j, inner, hj, rfl, rfl, hA, hB⟩ := hrel
    by_cases hlt : j < l.length
    rotate_left
    · obtain rfl : j = l.length := by omega
      rw [upto_all] at hA
      rw [List.take_length]
      go_wp2
      go_ret
      exact ⟨rfl, hA.own, hB⟩
    obtain ⟨x, hx⟩ := get_exU l j hlt
    have hset := Lib.hid (upto_set mkFrame ctFrame k l j x hx)
    have hct := Lib.hid (ctL_snoc ctFrame l j x hx)
    have hle := ctL_mem ctFrame l j x hx
    have hMx := hm.2 x (List.mem_of_getElem? hx)
    have hul : j < (upto mkFrame ctFrame k l j).length := by rw [upto_len]; exact hlt
    obtain ⟨Fj, hFj, hO, _⟩ := hA.elem j x (upto_get mkFrame ctFrame k l j x hx)
    obtain ⟨v2, v3, G2, G3, hseg, hFn, o2, o3⟩ := kFrame_Oi.1 hO
    have hFn := hFn.symm
    subst hFn
    have hGl : ∀ q ∈ (G2 ++ G3), q ∈ Fs.flatten := fun q hq => List.mem_flatten.2 ⟨_, List.mem_of_getElem? hFj, hq⟩
    have hne : ∀ q ∈ (G2 ++ G3), q ≠ g := fun q hq => hA.gne q (hGl q hq)
    have hnj : ((G2 ++ G3)).Nodup := (List.pairwise_flatten.1 (List.nodup_cons.1 hA.nd).2).1 _ (List.mem_of_getElem? hFj)
    obtain ⟨hn2, hn3, hdj⟩ := List.nodup_append.1 hnj
    obtain ⟨K, hK⟩ : ∃ K, k + (ctL ctFrame (l.take j) : Int) = K := ⟨_, rfl⟩
    have hK0 : 0 ≤ K := by omega
    have hK1 : K + ctFrame x ≤ 1152921504606846976 := by omega
    rw [hK]
    have HK := Lib.hid hK
    unfold ctFrame at hK1
    have HUL := Lib.hid hul
    have HFJ := Lib.hid hFj
    clear hK hle hO hx
    have c0 : wr.cell? ⟨g, j * 4, none⟩ = some (.int .i64 (x.fn)) := hA.cellj j 0 HUL.out hseg rfl
    have f0 : wr.frozen? ⟨g, j * 4, none⟩ = false := hA.free _
    have c1 : wr.cell? ⟨g, j * 4 + 1, none⟩ = some (.int .i64 (x.pc)) := hA.cellj j 1 HUL.out hseg rfl
    have f1 : wr.frozen? ⟨g, j * 4 + 1, none⟩ = false := hA.free _
    have hP1 := hA.put j 0 HUL.out (by decide) (.int .i64 (K)) ({ fn := K, pc := x.pc, locals := x.locals, stack := x.stack } : DFrame) (G2 ++ G3) HFJ.out (by rw [hseg]; exact (kFrame_Oi.2 ⟨v2, v3, G2, G3, rfl, rfl, o2, o3⟩))
    have hseg1 := (Knd.At.seg_set_same (d := kFrame) _ j 0 (.int .i64 (K)) (by decide)).trans (congrArg (fun z => z.set 0 (.int .i64 (K))) hseg)
    have o2_1 : kValue.Own 65 (wr.setCell ⟨g, j * 4, none⟩ (.int .i64 (K))) v2 x.locals G2 := o2.frame (fun q hq => Below.heap_setCell _ _ _ q (hne q (by simp [hq])))
    have o3_1 : kValue.Own 65 (wr.setCell ⟨g, j * 4, none⟩ (.int .i64 (K))) v3 x.stack G3 := o3.frame (fun q hq => Below.heap_setCell _ _ _ q (hne q (by simp [hq])))
    have hB1 := Knd.At.but_put hB (j * 4 + 0) (.int .i64 (K))
    have hP2 := hP1.put j 1 (by rw [List.length_set]; exact HUL.out) (by decide) (.int .i64 (K + 1)) ({ fn := K, pc := K + 1, locals := x.locals, stack := x.stack } : DFrame) (G2 ++ G3) HFJ.out (by rw [hseg1]; exact (kFrame_Oi.2 ⟨v2, v3, G2, G3, rfl, rfl, o2_1, o3_1⟩))
    rw [List.set_set] at hP2
    have hseg2 := (Knd.At.seg_set_same (d := kFrame) _ j 1 (.int .i64 (K + 1)) (by decide)).trans (congrArg (fun z => z.set 1 (.int .i64 (K + 1))) hseg1)
    have o2_2 : kValue.Own 65 ((wr.setCell ⟨g, j * 4, none⟩ (.int .i64 (K))).setCell ⟨g, j * 4 + 1, none⟩ (.int .i64 (K + 1))) v2 x.locals G2 := o2_1.frame (fun q hq => Below.heap_setCell _ _ _ q (hne q (by simp [hq])))
    have o3_2 : kValue.Own 65 ((wr.setCell ⟨g, j * 4, none⟩ (.int .i64 (K))).setCell ⟨g, j * 4 + 1, none⟩ (.int .i64 (K + 1))) v3 x.stack G3 := o3_1.frame (fun q hq => Below.heap_setCell _ _ _ q (hne q (by simp [hq])))
    have hB2 := Knd.At.but_put hB1 (j * 4 + 1) (.int .i64 (K + 1))
    have C3 := markValueS_c v2 x.locals (K + 1 + 1) G2 _ o2_2 hn2 (by omega) (by omega) hMx.1
    have cs2 : ((wr.setCell ⟨g, j * 4, none⟩ (.int .i64 (K))).setCell ⟨g, j * 4 + 1, none⟩ (.int .i64 (K + 1))).cell? ⟨g, j * 4 + 2, none⟩ = some v2 := hP2.cellj j 2 (by rw [List.length_set]; exact HUL.out) hseg2 rfl
    have HP := Lib.hid hP2
    have HG := Lib.hid hseg2
    have HBB := Lib.hid hB2
    have HO2 := Lib.hid o2_2
    have HO3 := Lib.hid o3_2
    try clear hA
    try clear hseg
    try clear hB
    try clear hP1
    try clear hP2
    try clear hP3
    try clear hseg1
    try clear hseg2
    try clear hseg3
    try clear hB1
    try clear hB2
    try clear hB3
    try clear o2
    try clear o3
    try clear o2_1
    try clear o2_2
    try clear o2_3
    try clear o3_1
    try clear o3_2
    try clear o3_3
    go_wp2_with fail
    refine C3.mono ?_
    rintro e w3 ⟨rfl, ho3, hBi3⟩
    clear C3 cs2
    have o3_3 := HO3.out.frame (fun q hq => hBi3.block q (HO3.out.lt q hq) (fun hm => hdj q hm q hq rfl))
    have hT3 := HP.out.turn j (by rw [List.length_set]; exact HUL.out) ({ fn := K, pc := K + 1, locals := mkL mkValue ctValue (K + 1 + 1) x.locals, stack := x.stack } : DFrame) (G2 ++ G3) G2 HFJ.out (fun q hq => by simp [hq]) hBi3 (by rw [HG.out]; exact (kFrame_Oi.2 ⟨v2, v3, G2, G3, rfl, rfl, ho3, o3_3⟩))
    rw [List.set_set] at hT3
    have hP3 := hT3
    have hseg3 := HG.out
    have hB3 := Knd.At.but_turn HBB.out HFJ.out (fun q hq => by simp [hq]) hBi3
    clear hT3 HP HG HBB HO2 HO3
    have hkz3 : 0 ≤ K + 1 + 1 + (ctL ctValue x.locals : Int) := by omega
    have C4 := markValueS_c v3 x.stack (K + 1 + 1 + ctL ctValue x.locals) G3 _ o3_3 hn3 (by omega) (by omega) hMx.2
    have cs3 : w3.cell? ⟨g, j * 4 + 3, none⟩ = some v3 := hP3.cellj j 3 (by rw [List.length_set]; exact HUL.out) hseg3 rfl
    have HP := Lib.hid hP3
    have HG := Lib.hid hseg3
    have HBB := Lib.hid hB3
    have HO2 := Lib.hid ho3
    have HO3 := Lib.hid o3_3
    try clear hA
    try clear hseg
    try clear hB
    try clear hP1
    try clear hP2
    try clear hP3
    try clear hP4
    try clear hseg1
    try clear hseg2
    try clear hseg3
    try clear hseg4
    try clear hB1
    try clear hB2
    try clear hB3
    try clear hB4
    try clear o2
    try clear o3
    try clear o2_1
    try clear o2_2
    try clear o2_3
    try clear o2_4
    try clear o3_1
    try clear o3_2
    try clear o3_3
    try clear o3_4
    go_wp2_with fail
    refine C4.mono ?_
    rintro e w4 ⟨rfl, ho4, hBi4⟩
    clear C4 cs3
    have o2_4 := HO2.out.frame (fun q hq => hBi4.block q (HO2.out.lt q hq) (fun hm => hdj q hq q hm rfl))
    have hT4 := HP.out.turn j (by rw [List.length_set]; exact HUL.out) ({ fn := K, pc := K + 1, locals := mkL mkValue ctValue (K + 1 + 1) x.locals, stack := mkL mkValue ctValue (K + 1 + 1 + ctL ctValue x.locals) x.stack } : DFrame) (G2 ++ G3) G3 HFJ.out (fun q hq => by simp [hq]) hBi4 (by rw [HG.out]; exact (kFrame_Oi.2 ⟨v2, v3, G2, G3, rfl, rfl, o2_4, ho4⟩))
    rw [List.set_set] at hT4
    have hP4 := hT4
    have hseg4 := HG.out
    have hB4 := Knd.At.but_turn HBB.out HFJ.out (fun q hq => by simp [hq]) hBi4
    clear hT4 HP HG HBB HO2 HO3
    have hkz4 : 0 ≤ K + 1 + 1 + ctL ctValue x.locals + (ctL ctValue x.stack : Int) := by omega
    have HP := Lib.hid hP4
    have HG := Lib.hid hseg4
    have HBB := Lib.hid hB4
    have HO2 := Lib.hid o2_4
    have HO3 := Lib.hid ho4
    try clear hA
    try clear hseg
    try clear hB
    try clear hP1
    try clear hP2
    try clear hP3
    try clear hP4
    try clear hseg1
    try clear hseg2
    try clear hseg3
    try clear hseg4
    try clear hB1
    try clear hB2
    try clear hB3
    try clear hB4
    try clear o2
    try clear o3
    try clear o2_1
    try clear o2_2
    try clear o2_3
    try clear o2_4
    try clear o3_1
    try clear o3_2
    try clear o3_3
    try clear o3_4
    go_wp2
    go_roundw
    case rel =>
      have h9 := HP.out
      rw [show ({ fn := K, pc := K + 1, locals := mkL mkValue ctValue (K + 1 + 1) x.locals, stack := mkL mkValue ctValue (K + 1 + 1 + ctL ctValue x.locals) x.stack } : DFrame) = mkFrame (k + ctL ctFrame (l.take j)) x from by rw [HK.out]; rfl, hset.out] at h9
      exact ⟨j + 1, _, by omega, by rw [hct.out, ← HK.out]; simp [ctFrame]; omega, by go_num, h9, HBB.out⟩
    case measure => simp [intOf]; omega
structure DVm where
  frames : List DFrame
  heap : List DRec
  made : Int
  out : List ByteArray
  status : Int
  trap : Int
  value : DValue
  steps : Int
/-- What is handed in meets this. -/
def VVm (x : DVm) : Prop := (x.frames.length ≤ maxLen ∧ ∀ y ∈ x.frames, VFrame y) ∧ (x.heap.length ≤ maxLen ∧ ∀ y ∈ x.heap, VRec y) ∧ (Lit.int .i64 x.made).wf = true ∧ (x.out.length ≤ maxLen ∧ ∀ y ∈ x.out, y.size ≤ maxLen) ∧ (Lit.int .i64 x.status).wf = true ∧ (Lit.int .i64 x.trap).wf = true ∧ VValue x.value ∧ (Lit.int .i64 x.steps).wf = true
def msVm (x : DVm) : Nat := sumOf msFrame x.frames + sumOf msRec x.heap + sumOf ByteArray.size x.out + msValue x.value
/-- What a small measure gives. -/
def MVm (x : DVm) : Prop := (x.frames.length ≤ 1048576 ∧ ∀ y ∈ x.frames, MFrame y) ∧ (x.heap.length ≤ 1048576 ∧ ∀ y ∈ x.heap, MRec y) ∧ (x.out.length ≤ 1048576 ∧ ∀ y ∈ x.out, y.size ≤ 1048576) ∧ MValue x.value
theorem MVm_of {x : DVm} (h : msVm x ≤ 1048576) : MVm x := by
  unfold msVm at h
  try simp only [sumOf] at h
  unfold MVm
  exact ⟨⟨by omega, fun y hy => by have h9 := mem_sum msFrame _ y hy; exact MFrame_of (by omega)⟩, ⟨by omega, fun y hy => by have h9 := mem_sum msRec _ y hy; exact MRec_of (by omega)⟩, ⟨by omega, fun y hy => by have h9 := mem_sum ByteArray.size _ y hy; exact (by omega)⟩, MValue_of (by omega)⟩
set_option maxHeartbeats 4000000 in
set_option maxRecDepth 100000 in
theorem szVm_c (A0 A1 A3 : Option Addr) (c0 c1 c3 : Nat) (x : DVm) (left : Int) (w : World) (r0 : kFrame.Row w A0 x.frames.length x.frames) (r1 : kRec.Row w A1 x.heap.length x.heap) (r3 : Knd.str.Row w A3 x.out.length x.out) (hV : VVm x) (h0 : 0 ≤ left) (h1 : left ≤ 1048576) : Calls Tryz.prog 29 #[.agg #[.slice A0 x.frames.length c0, .slice A1 x.heap.length c1, .int .i64 x.made, .slice A3 x.out.length c3, .int .i64 x.status, .int .i64 x.trap, .int .i64 x.value.k, .int .i64 x.value.n, .string x.value.s, .int .i64 x.steps], .int .i64 left] w fun e w' => e = .returned (.int .i64 (lft (msVm x) left)) ∧ Below w.heap.size w w' := by
  have hS := (St.start w).made (.cells #[.slice A0 x.frames.length c0, .slice A1 x.heap.length c1, .int .i64 x.made, .slice A3 x.out.length c3, .int .i64 x.status, .int .i64 x.trap, .int .i64 x.value.k, .int .i64 x.value.n, .string x.value.s, .int .i64 x.steps] 55 (0, 0))
  by_cases k0 : ((sumOf msFrame x.frames : Nat) : Int) ≤ left
  rotate_left
  · skip
    have C0 := szFrameS_c A0 c0 x.frames left
    rw [lft_gt (by omega)] at C0
    have HE := Lib.hid (show (-1 : Int) = lft (msVm x) left by unfold msVm; rw [lft_gt (by omega)])
    go_enter Tryz.func29, Tryz.ntmps29
    go_wp2_with fail
    refine (C0 _ (r0.below hS.bel) hV.1.1 hV.1.2 (by omega) (by omega)).mono ?_
    rintro e w1 ⟨rfl, hb⟩
    replace hS := hS.step hb
    have xb := hS.cell 0 rfl
    have yb := hS.blt 0 rfl
    clear hb
    go_wp2
    go_ret
    exact ⟨ret_int HE.out, hS.bel⟩
  by_cases k1 : ((sumOf msRec x.heap : Nat) : Int) ≤ left - (sumOf msFrame x.frames : Int)
  rotate_left
  · skip
    have C0 := szFrameS_c A0 c0 x.frames left
    rw [lft_le k0] at C0
    have C1 := szRecS_c A1 c1 x.heap (left - (sumOf msFrame x.frames : Int))
    rw [lft_gt (by omega)] at C1
    have g0 : 0 ≤ left - (sumOf msFrame x.frames : Int) := by omega
    have HE := Lib.hid (show (-1 : Int) = lft (msVm x) left by unfold msVm; rw [lft_gt (by omega)])
    go_enter Tryz.func29, Tryz.ntmps29
    go_wp2_with fail
    refine (C0 _ (r0.below hS.bel) hV.1.1 hV.1.2 (by omega) (by omega)).mono ?_
    rintro e w1 ⟨rfl, hb⟩
    replace hS := hS.step hb
    have xb := hS.cell 0 rfl
    have yb := hS.blt 0 rfl
    clear hb
    go_wp2_with fail
    refine (C1 _ (r1.below hS.bel) hV.2.1.1 hV.2.1.2 (by omega) (by omega)).mono ?_
    rintro e w2 ⟨rfl, hb⟩
    replace hS := hS.step hb
    have xb := hS.cell 0 rfl
    have yb := hS.blt 0 rfl
    clear hb
    go_wp2
    go_ret
    exact ⟨ret_int HE.out, hS.bel⟩
  by_cases k2 : ((sumOf ByteArray.size x.out : Nat) : Int) ≤ left - (sumOf msFrame x.frames : Int) - (sumOf msRec x.heap : Int)
  rotate_left
  · skip
    have C0 := szFrameS_c A0 c0 x.frames left
    rw [lft_le k0] at C0
    have C1 := szRecS_c A1 c1 x.heap (left - (sumOf msFrame x.frames : Int))
    rw [lft_le k1] at C1
    have C2 := szStringS_c A3 c3 x.out (left - (sumOf msFrame x.frames : Int) - (sumOf msRec x.heap : Int))
    rw [lft_gt (by omega)] at C2
    have g0 : 0 ≤ left - (sumOf msFrame x.frames : Int) := by omega
    have g1 : 0 ≤ left - (sumOf msFrame x.frames : Int) - (sumOf msRec x.heap : Int) := by omega
    have HE := Lib.hid (show (-1 : Int) = lft (msVm x) left by unfold msVm; rw [lft_gt (by omega)])
    go_enter Tryz.func29, Tryz.ntmps29
    go_wp2_with fail
    refine (C0 _ (r0.below hS.bel) hV.1.1 hV.1.2 (by omega) (by omega)).mono ?_
    rintro e w1 ⟨rfl, hb⟩
    replace hS := hS.step hb
    have xb := hS.cell 0 rfl
    have yb := hS.blt 0 rfl
    clear hb
    go_wp2_with fail
    refine (C1 _ (r1.below hS.bel) hV.2.1.1 hV.2.1.2 (by omega) (by omega)).mono ?_
    rintro e w2 ⟨rfl, hb⟩
    replace hS := hS.step hb
    have xb := hS.cell 0 rfl
    have yb := hS.blt 0 rfl
    clear hb
    go_wp2_with fail
    refine (C2 _ (r3.below hS.bel) hV.2.2.2.1.1 hV.2.2.2.1.2 (by omega) (by omega)).mono ?_
    rintro e w3 ⟨rfl, hb⟩
    replace hS := hS.step hb
    have xb := hS.cell 0 rfl
    have yb := hS.blt 0 rfl
    clear hb
    go_wp2
    go_ret
    exact ⟨ret_int HE.out, hS.bel⟩
  by_cases k3 : ((msValue x.value : Nat) : Int) ≤ left - (sumOf msFrame x.frames : Int) - (sumOf msRec x.heap : Int) - (sumOf ByteArray.size x.out : Int)
  rotate_left
  · skip
    have C0 := szFrameS_c A0 c0 x.frames left
    rw [lft_le k0] at C0
    have C1 := szRecS_c A1 c1 x.heap (left - (sumOf msFrame x.frames : Int))
    rw [lft_le k1] at C1
    have C2 := szStringS_c A3 c3 x.out (left - (sumOf msFrame x.frames : Int) - (sumOf msRec x.heap : Int))
    rw [lft_le k2] at C2
    have C3 := szValue_c   x.value (left - (sumOf msFrame x.frames : Int) - (sumOf msRec x.heap : Int) - (sumOf ByteArray.size x.out : Int))
    rw [lft_gt (by omega)] at C3
    have g0 : 0 ≤ left - (sumOf msFrame x.frames : Int) := by omega
    have g1 : 0 ≤ left - (sumOf msFrame x.frames : Int) - (sumOf msRec x.heap : Int) := by omega
    have g2 : 0 ≤ left - (sumOf msFrame x.frames : Int) - (sumOf msRec x.heap : Int) - (sumOf ByteArray.size x.out : Int) := by omega
    have HE := Lib.hid (show (-1 : Int) = lft (msVm x) left by unfold msVm; rw [lft_gt (by omega)])
    go_enter Tryz.func29, Tryz.ntmps29
    go_wp2_with fail
    refine (C0 _ (r0.below hS.bel) hV.1.1 hV.1.2 (by omega) (by omega)).mono ?_
    rintro e w1 ⟨rfl, hb⟩
    replace hS := hS.step hb
    have xb := hS.cell 0 rfl
    have yb := hS.blt 0 rfl
    clear hb
    go_wp2_with fail
    refine (C1 _ (r1.below hS.bel) hV.2.1.1 hV.2.1.2 (by omega) (by omega)).mono ?_
    rintro e w2 ⟨rfl, hb⟩
    replace hS := hS.step hb
    have xb := hS.cell 0 rfl
    have yb := hS.blt 0 rfl
    clear hb
    go_wp2_with fail
    refine (C2 _ (r3.below hS.bel) hV.2.2.2.1.1 hV.2.2.2.1.2 (by omega) (by omega)).mono ?_
    rintro e w3 ⟨rfl, hb⟩
    replace hS := hS.step hb
    have xb := hS.cell 0 rfl
    have yb := hS.blt 0 rfl
    clear hb
    go_wp2_with fail
    refine (C3 _ hV.2.2.2.2.2.2.1 (by omega) (by omega)).mono ?_
    rintro e w4 ⟨rfl, hb⟩
    replace hS := hS.step hb
    have xb := hS.cell 0 rfl
    have yb := hS.blt 0 rfl
    clear hb
    go_wp2
    go_ret
    exact ⟨ret_int HE.out, hS.bel⟩
  have C0 := szFrameS_c A0 c0 x.frames left
  rw [lft_le k0] at C0
  have C1 := szRecS_c A1 c1 x.heap (left - (sumOf msFrame x.frames : Int))
  rw [lft_le k1] at C1
  have C2 := szStringS_c A3 c3 x.out (left - (sumOf msFrame x.frames : Int) - (sumOf msRec x.heap : Int))
  rw [lft_le k2] at C2
  have C3 := szValue_c   x.value (left - (sumOf msFrame x.frames : Int) - (sumOf msRec x.heap : Int) - (sumOf ByteArray.size x.out : Int))
  rw [lft_le k3] at C3
  have g0 : 0 ≤ left - (sumOf msFrame x.frames : Int) := by omega
  have g1 : 0 ≤ left - (sumOf msFrame x.frames : Int) - (sumOf msRec x.heap : Int) := by omega
  have g2 : 0 ≤ left - (sumOf msFrame x.frames : Int) - (sumOf msRec x.heap : Int) - (sumOf ByteArray.size x.out : Int) := by omega
  have g3 : 0 ≤ left - (sumOf msFrame x.frames : Int) - (sumOf msRec x.heap : Int) - (sumOf ByteArray.size x.out : Int) - (msValue x.value : Int) := by omega
  have HE := Lib.hid (show left - (sumOf msFrame x.frames : Int) - (sumOf msRec x.heap : Int) - (sumOf ByteArray.size x.out : Int) - (msValue x.value : Int) = lft (msVm x) left by unfold msVm; rw [lft_le (by omega)]; omega)
  go_enter Tryz.func29, Tryz.ntmps29
  go_wp2_with fail
  refine (C0 _ (r0.below hS.bel) hV.1.1 hV.1.2 (by omega) (by omega)).mono ?_
  rintro e w1 ⟨rfl, hb⟩
  replace hS := hS.step hb
  have xb := hS.cell 0 rfl
  have yb := hS.blt 0 rfl
  clear hb
  go_wp2_with fail
  refine (C1 _ (r1.below hS.bel) hV.2.1.1 hV.2.1.2 (by omega) (by omega)).mono ?_
  rintro e w2 ⟨rfl, hb⟩
  replace hS := hS.step hb
  have xb := hS.cell 0 rfl
  have yb := hS.blt 0 rfl
  clear hb
  go_wp2_with fail
  refine (C2 _ (r3.below hS.bel) hV.2.2.2.1.1 hV.2.2.2.1.2 (by omega) (by omega)).mono ?_
  rintro e w3 ⟨rfl, hb⟩
  replace hS := hS.step hb
  have xb := hS.cell 0 rfl
  have yb := hS.blt 0 rfl
  clear hb
  go_wp2_with fail
  refine (C3 _ hV.2.2.2.2.2.2.1 (by omega) (by omega)).mono ?_
  rintro e w4 ⟨rfl, hb⟩
  replace hS := hS.step hb
  have xb := hS.cell 0 rfl
  have yb := hS.blt 0 rfl
  clear hb
  go_wp2
  go_ret
  exact ⟨ret_int HE.out, hS.bel⟩
set_option maxHeartbeats 4000000 in
set_option maxRecDepth 100000 in
theorem toVm_c (A0 A1 A3 : Option Addr) (c0 c1 c3 : Nat) (x : DVm) (w : World) (r0 : kFrame.Row w A0 x.frames.length x.frames) (r1 : kRec.Row w A1 x.heap.length x.heap) (r3 : Knd.str.Row w A3 x.out.length x.out) (hM : MVm x) : Calls Tryz.prog 31 #[.agg #[.slice A0 x.frames.length c0, .slice A1 x.heap.length c1, .int .i64 x.made, .slice A3 x.out.length c3, .int .i64 x.status, .int .i64 x.trap, .int .i64 x.value.k, .int .i64 x.value.n, .string x.value.s, .int .i64 x.steps]] w (fun en w' => ∃ (v0 v1 v3 : Value) (F0 F1 F3 : List Nat), en = .returned (.agg #[v0, v1, .int .i64 x.made, v3, .int .i64 x.status, .int .i64 x.trap, .int .i64 x.value.k, .int .i64 x.value.n, .string x.value.s, .int .i64 x.steps]) ∧ St w [Res.own kFrame 145 v0 x.frames F0, Res.own kRec 148 v1 x.heap F1, Res.own Knd.str 9 v3 x.out F3] w') := by
  go_enter Tryz.func31, Tryz.ntmps31
  go_wp2_with fail
  refine (toFrameS_c A0 c0 x.frames _ (r0.below bl9) hM.1).mono ?_
  rintro e w1 ⟨v0, F0, rfl, ho0, hnd0, hF0, hb1⟩
  obtain ⟨Av0, cv0, rfl, _, _⟩ := ho0.row
  obtain ⟨hc1, hf1⟩ := bcell hb1
  have hz1 := hb1.size
  simp at hz1
  have y10 : w.heap.size < w1.heap.size := by omega
  have y11 : w.heap.size + 1 < w1.heap.size := by omega
  have y12 : w.heap.size + 1 + 1 < w1.heap.size := by omega
  have hG0 : ∀ g ∈ F0, w.heap.size + 3 ≤ g := fun g hg => by have := hF0 g hg; simp at this; omega
  have hl0 := ho0.lt
  have hW1 : Below w.heap.size w w1 := bl9
  go_wp2_with fail
  refine (toRecS_c A1 c1 x.heap _ (r1.below bl9) hM.2.1).mono ?_
  rintro e w2 ⟨v1, F1, rfl, ho1, hnd1, hF1, hb2⟩
  obtain ⟨Av1, cv1, rfl, _, _⟩ := ho1.row
  obtain ⟨hc2, hf2⟩ := bcell hb2
  have hz2 := hb2.size
  simp at hz2
  have y20 : w.heap.size < w2.heap.size := by omega
  have y21 : w.heap.size + 1 < w2.heap.size := by omega
  have y22 : w.heap.size + 1 + 1 < w2.heap.size := by omega
  have hG1 : ∀ g ∈ F1, w.heap.size + 3 ≤ g := fun g hg => by have := hF1 g hg; simp at this; omega
  have hl1 := ho1.lt
  have hd1_0 : ∀ g ∈ F1, g ∉ F0 := fun g hg hm => by have h8 := hl0 g hm; have h9 := hF1 g hg; simp at h9; omega
  have hW2 : Below w.heap.size w w2 := bl9
  go_wp2_with fail
  refine (toStringS_c A3 c3 x.out _ (r3.below bl9) hM.2.2.1).mono ?_
  rintro e w3 ⟨v3, F3, rfl, ho3, hnd3, hF3, hb3⟩
  obtain ⟨Av3, cv3, rfl, _, _⟩ := ho3.row
  obtain ⟨hc3, hf3⟩ := bcell hb3
  have hz3 := hb3.size
  simp at hz3
  have y30 : w.heap.size < w3.heap.size := by omega
  have y31 : w.heap.size + 1 < w3.heap.size := by omega
  have y32 : w.heap.size + 1 + 1 < w3.heap.size := by omega
  have hG3 : ∀ g ∈ F3, w.heap.size + 3 ≤ g := fun g hg => by have := hF3 g hg; simp at this; omega
  have hl3 := ho3.lt
  have hd3_0 : ∀ g ∈ F3, g ∉ F0 := fun g hg hm => by have h8 := hl0 g hm; have h9 := hF3 g hg; simp at h9; omega
  have hd3_1 : ∀ g ∈ F3, g ∉ F1 := fun g hg hm => by have h8 := hl1 g hm; have h9 := hF3 g hg; simp at h9; omega
  have hW3 : Below w.heap.size w w3 := bl9
  go_wp2_with fail
  refine (toValue_c x.value _).mono ?_
  rintro e w4 ⟨rfl, hb4⟩
  obtain ⟨hc4, hf4⟩ := bcell hb4
  have hz4 := hb4.size
  simp at hz4
  have y40 : w.heap.size < w4.heap.size := by omega
  have y41 : w.heap.size + 1 < w4.heap.size := by omega
  have y42 : w.heap.size + 1 + 1 < w4.heap.size := by omega
  have hW4 : Below w.heap.size w w4 := bl9
  go_wp2
  refine bodyPost_ret (v := .agg #[.slice Av0 x.frames.length cv0, .slice Av1 x.heap.length cv1, .int .i64 x.made, .slice Av3 x.out.length cv3, .int .i64 x.status, .int .i64 x.trap, .int .i64 x.value.k, .int .i64 x.value.n, .string x.value.s, .int .i64 x.steps]) (by simp [results, Tryz.results31, go_sem, *]) rfl ⟨_, _, _, F0, F1, F3, rfl, ?_⟩
  refine St.cons (St.cons (St.cons (St.bare bl9) ?_ hnd3 (fun g hg => by have := hG3 g hg; omega) (by simp)) ?_ hnd1 (fun g hg => by have := hG1 g hg; omega) (by simp only [List.forall_mem_cons]; exact ⟨fun g hg hm => hd3_1 g hm hg, by simp⟩)) ?_ hnd0 (fun g hg => by have := hG0 g hg; omega) (by simp only [List.forall_mem_cons]; exact ⟨fun g hg hm => hd1_0 g hm hg, fun g hg hm => hd3_0 g hm hg, by simp⟩)
  · show Knd.str.Own 9 _ _ _ _
    repeat (first | (with_reducible exact ho3) | (refine Knd.Own.set_old ?_ hG3 (by dsimp only; omega) _) | (refine Knd.Own.below ?_ hb4) | (refine Knd.Own.below ?_ hb3) | (refine Knd.Own.below ?_ hb2) | (refine Knd.Own.below ?_ hb1))
  · show kRec.Own 148 _ _ _ _
    repeat (first | (with_reducible exact ho1) | (refine Knd.Own.set_old ?_ hG1 (by dsimp only; omega) _) | (refine Knd.Own.below ?_ hb4) | (refine Knd.Own.below ?_ hb3) | (refine Knd.Own.below ?_ hb2) | (refine Knd.Own.below ?_ hb1))
  · show kFrame.Own 145 _ _ _ _
    repeat (first | (with_reducible exact ho0) | (refine Knd.Own.set_old ?_ hG0 (by dsimp only; omega) _) | (refine Knd.Own.below ?_ hb4) | (refine Knd.Own.below ?_ hb3) | (refine Knd.Own.below ?_ hb2) | (refine Knd.Own.below ?_ hb1))
set_option maxHeartbeats 4000000 in
set_option maxRecDepth 100000 in
theorem eqVm_c (A0 A1 A3 : Option Addr) (c0 c1 c3 : Nat) (A0z A1z A3z : Option Addr) (c0z c1z c3z : Nat) (x : DVm) (w : World) (r0 : kFrame.Row w A0 x.frames.length x.frames) (r1 : kRec.Row w A1 x.heap.length x.heap) (r3 : Knd.str.Row w A3 x.out.length x.out) (r0z : kFrame.Row w A0z x.frames.length x.frames) (r1z : kRec.Row w A1z x.heap.length x.heap) (r3z : Knd.str.Row w A3z x.out.length x.out) : Calls Tryz.prog 33 #[.agg #[.slice A0 x.frames.length c0, .slice A1 x.heap.length c1, .int .i64 x.made, .slice A3 x.out.length c3, .int .i64 x.status, .int .i64 x.trap, .int .i64 x.value.k, .int .i64 x.value.n, .string x.value.s, .int .i64 x.steps], .agg #[.slice A0z x.frames.length c0z, .slice A1z x.heap.length c1z, .int .i64 x.made, .slice A3z x.out.length c3z, .int .i64 x.status, .int .i64 x.trap, .int .i64 x.value.k, .int .i64 x.value.n, .string x.value.s, .int .i64 x.steps]] w fun e w' => e = .returned (.bool true) ∧ Below w.heap.size w w' := by
  have hS := ((St.start w).made (.cells #[.slice A0 x.frames.length c0, .slice A1 x.heap.length c1, .int .i64 x.made, .slice A3 x.out.length c3, .int .i64 x.status, .int .i64 x.trap, .int .i64 x.value.k, .int .i64 x.value.n, .string x.value.s, .int .i64 x.steps] 67 (0, 0))).madeAt (.cells #[.slice A0z x.frames.length c0z, .slice A1z x.heap.length c1z, .int .i64 x.made, .slice A3z x.out.length c3z, .int .i64 x.status, .int .i64 x.trap, .int .i64 x.value.k, .int .i64 x.value.n, .string x.value.s, .int .i64 x.steps] 67 (0, 0)) (w.heap.size + 1) (by simp)
  go_enter Tryz.func33, Tryz.ntmps33
  go_wp2_with fail
  refine (eqFrameS_c A0 A0z c0 c0z x.frames _ (r0.below hS.bel) (r0z.below hS.bel)).mono ?_
  rintro e w1 ⟨rfl, hb⟩
  replace hS := hS.step hb
  have xb := hS.cell 0 rfl
  have xa := hS.cell 1 rfl
  have yb := hS.blt 0 rfl
  have ya := hS.blt 1 rfl
  clear hb
  go_wp2_with fail
  refine (eqRecS_c A1 A1z c1 c1z x.heap _ (r1.below hS.bel) (r1z.below hS.bel)).mono ?_
  rintro e w2 ⟨rfl, hb⟩
  replace hS := hS.step hb
  have xb := hS.cell 0 rfl
  have xa := hS.cell 1 rfl
  have yb := hS.blt 0 rfl
  have ya := hS.blt 1 rfl
  clear hb
  go_wp2_with fail
  refine (eqStringS_c A3 A3z c3 c3z x.out _ (r3.below hS.bel) (r3z.below hS.bel)).mono ?_
  rintro e w3 ⟨rfl, hb⟩
  replace hS := hS.step hb
  have xb := hS.cell 0 rfl
  have xa := hS.cell 1 rfl
  have yb := hS.blt 0 rfl
  have ya := hS.blt 1 rfl
  clear hb
  go_wp2_with fail
  refine (eqValue_c x.value _).mono ?_
  rintro e w4 ⟨rfl, hb⟩
  replace hS := hS.step hb
  have xb := hS.cell 0 rfl
  have xa := hS.cell 1 rfl
  have yb := hS.blt 0 rfl
  have ya := hS.blt 1 rfl
  clear hb
  go_wp2
  go_ret
  exact ⟨rfl, hS.bel⟩
set_option maxHeartbeats 4000000 in
set_option maxRecDepth 100000 in
theorem markVm_c (x : DVm) (v0 v1 v3 : Value) (F0 F1 F3 : List Nat) (k : Int) (w W : World) (L : List Res) (hS : St w L W) (n0 : Nat) (i0 : L[n0]? = some (Res.own kFrame 145 v0 x.frames F0)) (n1 : Nat) (i1 : L[n1]? = some (Res.own kRec 148 v1 x.heap F1)) (n3 : Nat) (i3 : L[n3]? = some (Res.own Knd.str 9 v3 x.out F3)) (ne0_1 : n0 ≠ n1) (ne0_3 : n0 ≠ n3) (ne1_3 : n1 ≠ n3) (h0 : 0 ≤ k) (h1 : k + ctL ctFrame x.frames + ctL ctRec x.heap + ctL (fun _ => 1) x.out ≤ 1152921504606846976) (hM : MVm x) :
    Calls Tryz.prog 37 #[.agg #[v0, v1, .int .i64 x.made, v3, .int .i64 x.status, .int .i64 x.trap, .int .i64 x.value.k, .int .i64 x.value.n, .string x.value.s, .int .i64 x.steps], .int .i64 k] W fun e w' => e = .returned (.int .i64 (k + ctL ctFrame x.frames + ctL ctRec x.heap + ctL (fun _ => 1) x.out)) ∧ St w ((((L.set n0 (Res.own kFrame 145 v0 (mkL mkFrame ctFrame (k) x.frames) F0)).set n1 (Res.own kRec 148 v1 (mkL mkRec ctRec (k + ctL ctFrame x.frames) x.heap) F1)).set n3 (Res.own Knd.str 9 v3 (mkL mkStr (fun _ => 1) (k + ctL ctFrame x.frames + ctL ctRec x.heap) x.out) F3))) w' := by
  obtain ⟨A0, c0, hv0, _, _⟩ := hS.row n0 i0
  subst hv0
  obtain ⟨A1, c1, hv1, _, _⟩ := hS.row n1 i1
  subst hv1
  obtain ⟨A3, c3, hv3, _, _⟩ := hS.row n3 i3
  subst hv3
  have hS0 := hS.made (.cells #[.slice A0 x.frames.length c0, .slice A1 x.heap.length c1, .int .i64 x.made, .slice A3 x.out.length c3, .int .i64 x.status, .int .i64 x.trap, .int .i64 x.value.k, .int .i64 x.value.n, .string x.value.s, .int .i64 x.steps] 67 (0, 0))
  go_enter Tryz.func37, Tryz.ntmps37
  have j0 : (Res.box W.heap.size (.cells #[.slice A0 x.frames.length c0, .slice A1 x.heap.length c1, .int .i64 x.made, .slice A3 x.out.length c3, .int .i64 x.status, .int .i64 x.trap, .int .i64 x.value.k, .int .i64 x.value.n, .string x.value.s, .int .i64 x.steps] 67 (0, 0)) :: L)[n0 + 1]? = some (Res.own kFrame 145 (.slice A0 x.frames.length c0) x.frames F0) := by
    rw [List.getElem?_cons_succ]
    exact i0
  go_wp2_with fail
  refine (markFrameS_c _ x.frames (k) F0 _ (St.own_ hS0 _ j0) (hS0.nodup _ j0) (by omega) (by omega) hM.1).mono ?_
  rintro e w1 ⟨rfl, ho, hB⟩
  try clear x_b
  have hnd : F0.Nodup := hS0.nodup _ j0
  replace hS0 := hS0.upd (r' := Res.own kFrame 145 _ (mkL mkFrame ctFrame (k) x.frames) F0) _ j0 hB ho hnd (fun q hq => .inl hq)
  rw [List.set_cons_succ] at hS0
  have x_b := hS0.cell 0 rfl
  clear ho hB hnd j0
  have j1 : (Res.box W.heap.size (.cells #[.slice A0 x.frames.length c0, .slice A1 x.heap.length c1, .int .i64 x.made, .slice A3 x.out.length c3, .int .i64 x.status, .int .i64 x.trap, .int .i64 x.value.k, .int .i64 x.value.n, .string x.value.s, .int .i64 x.steps] 67 (0, 0)) :: (L.set n0 (Res.own kFrame 145 (.slice A0 x.frames.length c0) (mkL mkFrame ctFrame (k) x.frames) F0)))[n1 + 1]? = some (Res.own kRec 148 (.slice A1 x.heap.length c1) x.heap F1) := by
    rw [List.getElem?_cons_succ, List.getElem?_set_ne ne0_1]
    exact i1
  go_wp2_with fail
  refine (markRecS_c _ x.heap (k + ctL ctFrame x.frames) F1 _ (St.own_ hS0 _ j1) (hS0.nodup _ j1) (by omega) (by omega) hM.2.1).mono ?_
  rintro e w2 ⟨rfl, ho, hB⟩
  try clear x_b
  have hnd : F1.Nodup := hS0.nodup _ j1
  replace hS0 := hS0.upd (r' := Res.own kRec 148 _ (mkL mkRec ctRec (k + ctL ctFrame x.frames) x.heap) F1) _ j1 hB ho hnd (fun q hq => .inl hq)
  rw [List.set_cons_succ] at hS0
  have x_b := hS0.cell 0 rfl
  clear ho hB hnd j1
  have j3 : (Res.box W.heap.size (.cells #[.slice A0 x.frames.length c0, .slice A1 x.heap.length c1, .int .i64 x.made, .slice A3 x.out.length c3, .int .i64 x.status, .int .i64 x.trap, .int .i64 x.value.k, .int .i64 x.value.n, .string x.value.s, .int .i64 x.steps] 67 (0, 0)) :: ((L.set n0 (Res.own kFrame 145 (.slice A0 x.frames.length c0) (mkL mkFrame ctFrame (k) x.frames) F0)).set n1 (Res.own kRec 148 (.slice A1 x.heap.length c1) (mkL mkRec ctRec (k + ctL ctFrame x.frames) x.heap) F1)))[n3 + 1]? = some (Res.own Knd.str 9 (.slice A3 x.out.length c3) x.out F3) := by
    rw [List.getElem?_cons_succ, List.getElem?_set_ne ne1_3, List.getElem?_set_ne ne0_3]
    exact i3
  go_wp2_with fail
  refine (markStringS_c _ x.out (k + ctL ctFrame x.frames + ctL ctRec x.heap) F3 _ (St.own_ hS0 _ j3) (hS0.nodup _ j3) (by omega) (by omega) hM.2.2.1).mono ?_
  rintro e w3 ⟨rfl, ho, hB⟩
  try clear x_b
  have hnd : F3.Nodup := hS0.nodup _ j3
  replace hS0 := hS0.upd (r' := Res.own Knd.str 9 _ (mkL mkStr (fun _ => 1) (k + ctL ctFrame x.frames + ctL ctRec x.heap) x.out) F3) _ j3 hB ho hnd (fun q hq => .inl hq)
  rw [List.set_cons_succ] at hS0
  have x_b := hS0.cell 0 rfl
  clear ho hB hnd j3
  go_wp2
  go_ret
  exact ⟨rfl, hS0.drop⟩
end Go.Proofs.YthinhlcfpaaldaaGreat.Dat

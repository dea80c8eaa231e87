/- Thread: what it computes. -/
import Derived.Test.YticlknijmnddeaaHole
import Derived.Test.YticlknijmnddeaaK3
namespace Go.Proofs.Yticlknijmnddeaa.Dat
open Go Go.RowKit Go.Proofs.Yticlknijmnddeaa.Mem
set_option linter.unusedVariables false
set_option linter.unusedSimpArgs false
def insOf (c : List DIns) (i : Nat) : DIns := c.getD i ⟨0, 0⟩
theorem insOf_get {c : List DIns} {i : Nat} {x : DIns} (h : c[i]? = some x) : insOf c i = x := by
  unfold insOf
  rw [List.getD_eq_getElem?_getD, h]
  rfl
/-- The jump at i leads to a jump that always goes. -/
def jc (c : List DIns) (i : Nat) : Bool := isJmp (insOf c i).op && decide ((insOf c (insOf c i).a.toNat).op = 17)
def stp (c : List DIns) (i : Nat) : List DIns := c.set i ⟨(insOf c i).op, (insOf c (insOf c i).a.toNat).a⟩
def thr (c : List DIns) (i : Nat) : Nat → List DIns
  | 0 => c
  | n + 1 => if jc c i = true then thr (stp c i) i n else c
def thrTo (c : List DIns) : Nat → List DIns
  | 0 => c
  | i + 1 => thr (thrTo c i) i 120
/-- Every jump leads into the code. -/
def JOk (c : List DIns) : Prop := ∀ x ∈ c, isJmp x.op = true → 0 ≤ x.a ∧ x.a < c.length
theorem isJmp_btw {op : Int} (h : isJmp op = true) : btw op 17 19 = true := by
  unfold isJmp at h
  simpa using h
theorem isJmp_17 : isJmp 17 = true := by decide
theorem stp_len (c : List DIns) (i : Nat) : (stp c i).length = c.length := by unfold stp; rw [List.length_set]
theorem thr_len : ∀ (n : Nat) (c : List DIns) (i : Nat), (thr c i n).length = c.length
  | 0, _, _ => rfl
  | n + 1, c, i => by
    unfold thr
    split
    · rw [thr_len n, stp_len]
    · rfl
theorem thrTo_len (c : List DIns) : ∀ i, (thrTo c i).length = c.length
  | 0 => rfl
  | i + 1 => by unfold thrTo; rw [thr_len, thrTo_len c i]
theorem JOk.stp {c : List DIns} {i : Nat} (h : JOk c) (hi : i < c.length) (hj : jc c i = true) : JOk (stp c i) := by
  unfold jc at hj
  rw [Bool.and_eq_true, decide_eq_true_eq] at hj
  intro x hx hxj
  rw [stp_len]
  unfold Dat.stp at hx
  rcases List.mem_or_eq_of_mem_set hx with hx | rfl
  · exact h x hx hxj
  · have hm : insOf c i ∈ c := by
      rw [insOf_get (List.getElem?_eq_getElem hi)]
      exact List.getElem_mem hi
    obtain ⟨h1, h2⟩ := h _ hm hj.1
    have hlt : (insOf c i).a.toNat < c.length := by omega
    have hm2 : insOf c (insOf c i).a.toNat ∈ c := by
      rw [insOf_get (List.getElem?_eq_getElem hlt)]
      exact List.getElem_mem hlt
    exact h (insOf c (insOf c i).a.toNat) hm2 (by rw [hj.2]; rfl)
theorem JOk.thr : ∀ (n : Nat) {c : List DIns} {i : Nat}, JOk c → i < c.length → JOk (thr c i n)
  | 0, _, _, h, _ => h
  | n + 1, c, i, h, hi => by
    unfold Dat.thr
    split
    · rename_i hj
      exact JOk.thr n (h.stp hi hj) (by rw [stp_len]; exact hi)
    · exact h
theorem thr_no {c : List DIns} {i : Nat} (h : jc c i = false) : ∀ n, thr c i n = c
  | 0 => rfl
  | n + 1 => by unfold thr; rw [h]; rfl
theorem thr_yes {c : List DIns} {i n : Nat} (h : jc c i = true) : thr c i (n + 1) = thr (stp c i) i n := by
  rw [thr, if_pos h]
def thF (x : DFunc) : DFunc := ⟨x.params, x.locals, thrTo x.code x.code.length⟩
def threadT (t : List ByteArray) (l : List DFunc) : List ByteArray := if isGoodB t l = true then t else []
def threadF (t : List ByteArray) (l : List DFunc) : List DFunc := if isGoodB t l = true then l.map thF else []
theorem thread_small (t : List ByteArray) (l : List DFunc) : (threadT t l).length ≤ 1048576 ∧ (threadF t l).length ≤ 1048576 ∧ ∀ x ∈ threadF t l, x.code.length ≤ 1048576 := by
  unfold threadT threadF
  split
  · rename_i h
    have hf := modFit (isGood_mod h)
    have h1 := hf.n12
    have h2 := hf.t20
    refine ⟨by omega, by rw [List.length_map]; omega, fun x hx => ?_⟩
    obtain ⟨y, hy, rfl⟩ := List.mem_map.1 hx
    have := hf.c120 y hy
    unfold thF
    dsimp only
    rw [thrTo_len]
    omega
  · exact ⟨by simp, by simp, fun x hx => by simp at hx⟩
theorem jok_of {t : List ByteArray} {l : List DFunc} (h : ModFit t l) {y : DFunc} (hy : y ∈ l) : JOk y.code := by
  intro x hx hj
  have h1 := (h.fit hy hx).jmp (isJmp_btw hj)
  omega
/-- The functions, the first k of them threaded. -/
theorem map_step {l : List DFunc} {k : Nat} {x : DFunc} (h : l[k]? = some x) : ((l.take k).map thF ++ l.drop k).set k (thF x) = (l.take (k + 1)).map thF ++ l.drop (k + 1) := by
  have hk : k < l.length := (List.getElem?_eq_some_iff.1 h).1
  have e : l[k] = x := (List.getElem?_eq_some_iff.1 h).2
  rw [List.set_append_right _ _ (by simp; omega)]
  have e1 : k - ((l.take k).map thF).length = 0 := by simp; omega
  rw [e1, List.drop_eq_getElem_cons hk, List.set_cons_zero, List.take_add_one, h]
  simp
theorem map_get {l : List DFunc} {k : Nat} {x : DFunc} (h : l[k]? = some x) : ((l.take k).map thF ++ l.drop k)[k]? = some x := by
  have hk : k < l.length := (List.getElem?_eq_some_iff.1 h).1
  rw [List.getElem?_append_right (by simp; omega)]
  have e1 : k - ((l.take k).map thF).length = 0 := by simp; omega
  rw [e1, List.getElem?_drop]
  exact h
theorem thrTo_ok {c : List DIns} (h : JOk c) : ∀ i, i ≤ c.length → JOk (thrTo c i)
  | 0, _ => h
  | i + 1, hi => by
    unfold thrTo
    exact JOk.thr 120 (thrTo_ok h i (by omega)) (by rw [thrTo_len]; omega)
theorem jmp_no {op : Int} (h : isJmp op = false) : op ≠ 17 ∧ op ≠ 18 ∧ op ≠ 19 := by
  refine ⟨fun e => ?_, fun e => ?_, fun e => ?_⟩ <;> (subst e; revert h; decide)
theorem jmp_yes {op : Int} (h : isJmp op = true) : op = 17 ∨ op = 18 ∨ op = 19 := by
  unfold isJmp at h
  rw [btw_true] at h
  omega
theorem insOf_set {c : List DIns} {i : Nat} {x : DIns} (h : i < c.length) : insOf (c.set i x) i = x := insOf_get (List.getElem?_set_self h)
theorem St.insAt {w W : World} {L : List Res} (h : St w L W) (q : Nat) {g n c : Nat} {C : List DIns} {F : List Nat} (hq : L[q]? = some (Res.own kIns 92 (.slice (some ⟨g, 0, none⟩) n c) C F)) (i : Nat) (x : DIns) (hx : C[i]? = some x) : W.cell? ⟨g, i * 2, none⟩ = some (.int .i64 x.op) ∧ W.cell? ⟨g, i * 2 + 1, none⟩ = some (.int .i64 x.a) ∧ W.frozen? ⟨g, i * 2 + 1, none⟩ = false := by
  obtain ⟨ad, e, h0, h1⟩ := kIns_at (St.rowA h q hq) i x hx
  cases e
  have e1 : (Addr.mk g 0 none).add (i * 2) = ⟨g, i * 2, none⟩ := by
    simp [Addr.add]
    intro h
    omega
  rw [e1] at h0 h1
  exact ⟨h0, h1, (St.cellK h q hq).2 _⟩
theorem St.insSetA {w W : World} {L : List Res} (h : St w L W) (q : Nat) {g n c : Nat} {C : List DIns} {F : List Nat} (hq : L[q]? = some (Res.own kIns 92 (.slice (some ⟨g, 0, none⟩) n c) C F)) (i : Nat) (x : DIns) (hx : C[i]? = some x) (a : Int) :
    St w (L.set q (Res.own kIns 92 (.slice (some ⟨g, 0, none⟩) n c) (C.set i ⟨x.op, a⟩) F)) (W.setCell ⟨g, i * 2 + 1, none⟩ (.int .i64 a)) := by
  have hi : i < C.length := (List.getElem?_eq_some_iff.1 hx).1
  have hnd := h.nodup q hq
  obtain ⟨Fs, hF, rfl⟩ := Knd.Own.fs (h.get q hq)
  obtain ⟨inner, hA⟩ := hF.toAt (by have h9 : ([g] ++ Fs.flatten).Nodup := hnd; simpa using h9)
  obtain ⟨Fj, hFj, hO, _⟩ := hA.elem i x hx
  obtain ⟨hseg, hFn⟩ := kIns_Oi.1 hO
  have hP := hA.put i 1 hi (by decide) (.int .i64 a) (⟨x.op, a⟩ : DIns) Fj hFj (by rw [hseg]; exact kIns_Oi.2 ⟨rfl, hFn⟩)
  have h1 := hP.ownF.own
  have hnd2 := h.nodup q hq
  exact h.upd (r' := Res.own kIns 92 (.slice (some ⟨g, 0, none⟩) n c) (C.set i ⟨x.op, a⟩) _) q hq ((But.refl _ _).set (by simp [Value.ownBlock, Res.own]) _ _) h1 (by exact hnd2) (fun p hp => .inl hp)
/-- What a law asks of a module that is handed back. -/
theorem NewMod.post {t : List ByteArray} {l : List DFunc} {w w' : World} {en : Ending} (h : NewMod t l w en w') : ∃ (v u : Value) (F G : List Nat), en = .returned (.agg #[v, u]) ∧ Knd.str.Own 9 w' v t F ∧ kFunc.Own 89 w' u l G ∧ (F ++ G).Nodup ∧ (∀ g ∈ F ++ G, w.heap.size ≤ g) ∧ Below w.heap.size w w' := by
  obtain ⟨v, u, F, G, rfl, hS⟩ := h
  refine ⟨v, u, F, G, rfl, hS.get 0 rfl, hS.get 1 rfl, hS.nodup2, fun g hg => ?_, hS.bel⟩
  rcases List.mem_append.1 hg with hg | hg
  · exact hS.olds 0 rfl g hg
  · exact hS.olds 1 rfl g hg
end Go.Proofs.Yticlknijmnddeaa.Dat

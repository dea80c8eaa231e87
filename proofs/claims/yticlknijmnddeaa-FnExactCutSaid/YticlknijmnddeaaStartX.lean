/- Start, in the program. -/
import Derived.Test.YticlknijmnddeaaCat
import Derived.Test.YticlknijmnddeaaArgs
import Derived.Test.YticlknijmnddeaaK4
namespace Go.Proofs.Yticlknijmnddeaa.Mem
open Go Go.RowKit
set_option linter.unusedVariables false
set_option linter.unusedSimpArgs false
namespace St
variable {w W W' : World} {L : List Res}
/-- An empty row that is nil. -/
theorem nil_ {α : Type} (d : Knd α) (e : Nat) (h : St w L W) : St w (Res.own d e (.slice none 0 0) [] [] :: L) W := h.new (Below.refl _ _) (Knd.Own.nil _ _ _) (by simp [Res.own]) (by simp [Res.own])
/-- One record, laid as a row. -/
theorem one {α : Type} {d : Knd α} {x : α} {cs : Array Value} {F : List Nat} (e : Nat) (h : St w (Res.agg d x cs.toList F :: L) W) : St w (Res.own d e (.slice (some ⟨W.heap.size, 0, none⟩) 1 1) [x] (W.heap.size :: F) :: L) (W.alloc (.cells cs e (0, 0))) := by
  have hM := (h.made (.cells cs e (0, 0))).pair2
  have hO : d.O (W.alloc (.cells cs e (0, 0))) x cs.toList F := (hM.get 0 rfl).2
  have hl := d.K_len (d.K_of_O hO)
  refine hM.asF 0 rfl (r' := Res.own d e (.slice (some ⟨W.heap.size, 0, none⟩) 1 1) [x] (W.heap.size :: F)) ?_ rfl
  refine ⟨cs.toList, [F], ⟨by simpa using hl, .inr ⟨W.heap.size, 1, cs, rfl, Nat.zero_le _, blk_new W _, Nat.le_refl _, by unfold maxLen; omega, by simpa using hl, ?_⟩⟩, ⟨by simpa using hl, rfl, fun j p Fj hp hF => ?_⟩, by simp [Value.ownBlock]⟩
  · rw [List.length_singleton, Nat.one_mul, ← hl, List.take_length]
  · have hj : j = 0 := by
      have := (List.getElem?_eq_some_iff.1 hp).1
      simp at this
      exact this
    subst hj
    simp at hp hF
    subst hp
    subst hF
    rw [Nat.zero_mul, List.drop_zero, ← hl, List.take_length]
    exact hO
/-- One record of a row written anew, records that own nothing. -/
theorem putK {α : Type} {d : Knd α} {e g n c : Nat} {xs : List α} {F : List Nat} (hE : ∀ w x cs F, d.O w x cs F → F = []) (h : St w L W) (i : Nat) (hi : L[i]? = some (Res.own d e (.slice (some ⟨g, 0, none⟩) n c) xs F)) (k : Nat) (hk : k < xs.length) (us : List Value) (x : α) (hO : d.O W x us []) :
    St w (L.set i (Res.own d e (.slice (some ⟨g, 0, none⟩) n c) (xs.set k x) F)) (setCells g W (k * d.sz) us) := by
  obtain ⟨Fs, hF, rfl⟩ := Knd.Own.fs (h.get i hi)
  have hr : Fs = List.replicate Fs.length [] := by
    obtain ⟨inner, _, hels⟩ := hF
    refine List.eq_replicate_iff.2 ⟨rfl, fun Fj hFj => ?_⟩
    obtain ⟨j, hj⟩ := List.mem_iff_getElem?.1 hFj
    have hl : j < xs.length := by rw [← hels.2.1]; exact (List.getElem?_eq_some_iff.1 hj).1
    exact hE _ _ _ _ (hels.2.2 j _ Fj (List.getElem?_eq_getElem hl) hj)
  have hfl : Fs.flatten = [] := by rw [hr]; simp
  have h1 := (hF.put k hk us x [] hO (by simp) (by rw [hfl]; simp)).own
  have e1 : (Fs.set k []).flatten = Fs.flatten := by
    rw [hfl]
    have : Fs.set k [] = List.replicate Fs.length [] := by
      refine List.eq_replicate_iff.2 ⟨by simp, fun Fj hFj => ?_⟩
      rcases List.mem_or_eq_of_mem_set hFj with hm | hm
      · rw [hr] at hm
        exact (List.mem_replicate.1 hm).2
      · exact hm
    rw [this]
    simp
  rw [e1] at h1
  have hnd := h.nodup i hi
  exact h.upd (r' := Res.own d e (.slice (some ⟨g, 0, none⟩) n c) (xs.set k x) _) i hi (setCells_but (.inl (by simp [Value.ownBlock, Res.own])) us _ _ (But.refl _ _)) h1 (by exact hnd) (fun q hq => .inl hq)
/-- The cells of a row's block. -/
theorem cellK {α : Type} {d : Knd α} {e g n c : Nat} {xs : List α} {F : List Nat} (h : St w L W) (i : Nat) (hi : L[i]? = some (Res.own d e (.slice (some ⟨g, 0, none⟩) n c) xs F)) : (∀ j, j < xs.length * d.sz → ∃ u, W.cell? ⟨g, j, none⟩ = some u) ∧ ∀ j, W.frozen? ⟨g, j, none⟩ = false := by
  obtain ⟨Fs, hF, rfl⟩ := Knd.Own.fs (h.get i hi)
  exact ⟨fun j hj => hF.cell j hj, fun j => hF.free j⟩
end St
end Go.Proofs.Yticlknijmnddeaa.Mem
namespace Go.Proofs.Yticlknijmnddeaa.Dat
open Go Go.RowKit Go.Proofs.Yticlknijmnddeaa.Mem
set_option linter.unusedVariables false
set_option linter.unusedSimpArgs false
/-! ### What Start answers -/
def startB (t : List ByteArray) (l : List DFunc) (args : List DValue) : Bool := isGoodB t l && argsB (l.getD 0 zFunc) l.length args
def locsOf (y : DFunc) (args : List DValue) : List DValue := args ++ List.replicate (y.locals.toNat - args.length) zValue
def startV (t : List ByteArray) (l : List DFunc) (args : List DValue) : DVm := if startB t l args = true then ⟨[⟨0, 0, locsOf (l.getD 0 zFunc) args, []⟩], [], 0, [], 0, 0, zValue, 0⟩ else zVm
theorem loop_len (s : ByteArray) : ∀ (n i : Nat) (r : List UInt8), s.size - i = n → (ByteArray.toList.loop s i r).length = r.length + n
  | 0, i, r, h => by
    rw [ByteArray.toList.loop, if_neg (by omega), List.length_reverse]
    rfl
  | n + 1, i, r, h => by
    rw [ByteArray.toList.loop, if_pos (by omega), loop_len s n (i + 1) _ (by omega), List.length_cons]
    omega
theorem noS_size {s : ByteArray} (h : noS s = true) : s.size = 0 := by
  unfold noS at h
  have h1 : s.toList = [] := List.isEmpty_iff.1 h
  have h2 := loop_len s s.size 0 [] (by omega)
  have h3 : (ByteArray.toList.loop s 0 []).length = 0 := by
    show s.toList.length = 0
    rw [h1]
    rfl
  rw [h3] at h2
  simp at h2
  omega
theorem valB_size {nf nr : Int} {v : DValue} (h : valB nf nr v = true) : v.s.size ≤ 60 := by
  have h0 : noS v.s = true → v.s.size ≤ 60 := by
    intro h
    have := noS_size h
    omega
  unfold valB at h
  repeat' split at h
  all_goals (try simp only [Bool.and_eq_true] at h)
  · exact h0 h.2
  · exact h0 h.2
  · exact h0 h.2
  · have h1 := h.2
    unfold textB at h1
    rw [Bool.and_eq_true, decide_eq_true_eq] at h1
    exact h1.1
  · exact h0 h.2
  · exact h0 h.2
  · cases h
theorem sumC_le {α : Type} (f : α → Nat) (c : Nat) : ∀ l : List α, (∀ x ∈ l, f x ≤ c) → sumOf f l ≤ l.length + c * l.length
  | [], _ => by simp [sumOf]
  | x :: l, h => by
    have h1 := sumC_le f c l (fun y hy => h y (by simp [hy]))
    have h2 := h x (by simp)
    have e : sumOf f (x :: l) = sumOf f l + (f x + 1) := by unfold sumOf; simp; omega
    rw [e, List.length_cons, Nat.mul_add]
    omega
theorem start_fit {t : List ByteArray} {l : List DFunc} {args : List DValue} (h : startB t l args = true) : ∃ y, l[0]? = some y ∧ l.getD 0 zFunc = y ∧ (args.length : Int) = y.params ∧ y.params ≤ y.locals ∧ y.locals ≤ 12 ∧ ∀ v ∈ args, valB l.length 0 v = true := by
  unfold startB at h
  rw [Bool.and_eq_true] at h
  have hf := modFit (isGood_mod h.1)
  obtain ⟨y, hy⟩ : ∃ y, l[0]? = some y := ⟨l[0]'(by have := hf.n1; omega), List.getElem?_eq_getElem _⟩
  have e : l.getD 0 zFunc = y := by rw [List.getD_eq_getElem?_getD, hy]; rfl
  have h2 := h.2
  rw [e] at h2
  unfold argsB at h2
  rw [Bool.and_eq_true, decide_eq_true_eq] at h2
  refine ⟨y, hy, e, h2.1, ?_, ?_, fun v hv => ?_⟩
  · exact (hf.loc y (List.mem_of_getElem? hy)).1
  · exact (hf.loc y (List.mem_of_getElem? hy)).2
  · have h3 := h2.2
    rw [Bool.not_eq_true', List.any_eq_false] at h3
    have := h3 v hv
    simpa using this
theorem startV_ms (t : List ByteArray) (l : List DFunc) (args : List DValue) : msVm (startV t l args) ≤ 1048576 := by
  unfold startV
  by_cases h : startB t l args = true
  · rw [if_pos h]
    obtain ⟨y, hy, e, h1, h2, h3, h4⟩ := start_fit h
    rw [e]
    have hz : ∀ x ∈ locsOf y args, msValue x ≤ 60 := by
      intro x hx
      unfold locsOf at hx
      rcases List.mem_append.1 hx with hx | hx
      · exact valB_size (h4 x hx)
      · rw [(List.mem_replicate.1 hx).2]
        decide
    have hl : (locsOf y args).length ≤ 12 := by
      unfold locsOf
      rw [List.length_append, List.length_replicate]
      omega
    have h5 := sumC_le msValue 60 _ hz
    have e1 : msVm ⟨[⟨0, 0, locsOf y args, []⟩], [], 0, [], 0, 0, zValue, 0⟩ = sumOf msValue (locsOf y args) + 1 := by
      have ez : (⟨#[]⟩ : ByteArray).size = 0 := rfl
      simp [msVm, msFrame, sumOf, msValue, zValue]
      omega
    rw [e1]
    omega
  · rw [if_neg h]
    decide
theorem startV_no {t : List ByteArray} {l : List DFunc} {args : List DValue} (h : startB t l args = false) : startV t l args = zVm := by
  unfold startV
  rw [h]
  rfl
theorem startB_no {t : List ByteArray} {l : List DFunc} {args : List DValue} (h : isGoodB t l = false) : startB t l args = false := by
  unfold startB
  rw [h]
  rfl
theorem good_y {t : List ByteArray} {l : List DFunc} (h : isGoodB t l = true) : ∃ y, l[0]? = some y ∧ l.getD 0 zFunc = y := by
  have hf := modFit (isGood_mod h)
  refine ⟨l[0]'(by have := hf.n1; omega), List.getElem?_eq_getElem _, ?_⟩
  rw [List.getD_eq_getElem?_getD, List.getElem?_eq_getElem (by have := hf.n1; omega)]
  rfl
end Go.Proofs.Yticlknijmnddeaa.Dat

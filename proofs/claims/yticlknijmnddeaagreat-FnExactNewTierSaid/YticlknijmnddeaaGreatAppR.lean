/- append of a row that is read, to a row of the call's own. -/
import Derived.Test.YticlknijmnddeaaGreatK2
import Derived.Laws.AppendOwnNone
namespace Go.Proofs.YticlknijmnddeaaGreat.Mem
open Go Go.RowKit
set_option linter.unusedVariables false
set_option linter.unusedSimpArgs false
namespace Knd
section
variable {α : Type} {d : Knd α} {e : Nat} {w W : World} {v : Value} {xs zs : List α} {F : List Nat} {Fs : List (List Nat)}
/-- A row's cells, one behind the other. -/
theorem Row.flat {ad : Addr} (h : d.Row W (some ad) xs.length xs) : ∀ k, k ≤ xs.length → ∃ cs : List Value, cs.length = k * d.sz ∧ (∀ j p, j < k → xs[j]? = some p → d.K W p ((cs.drop (j * d.sz)).take d.sz)) ∧ ∀ i u, cs[i]? = some u → W.cell? (ad.add i) = some u
  | 0, _ => ⟨[], by simp, fun j p hj => by omega, fun i u hu => by simp at hu⟩
  | k + 1, hk => by
    obtain ⟨cs, hl, hK, hc⟩ := Row.flat h k (by omega)
    obtain ⟨x, hx⟩ : ∃ x, xs[k]? = some x := ⟨xs[k], List.getElem?_eq_getElem (by omega)⟩
    obtain ⟨ad', c, e1, hKc, hcc⟩ := h.get k x hx
    cases e1
    have hcl := d.K_len hKc
    refine ⟨cs ++ c, by rw [List.length_append, hl, hcl, Nat.succ_mul], fun j p hj hp => ?_, fun i u hu => ?_⟩
    · by_cases hjk : j = k
      · subst hjk
        rw [hx] at hp
        cases hp
        have e2 : ((cs ++ c).drop (j * d.sz)).take d.sz = c := by
          rw [← hl, List.drop_left, ← hcl, List.take_length]
        rw [e2]
        exact hKc
      · have hle : j * d.sz + d.sz ≤ cs.length := by rw [hl, ← Nat.succ_mul]; exact Nat.mul_le_mul_right _ (by omega)
        rw [List.drop_append_of_le_length (by omega), List.take_append_of_le_length (by rw [List.length_drop]; omega)]
        exact hK j p (by omega) hp
    · rcases Nat.lt_or_ge i cs.length with hi | hi
      · rw [List.getElem?_append_left hi] at hu
        exact hc i u hu
      · rw [List.getElem?_append_right hi] at hu
        have := hcc (i - cs.length) u hu
        rwa [← hl, Nat.add_sub_cancel' hi] at this
/-- append(s, x...), x a row that is read, not empty; of a kind that owns nothing. -/
theorem wp_appRow {P : Program} {ops : Array Oper} {rest : List Oper} {o : Oper} {a : Act} {Q : Exit → Act → World → Prop} (d : Knd α) (hKO : ∀ w x cs, d.K w x cs → d.O w x cs []) (hgd : o.guard = none) (s x : Operand) (t : TypeId)
    (ho : o.op = .call { callee := .builtin .append, args := #[s, x], argTypes := #[t, t] }) (e : TypeId) (ht : P.underlying t = some (.slice e)) (z : Value) (bytes : Nat) (hinfo : (P.info? e).map (fun i => (i.zero, i.size, i.bytes)) = some (some z, d.sz, bytes)) (hz : z.cells.size = d.sz) (hsz : 0 < d.sz)
    (hs : a.eval s = v) (hown : OwnF d e W v xs Fs) (ad : Addr) (c : Nat) (hr : d.Row W (some ad) zs.length zs) (hx : a.eval x = .slice (some ad) zs.length c)
    (hd : ∀ q ∈ v.ownBlock.toList, q ∉ Fs.flatten)
    (hm : 0 < zs.length) (h63 : xs.length + zs.length ≤ maxLen) (hbytes : (xs.length + zs.length) * bytes ≤ 140737488355328)
    (h : ∀ g cap w', OwnF d e w' (.slice (some ⟨g, 0, none⟩) (xs.length + zs.length) cap) (xs ++ zs) (Fs ++ List.replicate zs.length []) → But v.ownBlock.toList W w' → (v.ownBlock = some g ∨ g = W.heap.size) → wpList P ops Q rest (a.put o.dst (.slice (some ⟨g, 0, none⟩) (xs.length + zs.length) cap)) w') : wpList P ops Q (o :: rest) a W := by
  obtain ⟨i0, hi, hzz⟩ := Option.map_eq_some_iff.1 hinfo
  simp only [Prod.mk.injEq] at hzz
  obtain ⟨hz0, hz1, hz2⟩ := hzz
  obtain ⟨inner, ho1, hrr⟩ := hown
  obtain ⟨cs', hl, hK, hnews⟩ := hr.flat zs.length (Nat.le_refl _)
  have hels : Els d W zs cs' (List.replicate zs.length []) := ⟨hl, by simp, fun j p Fj hp hF => by
    have hj := (List.getElem?_eq_some_iff.1 hp).1
    have hFj : Fj = [] := by
      obtain ⟨_, h9⟩ := List.getElem?_eq_some_iff.1 hF
      simpa using h9.symm
    subst hFj
    exact hKO _ _ _ (hK j p hj hp)⟩
  have h1 : ∀ u ∈ cs', u.oneCell' = true := by
    intro u hu
    obtain ⟨j, hj⟩ := List.mem_iff_getElem?.1 hu
    have hjl : j < cs'.length := (List.getElem?_eq_some_iff.1 hj).1
    rw [hl] at hjl
    have hq : j / d.sz < zs.length := (Nat.div_lt_iff_lt_mul hsz).2 hjl
    have hKK := hK (j / d.sz) _ hq (List.getElem?_eq_getElem hq)
    refine d.K_one hKK u (List.mem_iff_getElem?.2 ⟨j % d.sz, ?_⟩)
    rw [List.getElem?_take_of_lt (Nat.mod_lt _ hsz), List.getElem?_drop, Nat.mul_comm, Nat.div_add_mod]
    exact hj
  refine wpList_append_lies W hgd s x t ho 0 e i0 z d.sz bytes ht hi hz0 hz1 hz2 hz hsz v xs.length inner hs ho1 ad zs.length c cs' hx hl hnews h1 hm h63 hbytes (Nat.zero_le _) _ rfl ?_
  intro g cap w' hown' hgr hg hlt
  have hfar : ∀ q ∈ Fs.flatten, w'.heap[q]? = W.heap[q]? := by
    intro q hq
    obtain ⟨Fj, hFj, hgj⟩ := List.mem_flatten.1 hq
    obtain ⟨j, hj⟩ := List.mem_iff_getElem?.1 hFj
    have hl2 : j < xs.length := by rw [← hrr.2.1]; exact (List.getElem?_eq_some_iff.1 hj).1
    have hlt2 : q < W.heap.size := d.O_lt (hrr.2.2 j _ Fj (List.getElem?_eq_getElem hl2) hj) q hgj
    exact hgr.block q hlt2 (fun he => hd q (by rw [← he]; simp) hq)
  have hfar2 : ∀ q ∈ (Fs ++ List.replicate zs.length ([] : List Nat)).flatten, w'.heap[q]? = W.heap[q]? := by
    intro q hq
    have : q ∈ Fs.flatten := by simpa using hq
    exact hfar q this
  refine h g cap w' ⟨inner ++ cs', ?_, (hrr.append hels).frame hfar2⟩ (But.grown hgr) hg
  rw [List.length_append]
  exact hown'
end
end Knd
end Go.Proofs.YticlknijmnddeaaGreat.Mem

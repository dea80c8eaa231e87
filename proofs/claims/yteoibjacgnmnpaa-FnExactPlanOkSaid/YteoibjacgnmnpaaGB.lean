/- Texts and numbers in rows: the laws' own functions, under the generated names. Written by a program (recgen.py). -/
import Derived.Test.YteoibjacgnmnpaaLawSt
namespace Go.Proofs.Yteoibjacgnmnpaa.Mem
open Go Go.RowKit
theorem St.cons {w W : World} {L : List Res} {r : Res} (h : St w L W) (hr : r.P W) (hn : r.F.Nodup) (ho : ∀ g ∈ r.F, w.heap.size ≤ g) (hd : ∀ q ∈ L, ∀ g ∈ r.F, g ∉ q.F) : St w (r :: L) W :=
  ⟨h.bel, fun q hq => by
    rcases List.mem_cons.1 hq with rfl | hq
    · exact hr
    · exact h.at_ q hq, fun q hq => by
    rcases List.mem_cons.1 hq with rfl | hq
    · exact ho
    · exact h.old q hq, by
    rw [List.map_cons, List.flatten_cons, List.nodup_append]
    refine ⟨hn, h.dis, fun a ha b hb e => ?_⟩
    subst e
    obtain ⟨F, hF, haF⟩ := List.mem_flatten.1 hb
    obtain ⟨q, hq, rfl⟩ := List.mem_map.1 hF
    exact hd q hq a ha haF⟩
theorem St.bare {w W : World} (h : Below w.heap.size w W) : St w [] W := ⟨h, by simp, by simp, by simp⟩
/-- What a call lays, laid among what is there. -/
theorem St.join {w W W' : World} {L L2 : List Res} (h : St w L W) (k : St W L2 W') : St w (L2 ++ L) W' := by
  have h2 := h.step k.bel
  refine ⟨h2.bel, fun q hq => ?_, fun q hq g hg => ?_, ?_⟩
  · rcases List.mem_append.1 hq with hq | hq
    · exact k.at_ q hq
    · exact h2.at_ q hq
  · rcases List.mem_append.1 hq with hq | hq
    · exact Nat.le_trans h.bel.size (k.old q hq g hg)
    · exact h2.old q hq g hg
  · rw [List.map_append, List.flatten_append, List.nodup_append]
    refine ⟨k.dis, h2.dis, fun a ha b hb e => ?_⟩
    subst e
    obtain ⟨F, hF, haF⟩ := List.mem_flatten.1 ha
    obtain ⟨q, hq, rfl⟩ := List.mem_map.1 hF
    obtain ⟨F', hF', haF'⟩ := List.mem_flatten.1 hb
    obtain ⟨q', hq', rfl⟩ := List.mem_map.1 hF'
    have h8 := k.old q hq a haF
    have h9 := q'.lt (h.at_ q' hq') a haF'
    omega
end Go.Proofs.Yteoibjacgnmnpaa.Mem
namespace Go.Proofs.Yteoibjacgnmnpaa.Dat
open Go Go.RowKit Go.Proofs.Yteoibjacgnmnpaa.Mem
set_option linter.unusedVariables false
set_option linter.unusedSimpArgs false
theorem szStringS_c (A : Option Addr) (c : Nat) (l : List ByteArray) (left : Int) (w : World) (hr : Knd.str.Row w A l.length l) (hm : l.length ≤ maxLen) (hv : ∀ x ∈ l, x.size ≤ maxLen) (h0 : 0 ≤ left) (h1 : left ≤ 1048576) : Calls Try.prog 81 #[.slice A l.length c, .int .i64 left] w fun e w' => e = .returned (.int .i64 (lft (sumOf ByteArray.size l) left)) ∧ Below w.heap.size w w' := szStringS A c l left w hr hm hv h0 h1
theorem toStringS_c (A : Option Addr) (c : Nat) (l : List ByteArray) (w : World) (hr : Knd.str.Row w A l.length l) (hm : l.length ≤ 1048576 ∧ ∀ y ∈ l, y.size ≤ 1048576) : Calls Try.prog 85 #[.slice A l.length c] w (NewRow Knd.str 9 l w) := toStringS A c l w hr hm.1
theorem eqStringS_c (A B : Option Addr) (c c' : Nat) (l : List ByteArray) (w : World) (hr : Knd.str.Row w A l.length l) (hr' : Knd.str.Row w B l.length l) : Calls Try.prog 75 #[.slice A l.length c, .slice B l.length c'] w fun e w' => e = .returned (.bool true) ∧ Below w.heap.size w w' := eqStringS A B c c' l w hr hr'
end Go.Proofs.Yteoibjacgnmnpaa.Dat

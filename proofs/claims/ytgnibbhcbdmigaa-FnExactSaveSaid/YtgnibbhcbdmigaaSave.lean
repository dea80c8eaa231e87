/- A module as bytes: the program's save. -/
import Derived.Test.YtgnibbhcbdmigaaNum
import Derived.Test.YtgnibbhcbdmigaaDat
import Derived.Test.YtgnibbhcbdmigaaUses
import Derived.Test.YtgnibbhcbdmigaaEq
import Derived.Deep.RegionHeld3
namespace Go.Proofs.Ytgnibbhcbdmigaa.Mem
open Go Go.RowKit
theorem Knd.els_map {α : Type} {enc : α → Value} {h1 : ∀ x, (enc x).oneCell' = true} (w : World) (ys : List α) : Knd.Els (Knd.scalar enc h1) w ys (ys.map enc) (List.replicate ys.length []) := by
  refine ⟨by rw [List.length_map]; exact (Nat.mul_one _).symm, by simp, fun j p Fj hp hF => ?_⟩
  have hj : j < ys.length := (List.getElem?_eq_some_iff.1 hp).1
  have e : Fj = [] := by
    have := (List.getElem?_eq_some_iff.1 hF).2
    simpa using this.symm
  subst e
  refine ⟨?_, rfl⟩
  show ((ys.map enc).drop (j * 1)).take 1 = [enc p]
  rw [Nat.mul_one, List.take_one, List.head?_drop, List.getElem?_map, hp]
  rfl
/-- A text behind a row of bytes; B: where the row's blocks begin. -/
theorem Knd.wp_text {P : Program} {ops : Array Oper} {rest : List Oper} {o : Oper} {a : Act} {Q : Exit → Act → World → Prop} {W : World} (hgd : o.guard = none) (sl x : Operand) (t u : TypeId)
    (ho : o.op = .call { callee := .builtin .append, args := #[sl, x], argTypes := #[t, u] }) (e : TypeId) (ht : P.underlying t = some (.slice e)) (hu : P.underlying u = some .string) (hinfo : (P.info? e).map (fun i => (i.zero, i.size, i.bytes)) = some (some (.int .u8 0), 1, 1))
    {v : Value} {xs : List Int} {F : List Nat} (hs : a.eval sl = v) (hown : (Knd.int .u8).Own e W v xs F) (B : Nat) (hF : ∀ g ∈ F, B ≤ g) (hB : B ≤ W.heap.size) (s : ByteArray) (hx : a.eval x = .string s) (h63 : xs.length + s.size ≤ 140737488355328)
    (h : ∀ v' F' w', (Knd.int .u8).Own e w' v' (xs ++ s.data.toList.map (fun b => (b.toNat : Int))) F' → But F W w' → (∀ g ∈ F', B ≤ g) → wpList P ops Q rest (a.put o.dst v') w') : wpList P ops Q (o :: rest) a W := by
  obtain ⟨i0, hi, hzz⟩ := Option.map_eq_some_iff.1 hinfo
  simp only [Prod.mk.injEq] at hzz
  obtain ⟨hz0, hz1, hz2⟩ := hzz
  obtain ⟨Fs, ⟨inner, ho1, hr⟩, hFF⟩ := hown.fs
  have ho2 : W.ownsRow B e 1 v xs.length inner := by
    refine ⟨ho1.1, ?_⟩
    rcases ho1.2 with h1 | ⟨g, cap, cur, rfl, _, r⟩
    · exact .inl h1
    · exact .inr ⟨g, cap, cur, rfl, hF g (by rw [hFF]; simp [Value.ownBlock]), r⟩
  refine Lib.wpList_append_own_string W hgd sl x t u ho B e i0 ht hu hi hz0 hz1 hz2 v xs.length inner hs ho2 s hx (by unfold maxLen; omega) h63 hB ?_
  intro v' w' h2 h3 _
  have hn := Knd.flat_nil (enc := Value.int .u8) ⟨inner, ho1, hr⟩
  have he : Knd.Els (Knd.int .u8) W (xs ++ s.data.toList.map (fun b => (b.toNat : Int))) (inner ++ Lib.strCells s) (Fs ++ List.replicate (s.data.toList.map (fun b => (b.toNat : Int))).length []) := by
    have := Knd.els_map (enc := Value.int .u8) (h1 := fun _ => rfl) W (s.data.toList.map (fun b => (b.toNat : Int)))
    rw [List.map_map] at this
    exact hr.append this
  have hnil : (Fs ++ List.replicate (s.data.toList.map (fun b => (b.toNat : Int))).length ([] : List Nat)).flatten = [] := by simp [hn]
  have hlen : (xs ++ s.data.toList.map (fun b => (b.toNat : Int))).length = xs.length + s.size := by
    rw [List.length_append, List.length_map]
    rfl
  refine h v' v'.ownBlock.toList w' ⟨inner ++ Lib.strCells s, _, ?_, he.frame (fun g hg => by rw [hnil] at hg; simp at hg), by rw [hnil, List.append_nil]⟩ ((But.grown h3).mono (fun q hq => by rw [hFF]; exact List.mem_append_left _ hq)) (fun g hg => ?_)
  · rw [hlen]
    refine ⟨h2.1, ?_⟩
    rcases h2.2 with h1 | ⟨g, cap, cur, rfl, _, r⟩
    · exact .inl h1
    · exact .inr ⟨g, cap, cur, rfl, Nat.zero_le _, r⟩
  · rcases h2.2 with ⟨h1, _⟩ | ⟨g', cap, cur, h1, hb, _⟩
    · rw [h1] at hg
      simp [Value.ownBlock] at hg
    · rw [h1] at hg
      simp [Value.ownBlock] at hg
      omega
end Go.Proofs.Ytgnibbhcbdmigaa.Mem

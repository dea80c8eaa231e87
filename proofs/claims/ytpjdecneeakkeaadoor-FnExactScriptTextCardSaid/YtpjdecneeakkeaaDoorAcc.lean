/- Bytes that grow by texts: a row of the call's own, and a strings.Builder. -/
import Derived.Test.YtpjdecneeakkeaaDoorTexts
import Derived.Lib.AppendStr
import Derived.Shelf.Strings.BuilderK
namespace Go.Proofs.YtpjdecneeakkeaaDoor.Dat
open Go Go.RowKit Go.Proofs.YtpjdecneeakkeaaDoor.Mem
set_option linter.unusedVariables false
set_option linter.unusedSimpArgs false
/-- A row of bytes of the call's own, from block B on. -/
def Acc (B : Nat) (v : Value) (l : List UInt8) (W : World) : Prop := W.ownsRow B 5 1 v l.length (Lib.byteCells l)
theorem Acc.below {B : Nat} {v : Value} {l : List UInt8} {W W' : World} (h : Acc B v l W) (hb : Below W.heap.size W W') : Acc B v l W' := by
  obtain ⟨h1, h2⟩ := h
  refine ⟨h1, ?_⟩
  rcases h2 with h2 | ⟨g, cap, cur, rfl, hg, hh, r⟩
  · exact .inl h2
  · exact .inr ⟨g, cap, cur, rfl, hg, (hb.block g (blk_lt hh)).trans hh, r⟩
theorem Acc.empty (W : World) (B : Nat) (hB : B = W.heap.size) : Acc B (.slice (some ⟨W.heap.size, 0, none⟩) 0 0) [] (W.alloc (.cells #[] 5 (0, 0))) :=
  ⟨rfl, .inr ⟨W.heap.size, 0, #[], rfl, by omega, blk_new W _, by simp, by simp [maxLen], rfl, rfl⟩⟩
/-- What a step that grows a row of bytes leaves alone. -/
def Keeps (W W' : World) : Prop := ∀ (g : Nat) (o : Obj), W.heap[g]? = some o → (∀ c fz, o ≠ Obj.cells c 5 fz) → W'.heap[g]? = some o
theorem infoByte' : ∃ i, Tryd.prog.info? 5 = some i ∧ i.zero = some (.int .u8 0) ∧ i.size = 1 ∧ i.bytes = 1 := by
  have h : (Tryd.prog.info? 5).map (fun i => (i.zero, i.size, i.bytes)) = some (some (.int .u8 0), 1, 1) := by kernel_rfl
  obtain ⟨i, hi, hz⟩ := Option.map_eq_some_iff.1 h
  simp only [Prod.mk.injEq] at hz
  exact ⟨i, hi, hz.1, hz.2.1, hz.2.2⟩
theorem op_appStr {o : Oper} {a : Act} {K : Act → World → Prop} {Q : Exit → Act → World → Prop} {W : World} (sl x : Operand) (ho : o.op = .call { callee := .builtin .append, args := #[sl, x], argTypes := #[86, 9] })
    {B : Nat} {v : Value} {l : List UInt8} (hs : a.eval sl = v) (hown : Acc B v l W) (s : List UInt8) (hx : a.eval x = .string (txt s)) (hlen : l.length + s.length ≤ 100000000000000) (hB : B ≤ W.heap.size)
    (h : ∀ v' w', Acc B v' (l ++ s) w' → Below B W w' → Keeps W w' → K (a.put o.dst v') w') : Oper.wp Tryd.prog o a W K Q := by
  obtain ⟨i, hi, hz, h1, h2⟩ := infoByte'
  have hts := txt_size s
  obtain ⟨v', w', hr, h3, h4, _⟩ := Lib.run_append_own_string (P := Tryd.prog) W B 86 9 o.type 5 i Tryd.underlying86 Tryd.underlying9 hi hz h1 h2 v l.length (Lib.byteCells l) hown (txt s) (by unfold maxLen; omega) (by omega) hB
  have hA : Acc B v' (l ++ s) w' := by
    unfold Acc
    rw [List.length_append, Lib.byteCells_append, ← hts]
    have e : Lib.strCells (txt s) = Lib.byteCells s := by rw [Lib.strCells_eq, txt_list]
    rw [e] at h3
    exact h3
  have hBel : Below B W w' := ⟨h4.os, h4.tape, h4.output, h4.size, fun k hk => h4.block k (by omega) (fun he => by
    rcases hown.2 with ⟨rfl, _⟩ | ⟨g, cap, cur, rfl, hg, _⟩
    · simp [Value.ownBlock] at he
    · simp [Value.ownBlock] at he
      omega)⟩
  have hK : Keeps W w' := by
    unfold Keeps
    intro g ob hg hne
    refine (h4.block g (blk_lt hg) (fun he => ?_)).trans hg
    rcases hown.2 with ⟨rfl, _⟩ | ⟨g', cap, cur, rfl, hg', hh, _⟩
    · simp [Value.ownBlock] at he
    · simp [Value.ownBlock] at he
      subst he
      rw [hg] at hh
      exact hne _ _ (Option.some.inj hh)
  have hrun : (execOp a.eval o).run Tryd.prog W = .ok (.value v') w' := by
    unfold execOp
    simp only [ho, resolve, invoke, builtin, Sem.run_bind, Sem.run_pure, Result.andThen_ok, List.map_toArray, List.map_cons, List.map_nil, hs, hx, hr]
  unfold Oper.wp
  rw [hrun]
  exact h v' w' hA hBel hK
theorem wp_appStr {ops : Array Oper} {rest : List Oper} {o : Oper} {a : Act} {Q : Exit → Act → World → Prop} {W : World} (hgd : o.guard = none) (sl x : Operand) (ho : o.op = .call { callee := .builtin .append, args := #[sl, x], argTypes := #[86, 9] })
    {B : Nat} {v : Value} {l : List UInt8} (hs : a.eval sl = v) (hown : Acc B v l W) (s : List UInt8) (hx : a.eval x = .string (txt s)) (hlen : l.length + s.length ≤ 100000000000000) (hB : B ≤ W.heap.size)
    (h : ∀ v' w', Acc B v' (l ++ s) w' → Below B W w' → Keeps W w' → wpList Tryd.prog ops Q rest (a.put o.dst v') w') : wpList Tryd.prog ops Q (o :: rest) a W :=
  wpList_plain hgd fun K hK => op_appStr sl x ho hs hown s hx hlen hB (fun v' w' h1 h2 h3 => hK _ _ (h v' w' h1 h2 h3))
theorem run_accStr {W : World} {B : Nat} {v : Value} {l : List UInt8} (h : Acc B v l W) : (convert 86 9 v).run Tryd.prog W = .ok (.string (txt l)) W := by
  rcases h.2 with ⟨rfl, h0⟩ | ⟨g, cap, cur, rfl, hg, hh, _, _, _, ht⟩
  · obtain rfl := List.eq_nil_of_length_eq_zero h0
    rw [run_convert_bytes_string W 86 9 5 _ _ 0 Tryd.underlying86 Tryd.underlying5 Tryd.underlying9]
    rfl
  · have hl : (loadCells ⟨g, 0, none⟩ l.length).run Tryd.prog W = .ok ((l.map fun b => (b.toNat : Int)).map (Value.int .u8)).toArray W := by
      have := run_loadCells_list (P := Tryd.prog) W ⟨g, 0, none⟩ (Lib.byteCells l) (fun j u hj => by
        have := World.ownsRow.cells (g := g) h rfl j u hj
        exact this)
      rw [Lib.byteCells_length] at this
      rw [this, List.map_map]
      rfl
    rw [run_convert_bytes_string W 86 9 5 _ l.length cap Tryd.underlying86 Tryd.underlying5 Tryd.underlying9, run_bytesToString W _ l.length cap (l.map fun b => (b.toNat : Int)) hl]
    congr 2
    have e : ∀ (m : List UInt8) (s : ByteArray), (m.map fun b => (b.toNat : Int)).foldl (fun r n => r.push (UInt8.ofNat n.toNat)) s = ⟨s.data ++ m.toArray⟩ := by
      intro m
      induction m with
      | nil => intro s; simp
      | cons b m ih =>
        intro s
        rw [List.map_cons, List.foldl_cons, ih]
        congr 1
        show s.data.push (UInt8.ofNat (b.toNat : Int).toNat) ++ m.toArray = s.data ++ (b :: m).toArray
        apply Array.toList_inj.1
        simp
    rw [e]
    simp [txt]
/-! ### A builder -/
def Bld (B b : Nat) (l : List UInt8) (W : World) : Prop := Lib.IsBuilderF 95 5 B b (Lib.byteCells l) W
theorem Bld.below {B b : Nat} {l : List UInt8} {W W' : World} (h : Bld B b l W) (hb : Below W.heap.size W W') : Bld B b l W' := by
  have h1 : ∀ p, Lib.BuilderAtF 95 5 B b p (Lib.byteCells l) W → Lib.BuilderAtF 95 5 B b p (Lib.byteCells l) W' := by
    rintro p ⟨hB, v, hbk, hown, hne⟩
    refine ⟨hB, v, (hb.block b (blk_lt hbk)).trans hbk, ⟨hown.1, ?_⟩, hne⟩
    rcases hown.2 with h2 | ⟨g, cap, cur, fz, rfl, hg, hh, r⟩
    · exact .inl h2
    · exact .inr ⟨g, cap, cur, fz, rfl, hg, (hb.block g (blk_lt hh)).trans hh, r⟩
  exact h.elim (fun x => .inl (h1 _ x)) (fun x => .inr (h1 _ x))
theorem Bld.fresh (W : World) : Bld W.heap.size W.heap.size [] (W.alloc (.cells #[.pointer none, .slice none 0 0] 95)) := Lib.IsBuilderF.of (Lib.fresh_isBuilder 95 5 W)
theorem writeStr (B b : Nat) (l s : List UInt8) (w : World) (h : Bld B b l w) (hlen : l.length + s.length ≤ 100000000000000) (hB : B ≤ w.heap.size) :
    Calls Tryd.prog 49 #[.pointer (some ⟨b, 0, none⟩), .string (txt s)] w fun e w' => e = .returned (.tuple #[.int .i64 (txt s).size, .nilIface]) ∧ Bld B b (l ++ s) w' ∧ Below B w w' ∧ (∀ (g : Nat) (o : Obj), w.heap[g]? = some o → g ≠ b → (∀ c fz, o ≠ Obj.cells c 5 fz) → w'.heap[g]? = some o) := by
  have hts := txt_size s
  refine (Any.Builder_WriteString_k { laysJoin with } joinExtra B b (Lib.byteCells l) (txt s) w h (by rw [Lib.byteCells_length]; omega) hB).mono ?_
  rintro e w' ⟨rfl, h1, h2, h3⟩
  refine ⟨rfl, ?_, h2, fun g o hg hne ho => h3 g o hg (fun he => hne (Option.some.inj he)) ho⟩
  have e1 : Lib.byteCells l ++ Lib.strCells (txt s) = Lib.byteCells (l ++ s) := by rw [Lib.strCells_eq, txt_list, Lib.byteCells_append]
  rw [e1] at h1
  exact .inr h1
theorem bldStr (B b : Nat) (l : List UInt8) (w : World) (h : Bld B b l w) (hB : B ≤ w.heap.size) :
    Calls Tryd.prog 51 #[.pointer (some ⟨b, 0, none⟩)] w fun e w' => e = .returned (.string (txt l)) ∧ Below B w w' := by
  refine (Any.Builder_String_any_k { laysJoin with } joinExtra B b l w h hB).mono ?_
  rintro e w' ⟨rfl, h1, h2, h3⟩
  exact ⟨rfl, h2⟩
end Go.Proofs.YtpjdecneeakkeaaDoor.Dat

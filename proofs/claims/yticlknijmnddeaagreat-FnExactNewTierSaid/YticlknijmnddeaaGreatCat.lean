/- append of a row that is read to a row of the call's own; slices.Concat of two rows of values. -/
import Derived.Test.YticlknijmnddeaaGreatAppR
import Derived.Test.YticlknijmnddeaaGreatAppE
import Derived.Test.YticlknijmnddeaaGreatLayG
import Derived.Test.YticlknijmnddeaaGreatK5
namespace Go.Proofs.YticlknijmnddeaaGreat.Mem
open Go Go.RowKit
set_option linter.unusedVariables false
set_option linter.unusedSimpArgs false
namespace Knd
/-- append(s, x...), x a row that is read and not empty, s a row of the call's own. -/
theorem wp_appRowE {α : Type} {P : Program} {ops : Array Oper} {rest : List Oper} {o : Oper} {a : Act} {Q : Exit → Act → World → Prop} {W : World} (d : Knd α) (hKO : ∀ w x cs, d.K w x cs → d.O w x cs []) (hgd : o.guard = none) (s x : Operand) (t : TypeId)
    (ho : o.op = .call { callee := .builtin .append, args := #[s, x], argTypes := #[t, t] }) (e : TypeId) (ht : P.underlying t = some (.slice e)) (z : Value) (bytes : Nat) (hinfo : (P.info? e).map (fun i => (i.zero, i.size, i.bytes)) = some (some z, d.sz, bytes)) (hz : z.cells.size = d.sz) (hsz : 0 < d.sz)
    {v : Value} {xs zs : List α} {F : List Nat} (hs : a.eval s = v) (hown : Own d e W v xs F) (hnd : F.Nodup) (ad : Addr) (c : Nat) (hr : d.Row W (some ad) zs.length zs) (hx : a.eval x = .slice (some ad) zs.length c)
    (hm : 0 < zs.length) (h63 : xs.length + zs.length ≤ maxLen) (hbytes : (xs.length + zs.length) * bytes ≤ 140737488355328)
    (h : ∀ g cap w' F', Own d e w' (.slice (some ⟨g, 0, none⟩) (xs.length + zs.length) cap) (xs ++ zs) F' → But F W w' → F'.Nodup → (∀ q ∈ F', q ∈ F ∨ W.heap.size ≤ q) → wpList P ops Q rest (a.put o.dst (.slice (some ⟨g, 0, none⟩) (xs.length + zs.length) cap)) w') : wpList P ops Q (o :: rest) a W := by
  have hFlt := hown.lt
  obtain ⟨Fs, hF, rfl⟩ := hown.fs
  have hnd2 := List.nodup_append.1 hnd
  refine wp_appRow d hKO hgd s x t ho e ht z bytes hinfo hz hsz hs hF ad c hr hx (fun q hq hm => hnd2.2.2 q hq q hm rfl) hm h63 hbytes ?_
  intro g cap w' h2 h3 h4
  have h5 := h2.own
  have e5 : (Fs ++ List.replicate zs.length ([] : List Nat)).flatten = Fs.flatten := by simp
  rw [e5] at h5
  refine h g cap w' (g :: Fs.flatten) (by simpa [Value.ownBlock] using h5) (h3.mono (fun q hq => List.mem_append_left _ hq)) ?_ ?_
  · refine List.nodup_cons.2 ⟨fun hm => ?_, hnd2.2.1⟩
    rcases h4 with h4 | h4
    · have hg : g ∈ v.ownBlock.toList := by rw [h4]; simp
      exact hnd2.2.2 g hg g hm rfl
    · have := hFlt g (List.mem_append_right _ hm)
      omega
  · intro q hq
    rcases List.mem_cons.1 hq with rfl | hq
    · rcases h4 with h4 | h4
      · exact .inl (List.mem_append_left _ (by rw [h4]; simp))
      · exact .inr (by omega)
    · exact .inl (List.mem_append_right _ hq)
/-- append(s, x...), x empty. -/
theorem wp_app0 {α : Type} {P : Program} {ops : Array Oper} {rest : List Oper} {o : Oper} {a : Act} {Q : Exit → Act → World → Prop} {W : World} (d : Knd α) (hgd : o.guard = none) (s x : Operand) (t : TypeId)
    (ho : o.op = .call { callee := .builtin .append, args := #[s, x], argTypes := #[t, t] }) (e : TypeId) (ht : P.underlying t = some (.slice e)) (i : TypeInfo) (hi : P.info? e = some i)
    {v : Value} {xs : List α} {F : List Nat} (hs : a.eval s = v) (hown : Own d e W v xs F) (A : Option Addr) (n c : Nat) (hn : n = 0) (hx : a.eval x = .slice A n c)
    (h : wpList P ops Q rest (a.put o.dst v) W) : wpList P ops Q (o :: rest) a W := by
  subst hn
  obtain ⟨inner, Fs, ho1, _, _⟩ := hown
  have hrun : (Builtin.append_ #[t, t] o.type #[v, .slice A 0 c]).run P W = .ok v W := by
    rcases ho1.2 with ⟨rfl, _⟩ | ⟨g, cap, cur, rfl, _, _, hnc, _⟩
    · cases A <;> simp [Builtin.append_, run_underlying ht, sizeOf, typeInfo, hi, Builtin.lenOf, Builtin.firstCells, loadCells, loadCellsFrom, Result.andThen]
    · cases A <;> simp [Builtin.append_, run_underlying ht, sizeOf, typeInfo, hi, Builtin.lenOf, Builtin.firstCells, hnc, storeCells, loadCells, loadCellsFrom, Result.andThen]
  refine wpList_plain hgd fun K hK => ?_
  unfold Oper.wp
  simp [execOp, ho, resolve, invoke, builtin, hs, hx, hrun, Result.andThen]
  exact hK _ _ h
/-- append(s, x...), x a row that is read, empty or not. -/
theorem wp_appAny {α : Type} {P : Program} {ops : Array Oper} {rest : List Oper} {o : Oper} {a : Act} {Q : Exit → Act → World → Prop} {W : World} (d : Knd α) (hKO : ∀ w x cs, d.K w x cs → d.O w x cs []) (hgd : o.guard = none) (s x : Operand) (t : TypeId)
    (ho : o.op = .call { callee := .builtin .append, args := #[s, x], argTypes := #[t, t] }) (e : TypeId) (ht : P.underlying t = some (.slice e)) (z : Value) (bytes : Nat) (hinfo : (P.info? e).map (fun i => (i.zero, i.size, i.bytes)) = some (some z, d.sz, bytes)) (hz : z.cells.size = d.sz) (hsz : 0 < d.sz)
    {v : Value} {xs zs : List α} {F : List Nat} (hs : a.eval s = v) (hown : Own d e W v xs F) (hnd : F.Nodup) (A : Option Addr) (c : Nat) (hr : d.Row W A zs.length zs) (hx : a.eval x = .slice A zs.length c)
    (h63 : xs.length + zs.length ≤ maxLen) (hbytes : (xs.length + zs.length) * bytes ≤ 140737488355328)
    (h : ∀ v' w' F', Own d e w' v' (xs ++ zs) F' → But F W w' → F'.Nodup → (∀ q ∈ F', q ∈ F ∨ W.heap.size ≤ q) → wpList P ops Q rest (a.put o.dst v') w') : wpList P ops Q (o :: rest) a W := by
  rcases Nat.eq_zero_or_pos zs.length with h0 | h0
  · obtain ⟨i0, hi, _⟩ := Option.map_eq_some_iff.1 hinfo
    have hz0 := List.eq_nil_of_length_eq_zero h0
    refine wp_app0 d hgd s x t ho e ht i0 hi hs hown A zs.length c h0 hx (h v W F ?_ (But.refl _ _) hnd (fun q hq => .inl hq))
    rw [hz0, List.append_nil]
    exact hown
  · obtain ⟨ad, rfl, _⟩ := hr.2.2 h0
    exact wp_appRowE d hKO hgd s x t ho e ht z bytes hinfo hz hsz hs hown hnd ad c hr hx h0 h63 hbytes (fun g cap w' F' h1 h2 h3 h4 => h _ w' F' h1 h2 h3 h4)
end Knd
end Go.Proofs.YticlknijmnddeaaGreat.Mem
namespace Go.Proofs.YticlknijmnddeaaGreat.Dat
open Go Go.RowKit Go.Proofs.YticlknijmnddeaaGreat.Mem
theorem infoValI : ∃ i, Tryz.prog.info? 41 = some i ∧ i.zero = some (.agg #[.int .i64 0, .int .i64 0, .string ⟨#[]⟩]) ∧ i.size = 3 ∧ i.bytes = 32 := by
  have h := infoValue
  obtain ⟨i, hi, hz⟩ := Option.map_eq_some_iff.1 h
  simp only [Prod.mk.injEq] at hz
  exact ⟨i, hi, hz.1, hz.2.1, hz.2.2⟩
theorem valKO (w : World) (x : DValue) (cs : List Value) (h : kValue.K w x cs) : kValue.O w x cs [] := by
  obtain rfl := kValue_K.1 h
  exact kValue_Oi.2 ⟨rfl, rfl⟩
/-- slices.Grow of the nil slice. -/
theorem growNil (n : Nat) (w : World) (hn : n ≤ 4194304) : Calls Tryz.prog 276 #[.slice none 0 0, .int .i64 n] w (NewRow kValue 41 [] w) := by
  obtain ⟨i0, hi, hz0, h1, h2⟩ := infoValI
  by_cases h0 : n = 0
  · subst h0
    refine (Any8.slices_Grow_room laysGrow none 0 0 0 w (by omega) (by omega) (by omega) (by omega)).mono ?_
    rintro e w' ⟨rfl, rfl⟩
    exact ⟨_, [], rfl, Knd.Own.nil _ _ _, by simp, by simp, Below.refl _ _⟩
  · refine (Any8.slices_Grow_grow laysGrow i0 _ hi hz0 (by rw [h1]; decide) none 0 0 n [] w (by omega) (by omega) (by rw [h2]; omega) (by omega) (by simp) (fun _ => rfl) (fun a ha => by cases ha)).mono ?_
    rintro e w' ⟨rfl, rfl⟩
    have hge := grownCap_ge w (0 + n) 0 41
    have hle := grownCap_le_maxLen w (0 + n) 0 41 (by unfold maxLen; omega)
    refine ⟨_, [w.heap.size], rfl, ?_, by simp, by simp, bl_alloc (bl_drew (Below.refl _ _)) _⟩
    refine ⟨[], [], ⟨by simp, .inr ⟨w.heap.size, _, _, rfl, Nat.zero_le _, blk_new w.drew _, Nat.zero_le _, hle, ?_, by simp⟩⟩, ⟨by simp, rfl, fun j p Fj hp => by simp at hp⟩, by simp [Value.ownBlock]⟩
    rw [Array.size_append, Array.size_append, size_zeroCells, size_zeroCells]
    show 0 + (0 + n - 0) * 3 + (grownCap w (0 + n) 0 41 - (0 + n)) * 3 = grownCap w (0 + n) 0 41 * 3
    omega
theorem row_ad {α : Type} {d : Knd α} {W : World} {A : Option Addr} {n : Nat} {xs : List α} (h : d.Row W A n xs) (h0 : 0 < n) : ∃ ad, A = some ad := by
  obtain ⟨ad, e, _⟩ := h.2.2 h0
  exact ⟨ad, e⟩
set_option maxHeartbeats 8000000 in
set_option maxRecDepth 100000 in
theorem concat2 (B c : Nat) (A1 A2 : Option Addr) (c1 c2 : Nat) (xs ys : List DValue) (w : World) (q1 : w.cell? ⟨B, 0, none⟩ = some (.slice A1 xs.length c1)) (q2 : w.cell? ⟨B, 1, none⟩ = some (.slice A2 ys.length c2))
    (h1 : kValue.Row w A1 xs.length xs) (h2 : kValue.Row w A2 ys.length ys) (m1 : xs.length ≤ 1048576) (m2 : ys.length ≤ 1048576) :
    Calls Tryz.prog 240 #[.slice (some ⟨B, 0, none⟩) 2 c] w (NewRow kValue 41 (xs ++ ys) w) := by
  go_enter Tryz.func240, Tryz.ntmps240
  go_wp2
  go_loopw [3, 11] (fun v i wr => wr = w ∧ ((i = .int .i64 0 ∧ v = .int .i64 0) ∨ (i = .int .i64 1 ∧ v = .int .i64 xs.length) ∨ (i = .int .i64 2 ∧ v = .int .i64 ((xs.length + ys.length : Nat) : Int)))) (fun _ i _ => 2 - (intOf i).toNat)
  case atStart => exact ⟨rfl, .inl ⟨rfl, rfl⟩⟩
  case round =>
    obtain ⟨rfl, hrel⟩ := hrel
    rcases hrel with ⟨rfl, rfl⟩ | ⟨rfl, rfl⟩ | ⟨rfl, rfl⟩
    · go_wp2
      go_roundw
      case rel => exact ⟨trivial, .inr (.inl ⟨rfl, by go_num⟩)⟩
      case measure => simp [intOf]
    · go_wp2
      go_roundw
      case rel => exact ⟨trivial, .inr (.inr ⟨rfl, by go_num⟩)⟩
      case measure => simp [intOf]
    · go_wp2_with fail
      refine (growNil (xs.length + ys.length) _ (by omega)).mono ?_
      intro e w1 hn
      obtain ⟨v0, F, rfl, hS⟩ := (St.start wr).newRow hn
      clear hn
      have p1 := kept hS.bel q1
      have p2 := kept hS.bel q2
      go_wp2
      go_loopw [6, 27] (fun v i wx => ∃ F, ((i = .int .i64 0 ∧ St wr [Res.own kValue 41 v [] F] wx) ∨ (i = .int .i64 1 ∧ St wr [Res.own kValue 41 v xs F] wx) ∨ (i = .int .i64 2 ∧ St wr [Res.own kValue 41 v (xs ++ ys) F] wx))) (fun _ i _ => 2 - (intOf i).toNat)
      case atStart => exact ⟨F, .inl ⟨rfl, hS⟩⟩
      case round =>
        clear hS p1 p2
        obtain ⟨F, hrel⟩ := hrel
        rcases hrel with ⟨rfl, hS⟩ | ⟨rfl, hS⟩ | ⟨rfl, hS⟩
        · have p1 := kept hS.bel q1
          have p2 := kept hS.bel q2
          rcases Nat.eq_zero_or_pos xs.length with h0 | h0
          · have HZ0 := Lib.hid (List.eq_nil_of_length_eq_zero h0)
            have H0 := Lib.hid h0
            clear h0
            obtain ⟨i0, hi0, _, _, _⟩ := infoValI
            go_wp2_with (at_builtin; refine Knd.wp_app0 kValue rfl _ _ _ rfl 41 Tryz.underlying78 i0 hi0 rfl (hS.get 0 rfl) A1 xs.length c1 H0.out rfl ?_)
            go_roundw
            case rel => exact ⟨F, .inr (.inl ⟨rfl, by rw [HZ0.out]; exact hS⟩)⟩
            case measure => simp [intOf]
          · obtain ⟨ad, rfl⟩ := row_ad h1 h0
            have hr := h1.below hS.bel
            go_wp2_with (at_builtin; refine Knd.wp_appRowE kValue valKO rfl _ _ _ rfl 41 Tryz.underlying78 (.agg #[.int .i64 0, .int .i64 0, .string (⟨#[]⟩ : ByteArray)]) 32 infoValue rfl (by decide) rfl (hS.own_ 0 rfl) (hS.nodup 0 rfl) ad c1 hr rfl (by omega) (by (try simp only [List.length_nil, Nat.zero_add]); unfold maxLen; omega) (by (try simp only [List.length_nil, Nat.zero_add]); omega) ?_; rintro gq cq wq Fq hO hB hnd hFq)
            go_roundw
            case rel => exact ⟨Fq, .inr (.inl ⟨rfl, by have h9 := hS.upd (r' := Res.own kValue 41 _ _ Fq) 0 rfl hB hO hnd hFq; simpa using h9⟩)⟩
            case measure => simp [intOf]
        · have p1 := kept hS.bel q1
          have p2 := kept hS.bel q2
          rcases Nat.eq_zero_or_pos ys.length with h0 | h0
          · have HZ0 := Lib.hid (List.eq_nil_of_length_eq_zero h0)
            have H0 := Lib.hid h0
            clear h0
            obtain ⟨i0, hi0, _, _, _⟩ := infoValI
            go_wp2_with (at_builtin; refine Knd.wp_app0 kValue rfl _ _ _ rfl 41 Tryz.underlying78 i0 hi0 rfl (hS.get 0 rfl) A2 ys.length c2 H0.out rfl ?_)
            go_roundw
            case rel => exact ⟨F, .inr (.inr ⟨rfl, by rw [HZ0.out, List.append_nil]; exact hS⟩)⟩
            case measure => simp [intOf]
          · obtain ⟨ad, rfl⟩ := row_ad h2 h0
            have hr := h2.below hS.bel
            go_wp2_with (at_builtin; refine Knd.wp_appRowE kValue valKO rfl _ _ _ rfl 41 Tryz.underlying78 (.agg #[.int .i64 0, .int .i64 0, .string (⟨#[]⟩ : ByteArray)]) 32 infoValue rfl (by decide) rfl (hS.own_ 0 rfl) (hS.nodup 0 rfl) ad c2 hr rfl (by omega) (by (try simp only [List.length_nil, Nat.zero_add]); unfold maxLen; omega) (by (try simp only [List.length_nil, Nat.zero_add]); omega) ?_; rintro gq cq wq Fq hO hB hnd hFq)
            go_roundw
            case rel => exact ⟨Fq, .inr (.inr ⟨rfl, by have h9 := hS.upd (r' := Res.own kValue 41 _ _ Fq) 0 rfl hB hO hnd hFq; simpa using h9⟩)⟩
            case measure => simp [intOf]
        · go_wp2
          go_ret
          exact hS.outRow 0 rfl
end Go.Proofs.YticlknijmnddeaaGreat.Dat

/- slices.Clone; copies of modules, in the program and in the reference. -/
import Derived.Test.YticlknijmnddeaaCat
import Derived.Test.YticlknijmnddeaaK3
import Derived.Test.YticlknijmnddeaaStartX
import Derived.Test.YticlknijmnddeaaOpA
import Derived.Test.YticlknijmnddeaaRegL
import Derived.Lib.LazyBuf
namespace Go.Proofs.Yticlknijmnddeaa.Mem
open Go Go.RowKit
set_option linter.unusedVariables false
set_option linter.unusedSimpArgs false
/-- Two resources of a state, alone. -/
theorem St.pick2 {w W : World} {L : List Res} {a b : Res} (h : St w (a :: L) W) (i : Nat) (hi : L[i]? = some b) : St w [a, b] W := by
  have hp : (a :: L).Perm ([a, b] ++ L.eraseIdx i) := ((erase_perm L i b hi).symm).cons a
  have h2 := h.perm hp
  have hd := h2.dis
  rw [List.map_append, List.flatten_append] at hd
  exact ⟨h2.bel, fun q hq => h2.at_ q (List.mem_append_left _ hq), fun q hq => h2.old q (List.mem_append_left _ hq), (List.nodup_append.1 hd).1⟩
/-- An empty row, made. -/
theorem St.empty {w W : World} {L : List Res} {α : Type} (d : Knd α) (e : Nat) (h : St w L W) (g : Nat) (hg : W.heap.size = g) : St w (Res.own d e (.slice (some ⟨g, 0, none⟩) 0 0) [] [g] :: L) (W.alloc (.cells #[] e (0, 0))) := by
  subst hg
  refine h.new (r := Res.own d e (.slice (some ⟨W.heap.size, 0, none⟩) 0 0) [] [W.heap.size]) ((Below.refl _ _).alloc (Nat.le_refl _) _) ?_ (by simp [Res.own]) (by simp [Res.own])
  exact ⟨[], [], ⟨by simp, .inr ⟨W.heap.size, 0, #[], rfl, Nat.zero_le _, blk_new W _, Nat.le_refl _, by unfold maxLen; omega, by simp, by simp⟩⟩, ⟨by simp, rfl, fun j p Fj hp => by simp at hp⟩, by simp [Value.ownBlock]⟩
end Go.Proofs.Yticlknijmnddeaa.Mem
namespace Go.Proofs.Yticlknijmnddeaa.Dat
open Go Go.RowKit Go.Proofs.Yticlknijmnddeaa.Mem
set_option linter.unusedVariables false
set_option linter.unusedSimpArgs false
theorem infoStrC : (Try.prog.info? 9).map (fun i => (i.zero, i.size, i.bytes)) = some (some (.string ⟨#[]⟩), 1, 16) := by kernel_rfl
theorem insKO (w : World) (x : DIns) (cs : List Value) (h : kIns.K w x cs) : kIns.O w x cs [] := by
  obtain rfl := kIns_K.1 h
  exact kIns_Oi.2 ⟨rfl, rfl⟩
theorem strKO (w : World) (x : ByteArray) (cs : List Value) (h : Knd.str.K w x cs) : Knd.str.O w x cs [] := ⟨h, rfl⟩
theorem infoT : ∃ i, Try.prog.info? 9 = some i := by
  obtain ⟨i, hi, _⟩ := Option.map_eq_some_iff.1 infoStrC
  exact ⟨i, hi⟩
set_option maxHeartbeats 2000000 in
set_option maxRecDepth 100000 in
theorem cloneT (A : Option Addr) (c : Nat) (l : List ByteArray) (w : World) (hr : Knd.str.Row w A l.length l) (hm : l.length ≤ 1048576) : Calls Try.prog 124 #[.slice A l.length c] w (NewRow Knd.str 9 l w) := by
  have hq := fun W => _root_.Go.run_eql_slice_nil (P := Try.prog) W 23 9 A l.length c Try.underlying23
  rcases Nat.eq_zero_or_pos l.length with h0 | h0
  · have HZ := Lib.hid (List.eq_nil_of_length_eq_zero h0)
    have H0 := Lib.hid h0
    clear h0
    cases A with
    | none =>
      go_enter Try.func124, Try.ntmps124
      go_wp2
      go_ret
      rw [HZ.out]
      exact ⟨_, [], rfl, Knd.Own.nil _ _ _, by simp, by simp, Below.refl _ _⟩
    | some ad =>
      have hS := (St.start w).empty Knd.str 9 w.heap.size rfl
      obtain ⟨i0, hi0⟩ := infoT
      go_enter Try.func124, Try.ntmps124
      go_wp2_with (at_builtin; refine Knd.wp_app0 Knd.str rfl _ _ _ rfl 9 Try.underlying23 i0 hi0 rfl (hS.get 0 rfl) (some ad) l.length c H0.out rfl ?_)
      go_ret
      rw [HZ.out]
      exact hS.outRow 0 rfl
  · obtain ⟨ad, rfl⟩ := row_ad hr h0
    have hS := (St.start w).empty Knd.str 9 w.heap.size rfl
    have hr2 := hr.below hS.bel
    go_enter Try.func124, Try.ntmps124
    go_wp2_with (at_builtin; refine Knd.wp_appRowE Knd.str strKO rfl _ _ _ rfl 9 Try.underlying23 (.string (⟨#[]⟩ : ByteArray)) 16 infoStrC rfl (by decide) rfl (hS.own_ 0 rfl) (hS.nodup 0 rfl) ad c hr2 rfl (by omega) (by simp only [List.length_nil, Nat.zero_add]; unfold maxLen; omega) (by simp only [List.length_nil, Nat.zero_add]; omega) ?_; rintro gq cq wq Fq hO hB hnd hFq)
    have hS2 := hS.upd (r' := Res.own Knd.str 9 _ _ Fq) 0 rfl hB hO hnd hFq
    go_wp2
    go_ret
    have h9 := hS2.outRow 0 rfl
    simpa using h9
theorem infoC : ∃ i, Try.prog.info? 92 = some i := by
  obtain ⟨i, hi, _⟩ := Option.map_eq_some_iff.1 infoIns
  exact ⟨i, hi⟩
set_option maxHeartbeats 2000000 in
set_option maxRecDepth 100000 in
theorem cloneC (A : Option Addr) (c : Nat) (l : List DIns) (w : World) (hr : kIns.Row w A l.length l) (hm : l.length ≤ 1048576) : Calls Try.prog 125 #[.slice A l.length c] w (NewRow kIns 92 l w) := by
  have hq := fun W => _root_.Go.run_eql_slice_nil (P := Try.prog) W 87 92 A l.length c Try.underlying87
  rcases Nat.eq_zero_or_pos l.length with h0 | h0
  · have HZ := Lib.hid (List.eq_nil_of_length_eq_zero h0)
    have H0 := Lib.hid h0
    clear h0
    cases A with
    | none =>
      go_enter Try.func125, Try.ntmps125
      go_wp2
      go_ret
      rw [HZ.out]
      exact ⟨_, [], rfl, Knd.Own.nil _ _ _, by simp, by simp, Below.refl _ _⟩
    | some ad =>
      have hS := (St.start w).empty kIns 92 w.heap.size rfl
      obtain ⟨i0, hi0⟩ := infoC
      go_enter Try.func125, Try.ntmps125
      go_wp2_with (at_builtin; refine Knd.wp_app0 kIns rfl _ _ _ rfl 92 Try.underlying87 i0 hi0 rfl (hS.get 0 rfl) (some ad) l.length c H0.out rfl ?_)
      go_ret
      rw [HZ.out]
      exact hS.outRow 0 rfl
  · obtain ⟨ad, rfl⟩ := row_ad hr h0
    have hS := (St.start w).empty kIns 92 w.heap.size rfl
    have hr2 := hr.below hS.bel
    go_enter Try.func125, Try.ntmps125
    go_wp2_with (at_builtin; refine Knd.wp_appRowE kIns insKO rfl _ _ _ rfl 92 Try.underlying87 (.agg #[.int .i64 0, .int .i64 0]) 16 infoIns rfl (by decide) rfl (hS.own_ 0 rfl) (hS.nodup 0 rfl) ad c hr2 rfl (by omega) (by simp only [List.length_nil, Nat.zero_add]; unfold maxLen; omega) (by simp only [List.length_nil, Nat.zero_add]; omega) ?_; rintro gq cq wq Fq hO hB hnd hFq)
    have hS2 := hS.upd (r' := Res.own kIns 92 _ _ Fq) 0 rfl hB hO hnd hFq
    go_wp2
    go_ret
    have h9 := hS2.outRow 0 rfl
    simpa using h9
theorem take_snoc {α : Type} {l : List α} {k : Nat} {x : α} (h : l[k]? = some x) : l.take (k + 1) = l.take k ++ [x] := by
  rw [List.take_add_one, h]
  rfl
/-- A module of the call's own, handed back. -/
def NewMod (t : List ByteArray) (l : List DFunc) (w : World) (en : Ending) (w' : World) : Prop := ∃ v u F G, en = .returned (.agg #[v, u]) ∧ St w [Res.own Knd.str 9 v t F, Res.own kFunc 89 u l G] w'
set_option maxHeartbeats 8000000 in
set_option maxRecDepth 100000 in
theorem copyI (A B : Option Addr) (c d : Nat) (t : List ByteArray) (l : List DFunc) (w : World) (h : HasMod A B t l w) :
    Calls Try.prog 66 #[.agg #[.slice A t.length c, .slice B l.length d]] w (NewMod t l w) := by
  have hlm := h.hm
  have htm := h.htm
  have hv := h.hv
  have hrB := h.hr
  have hS := ((St.start w).made (.cells #[.slice A t.length c, .slice B l.length d] 26 (0, 0))).madeAt (.cells #[.slice none 0 0, .slice none 0 0] 26 (0, 0)) (w.heap.size + 1) (by simp)
  go_enter Try.func66, Try.ntmps66
  go_wp2_with fail
  refine (cloneT A c t _ (h.below hS.bel).ht htm).mono ?_
  intro e w1 hn
  obtain ⟨v1, F1, rfl, hS1⟩ := hS.newRow hn
  obtain ⟨A1, c1, rfl, hc1, _⟩ := hS1.row 0 rfl
  obtain ⟨g3, hg3⟩ : ∃ g3, w1.heap.size = g3 := ⟨_, rfl⟩
  have x1 := hS1.cell 2 rfl
  have z1 := hS1.blt 2 rfl
  rw [hg3] at z1
  have hS2 := (hS1.nil_ kFunc 89).madeAt (.cells #[.slice A1 t.length c1, .slice none 0 0] 26 (0, 0)) g3 hg3
  clear hS hn hS1
  go_wp2
  go_loopw [13] (fun i wr => ∃ (k : Nat) (v : Value) (G : List Nat), k ≤ l.length ∧ i = .int .i64 k ∧ St w [Res.box g3 (.cells #[.slice A1 t.length c1, v] 26 (0, 0)), Res.own kFunc 89 v (l.take k) G, Res.own Knd.str 9 (.slice A1 t.length c1) t F1, Res.box (w.heap.size + 1) (.cells #[.slice none 0 0, .slice none 0 0] 26 (0, 0)), Res.box w.heap.size (.cells #[.slice A t.length c, .slice B l.length d] 26 (0, 0))] wr) (fun i _ => l.length - (intOf i).toNat)
  case atStart => exact ⟨0, _, [], by omega, rfl, hS2⟩
  case round =>
    clear hS2 x1 hg3 z1
    obtain ⟨k, v, G, hk, rfl, hS⟩ := hrel
    obtain ⟨Av, cv, rfl, _, _⟩ := hS.row 1 rfl
    by_cases hlt : k < l.length
    · obtain ⟨x, hx⟩ := get_exU l k hlt
      obtain ⟨ad, A2, c2, rfl, q0, q1, q2, hl2, hr2⟩ := kFunc_at (hrB.below hS.bel) k x hx
      have hxc := (hv x (List.mem_of_getElem? hx)).1
      have HT := Lib.hid (take_snoc hx)
      have hlk : (l.take k).length = k := by rw [List.length_take]; omega
      rw [hlk] at hS
      have hT := hS.made (.cells #[.int .i64 x.params, .int .i64 x.locals, .slice A2 x.code.length c2] 89 (0, 0))
      have hne : g3 ≠ wr.heap.size := by have := hS.blt 0 rfl; omega
      clear hx
      go_wp2_with fail
      refine (cloneC A2 c2 x.code _ (hr2.below (bl_alloc (Below.refl _ _) _)) hxc).mono ?_
      intro e w5 hn
      obtain ⟨v5, F5, rfl, hS5⟩ := hT.newRow hn
      obtain ⟨A5, c5, rfl, _, _⟩ := hS5.row 0 rfl
      obtain ⟨g5, hg5⟩ : ∃ g5, wr.heap.size = g5 := ⟨_, rfl⟩
      rw [hg5] at hS5 hne ⊢
      have x5 := hS5.cell 1 rfl
      have f5 := hS5.free 1 rfl
      have x3 := hS5.cell 2 rfl
      have f3 := hS5.free 2 rfl
      have hS6 := hS5.set 1 rfl 2 (.slice A5 x.code.length c5)
      clear hS hT hn hS5 q0 q1 q2 hg5
      have hS7 := hS6.front 3 rfl
      clear hS6
      have HLK := Lib.hid hlk
      go_wp2_with (at_builtin; refine Knd.wp_appE kFunc rfl _ _ _ rfl 89 Try.underlying24 (.agg #[.int .i64 0, .int .i64 0, .slice none 0 0]) 40 infoFunc rfl (by decide) rfl ((hS7.al _).own_ 0 rfl) _ _ _ _ ⟨x.params, x.locals, x.code⟩ (blkAt _ _ (by simp)) rfl (kFunc_Oi.2 ⟨_, F5, rfl, rfl, (hS7.al _).own_ 1 rfl⟩) (hS7.nodup2) (by (try rw [HLK.out]); unfold maxLen; omega) (by (try rw [HLK.out]); omega) ?_; rintro gq cq wq Fq hO hB hnd hF; have hS8 := (hS7.al _).upd2 (r' := Res.own kFunc 89 _ _ Fq) hB hO hnd hF; clear hO hB hF hnd hS7 x3 f3; have x3 := hS8.cell 2 rfl; have f3 := hS8.free 2 rfl)
      go_roundw
      case rel => exact ⟨k + 1, _, Fq, by omega, by go_num, by rw [HT.out]; have h9 := ((((hS8.set 2 rfl 1 (.slice (some ⟨gq, 0, none⟩) ((l.take k).length + 1) cq)).front 1 rfl).drop).front 1 rfl); rw [HLK.out] at h9; exact h9⟩
      case measure => simp [intOf]; omega
    · obtain rfl : k = l.length := by omega
      rw [List.take_length] at hS
      have x3 := hS.cell 0 rfl
      have x0 := hS.cell 3 rfl
      have f0 := hS.free 3 rfl
      go_wp2
      have hS2 := (hS.set 3 rfl 0 (.slice A1 t.length c1)).set 3 rfl 1 (.slice Av (l.take l.length).length cv)
      rw [List.take_length] at hS2
      have y0 := hS2.cell 3 rfl 0
      have y1 := hS2.cell 3 rfl 1
      refine bodyPost_ret (v := .agg #[.slice A1 t.length c1, .slice Av l.length cv]) (by simp [results, Try.results66, go_sem, *]) rfl ?_
      exact ⟨_, _, _, _, rfl, (hS2.front 2 rfl).pick2 1 rfl⟩
set_option maxHeartbeats 8000000 in
set_option maxRecDepth 100000 in
theorem copy03 (A B : Option Addr) (c d : Nat) (t : List ByteArray) (l : List DFunc) (w : World) (h : HasMod A B t l w) :
    Calls Try.prog 60 #[.agg #[.slice A t.length c, .slice B l.length d]] w (NewMod t l w) := by
  have hlm := h.hm
  have htm := h.htm
  have hv := h.hv
  have hrB := h.hr
  have hS := (((St.start w).made (.cells #[.slice A t.length c, .slice B l.length d] 26 (0, 0))).madeAt (.cells #[.slice none 0 0, .slice none 0 0] 26 (0, 0)) (w.heap.size + 1) (by simp)).empty Knd.str 9 (w.heap.size + 1 + 1) (by simp)
  have hrT := h.ht.below hS.bel
  go_enter Try.func60, Try.ntmps60
  go_wp2_with (at_builtin; refine Knd.wp_appAny Knd.str strKO rfl _ _ _ rfl 9 Try.underlying23 (.string (⟨#[]⟩ : ByteArray)) 16 infoStrC rfl (by decide) rfl (hS.own_ 0 rfl) (hS.nodup 0 rfl) A c hrT rfl (by simp only [List.length_nil, Nat.zero_add]; unfold maxLen; omega) (by simp only [List.length_nil, Nat.zero_add]; omega) ?_; rintro vq w1 F1 hO hB hnd hFq; have hS1 := hS.upd (r' := Res.own Knd.str 9 _ _ F1) 0 rfl hB hO hnd hFq; obtain ⟨A1, c1, rfl, hc1, _⟩ := hS1.row 0 rfl; rw [List.nil_append] at hS1 hc1 ⊢; clear hO hB hnd hFq hS; have hz1 := hS1.blt 1 rfl; have hz2 := hS1.blt 2 rfl; obtain ⟨g3, hg3⟩ : ∃ g3, w1.heap.size = g3 := ⟨_, rfl⟩)
  have x1 := hS1.cell 2 rfl
  rw [hg3] at hz1 hz2
  have hS2 := (hS1.nil_ kFunc 89).madeAt (.cells #[.slice A1 t.length c1, .slice none 0 0] 26 (0, 0)) g3 hg3
  clear hS1 hrT
  go_loopw [4] (fun i wr => ∃ (k : Nat) (v : Value) (G : List Nat), k ≤ l.length ∧ i = .int .i64 k ∧ St w [Res.box g3 (.cells #[.slice A1 t.length c1, v] 26 (0, 0)), Res.own kFunc 89 v (l.take k) G, Res.own Knd.str 9 (.slice A1 t.length c1) t F1, Res.box (w.heap.size + 1) (.cells #[.slice none 0 0, .slice none 0 0] 26 (0, 0)), Res.box w.heap.size (.cells #[.slice A t.length c, .slice B l.length d] 26 (0, 0))] wr) (fun i _ => l.length - (intOf i).toNat)
  case atStart => exact ⟨0, _, [], by omega, rfl, hS2⟩
  case round =>
    clear hS2 x1 hg3 hz1 hz2
    obtain ⟨k, v, G, hk, rfl, hS⟩ := hrel
    obtain ⟨Av, cv, rfl, _, _⟩ := hS.row 1 rfl
    have x9 := hS.cell 4 rfl
    by_cases hlt : k < l.length
    · obtain ⟨x, hx⟩ := get_exU l k hlt
      obtain ⟨ad, A2, c2, rfl, q0, q1, q2, hl2, hr2⟩ := kFunc_at (hrB.below hS.bel) k x hx
      have hxc := (hv x (List.mem_of_getElem? hx)).1
      have HT := Lib.hid (take_snoc hx)
      have hlk : (l.take k).length = k := by rw [List.length_take]; omega
      rw [hlk] at hS
      obtain ⟨g5, hg5⟩ : ∃ g5, wr.heap.size = g5 := ⟨_, rfl⟩
      have hT := (hS.madeAt (.cells #[.int .i64 x.params, .int .i64 x.locals, .slice A2 x.code.length c2] 89 (0, 0)) g5 hg5).drew
      have hne : g3 ≠ g5 := by have := hS.blt 0 rfl; omega
      have HLK := Lib.hid hlk
      clear hx hlk
      have HR2 : kIns.Row (wr.alloc (.cells #[.int .i64 x.params, .int .i64 x.locals, .slice A2 x.code.length c2] 89 (0, 0))).drew A2 x.code.length x.code := hr2.below (bl_drew (bl_alloc (Below.refl _ _) _))
      go_wp2
      refine regStartL (S := (fun w' => w'.cell? ⟨g3, 1, none⟩ = some (.slice Av k cv) ∧ w'.cell? ⟨g5, 0, none⟩ = some (.int .i64 x.params) ∧ w'.cell? ⟨g5, 1, none⟩ = some (.int .i64 x.locals) ∧ w'.cell? ⟨g5, 2, none⟩ = some (.slice A2 x.code.length c2))) [14] (by kernel_rfl) (⟨hT.cell 1 rfl 1, hT.cell 0 rfl 0, hT.cell 0 rfl 1, hT.cell 0 rfl 2⟩) (fun hHeld => ?_)
      simp only [List.length_cons, List.length_nil]
      first | (refine regWL 0 (v := ?_) rfl (by rfl) (by kernel_rfl) (fun _ _ _ h => h) ?_ (by assumption) ?_; rotate_left; focus (intro w9 hSw; (try dsimp only at hSw); go_simp; (try with_reducible rfl); done)) | refine regUL 0 rfl (by rfl) (by kernel_rfl) (fun _ _ _ h => h) (by assumption) ?_ | refine regNL 0 rfl (by rfl) (by kernel_rfl) (by decide) (by assumption) ?_
      try simp only [Act.put, List.setIfInBounds_toArray, List.set_cons_zero, List.set_cons_succ]
      first | (refine regWL 1 (v := ?_) rfl (by rfl) (by kernel_rfl) (fun _ _ _ h => h) ?_ (by assumption) ?_; rotate_left; focus (intro w9 hSw; (try dsimp only at hSw); go_simp; (try with_reducible rfl); done)) | refine regUL 1 rfl (by rfl) (by kernel_rfl) (fun _ _ _ h => h) (by assumption) ?_ | refine regNL 1 rfl (by rfl) (by kernel_rfl) (by decide) (by assumption) ?_
      try simp only [Act.put, List.setIfInBounds_toArray, List.set_cons_zero, List.set_cons_succ]
      first | (refine regWL 2 (v := ?_) rfl (by rfl) (by kernel_rfl) (fun _ _ _ h => h) ?_ (by assumption) ?_; rotate_left; focus (intro w9 hSw; (try dsimp only at hSw); go_simp; (try with_reducible rfl); done)) | refine regUL 2 rfl (by rfl) (by kernel_rfl) (fun _ _ _ h => h) (by assumption) ?_ | refine regNL 2 rfl (by rfl) (by kernel_rfl) (by decide) (by assumption) ?_
      try simp only [Act.put, List.setIfInBounds_toArray, List.set_cons_zero, List.set_cons_succ]
      first | (refine regWL 3 (v := ?_) rfl (by rfl) (by kernel_rfl) (fun _ _ _ h => h) ?_ (by assumption) ?_; rotate_left; focus (intro w9 hSw; (try dsimp only at hSw); go_simp; (try with_reducible rfl); done)) | refine regUL 3 rfl (by rfl) (by kernel_rfl) (fun _ _ _ h => h) (by assumption) ?_ | refine regNL 3 rfl (by rfl) (by kernel_rfl) (by decide) (by assumption) ?_
      try simp only [Act.put, List.setIfInBounds_toArray, List.set_cons_zero, List.set_cons_succ]
      first | (refine regWL 4 (v := ?_) rfl (by rfl) (by kernel_rfl) (fun _ _ _ h => h) ?_ (by assumption) ?_; rotate_left; focus (intro w9 hSw; (try dsimp only at hSw); go_simp; (try with_reducible rfl); done)) | refine regUL 4 rfl (by rfl) (by kernel_rfl) (fun _ _ _ h => h) (by assumption) ?_ | refine regNL 4 rfl (by rfl) (by kernel_rfl) (by decide) (by assumption) ?_
      try simp only [Act.put, List.setIfInBounds_toArray, List.set_cons_zero, List.set_cons_succ]
      first | (refine regWL 5 (v := ?_) rfl (by rfl) (by kernel_rfl) (fun _ _ _ h => h) ?_ (by assumption) ?_; rotate_left; focus (intro w9 hSw; (try dsimp only at hSw); go_simp; (try with_reducible rfl); done)) | refine regUL 5 rfl (by rfl) (by kernel_rfl) (fun _ _ _ h => h) (by assumption) ?_ | refine regNL 5 rfl (by rfl) (by kernel_rfl) (by decide) (by assumption) ?_
      try simp only [Act.put, List.setIfInBounds_toArray, List.set_cons_zero, List.set_cons_succ]
      first | (refine regWL 7 (v := ?_) rfl (by rfl) (by kernel_rfl) (fun _ _ _ h => h) ?_ (by assumption) ?_; rotate_left; focus (intro w9 hSw; (try dsimp only at hSw); go_simp; (try with_reducible rfl); done)) | refine regUL 7 rfl (by rfl) (by kernel_rfl) (fun _ _ _ h => h) (by assumption) ?_ | refine regNL 7 rfl (by rfl) (by kernel_rfl) (by decide) (by assumption) ?_
      try simp only [Act.put, List.setIfInBounds_toArray, List.set_cons_zero, List.set_cons_succ]
      first | (refine regWL 8 (v := ?_) rfl (by rfl) (by kernel_rfl) (fun _ _ _ h => h) ?_ (by assumption) ?_; rotate_left; focus (intro w9 hSw; (try dsimp only at hSw); go_simp; (try with_reducible rfl); done)) | refine regUL 8 rfl (by rfl) (by kernel_rfl) (fun _ _ _ h => h) (by assumption) ?_ | refine regNL 8 rfl (by rfl) (by kernel_rfl) (by decide) (by assumption) ?_
      try simp only [Act.put, List.setIfInBounds_toArray, List.set_cons_zero, List.set_cons_succ]
      have hE := hT.empty kIns 92 (g5 + 1) (by simp; omega)
      refine regCL 6 rfl (by kernel_rfl) (by decide) (by rfl) (fun Kq hKq => ?_)
      go_simp
      refine hKq.out _ _ (⟨hE.cell 2 rfl 1, hE.cell 1 rfl 0, hE.cell 1 rfl 1, hE.cell 1 rfl 2⟩) (fun hHeld => ?_)
      clear hKq Kq
      (try simp only [Act.put, List.setIfInBounds_toArray, List.set_cons_zero, List.set_cons_succ])
      refine regCL 9 rfl (by kernel_rfl) (by decide) (by rfl) (fun Kq hKq => ?_)
      refine Knd.op_appAny kIns insKO _ _ _ rfl 92 Try.underlying87 (.agg #[.int .i64 0, .int .i64 0]) 16 infoIns rfl (by decide) rfl (hE.own_ 0 rfl) (hE.nodup 0 rfl) A2 c2 (HR2.below (bl_alloc (Below.refl _ _) _)) rfl (by simp only [List.length_nil, Nat.zero_add]; unfold maxLen; omega) (by simp only [List.length_nil, Nat.zero_add]; omega) ?_
      rintro v5 w5 F5 hO hB hnd hFq
      have hS6 := hE.upd (r' := Res.own kIns 92 _ _ F5) 0 rfl hB hO hnd hFq
      obtain ⟨A5, c5, rfl, _, _⟩ := hS6.row 0 rfl
      clear hO hB hnd hFq hE hT
      refine hKq.out _ _ ⟨hS6.cell 2 rfl 1, hS6.cell 1 rfl 0, hS6.cell 1 rfl 1, hS6.cell 1 rfl 2⟩ (fun hHeld => ?_)
      clear hKq Kq
      try simp only [Act.put, List.setIfInBounds_toArray, List.set_cons_zero, List.set_cons_succ]
      first | (refine regWL 10 (v := ?_) rfl (by rfl) (by kernel_rfl) (fun _ _ _ h => h) ?_ (by assumption) ?_; rotate_left; focus (intro w9 hSw; (try dsimp only at hSw); go_simp; (try with_reducible rfl); done)) | refine regUL 10 rfl (by rfl) (by kernel_rfl) (fun _ _ _ h => h) (by assumption) ?_ | refine regNL 10 rfl (by rfl) (by kernel_rfl) (by decide) (by assumption) ?_
      try simp only [Act.put, List.setIfInBounds_toArray, List.set_cons_zero, List.set_cons_succ]
      refine regCL 11 rfl (by kernel_rfl) (by decide) (by rfl) (fun Kq hKq => ?_)
      go_simp
      refine hKq.out _ _ (⟨(hS6.al _).cell 2 rfl 1, (hS6.al _).cell 1 rfl 0, (hS6.al _).cell 1 rfl 1, (hS6.al _).cell 1 rfl 2⟩) (fun hHeld => ?_)
      clear hKq Kq
      (try simp only [Act.put, List.setIfInBounds_toArray, List.set_cons_zero, List.set_cons_succ])
      have hS7 := hS6.front 3 rfl
      refine regCL 12 rfl (by kernel_rfl) (by decide) (by rfl) (fun Kq hKq => ?_)
      refine Knd.op_appE kFunc _ _ _ rfl 89 Try.underlying24 (.agg #[.int .i64 0, .int .i64 0, .slice none 0 0]) 40 infoFunc rfl (by decide) rfl ((hS7.al _).own_ 0 rfl) _ _ _ _ ⟨x.params, x.locals, x.code⟩ (blkAt _ _ (by simp)) rfl (kFunc_Oi.2 ⟨_, F5, rfl, rfl, (hS7.al _).own_ 1 rfl⟩) (hS7.nodup2) (by (try rw [HLK.out]); unfold maxLen; omega) (by (try rw [HLK.out]); omega) ?_
      rintro gq cq wq Fq hO hB hnd hF
      have hS8 := (hS7.al _).upd2 (r' := Res.own kFunc 89 _ _ Fq) hB hO hnd hF
      clear hO hB hF hnd hS7 hS6
      refine hKq.out _ _ ⟨hS8.cell 2 rfl 1, hS8.cell 1 rfl 0, hS8.cell 1 rfl 1, hS8.cell 1 rfl 2⟩ (fun hHeld => ?_)
      clear hKq Kq
      try simp only [Act.put, List.setIfInBounds_toArray, List.set_cons_zero, List.set_cons_succ]
      first | (refine regWL 13 (v := ?_) rfl (by rfl) (by kernel_rfl) (fun _ _ _ h => h) ?_ (by assumption) ?_; rotate_left; focus (intro w9 hSw; (try dsimp only at hSw); go_simp; (try with_reducible rfl); done)) | refine regUL 13 rfl (by rfl) (by kernel_rfl) (fun _ _ _ h => h) (by assumption) ?_ | refine regNL 13 rfl (by rfl) (by kernel_rfl) (by decide) (by assumption) ?_
      try simp only [Act.put, List.setIfInBounds_toArray, List.set_cons_zero, List.set_cons_succ]
      have x3 := hS8.cell 2 rfl
      have f3 := hS8.free 2 rfl
      refine regLL 14 rfl (by kernel_rfl) (by decide) (by rfl) (fun Kq hKq => ?_)
      go_simp
      refine hKq.out _ _ ?_
      clear hKq Kq
      (try simp only [Act.put, List.setIfInBounds_toArray, List.set_cons_zero, List.set_cons_succ])
      refine regDoneL (by kernel_rfl) ?_
      clear hHeld x3 f3
      go_wp2
      go_roundw
      case rel => exact ⟨k + 1, _, Fq, by omega, by go_num, by rw [HT.out]; have h9 := ((((hS8.set 2 rfl 1 (.slice (some ⟨gq, 0, none⟩) ((l.take k).length + 1) cq)).front 1 rfl).drop).front 1 rfl); rw [HLK.out] at h9; exact h9⟩
      case measure => simp [intOf]; omega
    · obtain rfl : k = l.length := by omega
      rw [List.take_length] at hS
      have x3 := hS.cell 0 rfl
      have x0 := hS.cell 3 rfl
      have f0 := hS.free 3 rfl
      go_wp2
      have hS2 := (hS.set 3 rfl 0 (.slice A1 t.length c1)).set 3 rfl 1 (.slice Av (l.take l.length).length cv)
      rw [List.take_length] at hS2
      have y0 := hS2.cell 3 rfl 0
      have y1 := hS2.cell 3 rfl 1
      refine bodyPost_ret (v := .agg #[.slice A1 t.length c1, .slice Av l.length cv]) (by simp [results, Try.results60, go_sem, *]) rfl ?_
      exact ⟨_, _, _, _, rfl, (hS2.front 2 rfl).pick2 1 rfl⟩
end Go.Proofs.Yticlknijmnddeaa.Dat
